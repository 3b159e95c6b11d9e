/- Orders of laying: sets of slabs by their bits, and how many ways there are. No statement is proved here. -/
import Derived.Test.YtmjijggkdbiijaaVe
namespace Go.Proofs.Ytmjijggkdbiijaa
open Go.RowKit
set_option linter.unusedVariables false
set_option linter.unusedSimpArgs false
/-- The bits set in m below n. -/
def bitsL (n m : Nat) : List Nat := (List.range n).filter fun j => m.testBit j
theorem bits_le (n m : Nat) : (bitsL n m).length ≤ n := by
  have := List.length_filter_le (fun j => m.testBit j) (List.range n)
  simpa [bitsL] using this
theorem or_bit (m i j : Nat) : (m ||| 2 ^ i).testBit j = (m.testBit j || decide (i = j)) := by
  rw [Nat.testBit_or, Nat.testBit_two_pow]
theorem or_lt {n m i : Nat} (hm : m < 2 ^ n) (hi : i < n) : m ||| 2 ^ i < 2 ^ n := Nat.or_lt_two_pow hm (Nat.pow_lt_pow_right (by omega) hi)
theorem or_gt {m i : Nat} (h : m.testBit i = false) : m < m ||| 2 ^ i := by
  have h1 : m ≤ m ||| 2 ^ i := Nat.left_le_or
  rcases Nat.lt_or_ge m (m ||| 2 ^ i) with h2 | h2
  · exact h2
  · have : (m ||| 2 ^ i).testBit i = true := by rw [or_bit]; simp
    rw [← Nat.le_antisymm h1 h2, h] at this; cases this
theorem bits_or : ∀ (n m i : Nat), i < n → m.testBit i = false → (bitsL n (m ||| 2 ^ i)).Perm (i :: bitsL n m)
  | 0, _, _, h, _ => by omega
  | n + 1, m, i, h, hb => by
    have e : ∀ x, bitsL (n + 1) x = bitsL n x ++ if x.testBit n then [n] else [] := fun x => by
      simp only [bitsL, List.range_succ, List.filter_append]
      congr 1
      cases hx : x.testBit n <;> simp [hx]
    rw [e, e]
    by_cases hi : i = n
    · subst hi
      have h1 : bitsL i (m ||| 2 ^ i) = bitsL i m := by
        unfold bitsL
        refine List.filter_congr fun j hj => ?_
        have := List.mem_range.1 hj
        rw [or_bit, decide_eq_false (by omega : ¬ i = j), Bool.or_false]
      rw [h1, or_bit, hb]
      simp
    · have h2 : (m ||| 2 ^ i).testBit n = m.testBit n := by rw [or_bit, decide_eq_false hi, Bool.or_false]
      rw [h2]
      exact (bits_or n m i (by omega) hb).append_right _
theorem bits_full {n m : Nat} (hm : m < 2 ^ n) (hf : m ≠ 2 ^ n - 1) : ∃ i, i < n ∧ m.testBit i = false := by
  refine Classical.byContradiction fun h => hf ?_
  refine Nat.eq_of_testBit_eq fun i => ?_
  rw [Nat.testBit_two_pow_sub_one]
  by_cases hi : i < n
  · rw [decide_eq_true hi]
    cases hb : m.testBit i with
    | true => rfl
    | false => exact (h ⟨i, hi, hb⟩).elim
  · rw [decide_eq_false hi]
    exact Nat.testBit_lt_two_pow (Nat.lt_of_lt_of_le hm (Nat.pow_le_pow_right (by omega) (by omega)))
/-- The sum of f over the numbers below i. -/
def sumB (f : Nat → Int) : Nat → Int
  | 0 => 0
  | i + 1 => sumB f i + f i
theorem sumB_nonneg {f : Nat → Int} : ∀ i, (∀ j, j < i → 0 ≤ f j) → 0 ≤ sumB f i
  | 0, _ => Int.le_refl _
  | i + 1, h => by have := sumB_nonneg i fun j hj => h j (by omega); have := h i (by omega); unfold sumB; omega
theorem sumB_le {f : Nat → Int} {c : Int} : ∀ i : Nat, (∀ j, j < i → f j ≤ c) → sumB f i ≤ i * c
  | 0, _ => by simp [sumB]
  | i + 1, h => by
    have := sumB_le i fun j hj => h j (by omega)
    have := h i (by omega)
    unfold sumB
    rw [Int.natCast_add, Int.add_mul]; omega
theorem sumB_congr {f g : Nat → Int} : ∀ i, (∀ j, j < i → f j = g j) → sumB f i = sumB g i
  | 0, _ => rfl
  | i + 1, h => by unfold sumB; rw [sumB_congr i fun j hj => h j (by omega), h i (by omega)]
/-- The ways to go on from m: A says which bit may be set next. -/
def oWaysN (n : Nat) (A : Nat → Nat → Bool) : Nat → Nat → Int
  | 0, _ => 0
  | f + 1, m => if m = 2 ^ n - 1 then 1 else sumB (fun i => if m.testBit i = false ∧ A m i = true then oWaysN n A f (m ||| 2 ^ i) else 0) n
theorem ways_fuel (n : Nat) (A : Nat → Nat → Bool) : ∀ f f' m, m < 2 ^ n → 2 ^ n - m ≤ f → 2 ^ n - m ≤ f' → oWaysN n A f m = oWaysN n A f' m
  | 0, _, m, h, h1, _ => by omega
  | f + 1, 0, m, h, _, h2 => by omega
  | f + 1, f' + 1, m, h, h1, h2 => by
    unfold oWaysN
    split
    · rfl
    · refine sumB_congr n fun i hi => ?_
      split
      · rename_i q
        have := or_gt q.1
        exact ways_fuel n A f f' _ (or_lt h hi) (by omega) (by omega)
      · rfl
def oWays (n : Nat) (A : Nat → Nat → Bool) (m : Nat) : Int := oWaysN n A (2 ^ n - m) m
def oWayT (n : Nat) (A : Nat → Nat → Bool) (m i : Nat) : Int := if m.testBit i = false ∧ A m i = true then oWays n A (m ||| 2 ^ i) else 0
theorem ways_eq {n : Nat} {A : Nat → Nat → Bool} {m : Nat} (h : m < 2 ^ n) : oWays n A m = if m = 2 ^ n - 1 then 1 else sumB (oWayT n A m) n := by
  unfold oWays
  rw [show 2 ^ n - m = (2 ^ n - m - 1) + 1 by omega, oWaysN]
  split
  · rfl
  · refine sumB_congr n fun i hi => ?_
    unfold oWayT
    split
    · rename_i q
      have := or_gt q.1
      exact ways_fuel n A _ _ _ (or_lt h hi) (by omega) (by omega)
    · rfl
theorem ways_nonneg (n : Nat) (A : Nat → Nat → Bool) : ∀ d m, m < 2 ^ n → 2 ^ n - m ≤ d → 0 ≤ oWays n A m
  | 0, m, h, hd => by omega
  | d + 1, m, h, hd => by
    rw [ways_eq h]
    split
    · omega
    · refine sumB_nonneg n fun i hi => ?_
      unfold oWayT
      split
      · rename_i q
        have := or_gt q.1
        exact ways_nonneg n A d _ (or_lt h hi) (by omega)
      · omega
theorem ways_0 {n : Nat} {A : Nat → Nat → Bool} {m : Nat} (h : m < 2 ^ n) : 0 ≤ oWays n A m := ways_nonneg n A _ m h (Nat.le_refl _)
theorem wayT_0 {n : Nat} {A : Nat → Nat → Bool} {m i : Nat} (h : m < 2 ^ n) (hi : i < n) : 0 ≤ oWayT n A m i := by
  unfold oWayT; split
  · exact ways_0 (or_lt h hi)
  · omega
theorem ways_up (n : Nat) (hn : n ≤ 10) (A : Nat → Nat → Bool) : ∀ d m, m < 2 ^ n → 2 ^ n - m ≤ d → oWays n A m ≤ 10 ^ (n - (bitsL n m).length)
  | 0, m, h, hd => by omega
  | d + 1, m, h, hd => by
    rw [ways_eq h]
    split
    · have : (0 : Int) < 10 ^ (n - (bitsL n m).length) := Int.pow_pos (by omega)
      omega
    · rename_i hf
      obtain ⟨i0, hi0, hb0⟩ := bits_full h hf
      have hlen : ∀ i, i < n → m.testBit i = false → (bitsL n (m ||| 2 ^ i)).length = (bitsL n m).length + 1 := fun i hi hb => by
        rw [(bits_or n m i hi hb).length_eq]; rfl
      have h1 := hlen i0 hi0 hb0
      have h2 := bits_le n (m ||| 2 ^ i0)
      have := sumB_le (f := oWayT n A m) (c := 10 ^ (n - (bitsL n m).length - 1)) n fun i hi => by
        unfold oWayT
        split
        · rename_i q
          have := or_gt q.1
          have h3 := ways_up n hn A d _ (or_lt h hi) (by omega)
          rw [hlen i hi q.1] at h3
          rwa [show n - ((bitsL n m).length + 1) = n - (bitsL n m).length - 1 by omega] at h3
        · exact Int.le_of_lt (Int.pow_pos (by omega))
      rw [show n - (bitsL n m).length = (n - (bitsL n m).length - 1) + 1 by omega, Int.pow_succ]
      have hp : (0 : Int) < 10 ^ (n - (bitsL n m).length - 1) := Int.pow_pos (by omega)
      have : (n : Int) * 10 ^ (n - (bitsL n m).length - 1) ≤ 10 * 10 ^ (n - (bitsL n m).length - 1) := Int.mul_le_mul_of_nonneg_right (by omega) (Int.le_of_lt hp)
      have e : (n : Nat) - (bitsL n m).length - 1 + 1 - 1 = n - (bitsL n m).length - 1 := by omega
      omega
theorem pow10 {k : Nat} (h : k ≤ 10) : (10 : Int) ^ k ≤ 10000000000 := by
  match k, h with
  | 0, _ | 1, _ | 2, _ | 3, _ | 4, _ | 5, _ | 6, _ | 7, _ | 8, _ | 9, _ | 10, _ => decide
theorem ways_big {n : Nat} (hn : n ≤ 10) {A : Nat → Nat → Bool} {m : Nat} (h : m < 2 ^ n) : oWays n A m ≤ 10000000000 := by
  have h1 := ways_up n hn A _ m h (Nat.le_refl _)
  have h2 := pow10 (k := n - (bitsL n m).length) (by omega)
  omega
theorem wayT_big {n : Nat} (hn : n ≤ 10) {A : Nat → Nat → Bool} {m i : Nat} (h : m < 2 ^ n) (hi : i < n) : oWayT n A m i ≤ 10000000000 := by
  unfold oWayT; split
  · exact ways_big hn (or_lt h hi)
  · omega
theorem sumB_term {f : Nat → Int} (n : Nat) (hf : ∀ j, j < n → 0 ≤ f j) {i : Nat} (hi : i < n) : f i ≤ sumB f n := by
  induction n with
  | zero => omega
  | succ n ih =>
    have h0 := sumB_nonneg (f := f) n fun j hj => hf j (by omega)
    have h1 := hf n (by omega)
    unfold sumB
    by_cases e : i = n
    · subst e; omega
    · have := ih (fun j hj => hf j (by omega)) (by omega); omega
/-- What is still to come: the sum of out[s] times W s, for s from t. -/
def rest (W : Nat → Int) (out : List Int) (t : Nat) : Nat → Int
  | 0 => 0
  | k + 1 => rest W out t k + out.getD (t + k) 0 * W (t + k)
end Go.Proofs.Ytmjijggkdbiijaa
