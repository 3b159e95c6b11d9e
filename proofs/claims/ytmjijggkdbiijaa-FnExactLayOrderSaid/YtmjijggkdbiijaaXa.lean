/- Orders of laying: the first one, as plain lists. No statement is proved here. -/
import Derived.Test.YtmjijggkdbiijaaWl
namespace Go.Proofs.Ytmjijggkdbiijaa
open Go.RowKit
set_option linter.unusedVariables false
set_option linter.unusedSimpArgs false
theorem bits_len_full (n : Nat) : (bitsL n (2 ^ n - 1)).length = n := by
  have h : bitsL n (2 ^ n - 1) = List.range n := by
    unfold bitsL
    refine List.filter_eq_self.2 fun a ha => ?_
    rw [Nat.testBit_two_pow_sub_one]
    exact decide_eq_true (List.mem_range.1 ha)
  rw [h, List.length_range]
theorem bits_len_lt {n m : Nat} (hm : m < 2 ^ n) (hf : m ≠ 2 ^ n - 1) : (bitsL n m).length < n := by
  obtain ⟨i, hi, hb⟩ := bits_full hm hf
  have h1 := (bits_or n m i hi hb).length_eq
  have h2 := bits_le n (m ||| 2 ^ i)
  simp only [List.length_cons] at h1
  omega
theorem bits_len_or {n m i : Nat} (hi : i < n) (hb : m.testBit i = false) : (bitsL n (m ||| 2 ^ i)).length = (bitsL n m).length + 1 := by
  rw [(bits_or n m i hi hb).length_eq]; rfl
theorem bits_len_0 (n : Nat) : (bitsL n 0).length = 0 := by simp [bitsL]
theorem sumB_pos {f : Nat → Int} : ∀ n, 0 < sumB f n → ∃ i, i < n ∧ 0 < f i
  | 0, h => by simp [sumB] at h
  | n + 1, h => by
    unfold sumB at h
    by_cases e : 0 < f n
    · exact ⟨n, by omega, e⟩
    · obtain ⟨i, h1, h2⟩ := sumB_pos n (f := f) (by omega)
      exact ⟨i, by omega, h2⟩
/-- Can slab i be laid next, so that all of them can? -/
def goB (q : Sq) (list : List Sl) (m i : Nat) : Bool := !m.testBit i && (mayB q list m i && decide (0 < nWays q list (m ||| 2 ^ i)))
theorem goB_iff {q : Sq} {list : List Sl} {m i : Nat} : goB q list m i = true ↔ m.testBit i = false ∧ mayB q list m i = true ∧ 0 < nWays q list (m ||| 2 ^ i) := by simp [goB]
theorem goB_way {q : Sq} {list : List Sl} {m i : Nat} (hm : m < 2 ^ list.length) : 0 < nWay q list m i ↔ goB q list m i = true := by
  rw [goB_iff]
  unfold nWay oWayT
  by_cases h : m.testBit i = false ∧ mayB q list m i = true
  · rw [if_pos h]; exact ⟨fun k => ⟨h.1, h.2, k⟩, fun k => k.2.2⟩
  · rw [if_neg h]
    exact ⟨fun k => by omega, fun k => absurd ⟨k.1, k.2.1⟩ h⟩
theorem nWays_full (q : Sq) (list : List Sl) : nWays q list (2 ^ list.length - 1) = 1 := by
  unfold nWays
  have : 0 < 2 ^ list.length := Nat.pow_pos (by omega)
  rw [ways_eq (by omega), if_pos rfl]
theorem nWays_pos {q : Sq} {list : List Sl} {m : Nat} (hm : m < 2 ^ list.length) (hf : m ≠ 2 ^ list.length - 1) : 0 < nWays q list m ↔ ∃ i, i < list.length ∧ goB q list m i = true := by
  unfold nWays
  rw [ways_eq hm, if_neg hf]
  constructor
  · intro h
    obtain ⟨i, h1, h2⟩ := sumB_pos _ h
    exact ⟨i, h1, (goB_way hm).1 h2⟩
  · rintro ⟨i, h1, h2⟩
    have := (goB_way hm).2 h2
    have h3 := sumB_term (f := oWayT list.length (mayB q list) m) list.length (fun j hj => wayT_0 hm hj) h1
    unfold nWay at this
    omega
theorem nWays_none {q : Sq} {list : List Sl} {m : Nat} (hm : m < 2 ^ list.length) (hf : m ≠ 2 ^ list.length - 1) (h : ∀ j, j < list.length → goB q list m j = false) : ¬ 0 < nWays q list m := by
  rw [nWays_pos hm hf]
  rintro ⟨i, h1, h2⟩
  rw [h i h1] at h2; cases h2
theorem nWays_0 {q : Sq} {list : List Sl} {m : Nat} (hm : m < 2 ^ list.length) : 0 ≤ nWays q list m := ways_0 hm
/-- The first order from m on. -/
def ordN (q : Sq) (list : List Sl) : Nat → Nat → List Int
  | 0, _ => []
  | f + 1, m => if m = 2 ^ list.length - 1 then [] else match (List.range list.length).find? (goB q list m) with
    | some i => (i : Int) :: ordN q list f (m ||| 2 ^ i)
    | none => []
theorem find_fst {q : Sq} {list : List Sl} {m i : Nat} (hi : i < list.length) (h : goB q list m i = true) (h0 : ∀ j, j < i → goB q list m j = false) : (List.range list.length).find? (goB q list m) = some i := by
  rw [List.find?_range_eq_some]
  exact ⟨h, List.mem_range.2 hi, fun j hj => by rw [h0 j hj]; rfl⟩
theorem find_get {q : Sq} {list : List Sl} {m i : Nat} (h : (List.range list.length).find? (goB q list m) = some i) : i < list.length ∧ goB q list m i = true := by
  rw [List.find?_range_eq_some] at h
  exact ⟨List.mem_range.1 h.2.1, h.1⟩
theorem ord_fuel (q : Sq) (list : List Sl) : ∀ f f' m, m < 2 ^ list.length → 2 ^ list.length - m ≤ f → 2 ^ list.length - m ≤ f' → ordN q list f m = ordN q list f' m
  | 0, _, m, h, h1, _ => by omega
  | f + 1, 0, m, h, _, h2 => by omega
  | f + 1, f' + 1, m, h, h1, h2 => by
    unfold ordN
    split
    · rfl
    · cases hf : (List.range list.length).find? (goB q list m) with
      | none => rfl
      | some i =>
        obtain ⟨hi, hg⟩ := find_get hf
        have := or_gt (goB_iff.1 hg).1
        simp only
        rw [ord_fuel q list f f' _ (or_lt h hi) (by omega) (by omega)]
def ordV (q : Sq) (list : List Sl) (m : Nat) : List Int := ordN q list (2 ^ list.length - m) m
theorem ord_full (q : Sq) (list : List Sl) : ordV q list (2 ^ list.length - 1) = [] := by
  unfold ordV
  have : 0 < 2 ^ list.length := Nat.pow_pos (by omega)
  rw [show 2 ^ list.length - (2 ^ list.length - 1) = 0 + 1 by omega, ordN, if_pos rfl]
theorem ord_step {q : Sq} {list : List Sl} {m i : Nat} (hm : m < 2 ^ list.length) (hf : m ≠ 2 ^ list.length - 1) (hi : i < list.length) (h : goB q list m i = true) (h0 : ∀ j, j < i → goB q list m j = false) : ordV q list m = (i : Int) :: ordV q list (m ||| 2 ^ i) := by
  unfold ordV
  have hg := or_gt (goB_iff.1 h).1
  rw [show 2 ^ list.length - m = (2 ^ list.length - m - 1) + 1 by omega, ordN, if_neg hf, find_fst hi h h0]
  simp only
  rw [ord_fuel q list (2 ^ list.length - m - 1) (2 ^ list.length - (m ||| 2 ^ i)) _ (or_lt hm hi) (by omega) (by omega)]
theorem least_go {q : Sq} {list : List Sl} {m : Nat} (hm : m < 2 ^ list.length) (hf : m ≠ 2 ^ list.length - 1) (h : 0 < nWays q list m) : ∃ i, i < list.length ∧ goB q list m i = true ∧ (∀ j, j < i → goB q list m j = false) ∧ ordV q list m = (i : Int) :: ordV q list (m ||| 2 ^ i) := by
  obtain ⟨i, hi, hg⟩ := (nWays_pos hm hf).1 h
  obtain ⟨k, hk⟩ : ∃ k, (List.range list.length).find? (goB q list m) = some k := by
    cases e : (List.range list.length).find? (goB q list m) with
    | some k => exact ⟨k, rfl⟩
    | none =>
      have := List.find?_eq_none.1 e i (List.mem_range.2 hi)
      exact absurd hg this
  have h3 := List.find?_range_eq_some.1 hk
  have h0 : ∀ j, j < k → goB q list m j = false := fun j hj => by have := h3.2.2 j hj; simpa using this
  have hk' := List.mem_range.1 h3.2.1
  exact ⟨k, hk', h3.1, h0, ord_step hm hf hk' h3.1 h0⟩
theorem ord_len {q : Sq} {list : List Sl} : ∀ (d m : Nat), 2 ^ list.length - m ≤ d → m < 2 ^ list.length → 0 < nWays q list m → (bitsL list.length m).length + (ordV q list m).length = list.length
  | 0, m, hd, hm, h => by omega
  | d + 1, m, hd, hm, h => by
    by_cases hf : m = 2 ^ list.length - 1
    · rw [hf, ord_full, bits_len_full]; rfl
    · obtain ⟨i0, g1, g2, g3, g4⟩ := least_go hm hf h
      obtain ⟨b1, b2, b3⟩ := goB_iff.1 g2
      have := or_gt b1
      have r3 := ord_len d (m ||| 2 ^ i0) (by omega) (or_lt hm g1) b3
      rw [g4]
      rw [bits_len_or g1 b1] at r3
      simp only [List.length_cons]; omega
theorem full_of {n m : Nat} (hm : m < 2 ^ n) (h : (bitsL n m).length = n) : m = 2 ^ n - 1 := by
  by_cases e : m = 2 ^ n - 1
  · exact e
  · have := bits_len_lt hm e; omega
/-- A begun order has the slabs of m. -/
structure Begun (n m : Nat) (b : List Int) : Prop where
  mem : ∀ i, i < n → (hasB b (i : Int) = m.testBit i)
  len : b.length = (bitsL n m).length
theorem begun_0 (n : Nat) : Begun n 0 [] := ⟨fun i hi => by simp [hasB], by rw [bits_len_0]; rfl⟩
theorem begun_put {n m i : Nat} {b : List Int} (h : Begun n m b) (hi : i < n) (hb : m.testBit i = false) : Begun n (m ||| 2 ^ i) (b ++ [(i : Int)]) := by
  refine ⟨fun j hj => ?_, ?_⟩
  · have e := h.mem j hj
    rw [or_bit, ← e]
    by_cases hij : i = j
    · subst hij; simp [hasB]
    · rw [decide_eq_false hij, Bool.or_false]
      have : ¬ ((i : Int) = (j : Int)) := by omega
      simp [hasB, this]
  · rw [List.length_append, h.len, bits_len_or hi hb]; rfl
/-- All orders from m on, but at most one. -/
def ordsV (q : Sq) (list : List Sl) (m : Nat) (b : List Int) : List (List Int) := if 0 < nWays q list m then [b ++ ordV q list m] else []
theorem ords_full (q : Sq) (list : List Sl) {m : Nat} (hm : m = 2 ^ list.length - 1) (b : List Int) : ordsV q list m b = [b] := by
  subst hm
  unfold ordsV
  rw [nWays_full, if_pos (by omega), ord_full, List.append_nil]
theorem ords_none {q : Sq} {list : List Sl} {m : Nat} (hm : m < 2 ^ list.length) (hf : m ≠ 2 ^ list.length - 1) (h : ∀ j, j < list.length → goB q list m j = false) (b : List Int) : ordsV q list m b = [] := if_neg (nWays_none hm hf h)
theorem ords_step {q : Sq} {list : List Sl} {m i : Nat} (hm : m < 2 ^ list.length) (hf : m ≠ 2 ^ list.length - 1) (hi : i < list.length) (h : goB q list m i = true) (h0 : ∀ j, j < i → goB q list m j = false) (b : List Int) : ordsV q list m b = ordsV q list (m ||| 2 ^ i) (b ++ [(i : Int)]) := by
  unfold ordsV
  rw [if_pos ((nWays_pos hm hf).2 ⟨i, hi, h⟩), if_pos (goB_iff.1 h).2.2, ord_step hm hf hi h h0]
  simp
theorem ords_len (q : Sq) (list : List Sl) (m : Nat) (b : List Int) : (ordsV q list m b).length ≤ 1 := by unfold ordsV; split <;> simp
/-- What the law's function gives. -/
noncomputable def firstV (q : Sq) (list : List Sl) : List Int × Int := if layC q list = 0 then (if 0 < nWays q list 0 then (ordV q list 0, 0) else ([], 6)) else ([], layC q list)
end Go.Proofs.Ytmjijggkdbiijaa
