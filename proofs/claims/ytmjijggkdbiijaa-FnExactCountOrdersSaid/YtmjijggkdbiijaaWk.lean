/- Orders of laying: the table of the reference. No statement is proved here. -/
import Derived.Test.YtmjijggkdbiijaaWf
namespace Go.Proofs.Ytmjijggkdbiijaa
open Go.RowKit
set_option linter.unusedVariables false
set_option linter.unusedSimpArgs false
def in3 (q : Sq) (list : List Sl) (t : Nat) (out : List Int) : Nat → List Int
  | 0 => out
  | i + 1 => if t.testBit i = false ∧ mayB q list t i = true then (in3 q list t out i).set (t ||| 2 ^ i) ((in3 q list t out i).getD (t ||| 2 ^ i) 0 + (in3 q list t out i).getD t 0) else in3 q list t out i
def dpT (q : Sq) (list : List Sl) : Nat → List Int
  | 0 => (List.replicate (2 ^ list.length) 0).set 0 1
  | t + 1 => if (dpT q list t).getD t 0 = 0 then dpT q list t else in3 q list t (dpT q list t) list.length
structure Dp (q : Sq) (list : List Sl) (out : List Int) : Prop where
  len : out.length = 2 ^ list.length
  pos : ∀ s, 0 ≤ out.getD s 0
  ok : ∀ s, s < 2 ^ list.length → out.getD s 0 ≠ 0 → OkQ (sqM q list s)
abbrev gAll (list : List Sl) : Nat → Int := oWays list.length (fun _ _ => true)
def gWay (q : Sq) (list : List Sl) (t i : Nat) : Int := if t.testBit i = false ∧ mayB q list t i = true then gAll list (t ||| 2 ^ i) else 0
structure In1 (q : Sq) (list : List Sl) (t : Nat) (out : List Int) : Prop where
  dp : Dp q list out
  eq : t < 2 ^ list.length → rest (nWays q list) out t (2 ^ list.length - t) = nWays q list 0
  le : t < 2 ^ list.length → rest (gAll list) out t (2 ^ list.length - t) ≤ gAll list 0
  last : t = 2 ^ list.length → out.getD (2 ^ list.length - 1) 0 = nWays q list 0
structure In3 (q : Sq) (list : List Sl) (t i : Nat) (out : List Int) : Prop where
  dp : Dp q list out
  ok : OkQ (sqM q list t)
  eq : rest (nWays q list) out (t + 1) (2 ^ list.length - (t + 1)) + out.getD t 0 * (nWays q list t - sumB (nWay q list t) i) = nWays q list 0
  le : rest (gAll list) out (t + 1) (2 ^ list.length - (t + 1)) + out.getD t 0 * (gAll list t - sumB (gWay q list t) i) ≤ gAll list 0
section
variable {q : Sq} {list : List Sl}
theorem gAll_pos {s : Nat} (h : s < 2 ^ list.length) : 1 ≤ gAll list s := ways_pos _ _ _ h (Nat.le_refl _)
theorem gWay_0 {t i : Nat} (ht : t < 2 ^ list.length) (hi : i < list.length) : 0 ≤ gWay q list t i := by
  unfold gWay; split
  · have := gAll_pos (or_lt ht hi); omega
  · omega
theorem gWay_le {t i : Nat} (ht : t < 2 ^ list.length) (hi : i < list.length) : gWay q list t i ≤ oWayT list.length (fun _ _ => true) t i := by
  unfold gWay oWayT
  split
  · rename_i h; rw [if_pos ⟨h.1, rfl⟩]; exact Int.le_refl _
  · have := wayT_0 (n := list.length) (A := fun _ _ => true) ht hi
    unfold oWayT at this; exact this
theorem sumB_le_sum {f g : Nat → Int} : ∀ n, (∀ j, j < n → f j ≤ g j) → sumB f n ≤ sumB g n
  | 0, _ => Int.le_refl _
  | n + 1, h => by have := sumB_le_sum n fun j hj => h j (by omega); have := h n (by omega); unfold sumB; omega
theorem full_bit {n t i : Nat} (h : t = 2 ^ n - 1) (hi : i < n) : t.testBit i = true := by
  rw [h, Nat.testBit_two_pow_sub_one, decide_eq_true hi]
theorem sum_full {f : Nat → Int} : ∀ n, (∀ j, j < n → f j = 0) → sumB f n = 0
  | 0, _ => rfl
  | n + 1, h => by unfold sumB; rw [sum_full n fun j hj => h j (by omega), h n (by omega)]; rfl
/-- What is left of G does not run out. -/
theorem g_left {t i : Nat} (ht : t < 2 ^ list.length) (hi : i ≤ list.length) : sumB (gWay q list t) i ≤ gAll list t := by
  by_cases hf : t = 2 ^ list.length - 1
  · rw [sum_full i fun j hj => by unfold gWay; rw [if_neg fun z => by rw [full_bit hf (by omega)] at z; cases z.1]]
    have := gAll_pos ht; omega
  · have e : gAll list t = sumB (oWayT list.length (fun _ _ => true) t) list.length := by unfold gAll; rw [ways_eq ht, if_neg hf]
    rw [e]
    refine Int.le_trans ?_ (sumB_le_sum list.length fun j hj => gWay_le (q := q) ht hj)
    have : ∀ k, i ≤ k → k ≤ list.length → sumB (gWay q list t) i ≤ sumB (gWay q list t) k := by
      intro k
      induction k with
      | zero => intro h _; have : i = 0 := by omega
                subst this; exact Int.le_refl _
      | succ k ih =>
        intro h h2
        by_cases e : i = k + 1
        · subst e; exact Int.le_refl _
        · have := ih (by omega) (by omega)
          have := gWay_0 (q := q) ht (show k < list.length by omega)
          rw [show sumB (gWay q list t) (k + 1) = sumB (gWay q list t) k + gWay q list t k from rfl]; omega
    exact this _ hi (Nat.le_refl _)
theorem dp_prod {out : List Int} (d : Dp q list out) (s : Nat) : 0 ≤ out.getD s 0 * gAll list s := by
  by_cases h : s < 2 ^ list.length
  · have := gAll_pos (list := list) h
    exact Int.mul_nonneg (d.pos s) (by omega)
  · rw [show out.getD s 0 = 0 by rw [List.getD_eq_getElem?_getD, List.getElem?_eq_none (by rw [d.len]; omega)]; rfl]; simp
theorem dp_small {out : List Int} (d : Dp q list out) {t k s : Nat} (hr : rest (gAll list) out t k ≤ gAll list 0) (hn : list.length ≤ 10) (h1 : t ≤ s) (h2 : s < t + k) (hs : s < 2 ^ list.length) : out.getD s 0 ≤ 10000000000 := by
  have h3 := rest_term (W := gAll list) (out := out) (t := t) (fun s _ => dp_prod d s) k s h1 h2
  have h4 : gAll list 0 ≤ 10000000000 := ways_big hn (Nat.pow_pos (by omega))
  have h5 := gAll_pos (list := list) hs
  have h6 := Int.mul_le_mul_of_nonneg_left h5 (d.pos s)
  omega
theorem set_get {out : List Int} {s x : Nat} {v : Int} (h : s < out.length) : (out.set s v).getD x 0 = if x = s then v else out.getD x 0 := by
  rw [List.getD_eq_getElem?_getD, List.getD_eq_getElem?_getD, List.getElem?_set]
  split
  · rename_i e; subst e; simp [h]
  · rename_i e; rw [if_neg fun z => e z.symm]
theorem in1_in3 {t : Nat} {out : List Int} (h : In1 q list t out) (ht : t < 2 ^ list.length) (h0 : out.getD t 0 ≠ 0) : In3 q list t 0 out := by
  have e := h.eq ht
  have l := h.le ht
  rw [show 2 ^ list.length - t = (2 ^ list.length - (t + 1)) + 1 by omega, rest_front] at e l
  refine ⟨h.dp, h.dp.ok t ht h0, ?_, ?_⟩
  · simp only [sumB, Int.sub_zero]; omega
  · simp only [sumB, Int.sub_zero]; omega
theorem in3_in1 {t : Nat} {out : List Int} (h : In3 q list t list.length out) (ht : t < 2 ^ list.length) : In1 q list (t + 1) out := by
  have e := h.eq
  have l := h.le
  refine ⟨h.dp, fun h1 => ?_, fun h1 => ?_, fun h1 => ?_⟩
  · have hF : nWays q list t = sumB (nWay q list t) list.length := by unfold nWays; rw [ways_eq ht, if_neg (by omega)]; rfl
    rw [hF, Int.sub_self, Int.mul_zero, Int.add_zero] at e
    exact e
  · have h2 := Int.mul_nonneg (h.dp.pos t) (show 0 ≤ gAll list t - sumB (gWay q list t) list.length by have := g_left (q := q) ht (Nat.le_refl _); omega)
    omega
  · have hf : t = 2 ^ list.length - 1 := by omega
    have hF : nWays q list t = 1 := by unfold nWays; rw [ways_eq ht, if_pos hf]
    have hS : sumB (nWay q list t) list.length = 0 := sum_full _ fun j hj => by unfold nWay oWayT; rw [if_neg fun z => by rw [full_bit hf hj] at z; cases z.1]
    rw [hF, hS, show 2 ^ list.length - (t + 1) = 0 by omega] at e
    simp only [rest] at e
    rw [← hf]; omega
theorem in1_skip {t : Nat} {out : List Int} (h : In1 q list t out) (ht : t < 2 ^ list.length) (h0 : out.getD t 0 = 0) : In1 q list (t + 1) out := by
  have e := h.eq ht
  have l := h.le ht
  rw [show 2 ^ list.length - t = (2 ^ list.length - (t + 1)) + 1 by omega, rest_front, h0, Int.zero_mul, Int.zero_add] at e l
  refine ⟨h.dp, fun h1 => e, fun h1 => l, fun h1 => ?_⟩
  rw [show 2 ^ list.length - (t + 1) = 0 by omega] at e
  rw [show 2 ^ list.length - 1 = t by omega, h0]
  exact e
theorem in3_no {t i : Nat} {out : List Int} (h : In3 q list t i out) (hb : ¬ (t.testBit i = false ∧ mayB q list t i = true)) : In3 q list t (i + 1) out := by
  refine ⟨h.dp, h.ok, ?_, ?_⟩
  · rw [show sumB (nWay q list t) (i + 1) = sumB (nWay q list t) i + nWay q list t i from rfl, show nWay q list t i = 0 by unfold nWay oWayT; rw [if_neg hb], Int.add_zero]; exact h.eq
  · rw [show sumB (gWay q list t) (i + 1) = sumB (gWay q list t) i + gWay q list t i from rfl, show gWay q list t i = 0 by unfold gWay; rw [if_neg hb], Int.add_zero]; exact h.le
theorem in3_yes {t i : Nat} {out : List Int} (h : In3 q list t i out) (h60 : q.2.2.length + list.length ≤ 60) (ht : t < 2 ^ list.length) (hi : i < list.length) (hb : t.testBit i = false) (ha : mayB q list t i = true) :
    In3 q list t (i + 1) (out.set (t ||| 2 ^ i) (out.getD (t ||| 2 ^ i) 0 + out.getD t 0)) := by
  have hgt := or_gt hb
  have hlt := or_lt ht hi
  have hl : t ||| 2 ^ i < out.length := by rw [h.dp.len]; exact hlt
  have hok := (sqM_ok h.ok h60 ha hi hb).2
  have hget : ∀ x, (out.set (t ||| 2 ^ i) (out.getD (t ||| 2 ^ i) 0 + out.getD t 0)).getD x 0 = if x = t ||| 2 ^ i then out.getD (t ||| 2 ^ i) 0 + out.getD t 0 else out.getD x 0 := fun x => set_get hl
  refine ⟨⟨by rw [List.length_set]; exact h.dp.len, fun s => ?_, fun s hs hs0 => ?_⟩, h.ok, ?_, ?_⟩
  · rw [hget]
    split
    · have := h.dp.pos (t ||| 2 ^ i); have := h.dp.pos t; omega
    · exact h.dp.pos s
  · rw [hget] at hs0
    split at hs0
    · rename_i e; rw [e]; exact hok
    · exact h.dp.ok s hs hs0
  · have e := h.eq
    rw [rest_set hl _ (by omega) (by omega), hget t, if_neg (by omega), show sumB (nWay q list t) (i + 1) = sumB (nWay q list t) i + nWay q list t i from rfl,
      show nWay q list t i = nWays q list (t ||| 2 ^ i) by unfold nWay oWayT; rw [if_pos ⟨hb, ha⟩]; rfl]
    rw [show out.getD (t ||| 2 ^ i) 0 + out.getD t 0 - out.getD (t ||| 2 ^ i) 0 = out.getD t 0 by omega]
    rw [Int.mul_sub] at e ⊢
    rw [Int.mul_add]
    omega
  · have e := h.le
    rw [rest_set hl _ (by omega) (by omega), hget t, if_neg (by omega), show sumB (gWay q list t) (i + 1) = sumB (gWay q list t) i + gWay q list t i from rfl,
      show gWay q list t i = gAll list (t ||| 2 ^ i) by unfold gWay; rw [if_pos ⟨hb, ha⟩]]
    rw [show out.getD (t ||| 2 ^ i) 0 + out.getD t 0 - out.getD (t ||| 2 ^ i) 0 = out.getD t 0 by omega]
    rw [Int.mul_sub] at e ⊢
    rw [Int.mul_add]
    omega
theorem in3_at {t : Nat} {out : List Int} (h : In3 q list t 0 out) (h60 : q.2.2.length + list.length ≤ 60) (ht : t < 2 ^ list.length) : ∀ i, i ≤ list.length → In3 q list t i (in3 q list t out i)
  | 0, _ => h
  | i + 1, hi => by
    have := in3_at h h60 ht i (by omega)
    unfold in3
    split
    · rename_i hb; exact in3_yes this h60 ht (by omega) hb.1 hb.2
    · rename_i hb; exact in3_no this hb
theorem dp_at (k : OkQ q) (h60 : q.2.2.length + list.length ≤ 60) : ∀ t, t ≤ 2 ^ list.length → In1 q list t (dpT q list t)
  | 0, _ => by
    have hp : 0 < 2 ^ list.length := Nat.pow_pos (by omega)
    have hget : ∀ x, (dpT q list 0).getD x 0 = if x = 0 then 1 else 0 := fun x => by
      unfold dpT
      rw [set_get (by simp; omega)]
      split
      · rfl
      · simp [List.getD_eq_getElem?_getD, List.getElem?_replicate]; split <;> rfl
    have hrest : ∀ (W : Nat → Int) m, rest W (dpT q list 0) 1 m = 0 := fun W m => by
      induction m with
      | zero => rfl
      | succ m ih => rw [rest, ih, hget, if_neg (by omega)]; simp
    refine ⟨⟨by unfold dpT; simp, fun s => by rw [hget]; split <;> omega, fun s _ h => ?_⟩, fun _ => ?_, fun _ => ?_, fun h => by omega⟩
    · rw [hget] at h
      by_cases e : s = 0
      · rw [e, sqM_0 k]; exact k
      · rw [if_neg e] at h; exact absurd rfl h
    · rw [show 2 ^ list.length - 0 = (2 ^ list.length - 1) + 1 by omega, rest_front, hrest, hget, if_pos rfl]; omega
    · rw [show 2 ^ list.length - 0 = (2 ^ list.length - 1) + 1 by omega, rest_front, hrest, hget, if_pos rfl]; omega
  | t + 1, ht => by
    have h := dp_at k h60 t (by omega)
    unfold dpT
    split
    · rename_i h0; exact in1_skip h (by omega) h0
    · rename_i h0; exact in3_in1 (in3_at (in1_in3 h (by omega) h0) h60 (by omega) _ (Nat.le_refl _)) (by omega)
theorem dp_last (k : OkQ q) (h60 : q.2.2.length + list.length ≤ 60) : (dpT q list (2 ^ list.length)).getD (2 ^ list.length - 1) 0 = nWays q list 0 := (dp_at k h60 _ (Nat.le_refl _)).last rfl
/-- What goes into the table stays small. -/
theorem in3_small {t i : Nat} {out : List Int} (h : In3 q list t i out) (hn : list.length ≤ 10) (h60 : q.2.2.length + list.length ≤ 60) (ht : t < 2 ^ list.length) (hi : i < list.length) (hb : t.testBit i = false) (ha : mayB q list t i = true) :
    0 ≤ out.getD (t ||| 2 ^ i) 0 + out.getD t 0 ∧ out.getD (t ||| 2 ^ i) 0 + out.getD t 0 ≤ 10000000000 := by
  have h1 := in3_yes h h60 ht hi hb ha
  have hgt := or_gt hb
  have hlt := or_lt ht hi
  have h2 := Int.mul_nonneg (h1.dp.pos t) (show 0 ≤ gAll list t - sumB (gWay q list t) (i + 1) by have := g_left (q := q) ht (show i + 1 ≤ list.length by omega); omega)
  have h3 := h1.le
  have h4 := dp_small h1.dp (t := t + 1) (k := 2 ^ list.length - (t + 1)) (s := t ||| 2 ^ i) (by omega) hn (by omega) (by omega) hlt
  rw [set_get (by rw [h.dp.len]; exact hlt), if_pos rfl] at h4
  have := h.dp.pos (t ||| 2 ^ i); have := h.dp.pos t
  omega
end
end Go.Proofs.Ytmjijggkdbiijaa
