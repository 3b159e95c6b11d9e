/- Marks: a struct of one's own whose rows are written by a call on one of its fields; rows of numbers. No statement is proved here. -/
import Derived.Test.YtmjijggkdbiijaaA4
namespace Go.Proofs.Ytmjijggkdbiijaa
open Go.RowKit
set_option linter.unusedVariables false
set_option linter.unusedSimpArgs false
/-- Labels when all that was lent goes back. -/
def allB (lab : Lab) : Lab := fun g =>
  match lab g with
  | none => none
  | some (M, k, m) => if M = D0 then some (M, k, m) else if M = 0 ∧ k = 0 then some (B0, 0, m) else none
theorem evB_part {P : Program} {f te : Nat} {e : Ty} {ys zs : (Ty.slice te e).T} {k r : Int} (hev : EvB P f (.slice te e) ys [.imm (.dat (.int .i64) k)] [.val (.dat (.int .i64) r)] zs) (hef : e.flat = true)
    {T : Ty} {x x' : T.T} {p : Path} (hgs : getS T x p = .dat (.slice te e) ys) (hno : ∀ s ∈ p, ∀ j, s ≠ .ix j) (hset : setS T x p (.slice te e) zs = some x')
    {w w1 : World} {lab : Lab} {cs : List Value} {v : Value} (hlt : ∀ g p, lab g = some p → g < w.heap.size) (ho : Own w (Fz lab w) (Lb lab 0 0) 0 T x cs) (hv : cs[T.off p]? = some v) (hk : inR .i64 k) (hx : Fr w (fun g => g < w.heap.size) w1) :
    Calls P f #[v, .int .i64 k] w1 fun en w2 => en = .returned (.int .i64 r) ∧ inR .i64 r ∧ ∃ lab', Fr w (fun g => g < w.heap.size ∧ (lab g = none ∨ ∃ k m, lab g = some (D0, k, m))) w2 ∧ (∀ g, g < w.heap.size → lab g = none → lab' g = none) ∧
      (∀ g k m, lab g = some (D0, k, m) → lab' g = some (D0, k, m)) ∧ (∀ g p, lab' g = some p → g < w2.heap.size) ∧ Own w2 (Fz lab' w2) (Lb lab' B0 0) 0 T x' cs := by
  obtain ⟨hat, hown⟩ := Own.get ho hgs (Ty.inb_flds hno) (fun _ => hno)
  have hpart : (cs.drop (T.off p)).take (Ty.slice te e).sz = [v] := by
    show (cs.drop (T.off p)).take 1 = [v]
    apply List.ext_getElem?; intro j
    rw [List.getElem?_take]
    match j with
    | 0 => simp [hv]
    | j + 1 => simp
  have hown0 := hown
  rw [hpart] at hown
  obtain ⟨lab1, hlab1⟩ : ∃ lab1 : Lab, lab1 = lendL 0 (T.off p) 1 lab := ⟨_, rfl⟩
  have hnone : ∀ g, lab g = none → lab1 g = none := fun g hg => by rw [hlab1]; unfold lendL; rw [hg]
  have hdead : ∀ g M' k m, lab g = some (M', k, m) → ¬ (M' = 0 ∧ k = 0 ∧ T.off p < m ∧ m ≤ T.off p + 1) → lab1 g = some (D0, 0, 0) := fun g M' k m hg hn => by
    rw [hlab1]; unfold lendL; rw [hg]; simp only; rw [if_neg hn]
  have hlt1 : ∀ g p, lab1 g = some p → g < w.heap.size := fun g p hg => by
    cases hl : lab g with
    | none => rw [hnone g hl] at hg; cases hg
    | some p' => exact hlt g p' hl
  have hkx : ∀ g, g < w.heap.size → w1.heap[g]? = w.heap[g]? := hx.keep
  obtain ⟨_, hcall⟩ := hev
  refine Calls.mono (hcall w1 lab1 v [.int .i64 k] (fun g p hg => Nat.lt_of_lt_of_le (hlt1 g p hg) hx.size) rfl ?_) ?_
  · intro j a u ha hu
    match j with
    | 0 =>
      simp only [List.getElem?_cons_zero, Option.some.injEq] at ha hu
      subst ha hu
      refine ⟨[v], rfl, Own.shift (fun g hg => ⟨⟨hnone g hg.1, Nat.lt_of_lt_of_le hg.2 hx.size⟩, hkx g hg.2⟩) (fun j g hj hg => ⟨?_, hkx g (hlt g _ hg)⟩) hown⟩
      have hj0 : j = 0 := by simp only [Ty.sz] at hj; omega
      subst hj0
      have hg' : lab g = some (0, 0, 0 + T.off p + 0 + 1) := hg
      unfold Lb
      rw [hlab1]; unfold lendL
      rw [hg']
      simp only
      rw [if_pos (by refine ⟨?_, ?_, ?_, ?_⟩ <;> first | trivial | omega)]
      simp only [Option.some.injEq, Prod.mk.injEq, true_and]; omega
    | 1 =>
      simp only [List.getElem?_cons_succ, List.getElem?_cons_zero, Option.some.injEq] at ha hu
      subst ha hu
      exact int_rep hk
    | j + 2 => simp at ha
  · rintro en w2 ⟨vr, lab2, rfl, c1, c2, c3, c4, c5, cs1, d1, d2⟩
    obtain rfl : cs1 = [v] := mk_inj (t := .slice te e) (d1.symm.trans (show v = (Ty.slice te e).mk [v] from rfl)) d2.len rfl
    obtain ⟨rfl, hr⟩ := rep_int c5
    have hk2 : ∀ g, g < w.heap.size → lab1 g = none ∨ lab1 g = some (D0, 0, 0) → w2.heap[g]? = w.heap[g]? := fun g hg hl => (c1.keep g ⟨Nat.lt_of_lt_of_le hg hx.size, by
      rcases hl with hl | hl
      · exact .inl hl
      · exact .inr ⟨0, 0, hl⟩⟩).trans (hkx g hg)
    have fz : ∀ g, Fz lab w g → Fz (allB lab) w2 g ∧ w2.heap[g]? = w.heap[g]? := fun g hg => ⟨⟨by unfold allB; rw [hg.1], Nat.lt_of_lt_of_le hg.2 (Nat.le_trans hx.size c1.size)⟩, hk2 g hg.2 (.inl (hnone g hg.1))⟩
    have hlb : ∀ i g, Lb lab 0 0 i g → Lb (allB lab) B0 0 i g := fun i g hg => by
      have hg' : lab g = some (0, 0, i + 1) := hg
      unfold Lb allB
      rw [hg']
      simp [D0]
    refine ⟨rfl, hr, allB lab, ⟨c1.os.trans hx.os, c1.tape.trans hx.tape, c1.output.trans hx.output, Nat.le_trans hx.size c1.size, fun g hg => hk2 g hg.1 ?_⟩, fun g _ hg => by unfold allB; rw [hg], fun g k m hg => by unfold allB; rw [hg]; simp, fun g q hg => ?_, ?_⟩
    · rcases hg.2 with q | ⟨k', m', q⟩
      · exact .inl (hnone g q)
      · exact .inr (hdead g _ _ _ q fun r => by have := r.1; simp [D0] at this)
    · cases hl : lab g with
      | none => unfold allB at hg; rw [hl] at hg; cases hg
      | some p' => exact Nat.lt_of_lt_of_le (hlt g p' hl) (Nat.le_trans hx.size c1.size)
    · refine Own.upd fz ho hset hno (fun j g hj hne hg => ⟨hlb _ g hg, hk2 g (hlt g _ hg) (.inr (hdead g 0 0 (0 + j + 1) hg fun r => ?_))⟩) ?_
      · have := r.2.2; omega
      · have h2 : Own w (Fz lab w) (Lb (allB lab) B0 0) (0 + T.off p) (.slice te e) ys [v] := Own.shift (fun g hg => ⟨hg, rfl⟩) (fun j g _ hg => ⟨hlb _ g hg, rfl⟩) hown
        have h3 : (cs.drop (T.off p)).take 1 = [v] := hpart
        rw [h3]
        exact Own.relab hef h2 d2
/-- A row of values by their places. -/
def row {α : Type} (f : Nat → α) (n : Nat) : List α := (List.range n).map f
theorem row_len {α : Type} (f : Nat → α) (n : Nat) : (row f n).length = n := by simp [row]
theorem row_succ {α : Type} (f : Nat → α) (n : Nat) : row f (n + 1) = row f n ++ [f n] := by simp [row, List.range_succ]
theorem row_set {α : Type} (f : Nat → α) {l : List α} {i : Nat} (h : i < l.length) {z : α} (hz : z = f i) : (row f i ++ l.drop i).set i z = row f (i + 1) ++ l.drop (i + 1) := by
  subst hz
  rw [List.set_append_right _ _ (by rw [row_len]; exact Nat.le_refl _), row_len, Nat.sub_self, List.drop_eq_getElem_cons h, List.set_cons_zero, row_succ, List.append_assoc]; rfl
theorem row_part_len {α : Type} (f : Nat → α) {l : List α} {i : Nat} (h : i ≤ l.length) : (row f i ++ l.drop i).length = l.length := by
  rw [List.length_append, row_len, List.length_drop]; omega
theorem getD_set_same {α : Type} {l : List α} {i : Nat} {a d : α} (h : i < l.length) : (l.set i a).getD i d = a := by
  simp [List.getD_eq_getElem?_getD, h]
theorem row_getD {α : Type} (f : Nat → α) {n i : Nat} (h : i < n) (d : α) : (row f n).getD i d = f i := by
  simp [row, List.getD_eq_getElem?_getD, h]
end Go.Proofs.Ytmjijggkdbiijaa
