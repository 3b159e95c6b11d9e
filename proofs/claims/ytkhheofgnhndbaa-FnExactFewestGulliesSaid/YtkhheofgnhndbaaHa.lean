/- A row of cells of one's own is marked, and its marks are read. -/
import Derived.Test.YtkhheofgnhndbaaGy
namespace Go.Proofs.Ytkhheofgnhndbaa
set_option linter.unusedVariables false
set_option linter.unusedSimpArgs false
open Go.RowKit
def mk1 (i : Nat) : Int × Int := (IntKind.i8.wrap (1 + 2 * (i : Int)), IntKind.i8.wrap (1 + 2 * (i : Int) + 1))
/-- The marks of a row of n cells. -/
def marks (n : Nat) : List (Int × Int) := (List.range n).map mk1
/-- Only the block of a row has turned. -/
structure Turned (v : Value) (w w' : World) : Prop where
  os : w'.os = w.os
  tape : w'.tape = w.tape
  output : w'.output = w.output
  size : w'.heap.size = w.heap.size
  block : ∀ k, v.ownBlock ≠ some k → w'.heap[k]? = w.heap[k]?
theorem Turned.below {B : Nat} {w0 w w' : World} {v : Value} (h : Turned v w w') (hb : Below B w0 w) (hv : ∀ g, v.ownBlock = some g → B ≤ g) : Below B w0 w' :=
  hb.trans ⟨h.os, h.tape, h.output, Nat.le_of_eq h.size.symm, fun k hk => h.block k (fun e => by have := hv k e; omega)⟩
theorem Turned.refl (v : Value) (w : World) : Turned v w w := ⟨rfl, rfl, rfl, rfl, fun _ _ => rfl⟩
def mkUp (xs : List (Int × Int)) (k : Nat) : List (Int × Int) := marks k ++ xs.drop k
theorem mkUp_len {xs : List (Int × Int)} {k : Nat} (h : k ≤ xs.length) : (mkUp xs k).length = xs.length := by simp [mkUp, marks]; omega
theorem held_is (v : Value) (n : Nat) (w : World) (hn : n ≤ 1000) (hv : Cs w v (marks n)) : Calls Try.prog 41 #[v, .int .i64 1] w fun e w' => e = .returned (.int .i64 (1 + 2 * (n : Int))) ∧ w = w' := by
  obtain ⟨A, c, rfl, h1, h2, h3⟩ := hv
  have hlm : (marks n).length = n := by simp [marks]
  rw [hlm] at h1 h3 ⊢
  have H3 := Lib.hid h3
  clear h2 h3
  go_enter Try.func41, Try.ntmps41
  go_wp2
  go_loopw [1, 5] (fun u v wr => ∃ k : Nat, k ≤ n ∧ v = .int .i64 k ∧ u = .int .i64 (1 + 2 * (k : Int)) ∧ w = wr) (fun _ v _ => n - (intOf v).toNat)
  case atStart => exact ⟨0, Nat.zero_le _, rfl, rfl, rfl⟩
  case round =>
    obtain ⟨k, hk, rfl, rfl, rfl⟩ := hrel
    by_cases hlt : k < n
    · have hlt' : decide ((k : Int) < (n : Int)) = true := decide_eq_true (by omega)
      obtain ⟨ad, rfl, hc⟩ := H3.out (by omega)
      have hck := hc k hlt
      have e : (marks n).getD k (0, 0) = mk1 k := by simp [marks, List.getD_eq_getElem?_getD, hlt]
      rw [e] at hck
      obtain ⟨c1, c2⟩ := hck
      have d1 : w.cell? (ad.add (k * 2)) = some (.int .i8 (IntKind.i8.wrap (1 + 2 * (k : Int)))) := c1
      have d2 : w.cell? ⟨(ad.add (k * 2)).block, (ad.add (k * 2)).off + 1, none⟩ = some (.int .i8 (IntKind.i8.wrap (1 + 2 * (k : Int) + 1))) := c2
      clear c1 c2 e hc
      have e1 : (IntKind.i8.wrap (1 + 2 * (k : Int)) != IntKind.i8.wrap (1 + 2 * (k : Int))) = false := by simp
      have e2 : (IntKind.i8.wrap (1 + 2 * (k : Int) + 1) != IntKind.i8.wrap (1 + 2 * (k : Int) + 1)) = false := by simp
      go_wp2
      go_roundw
      case rel => exact ⟨k + 1, by omega, by go_num, by go_num, trivial⟩
      case measure => simp [intOf]; omega
    · obtain rfl : k = n := by omega
      go_wp2
      go_ret
      exact ⟨rfl, rfl⟩
theorem mkUp_get {xs : List (Int × Int)} {k : Nat} (h : k < xs.length) : (mkUp xs k).getD k (0, 0) = xs.getD k (0, 0) := by
  have e : (marks k).length = k := by simp [marks]
  simp only [mkUp, List.getD_eq_getElem?_getD]
  rw [List.getElem?_append_right (by omega), e, Nat.sub_self, List.getElem?_drop]; simp
theorem mkUp_next {xs : List (Int × Int)} {k : Nat} (h : k < xs.length) : (mkUp xs k).set k (mk1 k) = mkUp xs (k + 1) := by
  have e : (marks k).length = k := by simp [marks]
  unfold mkUp
  rw [List.set_append_right _ _ (by omega), e, Nat.sub_self]
  have e2 : xs.drop k = xs.getD k (0, 0) :: xs.drop (k + 1) := by
    rw [List.getD_eq_getElem?_getD, List.getElem?_eq_getElem h]; exact List.drop_eq_getElem_cons h
  rw [e2, List.set_cons_zero]
  simp [marks, List.range_succ]
/-- A row of one's own as a block: the cells, then the spare room. -/
def OwnAt (g : Nat) (cap : Nat) (w : World) (xs : List (Int × Int)) (sp : List Value) : Prop := w.heap[g]? = some (.cells (pc xs ++ sp).toArray 40 (0, 0))
theorem OwnC.at_block {B : Nat} {w : World} {v : Value} {xs : List (Int × Int)} (h : OwnC B w v xs) : (v = .slice none 0 0 ∧ xs = []) ∨ ∃ g cap sp, v = .slice (some ⟨g, 0, none⟩) xs.length cap ∧ B ≤ g ∧ w.heap[g]? = some (.cells (pc xs ++ sp).toArray 40 (0, 0)) ∧ xs.length ≤ cap ∧ cap ≤ maxLen ∧ (pc xs ++ sp).length = cap * 2 := by
  rcases h.2 with ⟨e1, e2⟩ | ⟨g, cap, cur, e1, e2, e3, e4, e5, e6, e7⟩
  · exact .inl ⟨e1, List.eq_nil_of_length_eq_zero e2⟩
  · have e : pc xs ++ cur.toList.drop (xs.length * 2) = cur.toList := by rw [← e7]; exact List.take_append_drop _ _
    refine .inr ⟨g, cap, cur.toList.drop (xs.length * 2), e1, e2, ?_, e4, e5, ?_⟩
    · rw [e]; simpa using e3
    · rw [e]; simpa using e6
theorem OwnC.of_block {B : Nat} {w : World} {xs : List (Int × Int)} {g cap : Nat} {sp : List Value} (hB : B ≤ g) (hg : w.heap[g]? = some (.cells (pc xs ++ sp).toArray 40 (0, 0))) (h1 : xs.length ≤ cap) (h2 : cap ≤ maxLen) (h3 : (pc xs ++ sp).length = cap * 2) : OwnC B w (.slice (some ⟨g, 0, none⟩) xs.length cap) xs :=
  ⟨pc_length xs, .inr ⟨g, cap, _, rfl, hB, hg, h1, h2, by simpa using h3, by rw [← pc_length]; simp⟩⟩
end Go.Proofs.Ytkhheofgnhndbaa
