/- A row of cells of one's own is marked. -/
import Derived.Test.YtkhheofgnhndbaaHa
namespace Go.Proofs.Ytkhheofgnhndbaa
set_option linter.unusedVariables false
set_option linter.unusedSimpArgs false
open Go.RowKit
theorem SetB.trans {g : Nat} {w w1 w2 : World} (h : SetB g w w1) (k : SetB g w1 w2) : SetB g w w2 := ⟨k.os.trans h.os, k.tape.trans h.tape, k.output.trans h.output, k.size.trans h.size, fun j hj => (k.block j hj).trans (h.block j hj)⟩
def markPost (B : Nat) (v : Value) (n : Nat) (w : World) (e : Ending) (w' : World) : Prop := e = .returned (.int .i64 (1 + 2 * (n : Int))) ∧ OwnC B w' v (marks n) ∧ Turned v w w'
theorem pc_set1 (xs : List (Int × Int)) (k : Nat) (hk : k < xs.length) (x : Int) (sp : List Value) :
    (pc xs ++ sp).take (k * 2) ++ [.int .i8 x] ++ (pc xs ++ sp).drop (k * 2 + 1) = pc (xs.set k (x, (xs.getD k (0, 0)).2)) ++ sp := by
  induction xs generalizing k with
  | nil => simp at hk
  | cons p xs ih =>
    cases k with
    | zero => simp [pc]
    | succ k =>
      have := ih k (by simpa using hk)
      simp only [pc, List.flatMap_cons, List.set_cons_succ, List.getD_cons_succ] at this ⊢
      have e : (k + 1) * 2 = k * 2 + 1 + 1 := by omega
      have e2 : (k + 1) * 2 + 1 = (k * 2 + 1) + 1 + 1 := by omega
      rw [e2, e]
      simp only [List.cons_append, List.nil_append, List.take_succ_cons, List.drop_succ_cons, List.append_assoc] at this ⊢
      rw [← this]
theorem pc_set2 (xs : List (Int × Int)) (k : Nat) (hk : k < xs.length) (y : Int) (sp : List Value) :
    (pc xs ++ sp).take (k * 2 + 1) ++ [.int .i8 y] ++ (pc xs ++ sp).drop (k * 2 + 1 + 1) = pc (xs.set k ((xs.getD k (0, 0)).1, y)) ++ sp := by
  induction xs generalizing k with
  | nil => simp at hk
  | cons p xs ih =>
    cases k with
    | zero => simp [pc]
    | succ k =>
      have := ih k (by simpa using hk)
      simp only [pc, List.flatMap_cons, List.set_cons_succ, List.getD_cons_succ] at this ⊢
      have e : (k + 1) * 2 + 1 = (k * 2 + 1) + 1 + 1 := by omega
      have e2 : (k + 1) * 2 + 1 + 1 = (k * 2 + 1 + 1) + 1 + 1 := by omega
      rw [e2, e]
      simp only [List.cons_append, List.nil_append, List.take_succ_cons, List.drop_succ_cons, List.append_assoc] at this ⊢
      rw [← this]
set_option maxHeartbeats 1000000 in
theorem mark_is (B : Nat) (v : Value) (xs : List (Int × Int)) (w : World) (hl : xs.length ≤ 1048576) (ho : OwnC B w v xs) : Calls Try.prog 36 #[v, .int .i64 1] w (markPost B v xs.length w) := by
  rcases ho.at_block with ⟨rfl, rfl⟩ | ⟨g, cap, sp, rfl, hB, hg, hc1, hc2, hc3⟩
  · go_enter Try.func36, Try.ntmps36
    go_wp2
    go_loopw [1, 5] (fun u v wr => v = .int .i64 0 ∧ u = .int .i64 1 ∧ w = wr) (fun _ v _ => 0 - (intOf v).toNat)
    case atStart => exact ⟨rfl, rfl, rfl⟩
    case round =>
      obtain ⟨rfl, rfl, rfl⟩ := hrel
      go_wp2
      go_ret
      exact ⟨rfl, OwnC.nil _ _, Turned.refl _ _⟩
  · go_enter Try.func36, Try.ntmps36
    go_wp2
    go_loopw [1, 5] (fun u v wr => ∃ k : Nat, k ≤ xs.length ∧ v = .int .i64 k ∧ u = .int .i64 (1 + 2 * (k : Int)) ∧ SetB g w wr ∧ wr.heap[g]? = some (.cells (pc (mkUp xs k) ++ sp).toArray 40 (0, 0))) (fun _ v _ => xs.length - (intOf v).toNat)
    case atStart => exact ⟨0, Nat.zero_le _, rfl, rfl, ⟨rfl, rfl, rfl, rfl, fun _ _ => rfl⟩, by simpa [mkUp, marks] using hg⟩
    case round =>
      obtain ⟨k, hk, rfl, rfl, hS, hG⟩ := hrel
      have hml := mkUp_len hk
      by_cases hlt : k < xs.length
      · have hlt' : decide ((k : Int) < (xs.length : Int)) = true := decide_eq_true (by omega)
        have hpl := pc_length (mkUp xs k)
        go_wp2_with (first
          | (with_reducible refine wpList_storeB rfl 22 _ _ rfl g (k * 2) (.int .i8 (IntKind.i8.wrap (1 + 2 * (k : Int)))) #[.int .i8 (IntKind.i8.wrap (1 + 2 * (k : Int)))] rfl rfl rfl _ 40 hG (by kernel_rfl) (by simp [Value.oneCell']) (by simp; omega) (pc ((mkUp xs k).set k (IntKind.i8.wrap (1 + 2 * (k : Int)), ((mkUp xs k).getD k (0, 0)).2)) ++ sp).toArray (by simp only [List.toList_toArray, List.size_toArray, List.length_cons, List.length_nil]; rw [pc_set1 _ _ (by omega)]) ?_; intro w2 hG2 hS2)
          | (with_reducible refine wpList_storeB rfl 22 _ _ rfl g (k * 2 + 1) (.int .i8 (IntKind.i8.wrap (1 + 2 * (k : Int) + 1))) #[.int .i8 (IntKind.i8.wrap (1 + 2 * (k : Int) + 1))] rfl rfl rfl _ 40 hG2 (by kernel_rfl) (by simp [Value.oneCell']) (by simp [pc_length]; omega) (pc (mkUp xs (k + 1)) ++ sp).toArray (by simp only [List.toList_toArray, List.size_toArray, List.length_cons, List.length_nil]; rw [pc_set2 _ _ (by simp; omega), List.set_set]; congr 3; rw [← mkUp_next hlt]; congr 1; simp [mk1, List.getD_eq_getElem?_getD, hml, hlt]) ?_; intro w3 hG3 hS3))
        go_roundw
        case rel => exact ⟨k + 1, by omega, by go_num, by go_num, (hS.trans hS2).trans hS3, hG3⟩
        case measure => simp [intOf]; omega
      · obtain rfl : k = xs.length := by omega
        go_wp2
        go_ret
        have e : mkUp xs xs.length = marks xs.length := by simp [mkUp]
        rw [e] at hG
        have hlm : (marks xs.length).length = xs.length := by simp [marks]
        refine ⟨rfl, ?_, ⟨hS.os, hS.tape, hS.output, hS.size, fun j hj => hS.block j (fun e => hj (by rw [e]; rfl))⟩⟩
        have := OwnC.of_block (xs := marks xs.length) (cap := cap) (sp := sp) hB hG (by omega) hc2 (by rw [List.length_append, pc_length, hlm]; rw [List.length_append, pc_length] at hc3; exact hc3)
        rwa [hlm] at this
end Go.Proofs.Ytkhheofgnhndbaa
