/- Copies of rows and arrays. -/
import Derived.Test.YtkhheofgnhndbaaG4
namespace Go.Proofs.Ytkhheofgnhndbaa
set_option linter.unusedVariables false
set_option linter.unusedSimpArgs false
open Go.RowKit
/-- The cells of a row of cells. -/
def pc (xs : List (Int × Int)) : List Value := xs.flatMap fun p => [.int .i8 p.1, .int .i8 p.2]
theorem pc_length (xs : List (Int × Int)) : (pc xs).length = xs.length * 2 := by
  induction xs with
  | nil => rfl
  | cons p xs ih => simp [pc] at ih ⊢; omega
theorem pc_append (xs ys : List (Int × Int)) : pc (xs ++ ys) = pc xs ++ pc ys := by simp [pc]
theorem pc_get (xs : List (Int × Int)) (j : Nat) (hj : j < xs.length) : (pc xs)[j * 2]? = some (.int .i8 (xs.getD j (0, 0)).1) ∧ (pc xs)[j * 2 + 1]? = some (.int .i8 (xs.getD j (0, 0)).2) := by
  induction xs generalizing j with
  | nil => simp at hj
  | cons p xs ih =>
    cases j with
    | zero => simp [pc]
    | succ j =>
      have := ih j (by simpa using hj)
      simp only [pc, List.flatMap_cons] at this ⊢
      have e : (j + 1) * 2 = j * 2 + 1 + 1 := by omega
      simp only [e, List.cons_append, List.nil_append, List.getElem?_cons_succ, List.getD_cons_succ]
      exact this
theorem pc_set (xs : List (Int × Int)) (k : Nat) (hk : k < xs.length) (x y : Int) :
    (pc xs).take (k * 2) ++ [.int .i8 x, .int .i8 y] ++ (pc xs).drop (k * 2 + 2) = pc (xs.set k (x, y)) := by
  induction xs generalizing k with
  | nil => simp at hk
  | cons p xs ih =>
    cases k with
    | zero => simp [pc]
    | succ k =>
      have := ih k (by simpa using hk)
      simp only [pc, List.flatMap_cons, List.set_cons_succ] at this ⊢
      have e : (k + 1) * 2 = k * 2 + 1 + 1 := by omega
      have e2 : (k + 1) * 2 + 2 = (k * 2 + 2) + 1 + 1 := by omega
      rw [e2, e]
      simp only [List.cons_append, List.nil_append, List.take_succ_cons, List.drop_succ_cons]
      rw [← this]
/-- A row of the call's own. -/
def MadeC (w : World) (xs : List (Int × Int)) (v : Value) (w' : World) : Prop :=
  ∃ g, v = .slice (some ⟨g, 0, none⟩) xs.length xs.length ∧ w'.heap[g]? = some (.cells (pc xs).toArray 40 (0, 0)) ∧ w.heap.size ≤ g
theorem MadeC.cs {w w' : World} {xs : List (Int × Int)} {v : Value} (h : MadeC w xs v w') (hl : xs.length ≤ 1048576) : Cs w' v xs := by
  obtain ⟨g, rfl, hg, _⟩ := h
  refine ⟨_, _, rfl, Nat.le_refl _, by unfold maxLen; omega, fun _ => ⟨_, rfl, fun j hj => ?_⟩⟩
  have := pc_get xs j hj
  have ha : (⟨g, 0, none⟩ : Addr).add (j * 2) = ⟨g, j * 2, none⟩ := by rw [Addr.add_mid]; simp
  constructor
  · rw [ha, blk_cell hg]; simpa using this.1
  · rw [ha, blk_cell hg]; simpa using this.2
def toPost (w : World) (xs : List (Int × Int)) (e : Ending) (w' : World) : Prop := ∃ v, e = .returned v ∧ MadeC w xs v w' ∧ Below w.heap.size w w'
theorem set_take_rep (xs : List (Int × Int)) (k : Nat) (hk : k < xs.length) :
    (xs.take k ++ List.replicate (xs.length - k) (0, 0)).set k (xs.getD k (0, 0)) = xs.take (k + 1) ++ List.replicate (xs.length - (k + 1)) (0, 0) := by
  apply List.ext_getElem?
  intro i
  rw [List.getElem?_set]
  have hl : (xs.take k ++ List.replicate (xs.length - k) ((0 : Int), (0 : Int))).length = xs.length := by simp; omega
  by_cases hik : k = i
  · subst hik
    rw [if_pos rfl, if_pos (by omega), List.getElem?_append_left (by simp; omega), List.getElem?_take_of_lt (by omega), List.getD_eq_getElem?_getD, List.getElem?_eq_getElem hk]
    rfl
  · rw [if_neg hik]
    by_cases h1 : i < k
    · rw [List.getElem?_append_left (by simp; omega), List.getElem?_append_left (by simp; omega), List.getElem?_take_of_lt h1, List.getElem?_take_of_lt (by omega)]
    · rw [List.getElem?_append_right (by simp; omega), List.getElem?_append_right (by simp; omega)]
      simp only [List.length_take, List.getElem?_replicate]
      split <;> split <;> first | rfl | omega
theorem made_pc (n : Nat) : madeCells (Value.agg #[.int .i8 0, .int .i8 0]).cells (n * 2) = (pc (List.replicate n (0, 0))).toArray := by
  apply Array.ext
  · simp [madeCells, pc_length]
  · intro i h1 h2
    have h1' : i < n * 2 := by simpa [madeCells] using h1
    have e := pc_get (List.replicate n ((0 : Int), (0 : Int))) (i / 2) (by simp; omega)
    have e0 : (List.replicate n ((0 : Int), (0 : Int))).getD (i / 2) (0, 0) = (0, 0) := by
      rw [List.getD_eq_getElem?_getD, List.getElem?_replicate]; split <;> rfl
    rw [e0] at e
    simp only [madeCells, Value.cells, Array.getElem_map, Array.getElem_range, List.getElem_toArray]
    rcases Nat.mod_two_eq_zero_or_one i with hm | hm
    · have hi : i / 2 * 2 = i := by omega
      rw [hi] at e
      have := (List.getElem?_eq_some_iff.1 e.1).2
      rw [this]
      simp [hm]
    · have hi : i / 2 * 2 + 1 = i := by omega
      rw [hi] at e
      have := (List.getElem?_eq_some_iff.1 e.2).2
      rw [this]
      simp [hm]
set_option maxHeartbeats 800000 in
theorem toCellS_is (xs : List (Int × Int)) (v : Value) (w : World) (hv : Cs w v xs) (hl : xs.length ≤ 1048576) :
    Calls Try.prog 33 #[v] w (toPost w xs) := by
  obtain ⟨A, c, rfl, h1, h2, h3⟩ := hv
  have H3 := Lib.hid h3
  clear h3 h2
  go_enter Try.func33, Try.ntmps33
  go_wp2_with (first
    | (with_reducible refine wpList_makeB rfl 31 _ _ rfl 40 (.agg #[.int .i8 0, .int .i8 0]) 2 2 Try.underlying31 (by kernel_rfl) xs.length rfl rfl (by omega) (by omega) _ (made_pc _) ?_; intro g w1 b1 hb1 hs1))
  go_loopw [4] (fun i wr => ∃ k : Nat, k ≤ xs.length ∧ i = .int .i64 k ∧ Below w.heap.size w wr ∧ wr.heap[g]? = some (.cells (pc (xs.take k ++ List.replicate (xs.length - k) (0, 0))).toArray 40 (0, 0))) (fun i _ => xs.length - (intOf i).toNat)
  case atStart => exact ⟨0, Nat.zero_le _, rfl, hb1, by simpa using b1⟩
  case round =>
    obtain ⟨k, hk, rfl, hB, hG⟩ := hrel
    by_cases hlt : k < xs.length
    · obtain ⟨ad, rfl, hc⟩ := H3.out (by omega)
      have hc' := (hc k hlt).below hB
      clear hc
      revert hc'
      generalize hp : xs.getD k (0, 0) = p
      intro hc'
      have Hp := Lib.hid hp
      clear hp
      obtain ⟨px, py⟩ := p
      obtain ⟨c1, c2⟩ := hc'
      dsimp only at c1 c2
      go_wp2_with (first
        | (go_at_call 29; refine (toCell_is _ _ _).mono ?_; rintro e w3 ⟨rfl, hb3⟩; have hG3 := blk_below hb3 hG)
        | (with_reducible refine wpList_storeB rfl 40 _ _ rfl g (k * 2) (.agg #[.int .i8 px, .int .i8 py]) #[.int .i8 px, .int .i8 py] rfl rfl rfl _ 40 hG3 (by kernel_rfl) (by simp [Value.oneCell']) (by simp [pc_length]; omega) _ rfl ?_; intro w4 hG4 hS4))
      go_roundw
      case rel =>
        refine ⟨k + 1, by omega, by go_num, hS4.below (below_trans hB hb3) hs1, ?_⟩
        rw [hG4, ← set_take_rep xs k hlt, Hp.out]
        simp only [List.toList_toArray, List.size_toArray, List.length_cons, List.length_nil]
        rw [pc_set _ _ (by simp; omega)]
      case measure => simp [intOf]; omega
    · obtain rfl : k = xs.length := by omega
      go_wp2
      go_ret
      exact ⟨_, rfl, ⟨g, rfl, by rw [hG]; simp, hs1⟩, hB⟩
end Go.Proofs.Ytkhheofgnhndbaa
