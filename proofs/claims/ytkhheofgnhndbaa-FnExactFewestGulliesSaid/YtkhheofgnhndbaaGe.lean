/- Rows of cells that a call builds: appends; the points of a ground, in order. -/
import Derived.Test.YtkhheofgnhndbaaGb
import Derived.Shelf.Abstract
namespace Go.Proofs.Ytkhheofgnhndbaa
set_option linter.unusedVariables false
set_option linter.unusedSimpArgs false
open Go.RowKit
/-- A row of cells of the call's own, in a block from B on. -/
def OwnC (B : Nat) (w : World) (v : Value) (xs : List (Int × Int)) : Prop := w.ownsRow B 40 2 v xs.length (pc xs)
theorem OwnC.below {B : Nat} {w w' : World} {v : Value} {xs : List (Int × Int)} (h : OwnC B w v xs) (hb : Below w.heap.size w w') : OwnC B w' v xs := by
  refine ⟨h.1, ?_⟩
  rcases h.2 with h2 | ⟨g, cap, cur, e1, e2, e3, e4⟩
  · exact .inl h2
  · exact .inr ⟨g, cap, cur, e1, e2, blk_below hb e3, e4⟩
theorem OwnC.cs {B : Nat} {w : World} {v : Value} {xs : List (Int × Int)} (h : OwnC B w v xs) : Cs w v xs := by
  rcases h.2 with ⟨e1, e2⟩ | ⟨g, cap, cur, rfl, _, e3, e4, e5, e6, e7⟩
  · exact ⟨none, 0, by rw [e1, e2], by omega, Nat.zero_le _, fun h0 => by omega⟩
  · refine ⟨some ⟨g, 0, none⟩, cap, rfl, e4, e5, fun _ => ⟨_, rfl, fun j hj => ?_⟩⟩
    have hp := pc_get xs j hj
    have ha : (⟨g, 0, none⟩ : Addr).add (j * 2) = ⟨g, j * 2, none⟩ := by rw [Addr.add_mid]; simp
    have key : ∀ (i : Nat) (u : Value), (pc xs)[i]? = some u → cur[i]? = some u := by
      intro i u hu
      rw [← e7, List.getElem?_take] at hu
      split at hu
      · simpa using hu
      · cases hu
    constructor
    · rw [ha, blk_cell e3]; exact key _ _ hp.1
    · rw [ha, blk_cell e3]; exact key _ _ hp.2
theorem OwnC.lower {B B' : Nat} {w : World} {v : Value} {xs : List (Int × Int)} (h : OwnC B w v xs) (hB : B' ≤ B) : OwnC B' w v xs := by
  refine ⟨h.1, ?_⟩
  rcases h.2 with h2 | ⟨g, cap, cur, e1, e2, e3, e4⟩
  · exact .inl h2
  · exact .inr ⟨g, cap, cur, e1, Nat.le_trans hB e2, e3, e4⟩
theorem OwnC.nil (B : Nat) (w : World) : OwnC B w (.slice none 0 0) [] := World.ownsRow_nil _ _ _ _
theorem OwnC.made {B : Nat} {w : World} (hB : B ≤ w.heap.size) : OwnC B (w.alloc (.cells #[] 40)) (.slice (some ⟨w.heap.size, 0, none⟩) 0 0) [] := World.ownsRow_made w #[] 0 hB (Nat.zero_le _) rfl
theorem MadeC.own {w w' : World} {xs : List (Int × Int)} {v : Value} (h : MadeC w xs v w') (hl : xs.length ≤ 1048576) : OwnC w.heap.size w' v xs := by
  obtain ⟨g, rfl, hg, hs⟩ := h
  exact ⟨pc_length xs, .inr ⟨g, xs.length, _, rfl, hs, hg, Nat.le_refl _, by unfold maxLen; omega, by simp [pc_length], by simp [← pc_length]⟩⟩
theorem info40 : ∃ i : TypeInfo, Try.prog.info? 40 = some i ∧ i.zero = some (.agg #[.int .i8 0, .int .i8 0]) ∧ i.size = 2 ∧ i.bytes = 2 := by
  have h : (Try.prog.info? 40).map (fun i => (i.zero, i.size, i.bytes)) = some (some (.agg #[.int .i8 0, .int .i8 0]), 2, 2) := by kernel_rfl
  obtain ⟨i, hi, he⟩ := Option.map_eq_some_iff.1 h
  injection he with e1 e2
  injection e2 with e2 e3
  exact ⟨i, hi, e1, e2, e3⟩
theorem wpList_appC {ops : Array Oper} {rest : List Oper} {o : Oper} {a : Act} {w0 : World} {Q : Exit → Act → World → Prop} (hgd : o.guard = none) (s x : Operand)
    (ho : o.op = .call { callee := .builtin .append, args := #[s, x], argTypes := #[31, 31] }) (B : Nat) (v : Value) (xs : List (Int × Int)) (hs : a.eval s = v) (hown : OwnC B w0 v xs) (hB : B ≤ w0.heap.size) (hl : xs.length ≤ 1000000)
    (px py : Int) (hx : a.eval x = .slice (some ⟨w0.heap.size, 0, none⟩) 1 1)
    (h : ∀ v' w', OwnC B w' v' (xs ++ [(px, py)]) → Below B w0 w' → wpList Try.prog ops Q rest (a.put o.dst v') w') :
    wpList Try.prog ops Q (o :: rest) a (w0.alloc (.cells #[.int .i8 px, .int .i8 py] 40)) := by
  obtain ⟨i, hi, hz, hsz, hby⟩ := info40
  have hlt := hown.lt
  refine wpList_append_own _ hgd s x 31 ho B 40 i (.agg #[.int .i8 0, .int .i8 0]) 2 2 Try.underlying31 hi hz hsz hby rfl (by decide) v xs.length (pc xs) hs (World.ownsRow.alloc hown _) ⟨w0.heap.size, 0, none⟩ 1 1 [.int .i8 px, .int .i8 py] hx rfl ?_ ?_ (by unfold maxLen; omega) (by omega) (by simp; omega) ?_
  · intro j u hj
    match j, hj with
    | 0, hj => simp at hj; subst hj; simp [Addr.add]
    | 1, hj => simp at hj; subst hj; simp [Addr.add]
  · intro u hu
    simp at hu
    rcases hu with rfl | rfl <;> rfl
  · intro v' w' h1 h2 _
    refine h v' w' ?_ (((Below.refl B w0).alloc hB _).grown h2 (by simp; omega) (fun k hk => (hlt k hk).1))
    unfold OwnC
    rw [pc_append]
    simpa [pc] using h1
theorem wpList_nilC {ops : Array Oper} {rest : List Oper} {o : Oper} {a : Act} {w : World} {Q : Exit → Act → World → Prop} (N : Nat) (hd : o.dst = some N) (hgd : o.guard = none) (ho : o.op = .buildSlice 31 0 #[])
    (h : ∀ u w1, OwnC w.heap.size w1 u [] → Below w.heap.size w w1 → wpList Try.prog ops Q rest (a.put (some N) u) w1) : wpList Try.prog ops Q (o :: rest) a w := by
  rw [← hd] at h; clear hd
  refine wpList_plain hgd fun K hK => ?_
  have hr : (execOp a.eval o).run Try.prog w = .ok (.value (.slice (some ⟨w.heap.size, 0, none⟩) 0 0)) (w.alloc (.cells #[] 40)) := by
    obtain ⟨i, hi, hz, hsz, hby⟩ := info40
    unfold execOp
    simp [ho, Instr.buildSlice, run_underlying Try.underlying31, sizeOf, typeInfo, hi, hsz, Instr.fill, go_sem]
  unfold Oper.wp
  rw [hr]
  exact hK _ _ (h _ _ (OwnC.made (Nat.le_refl _)) ((Below.refl _ _).alloc (Nat.le_refl _) _))
/-- The cells of a line, up to a place, that are taken. -/
def colsUp (acc : Int × Int → Bool) (y x : Nat) : List (Int × Int) := ((List.range x).map fun (x : Nat) => ((x : Int), (y : Int))).filter acc
def rowsUp (acc : Int × Int → Bool) (W y : Nat) : List (Int × Int) := (List.range y).flatMap fun y => colsUp acc y W
theorem colsUp_zero (acc : Int × Int → Bool) (y : Nat) : colsUp acc y 0 = [] := rfl
theorem colsUp_t {acc : Int × Int → Bool} {y x : Nat} (h : acc ((x : Int), (y : Int)) = true) : colsUp acc y (x + 1) = colsUp acc y x ++ [((x : Int), (y : Int))] := by simp [colsUp, List.range_succ, h]
theorem colsUp_f {acc : Int × Int → Bool} {y x : Nat} (h : acc ((x : Int), (y : Int)) = false) : colsUp acc y (x + 1) = colsUp acc y x := by simp [colsUp, List.range_succ, h]
theorem colsUp_le (acc : Int × Int → Bool) (y x : Nat) : (colsUp acc y x).length ≤ x := Nat.le_trans (List.length_filter_le _ _) (by simp)
theorem rowsUp_zero (acc : Int × Int → Bool) (W : Nat) : rowsUp acc W 0 = [] := rfl
theorem rowsUp_succ (acc : Int × Int → Bool) (W y : Nat) : rowsUp acc W (y + 1) = rowsUp acc W y ++ colsUp acc y W := by simp [rowsUp, List.range_succ]
theorem rowsUp_le (acc : Int × Int → Bool) (W y : Nat) : (rowsUp acc W y).length ≤ W * y := by
  induction y with
  | zero => simp [rowsUp]
  | succ y ih => rw [rowsUp_succ, List.length_append]; have := colsUp_le acc y W; rw [Nat.mul_succ]; omega
theorem up_le (acc : Int × Int → Bool) (W y x : Nat) (hW : W ≤ 12) (hx : x ≤ 12) (hy : y ≤ 12) : (rowsUp acc W y ++ colsUp acc y x).length ≤ 1000 := by
  have h1 := rowsUp_le acc W y
  have h2 := colsUp_le acc y x
  have h3 : W * y ≤ 12 * 12 := Nat.mul_le_mul hW hy
  rw [List.length_append]; omega
theorem rowsUp_filter (acc : Int × Int → Bool) (W y : Nat) : rowsUp acc W y = (rowsUp (fun _ => true) W y).filter acc := by
  induction y with
  | zero => rfl
  | succ y ih => rw [rowsUp_succ, rowsUp_succ, List.filter_append, ← ih]; simp [colsUp]
theorem mem_rowsUp (acc : Int × Int → Bool) (W y : Nat) (p : Int × Int) : p ∈ rowsUp acc W y ↔ (0 ≤ p.1 ∧ p.1 < W ∧ 0 ≤ p.2 ∧ p.2 < y) ∧ acc p = true := by
  obtain ⟨a, b⟩ := p
  simp only [rowsUp, colsUp, List.mem_flatMap, List.mem_range, List.mem_filter, List.mem_map, Prod.mk.injEq]
  constructor
  · rintro ⟨j, hj, ⟨i, hi, rfl, rfl⟩, h⟩
    exact ⟨⟨by omega, by omega, by omega, by omega⟩, h⟩
  · rintro ⟨⟨h1, h2, h3, h4⟩, h⟩
    exact ⟨b.toNat, by omega, ⟨a.toNat, by omega, by omega, by omega⟩, h⟩
/-- The points of a ground, in order. -/
def ptsOf (G : Gd) : List (Int × Int) := rowsUp (fun _ => true) G.W.toNat G.H.toNat
def ownPost (w : World) (xs : List (Int × Int)) (e : Ending) (w' : World) : Prop := ∃ v, e = .returned v ∧ OwnC w.heap.size w' v xs ∧ Below w.heap.size w w'
set_option maxHeartbeats 1000000 in
theorem l04All_is (G : Gd) (gl : Value) (hV : GValid G) (g : Nat) (w : World) (hb : w.heap[g]? = some (.cells (gc G gl) 33 (0, 0))) :
    Calls Try.prog 54 #[.pointer (some ⟨g, 0, none⟩)] w (ownPost w (ptsOf G)) := by
  obtain ⟨hW1, hW2⟩ := hV.W
  obtain ⟨hH1, hH2⟩ := hV.H
  obtain ⟨W, hW⟩ : ∃ W : Nat, G.W = (W : Int) := ⟨G.W.toNat, by omega⟩
  obtain ⟨H, hH⟩ : ∃ H : Nat, G.H = (H : Int) := ⟨G.H.toNat, by omega⟩
  have hpts : ptsOf G = rowsUp (fun _ => true) W H := by unfold ptsOf; rw [hW, hH]; rfl
  have a0 := (blk_cell hb 0).trans (gc_0 _ _)
  have a1 := (blk_cell hb 1).trans (gc_1 _ _)
  rw [hW] at a0 hW1 hW2
  rw [hH] at a1 hH1 hH2
  clear hW hH
  have HP := Lib.hid hpts
  clear hpts
  go_enter Try.func54, Try.ntmps54
  go_wp2
  go_loopw [3, 4] (fun v u wr => ∃ j : Nat, j ≤ H ∧ u = .int .i8 j ∧ OwnC w.heap.size wr v (rowsUp (fun _ => true) W j) ∧ Below w.heap.size w wr) (fun _ u _ => H - (intOf u).toNat)
  case atStart => exact ⟨0, Nat.zero_le _, rfl, OwnC.made (Nat.le_refl _), (Below.refl _ _).alloc (Nat.le_refl _) _⟩
  case round =>
    obtain ⟨j, hj, rfl, hO, hB⟩ := hrel
    have a0 := cell_below hB a0
    have a1 := cell_below hB a1
    by_cases hlt : j < H
    · have hlt' : decide ((j : Int) < (H : Int)) = true := decide_eq_true (by omega)
      go_wp2
      obtain ⟨wo, hwo⟩ : ∃ wo : World, wo = wr := ⟨_, rfl⟩
      subst hwo
      go_loopw [3, 5] (fun v u wr => ∃ k : Nat, k ≤ W ∧ u = .int .i8 k ∧ OwnC w.heap.size wr v (rowsUp (fun _ => true) W j ++ colsUp (fun _ => true) j k) ∧ Below w.heap.size w wr) (fun _ u _ => W - (intOf u).toNat)
      case atStart => exact ⟨0, Nat.zero_le _, rfl, by rw [colsUp_zero, List.append_nil]; exact hO, hB⟩
      case round =>
        obtain ⟨k, hk, rfl, hO2, hB2⟩ := hrel
        have a0 := (hB2.cell (World.block_lt_of_cell? _ _ ((blk_cell hb 0).trans (gc_0 _ _)))).trans ((hB.cell (World.block_lt_of_cell? _ _ ((blk_cell hb 0).trans (gc_0 _ _)))).symm.trans a0)
        by_cases hlk : k < W
        · have hlk' : decide ((k : Int) < (W : Int)) = true := decide_eq_true (by omega)
          have hle := up_le (fun _ => true) W j k (by omega) (by omega) (by omega)
          go_wp2_with (first
            | (at_builtin; refine wpList_appC rfl _ _ rfl w.heap.size _ _ rfl hO2 hB2.size (by omega) k j rfl ?_; intro v' w3 hO3 hB3))
          go_roundw
          case rel => exact ⟨k + 1, by omega, by go_num, by rw [colsUp_t rfl, ← List.append_assoc]; exact hO3, hB2.trans hB3⟩
          case measure => simp [intOf]; omega
        · obtain rfl : k = W := by omega
          go_wp2
          go_roundw
          case rel => exact ⟨j + 1, by omega, by go_num, by rw [rowsUp_succ]; exact hO2, hB2⟩
          case measure => simp [intOf]; omega
    · obtain rfl : j = H := by omega
      go_wp2
      go_ret
      exact ⟨_, rfl, by rw [HP.out]; exact hO, hB⟩
end Go.Proofs.Ytkhheofgnhndbaa
