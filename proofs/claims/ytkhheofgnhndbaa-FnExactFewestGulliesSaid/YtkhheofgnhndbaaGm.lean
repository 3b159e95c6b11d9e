/- Words for blocks of a call's own that turn; stores in regions that draw. -/
import Derived.Test.YtkhheofgnhndbaaGn
namespace Go.Proofs.Ytkhheofgnhndbaa
set_option linter.unusedVariables false
set_option linter.unusedSimpArgs false
open Go.RowKit
/-- Only blocks of S, among those that were there, have turned. -/
structure Kept (S : List Nat) (w w' : World) : Prop where
  os : w'.os = w.os
  tape : w'.tape = w.tape
  output : w'.output = w.output
  size : w.heap.size ≤ w'.heap.size
  block : ∀ k, k < w.heap.size → k ∉ S → w'.heap[k]? = w.heap[k]?
theorem Kept.refl (S : List Nat) (w : World) : Kept S w w := ⟨rfl, rfl, rfl, Nat.le_refl _, fun _ _ _ => rfl⟩
theorem Kept.trans {S : List Nat} {w w1 w2 : World} (h : Kept S w w1) (k : Kept S w1 w2) : Kept S w w2 :=
  ⟨k.os.trans h.os, k.tape.trans h.tape, k.output.trans h.output, Nat.le_trans h.size k.size, fun j hj hn => (k.block j (Nat.lt_of_lt_of_le hj h.size) hn).trans (h.block j hj hn)⟩
theorem Kept.of_below {S : List Nat} {w w1 : World} (h : Below w.heap.size w w1) : Kept S w w1 := ⟨h.os, h.tape, h.output, h.size, fun j hj _ => h.block j hj⟩
theorem Kept.of_setB {S : List Nat} {g : Nat} {w w1 : World} (h : SetB g w w1) (hg : g ∈ S) : Kept S w w1 :=
  ⟨h.os, h.tape, h.output, Nat.le_of_eq h.size.symm, fun j _ hn => h.block j (fun e => hn (e ▸ hg))⟩
theorem Kept.blk {S : List Nat} {w w1 : World} (h : Kept S w w1) {g : Nat} {o : Obj} (hb : w.heap[g]? = some o) (hg : g ∉ S) : w1.heap[g]? = some o := (h.block g (blk_lt hb) hg).trans hb
theorem Kept.below {S : List Nat} {w w1 : World} {B : Nat} (h : Kept S w w1) (hB : B ≤ w.heap.size) (hS : ∀ k ∈ S, B ≤ k) : Below B w w1 :=
  ⟨h.os, h.tape, h.output, h.size, fun j hj => h.block j (Nat.lt_of_lt_of_le hj hB) (fun hm => by have := hS j hm; omega)⟩
theorem Kept.cell {S : List Nat} {w w1 : World} (h : Kept S w w1) {a : Addr} {v : Value} (hc : w.cell? a = some v) (hg : a.block ∉ S) : w1.cell? a = some v := by
  have := h.block a.block (World.block_lt_of_cell? w a hc) hg
  rw [World.cell?_of_block this]; exact hc
theorem OwnC.kept {S : List Nat} {B : Nat} {w w1 : World} {v : Value} {xs : List (Int × Int)} (ho : OwnC B w v xs) (h : Kept S w w1) (hS : ∀ k ∈ S, k < B) : OwnC B w1 v xs := by
  refine ⟨ho.1, ?_⟩
  rcases ho.2 with h2 | ⟨g, cap, cur, e1, e2, e3, e4⟩
  · exact .inl h2
  · exact .inr ⟨g, cap, cur, e1, e2, h.blk e3 (fun hm => by have := hS g hm; omega), e4⟩
section
variable {P : Program} {ops : Array Oper} {Q : Exit → Act → World → Prop} {S : World → Prop} {fuel : Nat} {listed : Array Bool} {a : Act} {w : World}
theorem run_move' (o : Oper) (x : Operand) (ho : o.op = .move x) (v : Value) (hx : a.eval x = v) : (execOp a.eval o).run P w = .ok (.value v) w := by
  unfold execOp
  simp only [ho, hx]
  rfl
theorem run_assign' (o : Oper) (x : Operand) (ho : o.op = .assign x) (v : Value) (hx : a.eval x = v) : (execOp a.eval o).run P w = .ok (.value v) w := by
  unfold execOp
  simp only [ho, hx]
  rfl
theorem run_store' (o : Oper) (ty : TypeId) (x y : Operand) (ho : o.op = .store ty x y) (g : Nat) (v : Value) (vs : Array Value) (hvs : v.cells = vs) (hx : a.eval x = .pointer (some ⟨g, 0, none⟩)) (hy : a.eval y = v) (cs : Array Value) (t : TypeId)
    (hg : w.heap[g]? = some (.cells cs t (0, 0))) (hi : (P.info? ty).map (·.size) = some vs.size) (h1 : ∀ u ∈ vs.toList, u.oneCell' = true) (hfit : cs.size = vs.size) :
    (execOp a.eval o).run P w = .ok .skip (w.setRow g vs) := by
  subst hvs
  have hst := run_storeCells_at P g 0 t v.cells.toList 0 cs w hg (by simp [hfit]) h1
  obtain ⟨i, hi1, hi2⟩ := Option.map_eq_some_iff.1 hi
  have e : (cs.toList.take 0 ++ v.cells.toList ++ cs.toList.drop (0 + v.cells.toList.length)).toArray = v.cells := by
    rw [List.drop_of_length_le (by simp [hfit])]; simp
  simp only [Nat.zero_add, Array.length_toList] at hst e
  rw [e] at hst
  unfold execOp
  simp [ho, hx, hy, Instr.storeAt, Instr.sureAddr, storeVar, sizeOf, typeInfo, hi1, hi2, hst]
/-- In a region that draws: the store that alone may come up now. -/
theorem anyH_store1 (i : Nat) (o : Oper) (hr : Region.ready .any ops listed = [i]) (hi : ops[i]? = some o) (hgd : o.guard = none) (hd : o.dst = none) (ty : TypeId) (x y : Operand) (ho : o.op = .store ty x y) (g : Nat) (v : Value) (vs : Array Value) (hvs : v.cells = vs) (hx : a.eval x = .pointer (some ⟨g, 0, none⟩)) (hy : a.eval y = v) (cs : Array Value) (t : TypeId)
    (hg : w.heap[g]? = some (.cells cs t (0, 0))) (hz : (P.info? ty).map (·.size) = some vs.size) (h1 : ∀ u ∈ vs.toList, u.oneCell' = true) (hfit : cs.size = vs.size)
    (h : ∀ w1, w1.heap[g]? = some (.cells vs t (0, 0)) → SetB g w w1 → S w1 ∧ wpAnyH P .any ops Q S fuel (listed.setIfInBounds i true) a w1) : wpAnyH P .any ops Q S (fuel + 1) listed a w := by
  refine wpAnyH_all hr (by simp) ?_
  intro j hj
  obtain rfl : j = i := by simpa using hj
  unfold wpOp
  simp only [hi]
  rw [if_pos (by simp [Region.wanted, hgd])]
  refine .inl ?_
  unfold Oper.wp
  rw [run_store' o ty x y ho g v vs hvs hx hy cs t hg hz h1 hfit]
  show S _ ∧ wpAnyH P .any ops Q S fuel _ (a.put o.dst undef) _
  rw [hd]
  exact h _ (setRow_heap w g cs _ t _ hg) (SetB.of_row _ _ _)
/-- In a region that draws: two stores to two blocks, in whichever order. -/
theorem anyH_store2 (i j : Nat) (o p : Oper) (hr : Region.ready .any ops listed = [i, j]) (hri : Region.ready .any ops (listed.setIfInBounds i true) = [j]) (hrj : Region.ready .any ops (listed.setIfInBounds j true) = [i]) (hij : i ≠ j) (hi : ops[i]? = some o) (hj : ops[j]? = some p) (hgd : o.guard = none) (hgp : p.guard = none) (hd : o.dst = none) (hdp : p.dst = none)
    (ty : TypeId) (x y x' y' : Operand) (ho : o.op = .store ty x y) (hp : p.op = .store ty x' y') (g g' : Nat) (hgg : g ≠ g') (v v' : Value) (vs vs' : Array Value) (hvs : v.cells = vs) (hvs' : v'.cells = vs') (hx : a.eval x = .pointer (some ⟨g, 0, none⟩)) (hx' : a.eval x' = .pointer (some ⟨g', 0, none⟩)) (hy : a.eval y = v) (hy' : a.eval y' = v') (cs cs' : Array Value) (t t' : TypeId)
    (hg : w.heap[g]? = some (.cells cs t (0, 0))) (hg' : w.heap[g']? = some (.cells cs' t' (0, 0))) (hz : (P.info? ty).map (·.size) = some vs.size) (hz' : (P.info? ty).map (·.size) = some vs'.size) (h1 : ∀ u ∈ vs.toList, u.oneCell' = true) (h1' : ∀ u ∈ vs'.toList, u.oneCell' = true) (hfit : cs.size = vs.size) (hfit' : cs'.size = vs'.size)
    (hS : ∀ w1, Kept [g, g'] w w1 → S w1)
    (h : ∀ w1, w1.heap[g]? = some (.cells vs t (0, 0)) → w1.heap[g']? = some (.cells vs' t' (0, 0)) → Kept [g, g'] w w1 → wpAnyH P .any ops Q S fuel ((listed.setIfInBounds i true).setIfInBounds j true) a w1) : wpAnyH P .any ops Q S (fuel + 2) listed a w := by
  refine wpAnyH_all hr (by simp) ?_
  intro k hk
  have hk' : k = i ∨ k = j := by simpa using hk
  rcases hk' with rfl | rfl
  · unfold wpOp
    simp only [hi]
    rw [if_pos (by simp [Region.wanted, hgd])]
    refine .inl ?_
    unfold Oper.wp
    rw [run_store' o ty x y ho g v vs hvs hx hy cs t hg hz h1 hfit]
    show S _ ∧ wpAnyH P .any ops Q S (fuel + 1) _ (a.put o.dst undef) _
    rw [hd]
    have k1 : Kept [g, g'] w (w.setRow g vs) := Kept.of_setB (SetB.of_row _ _ _) (by simp)
    refine ⟨hS _ k1, anyH_store1 j p hri hj hgp hdp ty x' y' hp g' v' vs' hvs' hx' hy' cs' t' ((SetB.of_row w g vs).blk hg' (Ne.symm hgg)) hz' h1' hfit' fun w1 e1 s1 => ?_⟩
    have k2 : Kept [g, g'] w w1 := k1.trans (Kept.of_setB s1 (by simp))
    exact ⟨hS _ k2, h w1 (s1.blk (setRow_heap w g cs _ t _ hg) hgg) e1 k2⟩
  · unfold wpOp
    simp only [hj]
    rw [if_pos (by simp [Region.wanted, hgp])]
    refine .inl ?_
    unfold Oper.wp
    rw [run_store' p ty x' y' hp g' v' vs' hvs' hx' hy' cs' t' hg' hz' h1' hfit']
    show S _ ∧ wpAnyH P .any ops Q S (fuel + 1) _ (a.put p.dst undef) _
    rw [hdp]
    have k1 : Kept [g, g'] w (w.setRow g' vs') := Kept.of_setB (SetB.of_row _ _ _) (by simp)
    refine ⟨hS _ k1, anyH_store1 i o hrj hi hgd hd ty x y ho g v vs hvs hx hy cs t ((SetB.of_row w g' vs').blk hg hgg) hz h1 hfit fun w1 e1 s1 => ?_⟩
    have k2 : Kept [g, g'] w w1 := k1.trans (Kept.of_setB s1 (by simp))
    rw [Array.setIfInBounds_comm _ _ (Ne.symm hij)]
    exact ⟨hS _ k2, h w1 e1 (s1.blk (setRow_heap w g' cs' _ t' _ hg') (Ne.symm hgg)) k2⟩
end
end Go.Proofs.Ytkhheofgnhndbaa
