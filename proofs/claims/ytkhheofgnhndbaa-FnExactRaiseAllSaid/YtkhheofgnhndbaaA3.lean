/- Parts of the way from code to plain Lean, put together. No statement is proved here. -/
import Derived.Test.YtkhheofgnhndbaaProg
import Derived.WalkKit
import Derived.WalkSpells
import Derived.BigFrame
import Derived.BigQuiet
import Derived.Lib.Hide
import Derived.Laws.Rows
import Derived.Deep.MidRow
import Derived.Laws.MakeOwn
import Derived.OrdersHeld
import Derived.StillTailTactics
import Derived.Shelf.Abstract
import Derived.Maps.AppendAt
/- Words for the walks over worlds that only grow: a class of worlds for regions that draw, boxes, rows of cells. No statement is proved here. -/
namespace Go.Proofs.Ytkhheofgnhndbaa
set_option linter.unusedVariables false
set_option linter.unusedSimpArgs false
open Go.RowKit
/-- A world in which all that lay in w lies as it did. -/
structure Ext (w : World) where
  val : World
  below : Below w.heap.size w val
instance (w : World) : Inhabited (Ext w) := ⟨⟨w, Below.refl _ _⟩⟩
theorem wp_region_ext {P : Program} {id : Nat} {Q : Exit → Act → World → Prop} {a : Act} {w : World} {l : List Oper} (hm : P.follows .mixedOrders = true) (hB : Region.lexB .any l.toArray = true)
    (h : wpQuiet P l.toArray (fun w' => ∃ p : Ext w, w' = p.val) (fun a' => ∀ w', Below w.heap.size w w' → Q .normal a' w') l a) : (Code.region id l.toArray true).wp P Q a w :=
  wp_region_quiet (C := fun w' => ∃ p : Ext w, w' = p.val) hm hB ⟨⟨_, (Below.refl _ _).drew⟩, rfl⟩ (by
    have e : (fun a' => ∀ w', (∃ p : Ext w, w' = p.val) → Q .normal a' w') = (fun a' => ∀ w', Below w.heap.size w w' → Q .normal a' w') := by
      funext a'
      exact propext ⟨fun h w' hb => h w' ⟨⟨w', hb⟩, rfl⟩, fun h w' ⟨p, hp⟩ => by subst hp; exact h _ p.below⟩
    rw [e]; simpa using h)
theorem true_of {r : Bool} {p : Prop} (hr : r = true ↔ p) (h : p) : r = true := hr.2 h
theorem false_of {r : Bool} {p : Prop} (hr : r = true ↔ p) (h : ¬ p) : r = false := by cases r; rfl; exact absurd (hr.1 rfl) h
theorem below_trans {w w1 w2 : World} (h : Below w.heap.size w w1) (k : Below w1.heap.size w1 w2) : Below w.heap.size w w2 := h.trans (k.mono h.size)
theorem cell_below {w w1 : World} (hb : Below w.heap.size w w1) {a : Addr} {v : Value} (h : w.cell? a = some v) : w1.cell? a = some v := (hb.cell (World.block_lt_of_cell? w a h)).trans h
theorem ext_cell {w : World} {a : Addr} {v : Value} (h : w.cell? a = some v) : ∀ p : Ext w, p.val.cell? a = some v := fun p => cell_below p.below h
theorem blk_lt {w : World} {g : Nat} {o : Obj} (h : w.heap[g]? = some o) : g < w.heap.size := (Array.getElem?_eq_some_iff.1 h).1
theorem blk_below {w w1 : World} (hb : Below w.heap.size w w1) {g : Nat} {o : Obj} (h : w.heap[g]? = some o) : w1.heap[g]? = some o := (hb.block g (blk_lt h)).trans h
theorem ext_blk {w : World} {g : Nat} {o : Obj} (h : w.heap[g]? = some o) : ∀ p : Ext w, p.val.heap[g]? = some o := fun p => blk_below p.below h
theorem blk_cell {w : World} {g : Nat} {t : TypeId} {cs : Array Value} {f : Nat × Nat} (h : w.heap[g]? = some (.cells cs t f)) (i : Nat) : w.cell? ⟨g, i, none⟩ = cs[i]? := cell_of_row w g i cs t f h
theorem blk_frozen {w : World} {g : Nat} {t : TypeId} {cs : Array Value} (h : w.heap[g]? = some (.cells cs t (0, 0))) (i : Nat) : w.frozen? ⟨g, i, none⟩ = false := by simp [World.frozen?, h]
theorem Calls.ext_of {P : Program} {f : FuncId} {args : Array Value} {w : World} {p : Ext w} {v : Value}
    (h : Calls P f args p.val fun e w' => e = .returned v ∧ Below p.val.heap.size p.val w') : Calls P f args p.val fun e w'' => e = .returned v ∧ ∃ q : Ext w, w'' = q.val :=
  h.mono fun _ w' ⟨he, hb⟩ => ⟨he, ⟨w', below_trans p.below hb⟩, rfl⟩
theorem Calls.ext_same {P : Program} {f : FuncId} {args : Array Value} {w : World} {p : Ext w} {v : Value}
    (h : Calls P f args p.val fun e w' => e = .returned v ∧ p.val = w') : Calls P f args p.val fun e w'' => e = .returned v ∧ ∃ q : Ext w, w'' = q.val :=
  h.mono fun _ w' ⟨he, hb⟩ => ⟨he, ⟨w', by rw [← hb]; exact p.below⟩, rfl⟩

section
variable {P : Program} {ops : Array Oper} {rest : List Oper} {o : Oper} {a : Act} {w : World} {Q : Exit → Act → World → Prop}
/-- A whole variable of several cells is loaded. -/
theorem quiet_load_row {C : World → Prop} {K : Act → Prop} (ty : TypeId) (x : Operand) (ho : o.op = .load ty x) (g : Nat) (hx : a.eval x = .pointer (some ⟨g, 0, none⟩)) (t : TypeId) (cs : Array Value) (fr : Nat × Nat) (d : TypeDesc)
    (hg : ∀ w, C w → w.heap[g]? = some (.cells cs t fr)) (hu : P.underlying ty = some d) (hd : (match d with | .struct _ | .array _ _ => true | _ => false) = true) (hi : (P.info? ty).map (·.size) = some cs.size)
    (hk : K (a.put o.dst (.agg cs))) : o.quiet P a C K := by
  refine ⟨.agg cs, fun w hw => ?_, hk⟩
  unfold Oper.quietAt execOp
  simp only [ho, hx, Instr.loadAt, Instr.sureAddr, Sem.run_bind, Sem.run_pure, Result.andThen_ok, run_loadVar_row w g t ty cs fr d (hg w hw) hu hd hi]
  exact ⟨rfl, rfl⟩
/-- A box: a new block under a name. -/
theorem wpList_box (N : Nat) (hd : o.dst = some N) (hg : o.guard = none) (T : TypeId) (x : Operand) (ho : o.op = .box T x) (v : Value) (hx : a.eval x = v) (cs : Array Value) (hcs : v.cells = cs)
    (h : ∀ g w1, w1.heap[g]? = some (.cells cs T (0, 0)) → Below w.heap.size w w1 → w.heap.size ≤ g → wpList P ops Q rest (a.put (some N) (.pointer (some ⟨g, 0, none⟩))) w1) :
    wpList P ops Q (o :: rest) a w := by
  rw [← hd] at h; clear hd
  subst hcs
  refine wpList_plain hg fun K hK => ?_
  unfold Oper.wp execOp
  simp only [ho, hx]
  go_simp
  exact hK _ _ (h _ _ (heap_alloc_new w _) ((Below.refl _ _).alloc (Nat.le_refl _) _) (Nat.le_refl _))
/-- A new variable with its type's zero value. -/
theorem wpList_allocB (N : Nat) (hd : o.dst = some N) (hg : o.guard = none) (T : TypeId) (ho : o.op = .alloc T) (z : Value) (cs : Array Value) (hz : (P.info? T).map (·.zero) = some (some z)) (hcs : z.cells = cs)
    (h : ∀ g w1, w1.heap[g]? = some (.cells cs T (0, 0)) → Below w.heap.size w w1 → w.heap.size ≤ g → wpList P ops Q rest (a.put (some N) (.pointer (some ⟨g, 0, none⟩))) w1) :
    wpList P ops Q (o :: rest) a w := by
  rw [← hd] at h; clear hd
  subst hcs
  refine wpList_plain hg fun K hK => ?_
  have hr : (execOp a.eval o).run P w = .ok (.value (.pointer (some ⟨w.heap.size, 0, none⟩))) (w.alloc (.cells z.cells T (0, 0))) := by
    obtain ⟨i, hi, hiz⟩ := Option.map_eq_some_iff.1 hz
    unfold execOp
    simp [ho, Instr.alloc, zeroValue, typeInfo, hi, hiz, go_sem]
  unfold Oper.wp
  rw [hr]
  exact hK _ _ (h _ _ (heap_alloc_new w _) ((Below.refl _ _).alloc (Nat.le_refl _) _) (Nat.le_refl _))
/-- What a load of several cells needs. -/
theorem range_of_blk {g j : Nat} {cs : Array Value} {t : TypeId} {f : Nat × Nat} (h : w.heap[g]? = some (.cells cs t f)) (seg : List Value) (hseg : ∀ k v, seg[k]? = some v → cs[j + k]? = some v) : w.rangeAt g j seg :=
  fun k v hv => (blk_cell h (j + k)).trans (hseg k v hv)
theorem quiet_loadB {C : World → Prop} {K : Act → Prop} (ty : TypeId) (x : Operand) (ho : o.op = .load ty x) (g j : Nat) (hx : a.eval x = .pointer (some ⟨g, j, none⟩)) (seg : List Value) (d : TypeDesc)
    (hg : ∀ w, C w → w.rangeAt g j seg) (hu : P.underlying ty = some d) (hd : d.isRow = true) (hi : (P.info? ty).map (·.size) = some seg.length)
    (hk : K (a.put o.dst (.agg seg.toArray))) : o.quiet P a C K := by
  refine ⟨.agg seg.toArray, fun w hw => ?_, hk⟩
  unfold Oper.quietAt execOp
  simp only [ho, hx, Instr.loadAt, Instr.sureAddr, Sem.run_bind, Sem.run_pure, Result.andThen_ok, run_loadVar_mid w g j ty seg d (hg w hw) hu hd hi]
  exact ⟨rfl, rfl⟩
theorem rangeAt.below {w w1 : World} {g j : Nat} {seg : List Value} (h : w.rangeAt g j seg) (hb : Below w.heap.size w w1) : w1.rangeAt g j seg := fun k v hv => cell_below hb (h k v hv)
theorem rangeAt.ext {w : World} {g j : Nat} {seg : List Value} (h : w.rangeAt g j seg) (p : Ext w) : p.val.rangeAt g j seg := rangeAt.below h p.below
/-- Only block g has turned. -/
structure SetB (g : Nat) (w w' : World) : Prop where
  os : w'.os = w.os
  tape : w'.tape = w.tape
  output : w'.output = w.output
  size : w'.heap.size = w.heap.size
  block : ∀ k, k ≠ g → w'.heap[k]? = w.heap[k]?
theorem SetB.below {g B : Nat} {w0 w w' : World} (h : SetB g w w') (hb : Below B w0 w) (hg : B ≤ g) : Below B w0 w' :=
  hb.trans ⟨h.os, h.tape, h.output, Nat.le_of_eq h.size.symm, fun k hk => h.block k (by omega)⟩
theorem SetB.blk {g g' : Nat} {w w' : World} {o : Obj} (h : SetB g w w') (hb : w.heap[g']? = some o) (hne : g' ≠ g) : w'.heap[g']? = some o := (h.block g' hne).trans hb
theorem SetB.of_row (w : World) (g : Nat) (cs : Array Value) : SetB g w (w.setRow g cs) := ⟨rfl, rfl, rfl, size_setRow w g cs, fun k hk => setRow_other w g k cs hk⟩
/-- A store into a block of one's own. -/
theorem wpList_storeB (hgd : o.guard = none) (ty : TypeId) (x y : Operand) (ho : o.op = .store ty x y) (g j : Nat) (v : Value) (vs : Array Value) (hvs : v.cells = vs) (hx : a.eval x = .pointer (some ⟨g, j, none⟩)) (hy : a.eval y = v) (cs : Array Value) (t : TypeId)
    (hg : w.heap[g]? = some (.cells cs t (0, 0))) (hi : (P.info? ty).map (·.size) = some vs.size) (h1 : ∀ u ∈ vs.toList, u.oneCell' = true) (hfit : j + vs.size ≤ cs.size)
    (cs1 : Array Value) (hcs : (cs.toList.take j ++ vs.toList ++ cs.toList.drop (j + vs.size)).toArray = cs1)
    (h : ∀ w1, w1.heap[g]? = some (.cells cs1 t (0, 0)) → SetB g w w1 → wpList P ops Q rest (a.put o.dst undef) w1) : wpList P ops Q (o :: rest) a w := by
  subst hcs hvs
  refine wpList_plain hgd fun K hK => ?_
  have hst := run_storeCells_at P g j t v.cells.toList 0 cs w hg (by simpa using hfit) h1
  have hr : (execOp a.eval o).run P w = .ok .skip (w.setRow g (cs.toList.take j ++ v.cells.toList ++ cs.toList.drop (j + v.cells.size)).toArray) := by
    obtain ⟨i, hi1, hi2⟩ := Option.map_eq_some_iff.1 hi
    simp only [Nat.add_zero, Array.length_toList] at hst
    unfold execOp
    simp [ho, hx, hy, Instr.storeAt, Instr.sureAddr, storeVar, sizeOf, typeInfo, hi1, hi2, hst]
  unfold Oper.wp
  rw [hr]
  exact hK _ _ (h _ (setRow_heap w g cs _ t _ hg) (SetB.of_row _ _ _))
/-- An element of an array value, of several cells or of one. -/
theorem run_index_row {w : World} (T e : TypeId) (n k : Nat) (cs : Array Value) (d : TypeDesc) (i : Int) (hT : P.underlying T = some (.array n e)) (he : P.underlying e = some d) (hd : d.isRow = true) (hi : (P.info? e).map (·.size) = some k) (h0 : 0 ≤ i) (h1 : i < n) :
    (Instr.index T (.agg cs) (.int .i64 i)).run P w = .ok (.agg (cs.extract (i.toNat * k) (i.toNat * k + k))) w := by
  obtain ⟨ie, hi1, hi2⟩ := Option.map_eq_some_iff.1 hi
  have hagg : (isAgg e).run P w = .ok true w := by
    unfold isAgg
    rw [Sem.run_bind, run_underlying he w]
    cases d <;> simp_all [TypeDesc.isRow]
  simp [Instr.index, asIntOf, run_underlying hT, h0, h1, sizeOf, typeInfo, hi1, hi2, part, hagg]
theorem wpList_idxB (hgd : o.guard = none) (T : TypeId) (x y : Operand) (ho : o.op = .index T x y) (e : TypeId) (n k : Nat) (cs : Array Value) (d : TypeDesc) (i : Int) (hx : a.eval x = .agg cs) (hy : a.eval y = .int .i64 i)
    (hT : P.underlying T = some (.array n e)) (he : P.underlying e = some d) (hd : d.isRow = true) (hi : (P.info? e).map (·.size) = some k) (h0 : 0 ≤ i) (h1 : i < n) (cs1 : Array Value) (hcs : cs.extract (i.toNat * k) (i.toNat * k + k) = cs1)
    (h : wpList P ops Q rest (a.put o.dst (.agg cs1)) w) : wpList P ops Q (o :: rest) a w := by
  subst hcs
  refine wpList_plain hgd fun K hK => ?_
  have hr : (execOp a.eval o).run P w = .ok (.value (.agg (cs.extract (i.toNat * k) (i.toNat * k + k)))) w := by
    unfold execOp
    simp [ho, hx, hy, run_index_row T e n k cs d i hT he hd hi h0 h1]
  unfold Oper.wp
  rw [hr]
  exact hK _ _ h
theorem wpList_idx1 (hgd : o.guard = none) (T : TypeId) (x y : Operand) (ho : o.op = .index T x y) (e : TypeId) (n : Nat) (cs : Array Value) (d : TypeDesc) (i : Int) (v : Value) (hx : a.eval x = .agg cs) (hy : a.eval y = .int .i64 i)
    (hT : P.underlying T = some (.array n e)) (he : P.underlying e = some d) (hd : d.isRow = false) (hi : (P.info? e).map (·.size) = some 1) (h0 : 0 ≤ i) (h1 : i < n) (hv : cs[i.toNat]? = some v)
    (h : wpList P ops Q rest (a.put o.dst v) w) : wpList P ops Q (o :: rest) a w := by
  refine wpList_plain hgd fun K hK => ?_
  obtain ⟨ie, hi1, hi2⟩ := Option.map_eq_some_iff.1 hi
  have hagg : (isAgg e).run P w = .ok false w := by
    unfold isAgg
    rw [Sem.run_bind, run_underlying he w]
    cases d <;> simp_all [TypeDesc.isRow]
  have hr : (execOp a.eval o).run P w = .ok (.value v) w := by
    unfold execOp
    simp [ho, hx, hy, Instr.index, asIntOf, run_underlying hT, h0, h1, sizeOf, typeInfo, hi1, hi2, part, hagg, hv]
  unfold Oper.wp
  rw [hr]
  exact hK _ _ h
/-- make([]T, n). -/
theorem wpList_makeB (hgd : o.guard = none) (t : TypeId) (x y : Operand) (ho : o.op = .makeSlice t x y) (e : TypeId) (z : Value) (size bytes : Nat) (ht : P.underlying t = some (.slice e)) (hi : (P.info? e).map (fun i => (i.zero, i.size, i.bytes)) = some (some z, size, bytes))
    (n : Nat) (hx : a.eval x = .int .i64 n) (hy : a.eval y = .int .i64 n) (hb : bytes * n ≤ 281474976710656) (hn : n ≤ 9223372036854775807) (cs : Array Value) (hcs : madeCells z.cells (n * size) = cs)
    (h : ∀ g w1, w1.heap[g]? = some (.cells cs e (0, 0)) → Below w.heap.size w w1 → w.heap.size ≤ g → wpList P ops Q rest (a.put o.dst (.slice (some ⟨g, 0, none⟩) n n)) w1) : wpList P ops Q (o :: rest) a w := by
  subst hcs
  obtain ⟨i0, hi0, hzz⟩ := Option.map_eq_some_iff.1 hi
  simp only [Prod.mk.injEq] at hzz
  obtain ⟨hz0, hz1, hz2⟩ := hzz
  subst hz1 hz2
  refine wpList_plain hgd fun K hK => ?_
  have hr := run_make (P := P) w t e i0 z ht hi0 hz0 .i64 .i64 n n (by omega) (by omega) (by
    have h : ((i0.bytes * n : Nat) : Int) ≤ 281474976710656 := by omega
    rwa [Int.natCast_mul] at h) (by omega)
  simp only [Int.toNat_natCast] at hr
  have hr2 : (execOp a.eval o).run P w = .ok (.value (.slice (some ⟨w.heap.size, 0, none⟩) n n)) (w.alloc (.cells (madeCells z.cells (n * i0.size)) e)) := by
    unfold execOp
    simp [ho, hx, hy, hr]
  unfold Oper.wp
  rw [hr2]
  exact hK _ _ (h _ _ (heap_alloc_new w _) ((Below.refl _ _).alloc (Nat.le_refl _) _) (Nat.le_refl _))
end
section
variable {P : Program} {ops : Array Oper} {Q : Exit → Act → World → Prop} {S : World → Prop} {fuel : Nat} {listed : Array Bool} {a : Act} {w : World}
/-- In a region that draws: the call that alone may come up now. -/
theorem anyH_call (i : Nat) (o : Oper) (hr : Region.ready .any ops listed = [i]) (hi : ops[i]? = some o) (hg : o.guard = none) (f : FuncId) (xs : Array Operand) (ts : Array TypeId) (hop : o.op = .call { callee := .value (.func f), args := xs, argTypes := ts }) (vs : Array Value) (hvs : xs.map a.eval = vs) (hcf : (callFunc f vs).run P w = .ok (.enter f vs) w)
    (h : Calls P f vs w fun e w' => ∃ v, e = .returned v ∧ S w' ∧ wpAnyH P .any ops Q S fuel (listed.setIfInBounds i true) (a.put o.dst v) w') : wpAnyH P .any ops Q S (fuel + 1) listed a w := by
  refine wpAnyH_all hr (by simp) ?_
  intro j hj
  obtain rfl : j = i := by simpa using hj
  subst hvs
  unfold wpOp
  simp only [hi]
  rw [if_pos (by simp [Region.wanted, hg])]
  refine .inl ?_
  unfold Oper.wp
  have hr : (execOp a.eval o).run P w = .ok (.enter f (xs.map a.eval)) w := by
    unfold execOp
    simp [hop, resolve, invoke, go_sem, hcf]
  rw [hr]
  refine h.mono ?_
  rintro e w' ⟨v, rfl, hS, hk⟩
  exact ⟨hS, hk⟩
/-- An operation whose value is the same in every world of S. -/
theorem anyH_take (i : Nat) (o : Oper) (v : Value) (hi : ops[i]? = some o) (hg : o.guard = none) (hs : Region.noSelect ops = true) (hf : Region.free .any ops listed i = true) (hr : (Region.ready .any ops listed).contains i = true)
    (hQ : ∀ c a w, Q (.panic c) (a.put o.dst v) w → Q (.panic c) a w) (hS : S w) (hv : ∀ w, S w → (execOp a.eval o).run P w = .ok (.value v) w)
    (h : wpAnyH P .any ops Q S fuel (listed.setIfInBounds i true) (a.put o.dst v) w) : wpAnyH P .any ops Q S (fuel + 1) listed a w :=
  wpAnyH_take hi hs hf hr hQ (.inl ⟨by simp [Region.wanted, hg], hv⟩) hS h
theorem run_load_row' (o : Oper) (ty : TypeId) (x : Operand) (ho : o.op = .load ty x) (g : Nat) (hx : a.eval x = .pointer (some ⟨g, 0, none⟩)) (t : TypeId) (cs : Array Value) (fr : Nat × Nat) (d : TypeDesc)
    (hg : w.heap[g]? = some (.cells cs t fr)) (hu : P.underlying ty = some d) (hd : (match d with | .struct _ | .array _ _ => true | _ => false) = true) (hi : (P.info? ty).map (·.size) = some cs.size) :
    (execOp a.eval o).run P w = .ok (.value (.agg cs)) w := by
  unfold execOp
  simp only [ho, hx, Instr.loadAt, Instr.sureAddr, Sem.run_bind, Sem.run_pure, Result.andThen_ok, run_loadVar_row w g t ty cs fr d hg hu hd hi]
theorem run_not' (o : Oper) (T : TypeId) (x : Operand) (ho : o.op = .unOp .not T x) (b : Bool) (hx : a.eval x = .bool b) : (execOp a.eval o).run P w = .ok (.value (.bool !b)) w := by
  unfold execOp
  simp only [ho, hx]
  rfl
end
end Go.Proofs.Ytkhheofgnhndbaa
/- Grounds as data; small functions on points. -/
namespace Go.Proofs.Ytkhheofgnhndbaa
set_option linter.unusedVariables false
set_option linter.unusedSimpArgs false
open Go.RowKit
/-- A ground as numbers: sides, 81 heights, gullies. -/
structure Gd where
  W : Int
  H : Int
  hs : List Int
  gul : List (Int × Int)
/-- Its cells; gl: the slice of gullies. -/
def gc (G : Gd) (gl : Value) : Array Value := ((Value.int .i8 G.W :: Value.int .i8 G.H :: G.hs.map (Value.int .i16)) ++ [gl]).toArray
theorem gc_0 (G : Gd) (gl : Value) : (gc G gl)[0]? = some (.int .i8 G.W) := by simp [gc]
theorem gc_1 (G : Gd) (gl : Value) : (gc G gl)[1]? = some (.int .i8 G.H) := by simp [gc]
theorem gc_83 (G : Gd) (gl : Value) (h : G.hs.length = 81) : (gc G gl)[83]? = some gl := by
  simp [gc, h]
theorem gc_size (G : Gd) (gl : Value) (h : G.hs.length = 81) : (gc G gl).size = 84 := by simp [gc, h]
def hAt (G : Gd) (x y : Int) : Int := G.hs.getD (y.toNat * 9 + x.toNat) 0
theorem gc_h (G : Gd) (gl : Value) (h : G.hs.length = 81) (x y : Int) (hx0 : 0 ≤ x) (hx : x < 9) (hy0 : 0 ≤ y) (hy : y < 9) : (gc G gl)[2 + y.toNat * 9 + x.toNat]? = some (.int .i16 (hAt G x y)) := by
  have e : 2 + y.toNat * 9 + x.toNat = (y.toNat * 9 + x.toNat) + 1 + 1 := by omega
  simp only [gc, List.getElem?_toArray, e, List.cons_append, List.getElem?_cons_succ]
  rw [List.getElem?_append_left (by simp; omega)]
  simp [hAt, List.getD_eq_getElem?_getD, List.getElem?_eq_getElem (show y.toNat * 9 + x.toNat < G.hs.length by omega)]
def i8ok (a : Int) : Prop := -128 ≤ a ∧ a ≤ 127
def i16ok (a : Int) : Prop := -32768 ≤ a ∧ a ≤ 32767
structure GdOk (G : Gd) : Prop where
  W : i8ok G.W
  H : i8ok G.H
  len : G.hs.length = 81
  hs : ∀ h ∈ G.hs, i16ok h
  gul : ∀ p ∈ G.gul, i8ok p.1 ∧ i8ok p.2
theorem hAt_ok {G : Gd} (hG : GdOk G) (x y : Int) : -32768 ≤ hAt G x y ∧ hAt G x y ≤ 32767 := by
  unfold hAt
  rw [List.getD_eq_getElem?_getD]
  rcases Nat.lt_or_ge (y.toNat * 9 + x.toNat) G.hs.length with h | h
  · rw [List.getElem?_eq_getElem h]
    exact hG.hs _ (List.getElem_mem h)
  · rw [List.getElem?_eq_none h]
    simp
theorem gc_info (G : Gd) (gl : Value) (hG : GdOk G) : (Try.prog.info? 33).map (·.size) = some (gc G gl).size := by
  rw [gc_size G gl hG.len]
  kernel_rfl
attribute [irreducible] gc
set_option maxHeartbeats 400000 in
theorem height_is (G : Gd) (gl : Value) (hG : GdOk G) (x y : Int) (hx : 0 ≤ x ∧ x < 9) (hy : 0 ≤ y ∧ y < 9) (w : World) :
    Calls Try.prog 61 #[.agg (gc G gl), .agg #[.int .i8 x, .int .i8 y]] w fun e w' => e = .returned (.int .i64 (hAt G x y)) ∧ Below w.heap.size w w' := by
  obtain ⟨hx1, hx2⟩ := hx
  obtain ⟨hy1, hy2⟩ := hy
  go_enter Try.func61, Try.ntmps61
  go_wp2_with (first
    | (with_reducible refine wpList_box 2 rfl rfl 33 _ rfl (.agg (gc G gl)) rfl (gc G gl) rfl ?_; intro g1 w1 b1 hb1 _hs1)
    | (with_reducible refine wpList_box 3 rfl rfl 40 _ rfl (.agg #[.int .i8 x, .int .i8 y]) rfl #[.int .i8 x, .int .i8 y] rfl ?_; intro g2 w2 b2 hb2 _hs2))
  obtain ⟨hh1, hh2⟩ := hAt_ok hG x y
  have b1' := blk_below hb2 b1
  have c0 := ext_cell (v := .int .i8 x) ((blk_cell b2 0).trans rfl)
  have c1 := ext_cell (v := .int .i8 y) ((blk_cell b2 1).trans rfl)
  have cc := ext_cell ((blk_cell b1' _).trans (gc_h G gl hG.len x y hx1 hx2 hy1 hy2))
  try simp only [Act.put, List.setIfInBounds_toArray, List.set_cons_zero, List.set_cons_succ]
  refine wp_region_ext (by kernel_rfl) (by kernel_rfl) ?_
  repeat (first
    | go_big_quiet_skip
    | (go_big_quiet_want
       go_big_quiet_op
       first
         | go_big_quiet_on))
  refine wpQuiet_nil ?_
  intro w3 hb3
  go_wp2
  go_ret
  exact ⟨rfl, below_trans (below_trans hb1 hb2) hb3⟩
end Go.Proofs.Ytkhheofgnhndbaa
/- Small functions on numbers, points and cells. -/
namespace Go.Proofs.Ytkhheofgnhndbaa
set_option linter.unusedVariables false
set_option linter.unusedSimpArgs false
open Go.RowKit
theorem isNaN_is (a : Int) (w : World) : Calls Try.prog 105 #[.int .i8 a] w fun e w' => e = .returned (.bool false) ∧ w = w' := by
  go_enter Try.func105, Try.ntmps105
  go_wp2
  go_ret
  exact ⟨by simp, rfl⟩
def cmpI (a b : Int) : Int := if a < b then -1 else if b < a then 1 else 0
theorem compare_is (a b : Int) (w : World) : Calls Try.prog 92 #[.int .i8 a, .int .i8 b] w fun e w' => e = .returned (.int .i64 (cmpI a b)) ∧ w = w' := by
  go_enter Try.func92, Try.ntmps92
  rcases Int.lt_trichotomy a b with h | h | h
  · have e : cmpI a b = -1 := by unfold cmpI; rw [if_pos h]
    rw [e]
    have h1 : decide (a < b) = true := decide_eq_true h
    go_wp2_with (first
      | (go_at_call 105; refine (isNaN_is _ _).mono ?_; rintro e w' ⟨rfl, rfl⟩))
    go_ret
    exact ⟨rfl, rfl⟩
  · have e : cmpI a b = 0 := by unfold cmpI; rw [if_neg (by omega), if_neg (by omega)]
    rw [e]
    have h1 : decide (a < b) = false := decide_eq_false (by omega)
    have h2 : decide (b < a) = false := decide_eq_false (by omega)
    clear h e
    go_wp2_with (first
      | (go_at_call 105; refine (isNaN_is _ _).mono ?_; rintro e w' ⟨rfl, rfl⟩))
    go_ret
    exact ⟨rfl, rfl⟩
  · have e : cmpI a b = 1 := by unfold cmpI; rw [if_neg (by omega), if_pos h]
    rw [e]
    have h1 : decide (a < b) = false := decide_eq_false (by omega)
    have h2 : decide (b < a) = true := decide_eq_true h
    clear e
    go_wp2_with (first
      | (go_at_call 105; refine (isNaN_is _ _).mono ?_; rintro e w' ⟨rfl, rfl⟩))
    go_ret
    exact ⟨rfl, rfl⟩
theorem within_is (a b c : Int) (r : Bool) (h : r = true ↔ (b ≤ a ∧ a ≤ c)) (w : World) :
    Calls Try.prog 50 #[.int .i64 a, .int .i64 b, .int .i64 c] w fun e w' => e = .returned (.bool r) ∧ w = w' := by
  have e : r = decide (b ≤ a ∧ a ≤ c) := by rw [Bool.eq_iff_iff, h]; simp
  subst e
  clear h
  go_enter Try.func50, Try.ntmps50
  by_cases h : b ≤ a
  · have h1 : decide (b ≤ a) = true := decide_eq_true h
    clear h
    go_wp2
    go_ret
    simp at h1; simp [h1]
  · have h1 : decide (b ≤ a) = false := decide_eq_false h
    clear h
    go_wp2
    go_ret
    simp at h1; simp; omega
theorem l00In_is (a b c : Int) (r : Bool) (h : r = true ↔ (b ≤ a ∧ a ≤ c)) (w : World) :
    Calls Try.prog 64 #[.int .i64 a, .int .i64 b, .int .i64 c] w fun e w' => e = .returned (.bool r) ∧ w = w' := by
  have e : r = decide (b ≤ a ∧ a ≤ c) := by rw [Bool.eq_iff_iff, h]; simp
  subst e
  clear h
  go_enter Try.func64, Try.ntmps64
  by_cases h : b ≤ a
  · have h1 : decide (b ≤ a) = true := decide_eq_true h
    clear h
    go_wp2
    go_ret
    simp at h1; simp [h1]
  · have h1 : decide (b ≤ a) = false := decide_eq_false h
    clear h
    go_wp2
    go_ret
    simp at h1; simp; omega
/-- A row of whole numbers that is read. -/
theorem or_is (g : Nat) (a b : Int) (w : World) (c0 : w.cell? ⟨g, 0, none⟩ = some (.int .i64 a)) (c1 : w.cell? ⟨g, 1, none⟩ = some (.int .i64 b)) :
    Calls Try.prog 91 #[.slice (some ⟨g, 0, none⟩) 2 2] w fun e w' => e = .returned (.int .i64 (if a = 0 then b else a)) ∧ w = w' := by
  by_cases h : a = 0
  · subst h
    rw [if_pos rfl]
    go_enter Try.func91, Try.ntmps91
    go_wp2
    go_loop [8] (fun i => (i = .int .i64 0) ∨ (i = .int .i64 1) ∨ (i = .int .i64 2 ∧ b = 0)) (fun i => (2 - intOf i).toNat)
    case atStart => exact .inl rfl
    case round =>
      rcases hrel with rfl | rfl | ⟨rfl, rfl⟩
      · go_wp2
        go_round
        case rel => exact .inr (.inl rfl)
        case measure => simp [intOf]
      · by_cases hb : b = 0
        · subst hb
          go_wp2
          go_round
          case rel => exact .inr (.inr ⟨rfl, trivial⟩)
          case measure => simp [intOf]
        · have h1 : (b != 0) = true := bne_iff_ne.2 hb
          clear hb
          go_wp2
          go_ret
          exact ⟨rfl, rfl⟩
      · go_wp2
        go_ret
        exact ⟨rfl, rfl⟩
  · have h1 : (a != 0) = true := bne_iff_ne.2 h
    rw [if_neg h]
    clear h
    go_enter Try.func91, Try.ntmps91
    go_wp2
    go_loop [8] (fun i => i = .int .i64 0) (fun i => (2 - intOf i).toNat)
    case atStart => exact rfl
    case round =>
      subst hrel
      go_wp2
      go_ret
      exact ⟨rfl, rfl⟩
set_option maxHeartbeats 800000 in
def cmpC (x y u v : Int) : Int := if cmpI y v = 0 then cmpI x u else cmpI y v
theorem or_r (g : Nat) (a b : Int) (w : World) (c0 : w.cell? ⟨g, 0, none⟩ = some (.int .i64 a)) (c1 : w.cell? ⟨g, 1, none⟩ = some (.int .i64 b)) (r : Int) (hr : (if a = 0 then b else a) = r) :
    Calls Try.prog 91 #[.slice (some ⟨g, 0, none⟩) 2 2] w fun e w' => e = .returned (.int .i64 r) ∧ w = w' := by
  subst hr; exact or_is g a b w c0 c1
theorem compareCells_is (x y u v : Int) (w : World) :
    Calls Try.prog 52 #[.agg #[.int .i8 x, .int .i8 y], .agg #[.int .i8 u, .int .i8 v]] w fun e w' => e = .returned (.int .i64 (cmpC x y u v)) ∧ Below w.heap.size w w' := by
  go_enter Try.func52, Try.ntmps52
  go_wp2_with (first
    | (with_reducible refine wpList_box 2 rfl rfl 40 _ rfl (.agg #[.int .i8 x, .int .i8 y]) rfl #[.int .i8 x, .int .i8 y] rfl ?_; intro g1 w1 b1 hb1 _hs1)
    | (with_reducible refine wpList_box 3 rfl rfl 40 _ rfl (.agg #[.int .i8 u, .int .i8 v]) rfl #[.int .i8 u, .int .i8 v] rfl ?_; intro g2 w2 b2 hb2 _hs2))
  have b1' := blk_below hb2 b1
  have c0 : w2.cell? ⟨g1, 0, none⟩ = some (.int .i8 x) := (blk_cell b1' 0).trans rfl
  have c1 : w2.cell? ⟨g1, 1, none⟩ = some (.int .i8 y) := (blk_cell b1' 1).trans rfl
  have d0 : w2.cell? ⟨g2, 0, none⟩ = some (.int .i8 u) := (blk_cell b2 0).trans rfl
  have d1 : w2.cell? ⟨g2, 1, none⟩ = some (.int .i8 v) := (blk_cell b2 1).trans rfl
  set_option maxRecDepth 100000 in
  go_still_tail 10, (by kernel_rfl)
  still_call ((compare_is _ _ _).mono fun _ _ ⟨ha, hb⟩ => ⟨ha, hb.symm⟩)
  repeat still_step
  still_call ((compare_is _ _ _).mono fun _ _ ⟨ha, hb⟩ => ⟨ha, hb.symm⟩)
  refine wpStill_nil ?_
  have hb3 : Below w2.heap.size w2 w2.drew := (Below.refl _ _).drew
  revert hb3
  change _ → wpList _ _ _ _ _ w2.drew
  generalize w2.drew = w3
  intro hb3
  go_wp2_with (first
    | (go_at_call 91; refine (or_r _ (cmpI y v) (cmpI x u) _ (by simp) (by simp) (cmpC x y u v) rfl).mono ?_; rintro e w' ⟨rfl, rfl⟩))
  go_ret
  exact ⟨rfl, below_trans (below_trans hb1 hb2) ((hb3.trans ((Below.refl _ _).alloc hb3.size _)))⟩
theorem within_t (a b c : Int) (h1 : b ≤ a) (h2 : a ≤ c) (w : World) : Calls Try.prog 50 #[.int .i64 a, .int .i64 b, .int .i64 c] w fun e w' => e = .returned (.bool true) ∧ w = w' := within_is a b c true (by simp [h1, h2]) w
theorem within_f (a b c : Int) (h : ¬ (b ≤ a ∧ a ≤ c)) (w : World) : Calls Try.prog 50 #[.int .i64 a, .int .i64 b, .int .i64 c] w fun e w' => e = .returned (.bool false) ∧ w = w' := within_is a b c false (by simpa using h) w
theorem within_d (a b c : Int) (w : World) : Calls Try.prog 50 #[.int .i64 a, .int .i64 b, .int .i64 c] w fun e w' => e = .returned (.bool (decide (b ≤ a ∧ a ≤ c))) ∧ w = w' := within_is a b c _ (by rw [decide_eq_true_iff]) w
theorem l00In_t (a b c : Int) (h1 : b ≤ a) (h2 : a ≤ c) (w : World) : Calls Try.prog 64 #[.int .i64 a, .int .i64 b, .int .i64 c] w fun e w' => e = .returned (.bool true) ∧ w = w' := l00In_is a b c true (by simp [h1, h2]) w
theorem l00In_f (a b c : Int) (h : ¬ (b ≤ a ∧ a ≤ c)) (w : World) : Calls Try.prog 64 #[.int .i64 a, .int .i64 b, .int .i64 c] w fun e w' => e = .returned (.bool false) ∧ w = w' := l00In_is a b c false (by simpa using h) w
theorem l00In_d (a b c : Int) (w : World) : Calls Try.prog 64 #[.int .i64 a, .int .i64 b, .int .i64 c] w fun e w' => e = .returned (.bool (decide (b ≤ a ∧ a ≤ c))) ∧ w = w' := l00In_is a b c _ (by rw [decide_eq_true_iff]) w
end Go.Proofs.Ytkhheofgnhndbaa
/- Points of grounds: whether they lie in, how they are ordered, copies of cells. -/
namespace Go.Proofs.Ytkhheofgnhndbaa
set_option linter.unusedVariables false
set_option linter.unusedSimpArgs false
open Go.RowKit
def isPt (W H x y : Int) : Prop := 0 ≤ x ∧ x ≤ W - 1 ∧ 0 ≤ y ∧ y ≤ H - 1
instance (W H x y : Int) : Decidable (isPt W H x y) := by unfold isPt; infer_instance
def befC (x y u v : Int) : Prop := y < v ∨ y = v ∧ x < u
instance (x y u v : Int) : Decidable (befC x y u v) := by unfold befC; infer_instance
theorem cmpC_neg (x y u v : Int) : cmpC x y u v < 0 ↔ befC x y u v := by
  unfold cmpC cmpI befC
  repeat' split
  all_goals omega
set_option maxHeartbeats 400000 in
theorem before_is (x y u v : Int) (r : Bool) (hr : r = true ↔ befC x y u v) (w : World) :
    Calls Try.prog 87 #[.agg #[.int .i8 x, .int .i8 y], .agg #[.int .i8 u, .int .i8 v]] w fun e w' => e = .returned (.bool r) ∧ Below w.heap.size w w' := by
  obtain rfl : r = decide (befC x y u v) := by rw [Bool.eq_iff_iff, hr]; simp
  clear hr
  go_enter Try.func87, Try.ntmps87
  by_cases h : y < v
  · have e : decide (befC x y u v) = true := decide_eq_true (.inl h)
    rw [e]; clear e
    have h1 : decide (y < v) = true := decide_eq_true h
    go_wp2
    go_ret
    exact ⟨rfl, ((Below.refl _ _).alloc (Nat.le_refl _) _).alloc (by simp) _⟩
  · have h1 : decide (y < v) = false := decide_eq_false h
    by_cases h' : y = v
    · have h2 : (y == v) = true := beq_iff_eq.2 h'
      by_cases h'' : x < u
      · have e : decide (befC x y u v) = true := decide_eq_true (.inr ⟨h', h''⟩)
        rw [e]; clear e
        have h3 : decide (x < u) = true := decide_eq_true h''
        clear h' h
        go_wp2
        go_ret
        exact ⟨rfl, ((Below.refl _ _).alloc (Nat.le_refl _) _).alloc (by simp) _⟩
      · have e : decide (befC x y u v) = false := decide_eq_false (by unfold befC; omega)
        rw [e]; clear e
        have h3 : decide (x < u) = false := decide_eq_false h''
        clear h' h h''
        go_wp2
        go_ret
        exact ⟨rfl, ((Below.refl _ _).alloc (Nat.le_refl _) _).alloc (by simp) _⟩
    · have h2 : (y == v) = false := beq_eq_false_iff_ne.2 h'
      have e : decide (befC x y u v) = false := decide_eq_false (by unfold befC; omega)
      rw [e]; clear e
      clear h' h
      go_wp2
      go_ret
      exact ⟨rfl, ((Below.refl _ _).alloc (Nat.le_refl _) _).alloc (by simp) _⟩
set_option maxHeartbeats 400000 in
theorem l04Is_is (W H x y : Int) (g : Nat) (w : World) (hW : i8ok W) (hH : i8ok H) (hx : i8ok x) (hy : i8ok y)
    (c0 : w.cell? ⟨g, 0, none⟩ = some (.int .i8 W)) (c1 : w.cell? ⟨g, 1, none⟩ = some (.int .i8 H)) (r : Bool) (hr : r = true ↔ isPt W H x y) :
    Calls Try.prog 68 #[.pointer (some ⟨g, 0, none⟩), .agg #[.int .i8 x, .int .i8 y]] w fun e w' => e = .returned (.bool r) ∧ Below w.heap.size w w' := by
  obtain ⟨hW1, hW2⟩ := hW
  obtain ⟨hH1, hH2⟩ := hH
  obtain ⟨hx1, hx2⟩ := hx
  obtain ⟨hy1, hy2⟩ := hy
  obtain rfl : r = decide (isPt W H x y) := by rw [Bool.eq_iff_iff, hr]; simp
  clear hr
  go_enter Try.func68, Try.ntmps68
  go_wp2_with (first
    | (with_reducible refine wpList_box 3 rfl rfl 40 _ rfl (.agg #[.int .i8 x, .int .i8 y]) rfl #[.int .i8 x, .int .i8 y] rfl ?_; intro g1 w1 b1 hb1 _hs1))
  have e0 := ext_cell (v := .int .i8 x) ((blk_cell b1 0).trans rfl)
  have e1 := ext_cell (v := .int .i8 y) ((blk_cell b1 1).trans rfl)
  have e2 := ext_cell (cell_below hb1 c0)
  have e3 := ext_cell (cell_below hb1 c1)
  by_cases h : 0 ≤ x ∧ x ≤ W - 1
  · have e : decide (isPt W H x y) = (decide (0 ≤ y) && decide (y ≤ H - 1)) := by simp [isPt, h]
    have E := Lib.hid e; clear e
    try simp only [Act.put, List.setIfInBounds_toArray, List.set_cons_zero, List.set_cons_succ]
    refine wp_region_ext (by kernel_rfl) (by kernel_rfl) ?_
    repeat (first
      | go_big_quiet_skip
      | (go_big_quiet_want
         go_big_quiet_op
         first
           | go_big_quiet_on
           | (apply Exists.intro
              refine ⟨fun _ => ?_, ?_⟩
              · first
                  | (go_at_call 64; exact Calls.ext_same (l00In_t _ _ _ (by omega) (by omega) _))
                  | (go_at_call 64; exact Calls.ext_same (l00In_d _ _ _ _))
              go_big_quiet_on)))
    refine wpQuiet_nil ?_
    intro w3 hb3
    go_wp2
    go_ret
    exact ⟨by rw [E.out]; rfl, below_trans hb1 hb3⟩
  · have e : decide (isPt W H x y) = false := decide_eq_false (by unfold isPt; omega)
    have E := Lib.hid e; clear e
    try simp only [Act.put, List.setIfInBounds_toArray, List.set_cons_zero, List.set_cons_succ]
    refine wp_region_ext (by kernel_rfl) (by kernel_rfl) ?_
    repeat (first
      | go_big_quiet_skip
      | (go_big_quiet_want
         go_big_quiet_op
         first
           | go_big_quiet_on
           | (apply Exists.intro
              refine ⟨fun _ => ?_, ?_⟩
              · first
                  | (go_at_call 64; exact Calls.ext_same (l00In_f _ _ _ (by omega) _))
              go_big_quiet_on)))
    refine wpQuiet_nil ?_
    intro w3 hb3
    go_wp2
    go_ret
    exact ⟨by rw [E.out]; rfl, below_trans hb1 hb3⟩
set_option maxHeartbeats 400000 in
theorem isCell_is (W H x y : Int) (s : Value) (w : World) (hs1 : s.cells = #[s]) (hW : i8ok W) (hH : i8ok H) (hx : i8ok x) (hy : i8ok y) (r : Bool) (hr : r = true ↔ isPt W H x y) :
    Calls Try.prog 90 #[.agg #[.int .i8 W, .int .i8 H, s], .agg #[.int .i8 x, .int .i8 y]] w fun e w' => e = .returned (.bool r) ∧ Below w.heap.size w w' := by
  obtain ⟨hW1, hW2⟩ := hW
  obtain ⟨hH1, hH2⟩ := hH
  obtain ⟨hx1, hx2⟩ := hx
  obtain ⟨hy1, hy2⟩ := hy
  obtain rfl : r = decide (isPt W H x y) := by rw [Bool.eq_iff_iff, hr]; simp
  clear hr
  go_enter Try.func90, Try.ntmps90
  by_cases h : 0 ≤ x ∧ x ≤ W - 1
  · have e : decide (isPt W H x y) = (decide (0 ≤ y) && decide (y ≤ H - 1)) := by simp [isPt, h]
    have E := Lib.hid e; clear e
    go_wp2_with (first
      | (go_at_call 50; refine (within_t _ _ _ (by omega) (by omega) _).mono ?_; rintro e w' ⟨rfl, rfl⟩)
      | (go_at_call 50; refine (within_d _ _ _ _).mono ?_; rintro e w' ⟨rfl, rfl⟩))
    go_ret
    exact ⟨by rw [E.out]; rfl, ((Below.refl _ _).alloc (Nat.le_refl _) _).alloc (by simp) _⟩
  · have e : decide (isPt W H x y) = false := decide_eq_false (by unfold isPt; omega)
    have E := Lib.hid e; clear e
    go_wp2_with (first
      | (go_at_call 50; refine (within_f _ _ _ (by omega) _).mono ?_; rintro e w' ⟨rfl, rfl⟩))
    go_ret
    exact ⟨by rw [E.out]; rfl, ((Below.refl _ _).alloc (Nat.le_refl _) _).alloc (by simp) _⟩
set_option maxHeartbeats 400000 in
theorem frame_is (G : Gd) (gl : Value) (w : World) :
    Calls Try.prog 89 #[.agg (gc G gl)] w fun e w' => e = .returned (.agg #[.int .i8 G.W, .int .i8 G.H, .slice none 0 0]) ∧ Below w.heap.size w w' := by
  go_enter Try.func89, Try.ntmps89
  go_wp2_with (first
    | (with_reducible refine wpList_box 1 rfl rfl 33 _ rfl (.agg (gc G gl)) rfl (gc G gl) rfl ?_; intro g1 w1 b1 hb1 _hs1;  have c0 := (blk_cell b1 0).trans (gc_0 G gl); have c1 := (blk_cell b1 1).trans (gc_1 G gl); have hlt := blk_lt b1))
  exact bodyPost_ret (v := .agg #[.int .i8 G.W, .int .i8 G.H, .slice none 0 0]) (by simp [results, Try.results89, go_sem]) rfl ⟨rfl, hb1.trans ((Below.refl _ _).alloc hb1.size _)⟩
set_option maxHeartbeats 400000 in
theorem isPoint_is (G : Gd) (gl : Value) (hG : GdOk G) (x y : Int) (w : World) (hx : i8ok x) (hy : i8ok y) (r : Bool) (hr : r = true ↔ isPt G.W G.H x y) :
    Calls Try.prog 51 #[.agg (gc G gl), .agg #[.int .i8 x, .int .i8 y]] w fun e w' => e = .returned (.bool r) ∧ Below w.heap.size w w' := by
  go_enter Try.func51, Try.ntmps51
  go_wp2_with (first
    | (with_reducible refine wpList_box 2 rfl rfl 33 _ rfl (.agg (gc G gl)) rfl (gc G gl) rfl ?_; intro g1 w1 b1 hb1 _hs1)
    | (with_reducible refine wpList_box 3 rfl rfl 40 _ rfl (.agg #[.int .i8 x, .int .i8 y]) rfl #[.int .i8 x, .int .i8 y] rfl ?_; intro g2 w2 b2 hb2 _hs2))
  have b1' := blk_below hb2 b1
  have d0 := ext_cell (v := .int .i8 x) ((blk_cell b2 0).trans rfl)
  have d1 := ext_cell (v := .int .i8 y) ((blk_cell b2 1).trans rfl)
  try simp only [Act.put, List.setIfInBounds_toArray, List.set_cons_zero, List.set_cons_succ]
  refine wp_region_ext (by kernel_rfl) (by kernel_rfl) ?_
  repeat (first
    | go_big_quiet_skip
    | (go_big_quiet_want; with_reducible refine quiet_load_row 33 _ rfl g1 rfl 33 (gc G gl) (0, 0) _ (by rintro _ ⟨p, rfl⟩; exact ext_blk b1' p) Try.underlying33 rfl (gc_info G gl hG) ?_; (simp only [Act.put, List.setIfInBounds_toArray, List.set_cons_zero, List.set_cons_succ]); go_big_quiet_on)
    | (go_big_quiet_want
       go_big_quiet_op
       first
         | go_big_quiet_on
         | (apply Exists.intro
            refine ⟨fun _ => ?_, ?_⟩
            · first
                | (go_at_call 89; exact Calls.ext_of (frame_is _ _ _))
                | (go_at_call 90; exact Calls.ext_of (isCell_is _ _ _ _ _ _ rfl hG.W hG.H hx hy _ hr))
            go_big_quiet_on)))
  refine wpQuiet_nil ?_
  intro w3 hb3
  go_wp2
  go_ret
  exact ⟨rfl, below_trans (below_trans hb1 hb2) hb3⟩
end Go.Proofs.Ytkhheofgnhndbaa
/- Cells and rows of cells: copies, comparisons. -/
namespace Go.Proofs.Ytkhheofgnhndbaa
set_option linter.unusedVariables false
set_option linter.unusedSimpArgs false
open Go.RowKit
set_option maxHeartbeats 400000 in
theorem toCell_is (x y : Int) (w : World) : Calls Try.prog 29 #[.agg #[.int .i8 x, .int .i8 y]] w fun e w' => e = .returned (.agg #[.int .i8 x, .int .i8 y]) ∧ Below w.heap.size w w' := by
  go_enter Try.func29, Try.ntmps29
  go_wp2
  exact bodyPost_ret (v := .agg #[.int .i8 x, .int .i8 y]) (by simp [results, Try.results29, go_sem]) rfl ⟨rfl, (((Below.refl _ _).alloc (Nat.le_refl _) _).alloc (by simp) _).alloc (by simp; omega) _⟩
theorem eqCell_t (x y : Int) (w : World) : Calls Try.prog 23 #[.agg #[.int .i8 x, .int .i8 y], .agg #[.int .i8 x, .int .i8 y]] w fun e w' => e = .returned (.bool true) ∧ Below w.heap.size w w' := by
  go_enter Try.func23, Try.ntmps23
  have h1 : (x != x) = false := by simp
  have h2 : (y != y) = false := by simp
  go_wp2
  go_ret
  exact ⟨rfl, ((Below.refl _ _).alloc (Nat.le_refl _) _).alloc (by simp) _⟩
/-- Element j of a row of cells. -/
def CellAt (w : World) (ad : Addr) (j : Nat) (p : Int × Int) : Prop :=
  w.cell? (ad.add (j * 2)) = some (.int .i8 p.1) ∧ w.cell? ⟨(ad.add (j * 2)).block, (ad.add (j * 2)).off + 1, none⟩ = some (.int .i8 p.2)
theorem CellAt.below {w w1 : World} {ad : Addr} {j : Nat} {p : Int × Int} (h : CellAt w ad j p) (hb : Below w.heap.size w w1) : CellAt w1 ad j p := ⟨cell_below hb h.1, cell_below hb h.2⟩
/-- A slice of cells that is read. -/
def Cs (w : World) (v : Value) (xs : List (Int × Int)) : Prop :=
  ∃ A c, v = .slice A xs.length c ∧ xs.length ≤ c ∧ c ≤ maxLen ∧ (0 < xs.length → ∃ ad, A = some ad ∧ ∀ j, j < xs.length → CellAt w ad j (xs.getD j (0, 0)))
theorem Cs.below {w w1 : World} {v : Value} {xs : List (Int × Int)} (h : Cs w v xs) (hb : Below w.heap.size w w1) : Cs w1 v xs := by
  obtain ⟨A, c, e, h1, h2, h3⟩ := h
  exact ⟨A, c, e, h1, h2, fun h0 => by obtain ⟨ad, e, h⟩ := h3 h0; exact ⟨ad, e, fun j hj => (h j hj).below hb⟩⟩
theorem wrap_sz (n : Nat) (hn : n ≤ maxLen) : wrap64 (1048576 - (n : Int)) = 1048576 - (n : Int) := by
  unfold maxLen at hn
  unfold wrap64
  omega
theorem szCellS_is (xs : List (Int × Int)) (v : Value) (w : World) (hv : Cs w v xs) (r : Int) (hr : (if 1048576 - (xs.length : Int) < 0 then -1 else 1048576 - (xs.length : Int)) = r) :
    Calls Try.prog 31 #[v, .int .i64 1048576] w fun e w' => e = .returned (.int .i64 r) ∧ w = w' := by
  obtain ⟨A, c, rfl, h1, h2, h3⟩ := hv
  have hw := wrap_sz xs.length (Nat.le_trans h1 h2)
  go_enter Try.func31, Try.ntmps31
  clear h3 h2 h1
  by_cases h : 1048576 - (xs.length : Int) < 0
  · rw [if_pos h] at hr
    subst hr
    go_wp2
    go_ret
    exact ⟨rfl, rfl⟩
  · rw [if_neg h] at hr
    have HR := Lib.hid hr
    clear hr
    go_wp2
    go_ret
    exact ⟨by rw [← HR.out]; rfl, rfl⟩
theorem Cs.slice {w : World} {xs : List (Int × Int)} {A : Option Addr} {n c : Nat} (h : Cs w (.slice A n c) xs) : n = xs.length := by
  obtain ⟨A', c', e, _⟩ := h
  injection e
def eqPost (w : World) (r : Bool) (e : Ending) (w' : World) : Prop := e = .returned (.bool r) ∧ Below w.heap.size w w'
set_option maxHeartbeats 800000 in
theorem eqCellS_t (xs : List (Int × Int)) (v u : Value) (w : World) (hv : Cs w v xs) (hu : Cs w u xs) (hl : xs.length ≤ 1048576) :
    Calls Try.prog 35 #[v, u] w (eqPost w true) := by
  obtain ⟨A, c, rfl, h1, h2, h3⟩ := hv
  obtain ⟨B, d, rfl, g1, g2, g3⟩ := hu
  clear h2 g2
  have H3 := Lib.hid h3
  have G3 := Lib.hid g3
  clear h3 g3
  go_enter Try.func35, Try.ntmps35
  have h1 : ((xs.length : Int) != (xs.length : Int)) = false := by simp
  go_wp2
  go_loopw [5] (fun i wr => ∃ k : Nat, k ≤ xs.length ∧ i = .int .i64 k ∧ Below w.heap.size w wr) (fun i _ => xs.length - (intOf i).toNat)
  case atStart => exact ⟨0, Nat.zero_le _, rfl, Below.refl _ _⟩
  case round =>
    obtain ⟨k, hk, rfl, hB⟩ := hrel
    by_cases hlt : k < xs.length
    · obtain ⟨ad, rfl, hc⟩ := H3.out (by omega)
      obtain ⟨be, rfl, hd⟩ := G3.out (by omega)
      have c1 := ext_cell ((hc k hlt).below hB).1
      have c2 := ext_cell ((hc k hlt).below hB).2
      have d1 := ext_cell ((hd k hlt).below hB).1
      have d2 := ext_cell ((hd k hlt).below hB).2
      clear hc hd
      go_wp2
      try simp only [Act.put, List.setIfInBounds_toArray, List.set_cons_zero, List.set_cons_succ]
      refine wp_region_ext (by kernel_rfl) (by kernel_rfl) ?_
      repeat (first
        | go_big_quiet_skip
        | (go_big_quiet_want
           go_big_quiet_op
           first
             | go_big_quiet_on
             | (apply Exists.intro
                refine ⟨fun _ => ?_, ?_⟩
                · first
                    | (go_at_call 23; exact Calls.ext_of (eqCell_t _ _ _))
                go_big_quiet_on)))
      refine wpQuiet_nil ?_
      intro w3 hb3
      go_wp2
      go_roundw
      case rel => exact ⟨k + 1, by omega, by go_num, below_trans hB hb3⟩
      case measure => simp [intOf]; omega
    · go_wp2
      go_ret
      exact ⟨rfl, hB⟩
end Go.Proofs.Ytkhheofgnhndbaa
/- Copies of rows and arrays. -/
namespace Go.Proofs.Ytkhheofgnhndbaa
set_option linter.unusedVariables false
set_option linter.unusedSimpArgs false
open Go.RowKit
/-- The cells of a row of cells. -/
def pc (xs : List (Int × Int)) : List Value := xs.flatMap fun p => [.int .i8 p.1, .int .i8 p.2]
theorem pc_length (xs : List (Int × Int)) : (pc xs).length = xs.length * 2 := by
  induction xs with
  | nil => rfl
  | cons p xs ih => simp [pc] at ih ⊢; omega
theorem pc_append (xs ys : List (Int × Int)) : pc (xs ++ ys) = pc xs ++ pc ys := by simp [pc]
theorem pc_get (xs : List (Int × Int)) (j : Nat) (hj : j < xs.length) : (pc xs)[j * 2]? = some (.int .i8 (xs.getD j (0, 0)).1) ∧ (pc xs)[j * 2 + 1]? = some (.int .i8 (xs.getD j (0, 0)).2) := by
  induction xs generalizing j with
  | nil => simp at hj
  | cons p xs ih =>
    cases j with
    | zero => simp [pc]
    | succ j =>
      have := ih j (by simpa using hj)
      simp only [pc, List.flatMap_cons] at this ⊢
      have e : (j + 1) * 2 = j * 2 + 1 + 1 := by omega
      simp only [e, List.cons_append, List.nil_append, List.getElem?_cons_succ, List.getD_cons_succ]
      exact this
theorem pc_set (xs : List (Int × Int)) (k : Nat) (hk : k < xs.length) (x y : Int) :
    (pc xs).take (k * 2) ++ [.int .i8 x, .int .i8 y] ++ (pc xs).drop (k * 2 + 2) = pc (xs.set k (x, y)) := by
  induction xs generalizing k with
  | nil => simp at hk
  | cons p xs ih =>
    cases k with
    | zero => simp [pc]
    | succ k =>
      have := ih k (by simpa using hk)
      simp only [pc, List.flatMap_cons, List.set_cons_succ] at this ⊢
      have e : (k + 1) * 2 = k * 2 + 1 + 1 := by omega
      have e2 : (k + 1) * 2 + 2 = (k * 2 + 2) + 1 + 1 := by omega
      rw [e2, e]
      simp only [List.cons_append, List.nil_append, List.take_succ_cons, List.drop_succ_cons]
      rw [← this]
/-- A row of the call's own. -/
def MadeC (w : World) (xs : List (Int × Int)) (v : Value) (w' : World) : Prop :=
  ∃ g, v = .slice (some ⟨g, 0, none⟩) xs.length xs.length ∧ w'.heap[g]? = some (.cells (pc xs).toArray 40 (0, 0)) ∧ w.heap.size ≤ g
theorem MadeC.cs {w w' : World} {xs : List (Int × Int)} {v : Value} (h : MadeC w xs v w') (hl : xs.length ≤ 1048576) : Cs w' v xs := by
  obtain ⟨g, rfl, hg, _⟩ := h
  refine ⟨_, _, rfl, Nat.le_refl _, by unfold maxLen; omega, fun _ => ⟨_, rfl, fun j hj => ?_⟩⟩
  have := pc_get xs j hj
  have ha : (⟨g, 0, none⟩ : Addr).add (j * 2) = ⟨g, j * 2, none⟩ := by rw [Addr.add_mid]; simp
  constructor
  · rw [ha, blk_cell hg]; simpa using this.1
  · rw [ha, blk_cell hg]; simpa using this.2
def toPost (w : World) (xs : List (Int × Int)) (e : Ending) (w' : World) : Prop := ∃ v, e = .returned v ∧ MadeC w xs v w' ∧ Below w.heap.size w w'
theorem set_take_rep (xs : List (Int × Int)) (k : Nat) (hk : k < xs.length) :
    (xs.take k ++ List.replicate (xs.length - k) (0, 0)).set k (xs.getD k (0, 0)) = xs.take (k + 1) ++ List.replicate (xs.length - (k + 1)) (0, 0) := by
  apply List.ext_getElem?
  intro i
  rw [List.getElem?_set]
  have hl : (xs.take k ++ List.replicate (xs.length - k) ((0 : Int), (0 : Int))).length = xs.length := by simp; omega
  by_cases hik : k = i
  · subst hik
    rw [if_pos rfl, if_pos (by omega), List.getElem?_append_left (by simp; omega), List.getElem?_take_of_lt (by omega), List.getD_eq_getElem?_getD, List.getElem?_eq_getElem hk]
    rfl
  · rw [if_neg hik]
    by_cases h1 : i < k
    · rw [List.getElem?_append_left (by simp; omega), List.getElem?_append_left (by simp; omega), List.getElem?_take_of_lt h1, List.getElem?_take_of_lt (by omega)]
    · rw [List.getElem?_append_right (by simp; omega), List.getElem?_append_right (by simp; omega)]
      simp only [List.length_take, List.getElem?_replicate]
      split <;> split <;> first | rfl | omega
theorem made_pc (n : Nat) : madeCells (Value.agg #[.int .i8 0, .int .i8 0]).cells (n * 2) = (pc (List.replicate n (0, 0))).toArray := by
  apply Array.ext
  · simp [madeCells, pc_length]
  · intro i h1 h2
    have h1' : i < n * 2 := by simpa [madeCells] using h1
    have e := pc_get (List.replicate n ((0 : Int), (0 : Int))) (i / 2) (by simp; omega)
    have e0 : (List.replicate n ((0 : Int), (0 : Int))).getD (i / 2) (0, 0) = (0, 0) := by
      rw [List.getD_eq_getElem?_getD, List.getElem?_replicate]; split <;> rfl
    rw [e0] at e
    simp only [madeCells, Value.cells, Array.getElem_map, Array.getElem_range, List.getElem_toArray]
    rcases Nat.mod_two_eq_zero_or_one i with hm | hm
    · have hi : i / 2 * 2 = i := by omega
      rw [hi] at e
      have := (List.getElem?_eq_some_iff.1 e.1).2
      rw [this]
      simp [hm]
    · have hi : i / 2 * 2 + 1 = i := by omega
      rw [hi] at e
      have := (List.getElem?_eq_some_iff.1 e.2).2
      rw [this]
      simp [hm]
set_option maxHeartbeats 800000 in
theorem toCellS_is (xs : List (Int × Int)) (v : Value) (w : World) (hv : Cs w v xs) (hl : xs.length ≤ 1048576) :
    Calls Try.prog 33 #[v] w (toPost w xs) := by
  obtain ⟨A, c, rfl, h1, h2, h3⟩ := hv
  have H3 := Lib.hid h3
  clear h3 h2
  go_enter Try.func33, Try.ntmps33
  go_wp2_with (first
    | (with_reducible refine wpList_makeB rfl 31 _ _ rfl 40 (.agg #[.int .i8 0, .int .i8 0]) 2 2 Try.underlying31 (by kernel_rfl) xs.length rfl rfl (by omega) (by omega) _ (made_pc _) ?_; intro g w1 b1 hb1 hs1))
  go_loopw [4] (fun i wr => ∃ k : Nat, k ≤ xs.length ∧ i = .int .i64 k ∧ Below w.heap.size w wr ∧ wr.heap[g]? = some (.cells (pc (xs.take k ++ List.replicate (xs.length - k) (0, 0))).toArray 40 (0, 0))) (fun i _ => xs.length - (intOf i).toNat)
  case atStart => exact ⟨0, Nat.zero_le _, rfl, hb1, by simpa using b1⟩
  case round =>
    obtain ⟨k, hk, rfl, hB, hG⟩ := hrel
    by_cases hlt : k < xs.length
    · obtain ⟨ad, rfl, hc⟩ := H3.out (by omega)
      have hc' := (hc k hlt).below hB
      clear hc
      revert hc'
      generalize hp : xs.getD k (0, 0) = p
      intro hc'
      have Hp := Lib.hid hp
      clear hp
      obtain ⟨px, py⟩ := p
      obtain ⟨c1, c2⟩ := hc'
      dsimp only at c1 c2
      go_wp2_with (first
        | (go_at_call 29; refine (toCell_is _ _ _).mono ?_; rintro e w3 ⟨rfl, hb3⟩; have hG3 := blk_below hb3 hG)
        | (with_reducible refine wpList_storeB rfl 40 _ _ rfl g (k * 2) (.agg #[.int .i8 px, .int .i8 py]) #[.int .i8 px, .int .i8 py] rfl rfl rfl _ 40 hG3 (by kernel_rfl) (by simp [Value.oneCell']) (by simp [pc_length]; omega) _ rfl ?_; intro w4 hG4 hS4))
      go_roundw
      case rel =>
        refine ⟨k + 1, by omega, by go_num, hS4.below (below_trans hB hb3) hs1, ?_⟩
        rw [hG4, ← set_take_rep xs k hlt, Hp.out]
        simp only [List.toList_toArray, List.size_toArray, List.length_cons, List.length_nil]
        rw [pc_set _ _ (by simp; omega)]
      case measure => simp [intOf]; omega
    · obtain rfl : k = xs.length := by omega
      go_wp2
      go_ret
      exact ⟨_, rfl, ⟨g, rfl, by rw [hG]; simp, hs1⟩, hB⟩
end Go.Proofs.Ytkhheofgnhndbaa
/- Arrays of heights and whole grounds: copies, comparisons. -/
namespace Go.Proofs.Ytkhheofgnhndbaa
set_option linter.unusedVariables false
set_option linter.unusedSimpArgs false
open Go.RowKit
def i16s (l : List Int) : List Value := l.map (Value.int .i16)
theorem i16s_get (l : List Int) (k : Nat) (hk : k < l.length) : (i16s l)[k]? = some (.int .i16 (l.getD k 0)) := by
  simp [i16s, List.getD_eq_getElem?_getD, List.getElem?_eq_getElem hk]
theorem i16s_len (l : List Int) : (i16s l).length = l.length := by simp [i16s]
theorem i16s_one (l : List Int) : ∀ u ∈ i16s l, u.oneCell' = true := by
  intro u hu
  simp only [i16s, List.mem_map] at hu
  obtain ⟨x, _, rfl⟩ := hu
  rfl
theorem splice_seg (l : List Int) (n k m : Nat) (hl : l.length = n) (hk : k + m ≤ n) :
    (i16s (l.take k ++ List.replicate (n - k) 0)).take k ++ i16s ((l.drop k).take m) ++ (i16s (l.take k ++ List.replicate (n - k) 0)).drop (k + m) = i16s (l.take (k + m) ++ List.replicate (n - (k + m)) 0) := by
  simp only [i16s, ← List.map_take, ← List.map_drop, ← List.map_append]
  congr 1
  have h1 : (l.take k ++ List.replicate (n - k) 0).take k = l.take k := by
    rw [List.take_append_of_le_length (by simp; omega), List.take_take, Nat.min_self]
  have h2 : (l.take k ++ List.replicate (n - k) 0).drop (k + m) = List.replicate (n - (k + m)) 0 := by
    rw [List.drop_append, List.drop_of_length_le (by simp; omega)]
    simp
    omega
  rw [h1, h2, List.take_add]
theorem row_info (l : List Int) (hl : l.length = 9) : (Try.prog.info? 24).map (·.size) = some (i16s l).toArray.size := by simp only [List.size_toArray, i16s_len, hl]; kernel_rfl
set_option maxHeartbeats 800000 in
theorem toRow_is (l : List Int) (hl : l.length = 9) (w : World) :
    Calls Try.prog 88 #[.agg (i16s l).toArray] w fun e w' => e = .returned (.agg (i16s l).toArray) ∧ Below w.heap.size w w' := by
  go_enter Try.func88, Try.ntmps88
  go_wp2_with (first
    | (with_reducible refine wpList_box 1 rfl rfl 24 _ rfl (.agg (i16s l).toArray) rfl (i16s l).toArray rfl ?_; intro g1 w1 b1 hb1 _hs1)
    | (with_reducible refine wpList_allocB 2 rfl rfl 24 rfl (.agg (i16s (List.replicate 9 0)).toArray) (i16s (List.replicate 9 0)).toArray (by kernel_rfl) rfl ?_; intro g2 w2 b2 hb2 _hs2; have n1_2 : g1 < g2 := Nat.lt_of_lt_of_le (blk_lt b1) _hs2; have b1 := blk_below hb2 b1)
    | (with_reducible refine wpList_allocB 3 rfl rfl 24 rfl (.agg (i16s (List.replicate 9 0)).toArray) (i16s (List.replicate 9 0)).toArray (by kernel_rfl) rfl ?_; intro g3 w3 b3 hb3 _hs3; have n1_3 : g1 < g3 := Nat.lt_of_lt_of_le (blk_lt b1) _hs3; have n2_3 : g2 < g3 := Nat.lt_of_lt_of_le (blk_lt b2) _hs3; have b1 := blk_below hb3 b1; have b2 := blk_below hb3 b2))
  have hB0 : Below w.heap.size w w3 := below_trans (below_trans hb1 hb2) hb3
  have hs2 : w.heap.size ≤ g2 := Nat.le_trans hb1.size _hs2
  have hs3 : w.heap.size ≤ g3 := Nat.le_trans (below_trans hb1 hb2).size _hs3
  go_loopw [4] (fun i wr => ∃ k : Nat, k ≤ 9 ∧ i = .int .i64 k ∧ Below w.heap.size w wr ∧ wr.heap[g1]? = some (.cells (i16s l).toArray 24 (0, 0)) ∧ wr.heap[g2]? = some (.cells (i16s (List.replicate 9 0)).toArray 24 (0, 0)) ∧ wr.heap[g3]? = some (.cells (i16s (l.take k ++ List.replicate (9 - k) 0)).toArray 24 (0, 0))) (fun i _ => 9 - (intOf i).toNat)
  case atStart => exact ⟨0, Nat.zero_le _, rfl, hB0, b1, b2, by simpa using b3⟩
  case round =>
    obtain ⟨k, hk, rfl, hB, c1, c2, c3⟩ := hrel
    by_cases hlt : k < 9
    · have e1 : wr.cell? ⟨g1, k, none⟩ = some (.int .i16 (l.getD k 0)) := (blk_cell c1 k).trans (by simpa using i16s_get l k (by omega))
      go_wp2_with (first
        | (with_reducible refine wpList_storeB rfl 23 _ _ rfl g3 k (.int .i16 (l[k]'(by omega))) #[.int .i16 (l[k]'(by omega))] rfl rfl rfl _ 24 c3 (by kernel_rfl) (by simp [Value.oneCell']) (by simp [i16s_len]; omega) _ rfl ?_; intro w4 c4 hS4))
      refine ⟨⟨k + 1, by omega, by go_num, hS4.below hB hs3, hS4.blk c1 (by omega), hS4.blk c2 (by omega), ?_⟩, by simp [intOf]; omega⟩
      rw [c4, ← splice_seg l 9 k 1 hl (by omega), List.drop_eq_getElem_cons (show k < l.length by omega)]
      rfl
    · obtain rfl : k = 9 := by omega
      have c3' : wr.heap[g3]? = some (.cells (i16s l).toArray 24 (0, 0)) := by rw [c3]; simp [List.take_of_length_le (show l.length ≤ 9 by omega)]
      clear c3
      go_wp2_with (first
        | (with_reducible refine wpList_load_row rfl 24 _ rfl g3 rfl 24 (i16s l).toArray (0, 0) _ c3' Try.underlying24 rfl (row_info l hl) ?_)
        | (with_reducible refine wpList_storeB rfl 24 _ _ rfl g2 0 (.agg (i16s l).toArray) (i16s l).toArray rfl rfl rfl _ 24 c2 (row_info l hl) (by simpa using i16s_one l) (by simp [i16s_len, hl]) (i16s l).toArray (by simp [i16s_len, hl]) ?_; intro w4 c4 hS4))
      exact bodyPost_ret (v := .agg (i16s l).toArray) (results_cell_row rfl _ _ g2 24 (i16s l).toArray (0, 0) _ rfl c4 Try.underlying24 rfl (row_info l hl)) rfl ⟨rfl, hS4.below hB hs2⟩
theorem rows_info (l : List Int) (hl : l.length = 81) : (Try.prog.info? 25).map (·.size) = some (i16s l).toArray.size := by simp only [List.size_toArray, i16s_len, hl]; kernel_rfl
theorem i16s_seg (l : List Int) (k m : Nat) (i : Nat) (v : Value) (h : (i16s ((l.drop k).take m))[i]? = some v) : (i16s l).toArray[k + i]? = some v := by
  simp only [i16s, List.map_take, List.map_drop] at h
  rw [List.getElem?_take] at h
  split at h
  · rw [List.getElem?_drop] at h
    simpa [i16s] using h
  · cases h
set_option maxHeartbeats 800000 in
theorem toRows_is (l : List Int) (hl : l.length = 81) (w : World) :
    Calls Try.prog 49 #[.agg (i16s l).toArray] w fun e w' => e = .returned (.agg (i16s l).toArray) ∧ Below w.heap.size w w' := by
  go_enter Try.func49, Try.ntmps49
  go_wp2_with (first
    | (with_reducible refine wpList_box 1 rfl rfl 25 _ rfl (.agg (i16s l).toArray) rfl (i16s l).toArray rfl ?_; intro g1 w1 b1 hb1 _hs1)
    | (with_reducible refine wpList_allocB 2 rfl rfl 25 rfl (.agg (i16s (List.replicate 81 0)).toArray) (i16s (List.replicate 81 0)).toArray (by kernel_rfl) rfl ?_; intro g2 w2 b2 hb2 _hs2; have n1_2 : g1 < g2 := Nat.lt_of_lt_of_le (blk_lt b1) _hs2; have b1 := blk_below hb2 b1)
    | (with_reducible refine wpList_allocB 3 rfl rfl 25 rfl (.agg (i16s (List.replicate 81 0)).toArray) (i16s (List.replicate 81 0)).toArray (by kernel_rfl) rfl ?_; intro g3 w3 b3 hb3 _hs3; have n1_3 : g1 < g3 := Nat.lt_of_lt_of_le (blk_lt b1) _hs3; have n2_3 : g2 < g3 := Nat.lt_of_lt_of_le (blk_lt b2) _hs3; have b1 := blk_below hb3 b1; have b2 := blk_below hb3 b2))
  have hB0 : Below w.heap.size w w3 := below_trans (below_trans hb1 hb2) hb3
  have hs2 : w.heap.size ≤ g2 := Nat.le_trans hb1.size _hs2
  have hs3 : w.heap.size ≤ g3 := Nat.le_trans (below_trans hb1 hb2).size _hs3
  go_loopw [4] (fun i wr => ∃ k : Nat, k ≤ 9 ∧ i = .int .i64 k ∧ Below w.heap.size w wr ∧ wr.heap[g1]? = some (.cells (i16s l).toArray 25 (0, 0)) ∧ wr.heap[g2]? = some (.cells (i16s (List.replicate 81 0)).toArray 25 (0, 0)) ∧ wr.heap[g3]? = some (.cells (i16s (l.take (k * 9) ++ List.replicate (81 - k * 9) 0)).toArray 25 (0, 0))) (fun i _ => 9 - (intOf i).toNat)
  case atStart => exact ⟨0, Nat.zero_le _, rfl, hB0, b1, b2, by simpa using b3⟩
  case round =>
    obtain ⟨k, hk, rfl, hB, c1, c2, c3⟩ := hrel
    by_cases hlt : k < 9
    · obtain ⟨row, hrow⟩ : ∃ r, (l.drop (k * 9)).take 9 = r := ⟨_, rfl⟩
      have hrl : row.length = 9 := by rw [← hrow]; simp; omega
      have c1r : wr.rangeAt g1 (k * 9) (i16s row) := range_of_blk c1 _ (fun i v h => by rw [← hrow] at h; exact i16s_seg l _ _ i v h)
      have Hrow := Lib.hid hrow
      clear hrow
      go_wp2_with (first
        | (with_reducible refine wpList_load_mid rfl 24 _ rfl g1 (k * 9) rfl (i16s row) _ c1r Try.underlying24 rfl (by rw [i16s_len, hrl]; kernel_rfl) ?_)
        | (go_at_call 88; refine (toRow_is row hrl _).mono ?_; rintro e w5 ⟨rfl, hb5⟩; have c3 := blk_below hb5 c3; have c1 := blk_below hb5 c1; have c2 := blk_below hb5 c2)
        | (with_reducible refine wpList_storeB rfl 24 _ _ rfl g3 (k * 9) (.agg (i16s row).toArray) (i16s row).toArray rfl rfl rfl _ 25 c3 (row_info row hrl) (by simpa using i16s_one row) (by simp [i16s_len]; omega) _ rfl ?_; intro w6 c6 hS6))
      refine ⟨⟨k + 1, by omega, by go_num, hS6.below (below_trans hB hb5) hs3, hS6.blk c1 (by omega), hS6.blk c2 (by omega), ?_⟩, by simp [intOf]; omega⟩
      rw [c6, show (k + 1) * 9 = k * 9 + 9 by omega, ← splice_seg l 81 (k * 9) 9 hl (by omega), Hrow.out]
      simp [i16s_len, hrl]
    · obtain rfl : k = 9 := by omega
      have c3' : wr.heap[g3]? = some (.cells (i16s l).toArray 25 (0, 0)) := by rw [c3]; simp [List.take_of_length_le (show l.length ≤ 81 by omega)]
      clear c3
      go_wp2_with (first
        | (with_reducible refine wpList_load_row rfl 25 _ rfl g3 rfl 25 (i16s l).toArray (0, 0) _ c3' Try.underlying25 rfl (rows_info l hl) ?_)
        | (with_reducible refine wpList_storeB rfl 25 _ _ rfl g2 0 (.agg (i16s l).toArray) (i16s l).toArray rfl rfl rfl _ 25 c2 (rows_info l hl) (by simpa using i16s_one l) (by simp [i16s_len, hl]) (i16s l).toArray (by simp [i16s_len, hl]) ?_; intro w4 c4 hS4))
      exact bodyPost_ret (v := .agg (i16s l).toArray) (results_cell_row rfl _ _ g2 25 (i16s l).toArray (0, 0) _ rfl c4 Try.underlying25 rfl (rows_info l hl)) rfl ⟨rfl, hS4.below hB hs2⟩
set_option maxHeartbeats 800000 in
theorem eqRow_t (l : List Int) (hl : l.length = 9) (w : World) :
    Calls Try.prog 93 #[.agg (i16s l).toArray, .agg (i16s l).toArray] w fun e w' => e = .returned (.bool true) ∧ Below w.heap.size w w' := by
  go_enter Try.func93, Try.ntmps93
  go_wp2_with (first
    | (with_reducible refine wpList_box 2 rfl rfl 24 _ rfl (.agg (i16s l).toArray) rfl (i16s l).toArray rfl ?_; intro g1 w1 b1 hb1 _hs1)
    | (with_reducible refine wpList_box 3 rfl rfl 24 _ rfl (.agg (i16s l).toArray) rfl (i16s l).toArray rfl ?_; intro g2 w2 b2 hb2 _hs2; have n1_2 : g1 < g2 := Nat.lt_of_lt_of_le (blk_lt b1) _hs2; have b1 := blk_below hb2 b1))
  have hB0 : Below w.heap.size w w2 := below_trans hb1 hb2
  go_loopw [5] (fun i wr => ∃ k : Nat, k ≤ 9 ∧ i = .int .i64 k ∧ Below w2.heap.size w2 wr) (fun i _ => 9 - (intOf i).toNat)
  case atStart => exact ⟨0, Nat.zero_le _, rfl, Below.refl _ _⟩
  case round =>
    obtain ⟨k, hk, rfl, hB⟩ := hrel
    by_cases hlt : k < 9
    · have e1 := ext_cell ((blk_cell (blk_below hB b1) k).trans (by simpa using i16s_get l k (by omega)))
      have e2 := ext_cell ((blk_cell (blk_below hB b2) k).trans (by simpa using i16s_get l k (by omega)))
      go_wp2
      try simp only [Act.put, List.setIfInBounds_toArray, List.set_cons_zero, List.set_cons_succ]
      refine wp_region_ext (by kernel_rfl) (by kernel_rfl) ?_
      repeat (first
        | go_big_quiet_skip
        | (go_big_quiet_want
           go_big_quiet_op
           first
             | go_big_quiet_on))
      refine wpQuiet_nil ?_
      intro w3 hb3
      go_wp2
      go_roundw
      case rel => exact ⟨k + 1, by omega, by go_num, below_trans hB hb3⟩
      case measure => simp [intOf]; omega
    · go_wp2
      go_ret
      exact ⟨rfl, below_trans hB0 hB⟩
set_option maxHeartbeats 800000 in
theorem eqRows_t (l : List Int) (hl : l.length = 81) (w : World) :
    Calls Try.prog 53 #[.agg (i16s l).toArray, .agg (i16s l).toArray] w fun e w' => e = .returned (.bool true) ∧ Below w.heap.size w w' := by
  go_enter Try.func53, Try.ntmps53
  go_wp2_with (first
    | (with_reducible refine wpList_box 2 rfl rfl 25 _ rfl (.agg (i16s l).toArray) rfl (i16s l).toArray rfl ?_; intro g1 w1 b1 hb1 _hs1)
    | (with_reducible refine wpList_box 3 rfl rfl 25 _ rfl (.agg (i16s l).toArray) rfl (i16s l).toArray rfl ?_; intro g2 w2 b2 hb2 _hs2; have n1_2 : g1 < g2 := Nat.lt_of_lt_of_le (blk_lt b1) _hs2; have b1 := blk_below hb2 b1))
  have hB0 : Below w.heap.size w w2 := below_trans hb1 hb2
  go_loopw [5] (fun i wr => ∃ k : Nat, k ≤ 9 ∧ i = .int .i64 k ∧ Below w2.heap.size w2 wr) (fun i _ => 9 - (intOf i).toNat)
  case atStart => exact ⟨0, Nat.zero_le _, rfl, Below.refl _ _⟩
  case round =>
    obtain ⟨k, hk, rfl, hB⟩ := hrel
    by_cases hlt : k < 9
    · obtain ⟨row, hrow⟩ : ∃ r, (l.drop (k * 9)).take 9 = r := ⟨_, rfl⟩
      have hrl : row.length = 9 := by rw [← hrow]; simp; omega
      have r1 : wr.rangeAt g1 (k * 9) (i16s row) := range_of_blk (blk_below hB b1) _ (fun i v h => by rw [← hrow] at h; exact i16s_seg l _ _ i v h)
      have r2 : wr.rangeAt g2 (k * 9) (i16s row) := range_of_blk (blk_below hB b2) _ (fun i v h => by rw [← hrow] at h; exact i16s_seg l _ _ i v h)
      clear hrow
      go_wp2
      try simp only [Act.put, List.setIfInBounds_toArray, List.set_cons_zero, List.set_cons_succ]
      refine wp_region_ext (by kernel_rfl) (by kernel_rfl) ?_
      repeat (first
        | go_big_quiet_skip
        | (go_big_quiet_want; with_reducible refine quiet_loadB 24 _ rfl g1 (k * 9) rfl (i16s row) _ (by rintro _ ⟨p, rfl⟩; exact rangeAt.ext r1 p) Try.underlying24 rfl (by rw [i16s_len, hrl]; kernel_rfl) ?_; (simp only [Act.put, List.setIfInBounds_toArray, List.set_cons_zero, List.set_cons_succ]); go_big_quiet_on)
        | (go_big_quiet_want; with_reducible refine quiet_loadB 24 _ rfl g2 (k * 9) rfl (i16s row) _ (by rintro _ ⟨p, rfl⟩; exact rangeAt.ext r2 p) Try.underlying24 rfl (by rw [i16s_len, hrl]; kernel_rfl) ?_; (simp only [Act.put, List.setIfInBounds_toArray, List.set_cons_zero, List.set_cons_succ]); go_big_quiet_on)
        | (go_big_quiet_want
           go_big_quiet_op
           first
             | go_big_quiet_on
             | (apply Exists.intro
                refine ⟨fun _ => ?_, ?_⟩
                · first
                    | (go_at_call 93; exact Calls.ext_of (eqRow_t row hrl _))
                go_big_quiet_on)))
      refine wpQuiet_nil ?_
      intro w3 hb3
      go_wp2
      go_roundw
      case rel => exact ⟨k + 1, by omega, by go_num, below_trans hB hb3⟩
      case measure => simp [intOf]; omega
    · go_wp2
      go_ret
      exact ⟨rfl, below_trans hB0 hB⟩
end Go.Proofs.Ytkhheofgnhndbaa
/- Grounds: sizes, copies, comparisons. -/
namespace Go.Proofs.Ytkhheofgnhndbaa
set_option linter.unusedVariables false
set_option linter.unusedSimpArgs false
open Go.RowKit
def gz : Gd := ⟨0, 0, List.replicate 81 0, []⟩
theorem gc_list (G : Gd) (gl : Value) : (gc G gl).toList = [Value.int .i8 G.W] ++ ([Value.int .i8 G.H] ++ (i16s G.hs ++ [gl])) := by simp [gc, i16s]
theorem gc_setW (G : Gd) (gl : Value) (x : Int) : ((gc G gl).toList.take 0 ++ #[Value.int .i8 x].toList ++ (gc G gl).toList.drop (0 + #[Value.int .i8 x].size)).toArray = gc { G with W := x } gl := by
  simp [gc]
theorem gc_setH (G : Gd) (gl : Value) (x : Int) : ((gc G gl).toList.take 1 ++ #[Value.int .i8 x].toList ++ (gc G gl).toList.drop (1 + #[Value.int .i8 x].size)).toArray = gc { G with H := x } gl := by
  simp [gc]
theorem gc_setHs (G : Gd) (gl : Value) (l : List Int) (h : G.hs.length = 81) (hl : l.length = 81) : ((gc G gl).toList.take 2 ++ (i16s l).toArray.toList ++ (gc G gl).toList.drop (2 + (i16s l).toArray.size)).toArray = gc { G with hs := l } gl := by
  simp [gc, i16s, hl, h]
theorem gc_setGl (G : Gd) (gl v : Value) (h : G.hs.length = 81) : ((gc G gl).toList.take 83 ++ #[v].toList ++ (gc G gl).toList.drop (83 + #[v].size)).toArray = gc G v := by
  simp [gc, h]
theorem gc_seg (G : Gd) (gl : Value) (k : Nat) (v : Value) (h : (i16s G.hs)[k]? = some v) : (gc G gl)[2 + k]? = some v := by
  have hk : k < (i16s G.hs).length := (List.getElem?_eq_some_iff.1 h).1
  have e : 2 + k = k + 1 + 1 := by omega
  simp only [gc, List.getElem?_toArray, e, List.cons_append, List.getElem?_cons_succ]
  rw [List.getElem?_append_left (by simpa [i16s] using hk)]
  exact h
theorem gc_one (G : Gd) (gl : Value) (hgl : gl.oneCell' = true) : ∀ u ∈ (gc G gl).toList, u.oneCell' = true := by
  intro u hu
  simp only [gc, List.mem_append, List.mem_cons, List.mem_map, List.not_mem_nil, or_false] at hu
  rcases hu with (rfl | rfl | ⟨x, _, rfl⟩) | rfl
  · rfl
  · rfl
  · rfl
  · exact hgl
theorem gc_whole (G G' : Gd) (gl v : Value) (h : G.hs.length = 81) (h' : G'.hs.length = 81) : ((gc G' v).toList.take 0 ++ (gc G gl).toList ++ (gc G' v).toList.drop (0 + (gc G gl).size)).toArray = gc G gl := by
  rw [gc_size G gl h]
  have : (gc G' v).toList.length = 84 := by rw [Array.length_toList, gc_size G' v h']
  simp [List.drop_of_length_le (show (gc G' v).toList.length ≤ 84 by omega)]
def toGPost (w : World) (G : Gd) (e : Ending) (w' : World) : Prop := ∃ v, e = .returned (.agg (gc G v)) ∧ MadeC w G.gul v w' ∧ Below w.heap.size w w'
theorem gsize (G : Gd) (gl : Value) (h : G.hs.length = 81) : (Try.prog.info? 33).map (·.size) = some (gc G gl).size := by
  rw [gc_size G gl h]; kernel_rfl
set_option maxHeartbeats 1000000 in
theorem toGround_is (G : Gd) (gl : Value) (hG : GdOk G) (w : World) (hv : Cs w gl G.gul) (hl : G.gul.length ≤ 1048576) :
    Calls Try.prog 16 #[.agg (gc G gl)] w (toGPost w G) := by
  obtain ⟨W, H, hs, gul⟩ := G
  have hlen : hs.length = 81 := hG.len
  dsimp only at hv hl
  go_enter Try.func16, Try.ntmps16
  go_wp2_with (first
    | (with_reducible refine wpList_box 1 rfl rfl 28 _ rfl (.agg (gc ⟨W, H, hs, gul⟩ gl)) rfl (gc ⟨W, H, hs, gul⟩ gl) rfl ?_; intro g1 w1 b1 hb1 _hs1)
    | (with_reducible refine wpList_allocB 2 rfl rfl 33 rfl (.agg (gc gz (.slice none 0 0))) (gc gz (.slice none 0 0)) (by kernel_rfl) rfl ?_; intro g2 w2 b2 hb2 _hs2; have n1_2 : g1 < g2 := Nat.lt_of_lt_of_le (blk_lt b1) _hs2; have b1 := blk_below hb2 b1; have hs2 : w.heap.size ≤ g2 := Nat.le_trans hb1.size _hs2)
    | (with_reducible refine wpList_allocB 3 rfl rfl 33 rfl (.agg (gc gz (.slice none 0 0))) (gc gz (.slice none 0 0)) (by kernel_rfl) rfl ?_; intro g3 w3 b3 hb3 _hs3; have n1_3 : g1 < g3 := Nat.lt_of_lt_of_le (blk_lt b1) _hs3; have n2_3 : g2 < g3 := Nat.lt_of_lt_of_le (blk_lt b2) _hs3; have b1 := blk_below hb3 b1; have b2 := blk_below hb3 b2; have cW := (blk_cell b1 0).trans (gc_0 _ _); have hs3 : w.heap.size ≤ g3 := Nat.le_trans (below_trans hb1 hb2).size _hs3)
    | (with_reducible refine wpList_storeB rfl 22 _ _ rfl g3 0 (.int .i8 W) #[.int .i8 W] rfl rfl rfl _ 33 b3 (by kernel_rfl) (by simp [Value.oneCell']) (by rw [gc_size _ _ (by simp [gz])]; simp) _ (gc_setW _ _ _) ?_; intro w4 b4 hS4; have cH := (blk_cell (hS4.blk b1 (by omega)) 1).trans (gc_1 _ _))
    | (with_reducible refine wpList_storeB rfl 22 _ _ rfl g3 1 (.int .i8 H) #[.int .i8 H] rfl rfl rfl _ 33 b4 (by kernel_rfl) (by simp [Value.oneCell']) (by rw [gc_size _ _ (by simp [gz])]; simp) _ (gc_setH _ _ _) ?_; intro w5 b5 hS5; have r5 : w5.rangeAt g1 2 (i16s hs) := range_of_blk (hS5.blk (hS4.blk b1 (by omega)) (by omega)) _ (fun k v h => gc_seg ⟨W, H, hs, gul⟩ gl k v h))
    | (with_reducible refine wpList_load_mid rfl 25 _ rfl g1 2 rfl (i16s hs) _ r5 Try.underlying25 rfl (by rw [i16s_len, hlen]; kernel_rfl) ?_)
    | (go_at_call 49; refine (toRows_is hs hlen _).mono ?_; rintro e w6 ⟨rfl, hb6⟩; have b5 := blk_below hb6 b5; have b1 := blk_below hb6 (hS5.blk (hS4.blk b1 (by omega)) (by omega)); have b2 := blk_below hb6 (hS5.blk (hS4.blk b2 (by omega)) (by omega)); have hB6 : Below w.heap.size w w6 := below_trans (hS5.below (hS4.below (below_trans (below_trans hb1 hb2) hb3) hs3) hs3) hb6)
    | (with_reducible refine wpList_storeB rfl 25 _ _ rfl g3 2 (.agg (i16s hs).toArray) (i16s hs).toArray rfl rfl rfl _ 33 b5 (by simp only [List.size_toArray, i16s_len, hlen]; kernel_rfl) (by simpa using i16s_one hs) (by rw [gc_size _ _ (by simp [gz])]; simp [i16s_len, hlen]) _ (gc_setHs _ _ _ (by simp [gz]) hlen) ?_; intro w7 b7 hS7; have c83 := (blk_cell (hS7.blk b1 (by omega)) 83).trans (gc_83 _ _ hlen))
    | (go_at_call 33; refine (toCellS_is gul gl _ (hv.below (hS7.below hB6 hs3)) hl).mono ?_; rintro e w8 ⟨v, rfl, hM, hb8⟩; have b7 := blk_below hb8 b7; have b2 := blk_below hb8 (hS7.blk b2 (by omega)); have hB8 : Below w.heap.size w w8 := below_trans (hS7.below hB6 hs3) hb8; obtain ⟨g4, rfl, b4', hs4⟩ := hM; have hs4' : w.heap.size ≤ g4 := Nat.le_trans (hS7.below hB6 hs3).size hs4; have n3_4 : g3 < g4 := Nat.lt_of_lt_of_le (by have := blk_lt b5; rw [hS7.size]; exact this) hs4; have n2_4 : g2 < g4 := by omega)
    | (with_reducible refine wpList_storeB rfl 31 _ _ rfl g3 83 (.slice (some ⟨g4, 0, none⟩) gul.length gul.length) #[.slice (some ⟨g4, 0, none⟩) gul.length gul.length] rfl rfl rfl _ 33 b7 (by kernel_rfl) (by simp [Value.oneCell']) (by rw [gc_size _ _ hlen]; simp) _ (gc_setGl _ _ _ hlen) ?_; intro w9 b9 hS9)
    | (with_reducible refine wpList_load_row rfl 33 _ rfl g3 rfl 33 _ (0, 0) _ b9 Try.underlying33 rfl (gsize _ _ hlen) ?_)
    | (with_reducible refine wpList_storeB rfl 33 _ _ rfl g2 0 (.agg (gc ⟨W, H, hs, gz.gul⟩ (.slice (some ⟨g4, 0, none⟩) gul.length gul.length))) (gc ⟨W, H, hs, gz.gul⟩ (.slice (some ⟨g4, 0, none⟩) gul.length gul.length)) rfl rfl rfl _ 33 (hS9.blk b2 (by omega)) (gsize _ _ hlen) (gc_one _ _ rfl) (by rw [gc_size _ _ hlen, gc_size _ _ (by simp [gz])]; simp) (gc ⟨W, H, hs, gz.gul⟩ (.slice (some ⟨g4, 0, none⟩) gul.length gul.length)) (gc_whole _ _ _ _ hlen (by simp [gz])) ?_; intro w10 b10 hS10))
  have e : gc ⟨W, H, hs, gz.gul⟩ (.slice (some ⟨g4, 0, none⟩) gul.length gul.length) = gc ⟨W, H, hs, gul⟩ (.slice (some ⟨g4, 0, none⟩) gul.length gul.length) := by unfold gc; rfl
  rw [e] at b10
  exact bodyPost_ret (v := .agg (gc ⟨W, H, hs, gul⟩ (.slice (some ⟨g4, 0, none⟩) gul.length gul.length))) (results_cell_row rfl _ _ g2 33 _ (0, 0) _ rfl b10 Try.underlying33 rfl (gsize _ _ hlen)) rfl ⟨_, rfl, ⟨g4, rfl, hS10.blk (hS9.blk b4' (by omega)) (by omega), hs4'⟩, hS10.below (hS9.below hB8 hs3) hs2⟩
end Go.Proofs.Ytkhheofgnhndbaa
/- What a valid ground is; the reference's answer. -/
namespace Go.Proofs.Ytkhheofgnhndbaa
set_option linter.unusedVariables false
set_option linter.unusedSimpArgs false
open Go.RowKit
def hN (G : Gd) (x y : Nat) : Int := G.hs.getD (y * 9 + x) 0
theorem hN_ok {G : Gd} (hG : GdOk G) (x y : Nat) : -32768 ≤ hN G x y ∧ hN G x y ≤ 32767 := hAt_ok hG x y
theorem gc_hN (G : Gd) (gl : Value) (h : G.hs.length = 81) (x y : Nat) (hx : x < 9) (hy : y < 9) : (gc G gl)[2 + y * 9 + x]? = some (.int .i16 (hN G x y)) := gc_h G gl h x y (by omega) (by omega) (by omega) (by omega)
def hOK (G : Gd) (x y : Nat) : Prop := 0 ≤ hN G x y ∧ hN G x y ≤ 200 ∧ (hN G x y ≠ 0 → isPt G.W G.H x y)
def gAt (G : Gd) (i : Nat) : Int × Int := G.gul.getD i (0, 0)
def gOK (G : Gd) (i : Nat) : Prop := isPt G.W G.H (gAt G i).1 (gAt G i).2 ∧ (0 < i → befC (gAt G (i - 1)).1 (gAt G (i - 1)).2 (gAt G i).1 (gAt G i).2)
/-- A valid ground. -/
structure GValid (G : Gd) : Prop where
  W : 1 ≤ G.W ∧ G.W ≤ 9
  H : 1 ≤ G.H ∧ G.H ≤ 9
  n : G.gul.length ≤ 8
  h : ∀ y x, y < 9 → x < 9 → hOK G x y
  g : ∀ i, i < G.gul.length → gOK G i
set_option maxHeartbeats 1000000 in
theorem eqGround_t (G : Gd) (gl gm : Value) (hG : GdOk G) (w : World) (hv : Cs w gl G.gul) (hu : Cs w gm G.gul) (hl : G.gul.length ≤ 1048576) :
    Calls Try.prog 18 #[.agg (gc G gl), .agg (gc G gm)] w (eqPost w true) := by
  go_enter Try.func18, Try.ntmps18
  have e1 : (G.W != G.W) = false := by simp
  have e2 : (G.H != G.H) = false := by simp
  have hlen := hG.len
  go_wp2_with (first
    | (with_reducible refine wpList_box 2 rfl rfl 33 _ rfl (.agg (gc G gl)) rfl (gc G gl) rfl ?_; intro g1 w1 b1 hb1 _hs1)
    | (with_reducible refine wpList_box 3 rfl rfl 33 _ rfl (.agg (gc G gm)) rfl (gc G gm) rfl ?_; intro g2 w2 b2 hb2 _hs2; have n1_2 : g1 < g2 := Nat.lt_of_lt_of_le (blk_lt b1) _hs2; have b1 := blk_below hb2 b1;  have a0 := (blk_cell b1 0).trans (gc_0 _ _); have a1 := (blk_cell b1 1).trans (gc_1 _ _); have a83 := (blk_cell b1 83).trans (gc_83 _ _ hlen); have d0 := (blk_cell b2 0).trans (gc_0 _ _); have d1 := (blk_cell b2 1).trans (gc_1 _ _); have d83 := (blk_cell b2 83).trans (gc_83 _ _ hlen); have r1 : w2.rangeAt g1 2 (i16s G.hs) := range_of_blk b1 _ (fun k v h => gc_seg _ _ k v h); have r2 : w2.rangeAt g2 2 (i16s G.hs) := range_of_blk b2 _ (fun k v h => gc_seg _ _ k v h))
    | (with_reducible refine wpList_load_mid rfl 25 _ rfl g1 2 rfl (i16s G.hs) _ r1 Try.underlying25 rfl (by rw [i16s_len, hlen]; kernel_rfl) ?_)
    | (with_reducible refine wpList_load_mid rfl 25 _ rfl g2 2 rfl (i16s G.hs) _ r2 Try.underlying25 rfl (by rw [i16s_len, hlen]; kernel_rfl) ?_)
    | (go_at_call 53; refine (eqRows_t _ hlen _).mono ?_; rintro e w3 ⟨rfl, hb3⟩; have a83 := cell_below hb3 a83; have d83 := cell_below hb3 d83)
    | (go_at_call 35; refine (eqCellS_t G.gul gl gm _ (hv.below (below_trans (below_trans hb1 hb2) hb3)) (hu.below (below_trans (below_trans hb1 hb2) hb3)) hl).mono ?_; rintro e w4 ⟨rfl, hb4⟩))
  go_ret
  exact ⟨rfl, below_trans (below_trans (below_trans hb1 hb2) hb3) hb4⟩
def szG (n : Nat) : Int := if (1048576 : Int) - n < 0 then -1 else 1048576 - n
set_option maxHeartbeats 400000 in
theorem szGround_is (G : Gd) (gl : Value) (hG : GdOk G) (w : World) (hv : Cs w gl G.gul) :
    Calls Try.prog 14 #[.agg (gc G gl), .int .i64 1048576] w fun e w' => e = .returned (.int .i64 (szG G.gul.length)) ∧ Below w.heap.size w w' := by
  have hlen := hG.len
  go_enter Try.func14, Try.ntmps14
  by_cases h : (1048576 : Int) - G.gul.length < 0
  · have e : szG G.gul.length = -1 := if_pos h
    rw [e]
    go_wp2_with (first
      | (with_reducible refine wpList_box 2 rfl rfl 28 _ rfl (.agg (gc G gl)) rfl (gc G gl) rfl ?_; intro g1 w1 b1 hb1 _hs1;  have a83 := (blk_cell b1 83).trans (gc_83 _ _ hlen))
      | (go_at_call 31; refine (szCellS_is G.gul gl _ (hv.below hb1) (-1) (if_pos h)).mono ?_; rintro e w3 ⟨rfl, rfl⟩))
    go_ret
    exact ⟨rfl, hb1⟩
  · have e : szG G.gul.length = 1048576 - G.gul.length := if_neg h
    rw [e]
    go_wp2_with (first
      | (with_reducible refine wpList_box 2 rfl rfl 28 _ rfl (.agg (gc G gl)) rfl (gc G gl) rfl ?_; intro g1 w1 b1 hb1 _hs1;  have a83 := (blk_cell b1 83).trans (gc_83 _ _ hlen))
      | (go_at_call 31; refine (szCellS_is G.gul gl _ (hv.below hb1) (1048576 - G.gul.length) (if_neg h)).mono ?_; rintro e w3 ⟨rfl, rfl⟩))
    go_ret
    exact ⟨rfl, hb1⟩
end Go.Proofs.Ytkhheofgnhndbaa
/- The reference's answer on whether a ground is valid. -/
namespace Go.Proofs.Ytkhheofgnhndbaa
set_option linter.unusedVariables false
set_option linter.unusedSimpArgs false
open Go.RowKit
theorem l04Is_t (W H x y : Int) (g : Nat) (w : World) (hW : i8ok W) (hH : i8ok H) (hx : i8ok x) (hy : i8ok y) (c0 : w.cell? ⟨g, 0, none⟩ = some (.int .i8 W)) (c1 : w.cell? ⟨g, 1, none⟩ = some (.int .i8 H)) (h : isPt W H x y) :
    Calls Try.prog 68 #[.pointer (some ⟨g, 0, none⟩), .agg #[.int .i8 x, .int .i8 y]] w (eqPost w true) := l04Is_is W H x y g w hW hH hx hy c0 c1 true (by simp [h])
theorem l04Is_f (W H x y : Int) (g : Nat) (w : World) (hW : i8ok W) (hH : i8ok H) (hx : i8ok x) (hy : i8ok y) (c0 : w.cell? ⟨g, 0, none⟩ = some (.int .i8 W)) (c1 : w.cell? ⟨g, 1, none⟩ = some (.int .i8 H)) (h : ¬ isPt W H x y) :
    Calls Try.prog 68 #[.pointer (some ⟨g, 0, none⟩), .agg #[.int .i8 x, .int .i8 y]] w (eqPost w false) := l04Is_is W H x y g w hW hH hx hy c0 c1 false (by simp [h])
theorem before_t (x y u v : Int) (h : befC x y u v) (w : World) : Calls Try.prog 87 #[.agg #[.int .i8 x, .int .i8 y], .agg #[.int .i8 u, .int .i8 v]] w (eqPost w true) := before_is x y u v true (by simp [h]) w
theorem before_f (x y u v : Int) (h : ¬ befC x y u v) (w : World) : Calls Try.prog 87 #[.agg #[.int .i8 x, .int .i8 y], .agg #[.int .i8 u, .int .i8 v]] w (eqPost w false) := before_is x y u v false (by simp [h]) w
theorem gAt_ok {G : Gd} (hG : GdOk G) (i : Nat) : i8ok (gAt G i).1 ∧ i8ok (gAt G i).2 := by
  unfold gAt
  rw [List.getD_eq_getElem?_getD]
  rcases Nat.lt_or_ge i G.gul.length with h | h
  · rw [List.getElem?_eq_getElem h]; exact hG.gul _ (List.getElem_mem h)
  · rw [List.getElem?_eq_none h]; simp [i8ok]
/-- Heights are fine up to a place. -/
def hUp (G : Gd) (j k : Nat) : Prop := (∀ y x, y < j → x < 9 → hOK G x y) ∧ ∀ x, x < k → hOK G x j
theorem hUp_next {G : Gd} {j k : Nat} (h : hUp G j k) (h' : hOK G k j) : hUp G j (k + 1) := ⟨h.1, fun x hx => by rcases Nat.lt_succ_iff_lt_or_eq.1 hx with h1 | rfl; exact h.2 x h1; exact h'⟩
theorem hUp_row {G : Gd} {j : Nat} (h : hUp G j 9) : hUp G (j + 1) 0 := ⟨fun y x hy hx => by rcases Nat.lt_succ_iff_lt_or_eq.1 hy with h1 | rfl; exact h.1 y x h1 hx; exact h.2 x hx, fun x hx => absurd hx (Nat.not_lt_zero _)⟩
def gUp (G : Gd) (i : Nat) : Prop := ∀ k, k < i → gOK G k
theorem gUp_next {G : Gd} {i : Nat} (h : gUp G i) (h' : gOK G i) : gUp G (i + 1) := fun k hk => by rcases Nat.lt_succ_iff_lt_or_eq.1 hk with h1 | rfl; exact h k h1; exact h'
set_option maxHeartbeats 2000000 in
theorem l04Ok_is (G : Gd) (gl : Value) (hG : GdOk G) (g : Nat) (w : World) (hv : Cs w gl G.gul) (hb : w.heap[g]? = some (.cells (gc G gl) 33 (0, 0))) (r : Bool) (hr : r = true ↔ GValid G) :
    Calls Try.prog 48 #[.pointer (some ⟨g, 0, none⟩)] w (eqPost w r) := by
  have hlen := hG.len
  obtain ⟨A, c, rfl, hv1, hv2, hv3⟩ := hv
  have HR := Lib.hid hr
  have HV := Lib.hid hv3
  clear hr hv3 hv2
  have a0 := (blk_cell hb 0).trans (gc_0 _ _)
  have a1 := (blk_cell hb 1).trans (gc_1 _ _)
  have a83 := (blk_cell hb 83).trans (gc_83 _ _ hlen)
  obtain ⟨hW1, hW2⟩ := hG.W
  obtain ⟨hH1, hH2⟩ := hG.H
  go_enter Try.func48, Try.ntmps48
  by_cases h1 : 1 ≤ G.W ∧ G.W ≤ 9
  · by_cases h2 : 1 ≤ G.H ∧ G.H ≤ 9
    · by_cases h3 : G.gul.length ≤ 8
      · have h3' : decide ((8 : Int) < (G.gul.length : Int)) = false := decide_eq_false (by omega)
        go_wp2_with (first
          | (go_at_call 64; refine (l00In_t _ _ _ (by omega) (by omega) _).mono ?_; rintro e w' ⟨rfl, rfl⟩))
        clear a0 a1 a83
        go_loopw [3] (fun u wr => ∃ j : Nat, j ≤ 9 ∧ u = .int .i8 j ∧ Below w.heap.size w wr ∧ hUp G j 0) (fun u _ => 9 - (intOf u).toNat)
        case atStart => exact ⟨0, Nat.zero_le _, rfl, Below.refl _ _, fun y x hy _ => absurd hy (Nat.not_lt_zero _), fun x hx => absurd hx (Nat.not_lt_zero _)⟩
        case round =>
          obtain ⟨j, hj, rfl, hB, hU⟩ := hrel
          have HU := Lib.hid hU
          clear hU
          by_cases hlt : j < 9
          · have hlt' : decide ((j : Int) < 9) = true := decide_eq_true (by omega)
            go_wp2
            obtain ⟨wo, hwo⟩ : ∃ wo : World, wo = wr := ⟨_, rfl⟩
            subst hwo
            go_loopw [4] (fun u wr => ∃ k : Nat, k ≤ 9 ∧ u = .int .i8 k ∧ Below w.heap.size w wr ∧ Hid (hUp G j k)) (fun u _ => 9 - (intOf u).toNat)
            case atStart => exact ⟨0, Nat.zero_le _, rfl, hB, HU⟩
            case round =>
              obtain ⟨k, hk, rfl, hB2, HU2⟩ := hrel
              by_cases hlk : k < 9
              · have e0 := (blk_cell (blk_below hB2 hb) 0).trans (gc_0 _ _)
                have e1 := (blk_cell (blk_below hB2 hb) 1).trans (gc_1 _ _)
                have eh := (blk_cell (blk_below hB2 hb) _).trans (gc_hN G _ hlen k j hlk hlt)
                obtain ⟨hh1, hh2⟩ := hN_ok hG k j
                by_cases hr1 : 0 ≤ hN G k j ∧ hN G k j ≤ 200
                · by_cases hz : hN G k j = 0
                  · have hz' : (hN G k j != 0) = false := bne_eq_false_iff_eq.2 hz
                    have HN := Lib.hid (hUp_next HU2.out (⟨hr1.1, hr1.2, fun h => absurd hz h⟩ : hOK G k j))
                    clear hz
                    go_wp2_with (first
                      | (go_at_call 64; refine (l00In_t _ _ _ (by omega) (by omega) _).mono ?_; rintro e w' ⟨rfl, rfl⟩))
                    go_roundw
                    case rel => exact ⟨k + 1, by omega, by go_num, hB2, HN⟩
                    case measure => simp [intOf]; omega
                  · have hz' : (hN G k j != 0) = true := bne_iff_ne.2 hz
                    by_cases hp : isPt G.W G.H k j
                    · have HN := Lib.hid (hUp_next HU2.out (⟨hr1.1, hr1.2, fun _ => hp⟩ : hOK G k j))
                      go_wp2_with (first
                        | (go_at_call 64; refine (l00In_t _ _ _ (by omega) (by omega) _).mono ?_; rintro e w' ⟨rfl, rfl⟩)
                        | (go_at_call 68; refine (l04Is_t _ _ _ _ g _ hG.W hG.H (by unfold i8ok; omega) (by unfold i8ok; omega) e0 e1 hp).mono ?_; rintro e w5 ⟨rfl, hb5⟩))
                      go_roundw
                      case rel => exact ⟨k + 1, by omega, by go_num, below_trans hB2 hb5, HN⟩
                      case measure => simp [intOf]; omega
                    · have HF : Hid (r = false) := false_of HR.out (fun h => hp ((h.h j k hlt hlk).2.2 hz))
                      go_wp2_with (first
                        | (go_at_call 64; refine (l00In_t _ _ _ (by omega) (by omega) _).mono ?_; rintro e w' ⟨rfl, rfl⟩)
                        | (go_at_call 68; refine (l04Is_f _ _ _ _ g _ hG.W hG.H (by unfold i8ok; omega) (by unfold i8ok; omega) e0 e1 hp).mono ?_; rintro e w5 ⟨rfl, hb5⟩))
                      go_ret
                      exact ⟨by rw [HF.out]; rfl, below_trans hB2 hb5⟩
                · have HF : Hid (r = false) := false_of HR.out (fun h => hr1 ⟨(h.h j k hlt hlk).1, (h.h j k hlt hlk).2.1⟩)
                  go_wp2_with (first
                    | (go_at_call 64; refine (l00In_f _ _ _ (by omega) _).mono ?_; rintro e w' ⟨rfl, rfl⟩))
                  go_ret
                  exact ⟨by rw [HF.out]; rfl, hB2⟩
              · obtain rfl : k = 9 := by omega
                go_wp2
                go_roundw
                case rel => exact ⟨j + 1, by omega, by go_num, hB2, hUp_row HU2.out⟩
                case measure => simp [intOf]; omega
          · obtain rfl : j = 9 := by omega
            go_wp2
            obtain ⟨wo, hwo⟩ : ∃ wo : World, wo = wr := ⟨_, rfl⟩
            subst hwo
            go_loopw [6] (fun u wr => ∃ k : Nat, k ≤ G.gul.length ∧ u = .int .i64 k ∧ Below w.heap.size w wr ∧ Hid (gUp G k)) (fun u _ => G.gul.length - (intOf u).toNat)
            case atStart => exact ⟨0, Nat.zero_le _, rfl, hB, fun k hk => absurd hk (Nat.not_lt_zero _)⟩
            case round =>
              obtain ⟨k, hk, rfl, hB2, HU2⟩ := hrel
              have e0 := (blk_cell (blk_below hB2 hb) 0).trans (gc_0 _ _)
              have e1 := (blk_cell (blk_below hB2 hb) 1).trans (gc_1 _ _)
              have e83 := (blk_cell (blk_below hB2 hb) 83).trans (gc_83 _ _ hlen)
              by_cases hlk : k < G.gul.length
              · obtain ⟨ad, rfl, hc⟩ := HV.out (by omega)
                have x83 := ext_cell e83
                have f1 := ext_cell (v := .int .i8 (gAt G k).1) ((hc k hlk).below hB2).1
                have f2 := ext_cell (v := .int .i8 (gAt G k).2) ((hc k hlk).below hB2).2
                obtain ⟨hp1, hp2⟩ := gAt_ok hG k
                by_cases hp : isPt G.W G.H (gAt G k).1 (gAt G k).2
                · by_cases hk0 : 0 < k
                  · have f3 := ext_cell (v := .int .i8 (gAt G (k - 1)).1) ((hc (k - 1) (by omega)).below hB2).1
                    have f4 := ext_cell (v := .int .i8 (gAt G (k - 1)).2) ((hc (k - 1) (by omega)).below hB2).2
                    have hk0' : decide ((0 : Int) < (k : Int)) = true := decide_eq_true (by omega)
                    have hkm : IntKind.i64.wrap ((k : Int) - 1) = (k : Int) - 1 := by rw [IntKind.wrap_i64]; omega
                    have hkn : ((k : Int) - 1).toNat = k - 1 := by omega
                    obtain ⟨hq1, hq2⟩ := gAt_ok hG (k - 1)
                    by_cases hbf : befC (gAt G (k - 1)).1 (gAt G (k - 1)).2 (gAt G k).1 (gAt G k).2
                    · have HN := Lib.hid (gUp_next HU2.out (⟨hp, fun _ => hbf⟩ : gOK G k))
                      go_wp2
                      try simp only [Act.put, List.setIfInBounds_toArray, List.set_cons_zero, List.set_cons_succ]
                      refine wp_region_ext (by kernel_rfl) (by kernel_rfl) ?_
                      repeat (first
                        | go_big_quiet_skip
                        | (go_big_quiet_want
                           go_big_quiet_op
                           first
                             | go_big_quiet_on
                             | (apply Exists.intro
                                refine ⟨fun _ => ?_, ?_⟩
                                · first
                                    | (go_at_call 68; exact Calls.ext_of (l04Is_t _ _ _ _ g _ hG.W hG.H hp1 hp2 (ext_cell e0 _) (ext_cell e1 _) hp))
                                    | (go_at_call 87; exact Calls.ext_of (before_t _ _ _ _ hbf _))
                                go_big_quiet_on)))
                      refine wpQuiet_nil ?_
                      intro w3 hb3
                      go_wp2
                      go_roundw
                      case rel => exact ⟨k + 1, by omega, by go_num, below_trans hB2 hb3, HN⟩
                      case measure => simp [intOf]; omega
                    · have HF : Hid (r = false) := false_of HR.out (fun h => hbf ((h.g k hlk).2 hk0))
                      go_wp2
                      try simp only [Act.put, List.setIfInBounds_toArray, List.set_cons_zero, List.set_cons_succ]
                      refine wp_region_ext (by kernel_rfl) (by kernel_rfl) ?_
                      repeat (first
                        | go_big_quiet_skip
                        | (go_big_quiet_want
                           go_big_quiet_op
                           first
                             | go_big_quiet_on
                             | (apply Exists.intro
                                refine ⟨fun _ => ?_, ?_⟩
                                · first
                                    | (go_at_call 68; exact Calls.ext_of (l04Is_t _ _ _ _ g _ hG.W hG.H hp1 hp2 (ext_cell e0 _) (ext_cell e1 _) hp))
                                    | (go_at_call 87; exact Calls.ext_of (before_f _ _ _ _ hbf _))
                                go_big_quiet_on)))
                      refine wpQuiet_nil ?_
                      intro w3 hb3
                      go_wp2
                      go_ret
                      exact ⟨by rw [HF.out]; rfl, below_trans hB2 hb3⟩
                  · have hk0' : decide ((0 : Int) < (k : Int)) = false := decide_eq_false (by omega)
                    have hk1' : decide (0 < k) = false := decide_eq_false hk0
                    have HN := Lib.hid (gUp_next HU2.out (⟨hp, fun h => absurd h hk0⟩ : gOK G k))
                    clear hk0
                    go_wp2
                    try simp only [Act.put, List.setIfInBounds_toArray, List.set_cons_zero, List.set_cons_succ]
                    refine wp_region_ext (by kernel_rfl) (by kernel_rfl) ?_
                    repeat (first
                      | go_big_quiet_skip
                      | (go_big_quiet_want
                         go_big_quiet_op
                         first
                           | go_big_quiet_on
                           | (apply Exists.intro
                              refine ⟨fun _ => ?_, ?_⟩
                              · first
                                  | (go_at_call 68; exact Calls.ext_of (l04Is_t _ _ _ _ g _ hG.W hG.H hp1 hp2 (ext_cell e0 _) (ext_cell e1 _) hp))
                              go_big_quiet_on)))
                    refine wpQuiet_nil ?_
                    intro w3 hb3
                    go_wp2
                    go_roundw
                    case rel => exact ⟨k + 1, by omega, by go_num, below_trans hB2 hb3, HN⟩
                    case measure => simp [intOf]; omega
                · have HF : Hid (r = false) := false_of HR.out (fun h => hp (h.g k hlk).1)
                  go_wp2
                  try simp only [Act.put, List.setIfInBounds_toArray, List.set_cons_zero, List.set_cons_succ]
                  refine wp_region_ext (by kernel_rfl) (by kernel_rfl) ?_
                  repeat (first
                    | go_big_quiet_skip
                    | (go_big_quiet_want
                       go_big_quiet_op
                       first
                         | go_big_quiet_on
                         | (apply Exists.intro
                            refine ⟨fun _ => ?_, ?_⟩
                            · first
                                | (go_at_call 68; exact Calls.ext_of (l04Is_f _ _ _ _ g _ hG.W hG.H hp1 hp2 (ext_cell e0 _) (ext_cell e1 _) hp))
                            go_big_quiet_on)))
                  refine wpQuiet_nil ?_
                  intro w3 hb3
                  go_wp2
                  go_ret
                  exact ⟨by rw [HF.out]; rfl, below_trans hB2 hb3⟩
              · obtain rfl : k = G.gul.length := by omega
                have HT : Hid (r = true) := HR.out.2 ⟨h1, h2, h3, fun y x hy hx => HU.out.1 y x hy hx, HU2.out⟩
                go_wp2
                go_ret
                exact ⟨by rw [HT.out]; rfl, hB2⟩
      · have h3' : decide ((8 : Int) < (G.gul.length : Int)) = true := decide_eq_true (by omega)
        go_wp2_with (first
          | (go_at_call 64; refine (l00In_t _ _ _ (by omega) (by omega) _).mono ?_; rintro e w' ⟨rfl, rfl⟩))
        go_ret
        exact ⟨by rw [false_of HR.out (fun h => h3 h.n)]; rfl, Below.refl _ _⟩
    · go_wp2_with (first
        | (go_at_call 64; refine (l00In_t _ _ _ (by omega) (by omega) _).mono ?_; rintro e w' ⟨rfl, rfl⟩)
        | (go_at_call 64; refine (l00In_f _ _ _ (by omega) _).mono ?_; rintro e w' ⟨rfl, rfl⟩))
      go_ret
      exact ⟨by rw [false_of HR.out (fun h => h2 h.H)]; rfl, Below.refl _ _⟩
  · go_wp2_with (first
      | (go_at_call 64; refine (l00In_f _ _ _ (by omega) _).mono ?_; rintro e w' ⟨rfl, rfl⟩))
    go_ret
    exact ⟨by rw [false_of HR.out (fun h => h1 h.W)]; rfl, Below.refl _ _⟩
set_option maxHeartbeats 400000 in
theorem specValid_is (G : Gd) (gl : Value) (hG : GdOk G) (w : World) (hv : Cs w gl G.gul) (r : Bool) (hr : r = true ↔ GValid G) :
    Calls Try.prog 15 #[.agg (gc G gl)] w (eqPost w r) := by
  have HR := Lib.hid hr
  clear hr
  go_enter Try.func15, Try.ntmps15
  go_wp2_with (first
    | (with_reducible refine wpList_box 1 rfl rfl 33 _ rfl (.agg (gc G gl)) rfl (gc G gl) rfl ?_; intro g1 w1 b1 hb1 _hs1)
    | (go_at_call 48; refine (l04Ok_is G gl hG g1 _ (hv.below hb1) b1 r HR.out).mono ?_; rintro e w2 ⟨rfl, hb2⟩))
  go_ret
  exact ⟨rfl, below_trans hb1 hb2⟩
end Go.Proofs.Ytkhheofgnhndbaa
/- The program's answer on whether a ground is valid. -/
namespace Go.Proofs.Ytkhheofgnhndbaa
set_option linter.unusedVariables false
set_option linter.unusedSimpArgs false
open Go.RowKit
theorem isPoint_t (G : Gd) (gl : Value) (hG : GdOk G) (x y : Int) (w : World) (hx : i8ok x) (hy : i8ok y) (h : isPt G.W G.H x y) :
    Calls Try.prog 51 #[.agg (gc G gl), .agg #[.int .i8 x, .int .i8 y]] w (eqPost w true) := isPoint_is G gl hG x y w hx hy true (by simp [h])
theorem isPoint_f (G : Gd) (gl : Value) (hG : GdOk G) (x y : Int) (w : World) (hx : i8ok x) (hy : i8ok y) (h : ¬ isPt G.W G.H x y) :
    Calls Try.prog 51 #[.agg (gc G gl), .agg #[.int .i8 x, .int .i8 y]] w (eqPost w false) := isPoint_is G gl hG x y w hx hy false (by simp [h])
/-- A row of heights. -/
def rowN (G : Gd) (j : Nat) : List Int := (G.hs.drop (j * 9)).take 9
theorem rowN_len {G : Gd} (h : G.hs.length = 81) {j : Nat} (hj : j < 9) : (rowN G j).length = 9 := by simp [rowN]; omega
theorem rowN_get {G : Gd} (h : G.hs.length = 81) {j k : Nat} (hj : j < 9) (hk : k < 9) : (i16s (rowN G j))[k]? = some (.int .i16 (hN G k j)) := by
  rw [i16s_get _ _ (by rw [rowN_len h hj]; exact hk)]
  simp only [rowN, hN, List.getD_eq_getElem?_getD]
  rw [List.getElem?_take_of_lt hk, List.getElem?_drop]
theorem rowN_extract (G : Gd) (j : Nat) : (i16s G.hs).toArray.extract ((j : Int).toNat * 9) ((j : Int).toNat * 9 + 9) = (i16s (rowN G j)).toArray := by
  simp [i16s, rowN, List.map_drop, List.map_take]
def mostN (G : Gd) (x y : Nat) : Int := if isPt G.W G.H x y then 200 else 0
set_option linter.unusedSimpArgs false
set_option maxHeartbeats 2000000 in
set_option maxRecDepth 100000 in
theorem implValid_is (G : Gd) (gl : Value) (hG : GdOk G) (w : World) (hv : Cs w gl G.gul) (r : Bool) (hr : r = true ↔ GValid G) :
    Calls Try.prog 17 #[.agg (gc G gl)] w (eqPost w r) := by
  have hlen := hG.len
  obtain ⟨A, c, rfl, hv1, hv2, hv3⟩ := hv
  have HR := Lib.hid hr
  have HV := Lib.hid hv3
  clear hr hv3 hv2
  obtain ⟨hW1, hW2⟩ := hG.W
  obtain ⟨hH1, hH2⟩ := hG.H
  go_enter Try.func17, Try.ntmps17
  by_cases h1 : 1 ≤ G.W ∧ G.W ≤ 9
  · by_cases h2 : 1 ≤ G.H ∧ G.H ≤ 9
    · by_cases h3 : G.gul.length ≤ 8
      · have h3' : decide ((8 : Int) < (G.gul.length : Int)) = false := decide_eq_false (by omega)
        go_wp2_with (first
          | (with_reducible refine wpList_box 1 rfl rfl 33 _ rfl (.agg (gc G (.slice A G.gul.length c))) rfl (gc G (.slice A G.gul.length c)) rfl ?_; intro g1 w1 b1 hb1 _hs1;  have a0 := (blk_cell b1 0).trans (gc_0 _ _); have a1 := (blk_cell b1 1).trans (gc_1 _ _); have a83 := (blk_cell b1 83).trans (gc_83 _ _ hlen); have ra : w1.rangeAt g1 2 (i16s G.hs) := range_of_blk b1 _ (fun k v h => gc_seg _ _ k v h))
          | (go_at_call 50; refine (within_t _ _ _ (by omega) (by omega) _).mono ?_; rintro e w' ⟨rfl, rfl⟩)
          | (with_reducible refine wpList_load_mid rfl 25 _ rfl g1 2 rfl (i16s G.hs) _ ra Try.underlying25 rfl (by rw [i16s_len, hlen]; kernel_rfl) ?_))
        clear a0 a1 a83 ra
        go_loopw [30] (fun u wr => ∃ j : Nat, j ≤ 9 ∧ u = .int .i64 j ∧ Below w1.heap.size w1 wr ∧ hUp G j 0) (fun u _ => 9 - (intOf u).toNat)
        case atStart => exact ⟨0, Nat.zero_le _, rfl, Below.refl _ _, fun y x hy _ => absurd hy (Nat.not_lt_zero _), fun x hx => absurd hx (Nat.not_lt_zero _)⟩
        case round =>
          obtain ⟨j, hj, rfl, hB, hU⟩ := hrel
          have HU := Lib.hid hU
          clear hU
          by_cases hlt : j < 9
          · have hlt' : decide ((j : Int) < 9) = true := decide_eq_true (by omega)
            have hrl := rowN_len hlen hlt
            go_wp2_with (first
              | (with_reducible refine wpList_idxB rfl 25 _ _ rfl 24 9 9 (i16s G.hs).toArray _ j rfl rfl Try.underlying25 Try.underlying24 rfl (by kernel_rfl) (by omega) (by omega) _ (rowN_extract G j) ?_)
              | (with_reducible refine wpList_allocB 4 rfl rfl 24 rfl (.agg (i16s (List.replicate 9 0)).toArray) (i16s (List.replicate 9 0)).toArray (by kernel_rfl) rfl ?_; intro g4 w4 b4 hb4 _hs4)
              | (with_reducible refine wpList_storeB rfl 24 _ _ rfl g4 0 (.agg (i16s (rowN G j)).toArray) (i16s (rowN G j)).toArray rfl rfl rfl _ 24 b4 (row_info _ hrl) (by simpa using i16s_one _) (by simp [i16s_len, hrl]) (i16s (rowN G j)).toArray (by simp [i16s_len, hrl]) ?_; intro w5 b5 hS5)
              | (with_reducible refine wpList_load_row rfl 24 _ rfl g4 rfl 24 (i16s (rowN G j)).toArray (0, 0) _ b5 Try.underlying24 rfl (row_info _ hrl) ?_))
            have hB5 : Below w1.heap.size w1 w5 := hS5.below (below_trans hB hb4) (Nat.le_trans hB.size _hs4)
            go_loopw [35] (fun u wr => ∃ k : Nat, k ≤ 9 ∧ u = .int .i64 k ∧ Below w1.heap.size w1 wr ∧ Hid (hUp G j k)) (fun u _ => 9 - (intOf u).toNat)
            case atStart => exact ⟨0, Nat.zero_le _, rfl, hB5, HU⟩
            case round =>
              obtain ⟨k, hk, rfl, hB2, HU2⟩ := hrel
              have bg := blk_below hB2 b1
              by_cases hlk : k < 9
              · have hlk' : decide ((k : Int) < 9) = true := decide_eq_true (by omega)
                have hrow := rowN_get hlen hlt hlk
                have hwk : IntKind.i8.wrap (k : Int) = k := by simp [IntKind.wrap, IntKind.signed, IntKind.bits]; omega
                have hwj : IntKind.i8.wrap (j : Int) = j := by simp [IntKind.wrap, IntKind.signed, IntKind.bits]; omega
                obtain ⟨hh1, hh2⟩ := hN_ok hG k j
                by_cases hp : isPt G.W G.H k j
                · by_cases hr1 : 0 ≤ hN G k j ∧ hN G k j ≤ 200
                  · have HN := Lib.hid (hUp_next HU2.out (⟨hr1.1, hr1.2, fun _ => hp⟩ : hOK G k j))
                    go_wp2_with (first
                      | (with_reducible refine wpList_idx1 rfl 24 _ _ rfl 23 9 (i16s (rowN G j)).toArray _ k (.int .i16 (hN G k j)) rfl rfl Try.underlying24 Try.underlying23 rfl (by kernel_rfl) (by omega) (by omega) (by simpa using hrow) ?_)
                      | (with_reducible refine wpList_load_row rfl 33 _ rfl g1 rfl 33 _ (0, 0) _ bg Try.underlying33 rfl (gsize _ _ hlen) ?_)
                      | (go_at_call 51; refine (isPoint_t G _ hG k j _ (by unfold i8ok; omega) (by unfold i8ok; omega) hp).mono ?_; rintro e w6 ⟨rfl, hb6⟩)
                      | (go_at_call 50; refine (within_t _ _ _ (by omega) (by omega) _).mono ?_; rintro e w' ⟨rfl, rfl⟩))
                    go_roundw
                    case rel => exact ⟨k + 1, by omega, by go_num, below_trans hB2 hb6, HN⟩
                    case measure => simp [intOf]; omega
                  · have HF : Hid (r = false) := false_of HR.out (fun h => hr1 ⟨(h.h j k hlt hlk).1, (h.h j k hlt hlk).2.1⟩)
                    go_wp2_with (first
                      | (with_reducible refine wpList_idx1 rfl 24 _ _ rfl 23 9 (i16s (rowN G j)).toArray _ k (.int .i16 (hN G k j)) rfl rfl Try.underlying24 Try.underlying23 rfl (by kernel_rfl) (by omega) (by omega) (by simpa using hrow) ?_)
                      | (with_reducible refine wpList_load_row rfl 33 _ rfl g1 rfl 33 _ (0, 0) _ bg Try.underlying33 rfl (gsize _ _ hlen) ?_)
                      | (go_at_call 51; refine (isPoint_t G _ hG k j _ (by unfold i8ok; omega) (by unfold i8ok; omega) hp).mono ?_; rintro e w6 ⟨rfl, hb6⟩)
                      | (go_at_call 50; refine (within_f _ _ _ (by omega) _).mono ?_; rintro e w' ⟨rfl, rfl⟩))
                    go_ret
                    exact ⟨by rw [HF.out]; rfl, below_trans hb1 (below_trans hB2 hb6)⟩
                · by_cases hz : hN G k j = 0
                  · have HN := Lib.hid (hUp_next HU2.out (⟨by omega, by omega, fun h => absurd hz h⟩ : hOK G k j))
                    have hz1 : 0 ≤ hN G k j := by omega
                    have hz2 : hN G k j ≤ 0 := by omega
                    clear hz
                    go_wp2_with (first
                      | (with_reducible refine wpList_idx1 rfl 24 _ _ rfl 23 9 (i16s (rowN G j)).toArray _ k (.int .i16 (hN G k j)) rfl rfl Try.underlying24 Try.underlying23 rfl (by kernel_rfl) (by omega) (by omega) (by simpa using hrow) ?_)
                      | (with_reducible refine wpList_load_row rfl 33 _ rfl g1 rfl 33 _ (0, 0) _ bg Try.underlying33 rfl (gsize _ _ hlen) ?_)
                      | (go_at_call 51; refine (isPoint_f G _ hG k j _ (by unfold i8ok; omega) (by unfold i8ok; omega) hp).mono ?_; rintro e w6 ⟨rfl, hb6⟩)
                      | (go_at_call 50; refine (within_t _ _ _ (by omega) (by omega) _).mono ?_; rintro e w' ⟨rfl, rfl⟩))
                    go_roundw
                    case rel => exact ⟨k + 1, by omega, by go_num, below_trans hB2 hb6, HN⟩
                    case measure => simp [intOf]; omega
                  · have HF : Hid (r = false) := false_of HR.out (fun h => hp ((h.h j k hlt hlk).2.2 hz))
                    go_wp2_with (first
                      | (with_reducible refine wpList_idx1 rfl 24 _ _ rfl 23 9 (i16s (rowN G j)).toArray _ k (.int .i16 (hN G k j)) rfl rfl Try.underlying24 Try.underlying23 rfl (by kernel_rfl) (by omega) (by omega) (by simpa using hrow) ?_)
                      | (with_reducible refine wpList_load_row rfl 33 _ rfl g1 rfl 33 _ (0, 0) _ bg Try.underlying33 rfl (gsize _ _ hlen) ?_)
                      | (go_at_call 51; refine (isPoint_f G _ hG k j _ (by unfold i8ok; omega) (by unfold i8ok; omega) hp).mono ?_; rintro e w6 ⟨rfl, hb6⟩)
                      | (go_at_call 50; refine (within_f _ _ _ (by omega) _).mono ?_; rintro e w' ⟨rfl, rfl⟩))
                    go_ret
                    exact ⟨by rw [HF.out]; rfl, below_trans hb1 (below_trans hB2 hb6)⟩
              · obtain rfl : k = 9 := by omega
                go_wp2
                go_roundw
                case rel => exact ⟨j + 1, by omega, by go_num, hB2, hUp_row HU2.out⟩
                case measure => simp [intOf]; omega
          · have hlt' : decide ((j : Int) < 9) = false := decide_eq_false (by omega)
            have bg0 := blk_below hB b1
            have a83 := (blk_cell bg0 83).trans (gc_83 _ _ hlen)
            go_wp2
            obtain ⟨wo, hwo⟩ : ∃ wo : World, wo = wr := ⟨_, rfl⟩
            subst hwo
            go_loopw [56] (fun u wr => ∃ k : Nat, k ≤ G.gul.length ∧ u = .int .i64 k ∧ Below w1.heap.size w1 wr ∧ Hid (gUp G k)) (fun u _ => G.gul.length - (intOf u).toNat)
            case atStart => exact ⟨0, Nat.zero_le _, rfl, hB, fun k hk => absurd hk (Nat.not_lt_zero _)⟩
            case round =>
              obtain ⟨k, hk, rfl, hB2, HU2⟩ := hrel
              by_cases hlk : k < G.gul.length
              · obtain ⟨ad, rfl, hc⟩ := HV.out (by omega)
                have f1 : wr.cell? _ = some (.int .i8 (gAt G k).1) := ((hc k hlk).below (below_trans hb1 hB2)).1
                have f2 : wr.cell? _ = some (.int .i8 (gAt G k).2) := ((hc k hlk).below (below_trans hb1 hB2)).2
                have hcp := fun h0 : 0 < k => (hc (k - 1) (by omega)).below (below_trans hb1 hB2)
                have HCP := Lib.hid hcp
                clear hcp hc a83
                obtain ⟨hp1, hp2⟩ := gAt_ok hG k
                obtain ⟨hq1, hq2⟩ := gAt_ok hG (k - 1)
                go_wp2_with (first
                  | (with_reducible refine wpList_allocB 9 rfl rfl 40 rfl (.agg #[.int .i8 0, .int .i8 0]) #[.int .i8 0, .int .i8 0] (by kernel_rfl) rfl ?_; intro g4 w4 b4 hb4 _hs4)
                  | (with_reducible refine wpList_storeB rfl 40 _ _ rfl g4 0 (.agg #[.int .i8 (gAt G k).1, .int .i8 (gAt G k).2]) #[.int .i8 (gAt G k).1, .int .i8 (gAt G k).2] rfl rfl rfl _ 40 b4 (by kernel_rfl) (by simp [Value.oneCell']) (by simp) #[.int .i8 (gAt G k).1, .int .i8 (gAt G k).2] (by simp) ?_; intro w5 b5 hS5))
                have hB5 : Below w1.heap.size w1 w5 := hS5.below (below_trans hB2 hb4) (Nat.le_trans hB2.size _hs4)
                have hB5r : Below wr.heap.size wr w5 := hS5.below hb4 _hs4
                have bg := blk_below hB5 b1
                have x1 := ext_cell (v := .int .i8 (gAt G k).1) ((blk_cell b5 0).trans rfl)
                have x2 := ext_cell (v := .int .i8 (gAt G k).2) ((blk_cell b5 1).trans rfl)
                have x83 := ext_cell ((blk_cell bg 83).trans (gc_83 _ _ hlen))
                by_cases hp : isPt G.W G.H (gAt G k).1 (gAt G k).2
                · by_cases hk0 : 0 < k
                  · have f3 := ext_cell (v := .int .i8 (gAt G (k - 1)).1) (((HCP.out hk0).below hB5r).1)
                    have f4 := ext_cell (v := .int .i8 (gAt G (k - 1)).2) (((HCP.out hk0).below hB5r).2)
                    have hk0' : decide ((0 : Int) < (k : Int)) = true := decide_eq_true (by omega)
                    have hkm : IntKind.i64.wrap ((k : Int) - 1) = (k : Int) - 1 := by rw [IntKind.wrap_i64]; omega
                    have hkn : ((k : Int) - 1).toNat = k - 1 := by omega
                    by_cases hbf : befC (gAt G (k - 1)).1 (gAt G (k - 1)).2 (gAt G k).1 (gAt G k).2
                    · have HN := Lib.hid (gUp_next HU2.out (⟨hp, fun _ => hbf⟩ : gOK G k))
                      have hcm : decide (0 ≤ cmpC (gAt G (k - 1)).1 (gAt G (k - 1)).2 (gAt G k).1 (gAt G k).2) = false := decide_eq_false (by have := (cmpC_neg _ _ _ _).2 hbf; omega)
                      try simp only [Act.put, List.setIfInBounds_toArray, List.set_cons_zero, List.set_cons_succ]
                      refine wp_region_ext (by kernel_rfl) (by kernel_rfl) ?_
                      repeat (first
                        | go_big_quiet_skip
                        | (go_big_quiet_want; with_reducible refine quiet_load_row 33 _ rfl g1 rfl 33 _ (0, 0) _ (by rintro _ ⟨p, rfl⟩; exact ext_blk bg p) Try.underlying33 rfl (gsize _ _ hlen) ?_; (simp only [Act.put, List.setIfInBounds_toArray, List.set_cons_zero, List.set_cons_succ]); go_big_quiet_on)
                        | (go_big_quiet_want
                           go_big_quiet_op
                           first
                             | go_big_quiet_on
                             | (apply Exists.intro
                                refine ⟨fun _ => ?_, ?_⟩
                                · first
                                    | (go_at_call 51; exact Calls.ext_of (isPoint_t G _ hG _ _ _ hp1 hp2 hp))
                                    | (go_at_call 52; exact Calls.ext_of (compareCells_is _ _ _ _ _))
                                go_big_quiet_on)))
                      refine wpQuiet_nil ?_
                      intro w6 hb6
                      go_wp2
                      go_roundw
                      case rel => exact ⟨k + 1, by omega, by go_num, below_trans hB5 hb6, HN⟩
                      case measure => simp [intOf]; omega
                    · have HF : Hid (r = false) := false_of HR.out (fun h => hbf ((h.g k hlk).2 hk0))
                      have hcm : decide (0 ≤ cmpC (gAt G (k - 1)).1 (gAt G (k - 1)).2 (gAt G k).1 (gAt G k).2) = true := decide_eq_true (by have := (cmpC_neg (gAt G (k - 1)).1 (gAt G (k - 1)).2 (gAt G k).1 (gAt G k).2).1; exact Int.not_lt.1 (fun h => hbf (this h)))
                      try simp only [Act.put, List.setIfInBounds_toArray, List.set_cons_zero, List.set_cons_succ]
                      refine wp_region_ext (by kernel_rfl) (by kernel_rfl) ?_
                      repeat (first
                        | go_big_quiet_skip
                        | (go_big_quiet_want; with_reducible refine quiet_load_row 33 _ rfl g1 rfl 33 _ (0, 0) _ (by rintro _ ⟨p, rfl⟩; exact ext_blk bg p) Try.underlying33 rfl (gsize _ _ hlen) ?_; (simp only [Act.put, List.setIfInBounds_toArray, List.set_cons_zero, List.set_cons_succ]); go_big_quiet_on)
                        | (go_big_quiet_want
                           go_big_quiet_op
                           first
                             | go_big_quiet_on
                             | (apply Exists.intro
                                refine ⟨fun _ => ?_, ?_⟩
                                · first
                                    | (go_at_call 51; exact Calls.ext_of (isPoint_t G _ hG _ _ _ hp1 hp2 hp))
                                    | (go_at_call 52; exact Calls.ext_of (compareCells_is _ _ _ _ _))
                                go_big_quiet_on)))
                      refine wpQuiet_nil ?_
                      intro w6 hb6
                      go_wp2
                      go_ret
                      exact ⟨by rw [HF.out]; rfl, below_trans hb1 (below_trans hB5 hb6)⟩
                  · have hk0' : decide ((0 : Int) < (k : Int)) = false := decide_eq_false (by omega)
                    have hk1' : decide (0 < k) = false := decide_eq_false hk0
                    have HN := Lib.hid (gUp_next HU2.out (⟨hp, fun h => absurd h hk0⟩ : gOK G k))
                    clear hk0
                    try simp only [Act.put, List.setIfInBounds_toArray, List.set_cons_zero, List.set_cons_succ]
                    refine wp_region_ext (by kernel_rfl) (by kernel_rfl) ?_
                    repeat (first
                      | go_big_quiet_skip
                      | (go_big_quiet_want; with_reducible refine quiet_load_row 33 _ rfl g1 rfl 33 _ (0, 0) _ (by rintro _ ⟨p, rfl⟩; exact ext_blk bg p) Try.underlying33 rfl (gsize _ _ hlen) ?_; (simp only [Act.put, List.setIfInBounds_toArray, List.set_cons_zero, List.set_cons_succ]); go_big_quiet_on)
                      | (go_big_quiet_want
                         go_big_quiet_op
                         first
                           | go_big_quiet_on
                           | (apply Exists.intro
                              refine ⟨fun _ => ?_, ?_⟩
                              · first
                                  | (go_at_call 51; exact Calls.ext_of (isPoint_t G _ hG _ _ _ hp1 hp2 hp))
                              go_big_quiet_on)))
                    refine wpQuiet_nil ?_
                    intro w6 hb6
                    go_wp2
                    go_roundw
                    case rel => exact ⟨k + 1, by omega, by go_num, below_trans hB5 hb6, HN⟩
                    case measure => simp [intOf]; omega
                · have HF : Hid (r = false) := false_of HR.out (fun h => hp (h.g k hlk).1)
                  try simp only [Act.put, List.setIfInBounds_toArray, List.set_cons_zero, List.set_cons_succ]
                  refine wp_region_ext (by kernel_rfl) (by kernel_rfl) ?_
                  repeat (first
                    | go_big_quiet_skip
                    | (go_big_quiet_want; with_reducible refine quiet_load_row 33 _ rfl g1 rfl 33 _ (0, 0) _ (by rintro _ ⟨p, rfl⟩; exact ext_blk bg p) Try.underlying33 rfl (gsize _ _ hlen) ?_; (simp only [Act.put, List.setIfInBounds_toArray, List.set_cons_zero, List.set_cons_succ]); go_big_quiet_on)
                    | (go_big_quiet_want
                       go_big_quiet_op
                       first
                         | go_big_quiet_on
                         | (apply Exists.intro
                            refine ⟨fun _ => ?_, ?_⟩
                            · first
                                | (go_at_call 51; exact Calls.ext_of (isPoint_f G _ hG _ _ _ hp1 hp2 hp))
                            go_big_quiet_on)))
                  refine wpQuiet_nil ?_
                  intro w6 hb6
                  go_wp2
                  go_ret
                  exact ⟨by rw [HF.out]; rfl, below_trans hb1 (below_trans hB5 hb6)⟩
              · obtain rfl : k = G.gul.length := by omega
                have HT : Hid (r = true) := HR.out.2 ⟨h1, h2, h3, fun y x hy hx => HU.out.1 y x (by omega) hx, HU2.out⟩
                go_wp2
                go_ret
                exact ⟨by rw [HT.out]; rfl, below_trans hb1 hB2⟩
      · have h3' : decide ((8 : Int) < (G.gul.length : Int)) = true := decide_eq_true (by omega)
        go_wp2_with (first
          | (with_reducible refine wpList_box 1 rfl rfl 33 _ rfl (.agg (gc G (.slice A G.gul.length c))) rfl (gc G (.slice A G.gul.length c)) rfl ?_; intro g1 w1 b1 hb1 _hs1;  have a0 := (blk_cell b1 0).trans (gc_0 _ _); have a1 := (blk_cell b1 1).trans (gc_1 _ _); have a83 := (blk_cell b1 83).trans (gc_83 _ _ hlen))
          | (go_at_call 50; refine (within_t _ _ _ (by omega) (by omega) _).mono ?_; rintro e w' ⟨rfl, rfl⟩))
        go_ret
        exact ⟨by rw [false_of HR.out (fun h => h3 h.n)]; rfl, hb1⟩
    · go_wp2_with (first
        | (with_reducible refine wpList_box 1 rfl rfl 33 _ rfl (.agg (gc G (.slice A G.gul.length c))) rfl (gc G (.slice A G.gul.length c)) rfl ?_; intro g1 w1 b1 hb1 _hs1;  have a0 := (blk_cell b1 0).trans (gc_0 _ _); have a1 := (blk_cell b1 1).trans (gc_1 _ _))
        | (go_at_call 50; refine (within_t _ _ _ (by omega) (by omega) _).mono ?_; rintro e w' ⟨rfl, rfl⟩)
        | (go_at_call 50; refine (within_f _ _ _ (by omega) _).mono ?_; rintro e w' ⟨rfl, rfl⟩))
      go_ret
      exact ⟨by rw [false_of HR.out (fun h => h2 h.H)]; rfl, hb1⟩
  · go_wp2_with (first
      | (with_reducible refine wpList_box 1 rfl rfl 33 _ rfl (.agg (gc G (.slice A G.gul.length c))) rfl (gc G (.slice A G.gul.length c)) rfl ?_; intro g1 w1 b1 hb1 _hs1;  have a0 := (blk_cell b1 0).trans (gc_0 _ _))
      | (go_at_call 50; refine (within_f _ _ _ (by omega) _).mono ?_; rintro e w' ⟨rfl, rfl⟩))
    go_ret
    exact ⟨by rw [false_of HR.out (fun h => h1 h.W)]; rfl, hb1⟩
end Go.Proofs.Ytkhheofgnhndbaa
/- The law on whether a ground is valid. -/
namespace Go.Proofs.Ytkhheofgnhndbaa
set_option linter.unusedVariables false
set_option linter.unusedSimpArgs false
open Go.RowKit
set_option linter.unusedSimpArgs false
theorem lsize (G : Gd) (gl : Value) (h : G.hs.length = 81) : (Try.prog.info? 28).map (·.size) = some (gc G gl).size := by
  rw [gc_size G gl h]; kernel_rfl
open Classical in
set_option maxHeartbeats 2000000 in
set_option maxRecDepth 100000 in
theorem lawValid_is (G : Gd) (gl : Value) (hG : GdOk G) (w : World) (hv : Cs w gl G.gul) :
    Calls Try.prog 3 #[.agg (gc G gl)] w (eqPost w true) := by
  have hlen := hG.len
  go_enter Try.func3, Try.ntmps3
  by_cases hbig : szG G.gul.length < 0
  · have hd : decide (szG G.gul.length < 0) = true := decide_eq_true hbig
    go_wp2_with (first
      | (with_reducible refine wpList_box 1 rfl rfl 28 _ rfl (.agg (gc G gl)) rfl (gc G gl) rfl ?_; intro g1 w1 b1 hb1 _hs1)
      | (with_reducible refine wpList_load_row rfl 28 _ rfl g1 rfl 28 _ (0, 0) _ b1 Try.underlying28 rfl (lsize _ _ hlen) ?_)
      | (go_at_call 14; refine (szGround_is G gl hG _ (hv.below hb1)).mono ?_; rintro e w2 ⟨rfl, hb2⟩))
    go_ret
    exact ⟨rfl, below_trans hb1 hb2⟩
  · have hd : decide (szG G.gul.length < 0) = false := decide_eq_false hbig
    have hl : G.gul.length ≤ 1048576 := by unfold szG at hbig; split at hbig <;> omega
    clear hbig
    obtain ⟨r, hr⟩ : ∃ r : Bool, r = true ↔ GValid G := ⟨decide (GValid G), by simp⟩
    have HR := Lib.hid hr
    have hrr : (r != r) = false := by simp
    clear hr
    go_wp2_with (first
      | (with_reducible refine wpList_box 1 rfl rfl 28 _ rfl (.agg (gc G gl)) rfl (gc G gl) rfl ?_; intro g1 w1 b1 hb1 _hs1)
      | (go_at_call 14; refine (szGround_is G gl hG _ (hv.below hb1)).mono ?_; rintro e w2 ⟨rfl, hb2⟩; have b1 := blk_below hb2 b1)
      | (with_reducible refine wpList_load_row rfl 28 _ rfl g1 rfl 28 _ (0, 0) _ b1 Try.underlying28 rfl (lsize _ _ hlen) ?_))
    have hB2 := below_trans hb1 hb2
    refine (toGround_is G gl hG _ (hv.below hB2) hl).mono ?_
    rintro e w3 ⟨v1, rfl, hM1, hb3⟩
    have hB3 := below_trans hB2 hb3
    have b1 := blk_below hb3 b1
    have hC1 := hM1.cs (by omega)
    go_wp2_with (first
      | (go_at_call 15; refine (specValid_is G v1 hG _ hC1 r HR.out).mono ?_; rintro e w4 ⟨rfl, hb4⟩; have b1 := blk_below hb4 b1)
      | (with_reducible refine wpList_load_row rfl 28 _ rfl g1 rfl 28 _ (0, 0) _ b1 Try.underlying28 rfl (lsize _ _ hlen) ?_))
    have hB4 := below_trans hB3 hb4
    refine (toGround_is G gl hG _ (hv.below hB4) hl).mono ?_
    rintro e w5 ⟨v2, rfl, hM2, hb5⟩
    have hB5 := below_trans hB4 hb5
    have b1 := blk_below hb5 b1
    have hC2 := hM2.cs (by omega)
    obtain ⟨A2, c2, rfl, _, _, _⟩ := id hC2
    go_wp2_with (first
      | (with_reducible refine wpList_allocB 5 rfl rfl 33 rfl (.agg (gc gz (.slice none 0 0))) (gc gz (.slice none 0 0)) (by kernel_rfl) rfl ?_; intro g6 w6 b6 hb6 _hs6; have n1_6 : g1 < g6 := Nat.lt_of_lt_of_le (blk_lt b1) _hs6; have b1 := blk_below hb6 b1)
      | (with_reducible refine wpList_storeB rfl 33 _ _ rfl g6 0 (.agg (gc G (.slice A2 G.gul.length c2))) (gc G (.slice A2 G.gul.length c2)) rfl rfl rfl _ 33 b6 (gsize _ _ hlen) (gc_one _ _ rfl) (by rw [gc_size _ _ hlen, gc_size _ _ (by simp [gz])]; simp) (gc G (.slice A2 G.gul.length c2)) (gc_whole _ _ _ _ hlen (by simp [gz])) ?_; intro w7 b7 hS7; have b1 := hS7.blk b1 (by omega))
      | (with_reducible refine wpList_load_row rfl 33 _ rfl g6 rfl 33 _ (0, 0) _ b7 Try.underlying33 rfl (gsize _ _ hlen) ?_))
    have hb7 : Below w5.heap.size w5 w7 := hS7.below hb6 _hs6
    have hC2 := hC2.below hb7
    have hB7 := below_trans hB5 hb7
    refine (implValid_is G _ hG _ hC2 r HR.out).mono ?_
    rintro e w8 ⟨rfl, hb8⟩
    have b1 := blk_below hb8 b1
    have b7 := blk_below hb8 b7
    have hC2 := hC2.below hb8
    have hB8 := below_trans hB7 hb8
    go_wp2
    try simp only [Act.put, List.setIfInBounds_toArray, List.set_cons_zero, List.set_cons_succ]
    refine wp_region_held (S := fun w' => Below w8.heap.size w8 w') (by kernel_rfl) ?_
    refine anyH_take 0 _ (.agg (gc G (.slice A2 G.gul.length c2))) rfl rfl (by kernel_rfl) (by kernel_rfl) (by kernel_rfl) (fun _ _ _ h => h) (Below.refl _ _).drew (fun w' hw => run_load_row' _ 33 _ rfl g6 rfl 33 _ (0, 0) _ (blk_below hw b7) Try.underlying33 rfl (gsize _ _ hlen)) ?_
    refine anyH_take 1 _ (.agg (gc G gl)) rfl rfl (by kernel_rfl) (by kernel_rfl) (by kernel_rfl) (fun _ _ _ h => h) (Below.refl _ _).drew (fun w' hw => run_load_row' _ 28 _ rfl g1 rfl 28 _ (0, 0) _ (blk_below hw b1) Try.underlying28 rfl (lsize _ _ hlen)) ?_
    refine anyH_call 2 _ (by kernel_rfl) rfl rfl 16 _ _ rfl #[.agg (gc G gl)] (by simp only [List.map_toArray, List.map_cons, List.map_nil]; rfl) (by go_simp) ?_
    have hd8 : Below w8.heap.size w8 w8.drew := (Below.refl _ _).drew
    refine (toGround_is G gl hG w8.drew (hv.below (below_trans hB8 hd8)) hl).mono ?_
    rintro e w9 ⟨v3, rfl, hM3, hb9⟩
    have hb9' := below_trans hd8 hb9
    refine ⟨_, rfl, hb9', ?_⟩
    refine anyH_call 3 _ (by kernel_rfl) rfl rfl 18 _ _ rfl #[.agg (gc G (.slice A2 G.gul.length c2)), .agg (gc G v3)] (by simp only [List.map_toArray, List.map_cons, List.map_nil]; rfl) (by go_simp) ?_
    refine (eqGround_t G _ v3 hG _ (hC2.below hb9') (hM3.cs (by omega)) hl).mono ?_
    rintro e w10 ⟨rfl, hb10⟩
    have hb10' := below_trans hb9' hb10
    refine ⟨_, rfl, hb10', ?_⟩
    refine anyH_take 4 _ (.bool false) rfl rfl (by kernel_rfl) (by kernel_rfl) (by kernel_rfl) (fun _ _ _ h => h) hb10' (fun w' hw => run_not' _ 4 _ rfl true rfl) ?_
    refine wpAnyH_done (by kernel_rfl) ?_ _
    simp only [Act.put, List.setIfInBounds_toArray, List.set_cons_zero, List.set_cons_succ]
    go_wp2
    go_ret
    exact ⟨rfl, below_trans hB8 hb10'⟩
end Go.Proofs.Ytkhheofgnhndbaa
/- Rows of cells that a call builds: appends; the points of a ground, in order. -/
namespace Go.Proofs.Ytkhheofgnhndbaa
set_option linter.unusedVariables false
set_option linter.unusedSimpArgs false
open Go.RowKit
/-- A row of cells of the call's own, in a block from B on. -/
def OwnC (B : Nat) (w : World) (v : Value) (xs : List (Int × Int)) : Prop := w.ownsRow B 40 2 v xs.length (pc xs)
theorem OwnC.below {B : Nat} {w w' : World} {v : Value} {xs : List (Int × Int)} (h : OwnC B w v xs) (hb : Below w.heap.size w w') : OwnC B w' v xs := by
  refine ⟨h.1, ?_⟩
  rcases h.2 with h2 | ⟨g, cap, cur, e1, e2, e3, e4⟩
  · exact .inl h2
  · exact .inr ⟨g, cap, cur, e1, e2, blk_below hb e3, e4⟩
theorem OwnC.cs {B : Nat} {w : World} {v : Value} {xs : List (Int × Int)} (h : OwnC B w v xs) : Cs w v xs := by
  rcases h.2 with ⟨e1, e2⟩ | ⟨g, cap, cur, rfl, _, e3, e4, e5, e6, e7⟩
  · exact ⟨none, 0, by rw [e1, e2], by omega, Nat.zero_le _, fun h0 => by omega⟩
  · refine ⟨some ⟨g, 0, none⟩, cap, rfl, e4, e5, fun _ => ⟨_, rfl, fun j hj => ?_⟩⟩
    have hp := pc_get xs j hj
    have ha : (⟨g, 0, none⟩ : Addr).add (j * 2) = ⟨g, j * 2, none⟩ := by rw [Addr.add_mid]; simp
    have key : ∀ (i : Nat) (u : Value), (pc xs)[i]? = some u → cur[i]? = some u := by
      intro i u hu
      rw [← e7, List.getElem?_take] at hu
      split at hu
      · simpa using hu
      · cases hu
    constructor
    · rw [ha, blk_cell e3]; exact key _ _ hp.1
    · rw [ha, blk_cell e3]; exact key _ _ hp.2
theorem OwnC.lower {B B' : Nat} {w : World} {v : Value} {xs : List (Int × Int)} (h : OwnC B w v xs) (hB : B' ≤ B) : OwnC B' w v xs := by
  refine ⟨h.1, ?_⟩
  rcases h.2 with h2 | ⟨g, cap, cur, e1, e2, e3, e4⟩
  · exact .inl h2
  · exact .inr ⟨g, cap, cur, e1, Nat.le_trans hB e2, e3, e4⟩
theorem OwnC.nil (B : Nat) (w : World) : OwnC B w (.slice none 0 0) [] := World.ownsRow_nil _ _ _ _
theorem OwnC.made {B : Nat} {w : World} (hB : B ≤ w.heap.size) : OwnC B (w.alloc (.cells #[] 40)) (.slice (some ⟨w.heap.size, 0, none⟩) 0 0) [] := World.ownsRow_made w #[] 0 hB (Nat.zero_le _) rfl
theorem MadeC.own {w w' : World} {xs : List (Int × Int)} {v : Value} (h : MadeC w xs v w') (hl : xs.length ≤ 1048576) : OwnC w.heap.size w' v xs := by
  obtain ⟨g, rfl, hg, hs⟩ := h
  exact ⟨pc_length xs, .inr ⟨g, xs.length, _, rfl, hs, hg, Nat.le_refl _, by unfold maxLen; omega, by simp [pc_length], by simp [← pc_length]⟩⟩
theorem info40 : ∃ i : TypeInfo, Try.prog.info? 40 = some i ∧ i.zero = some (.agg #[.int .i8 0, .int .i8 0]) ∧ i.size = 2 ∧ i.bytes = 2 := by
  have h : (Try.prog.info? 40).map (fun i => (i.zero, i.size, i.bytes)) = some (some (.agg #[.int .i8 0, .int .i8 0]), 2, 2) := by kernel_rfl
  obtain ⟨i, hi, he⟩ := Option.map_eq_some_iff.1 h
  injection he with e1 e2
  injection e2 with e2 e3
  exact ⟨i, hi, e1, e2, e3⟩
theorem wpList_appC {ops : Array Oper} {rest : List Oper} {o : Oper} {a : Act} {w0 : World} {Q : Exit → Act → World → Prop} (hgd : o.guard = none) (s x : Operand)
    (ho : o.op = .call { callee := .builtin .append, args := #[s, x], argTypes := #[31, 31] }) (B : Nat) (v : Value) (xs : List (Int × Int)) (hs : a.eval s = v) (hown : OwnC B w0 v xs) (hB : B ≤ w0.heap.size) (hl : xs.length ≤ 1000000)
    (px py : Int) (hx : a.eval x = .slice (some ⟨w0.heap.size, 0, none⟩) 1 1)
    (h : ∀ v' w', OwnC B w' v' (xs ++ [(px, py)]) → Below B w0 w' → wpList Try.prog ops Q rest (a.put o.dst v') w') :
    wpList Try.prog ops Q (o :: rest) a (w0.alloc (.cells #[.int .i8 px, .int .i8 py] 40)) := by
  obtain ⟨i, hi, hz, hsz, hby⟩ := info40
  have hlt := hown.lt
  refine wpList_append_own _ hgd s x 31 ho B 40 i (.agg #[.int .i8 0, .int .i8 0]) 2 2 Try.underlying31 hi hz hsz hby rfl (by decide) v xs.length (pc xs) hs (World.ownsRow.alloc hown _) ⟨w0.heap.size, 0, none⟩ 1 1 [.int .i8 px, .int .i8 py] hx rfl ?_ ?_ (by unfold maxLen; omega) (by omega) (by simp; omega) ?_
  · intro j u hj
    match j, hj with
    | 0, hj => simp at hj; subst hj; simp [Addr.add]
    | 1, hj => simp at hj; subst hj; simp [Addr.add]
  · intro u hu
    simp at hu
    rcases hu with rfl | rfl <;> rfl
  · intro v' w' h1 h2 _
    refine h v' w' ?_ (((Below.refl B w0).alloc hB _).grown h2 (by simp; omega) (fun k hk => (hlt k hk).1))
    unfold OwnC
    rw [pc_append]
    simpa [pc] using h1
theorem wpList_nilC {ops : Array Oper} {rest : List Oper} {o : Oper} {a : Act} {w : World} {Q : Exit → Act → World → Prop} (N : Nat) (hd : o.dst = some N) (hgd : o.guard = none) (ho : o.op = .buildSlice 31 0 #[])
    (h : ∀ u w1, OwnC w.heap.size w1 u [] → Below w.heap.size w w1 → wpList Try.prog ops Q rest (a.put (some N) u) w1) : wpList Try.prog ops Q (o :: rest) a w := by
  rw [← hd] at h; clear hd
  refine wpList_plain hgd fun K hK => ?_
  have hr : (execOp a.eval o).run Try.prog w = .ok (.value (.slice (some ⟨w.heap.size, 0, none⟩) 0 0)) (w.alloc (.cells #[] 40)) := by
    obtain ⟨i, hi, hz, hsz, hby⟩ := info40
    unfold execOp
    simp [ho, Instr.buildSlice, run_underlying Try.underlying31, sizeOf, typeInfo, hi, hsz, Instr.fill, go_sem]
  unfold Oper.wp
  rw [hr]
  exact hK _ _ (h _ _ (OwnC.made (Nat.le_refl _)) ((Below.refl _ _).alloc (Nat.le_refl _) _))
/-- The cells of a line, up to a place, that are taken. -/
def colsUp (acc : Int × Int → Bool) (y x : Nat) : List (Int × Int) := ((List.range x).map fun (x : Nat) => ((x : Int), (y : Int))).filter acc
def rowsUp (acc : Int × Int → Bool) (W y : Nat) : List (Int × Int) := (List.range y).flatMap fun y => colsUp acc y W
theorem colsUp_zero (acc : Int × Int → Bool) (y : Nat) : colsUp acc y 0 = [] := rfl
theorem colsUp_t {acc : Int × Int → Bool} {y x : Nat} (h : acc ((x : Int), (y : Int)) = true) : colsUp acc y (x + 1) = colsUp acc y x ++ [((x : Int), (y : Int))] := by simp [colsUp, List.range_succ, h]
theorem colsUp_f {acc : Int × Int → Bool} {y x : Nat} (h : acc ((x : Int), (y : Int)) = false) : colsUp acc y (x + 1) = colsUp acc y x := by simp [colsUp, List.range_succ, h]
theorem colsUp_le (acc : Int × Int → Bool) (y x : Nat) : (colsUp acc y x).length ≤ x := Nat.le_trans (List.length_filter_le _ _) (by simp)
theorem rowsUp_zero (acc : Int × Int → Bool) (W : Nat) : rowsUp acc W 0 = [] := rfl
theorem rowsUp_succ (acc : Int × Int → Bool) (W y : Nat) : rowsUp acc W (y + 1) = rowsUp acc W y ++ colsUp acc y W := by simp [rowsUp, List.range_succ]
theorem rowsUp_le (acc : Int × Int → Bool) (W y : Nat) : (rowsUp acc W y).length ≤ W * y := by
  induction y with
  | zero => simp [rowsUp]
  | succ y ih => rw [rowsUp_succ, List.length_append]; have := colsUp_le acc y W; rw [Nat.mul_succ]; omega
theorem up_le (acc : Int × Int → Bool) (W y x : Nat) (hW : W ≤ 12) (hx : x ≤ 12) (hy : y ≤ 12) : (rowsUp acc W y ++ colsUp acc y x).length ≤ 1000 := by
  have h1 := rowsUp_le acc W y
  have h2 := colsUp_le acc y x
  have h3 : W * y ≤ 12 * 12 := Nat.mul_le_mul hW hy
  rw [List.length_append]; omega
theorem rowsUp_filter (acc : Int × Int → Bool) (W y : Nat) : rowsUp acc W y = (rowsUp (fun _ => true) W y).filter acc := by
  induction y with
  | zero => rfl
  | succ y ih => rw [rowsUp_succ, rowsUp_succ, List.filter_append, ← ih]; simp [colsUp]
theorem mem_rowsUp (acc : Int × Int → Bool) (W y : Nat) (p : Int × Int) : p ∈ rowsUp acc W y ↔ (0 ≤ p.1 ∧ p.1 < W ∧ 0 ≤ p.2 ∧ p.2 < y) ∧ acc p = true := by
  obtain ⟨a, b⟩ := p
  simp only [rowsUp, colsUp, List.mem_flatMap, List.mem_range, List.mem_filter, List.mem_map, Prod.mk.injEq]
  constructor
  · rintro ⟨j, hj, ⟨i, hi, rfl, rfl⟩, h⟩
    exact ⟨⟨by omega, by omega, by omega, by omega⟩, h⟩
  · rintro ⟨⟨h1, h2, h3, h4⟩, h⟩
    exact ⟨b.toNat, by omega, ⟨a.toNat, by omega, by omega, by omega⟩, h⟩
/-- The points of a ground, in order. -/
def ptsOf (G : Gd) : List (Int × Int) := rowsUp (fun _ => true) G.W.toNat G.H.toNat
def ownPost (w : World) (xs : List (Int × Int)) (e : Ending) (w' : World) : Prop := ∃ v, e = .returned v ∧ OwnC w.heap.size w' v xs ∧ Below w.heap.size w w'
set_option maxHeartbeats 1000000 in
theorem l04All_is (G : Gd) (gl : Value) (hV : GValid G) (g : Nat) (w : World) (hb : w.heap[g]? = some (.cells (gc G gl) 33 (0, 0))) :
    Calls Try.prog 54 #[.pointer (some ⟨g, 0, none⟩)] w (ownPost w (ptsOf G)) := by
  obtain ⟨hW1, hW2⟩ := hV.W
  obtain ⟨hH1, hH2⟩ := hV.H
  obtain ⟨W, hW⟩ : ∃ W : Nat, G.W = (W : Int) := ⟨G.W.toNat, by omega⟩
  obtain ⟨H, hH⟩ : ∃ H : Nat, G.H = (H : Int) := ⟨G.H.toNat, by omega⟩
  have hpts : ptsOf G = rowsUp (fun _ => true) W H := by unfold ptsOf; rw [hW, hH]; rfl
  have a0 := (blk_cell hb 0).trans (gc_0 _ _)
  have a1 := (blk_cell hb 1).trans (gc_1 _ _)
  rw [hW] at a0 hW1 hW2
  rw [hH] at a1 hH1 hH2
  clear hW hH
  have HP := Lib.hid hpts
  clear hpts
  go_enter Try.func54, Try.ntmps54
  go_wp2
  go_loopw [3, 4] (fun v u wr => ∃ j : Nat, j ≤ H ∧ u = .int .i8 j ∧ OwnC w.heap.size wr v (rowsUp (fun _ => true) W j) ∧ Below w.heap.size w wr) (fun _ u _ => H - (intOf u).toNat)
  case atStart => exact ⟨0, Nat.zero_le _, rfl, OwnC.made (Nat.le_refl _), (Below.refl _ _).alloc (Nat.le_refl _) _⟩
  case round =>
    obtain ⟨j, hj, rfl, hO, hB⟩ := hrel
    have a0 := cell_below hB a0
    have a1 := cell_below hB a1
    by_cases hlt : j < H
    · have hlt' : decide ((j : Int) < (H : Int)) = true := decide_eq_true (by omega)
      go_wp2
      obtain ⟨wo, hwo⟩ : ∃ wo : World, wo = wr := ⟨_, rfl⟩
      subst hwo
      go_loopw [3, 5] (fun v u wr => ∃ k : Nat, k ≤ W ∧ u = .int .i8 k ∧ OwnC w.heap.size wr v (rowsUp (fun _ => true) W j ++ colsUp (fun _ => true) j k) ∧ Below w.heap.size w wr) (fun _ u _ => W - (intOf u).toNat)
      case atStart => exact ⟨0, Nat.zero_le _, rfl, by rw [colsUp_zero, List.append_nil]; exact hO, hB⟩
      case round =>
        obtain ⟨k, hk, rfl, hO2, hB2⟩ := hrel
        have a0 := (hB2.cell (World.block_lt_of_cell? _ _ ((blk_cell hb 0).trans (gc_0 _ _)))).trans ((hB.cell (World.block_lt_of_cell? _ _ ((blk_cell hb 0).trans (gc_0 _ _)))).symm.trans a0)
        by_cases hlk : k < W
        · have hlk' : decide ((k : Int) < (W : Int)) = true := decide_eq_true (by omega)
          have hle := up_le (fun _ => true) W j k (by omega) (by omega) (by omega)
          go_wp2_with (first
            | (at_builtin; refine wpList_appC rfl _ _ rfl w.heap.size _ _ rfl hO2 hB2.size (by omega) k j rfl ?_; intro v' w3 hO3 hB3))
          go_roundw
          case rel => exact ⟨k + 1, by omega, by go_num, by rw [colsUp_t rfl, ← List.append_assoc]; exact hO3, hB2.trans hB3⟩
          case measure => simp [intOf]; omega
        · obtain rfl : k = W := by omega
          go_wp2
          go_roundw
          case rel => exact ⟨j + 1, by omega, by go_num, by rw [rowsUp_succ]; exact hO2, hB2⟩
          case measure => simp [intOf]; omega
    · obtain rfl : j = H := by omega
      go_wp2
      go_ret
      exact ⟨_, rfl, by rw [HP.out]; exact hO, hB⟩
end Go.Proofs.Ytkhheofgnhndbaa
/- The points of a ground that a function value takes. -/
namespace Go.Proofs.Ytkhheofgnhndbaa
set_option linter.unusedVariables false
set_option linter.unusedSimpArgs false
open Go.RowKit
/-- A function value that takes two numbers and answers as acc says. -/
structure PredN (f : Nat) (cs : Array Value) (B : Nat) (w : World) (W H : Nat) (acc : Int × Int → Bool) : Prop where
  enter : ∀ args w, (callFunc f args).run Try.prog w = .ok (.enter f args) w
  gives : ∀ x y : Nat, x < W → y < H → ∀ w', Below B w w' → Calls Try.prog f (#[.int .i64 x, .int .i64 y] ++ cs) w' (eqPost w' (acc ((x : Int), (y : Int))))
/-- A function value that takes a cell and answers as acc says. -/
structure PredC (f : Nat) (cs : Array Value) (B : Nat) (w : World) (W H : Nat) (acc : Int × Int → Bool) : Prop where
  enter : ∀ args w, (callFunc f args).run Try.prog w = .ok (.enter f args) w
  gives : ∀ x y : Nat, x < W → y < H → ∀ w', Below B w w' → Calls Try.prog f (#[.agg #[.int .i8 x, .int .i8 y]] ++ cs) w' (eqPost w' (acc ((x : Int), (y : Int))))
set_option maxHeartbeats 1000000 in
theorem cells_is (W H : Nat) (hW : W ≤ 12) (hH : H ≤ 12) (f : Nat) (cs : Array Value) (w : World) (acc : Int × Int → Bool) (hp : PredN f cs w.heap.size w W H acc) :
    Calls Try.prog 94 #[.agg #[.int .i8 W, .int .i8 H, .slice none 0 0], .func (.func f) #[] cs] w (ownPost w (rowsUp acc W H)) := by
  obtain ⟨heg, hgv⟩ := hp
  have HG := Lib.hid hgv
  clear hgv
  go_enter Try.func94, Try.ntmps94
  go_wp2_with (first
    | (with_reducible refine wpList_box 2 rfl rfl 97 _ rfl (.agg #[.int .i8 W, .int .i8 H, .slice none 0 0]) rfl #[.int .i8 W, .int .i8 H, .slice none 0 0] rfl ?_; intro g1 w1 b1 hb1 _hs1;  have hlt1 := blk_lt b1)
    | (with_reducible refine wpList_nilC 8 rfl rfl rfl ?_; intro v0 w2 hO0 hB0; have b1 := blk_below hB0 b1; have a0 : w2.cell? ⟨g1, 0, none⟩ = some (.int .i8 W) := (blk_cell b1 0).trans rfl; have a1 : w2.cell? ⟨g1, 1, none⟩ = some (.int .i8 H) := (blk_cell b1 1).trans rfl))
  go_loopw [5, 12] (fun v u wr => ∃ j : Nat, j ≤ H ∧ u = .int .i64 j ∧ OwnC w1.heap.size wr v (rowsUp acc W j) ∧ Below w1.heap.size w1 wr ∧ wr.cell? ⟨g1, 0, none⟩ = some (.int .i8 W)) (fun _ u _ => H - (intOf u).toNat)
  case atStart => exact ⟨0, Nat.zero_le _, rfl, hO0, hB0, a0⟩
  case round =>
    obtain ⟨j, hj, rfl, hO, hB, c0⟩ := hrel
    by_cases hlt : j < H
    · have hlt' : decide ((j : Int) < (H : Int)) = true := decide_eq_true (by omega)
      go_wp2
      obtain ⟨wo, hwo⟩ : ∃ wo : World, wo = wr := ⟨_, rfl⟩
      subst hwo
      go_loopw [5, 18] (fun v u wr => ∃ k : Nat, k ≤ W ∧ u = .int .i64 k ∧ OwnC w1.heap.size wr v (rowsUp acc W j ++ colsUp acc j k) ∧ Below w1.heap.size w1 wr ∧ wr.cell? ⟨g1, 0, none⟩ = some (.int .i8 W)) (fun _ u _ => W - (intOf u).toNat)
      case atStart => exact ⟨0, Nat.zero_le _, rfl, by rw [colsUp_zero, List.append_nil]; exact hO, hB, c0⟩
      case round =>
        obtain ⟨k, hk, rfl, hO2, hB2, c2⟩ := hrel
        by_cases hlk : k < W
        · have hlk' : decide ((k : Int) < (W : Int)) = true := decide_eq_true (by omega)
          have hle := up_le acc W j k (by omega) (by omega) (by omega)
          have hca := HG.out k j hlk hlt wr (hb1.trans (hB2.mono hb1.size))
          by_cases hacc : acc ((k : Int), (j : Int)) = true
          · rw [hacc] at hca
            go_wp2_with (first
              | (go_at_fn f; refine hca.mono ?_; rintro e w2 ⟨rfl, hb2⟩; have hO2 := hO2.below hb2; have hB2 := hB2.trans (hb2.mono hB2.size); have c2 := cell_below hb2 c2)
              | (at_builtin; refine wpList_appC rfl _ _ rfl w1.heap.size _ _ rfl hO2 hB2.size (by omega) k j rfl ?_; intro v' w3 hO3 hB3))
            go_roundw
            case rel => exact ⟨k + 1, by omega, by go_num, by rw [colsUp_t hacc, ← List.append_assoc]; exact hO3, hB2.trans hB3, (hB3.cell hlt1).trans c2⟩
            case measure => simp [intOf]; omega
          · rw [Bool.not_eq_true] at hacc
            rw [hacc] at hca
            go_wp2_with (first
              | (go_at_fn f; refine hca.mono ?_; rintro e w2 ⟨rfl, hb2⟩; have hO2 := hO2.below hb2; have hB2 := hB2.trans (hb2.mono hB2.size); have c2 := cell_below hb2 c2))
            go_roundw
            case rel => exact ⟨k + 1, by omega, by go_num, by rw [colsUp_f hacc]; exact hO2, hB2, c2⟩
            case measure => simp [intOf]; omega
        · obtain rfl : k = W := by omega
          go_wp2
          go_roundw
          case rel => exact ⟨j + 1, by omega, by go_num, by rw [rowsUp_succ]; exact hO2, hB2, c2⟩
          case measure => simp [intOf]; omega
    · obtain rfl : j = H := by omega
      go_wp2
      go_ret
      exact ⟨_, rfl, hO.lower hb1.size, hb1.trans (hB.mono hb1.size)⟩
theorem wrap_i8 (n : Int) (h : -128 ≤ n) (h' : n ≤ 127) : IntKind.i8.wrap n = n := by
  simp [IntKind.wrap, IntKind.signed, IntKind.bits]; omega
theorem points1_is (f : Nat) (cs : Array Value) (B : Nat) (w : World) (W H : Nat) (hW : W ≤ 12) (hH : H ≤ 12) (acc : Int × Int → Bool) (hp : PredC f cs B w W H acc) (g : Nat) (hg : w.heap[g]? = some (.cells #[.func (.func f) #[] cs] 70 (0, 0))) (hgB : g < B) :
    PredN 95 #[.pointer (some ⟨g, 0, none⟩)] B w W H acc := by
  refine ⟨by go_simp, fun x y hx hy w' hb => ?_⟩
  have hg' := (hb.block g hgB).trans hg
  have a0 : w'.cell? ⟨g, 0, none⟩ = some (.func (.func f) #[] cs) := (blk_cell hg' 0).trans rfl
  have eg := hp.enter
  have hca := hp.gives x y hx hy w' hb
  have Hx : IntKind.i8.wrap (x : Int) = x := wrap_i8 _ (by omega) (by omega)
  have Hy : IntKind.i8.wrap (y : Int) = y := wrap_i8 _ (by omega) (by omega)
  go_enter Try.func95, Try.ntmps95
  go_wp2_with (first
    | (go_at_fn f; refine hca.mono ?_; rintro e w2 ⟨rfl, hb2⟩))
  go_ret
  exact ⟨rfl, hb2⟩
set_option maxRecDepth 100000 in
theorem points_is (G : Gd) (gl : Value) (hG : GdOk G) (hV : GValid G) (f : Nat) (cs : Array Value) (w : World) (acc : Int × Int → Bool) (hp : PredC f cs w.heap.size w G.W.toNat G.H.toNat acc) :
    Calls Try.prog 57 #[.agg (gc G gl), .func (.func f) #[] cs] w (ownPost w (rowsUp acc G.W.toNat G.H.toNat)) := by
  obtain ⟨hW1, hW2⟩ := hV.W
  obtain ⟨hH1, hH2⟩ := hV.H
  have hlen := hG.len
  obtain ⟨W, hW⟩ : ∃ W : Nat, G.W = (W : Int) := ⟨G.W.toNat, by omega⟩
  obtain ⟨H, hH⟩ : ∃ H : Nat, G.H = (H : Int) := ⟨G.H.toNat, by omega⟩
  have eW : G.W.toNat = W := by omega
  have eH : G.H.toNat = H := by omega
  have hfr := frame_is G gl
  rw [hW, hH] at hfr
  rw [eW, eH] at hp ⊢
  rw [hW] at hW1 hW2
  rw [hH] at hH1 hH2
  clear eW eH hW hH
  go_enter Try.func57, Try.ntmps57
  go_wp2_with (first
    | (with_reducible refine wpList_box 2 rfl rfl 33 _ rfl (.agg (gc G gl)) rfl (gc G gl) rfl ?_; intro g1 w1 b1 hb1 _hs1)
    | (with_reducible refine wpList_box 3 rfl rfl 70 _ rfl (.func (.func f) #[] cs) rfl #[.func (.func f) #[] cs] rfl ?_; intro g2 w2 b2 hb2 _hs2; have b1 := blk_below hb2 b1)
    | (with_reducible refine wpList_load_row rfl 33 _ rfl g1 rfl 33 _ (0, 0) _ b1 Try.underlying33 rfl (gsize _ _ hlen) ?_)
    | (go_at_call 89; refine (hfr _).mono ?_; rintro e w3 ⟨rfl, hb3⟩)
    | (go_at_call 94; refine (cells_is W H (by omega) (by omega) 95 _ _ acc (points1_is f cs _ _ W H (by omega) (by omega) acc ⟨hp.enter, fun x y hx hy w' hb => hp.gives x y hx hy w' (((hb1.trans (hb2.mono hb1.size)).trans (hb3.mono (hb1.trans (hb2.mono hb1.size)).size)).trans (hb.mono (((hb1.trans (hb2.mono hb1.size)).trans (hb3.mono (hb1.trans (hb2.mono hb1.size)).size)).size)))⟩ g2 (blk_below hb3 b2) (blk_lt (blk_below hb3 b2)))).mono ?_; rintro e w4 ⟨v, rfl, hO, hb4⟩))
  have hB := below_trans (below_trans hb1 hb2) hb3
  go_ret
  exact ⟨_, rfl, hO.lower hB.size, below_trans hB hb4⟩
theorem PredC.step {f : Nat} {cs : Array Value} {w w1 : World} {W H : Nat} {acc : Int × Int → Bool} (h : PredC f cs w.heap.size w W H acc) (hb : Below w.heap.size w w1) : PredC f cs w1.heap.size w1 W H acc :=
  ⟨h.enter, fun x y hx hy w' hb' => h.gives x y hx hy w' (hb.trans (hb'.mono hb.size))⟩
set_option linter.unusedVariables false in
theorem always58 (B : Nat) (w : World) (W H : Nat) : PredC 58 #[] B w W H (fun _ => true) := by
  refine ⟨by go_simp, fun x y hx hy w' hb => ?_⟩
  go_enter Try.func58, Try.ntmps58
  go_wp2
  go_ret
  exact ⟨rfl, (Below.refl _ _).alloc (Nat.le_refl _) _⟩
set_option linter.unusedVariables false in
theorem always62 (B : Nat) (w : World) (W H : Nat) : PredC 62 #[] B w W H (fun _ => true) := by
  refine ⟨by go_simp, fun x y hx hy w' hb => ?_⟩
  go_enter Try.func62, Try.ntmps62
  go_wp2
  go_ret
  exact ⟨rfl, (Below.refl _ _).alloc (Nat.le_refl _) _⟩
theorem bit_is (b : Bool) (w : World) : Calls Try.prog 60 #[.bool b] w fun e w' => e = .returned (.int .i64 (if b then 1 else 0)) ∧ w = w' := by
  cases b
  · go_enter Try.func60, Try.ntmps60
    go_wp2
    go_ret
    exact ⟨rfl, rfl⟩
  · go_enter Try.func60, Try.ntmps60
    go_wp2
    go_ret
    exact ⟨rfl, rfl⟩
theorem heightS_is (G : Gd) (gl : Value) (hG : GdOk G) (x y : Int) (hx : 0 ≤ x ∧ x < 9) (hy : 0 ≤ y ∧ y < 9) (g : Nat) (w : World) (hb : w.heap[g]? = some (.cells (gc G gl) 33 (0, 0))) :
    Calls Try.prog 56 #[.pointer (some ⟨g, 0, none⟩), .agg #[.int .i8 x, .int .i8 y]] w fun e w' => e = .returned (.int .i64 (hAt G x y)) ∧ Below w.heap.size w w' := by
  obtain ⟨hx1, hx2⟩ := hx
  obtain ⟨hy1, hy2⟩ := hy
  go_enter Try.func56, Try.ntmps56
  go_wp2_with (first
    | (with_reducible refine wpList_box 3 rfl rfl 40 _ rfl (.agg #[.int .i8 x, .int .i8 y]) rfl #[.int .i8 x, .int .i8 y] rfl ?_; intro g2 w2 b2 hb2 _hs2))
  obtain ⟨hh1, hh2⟩ := hAt_ok hG x y
  have b1' := blk_below hb2 hb
  have c0 := ext_cell (v := .int .i8 x) ((blk_cell b2 0).trans rfl)
  have c1 := ext_cell (v := .int .i8 y) ((blk_cell b2 1).trans rfl)
  have cc := ext_cell ((blk_cell b1' _).trans (gc_h G gl hG.len x y hx1 hx2 hy1 hy2))
  try simp only [Act.put, List.setIfInBounds_toArray, List.set_cons_zero, List.set_cons_succ]
  refine wp_region_ext (by kernel_rfl) (by kernel_rfl) ?_
  repeat (first
    | go_big_quiet_skip
    | (go_big_quiet_want
       go_big_quiet_op
       first
         | go_big_quiet_on))
  refine wpQuiet_nil ?_
  intro w3 hb3
  go_wp2
  go_ret
  exact ⟨rfl, below_trans hb2 hb3⟩
end Go.Proofs.Ytkhheofgnhndbaa
/- Rows of cells: the first that a function value takes; those that it takes are struck. -/
namespace Go.Proofs.Ytkhheofgnhndbaa
set_option linter.unusedVariables false
set_option linter.unusedSimpArgs false
open Go.RowKit
/-- A function value that takes an element and answers as p says. -/
structure PredE (f : Nat) (cs : Array Value) (B : Nat) (w : World) (xs : List (Int × Int)) (p : Int × Int → Bool) : Prop where
  enter : ∀ args w, (callFunc f args).run Try.prog w = .ok (.enter f args) w
  gives : ∀ i, i < xs.length → ∀ w', Below B w w' → Calls Try.prog f (#[.agg #[.int .i8 (xs.getD i (0, 0)).1, .int .i8 (xs.getD i (0, 0)).2]] ++ cs) w' (eqPost w' (p (xs.getD i (0, 0))))
def IdxR (p : Int × Int → Bool) (xs : List (Int × Int)) (r : Int) : Prop :=
  (r = -1 ∧ ∀ i, i < xs.length → p (xs.getD i (0, 0)) = false) ∨ ∃ k : Nat, k < xs.length ∧ r = k ∧ p (xs.getD k (0, 0)) = true ∧ ∀ i, i < k → p (xs.getD i (0, 0)) = false
set_option maxHeartbeats 1000000 in
theorem indexFunc_is (f : Nat) (cs : Array Value) (B : Nat) (w0 w : World) (xs : List (Int × Int)) (v : Value) (p : Int × Int → Bool) (hp : PredE f cs B w0 xs p) (hv : Cs w v xs) (hl : xs.length ≤ 1048576) (hB : Below B w0 w) (hBl : B ≤ w.heap.size) :
    Calls Try.prog 106 #[v, .func (.func f) #[] cs] w fun e w' => ∃ r, e = .returned (.int .i64 r) ∧ IdxR p xs r ∧ Below w.heap.size w w' := by
  obtain ⟨heg, hgv⟩ := hp
  have HG := Lib.hid hgv
  clear hgv
  obtain ⟨A, c, rfl, h1, h2, h3⟩ := hv
  have H3 := Lib.hid h3
  clear h2 h3
  go_enter Try.func106, Try.ntmps106
  go_wp2
  go_loopw [8] (fun u wr => ∃ k : Nat, k ≤ xs.length ∧ u = .int .i64 k ∧ Below w.heap.size w wr ∧ Hid (∀ i, i < k → p (xs.getD i (0, 0)) = false)) (fun u _ => xs.length - (intOf u).toNat)
  case atStart => exact ⟨0, Nat.zero_le _, rfl, Below.refl _ _, fun i hi => absurd hi (Nat.not_lt_zero _)⟩
  case round =>
    obtain ⟨k, hk, rfl, hBr, HU⟩ := hrel
    by_cases hlt : k < xs.length
    · obtain ⟨ad, rfl, hc⟩ := H3.out (by omega)
      have hck := (hc k hlt).below hBr
      have hca := HG.out k hlt wr (hB.trans (hBr.mono hBl))
      clear hc
      have HN : p (xs.getD k (0, 0)) = false → Hid (∀ i, i < k + 1 → p (xs.getD i (0, 0)) = false) := fun h i hi => by
        rcases Nat.lt_succ_iff_lt_or_eq.1 hi with h' | rfl
        · exact HU.out i h'
        · exact h
      have HE : p (xs.getD k (0, 0)) = true → Hid (IdxR p xs k) := fun h => .inr ⟨k, hlt, rfl, h, HU.out⟩
      have HN := Lib.hid HN
      have HE := Lib.hid HE
      revert hck hca HN HE
      generalize xs.getD k (0, 0) = q
      intro hck hca HN HE
      obtain ⟨qx, qy⟩ := q
      obtain ⟨c1, c2⟩ := hck
      dsimp only at c1 c2 hca
      cases hpq : p (qx, qy) with
      | true =>
        rw [hpq] at hca
        have HE := HE.out hpq
        clear HN
        go_wp2_with (first
          | (go_at_fn f; refine hca.mono ?_; rintro e w2 ⟨rfl, hb2⟩))
        go_ret
        exact ⟨_, rfl, HE.out, below_trans hBr hb2⟩
      | false =>
        rw [hpq] at hca
        have HN := HN.out hpq
        clear HE
        go_wp2_with (first
          | (go_at_fn f; refine hca.mono ?_; rintro e w2 ⟨rfl, hb2⟩))
        go_roundw
        case rel => exact ⟨k + 1, by omega, by go_num, below_trans hBr hb2, HN⟩
        case measure => simp [intOf]; omega
    · obtain rfl : k = xs.length := by omega
      go_wp2
      go_ret
      exact ⟨_, rfl, .inl ⟨rfl, HU.out⟩, hBr⟩
theorem IdxR.ex (p : Int × Int → Bool) (xs : List (Int × Int)) : ∃ r, IdxR p xs r := by
  have key : ∀ m, m ≤ xs.length → (∀ i, i < m → p (xs.getD i (0, 0)) = false) ∨ ∃ k : Nat, k < m ∧ p (xs.getD k (0, 0)) = true ∧ ∀ i, i < k → p (xs.getD i (0, 0)) = false := by
    intro m
    induction m with
    | zero => exact fun _ => .inl fun i hi => absurd hi (Nat.not_lt_zero _)
    | succ m ih =>
      intro hm
      rcases ih (by omega) with h | ⟨k, hk, h1, h2⟩
      · cases hp : p (xs.getD m (0, 0)) with
        | true => exact .inr ⟨m, by omega, hp, h⟩
        | false =>
          refine .inl fun i hi => ?_
          rcases Nat.lt_succ_iff_lt_or_eq.1 hi with h' | h'
          · exact h i h'
          · rw [h']; exact hp
      · exact .inr ⟨k, by omega, h1, h2⟩
  rcases key xs.length (Nat.le_refl _) with h | ⟨k, hk, h1, h2⟩
  · exact ⟨-1, .inl ⟨rfl, h⟩⟩
  · exact ⟨k, .inr ⟨k, hk, rfl, h1, h2⟩⟩
theorem IdxR.uniq {p : Int × Int → Bool} {xs : List (Int × Int)} {r r' : Int} (h : IdxR p xs r) (h' : IdxR p xs r') : r = r' := by
  rcases h with ⟨rfl, ha⟩ | ⟨k, hk, rfl, h1, h2⟩ <;> rcases h' with ⟨rfl, ha'⟩ | ⟨k', hk', rfl, h1', h2'⟩
  · rfl
  · rw [ha k' hk'] at h1'; cases h1'
  · rw [ha' k hk] at h1; cases h1
  · rcases Nat.lt_trichotomy k k' with h | rfl | h
    · rw [h2' k h] at h1; cases h1
    · rfl
    · rw [h2 k' h] at h1'; cases h1'
def delPost (g : Nat) (w : World) (n : Nat) (ys : List (Int × Int)) (e : Ending) (w' : World) : Prop :=
  e = .returned (.slice (some ⟨g, 0, none⟩) ys.length n) ∧ (∃ zs, w'.heap[g]? = some (.cells (pc (ys ++ zs)).toArray 40 (0, 0)) ∧ (ys ++ zs).length = n) ∧ Below g w w'
theorem pc_take (xs : List (Int × Int)) (i : Nat) : (pc xs).take (i * 2) = pc (xs.take i) := by
  induction xs generalizing i with
  | nil => simp [pc]
  | cons q xs ih =>
    cases i with
    | zero => simp [pc]
    | succ i =>
      have := ih i
      simp only [pc, List.flatMap_cons, List.take_succ_cons] at this ⊢
      have e : (i + 1) * 2 = i * 2 + 1 + 1 := by omega
      rw [e]
      simp only [List.cons_append, List.nil_append, List.take_succ_cons]
      rw [this]
theorem Cs.of_blk {w : World} {g : Nat} {xs : List (Int × Int)} (hg : w.heap[g]? = some (.cells (pc xs).toArray 40 (0, 0))) (hl : xs.length ≤ 1048576) : Cs w (.slice (some ⟨g, 0, none⟩) xs.length xs.length) xs := by
  refine ⟨_, _, rfl, Nat.le_refl _, by unfold maxLen; omega, fun _ => ⟨_, rfl, fun j hj => ?_⟩⟩
  have := pc_get xs j hj
  have ha : (⟨g, 0, none⟩ : Addr).add (j * 2) = ⟨g, j * 2, none⟩ := by rw [Addr.add_mid]; simp
  constructor
  · rw [ha, blk_cell hg]; simpa using this.1
  · rw [ha, blk_cell hg]; simpa using this.2
theorem cell_of_blk {w : World} {g : Nat} {xs : List (Int × Int)} (hg : w.heap[g]? = some (.cells (pc xs).toArray 40 (0, 0))) {j : Nat} (hj : j < xs.length) :
    w.cell? ⟨g, j * 2, none⟩ = some (.int .i8 (xs.getD j (0, 0)).1) ∧ w.cell? ⟨g, j * 2 + 1, none⟩ = some (.int .i8 (xs.getD j (0, 0)).2) := by
  have := pc_get xs j hj
  constructor
  · rw [blk_cell hg]; simpa using this.1
  · rw [blk_cell hg]; simpa using this.2
theorem wpList_clearC {ops : Array Oper} {rest : List Oper} {o : Oper} {a : Act} {w : World} {Q : Exit → Act → World → Prop} (hgd : o.guard = none) (s : Operand)
    (ho : o.op = .call { callee := .builtin .clear, args := #[s], argTypes := #[31] }) (g i m c : Nat) (hm : 0 < m) (xs : List (Int × Int)) (hs : a.eval s = .slice (some ⟨g, i * 2, none⟩) m c) (hg : w.heap[g]? = some (.cells (pc xs).toArray 40 (0, 0))) (hl : i + m = xs.length)
    (h : ∀ w', w'.heap[g]? = some (.cells (pc (xs.take i ++ List.replicate m (0, 0))).toArray 40 (0, 0)) → SetB g w w' → ∀ u, wpList Try.prog ops Q rest (a.put o.dst u) w') : wpList Try.prog ops Q (o :: rest) a w := by
  refine wpList_plain hgd fun K hK => ?_
  have hpl := pc_length xs
  have hmc : madeCells (Value.agg #[.int .i8 0, .int .i8 0]).cells (m * 2) = (pc (List.replicate m (0, 0))).toArray := made_pc m
  have hst := run_storeCells_at Try.prog g (i * 2) 40 (pc (List.replicate m (0, 0))) 0 (pc xs).toArray w hg (by simp [pc_length]; omega) (by
    intro u hu
    simp only [pc, List.mem_flatMap] at hu
    obtain ⟨q, _, hu⟩ := hu
    simp at hu
    rcases hu with rfl | rfl <;> rfl)
  simp only [Nat.add_zero] at hst
  have hz : (zeroValue 40).run Try.prog w = .ok (.agg #[.int .i8 0, .int .i8 0]) w := by
    obtain ⟨i, hi, hz, hsz, hby⟩ := info40
    simp [zeroValue, typeInfo, hi, hz]
  have hzc : (Builtin.zeroCells (Value.agg #[.int .i8 0, .int .i8 0]).cells m).toList = pc (List.replicate m (0, 0)) := by
    have : Builtin.zeroCells (Value.agg #[.int .i8 0, .int .i8 0]).cells m = madeCells (Value.agg #[.int .i8 0, .int .i8 0]).cells (m * 2) := rfl
    rw [this, hmc]
  obtain ⟨m', rfl⟩ : ∃ m', m = m' + 1 := ⟨m - 1, by omega⟩
  have hr : (execOp a.eval o).run Try.prog w = .ok (.value (.tuple #[])) (w.setRow g ((pc xs).take (i * 2) ++ pc (List.replicate (m' + 1) (0, 0)) ++ (pc xs).drop (i * 2 + (pc (List.replicate (m' + 1) (0, 0))).length)).toArray) := by
    unfold execOp
    simp [ho, hs, resolve, invoke, builtin, Builtin.clear_, run_underlying Try.underlying31, hz, hzc, hst]
  have hcs : (pc xs).take (i * 2) ++ pc (List.replicate (m' + 1) (0, 0)) ++ (pc xs).drop (i * 2 + (pc (List.replicate (m' + 1) (0, 0))).length) = pc (xs.take i ++ List.replicate (m' + 1) (0, 0)) := by
    rw [List.drop_of_length_le (by simp [pc_length]; omega), List.append_nil, pc_append, pc_take]
  unfold Oper.wp
  rw [hr, hcs]
  exact hK _ _ (h _ (setRow_heap w g _ _ 40 _ hg) (SetB.of_row _ _ _) _)
theorem filter_take_t {p : Int × Int → Bool} {xs : List (Int × Int)} {j : Nat} (hj : j < xs.length) (h : p (xs.getD j (0, 0)) = true) : (xs.take (j + 1)).filter p = (xs.take j).filter p ++ [xs.getD j (0, 0)] := by
  have e : xs.take (j + 1) = xs.take j ++ [xs.getD j (0, 0)] := by rw [List.take_add_one, List.getElem?_eq_getElem hj, List.getD_eq_getElem?_getD, List.getElem?_eq_getElem hj]; rfl
  rw [e, List.filter_append]
  simp only [List.getD_eq_getElem?_getD] at h ⊢
  simp [h]
theorem filter_take_f {p : Int × Int → Bool} {xs : List (Int × Int)} {j : Nat} (hj : j < xs.length) (h : p (xs.getD j (0, 0)) = false) : (xs.take (j + 1)).filter p = (xs.take j).filter p := by
  have e : xs.take (j + 1) = xs.take j ++ [xs.getD j (0, 0)] := by rw [List.take_add_one, List.getElem?_eq_getElem hj, List.getD_eq_getElem?_getD, List.getElem?_eq_getElem hj]; rfl
  rw [e, List.filter_append]
  simp only [List.getD_eq_getElem?_getD] at h ⊢
  simp [h]
theorem drop_getD {xs cur : List (Int × Int)} {j : Nat} (h : cur.drop j = xs.drop j) : cur.getD j (0, 0) = xs.getD j (0, 0) := by
  have := congrArg (fun l => l[0]?) h
  simp only [List.getElem?_drop, Nat.add_zero] at this
  rw [List.getD_eq_getElem?_getD, List.getD_eq_getElem?_getD, this]
/-- What the row holds while it is struck. -/
structure DelInv (p : Int × Int → Bool) (xs : List (Int × Int)) (i j : Nat) (cur : List (Int × Int)) : Prop where
  lt : i < j
  len : cur.length = xs.length
  low : cur.take i = (xs.take j).filter fun q => !p q
  high : cur.drop j = xs.drop j
theorem DelInv.keep {p : Int × Int → Bool} {xs : List (Int × Int)} {i j : Nat} {cur : List (Int × Int)} (h : DelInv p xs i j cur) (hj : j < xs.length) (hp : p (xs.getD j (0, 0)) = false) : DelInv p xs (i + 1) (j + 1) (cur.set i (xs.getD j (0, 0))) := by
  have hl := h.len
  have hi := h.lt
  refine ⟨by omega, by simpa using hl, ?_, ?_⟩
  · rw [filter_take_t hj (by rw [hp]; rfl), ← h.low, List.take_add_one, List.getElem?_set_self (by omega), List.take_set_of_le (Nat.le_refl _)]
    rfl
  · rw [List.drop_set_of_lt (by omega)]
    have := congrArg (List.drop 1) h.high
    simpa [List.drop_drop] using this
theorem DelInv.skip {p : Int × Int → Bool} {xs : List (Int × Int)} {i j : Nat} {cur : List (Int × Int)} (h : DelInv p xs i j cur) (hj : j < xs.length) (hp : p (xs.getD j (0, 0)) = true) : DelInv p xs i (j + 1) cur := by
  have hi := h.lt
  refine ⟨by omega, h.len, ?_, ?_⟩
  · rw [filter_take_f hj (by rw [hp]; rfl)]; exact h.low
  · have := congrArg (List.drop 1) h.high
    simpa [List.drop_drop] using this
theorem filter_all {p : Int × Int → Bool} {xs : List (Int × Int)} {k : Nat} (hk : k ≤ xs.length) (h : ∀ i, i < k → p (xs.getD i (0, 0)) = false) : (xs.take k).filter (fun q => !p q) = xs.take k := by
  apply List.filter_eq_self.2
  intro q hq
  obtain ⟨i, hi, rfl⟩ := List.mem_iff_getElem.1 hq
  simp only [List.length_take] at hi
  have := h i (by omega)
  rw [List.getD_eq_getElem?_getD, List.getElem?_eq_getElem (show i < xs.length by omega)] at this
  simp only [List.getElem_take]
  simp only [Option.getD_some] at this
  rw [this]; rfl
set_option maxHeartbeats 2000000 in
set_option maxRecDepth 100000 in
theorem deleteFunc_is (f : Nat) (cs : Array Value) (g : Nat) (w0 w : World) (xs : List (Int × Int)) (p : Int × Int → Bool) (hp : PredE f cs g w0 xs p) (hg : w.heap[g]? = some (.cells (pc xs).toArray 40 (0, 0))) (hl : xs.length ≤ 1048576) (hB : Below g w0 w) :
    Calls Try.prog 96 #[.slice (some ⟨g, 0, none⟩) xs.length xs.length, .func (.func f) #[] cs] w (delPost g w xs.length (xs.filter fun q => !p q)) := by
  have hgl := blk_lt hg
  have hix := indexFunc_is f cs g w0 w xs _ p hp (Cs.of_blk hg hl) hl hB (by omega)
  obtain ⟨heg, hgv⟩ := hp
  have HG := Lib.hid hgv
  clear hgv
  obtain ⟨r, hr⟩ := IdxR.ex p xs
  have hix : Calls Try.prog 106 #[.slice (some ⟨g, 0, none⟩) xs.length xs.length, .func (.func f) #[] cs] w fun e w' => e = .returned (.int .i64 r) ∧ Below w.heap.size w w' :=
    hix.mono fun e w' ⟨r', he, hr', hb⟩ => ⟨by rw [he, hr'.uniq hr], hb⟩
  go_enter Try.func96, Try.ntmps96
  rcases hr with ⟨rfl, hall⟩ | ⟨k0, hk0, rfl, hpk, hall⟩
  · have hf : (xs.filter fun q => !p q) = xs := by have := filter_all (Nat.le_refl _) hall; rwa [List.take_length] at this
    have HF := Lib.hid hf
    clear hf hall
    go_wp2_with (first
      | (go_at_call 106; refine hix.mono ?_; rintro e w1 ⟨rfl, hb1⟩; have hg1 := blk_below hb1 hg))
    go_ret
    exact ⟨by rw [HF.out]; rfl, ⟨[], by rw [HF.out, List.append_nil]; exact hg1, by rw [HF.out, List.append_nil]⟩, hb1.mono (by omega)⟩
  · have HI : Hid (DelInv p xs k0 (k0 + 1) xs) := ⟨by omega, rfl, by rw [filter_take_f hk0 (by rw [hpk]; rfl), filter_all (by omega) hall], rfl⟩
    have hn1 : ((k0 : Int) == -1) = false := beq_eq_false_iff_ne.2 (by omega)
    clear hall hpk
    go_wp2_with (first
      | (go_at_call 106; refine hix.mono ?_; rintro e w1 ⟨rfl, hb1⟩; have hg1 := blk_below hb1 hg))
    go_loopw [5, 6] (fun u v wr => ∃ (i j : Nat) (cur : List (Int × Int)), j ≤ xs.length ∧ u = .int .i64 i ∧ v = .int .i64 j ∧ Hid (DelInv p xs i j cur) ∧ wr.heap[g]? = some (.cells (pc cur).toArray 40 (0, 0)) ∧ Below g w wr) (fun _ v _ => xs.length - (intOf v).toNat)
    case atStart => exact ⟨k0, k0 + 1, xs, by omega, rfl, by go_num, HI, hg1, hb1.mono (by omega)⟩
    case round =>
      obtain ⟨i, j, cur, hj, rfl, rfl, HI2, hG, hBr⟩ := hrel
      clear HI hg1
      have hlen := HI2.out.len
      have hij := HI2.out.lt
      by_cases hlt : j < xs.length
      · have hcj := cell_of_blk hG (show j < cur.length by omega)
        rw [drop_getD HI2.out.high] at hcj
        have hca := HG.out j hlt
        have HK : p (xs.getD j (0, 0)) = false → Hid (DelInv p xs (i + 1) (j + 1) (cur.set i (xs.getD j (0, 0)))) := fun h => HI2.out.keep hlt h
        have HS : p (xs.getD j (0, 0)) = true → Hid (DelInv p xs i (j + 1) cur) := fun h => HI2.out.skip hlt h
        have HK := Lib.hid HK
        have HS := Lib.hid HS
        clear HI2
        revert hcj hca HK HS
        generalize xs.getD j (0, 0) = q
        intro hcj hca HK HS
        obtain ⟨qx, qy⟩ := q
        obtain ⟨c1, c2⟩ := hcj
        dsimp only at c1 c2 hca
        have hgs := blk_lt hG
        cases hpq : p (qx, qy) with
        | true =>
          have HS := HS.out hpq
          clear HK
          rw [hpq] at hca
          go_wp2_with (first
            | (with_reducible refine wpList_allocB 7 rfl rfl 40 rfl (.agg #[.int .i8 0, .int .i8 0]) #[.int .i8 0, .int .i8 0] (by kernel_rfl) rfl ?_; intro g2 w2 b2 hb2 _hs2)
            | (with_reducible refine wpList_storeB rfl 40 _ _ rfl g2 0 (.agg #[.int .i8 qx, .int .i8 qy]) #[.int .i8 qx, .int .i8 qy] rfl rfl rfl _ 40 b2 (by kernel_rfl) (by simp [Value.oneCell']) (by simp) #[.int .i8 qx, .int .i8 qy] (by simp) ?_; intro w3 b3 hS3; have hB3 : Below wr.heap.size wr w3 := hS3.below hb2 _hs2; have x0 : w3.cell? ⟨g2, 0, none⟩ = some (.int .i8 qx) := (blk_cell b3 0).trans rfl; have x1 : w3.cell? ⟨g2, 1, none⟩ = some (.int .i8 qy) := (blk_cell b3 1).trans rfl; have hBg : Below g w w3 := hBr.trans (hB3.mono (by omega)); have hca := hca w3 (hB.trans hBg))
            | (go_at_fn f; refine hca.mono ?_; rintro e w4 ⟨rfl, hb4⟩; have hB4 : Below wr.heap.size wr w4 := below_trans hB3 hb4))
          go_roundw
          case rel => exact ⟨i, j + 1, cur, by omega, rfl, by go_num, HS, blk_below hB4 hG, hBr.trans (hB4.mono (by omega))⟩
          case measure => simp [intOf]; omega
        | false =>
          have HK := HK.out hpq
          clear HS
          rw [hpq] at hca
          go_wp2_with (first
            | (with_reducible refine wpList_allocB 7 rfl rfl 40 rfl (.agg #[.int .i8 0, .int .i8 0]) #[.int .i8 0, .int .i8 0] (by kernel_rfl) rfl ?_; intro g2 w2 b2 hb2 _hs2)
            | (with_reducible refine wpList_storeB rfl 40 _ _ rfl g2 0 (.agg #[.int .i8 qx, .int .i8 qy]) #[.int .i8 qx, .int .i8 qy] rfl rfl rfl _ 40 b2 (by kernel_rfl) (by simp [Value.oneCell']) (by simp) #[.int .i8 qx, .int .i8 qy] (by simp) ?_; intro w3 b3 hS3; have hB3 : Below wr.heap.size wr w3 := hS3.below hb2 _hs2; have x0 : w3.cell? ⟨g2, 0, none⟩ = some (.int .i8 qx) := (blk_cell b3 0).trans rfl; have x1 : w3.cell? ⟨g2, 1, none⟩ = some (.int .i8 qy) := (blk_cell b3 1).trans rfl; have hBg : Below g w w3 := hBr.trans (hB3.mono (by omega)); have hca := hca w3 (hB.trans hBg))
            | (go_at_fn f; refine hca.mono ?_; rintro e w4 ⟨rfl, hb4⟩; have hB4 : Below wr.heap.size wr w4 := below_trans hB3 hb4; have hG4 := blk_below hB4 hG; have y0 := cell_below hb4 x0; have y1 := cell_below hb4 x1)
            | (with_reducible refine wpList_storeB rfl 40 _ _ rfl g (i * 2) (.agg #[.int .i8 qx, .int .i8 qy]) #[.int .i8 qx, .int .i8 qy] rfl rfl rfl _ 40 hG4 (by kernel_rfl) (by simp [Value.oneCell']) (by simp [pc_length]; omega) (pc (cur.set i (qx, qy))).toArray (by simp only [List.toList_toArray, List.size_toArray, List.length_cons, List.length_nil]; rw [pc_set _ _ (by omega)]) ?_; intro w5 hG5 hS5))
          go_roundw
          case rel => exact ⟨i + 1, j + 1, _, by omega, by go_num, by go_num, HK, hG5, hS5.below (hBr.trans (hB4.mono (by omega))) (Nat.le_refl _)⟩
          case measure => simp [intOf]; omega
      · obtain rfl : j = xs.length := by omega
        have hlow := HI2.out.low
        rw [List.take_length] at hlow
        have hnl : (xs.filter fun q => !p q).length = i := by rw [← hlow, List.length_take]; omega
        have HL := Lib.hid hlow
        have HN := Lib.hid hnl
        clear hlow hnl
        go_wp2_with (first
          | (with_reducible refine wpList_clearC rfl _ rfl g i (xs.length - i) (xs.length - i) (by omega) cur rfl hG (by omega) ?_; intro w5 hG5 hS5 _u))
        go_ret
        exact ⟨by rw [HN.out]; rfl, ⟨List.replicate (xs.length - i) (0, 0), by rw [← HL.out]; exact hG5, by rw [List.length_append, HN.out, List.length_replicate]; omega⟩, hS5.below hBr (Nat.le_refl _)⟩
end Go.Proofs.Ytkhheofgnhndbaa
/- The points beside a point, in order. -/
namespace Go.Proofs.Ytkhheofgnhndbaa
set_option linter.unusedVariables false
set_option linter.unusedSimpArgs false
open Go.RowKit
def fourOf (x y : Int) : List (Int × Int) := [(x, y - 1), (x - 1, y), (x + 1, y), (x, y + 1)]
def inG (G : Gd) (q : Int × Int) : Bool := decide (isPt G.W G.H q.1 q.2)
/-- The points beside one. -/
def besOf (G : Gd) (x y : Int) : List (Int × Int) := (fourOf x y).filter (inG G)
/-- An append beside a block that is kept. -/
theorem wpList_appK {ops : Array Oper} {rest : List Oper} {o : Oper} {a : Act} {w0 : World} {Q : Exit → Act → World → Prop} (hgd : o.guard = none) (s x : Operand)
    (ho : o.op = .call { callee := .builtin .append, args := #[s, x], argTypes := #[31, 31] }) (B gk : Nat) (v : Value) (xs : List (Int × Int)) (hs : a.eval s = v) (hown : OwnC B w0 v xs) (hB : B ≤ w0.heap.size) (hl : xs.length ≤ 1000000)
    (hgk : gk < w0.heap.size) (hne : v.ownBlock ≠ some gk) (px py : Int) (hx : a.eval x = .slice (some ⟨w0.heap.size, 0, none⟩) 1 1)
    (h : ∀ v' w', OwnC B w' v' (xs ++ [(px, py)]) → Below B w0 w' → v'.ownBlock ≠ some gk → w'.heap[gk]? = w0.heap[gk]? → wpList Try.prog ops Q rest (a.put o.dst v') w') :
    wpList Try.prog ops Q (o :: rest) a (w0.alloc (.cells #[.int .i8 px, .int .i8 py] 40)) := by
  obtain ⟨i, hi, hz, hsz, hby⟩ := info40
  have hlt := hown.lt
  refine wpList_append_own_at _ hgd s x 31 ho B 40 i (.agg #[.int .i8 0, .int .i8 0]) 2 2 Try.underlying31 hi hz hsz hby rfl (by decide) v xs.length (pc xs) hs (World.ownsRow.alloc hown _) ⟨w0.heap.size, 0, none⟩ 1 1 [.int .i8 px, .int .i8 py] hx rfl ?_ ?_ (by unfold maxLen; omega) (by omega) (by simp; omega) ?_
  · intro j u hj
    match j, hj with
    | 0, hj => simp at hj; subst hj; simp [Addr.add]
    | 1, hj => simp at hj; subst hj; simp [Addr.add]
  · intro u hu
    simp at hu
    rcases hu with rfl | rfl <;> rfl
  · intro v' w' h1 h2 _ h3
    refine h v' w' ?_ (((Below.refl B w0).alloc hB _).grown h2 (by simp; omega) (fun k hk => (hlt k hk).1)) ?_ ?_
    · unfold OwnC
      rw [pc_append]
      simpa [pc] using h1
    · rcases h3 with h3 | h3
      · rw [h3]; exact hne
      · rw [h3]; simp; omega
    · rw [h2.block gk (by simp; omega) (fun h => hne h.symm)]
      exact heap_alloc_old _ _ hgk
theorem wpList_fourC {ops : Array Oper} {rest : List Oper} {o : Oper} {a : Act} {w : World} {Q : Exit → Act → World → Prop} (N : Nat) (hd : o.dst = some N) (hgd : o.guard = none) (x0 x1 x2 x3 : Operand) (ho : o.op = .buildSlice 31 4 #[(0, x0), (1, x1), (2, x2), (3, x3)])
    (p0 p1 p2 p3 q0 q1 q2 q3 : Int) (h0 : a.eval x0 = .agg #[.int .i8 p0, .int .i8 q0]) (h1 : a.eval x1 = .agg #[.int .i8 p1, .int .i8 q1]) (h2 : a.eval x2 = .agg #[.int .i8 p2, .int .i8 q2]) (h3 : a.eval x3 = .agg #[.int .i8 p3, .int .i8 q3])
    (h : ∀ g w1, w1.heap[g]? = some (.cells (pc [(p0, q0), (p1, q1), (p2, q2), (p3, q3)]).toArray 40 (0, 0)) → Below w.heap.size w w1 → w.heap.size ≤ g → wpList Try.prog ops Q rest (a.put (some N) (.slice (some ⟨g, 0, none⟩) 4 4)) w1) : wpList Try.prog ops Q (o :: rest) a w := by
  rw [← hd] at h; clear hd
  refine wpList_plain hgd fun K hK => ?_
  have hr : (execOp a.eval o).run Try.prog w = .ok (.value (.slice (some ⟨w.heap.size, 0, none⟩) 4 4)) (w.alloc (.cells (pc [(p0, q0), (p1, q1), (p2, q2), (p3, q3)]).toArray 40)) := by
    obtain ⟨i, hi, hz, hsz, hby⟩ := info40
    unfold execOp
    simp only [ho, List.map_toArray, List.map_cons, List.map_nil, h0, h1, h2, h3]
    simp [Instr.buildSlice, run_underlying Try.underlying31, sizeOf, zeroValue, typeInfo, hi, hsz, hz, Instr.fill, go_sem, pc, Value.cells]
  unfold Oper.wp
  rw [hr]
  exact hK _ _ (h _ _ (heap_alloc_new w _) ((Below.refl _ _).alloc (Nat.le_refl _) _) (Nat.le_refl _))
theorem around1_is (G : Gd) (gl : Value) (hG : GdOk G) (g B : Nat) (w : World) (xs : List (Int × Int)) (hb : w.heap[g]? = some (.cells (gc G gl) 33 (0, 0))) (hg : g < B) (hx : ∀ i, i < xs.length → i8ok (xs.getD i (0, 0)).1 ∧ i8ok (xs.getD i (0, 0)).2) :
    PredE 97 #[.pointer (some ⟨g, 0, none⟩)] B w xs (fun q => !inG G q) := by
  refine ⟨by go_simp, fun i hi w' hw => ?_⟩
  have hb' := (hw.block g hg).trans hb
  obtain ⟨h1, h2⟩ := hx i hi
  generalize xs.getD i (0, 0) = q at h1 h2 ⊢
  obtain ⟨qx, qy⟩ := q
  dsimp only at h1 h2 ⊢
  have hlen := hG.len
  cases hq : inG G (qx, qy) with
  | true =>
    have hp : isPt G.W G.H qx qy := of_decide_eq_true hq
    clear hq
    go_enter Try.func97, Try.ntmps97
    go_wp2_with (first
      | (with_reducible refine wpList_box 2 rfl rfl 40 _ rfl (.agg #[.int .i8 qx, .int .i8 qy]) rfl #[.int .i8 qx, .int .i8 qy] rfl ?_; intro g1 w1 b1 hb1 _hs1;  have hb1' := blk_below hb1 hb'; have x0 : w1.cell? ⟨g1, 0, none⟩ = some (.int .i8 qx) := (blk_cell b1 0).trans rfl; have y0 : w1.cell? ⟨g1, 1, none⟩ = some (.int .i8 qy) := (blk_cell b1 1).trans rfl)
      | (with_reducible refine wpList_load_row rfl 33 _ rfl g rfl 33 _ (0, 0) _ hb1' Try.underlying33 rfl (gsize _ _ hlen) ?_)
      | (go_at_call 51; refine (isPoint_t G gl hG qx qy _ h1 h2 hp).mono ?_; rintro e w2 ⟨rfl, hb2⟩))
    go_ret
    exact ⟨rfl, below_trans hb1 hb2⟩
  | false =>
    have hp : ¬ isPt G.W G.H qx qy := of_decide_eq_false hq
    clear hq
    go_enter Try.func97, Try.ntmps97
    go_wp2_with (first
      | (with_reducible refine wpList_box 2 rfl rfl 40 _ rfl (.agg #[.int .i8 qx, .int .i8 qy]) rfl #[.int .i8 qx, .int .i8 qy] rfl ?_; intro g1 w1 b1 hb1 _hs1;  have hb1' := blk_below hb1 hb'; have x0 : w1.cell? ⟨g1, 0, none⟩ = some (.int .i8 qx) := (blk_cell b1 0).trans rfl; have y0 : w1.cell? ⟨g1, 1, none⟩ = some (.int .i8 qy) := (blk_cell b1 1).trans rfl)
      | (with_reducible refine wpList_load_row rfl 33 _ rfl g rfl 33 _ (0, 0) _ hb1' Try.underlying33 rfl (gsize _ _ hlen) ?_)
      | (go_at_call 51; refine (isPoint_f G gl hG qx qy _ h1 h2 hp).mono ?_; rintro e w2 ⟨rfl, hb2⟩))
    go_ret
    exact ⟨rfl, below_trans hb1 hb2⟩
theorem four_ok {x y : Int} (hx : 0 ≤ x ∧ x < 9) (hy : 0 ≤ y ∧ y < 9) : ∀ i, i < (fourOf x y).length → i8ok ((fourOf x y).getD i (0, 0)).1 ∧ i8ok ((fourOf x y).getD i (0, 0)).2 := by
  intro i hi
  match i, hi with
  | 0, _ => simp [fourOf, i8ok]; omega
  | 1, _ => simp [fourOf, i8ok]; omega
  | 2, _ => simp [fourOf, i8ok]; omega
  | 3, _ => simp [fourOf, i8ok]; omega
set_option maxHeartbeats 1000000 in
theorem around_is (G : Gd) (gl : Value) (hG : GdOk G) (x y : Int) (hx : 0 ≤ x ∧ x < 9) (hy : 0 ≤ y ∧ y < 9) (w : World) :
    Calls Try.prog 59 #[.agg (gc G gl), .agg #[.int .i8 x, .int .i8 y]] w (ownPost w (besOf G x y)) := by
  have hok := four_ok hx hy
  obtain ⟨hx1, hx2⟩ := hx
  obtain ⟨hy1, hy2⟩ := hy
  have e1 : IntKind.i8.wrap (y - 1) = y - 1 := wrap_i8 _ (by omega) (by omega)
  have e2 : IntKind.i8.wrap (x - 1) = x - 1 := wrap_i8 _ (by omega) (by omega)
  have e3 : IntKind.i8.wrap (x + 1) = x + 1 := wrap_i8 _ (by omega) (by omega)
  have e4 : IntKind.i8.wrap (y + 1) = y + 1 := wrap_i8 _ (by omega) (by omega)
  go_enter Try.func59, Try.ntmps59
  go_wp2_with (first
    | (with_reducible refine wpList_box 2 rfl rfl 33 _ rfl (.agg (gc G gl)) rfl (gc G gl) rfl ?_; intro g1 w1 b1 hb1 _hs1)
    | (with_reducible refine wpList_box 3 rfl rfl 40 _ rfl (.agg #[.int .i8 x, .int .i8 y]) rfl #[.int .i8 x, .int .i8 y] rfl ?_; intro g2 w2 b2 hb2 _hs2; have n1_2 : g1 < g2 := Nat.lt_of_lt_of_le (blk_lt b1) _hs2; have b1 := blk_below hb2 b1;  have x0 : w2.cell? ⟨g2, 0, none⟩ = some (.int .i8 x) := (blk_cell b2 0).trans rfl; have y0 : w2.cell? ⟨g2, 1, none⟩ = some (.int .i8 y) := (blk_cell b2 1).trans rfl)
    | (with_reducible refine wpList_fourC 30 rfl rfl _ _ _ _ rfl x (x - 1) (x + 1) x (y - 1) y y (y + 1) rfl rfl rfl rfl ?_; intro g3 w3 b3 hb3 _hs3; have b1 := blk_below hb3 b1)
    | (go_at_call 96; refine (deleteFunc_is 97 _ g3 w3 w3 (fourOf x y) _ (around1_is G gl hG g1 g3 w3 _ b1 (Nat.lt_of_lt_of_le n1_2 (by have := blk_lt b2; omega)) hok) b3 (by simp [fourOf]) (Below.refl _ _)).mono ?_; rintro e w4 ⟨rfl, ⟨zs, b4, hl4⟩, hb4⟩))
  have hB2 := below_trans hb1 hb2
  have hB3 := below_trans hB2 hb3
  have hB4 : Below w.heap.size w w4 := hB3.trans (hb4.mono (Nat.le_trans hB2.size _hs3))
  have eF : (List.filter (fun q => inG G q) (fourOf x y)) = besOf G x y := rfl
  rw [eF]
  go_ret
  refine ⟨_, rfl, ?_, hB4⟩
  have eN : (List.filter (fun q => !!inG G q) (fourOf x y)) = besOf G x y := by simp [besOf]
  rw [eN] at b4 hl4
  have hle : (besOf G x y).length ≤ 4 := List.length_filter_le _ _
  have h4 : (fourOf x y).length = 4 := rfl
  refine ⟨pc_length _, .inr ⟨g3, (fourOf x y).length, _, rfl, Nat.le_trans hB2.size _hs3, b4, by omega, by unfold maxLen; omega, by simp only [List.size_toArray, pc_length, hl4], ?_⟩⟩
  rw [pc_append, ← pc_length]
  simp
theorem ownPost.mk {w w' : World} {xs : List (Int × Int)} {v : Value} (h : OwnC w.heap.size w' v xs) (hb : Below w.heap.size w w') : ownPost w xs (.returned v) w' := ⟨v, rfl, h, hb⟩
set_option maxHeartbeats 1000000 in
set_option maxRecDepth 100000 in
theorem l04Beside_is (G : Gd) (gl : Value) (hG : GdOk G) (x y : Int) (hx : 0 ≤ x ∧ x < 9) (hy : 0 ≤ y ∧ y < 9) (g : Nat) (w : World) (hb : w.heap[g]? = some (.cells (gc G gl) 33 (0, 0))) :
    Calls Try.prog 55 #[.pointer (some ⟨g, 0, none⟩), .agg #[.int .i8 x, .int .i8 y]] w (ownPost w (besOf G x y)) := by
  have hok := four_ok hx hy
  obtain ⟨hx1, hx2⟩ := hx
  obtain ⟨hy1, hy2⟩ := hy
  have e1 : IntKind.i8.wrap (y - 1) = y - 1 := wrap_i8 _ (by omega) (by omega)
  have e2 : IntKind.i8.wrap (x - 1) = x - 1 := wrap_i8 _ (by omega) (by omega)
  have e3 : IntKind.i8.wrap (x + 1) = x + 1 := wrap_i8 _ (by omega) (by omega)
  have e4 : IntKind.i8.wrap (y + 1) = y + 1 := wrap_i8 _ (by omega) (by omega)
  go_enter Try.func55, Try.ntmps55
  go_wp2_with (first
    | (with_reducible refine wpList_box 3 rfl rfl 40 _ rfl (.agg #[.int .i8 x, .int .i8 y]) rfl #[.int .i8 x, .int .i8 y] rfl ?_; intro g2 w2 b2 hb2 _hs2)
    | (with_reducible refine wpList_nilC 8 rfl rfl rfl ?_; intro v0 w3 hO0 hB0; have b2' := blk_below hB0 b2; have x0 : w3.cell? ⟨g2, 0, none⟩ = some (.int .i8 x) := (blk_cell b2' 0).trans rfl; have y0 : w3.cell? ⟨g2, 1, none⟩ = some (.int .i8 y) := (blk_cell b2' 1).trans rfl)
    | (with_reducible refine wpList_fourC 33 rfl rfl _ _ _ _ rfl x (x - 1) (x + 1) x (y - 1) y y (y + 1) rfl rfl rfl rfl ?_; intro g3 w4 b3 hb3 _hs3))
  have hO1 := hO0.below hb3
  have hB1 : Below w2.heap.size w2 w4 := below_trans hB0 hb3
  have hb4 := blk_below hB1 (blk_below hb2 hb)
  have hbl := hb2.size
  have h4 : (fourOf x y).length = 4 := rfl
  have hne0 : v0.ownBlock ≠ some g3 := fun h => by have := (World.ownsRow.lt hO0 g3 h).2; omega
  clear x0 y0 e1 e2 e3 e4
  go_loopw [5, 7] (fun v u wr => ∃ k : Nat, k ≤ 4 ∧ u = .int .i64 k ∧ OwnC w2.heap.size wr v (((fourOf x y).take k).filter (inG G)) ∧ Below w2.heap.size w2 wr ∧ v.ownBlock ≠ some g3 ∧ wr.heap[g3]? = some (.cells (pc (fourOf x y)).toArray 40 (0, 0))) (fun _ u _ => 4 - (intOf u).toNat)
  case atStart => exact ⟨0, by omega, rfl, hO1, hB1, hne0, b3⟩
  case round =>
    obtain ⟨k, hk, rfl, hO, hBr, hne, b3r⟩ := hrel
    have hb4r := blk_below hBr (blk_below hb2 hb)
    have hg3 := blk_lt b3r
    by_cases hlt : k < 4
    · have hlt' : decide ((k : Int) < 4) = true := decide_eq_true (by omega)
      obtain ⟨c1, c2⟩ := cell_of_blk (xs := fourOf x y) b3r (show k < (fourOf x y).length by omega)
      have hle : (((fourOf x y).take k).filter (inG G)).length ≤ 4 := Nat.le_trans (List.length_filter_le _ _) (by rw [List.length_take]; omega)
      obtain ⟨q1, q2⟩ := hok k (by omega)
      have HT := Lib.hid (fun h => filter_take_t (p := inG G) (show k < (fourOf x y).length by omega) h)
      have HF := Lib.hid (fun h => filter_take_f (p := inG G) (show k < (fourOf x y).length by omega) h)
      revert c1 c2 q1 q2 HT HF
      generalize (fourOf x y).getD k (0, 0) = q
      intro c1 c2 q1 q2 HT HF
      obtain ⟨qx, qy⟩ := q
      dsimp only at c1 c2 q1 q2
      have a0 := (blk_cell hb4r 0).trans (gc_0 _ _)
      have a1 := (blk_cell hb4r 1).trans (gc_1 _ _)
      cases hq : inG G (qx, qy) with
      | true =>
        have hp : isPt G.W G.H qx qy := of_decide_eq_true hq
        have HT := Lib.hid (HT.out hq)
        clear HF hq
        go_wp2_with (first
          | (go_at_call 68; refine (l04Is_t _ _ _ _ g _ hG.W hG.H q1 q2 a0 a1 hp).mono ?_; rintro e w5 ⟨rfl, hb5⟩; have c1 := cell_below hb5 c1; have c2 := cell_below hb5 c2; have hO := hO.below hb5; have b3r := blk_below hb5 b3r; have hg3 := blk_lt b3r)
          | (at_builtin; refine wpList_appK rfl _ _ rfl w2.heap.size g3 _ _ rfl hO (Nat.le_trans hBr.size hb5.size) (by omega) hg3 (by exact hne) qx qy rfl ?_; intro v' w6 hO3 hB3 hne3 hk3))
        go_roundw
        case rel => exact ⟨k + 1, by omega, by go_num, by rw [HT.out]; exact hO3, (below_trans hBr hb5).trans hB3, hne3, hk3.trans b3r⟩
        case measure => simp [intOf]; omega
      | false =>
        have hp : ¬ isPt G.W G.H qx qy := of_decide_eq_false hq
        have HF := Lib.hid (HF.out hq)
        clear HT hq
        go_wp2_with (first
          | (go_at_call 68; refine (l04Is_f _ _ _ _ g _ hG.W hG.H q1 q2 a0 a1 hp).mono ?_; rintro e w5 ⟨rfl, hb5⟩; have hO := hO.below hb5))
        go_roundw
        case rel => exact ⟨k + 1, by omega, by go_num, by rw [HF.out]; exact hO, below_trans hBr hb5, hne, blk_below hb5 b3r⟩
        case measure => simp [intOf]; omega
    · obtain rfl : k = 4 := by omega
      go_wp2
      go_ret
      rw [show (fourOf x y).take 4 = fourOf x y from rfl] at hO
      exact ⟨_, rfl, hO.lower hbl, below_trans hb2 hBr⟩
end Go.Proofs.Ytkhheofgnhndbaa
