/- Words for the walks over worlds that only grow: a class of worlds for regions that draw, boxes, rows of cells. No statement is proved here. -/
import Derived.Test.YtmjijggkdbiijaaProg
import Derived.WalkKit
import Derived.WalkSpells
import Derived.BigFrame
import Derived.BigQuiet
import Derived.Lib.Hide
import Derived.Laws.Rows
import Derived.Deep.MidRow
import Derived.Laws.MakeOwn
import Derived.OrdersHeld
namespace Go.Proofs.Ytmjijggkdbiijaa
set_option linter.unusedVariables false
set_option linter.unusedSimpArgs false
open Go.RowKit
/-- A world in which all that lay in w lies as it did. -/
structure Ext (w : World) where
  val : World
  below : Below w.heap.size w val
instance (w : World) : Inhabited (Ext w) := ⟨⟨w, Below.refl _ _⟩⟩
theorem wp_region_ext {P : Program} {id : Nat} {Q : Exit → Act → World → Prop} {a : Act} {w : World} {l : List Oper} (hm : P.follows .mixedOrders = true) (hB : Region.lexB .any l.toArray = true)
    (h : wpQuiet P l.toArray (fun w' => ∃ p : Ext w, w' = p.val) (fun a' => ∀ w', Below w.heap.size w w' → Q .normal a' w') l a) : (Code.region id l.toArray true).wp P Q a w :=
  wp_region_quiet (C := fun w' => ∃ p : Ext w, w' = p.val) hm hB ⟨⟨_, (Below.refl _ _).drew⟩, rfl⟩ (by
    have e : (fun a' => ∀ w', (∃ p : Ext w, w' = p.val) → Q .normal a' w') = (fun a' => ∀ w', Below w.heap.size w w' → Q .normal a' w') := by
      funext a'
      exact propext ⟨fun h w' hb => h w' ⟨⟨w', hb⟩, rfl⟩, fun h w' ⟨p, hp⟩ => by subst hp; exact h _ p.below⟩
    rw [e]; simpa using h)
theorem true_of {r : Bool} {p : Prop} (hr : r = true ↔ p) (h : p) : r = true := hr.2 h
theorem false_of {r : Bool} {p : Prop} (hr : r = true ↔ p) (h : ¬ p) : r = false := by cases r; rfl; exact absurd (hr.1 rfl) h
theorem below_trans {w w1 w2 : World} (h : Below w.heap.size w w1) (k : Below w1.heap.size w1 w2) : Below w.heap.size w w2 := h.trans (k.mono h.size)
theorem cell_below {w w1 : World} (hb : Below w.heap.size w w1) {a : Addr} {v : Value} (h : w.cell? a = some v) : w1.cell? a = some v := (hb.cell (World.block_lt_of_cell? w a h)).trans h
theorem ext_cell {w : World} {a : Addr} {v : Value} (h : w.cell? a = some v) : ∀ p : Ext w, p.val.cell? a = some v := fun p => cell_below p.below h
theorem blk_lt {w : World} {g : Nat} {o : Obj} (h : w.heap[g]? = some o) : g < w.heap.size := (Array.getElem?_eq_some_iff.1 h).1
theorem blk_below {w w1 : World} (hb : Below w.heap.size w w1) {g : Nat} {o : Obj} (h : w.heap[g]? = some o) : w1.heap[g]? = some o := (hb.block g (blk_lt h)).trans h
theorem ext_blk {w : World} {g : Nat} {o : Obj} (h : w.heap[g]? = some o) : ∀ p : Ext w, p.val.heap[g]? = some o := fun p => blk_below p.below h
theorem blk_cell {w : World} {g : Nat} {t : TypeId} {cs : Array Value} {f : Nat × Nat} (h : w.heap[g]? = some (.cells cs t f)) (i : Nat) : w.cell? ⟨g, i, none⟩ = cs[i]? := cell_of_row w g i cs t f h
theorem blk_frozen {w : World} {g : Nat} {t : TypeId} {cs : Array Value} (h : w.heap[g]? = some (.cells cs t (0, 0))) (i : Nat) : w.frozen? ⟨g, i, none⟩ = false := by simp [World.frozen?, h]
theorem Calls.ext_of {P : Program} {f : FuncId} {args : Array Value} {w : World} {p : Ext w} {v : Value}
    (h : Calls P f args p.val fun e w' => e = .returned v ∧ Below p.val.heap.size p.val w') : Calls P f args p.val fun e w'' => e = .returned v ∧ ∃ q : Ext w, w'' = q.val :=
  h.mono fun _ w' ⟨he, hb⟩ => ⟨he, ⟨w', below_trans p.below hb⟩, rfl⟩
theorem Calls.ext_same {P : Program} {f : FuncId} {args : Array Value} {w : World} {p : Ext w} {v : Value}
    (h : Calls P f args p.val fun e w' => e = .returned v ∧ p.val = w') : Calls P f args p.val fun e w'' => e = .returned v ∧ ∃ q : Ext w, w'' = q.val :=
  h.mono fun _ w' ⟨he, hb⟩ => ⟨he, ⟨w', by rw [← hb]; exact p.below⟩, rfl⟩

section
variable {P : Program} {ops : Array Oper} {rest : List Oper} {o : Oper} {a : Act} {w : World} {Q : Exit → Act → World → Prop}
/-- A whole variable of several cells is loaded. -/
theorem quiet_load_row {C : World → Prop} {K : Act → Prop} (ty : TypeId) (x : Operand) (ho : o.op = .load ty x) (g : Nat) (hx : a.eval x = .pointer (some ⟨g, 0, none⟩)) (t : TypeId) (cs : Array Value) (fr : Nat × Nat) (d : TypeDesc)
    (hg : ∀ w, C w → w.heap[g]? = some (.cells cs t fr)) (hu : P.underlying ty = some d) (hd : (match d with | .struct _ | .array _ _ => true | _ => false) = true) (hi : (P.info? ty).map (·.size) = some cs.size)
    (hk : K (a.put o.dst (.agg cs))) : o.quiet P a C K := by
  refine ⟨.agg cs, fun w hw => ?_, hk⟩
  unfold Oper.quietAt execOp
  simp only [ho, hx, Instr.loadAt, Instr.sureAddr, Sem.run_bind, Sem.run_pure, Result.andThen_ok, run_loadVar_row w g t ty cs fr d (hg w hw) hu hd hi]
  exact ⟨rfl, rfl⟩
/-- A box: a new block under a name. -/
theorem wpList_box (N : Nat) (hd : o.dst = some N) (hg : o.guard = none) (T : TypeId) (x : Operand) (ho : o.op = .box T x) (v : Value) (hx : a.eval x = v) (cs : Array Value) (hcs : v.cells = cs)
    (h : ∀ g w1, w1.heap[g]? = some (.cells cs T (0, 0)) → Below w.heap.size w w1 → w.heap.size ≤ g → wpList P ops Q rest (a.put (some N) (.pointer (some ⟨g, 0, none⟩))) w1) :
    wpList P ops Q (o :: rest) a w := by
  rw [← hd] at h; clear hd
  subst hcs
  refine wpList_plain hg fun K hK => ?_
  unfold Oper.wp execOp
  simp only [ho, hx]
  go_simp
  exact hK _ _ (h _ _ (heap_alloc_new w _) ((Below.refl _ _).alloc (Nat.le_refl _) _) (Nat.le_refl _))
/-- A new variable with its type's zero value. -/
theorem wpList_allocB (N : Nat) (hd : o.dst = some N) (hg : o.guard = none) (T : TypeId) (ho : o.op = .alloc T) (z : Value) (cs : Array Value) (hz : (P.info? T).map (·.zero) = some (some z)) (hcs : z.cells = cs)
    (h : ∀ g w1, w1.heap[g]? = some (.cells cs T (0, 0)) → Below w.heap.size w w1 → w.heap.size ≤ g → wpList P ops Q rest (a.put (some N) (.pointer (some ⟨g, 0, none⟩))) w1) :
    wpList P ops Q (o :: rest) a w := by
  rw [← hd] at h; clear hd
  subst hcs
  refine wpList_plain hg fun K hK => ?_
  have hr : (execOp a.eval o).run P w = .ok (.value (.pointer (some ⟨w.heap.size, 0, none⟩))) (w.alloc (.cells z.cells T (0, 0))) := by
    obtain ⟨i, hi, hiz⟩ := Option.map_eq_some_iff.1 hz
    unfold execOp
    simp [ho, Instr.alloc, zeroValue, typeInfo, hi, hiz, go_sem]
  unfold Oper.wp
  rw [hr]
  exact hK _ _ (h _ _ (heap_alloc_new w _) ((Below.refl _ _).alloc (Nat.le_refl _) _) (Nat.le_refl _))
/-- What a load of several cells needs. -/
theorem range_of_blk {g j : Nat} {cs : Array Value} {t : TypeId} {f : Nat × Nat} (h : w.heap[g]? = some (.cells cs t f)) (seg : List Value) (hseg : ∀ k v, seg[k]? = some v → cs[j + k]? = some v) : w.rangeAt g j seg :=
  fun k v hv => (blk_cell h (j + k)).trans (hseg k v hv)
theorem quiet_loadB {C : World → Prop} {K : Act → Prop} (ty : TypeId) (x : Operand) (ho : o.op = .load ty x) (g j : Nat) (hx : a.eval x = .pointer (some ⟨g, j, none⟩)) (seg : List Value) (d : TypeDesc)
    (hg : ∀ w, C w → w.rangeAt g j seg) (hu : P.underlying ty = some d) (hd : d.isRow = true) (hi : (P.info? ty).map (·.size) = some seg.length)
    (hk : K (a.put o.dst (.agg seg.toArray))) : o.quiet P a C K := by
  refine ⟨.agg seg.toArray, fun w hw => ?_, hk⟩
  unfold Oper.quietAt execOp
  simp only [ho, hx, Instr.loadAt, Instr.sureAddr, Sem.run_bind, Sem.run_pure, Result.andThen_ok, run_loadVar_mid w g j ty seg d (hg w hw) hu hd hi]
  exact ⟨rfl, rfl⟩
theorem rangeAt.below {w w1 : World} {g j : Nat} {seg : List Value} (h : w.rangeAt g j seg) (hb : Below w.heap.size w w1) : w1.rangeAt g j seg := fun k v hv => cell_below hb (h k v hv)
theorem rangeAt.ext {w : World} {g j : Nat} {seg : List Value} (h : w.rangeAt g j seg) (p : Ext w) : p.val.rangeAt g j seg := rangeAt.below h p.below
/-- Only block g has turned. -/
structure SetB (g : Nat) (w w' : World) : Prop where
  os : w'.os = w.os
  tape : w'.tape = w.tape
  output : w'.output = w.output
  size : w'.heap.size = w.heap.size
  block : ∀ k, k ≠ g → w'.heap[k]? = w.heap[k]?
theorem SetB.below {g B : Nat} {w0 w w' : World} (h : SetB g w w') (hb : Below B w0 w) (hg : B ≤ g) : Below B w0 w' :=
  hb.trans ⟨h.os, h.tape, h.output, Nat.le_of_eq h.size.symm, fun k hk => h.block k (by omega)⟩
theorem SetB.blk {g g' : Nat} {w w' : World} {o : Obj} (h : SetB g w w') (hb : w.heap[g']? = some o) (hne : g' ≠ g) : w'.heap[g']? = some o := (h.block g' hne).trans hb
theorem SetB.of_row (w : World) (g : Nat) (cs : Array Value) : SetB g w (w.setRow g cs) := ⟨rfl, rfl, rfl, size_setRow w g cs, fun k hk => setRow_other w g k cs hk⟩
/-- A store into a block of one's own. -/
theorem wpList_storeB (hgd : o.guard = none) (ty : TypeId) (x y : Operand) (ho : o.op = .store ty x y) (g j : Nat) (v : Value) (vs : Array Value) (hvs : v.cells = vs) (hx : a.eval x = .pointer (some ⟨g, j, none⟩)) (hy : a.eval y = v) (cs : Array Value) (t : TypeId)
    (hg : w.heap[g]? = some (.cells cs t (0, 0))) (hi : (P.info? ty).map (·.size) = some vs.size) (h1 : ∀ u ∈ vs.toList, u.oneCell' = true) (hfit : j + vs.size ≤ cs.size)
    (cs1 : Array Value) (hcs : (cs.toList.take j ++ vs.toList ++ cs.toList.drop (j + vs.size)).toArray = cs1)
    (h : ∀ w1, w1.heap[g]? = some (.cells cs1 t (0, 0)) → SetB g w w1 → wpList P ops Q rest (a.put o.dst undef) w1) : wpList P ops Q (o :: rest) a w := by
  subst hcs hvs
  refine wpList_plain hgd fun K hK => ?_
  have hst := run_storeCells_at P g j t v.cells.toList 0 cs w hg (by simpa using hfit) h1
  have hr : (execOp a.eval o).run P w = .ok .skip (w.setRow g (cs.toList.take j ++ v.cells.toList ++ cs.toList.drop (j + v.cells.size)).toArray) := by
    obtain ⟨i, hi1, hi2⟩ := Option.map_eq_some_iff.1 hi
    simp only [Nat.add_zero, Array.length_toList] at hst
    unfold execOp
    simp [ho, hx, hy, Instr.storeAt, Instr.sureAddr, storeVar, sizeOf, typeInfo, hi1, hi2, hst]
  unfold Oper.wp
  rw [hr]
  exact hK _ _ (h _ (setRow_heap w g cs _ t _ hg) (SetB.of_row _ _ _))
/-- An element of an array value, of several cells or of one. -/
theorem run_index_row {w : World} (T e : TypeId) (n k : Nat) (cs : Array Value) (d : TypeDesc) (i : Int) (hT : P.underlying T = some (.array n e)) (he : P.underlying e = some d) (hd : d.isRow = true) (hi : (P.info? e).map (·.size) = some k) (h0 : 0 ≤ i) (h1 : i < n) :
    (Instr.index T (.agg cs) (.int .i64 i)).run P w = .ok (.agg (cs.extract (i.toNat * k) (i.toNat * k + k))) w := by
  obtain ⟨ie, hi1, hi2⟩ := Option.map_eq_some_iff.1 hi
  have hagg : (isAgg e).run P w = .ok true w := by
    unfold isAgg
    rw [Sem.run_bind, run_underlying he w]
    cases d <;> simp_all [TypeDesc.isRow]
  simp [Instr.index, asIntOf, run_underlying hT, h0, h1, sizeOf, typeInfo, hi1, hi2, part, hagg]
theorem wpList_idxB (hgd : o.guard = none) (T : TypeId) (x y : Operand) (ho : o.op = .index T x y) (e : TypeId) (n k : Nat) (cs : Array Value) (d : TypeDesc) (i : Int) (hx : a.eval x = .agg cs) (hy : a.eval y = .int .i64 i)
    (hT : P.underlying T = some (.array n e)) (he : P.underlying e = some d) (hd : d.isRow = true) (hi : (P.info? e).map (·.size) = some k) (h0 : 0 ≤ i) (h1 : i < n) (cs1 : Array Value) (hcs : cs.extract (i.toNat * k) (i.toNat * k + k) = cs1)
    (h : wpList P ops Q rest (a.put o.dst (.agg cs1)) w) : wpList P ops Q (o :: rest) a w := by
  subst hcs
  refine wpList_plain hgd fun K hK => ?_
  have hr : (execOp a.eval o).run P w = .ok (.value (.agg (cs.extract (i.toNat * k) (i.toNat * k + k)))) w := by
    unfold execOp
    simp [ho, hx, hy, run_index_row T e n k cs d i hT he hd hi h0 h1]
  unfold Oper.wp
  rw [hr]
  exact hK _ _ h
theorem wpList_idx1 (hgd : o.guard = none) (T : TypeId) (x y : Operand) (ho : o.op = .index T x y) (e : TypeId) (n : Nat) (cs : Array Value) (d : TypeDesc) (i : Int) (v : Value) (hx : a.eval x = .agg cs) (hy : a.eval y = .int .i64 i)
    (hT : P.underlying T = some (.array n e)) (he : P.underlying e = some d) (hd : d.isRow = false) (hi : (P.info? e).map (·.size) = some 1) (h0 : 0 ≤ i) (h1 : i < n) (hv : cs[i.toNat]? = some v)
    (h : wpList P ops Q rest (a.put o.dst v) w) : wpList P ops Q (o :: rest) a w := by
  refine wpList_plain hgd fun K hK => ?_
  obtain ⟨ie, hi1, hi2⟩ := Option.map_eq_some_iff.1 hi
  have hagg : (isAgg e).run P w = .ok false w := by
    unfold isAgg
    rw [Sem.run_bind, run_underlying he w]
    cases d <;> simp_all [TypeDesc.isRow]
  have hr : (execOp a.eval o).run P w = .ok (.value v) w := by
    unfold execOp
    simp [ho, hx, hy, Instr.index, asIntOf, run_underlying hT, h0, h1, sizeOf, typeInfo, hi1, hi2, part, hagg, hv]
  unfold Oper.wp
  rw [hr]
  exact hK _ _ h
/-- make([]T, n). -/
theorem wpList_makeB (hgd : o.guard = none) (t : TypeId) (x y : Operand) (ho : o.op = .makeSlice t x y) (e : TypeId) (z : Value) (size bytes : Nat) (ht : P.underlying t = some (.slice e)) (hi : (P.info? e).map (fun i => (i.zero, i.size, i.bytes)) = some (some z, size, bytes))
    (n : Nat) (hx : a.eval x = .int .i64 n) (hy : a.eval y = .int .i64 n) (hb : bytes * n ≤ 281474976710656) (hn : n ≤ 9223372036854775807) (cs : Array Value) (hcs : madeCells z.cells (n * size) = cs)
    (h : ∀ g w1, w1.heap[g]? = some (.cells cs e (0, 0)) → Below w.heap.size w w1 → w.heap.size ≤ g → wpList P ops Q rest (a.put o.dst (.slice (some ⟨g, 0, none⟩) n n)) w1) : wpList P ops Q (o :: rest) a w := by
  subst hcs
  obtain ⟨i0, hi0, hzz⟩ := Option.map_eq_some_iff.1 hi
  simp only [Prod.mk.injEq] at hzz
  obtain ⟨hz0, hz1, hz2⟩ := hzz
  subst hz1 hz2
  refine wpList_plain hgd fun K hK => ?_
  have hr := run_make (P := P) w t e i0 z ht hi0 hz0 .i64 .i64 n n (by omega) (by omega) (by
    have h : ((i0.bytes * n : Nat) : Int) ≤ 281474976710656 := by omega
    rwa [Int.natCast_mul] at h) (by omega)
  simp only [Int.toNat_natCast] at hr
  have hr2 : (execOp a.eval o).run P w = .ok (.value (.slice (some ⟨w.heap.size, 0, none⟩) n n)) (w.alloc (.cells (madeCells z.cells (n * i0.size)) e)) := by
    unfold execOp
    simp [ho, hx, hy, hr]
  unfold Oper.wp
  rw [hr2]
  exact hK _ _ (h _ _ (heap_alloc_new w _) ((Below.refl _ _).alloc (Nat.le_refl _) _) (Nat.le_refl _))
end
section
variable {P : Program} {ops : Array Oper} {Q : Exit → Act → World → Prop} {S : World → Prop} {fuel : Nat} {listed : Array Bool} {a : Act} {w : World}
/-- In a region that draws: the call that alone may come up now. -/
theorem anyH_call (i : Nat) (o : Oper) (hr : Region.ready .any ops listed = [i]) (hi : ops[i]? = some o) (hg : o.guard = none) (f : FuncId) (xs : Array Operand) (ts : Array TypeId) (hop : o.op = .call { callee := .value (.func f), args := xs, argTypes := ts }) (vs : Array Value) (hvs : xs.map a.eval = vs) (hcf : (callFunc f vs).run P w = .ok (.enter f vs) w)
    (h : Calls P f vs w fun e w' => ∃ v, e = .returned v ∧ S w' ∧ wpAnyH P .any ops Q S fuel (listed.setIfInBounds i true) (a.put o.dst v) w') : wpAnyH P .any ops Q S (fuel + 1) listed a w := by
  refine wpAnyH_all hr (by simp) ?_
  intro j hj
  obtain rfl : j = i := by simpa using hj
  subst hvs
  unfold wpOp
  simp only [hi]
  rw [if_pos (by simp [Region.wanted, hg])]
  refine .inl ?_
  unfold Oper.wp
  have hr : (execOp a.eval o).run P w = .ok (.enter f (xs.map a.eval)) w := by
    unfold execOp
    simp [hop, resolve, invoke, go_sem, hcf]
  rw [hr]
  refine h.mono ?_
  rintro e w' ⟨v, rfl, hS, hk⟩
  exact ⟨hS, hk⟩
/-- An operation whose value is the same in every world of S. -/
theorem anyH_take (i : Nat) (o : Oper) (v : Value) (hi : ops[i]? = some o) (hg : o.guard = none) (hs : Region.noSelect ops = true) (hf : Region.free .any ops listed i = true) (hr : (Region.ready .any ops listed).contains i = true)
    (hQ : ∀ c a w, Q (.panic c) (a.put o.dst v) w → Q (.panic c) a w) (hS : S w) (hv : ∀ w, S w → (execOp a.eval o).run P w = .ok (.value v) w)
    (h : wpAnyH P .any ops Q S fuel (listed.setIfInBounds i true) (a.put o.dst v) w) : wpAnyH P .any ops Q S (fuel + 1) listed a w :=
  wpAnyH_take hi hs hf hr hQ (.inl ⟨by simp [Region.wanted, hg], hv⟩) hS h
theorem run_load_row' (o : Oper) (ty : TypeId) (x : Operand) (ho : o.op = .load ty x) (g : Nat) (hx : a.eval x = .pointer (some ⟨g, 0, none⟩)) (t : TypeId) (cs : Array Value) (fr : Nat × Nat) (d : TypeDesc)
    (hg : w.heap[g]? = some (.cells cs t fr)) (hu : P.underlying ty = some d) (hd : (match d with | .struct _ | .array _ _ => true | _ => false) = true) (hi : (P.info? ty).map (·.size) = some cs.size) :
    (execOp a.eval o).run P w = .ok (.value (.agg cs)) w := by
  unfold execOp
  simp only [ho, hx, Instr.loadAt, Instr.sureAddr, Sem.run_bind, Sem.run_pure, Result.andThen_ok, run_loadVar_row w g t ty cs fr d hg hu hd hi]
theorem run_not' (o : Oper) (T : TypeId) (x : Operand) (ho : o.op = .unOp .not T x) (b : Bool) (hx : a.eval x = .bool b) : (execOp a.eval o).run P w = .ok (.value (.bool !b)) w := by
  unfold execOp
  simp only [ho, hx]
  rfl
end
end Go.Proofs.Ytmjijggkdbiijaa
