/- Words for the walks over worlds that only grow: a class of worlds for regions that draw, boxes, rows of cells. No statement is proved here. -/
import Derived.Test.YtmjijggkdbiijaaProg
import Derived.WalkKit
import Derived.WalkSpells
import Derived.BigFrame
import Derived.BigQuiet
import Derived.Lib.Hide
import Derived.Laws.Rows
import Derived.Deep.MidRow
import Derived.Laws.MakeOwn
import Derived.OrdersHeld
namespace Go.Proofs.Ytmjijggkdbiijaa
set_option linter.unusedVariables false
set_option linter.unusedSimpArgs false
open Go.RowKit
/-- A world in which all that lay in w lies as it did. -/
structure Ext (w : World) where
  val : World
  below : Below w.heap.size w val
instance (w : World) : Inhabited (Ext w) := ⟨⟨w, Below.refl _ _⟩⟩
theorem below_trans {w w1 w2 : World} (h : Below w.heap.size w w1) (k : Below w1.heap.size w1 w2) : Below w.heap.size w w2 := h.trans (k.mono h.size)
theorem cell_below {w w1 : World} (hb : Below w.heap.size w w1) {a : Addr} {v : Value} (h : w.cell? a = some v) : w1.cell? a = some v := (hb.cell (World.block_lt_of_cell? w a h)).trans h
theorem blk_lt {w : World} {g : Nat} {o : Obj} (h : w.heap[g]? = some o) : g < w.heap.size := (Array.getElem?_eq_some_iff.1 h).1
theorem blk_below {w w1 : World} (hb : Below w.heap.size w w1) {g : Nat} {o : Obj} (h : w.heap[g]? = some o) : w1.heap[g]? = some o := (hb.block g (blk_lt h)).trans h
theorem blk_cell {w : World} {g : Nat} {t : TypeId} {cs : Array Value} {f : Nat × Nat} (h : w.heap[g]? = some (.cells cs t f)) (i : Nat) : w.cell? ⟨g, i, none⟩ = cs[i]? := cell_of_row w g i cs t f h
section
variable {P : Program} {ops : Array Oper} {rest : List Oper} {o : Oper} {a : Act} {w : World} {Q : Exit → Act → World → Prop}
/-- A whole variable of several cells is loaded. -/
theorem quiet_load_row {C : World → Prop} {K : Act → Prop} (ty : TypeId) (x : Operand) (ho : o.op = .load ty x) (g : Nat) (hx : a.eval x = .pointer (some ⟨g, 0, none⟩)) (t : TypeId) (cs : Array Value) (fr : Nat × Nat) (d : TypeDesc)
    (hg : ∀ w, C w → w.heap[g]? = some (.cells cs t fr)) (hu : P.underlying ty = some d) (hd : (match d with | .struct _ | .array _ _ => true | _ => false) = true) (hi : (P.info? ty).map (·.size) = some cs.size)
    (hk : K (a.put o.dst (.agg cs))) : o.quiet P a C K := by
  refine ⟨.agg cs, fun w hw => ?_, hk⟩
  unfold Oper.quietAt execOp
  simp only [ho, hx, Instr.loadAt, Instr.sureAddr, Sem.run_bind, Sem.run_pure, Result.andThen_ok, run_loadVar_row w g t ty cs fr d (hg w hw) hu hd hi]
  exact ⟨rfl, rfl⟩
/-- A box: a new block under a name. -/
theorem wpList_box (N : Nat) (hd : o.dst = some N) (hg : o.guard = none) (T : TypeId) (x : Operand) (ho : o.op = .box T x) (v : Value) (hx : a.eval x = v) (cs : Array Value) (hcs : v.cells = cs)
    (h : ∀ g w1, w1.heap[g]? = some (.cells cs T (0, 0)) → Below w.heap.size w w1 → w.heap.size ≤ g → wpList P ops Q rest (a.put (some N) (.pointer (some ⟨g, 0, none⟩))) w1) :
    wpList P ops Q (o :: rest) a w := by
  rw [← hd] at h; clear hd
  subst hcs
  refine wpList_plain hg fun K hK => ?_
  unfold Oper.wp execOp
  simp only [ho, hx]
  go_simp
  exact hK _ _ (h _ _ (heap_alloc_new w _) ((Below.refl _ _).alloc (Nat.le_refl _) _) (Nat.le_refl _))
theorem rangeAt.below {w w1 : World} {g j : Nat} {seg : List Value} (h : w.rangeAt g j seg) (hb : Below w.heap.size w w1) : w1.rangeAt g j seg := fun k v hv => cell_below hb (h k v hv)
theorem rangeAt.ext {w : World} {g j : Nat} {seg : List Value} (h : w.rangeAt g j seg) (p : Ext w) : p.val.rangeAt g j seg := rangeAt.below h p.below
/-- Only block g has turned. -/
structure SetB (g : Nat) (w w' : World) : Prop where
  os : w'.os = w.os
  tape : w'.tape = w.tape
  output : w'.output = w.output
  size : w'.heap.size = w.heap.size
  block : ∀ k, k ≠ g → w'.heap[k]? = w.heap[k]?
theorem SetB.below {g B : Nat} {w0 w w' : World} (h : SetB g w w') (hb : Below B w0 w) (hg : B ≤ g) : Below B w0 w' :=
  hb.trans ⟨h.os, h.tape, h.output, Nat.le_of_eq h.size.symm, fun k hk => h.block k (by omega)⟩
theorem SetB.blk {g g' : Nat} {w w' : World} {o : Obj} (h : SetB g w w') (hb : w.heap[g']? = some o) (hne : g' ≠ g) : w'.heap[g']? = some o := (h.block g' hne).trans hb
end
section
variable {P : Program} {ops : Array Oper} {Q : Exit → Act → World → Prop} {S : World → Prop} {fuel : Nat} {listed : Array Bool} {a : Act} {w : World}
end
end Go.Proofs.Ytmjijggkdbiijaa
