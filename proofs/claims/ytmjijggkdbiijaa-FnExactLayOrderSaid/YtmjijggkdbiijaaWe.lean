/- Orders of laying: the closure is made. No statement is proved here. -/
import Derived.Test.YtmjijggkdbiijaaWd
import Derived.Test.YtmjijggkdbiijaaKr
import Derived.Deep.WholeRow
namespace Go.Proofs.Ytmjijggkdbiijaa
open Go.RowKit
set_option linter.unusedVariables false
set_option linter.unusedSimpArgs false
set_option maxRecDepth 100000
theorem run_mkMap (w : World) : (Instr.makeMap 155 none).run Try.prog w = .ok (.map (some w.heap.size)) (w.alloc (.map #[] 0)) := by
  simp [Instr.makeMap, run_underlying Try.underlying155]
theorem st_new {P : Program} (W : World) (u v : Value) (T : TypeId) (hv : v.oneCell' = true) (m : Mode) : (store ⟨W.heap.size, 0, none⟩ v m).run P (W.alloc (.cells #[u] T)) = .ok () (W.alloc (.cells #[v] T)) := by
  have hc := cell_of_row (W.alloc (.cells #[u] T)) W.heap.size 0 #[u] T (0, 0) (heap_alloc_last W _)
  have hs := World.setRow_alloc_new W #[u] #[v] T
  have hw := heap_alloc_last W (.cells #[u] T)
  rw [run_store P _ _ _ _ hv, hc]
  simp
  rw [← hs]
  simp only [World.setCell, World.setRow]
  congr 1
  refine Array.ext_getElem? fun i => ?_
  rw [Array.getElem?_modify, Array.getElem?_modify]
  split
  · rename_i e; rw [← e, hw]; rfl
  · rfl
theorem alloc_get (w : World) (o : Obj) (g : Nat) : (w.alloc o).heap[g]? = if g = w.heap.size then some o else w.heap[g]? := by show (w.heap.push o)[g]? = _; rw [Array.getElem?_push]
theorem alloc_size (w : World) (o : Obj) : (w.alloc o).heap.size = w.heap.size + 1 := by simp
abbrev wO (w : World) (cs : Array Value) (v : Value) : World := ((((w.alloc (Obj.cells cs 31)).alloc (Obj.cells #[v] 29)).alloc (Obj.map #[] 0)).alloc (Obj.cells #[Value.map (some (w.heap.size + 1 + 1))] 155)).alloc (Obj.cells #[cloM 137 (.pointer (some ⟨w.heap.size + 1, 0, none⟩)) (w.heap.size + 1 + 1 + 1) (w.heap.size + 1 + 1 + 1 + 1)] 119)
theorem orders_w (cs : Array Value) (a1 : Option Addr) (n1 c1 : Nat) (w : World) : Calls Try.prog 93 #[.agg cs, .slice a1 n1 c1] w fun e w' => e = .returned (cloM 137 (.pointer (some ⟨w.heap.size + 1, 0, none⟩)) (w.heap.size + 1 + 1 + 1) (w.heap.size + 1 + 1 + 1 + 1)) ∧ w' = wO w cs (.slice a1 n1 c1) := by
  go_enter Try.func93, Try.ntmps93
  go_wp2
  rw [run_mkMap]
  simp only [Result.andThen]
  go_wp2
  have st := st_new (P := Try.prog) (((((w.alloc (Obj.cells cs 31)).alloc (Obj.cells #[Value.slice a1 n1 c1] 29)).alloc (Obj.map #[] 0)).alloc (Obj.cells #[Value.map (some (w.heap.size + 1 + 1))] 155))) .nilFunc (cloM 137 (.pointer (some ⟨w.heap.size + 1, 0, none⟩)) (w.heap.size + 1 + 1 + 1) (w.heap.size + 1 + 1 + 1 + 1)) 119 rfl .plain
  rw [show (((((w.alloc (Obj.cells cs 31)).alloc (Obj.cells #[Value.slice a1 n1 c1] 29)).alloc (Obj.map #[] 0)).alloc (Obj.cells #[Value.map (some (w.heap.size + 1 + 1))] 155))).heap.size = w.heap.size + 1 + 1 + 1 + 1 by simp] at st
  unfold cloM at st
  rw [st]
  simp only [Result.andThen]
  go_wp2
  go_ret
  exact ⟨rfl, rfl⟩
theorem layOrders_ev (q : Sq) (list : List Sl) : EvR Try.prog 93 [aQ q, aSs list] (memo 137 (dL list) (wF q list)) := by
  refine ⟨fun vs w => ?_, fun w lab vs hlt hlen hok => ?_⟩
  · cases hb : Try.f93.body with
    | none => exact absurd hb (by have : Try.f93.body.isSome = true := by kernel_rfl
                                  intro h; rw [h] at this; cases this)
    | some c =>
      have hname : ¬ Try.f93.name = "runtime.NumGoroutine" := by
        have : (Try.f93.name == "runtime.NumGoroutine") = false := by kernel_rfl
        simpa using this
      simp [callFunc, Try.func93, hname, hb]
  · match vs, hlen with
    | [v0, v1], _ =>
      obtain ⟨cs0, c1, c2⟩ := (hok 0 _ _ rfl rfl : RepV w (Fz lab w) (.dat (sqT 41) q) v0)
      obtain ⟨cs1, d1, d2⟩ := (hok 1 _ _ rfl rfl : RepV w (Fz lab w) (.dat (.slice 41 slabT) list) v1)
      have d0 := d1
      simp only [RepC, Imm] at d0
      obtain ⟨_, a1, n1, flat, rfl, _⟩ := d0
      have c2' : v0 = .agg cs0.toArray := c2
      have d2' : v1 = .slice a1 list.length n1 := d2
      subst c2' d2'
      refine Calls.mono (orders_w cs0.toArray a1 list.length n1 w) ?_
      rintro e w' ⟨rfl, rfl⟩
      have hnone : ∀ g, w.heap.size ≤ g → lab g = none := fun g hg => by
        cases hl : lab g with
        | none => rfl
        | some p => exact absurd (hlt g p hl) (by omega)
      obtain ⟨w', hw'⟩ : ∃ w', w' = wO w cs0.toArray (.slice a1 list.length n1) := ⟨_, rfl⟩
      have hsz : w'.heap.size = w.heap.size + 5 := by rw [hw']; simp [wO]
      have hget : ∀ g, w'.heap[g]? = if g = w.heap.size + 1 + 1 + 1 + 1 then some (.cells #[cloM 137 (.pointer (some ⟨w.heap.size + 1, 0, none⟩)) (w.heap.size + 1 + 1 + 1) (w.heap.size + 1 + 1 + 1 + 1)] 119) else if g = w.heap.size + 1 + 1 + 1 then some (.cells #[Value.map (some (w.heap.size + 1 + 1))] 155)
          else if g = w.heap.size + 1 + 1 then some (.map #[] 0) else if g = w.heap.size + 1 then some (.cells #[.slice a1 list.length n1] 29) else if g = w.heap.size then some (.cells cs0.toArray 31) else w.heap[g]? := fun g => by
        rw [hw']; simp only [wO, alloc_get, alloc_size]
      have hold : ∀ g, g < w.heap.size → w'.heap[g]? = w.heap[g]? := fun g hg => by
        rw [hget, if_neg (by omega), if_neg (by omega), if_neg (by omega), if_neg (by omega), if_neg (by omega)]
      have h1 : w'.heap[w.heap.size + 1]? = some (.cells #[.slice a1 list.length n1] 29) := by
        rw [hget, if_neg (by omega), if_neg (by omega), if_neg (by omega), if_pos rfl]
      have h2 : w'.heap[w.heap.size + 1 + 1]? = some (.map #[] 0) := by
        rw [hget, if_neg (by omega), if_neg (by omega), if_pos rfl]
      have h3 : w'.heap[w.heap.size + 1 + 1 + 1]? = some (.cells #[Value.map (some (w.heap.size + 1 + 1))] 155) := by
        rw [hget, if_neg (by omega), if_pos rfl]
      have h4 : w'.heap[w.heap.size + 1 + 1 + 1 + 1]? = some (.cells #[cloM 137 (.pointer (some ⟨w.heap.size + 1, 0, none⟩)) (w.heap.size + 1 + 1 + 1) (w.heap.size + 1 + 1 + 1 + 1)] 119) := by
        rw [hget, if_pos rfl]
      rw [← hw']
      obtain ⟨lab', hlab⟩ : ∃ lab' : Lab, lab' = fun g => if g = w.heap.size + 1 + 1 ∨ g = w.heap.size + 1 + 1 + 1 then some (0, 0, 1) else lab g := ⟨_, rfl⟩
      have l0 : ∀ g, g < w.heap.size → lab' g = lab g := fun g hg => by rw [hlab]; simp only; rw [if_neg (by omega)]
      have l1 : lab' (w.heap.size + 1) = none := by rw [hlab]; simp only; rw [if_neg (by omega)]; exact hnone _ (by omega)
      have l2 : lab' (w.heap.size + 1 + 1) = some (0, 0, 1) := by rw [hlab]; simp
      have l3 : lab' (w.heap.size + 1 + 1 + 1) = some (0, 0, 1) := by rw [hlab]; simp
      have l4 : lab' (w.heap.size + 1 + 1 + 1 + 1) = none := by rw [hlab]; simp only; rw [if_neg (by omega)]; exact hnone _ (by omega)
      have hfz : ∀ g, Fz lab w g → Fz lab' w' g ∧ w'.heap[g]? = w.heap[g]? := fun g hg => ⟨⟨by rw [l0 g hg.2]; exact hg.1, by have := hg.2; omega⟩, hold g hg.2⟩
      have hdata : RepC w' (Fz lab' w') (.dat (.slice 41 slabT) list) [.slice a1 list.length n1] := RepC.keep hfz d1
      refine ⟨_, lab', rfl, ⟨by rw [hw']; rfl, by rw [hw']; rfl, by rw [hw']; rfl, by omega, fun g hg => hold g hg.1⟩, fun g hg h => by rw [l0 g hg]; exact h, fun g k m h => by
        have hg : g < w.heap.size := hlt g _ h
        rw [l0 g hg]; exact h, fun g p hg => ?_, ?_⟩
      · by_cases q : g < w.heap.size
        · omega
        · rw [hlab] at hg
          simp only at hg
          split at hg
          · omega
          · rw [hnone g (by omega)] at hg; cases hg
      · refine ⟨.pointer (some ⟨w.heap.size + 1, 0, none⟩), w.heap.size + 1 + 1 + 1, w.heap.size + 1 + 1, w.heap.size + 1 + 1 + 1 + 1, rfl, ⟨[], by simp, rfl, ⟨⟨0, l3⟩, 155, h3⟩, ?_⟩, rfl, ⟨⟨l4, by omega⟩, 119, h4⟩, ?_⟩
        · simp only [kvT, Own]
          exact .inr ⟨w.heap.size + 1 + 1, [], #[], 0, rfl, rfl, ⟨0, l2⟩, h2, rfl, List.Pairwise.nil, fun i i' en en' g h => by simp at h, fun i hi => by simp at hi⟩
        · refine ⟨[.pointer (some ⟨w.heap.size + 1, 0, none⟩)], ⟨w.heap.size + 1, 0, [.slice a1 list.length n1], rfl, ⟨l1, by omega⟩, fun j v hj => ?_, hdata⟩, rfl⟩
          rw [cell_of_row w' _ _ #[.slice a1 list.length n1] 29 (0, 0) h1]
          simpa using hj
end Go.Proofs.Ytmjijggkdbiijaa
