/- The library's SortFunc at slabs, as a call that writes what is its caller's own. No statement is proved here. -/
import Derived.Test.YtmjijggkdbiijaaKg
import Derived.Test.YtmjijggkdbiijaaKr
import Derived.Shelf.SlSortCmp.WholeK
import Derived.Shelf.SlSortCmp.NoneTotal
import Derived.Shelf.SlGeneric
import Derived.Ground.SlsfProg
namespace Go.Proofs.Ytmjijggkdbiijaa
open Go.RowKit Go.Shelf Go.Sort Go.Proofs
set_option linter.unusedVariables false
set_option linter.unusedSimpArgs false
shelf_lay_g SlLaysF0.n6 Slsf 6 at Try 144 as Try.sortSl
abbrev vS (x : Sl) : List Value := [.int .i8 x.1, .int .i8 x.2.1, .int .i8 x.2.2.1, .int .i8 x.2.2.2]
def encS (x : Sl) : List Value := [.int .i8 (w8 x.1), .int .i8 (w8 x.2.1), .int .i8 (w8 x.2.2.1), .int .i8 (w8 x.2.2.2)]
structure R8 (x : Sl) : Prop where
  a : inR .i8 x.1
  b : inR .i8 x.2.1
  c : inR .i8 x.2.2.1
  d : inR .i8 x.2.2.2
theorem w8_in {x : Int} (h : inR .i8 x) : w8 x = x := by
  have := b8 h
  unfold w8
  simp [IntKind.wrap, IntKind.bits, IntKind.signed]
  omega
theorem encS_eq {x : Sl} (h : R8 x) : encS x = vS x := by
  simp only [encS, vS, w8_in h.a, w8_in h.b, w8_in h.c, w8_in h.d]
theorem imm_slab_mk {w : World} {S : Nat → Prop} {x : Sl} (h : R8 x) : Imm w S slabT x (vS x) := by
  simp only [slabT, Imm, Ty.sz]
  exact ⟨⟨rfl, h.a⟩, ⟨rfl, h.b⟩, ⟨rfl, h.c⟩, rfl, h.d⟩
theorem imm_slab_r {w : World} {S : Nat → Prop} {x : Sl} {cs : List Value} (h : Imm w S slabT x cs) : cs = vS x ∧ R8 x := by
  refine ⟨imm_slab h, ?_⟩
  simp only [slabT, Imm, Ty.sz] at h
  exact ⟨h.1.2, h.2.1.2, h.2.2.1.2, h.2.2.2.2⟩
theorem own_slabs {w : World} {S : Nat → Prop} {L : Nat → Nat → Prop} {te : Nat} {xs : List Sl} {cs : List Value} (h : Own w S L 0 (.slice te slabT) xs cs) :
    xs.length ≤ 9223372036854775807 ∧ ∃ v flat, cs = [v] ∧ w.ownsRow 0 te 4 v xs.length flat ∧ (∀ g, v.ownBlock = some g → L 0 g) ∧ (∀ j (h : j < xs.length), (flat.drop (j * 4)).take 4 = vS xs[j]) ∧ ∀ x ∈ xs, R8 x := by
  simp only [Own] at h
  obtain ⟨hl, v, flat, rfl, hrow, hg, he⟩ := h
  refine ⟨hl, v, flat, rfl, hrow, hg, fun j hj => (imm_slab_r (he j hj)).1, fun x hx => ?_⟩
  obtain ⟨i, hi, rfl⟩ := List.getElem_of_mem hx
  exact (imm_slab_r (he i hi)).2
theorem own_slabs_mk {w : World} {S : Nat → Prop} {L : Nat → Nat → Prop} {te : Nat} {xs : List Sl} {v : Value} {flat : List Value} (hl : xs.length ≤ 9223372036854775807) (hrow : w.ownsRow 0 te 4 v xs.length flat) (hg : ∀ g, v.ownBlock = some g → L 0 g) (he : ∀ j (h : j < xs.length), (flat.drop (j * 4)).take 4 = vS xs[j]) (hx : ∀ x ∈ xs, R8 x) :
    Own w S L 0 (.slice te slabT) xs [v] := by
  simp only [Own]
  refine ⟨hl, v, flat, rfl, hrow, hg, fun j hj => ?_⟩
  have := imm_slab_mk (w := w) (S := S) (hx _ (List.getElem_mem hj))
  rw [← he j hj] at this
  exact this
theorem flat_at {xs : List Sl} {flat : List Value} (he : ∀ j (h : j < xs.length), (flat.drop (j * 4)).take 4 = vS xs[j]) {t : Nat} (ht : t < xs.length * 4) : flat[t]? = (vS (xs[t / 4]'(by omega)))[t % 4]? := by
  have h := he (t / 4) (by omega)
  have this : ((flat.drop (t / 4 * 4)).take 4)[t % 4]? = (vS (xs[t / 4]'(by omega)))[t % 4]? := by rw [h]
  rw [List.getElem?_take_of_lt (by omega), List.getElem?_drop, show t / 4 * 4 + t % 4 = t by omega] at this
  exact this
theorem flatK_at {xs : List Sl} (hx : ∀ x ∈ xs, R8 x) {t : Nat} (ht : t < xs.length * 4) : (flatK encS 4 xs.toArray)[t]? = (vS (xs[t / 4]'(by omega)))[t % 4]? := by
  have h1 := get_flatK encS 4 xs.toArray t (by simpa using ht)
  have hs : t < (flatK encS 4 xs.toArray).size := by simpa using ht
  rw [getElem!_pos _ t hs] at h1
  rw [Array.getElem?_eq_getElem hs, h1]
  have hd : t / 4 < xs.length := by omega
  rw [getElem!_pos xs.toArray (t / 4) (by simpa using hd), List.getElem_toArray, encS_eq (hx _ (List.getElem_mem _))]
  have hm : t % 4 < (vS (xs[t / 4])).length := by simp; omega
  rw [List.getElem?_eq_getElem hm, getElem!_pos (vS (xs[t / 4])) (t % 4) hm]
theorem flatK_slab {xs : List Sl} (hx : ∀ x ∈ xs, R8 x) (j : Nat) (hj : j < xs.length) : ((flatK encS 4 xs.toArray).toList.drop (j * 4)).take 4 = vS xs[j] := by
  apply List.ext_getElem?
  intro i
  rcases Nat.lt_or_ge i 4 with q | q
  · rw [List.getElem?_take_of_lt q, List.getElem?_drop, Array.getElem?_toList, flatK_at hx (by omega)]
    have e1 : (j * 4 + i) / 4 = j := by omega
    have e2 : (j * 4 + i) % 4 = i := by omega
    simp only [e1, e2]
  · rw [List.getElem?_eq_none (by simp; omega), List.getElem?_eq_none (by simp; omega)]
theorem holds_slabs {w : World} {g : Nat} {cur : Array Value} {e : TypeId} {xs : List Sl} {flat : List Value} (hb : w.heap[g]? = some (.cells cur e (0, 0))) (ht : cur.toList.take (xs.length * 4) = flat) (he : ∀ j (h : j < xs.length), (flat.drop (j * 4)).take 4 = vS xs[j]) (hx : ∀ x ∈ xs, R8 x) : HoldsK encS 4 w g 0 xs.toArray := by
  intro t ht2
  have ht' : t < xs.length * 4 := by simpa using ht2
  refine ⟨?_, by simp [World.frozen?, hb]⟩
  have h1 := flat_at he ht'
  rw [← ht, List.getElem?_take_of_lt ht', Array.getElem?_toList] at h1
  simp only [World.cell?, hb, Nat.zero_add]
  simp only [Option.isSome_none, Bool.false_eq_true, if_false]
  have h2 := flatK_at hx ht'
  have hs : t < (flatK encS 4 xs.toArray).size := by simpa using ht'
  rw [h1, ← h2, Array.getElem?_eq_getElem hs, getElem!_pos _ t hs]; rfl
def cfS (x y : Sl) : Int := cmpC (w8 x.1) (w8 x.2.1) (w8 y.1) (w8 y.2.1)
theorem cfS_lt (x y : Sl) : ltOf cfS x y = decide (w8 x.2.1 < w8 y.2.1 ∨ (w8 x.2.1 = w8 y.2.1 ∧ w8 x.1 < w8 y.1)) := by
  unfold ltOf cfS cmpC cmp8
  refine decide_eq_decide.2 ?_
  split <;> split <;> (try split) <;> (try split) <;> omega
theorem swoS : SWO (ltOf cfS) where
  irrefl x := by rw [cfS_lt]; simp
  trans x y z h1 h2 := by rw [cfS_lt] at *; simp only [decide_eq_true_eq] at *; omega
  ntrans x y z h1 h2 := by rw [cfS_lt] at *; simp only [decide_eq_false_iff_not] at *; omega
theorem cmpLaysS (blk off size : Nat) (w : World) : CmpLays Try.prog 114 #[] encS 4 cfS blk off size w := fun _ _ _ _ x y =>
  (compareSlabs_w (w8 x.1) (w8 x.2.1) (w8 x.2.2.1) (w8 x.2.2.2) (w8 y.1) (w8 y.2.1) (w8 y.2.2.1) (w8 y.2.2.2) _).mono fun _ _ ⟨he, hb⟩ => ⟨he, hb.grow⟩
/-- Slabs in their order. -/
def sortSl (xs : List Sl) : List Sl := (Sort.pdq (ltOf cfS) xs.toArray 0 xs.toArray.size (Lib.bitLen xs.toArray.size) true true).toList
theorem sortSl_is (xs : List Sl) : PermIn 0 xs.toArray.size xs.toArray (sortSl xs).toArray ∧ SortedIn (ltOf cfS) 0 xs.toArray.size (sortSl xs).toArray := by
  have h := pdq_sorts (ltOf cfS) swoS xs.toArray 0 xs.toArray.size (Lib.bitLen xs.toArray.size) true true (Nat.zero_le _) (Nat.le_refl _) (Or.inl rfl)
  unfold sortSl
  rw [Array.toArray_toList]
  exact h
theorem sortSl_len (xs : List Sl) : (sortSl xs).length = xs.length := by
  have := (sortSl_is xs).1.1
  simpa using this
theorem sortSl_perm (xs : List Sl) : (sortSl xs).Perm xs := by
  have h := (sortSl_is xs).1.2.2
  have hl := sortSl_len xs
  have e1 : xs.toArray.extract 0 xs.toArray.size = xs.toArray := by simp
  have e2 : (sortSl xs).toArray.extract 0 xs.toArray.size = (sortSl xs).toArray := by
    rw [show xs.toArray.size = (sortSl xs).toArray.size by simp [hl]]; simp
  rw [e1, e2] at h
  simpa using h
theorem isAgg41 : ∀ w, (isAgg 41).run Try.prog w = .ok true w := fun w => by
  unfold isAgg
  rw [Sem.run_bind, run_underlying Try.underlying41 w]
  rfl
theorem heap_sortedS {w : World} {g n : Nat} {os : Array Obj} {cur : Array Value} {e : TypeId} {fr : Nat × Nat} (d : Array Value) (hb : w.heap[g]? = some (.cells cur e fr)) :
    (grow (putRow id (Sort.ahead w n) g 0 d) os).heap[g]? = some (.cells (putCells id 0 d cur) e fr) := by
  have hg : g < w.heap.size := (Array.getElem?_eq_some_iff.1 hb).1
  rw [heap_grow_old _ _ (by simpa using hg)]
  simp [putRow, mapBlock, Sort.ahead, Array.getElem?_modify, hb, onCells]
theorem grownBy_sortedS {w : World} {g n : Nat} {os : Array Obj} (d : Array Value) : w.grownBy (grow (putRow id (Sort.ahead w n) g 0 d) os) (some g) := by
  refine ⟨rfl, rfl, rfl, by simp, fun k hk hne => ?_⟩
  rw [heap_grow_old _ _ (by simpa using hk)]
  have : g ≠ k := fun e => hne (by rw [e])
  simp [putRow, mapBlock, Sort.ahead, Array.getElem?_modify, this]
theorem take_putCellsS (cur F : Array Value) (h : F.size ≤ cur.size) : (putCells id 0 F cur).toList.take F.size = F.toList := by
  apply List.ext_getElem?
  intro j
  by_cases hj : j < F.size
  · rw [List.getElem?_take_of_lt hj, Array.getElem?_toList]
    simp [putCells, hj, show j < cur.size by omega]
  · rw [List.getElem?_take_eq_none (by omega), List.getElem?_eq_none (by simp; omega)]
theorem sortS_ev (xs : List Sl) (hl : xs.length ≤ 4611686018427387903) : EvB Try.prog 144 (.slice 41 slabT) xs [.imm (.clo 114 .nl)] (compsOf [] ()) (sortSl xs) := by
  refine ⟨enter_of2 Try.func144 (by kernel_rfl) rfl, fun w lab v0 vs hlt hlen hok => ?_⟩
  obtain ⟨u, rfl⟩ : ∃ u, vs = [u] := match vs, hlen with | [u], _ => ⟨u, rfl⟩
  obtain ⟨cs, rfl, ho⟩ := hok 0 (.own (.slice 41 slabT) xs) v0 rfl rfl
  obtain ⟨hl0, v, flat, rfl, hrow, hg, he, hx⟩ := own_slabs ho
  have hu : u = .func (.func 114) #[] #[] := by
    obtain ⟨cs, hc, rfl⟩ := hok 1 (.imm (.clo 114 .nl)) u rfl rfl
    obtain ⟨vs, rfl, hv⟩ := hc
    simp only [RepC] at hv
    subst hv
    rfl
  subst hu
  show Calls Try.prog 144 #[v, .func (.func 114) #[] #[]] w _
  have hln := sortSl_len xs
  have hxs : ∀ x ∈ sortSl xs, R8 x := fun x h => hx x ((sortSl_perm xs).mem_iff.1 h)
  have keepN : ∀ g, lab g = none → allB lab g = none := fun g hg => by unfold allB; rw [hg]
  have keepD : ∀ g k m, lab g = some (D0, k, m) → allB lab g = some (D0, k, m) := fun g k m hg => by unfold allB; rw [hg]; simp
  have back : ∀ g p, allB lab g = some p → ∃ q, lab g = some q := fun g p hp => by
    cases hq : lab g with
    | none => rw [keepN g hq] at hp; cases hp
    | some q => exact ⟨q, rfl⟩
  have res : ∀ w', ResOk (allB lab) w' 0 (compsOf [] ()) (.tuple #[]) := fun w' => ⟨[], rfl, rfl, fun k c u hc => by simp [compsOf] at hc⟩
  rcases hrow.2 with ⟨rfl, h0⟩ | ⟨g, cap, cur, rfl, hb0, hblk, hn, hcap, hcur, htake⟩
  · have e0 : xs = [] := List.eq_nil_of_length_eq_zero h0
    subst e0
    have h := AnyF.slices_SortFunc_none Try.sortSl none 0 (.func (.func 114) #[] #[]) w
    refine Calls.mono (show Calls Try.prog 144 #[.slice none 0 0, .func (.func 114) #[] #[]] w _ from h) ?_
    rintro e w' ⟨rfl, rfl⟩
    refine ⟨_, allB lab, rfl, ⟨rfl, rfl, rfl, Nat.le_refl _, fun _ _ => rfl⟩, fun g _ hg => keepN g hg, keepD, fun g p hp => by obtain ⟨q, hq⟩ := back g p hp; exact hlt g q hq, res _, [_], rfl, ?_⟩
    have e1 : sortSl [] = [] := List.eq_nil_of_length_eq_zero hln
    rw [e1]
    exact own_slabs_mk (flat := []) (by simp) ⟨by simp, .inl ⟨rfl, rfl⟩⟩ (fun g hg => by cases hg) (fun j hj => absurd hj (Nat.not_lt_zero _)) (fun x hx' => by cases hx')
  · have hH := holds_slabs hblk htake he hx
    have hgs : g < w.heap.size := (Array.getElem?_eq_some_iff.1 hblk).1
    have h := AnyQ.slices_SortFunc_eq Try.sortSl 4 isAgg41 Try.sizeOf41 encS (fun _ => rfl) (fun x v hv => by simp [encS] at hv; rcases hv with rfl | rfl | rfl | rfl <;> rfl) cfS swoS 114 #[] g 0 cap xs.toArray w (enter_of2 Try.func114 (by kernel_rfl) rfl) (cmpLaysS g 0 xs.toArray.size w) hH hgs (by simp; omega)
    refine Calls.mono (show Calls Try.prog 144 #[.slice (some ⟨g, 0, none⟩) xs.length cap, .func (.func 114) #[] #[]] w _ from h) ?_
    rintro e w' ⟨rfl, n, os, rfl⟩
    have hgl : lab g = some (0, 0, 0 + 1) := hg g rfl
    have earr : Sort.pdq (ltOf cfS) xs.toArray 0 xs.toArray.size (Lib.bitLen xs.toArray.size) true true = (sortSl xs).toArray := by unfold sortSl; rw [Array.toArray_toList]
    rw [earr]
    have hgr := grownBy_sortedS (w := w) (g := g) (n := n) (os := os) (flatK encS 4 (sortSl xs).toArray)
    have hb2 := heap_sortedS (n := n) (os := os) (flatK encS 4 (sortSl xs).toArray) hblk
    have htk := take_putCellsS cur (flatK encS 4 (sortSl xs).toArray) (by simp; omega)
    refine ⟨_, allB lab, rfl, ⟨hgr.os, hgr.tape, hgr.output, hgr.size, fun g' hg' => hgr.block g' hg'.1 fun e => ?_⟩, fun g _ hg => keepN g hg, keepD, fun g' p hp => by obtain ⟨q, hq⟩ := back g' p hp; exact Nat.lt_of_lt_of_le (hlt g' q hq) hgr.size, res _, [_], rfl, ?_⟩
    · obtain rfl : g' = g := by simpa using e
      rcases hg'.2 with q | ⟨k, m, q⟩
      · rw [hgl] at q; cases q
      · rw [hgl] at q; simp [D0] at q
    · refine own_slabs_mk (flat := (flatK encS 4 (sortSl xs).toArray).toList) (by omega) ⟨by simp, .inr ⟨g, cap, _, by rw [hln], Nat.zero_le _, hb2, by omega, hcap, by simp [putCells, hcur], ?_⟩⟩ (fun g' hg' => ?_) (fun j hj => flatK_slab hxs j hj) hxs
      · rw [size_flatK] at htk
        simpa using htk
      · obtain rfl : g = g' := by simpa [Value.ownBlock] using hg'
        show allB lab g = some (B0, 0, 0 + 1)
        unfold allB; rw [hgl]; simp [D0]
end Go.Proofs.Ytmjijggkdbiijaa
