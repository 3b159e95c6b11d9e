/- The library's Sort, as a call that writes what is its caller's own. No statement is proved here. -/
import Derived.Test.YtmjijggkdbiijaaKg
import Derived.Test.YtmjijggkdbiijaaProg
import Derived.Test.YtmjijggkdbiijaaKe
import Derived.Shelf.SortM.Plain
import Derived.Shelf.SortM.SortNone
import Derived.Shelf.SlGeneric
import Derived.Ground.SlgmProg
import Derived.Sort.OwnSortedInts
namespace Go.Proofs.Ytmjijggkdbiijaa
open Go.RowKit Go.Shelf Go.Sort Go.Proofs
set_option linter.unusedVariables false
set_option linter.unusedSimpArgs false
shelf_lay_g SlLaysM.n5 Slgm 5 at Try 142 as Try.sortL
/-- A list in its order. -/
def sortI (xs : List Int) : List Int := xs.mergeSort fun x y => decide (x ≤ y)
theorem sortI_perm (xs : List Int) : (sortI xs).Perm xs := List.mergeSort_perm _ _
theorem sortI_len (xs : List Int) : (sortI xs).length = xs.length := (sortI_perm xs).length_eq
theorem sort_ev (xs : List Int) (hl : xs.length ≤ 4611686018427387903) : EvB Try.prog 142 (.slice 2 (.int .i64)) xs [] (compsOf [] ()) (sortI xs) := by
  refine ⟨enter_of2 Try.func142 (by kernel_rfl) rfl, fun w lab v0 vs hlt hlen hok => ?_⟩
  obtain rfl : vs = [] := match vs, hlen with | [], _ => rfl
  obtain ⟨cs, rfl, ho⟩ := hok 0 (.own (.slice 2 (.int .i64)) xs) v0 rfl rfl
  obtain ⟨hl0, v, rfl, hrow, hg, hx⟩ := own_ints ho
  show Calls Try.prog 142 #[v] w _
  have hln := sortI_len xs
  have keepN : ∀ g, lab g = none → allB lab g = none := fun g hg => by unfold allB; rw [hg]
  have keepD : ∀ g k m, lab g = some (D0, k, m) → allB lab g = some (D0, k, m) := fun g k m hg => by unfold allB; rw [hg]; simp
  have back : ∀ g p, allB lab g = some p → ∃ q, lab g = some q := fun g p hp => by
    cases hq : lab g with
    | none => rw [keepN g hq] at hp; cases hp
    | some q => exact ⟨q, rfl⟩
  have res : ∀ w', ResOk (allB lab) w' 0 (compsOf [] ()) (.tuple #[]) := fun w' => ⟨[], rfl, rfl, fun k c u hc => by simp [compsOf] at hc⟩
  rcases hrow.2 with ⟨rfl, h0⟩ | ⟨g, cap, cur, rfl, hb0, hblk, hn, hcap, hcur, htake⟩
  · have e0 : xs = [] := List.eq_nil_of_length_eq_zero h0
    subst e0
    have h := AnyM.slices_Sort_int_none Try.sortL none 0 w
    refine Calls.mono (show Calls Try.prog 142 #[.slice none 0 0] w _ from h) ?_
    rintro e w' ⟨rfl, rfl⟩
    refine ⟨_, allB lab, rfl, ⟨rfl, rfl, rfl, Nat.le_refl _, fun _ _ => rfl⟩, fun g _ hg => keepN g hg, keepD, fun g p hp => by obtain ⟨q, hq⟩ := back g p hp; exact hlt g q hq, res _, [_], rfl, ?_⟩
    exact own_ints_mk (by rw [hln]; simp) ⟨by simp, .inl ⟨rfl, by rw [hln]; rfl⟩⟩ (fun g hg => by cases hg) (fun x hx' => hx x ((sortI_perm []).mem_iff.1 hx'))
  · have hH := holds_of_blockI hblk (by simpa using htake)
    have hgs : g < w.heap.size := (Array.getElem?_eq_some_iff.1 hblk).1
    have h := AnyM.slices_Sort_int Try.sortL g 0 cap xs w hH hgs (by omega)
    refine Calls.mono (show Calls Try.prog 142 #[.slice (some ⟨g, 0, none⟩) xs.length cap] w _ from h) ?_
    rintro e w' ⟨rfl, n, os, rfl⟩
    have hgl : lab g = some (0, 0, 0 + 1) := hg g rfl
    have hgr := grownBy_sortedI (w := w) (g := g) (n := n) (os := os) (sortI xs).toArray
    have hrw := ownsRow_sortedI (n := n) (os := os) (ss := xs) (ts := sortI xs) hln (Nat.zero_le g) hblk hn hcap hcur
    refine ⟨_, allB lab, rfl, ⟨hgr.os, hgr.tape, hgr.output, hgr.size, fun g' hg' => hgr.block g' hg'.1 fun e => ?_⟩, fun g _ hg => keepN g hg, keepD, fun g' p hp => by obtain ⟨q, hq⟩ := back g' p hp; exact Nat.lt_of_lt_of_le (hlt g' q hq) hgr.size, res _, [_], rfl, ?_⟩
    · obtain rfl : g' = g := by simpa using e
      rcases hg'.2 with q | ⟨k, m, q⟩
      · rw [hgl] at q; cases q
      · rw [hgl] at q; simp [D0] at q
    · refine own_ints_mk (by rw [hln]; exact hl0) (by rw [hln]; exact hrw) (fun g' hg' => ?_) (fun x hx' => hx x ((sortI_perm xs).mem_iff.1 hx'))
      obtain rfl : g = g' := by simpa [Value.ownBlock] using hg'
      show allB lab g = some (B0, 0, 0 + 1)
      unfold allB; rw [hgl]; simp [D0]
end Go.Proofs.Ytmjijggkdbiijaa
