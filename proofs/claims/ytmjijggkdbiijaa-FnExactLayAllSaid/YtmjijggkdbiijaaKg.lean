/- The library's Compact, as a call that takes what is its caller's own. No statement is proved here. -/
import Derived.Test.YtmjijggkdbiijaaA4
import Derived.Test.YtmjijggkdbiijaaProg
import Derived.Test.YtmjijggkdbiijaaKe
import Derived.Shelf.SlicesG.CompactI
import Derived.Shelf.SlGeneric
import Derived.Ground.SlgnProg
import Derived.Sort.OwnSortedInts
namespace Go.Proofs.Ytmjijggkdbiijaa
open Go.RowKit Go.Shelf Go.Sort Go.Proofs
set_option linter.unusedVariables false
set_option linter.unusedSimpArgs false
shelf_lay_g SlLaysN.n43 Slgn 43 at Try 143 as Try.compactL
theorem enter_of2 {P : Program} {f : Nat} {fn : Func} {c : Code} (hf : P.funcs[f]? = some fn) (hname : (fn.name == "runtime.NumGoroutine") = false) (hb : fn.body = some c) (vs : Array Value) (w : World) : (callFunc f vs).run P w = .ok (.enter f vs) w := by
  have hname' : ¬ fn.name = "runtime.NumGoroutine" := by simpa using hname
  simp [callFunc, hf, hname', hb]
theorem own_ints {w : World} {S : Nat → Prop} {L : Nat → Nat → Prop} {te : Nat} {xs : List Int} {cs : List Value} (h : Own w S L 0 (.slice te (.int .i64)) xs cs) :
    xs.length ≤ 9223372036854775807 ∧ ∃ v, cs = [v] ∧ w.ownsRow 0 te 1 v xs.length (xs.map (Value.int .i64)) ∧ (∀ g, v.ownBlock = some g → L 0 g) ∧ ∀ x ∈ xs, inR .i64 x := by
  simp only [Own, Ty.sz, Nat.mul_one] at h
  obtain ⟨hl, v, flat, rfl, hrow, hg, he⟩ := h
  have e : flat = xs.map (Value.int .i64) ∧ ∀ x ∈ xs, inR .i64 x := by
    have hlen : flat.length = xs.length := by have := hrow.1; omega
    refine ⟨?_, fun x hx => ?_⟩
    · apply List.ext_getElem (by simp [hlen])
      intro i i1 i2
      have := he i (by omega)
      simp only [Imm] at this
      have h1 := this.1
      have e : ((flat.drop i).take 1) = [flat[i]] := by rw [List.drop_eq_getElem_cons i1]; rfl
      rw [e] at h1
      simpa using h1
    · obtain ⟨i, hi, rfl⟩ := List.getElem_of_mem hx
      have := he i hi
      simp only [Imm] at this
      exact this.2
  rw [e.1] at hrow
  exact ⟨hl, v, rfl, hrow, hg, e.2⟩
theorem own_ints_mk {w : World} {S : Nat → Prop} {L : Nat → Nat → Prop} {te : Nat} {xs : List Int} {v : Value} (hl : xs.length ≤ 9223372036854775807) (hrow : w.ownsRow 0 te 1 v xs.length (xs.map (Value.int .i64))) (hg : ∀ g, v.ownBlock = some g → L 0 g) (hx : ∀ x ∈ xs, inR .i64 x) :
    Own w S L 0 (.slice te (.int .i64)) xs [v] := by
  simp only [Own, Ty.sz, Nat.mul_one]
  refine ⟨hl, v, _, rfl, hrow, hg, fun j hj => ?_⟩
  simp only [Imm]
  refine ⟨?_, hx _ (List.getElem_mem _)⟩
  rw [List.drop_eq_getElem_cons (by simpa using hj)]
  simp
theorem compact_ev (xs : List Int) (hl : xs.length ≤ 4611686018427387903) : Ev Try.prog 143 [.own (.slice 2 (.int .i64)) xs] (compsOf [(true, .slice 2 (.int .i64))] (Lib.compact xs)) := by
  refine ⟨enter_of2 Try.func143 (by kernel_rfl) rfl, fun w lab vs hlt hlen hok => ?_⟩
  obtain ⟨u, rfl⟩ : ∃ u, vs = [u] := match vs, hlen with | [u], _ => ⟨u, rfl⟩
  obtain ⟨cs, rfl, ho⟩ := hok 0 (.own (.slice 2 (.int .i64)) xs) u rfl rfl
  obtain ⟨_, v, rfl, hrow, hg, hx⟩ := own_ints ho
  show Calls Try.prog 143 #[v] w _
  have hsub : ∀ x ∈ Lib.compact xs, x ∈ xs := fun x hx => by
    unfold Lib.compact Lib.compactUpTo at hx
    obtain ⟨j, hj, rfl⟩ := List.mem_map.1 hx
    have := List.mem_range.1 (List.mem_filter.1 hj).1
    simp [this]
  have hle : (Lib.compact xs).length ≤ xs.length := by
    unfold Lib.compact Lib.compactUpTo
    rw [List.length_map]
    exact Nat.le_trans (List.length_filter_le _ _) (by simp)
  rcases hrow.2 with ⟨rfl, h0⟩ | ⟨g, cap, cur, rfl, hb0, hblk, hn, hcap, hcur, htake⟩
  · have e0 : xs = [] := List.eq_nil_of_length_eq_zero h0
    subst e0
    have h := AnyG.slices_Compact_int_empty Try.compactL none 0 w
    refine Calls.mono (show Calls Try.prog 143 #[.slice none 0 0] w _ from h) ?_
    rintro e w' ⟨rfl, rfl⟩
    refine ⟨_, lab, rfl, ⟨rfl, rfl, rfl, Nat.le_refl _, fun _ _ => rfl⟩, fun _ _ h => h, fun _ _ _ h => h, hlt, ⟨[_], rfl, ?_⟩⟩
    exact own_ints_mk (by simp [Lib.compact, Lib.compactUpTo]) ⟨by simp, .inl ⟨rfl, by simp [Lib.compact, Lib.compactUpTo]⟩⟩ (fun g hg => by cases hg) (fun x hx => by simp [Lib.compact, Lib.compactUpTo] at hx)
  · have hH := holds_of_blockI hblk (by simpa using htake)
    have h := AnyG.slices_Compact_int Try.compactL g 0 cap xs w hH (by omega) hn
    refine Calls.mono (show Calls Try.prog 143 #[.slice (some ⟨g, 0, none⟩) xs.length cap] w _ from h) ?_
    rintro e w' ⟨rfl, n, rfl⟩
    have hgl : lab g = some (0, 0, 0 + 1) := hg g rfl
    have hgr := grownBy_sortedI (w := w) (g := g) (n := n) (os := #[]) (Lib.compact xs ++ List.replicate (xs.length - (Lib.compact xs).length) 0).toArray
    have hb2 := heap_sortedI (n := n) (os := #[]) (Lib.compact xs ++ List.replicate (xs.length - (Lib.compact xs).length) 0).toArray hblk
    rw [grow_empty] at hgr hb2
    refine ⟨_, lab, rfl, ⟨rfl, rfl, rfl, by simp, fun g' hg' => hgr.block g' hg'.1 fun e => ?_⟩, fun _ _ h => h, fun _ _ _ h => h, fun g' p hp => by have := hlt g' p hp; simpa using this, ⟨[_], rfl, ?_⟩⟩
    · obtain rfl : g' = g := by simpa using e
      rcases hg'.2 with q | ⟨k, m, q⟩
      · rw [hgl] at q; cases q
      · rw [hgl] at q; simp [D0] at q
    · refine own_ints_mk (by omega) ⟨by simp, .inr ⟨g, cap, _, rfl, Nat.zero_le _, hb2, by omega, hcap, by simp [putCells, hcur], ?_⟩⟩ (fun g' hg' => hg g' hg') (fun x hx' => hx x (hsub x hx'))
      have ht := take_putCellsI cur (Lib.compact xs ++ List.replicate (xs.length - (Lib.compact xs).length) 0) (by simp; omega)
      have hln : (Lib.compact xs ++ List.replicate (xs.length - (Lib.compact xs).length) 0).length = xs.length := by simp; omega
      rw [hln] at ht
      have := congrArg (List.take (Lib.compact xs).length) ht
      rw [List.take_take, Nat.min_eq_left hle, ← List.map_take, List.take_left'  rfl] at this
      rw [Nat.mul_one]; exact this
end Go.Proofs.Ytmjijggkdbiijaa
