/- FnExactLayAll: whatever the input, the law returns true, and the input reads as it did. -/
import Derived.Test.YtmjijggkdbiijaaRows
import Derived.Test.YtmjijggkdbiijaaVf
import Derived.Test.YtmjijggkdbiijaaSp
import Derived.Test.YtmjijggkdbiijaaA4
import Derived.WalkKit
import Derived.ProofKit
import Derived.OpenShut
import Derived.ShutString
import Derived.ChangeOld
import Derived.Below
namespace Go.Proofs.Ytmjijggkdbiijaa.layAllDone
open Go.ChangeShapes Go.WideShapes Go.ChangeAt Go.RowKit
open Go.ChangeMaps (open_string shut_string)
set_option linter.unusedVariables false
set_option linter.unusedSimpArgs false
theorem own : ownKnob Try.prog.godebug = none := by kernel_rfl
theorem laidOut : laidOutB Try.prog = true := by kernel_rfl
set_option maxRecDepth 100000 in
theorem lifted (os : Os) (started : os.Started) (H : Type) (enc : TypeId × Value → H) :
    ReturnsInHanded {} Try.checked os 13 .any (Rows.fnExactLayAllSpec.pre6 enc Try.prog Try.f13 Rows.fnExactLayAllRow.domain false) (Rows.fnExactLayAllSpec.post enc Try.prog Try.f13 false true false false) := by
  refine returnsInHanded_of_change (C := Try.checked) own started (by kernel_rfl) Try.func13
    (ChangeSpec.witness6 (enc := enc) (C := Try.checked) false ⟨#[], #[.agg #[.int .i8 0, .int .i8 0, .slice none 0 0], .slice none 0 0, .slice none 0 0], []⟩ 8 (by kernel_rfl) (by kernel_rfl) (by kernel_rfl) (by kernel_rfl)) ?_
  intro W base args ds gs before hval0 hW hcnd _
  have hval : ∀ (j : Nat) t v, Try.f13.params[j]? = some t → args[j]? = some v → Value.okWide Try.prog W .any base t v := hval0
  have hW' := hW
  obtain ⟨p, q, hA0, hV, rfl, hfz, hnd⟩ := hW
  have hA : DataW.TrodAll enc Try.prog W 0 (fun _ => true) true Try.f13.params.toList args.toList ds p := hA0
  rw [Try.params13] at hA hval
  obtain ⟨v0, vs0, d0, ds0, p0, q0, hargs0, rfl, rfl, h0, r0⟩ := trodAll_cons hA
  obtain ⟨v1, vs1, d1, ds1, p1, q1, hargs1, rfl, rfl, h1, r1⟩ := trodAll_cons r0
  obtain ⟨v2, vs2, d2, ds2, p2, q2, hargs2, rfl, rfl, h2, r2⟩ := trodAll_cons r1
  obtain ⟨e3, rfl, rfl⟩ := trodAll_nil r2
  obtain rfl : args = #[v0, v1, v2] := by
    apply Array.ext'
    rw [hargs0, hargs1, hargs2, e3]
  obtain ⟨rfl, rfl⟩ := trodVars_none hV
  have k0 := h0
  have lt0 : ∀ x ∈ p0, x.block < W.heap.size := by obtain ⟨m, hm⟩ := k0; exact DataW.trod_lt m _ _ _ hm
  have k1 := h1
  have lt1 : ∀ x ∈ p1, x.block < W.heap.size := by obtain ⟨m, hm⟩ := k1; exact DataW.trod_lt m _ _ _ hm
  have k2 := h2
  have lt2 : ∀ x ∈ p2, x.block < W.heap.size := by obtain ⟨m, hm⟩ := k2; exact DataW.trod_lt m _ _ _ hm
  obtain ⟨y0, R0⟩ := rep_open (t := (sqT 38)) (types resT [] fun _ _ => none) shapes rfl (by intro n e q; cases q) (hval 0 25 v0 rfl rfl) h0
  obtain ⟨y1, R1⟩ := rep_open (t := (.slice 38 slabT)) (types resT [] fun _ _ => none) shapes rfl (by intro n e q; cases q) (hval 1 23 v1 rfl rfl) h1
  obtain ⟨y2, R2⟩ := rep_open (t := (.slice 2 (.int .i64))) (types resT [] fun _ _ => none) shapes rfl (by intro n e q; cases q) (hval 2 26 v2 rfl rfl) h2
  clear hA0 hval0
  refine (ev_below (w := W) (ds := [.dat (sqT 38) y0, .dat (.slice 38 slabT) y1, .dat (.slice 2 (.int .i64)) y2]) (vs := [v0, v1, v2]) (show Ev Try.prog 13 (List.map Arg.imm [.dat (sqT 38) y0, .dat (.slice 38 slabT) y1, .dat (.slice 2 (.int .i64)) y2]) _ from lawLayAll_ev y0 y1 y2) (.cons R0 (.cons R1 (.cons R2 .nil)))).mono ?_
  rintro e W' ⟨v, lab', rfl, bel, hres⟩
  obtain rfl : v = .bool true := rep_bool hres
  exact ⟨_, rfl, _, _, _, [], _, [], hW', trodAll_mk1 (shut_bool Try.underlying4 _), (trodAll_cons_mk (Below.trod laidOut (by kernel_rfl) (of_decide_eq_true (by kernel_rfl)) k0 bel lt0) (trodAll_cons_mk (Below.trod laidOut (by kernel_rfl) (of_decide_eq_true (by kernel_rfl)) k1 bel lt1) (trodAll_cons_mk (Below.trod laidOut (by kernel_rfl) (of_decide_eq_true (by kernel_rfl)) k2 bel lt2) trodAll_mk0))), rfl, bel.frame _, fun h => by cases h⟩
theorem over : Rows.fnExactLayAllRow.holds Try.pinned (OpenSpec.ofChange Rows.fnExactLayAllSpec) :=
  OpenClaim.holds_of_wide 13 Try.f13 rfl rfl rfl rfl rfl rfl rfl ⟨rfl, rfl, rfl, rfl, rfl⟩ rfl rfl rfl rfl rfl (by kernel_rfl) Try.func13 (by kernel_rfl)
    (of_decide_eq_true (by kernel_rfl)) (by unfold Func.isWrapper; first | (rw [if_pos (by decide +kernel)]; kernel_rfl) | (rw [if_neg (by decide +kernel)]; exact ⟨rfl, rfl⟩))
    (fun os started H enc _ => lifted os started H enc)
theorem proved : Rows.FnExactLayAllSaid := over
#print axioms proved
end Go.Proofs.Ytmjijggkdbiijaa.layAllDone
