/- A ground's own gullies are marked. No statement is proved here. -/
import Derived.Test.YtkhheofgnhndbaaJa
import Derived.Test.YtkhheofgnhndbaaA3
namespace Go.Proofs.Ytkhheofgnhndbaa
open Go.RowKit
set_option linter.unusedVariables false
set_option linter.unusedSimpArgs false
theorem enter_of {P : Program} {f : Nat} {fn : Func} {c : Code} (hf : P.funcs[f]? = some fn) (hname : (fn.name == "runtime.NumGoroutine") = false) (hb : fn.body = some c) (vs : Array Value) (w : World) : (callFunc f vs).run P w = .ok (.enter f vs) w := by
  have hname' : ¬ fn.name = "runtime.NumGoroutine" := by simpa using hname
  simp [callFunc, hf, hname', hb]
theorem markGround_ev (g : G) (k : Int) (hl : g.2.2.2.length ≤ 16777216) (hk : 0 ≤ k ∧ k ≤ 1099511627776) : EvB Try.prog 26 (groundT 40) g [aI k] (compsOf [rI] (k + 2 * (g.2.2.2.length : Int))) (g.1, g.2.1, g.2.2.1, row (numC k) g.2.2.2.length) := by
  refine ⟨enter_of Try.func26 (by kernel_rfl) rfl, fun w lab v0 vs hlt hlen hok => ?_⟩
  obtain ⟨u, rfl⟩ : ∃ u, vs = [u] := match vs, hlen with | [u], _ => ⟨u, rfl⟩
  obtain ⟨cs, rfl, ho⟩ := hok 0 (.own (groundT 40) g) v0 rfl rfl
  obtain ⟨rfl, hkr⟩ := rep_int (hok 1 (aI k) u rfl rfl)
  have ho' := ho
  simp only [groundT, Own, Imm, Ty.sz] at ho'
  obtain ⟨⟨e1, _⟩, ⟨e2, _⟩, ⟨_, e3, _⟩, _, v, flat, e4, _⟩ := ho'
  have h83 : cs.drop 83 = [v] := by simpa [List.drop_drop] using e4
  have hv : cs[83]? = some v := by
    have := congrArg (fun l : List Value => l[0]?) h83
    simpa using this
  show Calls Try.prog 26 #[.agg cs.toArray, .int .i64 k] w _
  go_enter Try.func26, Try.ntmps26
  go_wp2_with (first
    | (with_reducible refine wpList_box 2 rfl rfl 33 _ rfl (.agg cs.toArray) rfl cs.toArray rfl ?_; intro g1 w1 b1 hb1 _hs1; have a2 : w1.cell? ⟨g1, 83, none⟩ = some v := (blk_cell b1 83).trans (by simpa using hv))
    | (go_at_call 36; refine (evB_part (p := [.snd, .snd, .snd]) (r := k + 2 * (g.2.2.2.length : Int)) (x' := (g.1, g.2.1, g.2.2.1, row (numC k) g.2.2.2.length)) (markCells_ev g.2.2.2 k hl hk) rfl rfl (by simp) rfl hlt ho hv hkr ⟨hb1.os, hb1.tape, hb1.output, hb1.size, fun g hg => hb1.block g hg⟩).mono ?_; rintro e w2 ⟨rfl, hr, lab', f1, f2, f3, f4, f5⟩))
  go_ret
  exact ⟨_, lab', rfl, f1, f2, f3, f4, int_rep hr, _, rfl, f5⟩
end Go.Proofs.Ytkhheofgnhndbaa
