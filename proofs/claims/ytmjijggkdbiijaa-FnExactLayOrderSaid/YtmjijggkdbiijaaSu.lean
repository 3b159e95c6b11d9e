/- A square's own slabs are marked. No statement is proved here. -/
import Derived.Test.YtmjijggkdbiijaaSt
import Derived.Test.YtmjijggkdbiijaaG0
namespace Go.Proofs.Ytmjijggkdbiijaa
open Go.RowKit
set_option linter.unusedVariables false
set_option linter.unusedSimpArgs false
theorem enter_of {P : Program} {f : Nat} {fn : Func} {c : Code} (hf : P.funcs[f]? = some fn) (hname : (fn.name == "runtime.NumGoroutine") = false) (hb : fn.body = some c) (vs : Array Value) (w : World) : (callFunc f vs).run P w = .ok (.enter f vs) w := by
  have hname' : ¬ fn.name = "runtime.NumGoroutine" := by simpa using hname
  simp [callFunc, hf, hname', hb]
theorem markSquare_ev (q : Sq) (k : Int) (hl : q.2.2.length ≤ 16777216) (hk : 0 ≤ k ∧ k ≤ 1099511627776) : EvB Try.prog 26 (sqT 41) q [aI k] (compsOf [rI] (k + 4 * (q.2.2.length : Int))) (q.1, q.2.1, row (numS k) q.2.2.length) := by
  refine ⟨enter_of Try.func26 (by kernel_rfl) rfl, fun w lab v0 vs hlt hlen hok => ?_⟩
  obtain ⟨u, rfl⟩ : ∃ u, vs = [u] := match vs, hlen with | [u], _ => ⟨u, rfl⟩
  obtain ⟨cs, rfl, ho⟩ := hok 0 (.own (sqT 41) q) v0 rfl rfl
  obtain ⟨rfl, hkr⟩ := rep_int (hok 1 (aI k) u rfl rfl)
  have ho' := ho
  simp only [sqT, Own, Imm, Ty.sz] at ho'
  obtain ⟨⟨e1, _⟩, ⟨e2, _⟩, _, v, flat, e3, _⟩ := ho'
  obtain rfl : cs = [.int .i8 q.1, .int .i8 q.2.1, v] := by rw [← List.take_append_drop 1 cs, e1, ← List.take_append_drop 1 (List.drop 1 cs), e2, e3]; rfl
  show Calls Try.prog 26 #[.agg #[.int .i8 q.1, .int .i8 q.2.1, v], .int .i64 k] w _
  go_enter Try.func26, Try.ntmps26
  go_wp2_with (first
    | (with_reducible refine wpList_box 2 rfl rfl 31 _ rfl (.agg #[.int .i8 q.1, .int .i8 q.2.1, v]) rfl #[.int .i8 q.1, .int .i8 q.2.1, v] rfl ?_; intro g1 w1 b1 hb1 _hs1; have a2 := blk_cell b1 2)
    | (go_at_call 50; refine (evB_part (p := [.snd, .snd]) (r := k + 4 * (q.2.2.length : Int)) (x' := (q.1, q.2.1, row (numS k) q.2.2.length)) (markSlabs_ev q.2.2 k hl hk) rfl rfl (by simp) rfl hlt ho rfl hkr ⟨hb1.os, hb1.tape, hb1.output, hb1.size, fun g hg => hb1.block g hg⟩).mono ?_; rintro e w2 ⟨rfl, hr, lab', f1, f2, f3, f4, f5⟩))
  go_ret
  exact ⟨_, lab', rfl, f1, f2, f3, f4, int_rep hr, _, rfl, f5⟩
end Go.Proofs.Ytmjijggkdbiijaa
