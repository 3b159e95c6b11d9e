/- How slabs are compared, walked. No statement is proved here. -/
import Derived.Test.YtmjijggkdbiijaaKq
namespace Go.Proofs.Ytmjijggkdbiijaa
open Go.RowKit Go.Sort
set_option linter.unusedVariables false
set_option linter.unusedSimpArgs false
theorem results_c1 {P : Program} {fn : Func} {tmps : Array Value} {w : World} {p : Tmp} {ty : TypeId} (h : fn.results = #[.cell p ty]) (g : Nat) (t : TypeId) (cs : Array Value) (fr : Nat × Nat) (d : TypeDesc)
    (hp : tmps.getD p undef = .pointer (some ⟨g, 0, none⟩)) (hg : w.heap[g]? = some (.cells cs t fr))
    (hu : P.underlying ty = some d) (hd : (match d with | .struct _ | .array _ _ => true | _ => false) = true) (hi : (P.info? ty).map (·.size) = some cs.size) :
    (results fn tmps).run P w = .ok (.agg cs) w := by
  have hp' : tmps[p]?.getD undef = .pointer (some ⟨g, 0, none⟩) := by simpa using hp
  simp [results, h, hp', asAddr, run_loadVar_row w g t ty cs fr d hg hu hd hi]
theorem isz52 (x y : Int) : (Try.prog.info? 52).map (·.size) = some (#[Value.int .i8 x, Value.int .i8 y] : Array Value).size := by kernel_rfl
theorem first_w (a b c d : Int) (w : World) : Calls Try.prog 153 #[.agg #[.int .i8 a, .int .i8 b, .int .i8 c, .int .i8 d]] w fun e w' => e = .returned (.agg #[.int .i8 a, .int .i8 b]) ∧ BD w w' := by
  go_enter Try.func153, Try.ntmps153
  go_wp2
  have h := heap_alloc_new (w.alloc (Obj.cells #[.int .i8 a, .int .i8 b, .int .i8 c, .int .i8 d] 41)) (Obj.cells #[.int .i8 a, .int .i8 b] 52)
  have e : (w.alloc (Obj.cells #[.int .i8 a, .int .i8 b, .int .i8 c, .int .i8 d] 41)).heap.size = w.heap.size + 1 := by simp
  rw [e] at h
  exact bodyPost_ret (results_c1 rfl (w.heap.size + 1) 52 #[.int .i8 a, .int .i8 b] (0, 0) _ rfl h Try.underlying52 rfl (isz52 _ _)) rfl ⟨rfl, (BD.alloc _ _).trans (BD.alloc _ _)⟩
theorem isz41 (a b c d : Int) : (Try.prog.info? 41).map (·.size) = some (#[Value.int .i8 a, Value.int .i8 b, Value.int .i8 c, Value.int .i8 d] : Array Value).size := by kernel_rfl
theorem compareSlabs_w (a b c d x y u v : Int) (w : World) : Calls Try.prog 114 #[.agg #[.int .i8 a, .int .i8 b, .int .i8 c, .int .i8 d], .agg #[.int .i8 x, .int .i8 y, .int .i8 u, .int .i8 v]] w fun e w' => e = .returned (.int .i64 (cmpC a b x y)) ∧ BD w w' := by
  go_enter Try.func114, Try.ntmps114
  go_wp2_with (first
    | (with_reducible refine wpList_boxD 2 rfl rfl 41 _ rfl (.agg #[.int .i8 a, .int .i8 b, .int .i8 c, .int .i8 d]) rfl #[.int .i8 a, .int .i8 b, .int .i8 c, .int .i8 d] rfl ?_; intro g1 w1 b1 hb1)
    | (with_reducible refine wpList_boxD 3 rfl rfl 41 _ rfl (.agg #[.int .i8 x, .int .i8 y, .int .i8 u, .int .i8 v]) rfl #[.int .i8 x, .int .i8 y, .int .i8 u, .int .i8 v] rfl ?_; intro g2 w2 b2 hb2))
  have b1' := blk_below hb2.below b1
  try simp only [Act.put, List.setIfInBounds_toArray, List.set_cons_zero, List.set_cons_succ]
  refine wp_region_extD (by kernel_rfl) (by kernel_rfl) ?_
  repeat (first
    | go_big_quiet_skip
    | (go_big_quiet_want; with_reducible refine quiet_load_row 41 _ rfl g1 rfl 41 _ (0, 0) _ (by rintro _ ⟨p, rfl⟩; exact extD_blk b1' p) Try.underlying41 rfl (isz41 _ _ _ _) ?_; (simp only [Act.put, List.setIfInBounds_toArray, List.set_cons_zero, List.set_cons_succ]); go_big_quiet_on)
    | (go_big_quiet_want; with_reducible refine quiet_load_row 41 _ rfl g2 rfl 41 _ (0, 0) _ (by rintro _ ⟨p, rfl⟩; exact extD_blk b2 p) Try.underlying41 rfl (isz41 _ _ _ _) ?_; (simp only [Act.put, List.setIfInBounds_toArray, List.set_cons_zero, List.set_cons_succ]); go_big_quiet_on)
    | (go_big_quiet_want
       go_big_quiet_op
       first
         | go_big_quiet_on
         | (apply Exists.intro
            refine ⟨fun _ => ?_, ?_⟩
            · first
                | (go_at_call 153; exact Calls.extD_of (first_w _ _ _ _ _))
                | (go_at_call 152; exact Calls.extD_of (compareCells_w _ _ _ _ _))
            go_big_quiet_on)))
  refine wpQuiet_nil ?_
  intro w3 hb3
  go_wp2
  go_ret
  exact ⟨rfl, (hb1.trans hb2).trans hb3⟩
end Go.Proofs.Ytmjijggkdbiijaa
