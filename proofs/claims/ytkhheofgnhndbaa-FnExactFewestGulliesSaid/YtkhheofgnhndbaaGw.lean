/- Whereto water runs from a point, by how much: both answers. -/
import Derived.Test.YtkhheofgnhndbaaGu
namespace Go.Proofs.Ytkhheofgnhndbaa
set_option linter.unusedVariables false
set_option linter.unusedSimpArgs false
open Go.RowKit
open Classical in
noncomputable def askC (G : Gd) (b : Bool) : Int := if GValid G then (if b then 0 else 2) else 1
theorem asked_is (G : Gd) (gl : Value) (hG : GdOk G) (b : Bool) (g : Nat) (w : World) (hv : Cs w gl G.gul) (hb : w.heap[g]? = some (.cells (gc G gl) 33 (0, 0))) :
    Calls Try.prog 63 #[.pointer (some ⟨g, 0, none⟩), .bool b] w fun e w' => e = .returned (.int .i64 (askC G b)) ∧ Below w.heap.size w w' := by
  by_cases hV : GValid G
  · cases b with
    | true =>
      have hr : Hid (askC G true = 0) := by unfold askC; rw [if_pos hV]; rfl
      go_enter Try.func63, Try.ntmps63
      go_wp2_with (first
        | (go_at_call 48; refine (l04Ok_is G gl hG g _ hv hb true (by simp [hV])).mono ?_; rintro e w1 ⟨rfl, hb1⟩))
      go_ret
      exact ⟨by rw [hr.out]; rfl, hb1⟩
    | false =>
      have hr : Hid (askC G false = 2) := by unfold askC; rw [if_pos hV]; rfl
      go_enter Try.func63, Try.ntmps63
      go_wp2_with (first
        | (go_at_call 48; refine (l04Ok_is G gl hG g _ hv hb true (by simp [hV])).mono ?_; rintro e w1 ⟨rfl, hb1⟩))
      go_ret
      exact ⟨by rw [hr.out]; rfl, hb1⟩
  · have hr : Hid (askC G b = 1) := if_neg hV
    go_enter Try.func63, Try.ntmps63
    go_wp2_with (first
      | (go_at_call 48; refine (l04Ok_is G gl hG g _ hv hb false (by simp [hV])).mono ?_; rintro e w1 ⟨rfl, hb1⟩))
    go_ret
    exact ⟨by rw [hr.out]; rfl, hb1⟩
theorem unless_is (b : Bool) (n : Int) (w : World) : Calls Try.prog 98 #[.bool b, .int .i64 n] w fun e w' => e = .returned (.int .i64 (if b then 0 else n)) ∧ w = w' := by
  cases b
  · go_enter Try.func98, Try.ntmps98
    go_wp2
    go_ret
    exact ⟨rfl, rfl⟩
  · go_enter Try.func98, Try.ntmps98
    go_wp2
    go_ret
    exact ⟨rfl, rfl⟩
theorem pointCode_is (G : Gd) (gl : Value) (hG : GdOk G) (x y : Int) (hx : i8ok x) (hy : i8ok y) (b : Bool) (hb : b = decide (isPt G.W G.H x y)) (w : World) (hv : Cs w gl G.gul) :
    Calls Try.prog 70 #[.agg (gc G gl), .agg #[.int .i8 x, .int .i8 y]] w fun e w' => e = .returned (.int .i64 (askC G b)) ∧ Below w.heap.size w w' := by
  have hlen := hG.len
  have hB := Below.refl w.heap.size w
  have HP := Lib.hid (fun w0 => isPoint_is G gl hG x y w0 hx hy b (by rw [hb]; simp))
  clear hb
  by_cases hV : GValid G
  · cases b with
    | true =>
      have hr : Hid (askC G true = 0) := by unfold askC; rw [if_pos hV]; rfl
      go_enter Try.func70, Try.ntmps70
      go_wp2_with (first
        | (with_reducible refine wpList_box 2 rfl rfl 33 _ rfl (.agg (gc G gl)) rfl (gc G gl) rfl ?_; intro g1 w1 b1 hb1 _hs1; have hs1 : w.heap.size ≤ g1 := Nat.le_trans hB.size _hs1; have hB := below_trans hB hb1)
        | (with_reducible refine wpList_box 3 rfl rfl 40 _ rfl (.agg #[.int .i8 x, .int .i8 y]) rfl #[.int .i8 x, .int .i8 y] rfl ?_; intro g2 w2 b2 hb2 _hs2; have hs2 : w.heap.size ≤ g2 := Nat.le_trans hB.size _hs2; have hB := below_trans hB hb2; have n1_2 : g1 < g2 := Nat.lt_of_lt_of_le (blk_lt b1) _hs2; have b1 := blk_below hb2 b1)
        | (with_reducible refine wpList_load_row rfl 33 _ rfl g1 rfl 33 _ (0, 0) _ b1 Try.underlying33 rfl (gsize _ _ hlen) ?_)
        | (go_at_call 17; refine (implValid_is G gl hG _ (hv.below hB) true (by simp [hV])).mono ?_; rintro e w3 ⟨rfl, hb3⟩; have b1 := blk_below hb3 b1; have b2 := blk_below hb3 b2; have hB := below_trans hB hb3; have z2 := blk_two b2; obtain ⟨x0, y0⟩ := z2)
        | (go_at_call 51; refine (HP.out _).mono ?_; rintro e w4 ⟨rfl, hb4⟩; have hB := below_trans hB hb4)
        | (go_at_call 98; refine (unless_is _ _ _).mono ?_; rintro e w5 ⟨rfl, rfl⟩))
      go_ret
      exact ⟨by rw [hr.out]; rfl, hB⟩
    | false =>
      have hr : Hid (askC G false = 2) := by unfold askC; rw [if_pos hV]; rfl
      go_enter Try.func70, Try.ntmps70
      go_wp2_with (first
        | (with_reducible refine wpList_box 2 rfl rfl 33 _ rfl (.agg (gc G gl)) rfl (gc G gl) rfl ?_; intro g1 w1 b1 hb1 _hs1; have hs1 : w.heap.size ≤ g1 := Nat.le_trans hB.size _hs1; have hB := below_trans hB hb1)
        | (with_reducible refine wpList_box 3 rfl rfl 40 _ rfl (.agg #[.int .i8 x, .int .i8 y]) rfl #[.int .i8 x, .int .i8 y] rfl ?_; intro g2 w2 b2 hb2 _hs2; have hs2 : w.heap.size ≤ g2 := Nat.le_trans hB.size _hs2; have hB := below_trans hB hb2; have n1_2 : g1 < g2 := Nat.lt_of_lt_of_le (blk_lt b1) _hs2; have b1 := blk_below hb2 b1)
        | (with_reducible refine wpList_load_row rfl 33 _ rfl g1 rfl 33 _ (0, 0) _ b1 Try.underlying33 rfl (gsize _ _ hlen) ?_)
        | (go_at_call 17; refine (implValid_is G gl hG _ (hv.below hB) true (by simp [hV])).mono ?_; rintro e w3 ⟨rfl, hb3⟩; have b1 := blk_below hb3 b1; have b2 := blk_below hb3 b2; have hB := below_trans hB hb3; have z2 := blk_two b2; obtain ⟨x0, y0⟩ := z2)
        | (go_at_call 51; refine (HP.out _).mono ?_; rintro e w4 ⟨rfl, hb4⟩; have hB := below_trans hB hb4)
        | (go_at_call 98; refine (unless_is _ _ _).mono ?_; rintro e w5 ⟨rfl, rfl⟩))
      go_ret
      exact ⟨by rw [hr.out]; rfl, hB⟩
  · have hr : Hid (askC G b = 1) := if_neg hV
    go_enter Try.func70, Try.ntmps70
    go_wp2_with (first
      | (with_reducible refine wpList_box 2 rfl rfl 33 _ rfl (.agg (gc G gl)) rfl (gc G gl) rfl ?_; intro g1 w1 b1 hb1 _hs1; have hs1 : w.heap.size ≤ g1 := Nat.le_trans hB.size _hs1; have hB := below_trans hB hb1)
      | (with_reducible refine wpList_box 3 rfl rfl 40 _ rfl (.agg #[.int .i8 x, .int .i8 y]) rfl #[.int .i8 x, .int .i8 y] rfl ?_; intro g2 w2 b2 hb2 _hs2; have hs2 : w.heap.size ≤ g2 := Nat.le_trans hB.size _hs2; have hB := below_trans hB hb2; have n1_2 : g1 < g2 := Nat.lt_of_lt_of_le (blk_lt b1) _hs2; have b1 := blk_below hb2 b1)
      | (with_reducible refine wpList_load_row rfl 33 _ rfl g1 rfl 33 _ (0, 0) _ b1 Try.underlying33 rfl (gsize _ _ hlen) ?_)
      | (go_at_call 17; refine (implValid_is G gl hG _ (hv.below hB) false (by simp [hV])).mono ?_; rintro e w3 ⟨rfl, hb3⟩; have b1 := blk_below hb3 b1; have b2 := blk_below hb3 b2; have hB := below_trans hB hb3))
    go_ret
    exact ⟨by rw [hr.out]; rfl, hB⟩
theorem asked_v {G : Gd} {gl : Value} (hG : GdOk G) {b : Bool} {n : Int} (h : askC G b = n) (g : Nat) (w : World) (hv : Cs w gl G.gul) (hb : w.heap[g]? = some (.cells (gc G gl) 33 (0, 0))) :
    Calls Try.prog 63 #[.pointer (some ⟨g, 0, none⟩), .bool b] w fun e w' => e = .returned (.int .i64 n) ∧ Below w.heap.size w w' := by rw [← h]; exact asked_is G gl hG b g w hv hb
theorem pointCode_v {G : Gd} {gl : Value} (hG : GdOk G) {x y : Int} (hx : i8ok x) (hy : i8ok y) {b : Bool} {n : Int} (hb : b = decide (isPt G.W G.H x y)) (h : askC G b = n) (w : World) (hv : Cs w gl G.gul) :
    Calls Try.prog 70 #[.agg (gc G gl), .agg #[.int .i8 x, .int .i8 y]] w fun e w' => e = .returned (.int .i64 n) ∧ Below w.heap.size w w' := by rw [← h]; exact pointCode_is G gl hG x y hx hy b hb w hv
theorem runs_v {G : Gd} {gl : Value} (hG : GdOk G) (hV : GValid G) {x y : Int} (hp : isPt G.W G.H x y) {b : Bool} (h : runB G x y = b) (w : World) (hv : Cs w gl G.gul) :
    Calls Try.prog 71 #[.agg (gc G gl), .agg #[.int .i8 x, .int .i8 y]] w fun e w' => e = .returned (.tuple #[.agg #[.int .i8 (runT G x y).1, .int .i8 (runT G x y).2], .bool b]) ∧ Below w.heap.size w w' := by rw [← h]; exact runs_is G gl hG hV x y hp w hv
theorem l04Fall_v {G : Gd} {gl : Value} (hG : GdOk G) (hV : GValid G) {x y : Int} (hp : isPt G.W G.H x y) {b : Bool} (h : runB G x y = b) (g : Nat) (w : World) (hv : Cs w gl G.gul) (hb : w.heap[g]? = some (.cells (gc G gl) 33 (0, 0))) :
    Calls Try.prog 69 #[.pointer (some ⟨g, 0, none⟩), .agg #[.int .i8 x, .int .i8 y]] w fun e w' => e = .returned (.tuple #[.agg #[.int .i8 (runT G x y).1, .int .i8 (runT G x y).2], .bool b]) ∧ Below w.heap.size w w' := by rw [← h]; exact l04Fall_is G gl hG hV x y hp g w hv hb
theorem isz33 {G : Gd} {gl : Value} (hlen : G.hs.length = 81) : (Try.prog.info? 33).map (·.size) = some (gc G gl).size := gsize _ _ hlen
theorem run_sub' {P : Program} {a : Act} {w : World} (o : Oper) (x y : Operand) (ho : o.op = .binOp .sub 2 x y 2) (m n : Int) (hx : a.eval x = .int .i64 m) (hy : a.eval y = .int .i64 n) (h : -9223372036854775808 ≤ m - n ∧ m - n ≤ 9223372036854775807) :
    (execOp a.eval o).run P w = .ok (.value (.int .i64 (m - n))) w := by
  obtain ⟨h1, h2⟩ := h
  unfold execOp
  simp only [ho, hx, hy]
  go_simp
  rw [IntKind.wrap_i64]; omega
theorem anyH_callN {P : Program} {ops : Array Oper} {Q : Exit → Act → World → Prop} {S : World → Prop} {fuel : Nat} {listed : Array Bool} {a : Act} {w : World} (i N : Nat) (o : Oper) (hr : Region.ready .any ops listed = [i]) (hi : ops[i]? = some o) (hd : o.dst = some N) (hg : o.guard = none) (f : FuncId) (xs : Array Operand) (ts : Array TypeId) (hop : o.op = .call { callee := .value (.func f), args := xs, argTypes := ts }) (vs : Array Value) (hvs : xs.map a.eval = vs) (hcf : (callFunc f vs).run P w = .ok (.enter f vs) w)
    (h : Calls P f vs w fun e w' => ∃ v, e = .returned v ∧ S w' ∧ wpAnyH P .any ops Q S fuel (listed.setIfInBounds i true) (a.put (some N) v) w') : wpAnyH P .any ops Q S (fuel + 1) listed a w := by
  rw [← hd] at h
  exact anyH_call i o hr hi hg f xs ts hop vs hvs hcf h
structure Fal where
  x : Int
  y : Int
  n : Int
  m : Int
open Classical in
noncomputable def fallR (G : Gd) (x y : Int) : Fal :=
  if GValid G then
    if isPt G.W G.H x y then
      if runB G x y then ⟨(runT G x y).1, (runT G x y).2, hAt G x y - hAt G (runT G x y).1 (runT G x y).2, 0⟩ else ⟨0, 0, 0, 6⟩
    else ⟨0, 0, 0, 2⟩
  else ⟨0, 0, 0, 1⟩
def fallPost (F : Fal) (w : World) (e : Ending) (w' : World) : Prop := e = .returned (.tuple #[.agg #[.int .i8 F.x, .int .i8 F.y], .int .i64 F.n, .int .i64 F.m]) ∧ Below w.heap.size w w'
theorem l04Is_b (W H x y : Int) (g : Nat) (w : World) (hW : i8ok W) (hH : i8ok H) (hx : i8ok x) (hy : i8ok y) (c0 : w.cell? ⟨g, 0, none⟩ = some (.int .i8 W)) (c1 : w.cell? ⟨g, 1, none⟩ = some (.int .i8 H)) :
    Calls Try.prog 68 #[.pointer (some ⟨g, 0, none⟩), .agg #[.int .i8 x, .int .i8 y]] w (eqPost w (decide (isPt W H x y))) := l04Is_is W H x y g w hW hH hx hy c0 c1 _ (by simp)
set_option maxHeartbeats 4000000 in
set_option maxRecDepth 100000 in
theorem specFall_is (G : Gd) (gl : Value) (hG : GdOk G) (x y : Int) (hx : i8ok x) (hy : i8ok y) (w : World) (hv : Cs w gl G.gul) :
    Calls Try.prog 28 #[.agg (gc G gl), .agg #[.int .i8 x, .int .i8 y]] w (fallPost (fallR G x y) w) := by
  have hlen := hG.len
  have hB := Below.refl w.heap.size w
  by_cases hV : GValid G
  · by_cases hp : isPt G.W G.H x y
    · obtain ⟨hx9, hy9⟩ := pt_lt hV hp
      have hA : Hid (askC G true = 0) := by unfold askC; rw [if_pos hV]; rfl
      cases hr : runB G x y with
      | true =>
        have hF : Hid (fallR G x y = ⟨(runT G x y).1, (runT G x y).2, hAt G x y - hAt G (runT G x y).1 (runT G x y).2, 0⟩) := by unfold fallR; rw [if_pos hV, if_pos hp, hr]; rfl
        have HR := Lib.hid hr
        clear hr
        obtain ⟨htx, hty⟩ := pt_lt hV (runT_pt (G := G) hp)
        have HRun := Lib.hid (fun g w' a b => l04Fall_v (gl := gl) hG hV hp HR.out g w' a b)
        obtain ⟨tx, ty, hT⟩ : ∃ tx ty, runT G x y = (tx, ty) := ⟨_, _, rfl⟩
        rw [hT] at hF HRun htx hty
        dsimp only at hF HRun htx hty
        obtain ⟨h1, h2⟩ := hAt_ok hG x y
        obtain ⟨h3, h4⟩ := hAt_ok hG tx ty
        clear hT
        go_enter Try.func28, Try.ntmps28
        go_wp2_with (first
          | (with_reducible refine wpList_box 2 rfl rfl 33 _ rfl (.agg (gc G gl)) rfl (gc G gl) rfl ?_; intro g1 w1 b1 hb1 _hs1; have hs1 : w.heap.size ≤ g1 := Nat.le_trans hB.size _hs1; have hB := below_trans hB hb1)
          | (with_reducible refine wpList_box 3 rfl rfl 40 _ rfl (.agg #[.int .i8 x, .int .i8 y]) rfl #[.int .i8 x, .int .i8 y] rfl ?_; intro g2 w2 b2 hb2 _hs2; have hs2 : w.heap.size ≤ g2 := Nat.le_trans hB.size _hs2; have hB := below_trans hB hb2; have n1_2 : g1 < g2 := Nat.lt_of_lt_of_le (blk_lt b1) _hs2; have b1 := blk_below hb2 b1)
          | (with_reducible refine wpList_allocB 4 rfl rfl 40 rfl (.agg #[.int .i8 0, .int .i8 0]) #[.int .i8 0, .int .i8 0] (by kernel_rfl) rfl ?_; intro g3 w3 b3 hb3 _hs3; have hs3 : w.heap.size ≤ g3 := Nat.le_trans hB.size _hs3; have hB := below_trans hB hb3; have n1_3 : g1 < g3 := Nat.lt_of_lt_of_le (blk_lt b1) _hs3; have n2_3 : g2 < g3 := Nat.lt_of_lt_of_le (blk_lt b2) _hs3; have b1 := blk_below hb3 b1; have b2 := blk_below hb3 b2;  have z2 := blk_two b2; obtain ⟨x0, y0⟩ := z2; have c0 := (blk_cell b1 0).trans (gc_0 _ _); have c1 := (blk_cell b1 1).trans (gc_1 _ _))
          | (go_at_call 68; refine (l04Is_t _ _ _ _ g1 _ hG.W hG.H hx hy c0 c1 hp).mono ?_; rintro e w4 ⟨rfl, hb4⟩; have b1 := blk_below hb4 b1; have b2 := blk_below hb4 b2; have b3 := blk_below hb4 b3; have x0 := cell_below hb4 x0; have y0 := cell_below hb4 y0; have hB := below_trans hB hb4)
          | (go_at_call 63; refine (asked_v hG hA.out g1 _ (hv.below hB) b1).mono ?_; rintro e w5 ⟨rfl, hb5⟩; have b1 := blk_below hb5 b1; have b2 := blk_below hb5 b2; have b3 := blk_below hb5 b3; have x0 := cell_below hb5 x0; have y0 := cell_below hb5 y0; have hB := below_trans hB hb5)
          | (go_at_call 69; refine (HRun.out g1 _ (hv.below hB) b1).mono ?_; rintro e w6 ⟨rfl, hb6⟩; have b1 := blk_below hb6 b1; have b2 := blk_below hb6 b2; have b3 := blk_below hb6 b3; have hB := below_trans hB hb6)
          | (with_reducible refine wpList_allocB 8 rfl rfl 40 rfl (.agg #[.int .i8 0, .int .i8 0]) #[.int .i8 0, .int .i8 0] (by kernel_rfl) rfl ?_; intro g8 w8 b8 hb8 _hs8; have hs8 : w.heap.size ≤ g8 := Nat.le_trans hB.size _hs8; have hB := below_trans hB hb8; have n1_8 : g1 < g8 := Nat.lt_of_lt_of_le (blk_lt b1) _hs8; have n2_8 : g2 < g8 := Nat.lt_of_lt_of_le (blk_lt b2) _hs8; have n3_8 : g3 < g8 := Nat.lt_of_lt_of_le (blk_lt b3) _hs8; have b1 := blk_below hb8 b1; have b2 := blk_below hb8 b2; have b3 := blk_below hb8 b3)
          | (with_reducible refine wpList_storeB rfl 40 _ _ rfl g8 0 (.agg #[.int .i8 (tx), .int .i8 (ty)]) #[.int .i8 (tx), .int .i8 (ty)] rfl rfl rfl _ 40 b8 (by kernel_rfl) (by simp [Value.oneCell']) (by simp) #[.int .i8 (tx), .int .i8 (ty)] (by simp) ?_; intro w9 b8 hS9; have b1 := hS9.blk b1 (by omega); have b2 := hS9.blk b2 (by omega); have b3 := hS9.blk b3 (by omega); have hB := hS9.below hB hs8))
        try simp only [Act.put, List.setIfInBounds_toArray, List.set_cons_zero, List.set_cons_succ]
        refine wp_region_held (S := fun w' => Kept [g3] w9 w') (by kernel_rfl) ?_
        have k0 : Kept [g3] w9 w9.drew := Kept.of_below (Below.refl _ _).drew
        refine anyH_val 0 25 _ (.agg #[.int .i8 tx, .int .i8 ty]) rfl rfl rfl (by kernel_rfl) (by kernel_rfl) (by kernel_rfl) (fun _ _ _ h => h) k0 (fun w' hw => run_load_row' _ 40 _ rfl g8 rfl 40 _ (0, 0) _ (hw.blk b8 (by simp; omega)) Try.underlying40 rfl (isz40 _ _)) ?_
        try simp only [Act.put, List.setIfInBounds_toArray, List.set_cons_zero, List.set_cons_succ]
        refine anyH_val 1 26 _ (.agg #[.int .i8 x, .int .i8 y]) rfl rfl rfl (by kernel_rfl) (by kernel_rfl) (by kernel_rfl) (fun _ _ _ h => h) k0 (fun w' hw => run_load_row' _ 40 _ rfl g2 rfl 40 _ (0, 0) _ (hw.blk b2 (by simp; omega)) Try.underlying40 rfl (isz40 _ _)) ?_
        try simp only [Act.put, List.setIfInBounds_toArray, List.set_cons_zero, List.set_cons_succ]
        refine anyH_val 3 28 _ (.agg #[.int .i8 tx, .int .i8 ty]) rfl rfl rfl (by kernel_rfl) (by kernel_rfl) (by kernel_rfl) (fun _ _ _ h => h) k0 (fun w' hw => run_load_row' _ 40 _ rfl g8 rfl 40 _ (0, 0) _ (hw.blk b8 (by simp; omega)) Try.underlying40 rfl (isz40 _ _)) ?_
        try simp only [Act.put, List.setIfInBounds_toArray, List.set_cons_zero, List.set_cons_succ]
        refine anyH_callN 2 27 _ (by kernel_rfl) rfl rfl rfl 56 _ _ rfl #[.pointer (some ⟨g1, 0, none⟩), .agg #[.int .i8 x, .int .i8 y]] (by simp only [List.map_toArray, List.map_cons, List.map_nil]; rfl) (by go_simp) ?_
        refine (heightS_is G gl hG x y hx9 hy9 g1 w9.drew (k0.blk b1 (by simp; omega))).mono ?_
        rintro e w10 ⟨rfl, hb10⟩
        have k1 := k0.trans (Kept.of_below hb10)
        refine ⟨_, rfl, k1, ?_⟩
        try simp only [Act.put, List.setIfInBounds_toArray, List.set_cons_zero, List.set_cons_succ]
        refine anyH_callN 4 29 _ (by kernel_rfl) rfl rfl rfl 56 _ _ rfl #[.pointer (some ⟨g1, 0, none⟩), .agg #[.int .i8 tx, .int .i8 ty]] (by simp only [List.map_toArray, List.map_cons, List.map_nil]; rfl) (by go_simp) ?_
        refine (heightS_is G gl hG tx ty htx hty g1 w10 (k1.blk b1 (by simp; omega))).mono ?_
        rintro e w11 ⟨rfl, hb11⟩
        have k2 := k1.trans (Kept.of_below hb11)
        refine ⟨_, rfl, k2, ?_⟩
        try simp only [Act.put, List.setIfInBounds_toArray, List.set_cons_zero, List.set_cons_succ]
        refine anyH_val 5 30 _ (.int .i64 (hAt G x y - hAt G tx ty)) rfl rfl rfl (by kernel_rfl) (by kernel_rfl) (by kernel_rfl) (fun _ _ _ h => h) k2 (fun w' hw => run_sub' _ _ _ rfl _ _ rfl rfl (by omega)) ?_
        try simp only [Act.put, List.setIfInBounds_toArray, List.set_cons_zero, List.set_cons_succ]
        refine anyH_store1 6 _ (by kernel_rfl) rfl rfl rfl 40 _ _ rfl g3 _ #[.int .i8 tx, .int .i8 ty] rfl rfl rfl _ 40 (blk_below hb11 (blk_below hb10 (blk_below (Below.refl _ _).drew b3))) (isz40 _ _) (by simp [Value.oneCell']) rfl ?_
        intro w22 b3 hS22
        have k3 := k2.trans (Kept.of_setB hS22 (by simp))
        refine ⟨k3, ?_⟩
        refine anyH_val 7 5 _ (.int .i64 (hAt G x y - hAt G tx ty)) rfl rfl rfl (by kernel_rfl) (by kernel_rfl) (by kernel_rfl) (fun _ _ _ h => h) k3 (fun w' hw => run_assign' _ _ rfl _ rfl) ?_
        try simp only [Act.put, List.setIfInBounds_toArray, List.set_cons_zero, List.set_cons_succ]
        refine anyH_val 8 6 _ (.int .i64 0) rfl rfl rfl (by kernel_rfl) (by kernel_rfl) (by kernel_rfl) (fun _ _ _ h => h) k3 (fun w' hw => run_assign' _ _ rfl _ rfl) ?_
        try simp only [Act.put, List.setIfInBounds_toArray, List.set_cons_zero, List.set_cons_succ]
        refine wpAnyH_done (by kernel_rfl) ?_ _
        try simp only [Act.put, List.setIfInBounds_toArray, List.set_cons_zero, List.set_cons_succ]
        go_wp2
        exact bodyPost_ret (results_ctt rfl g3 40 _ (0, 0) _ rfl b3 Try.underlying40 rfl (isz40 _ _)) rfl ⟨by rw [hF.out]; rfl, hB.trans (k3.below hB.size (by simp; omega))⟩
      | false =>
        have hF : Hid (fallR G x y = ⟨0, 0, 0, 6⟩) := by unfold fallR; rw [if_pos hV, if_pos hp, hr]; rfl
        have HR := Lib.hid hr
        clear hr
        have HRun := Lib.hid (fun g w' a b => l04Fall_v (gl := gl) hG hV hp HR.out g w' a b)
        go_enter Try.func28, Try.ntmps28
        go_wp2_with (first
          | (with_reducible refine wpList_box 2 rfl rfl 33 _ rfl (.agg (gc G gl)) rfl (gc G gl) rfl ?_; intro g1 w1 b1 hb1 _hs1; have hs1 : w.heap.size ≤ g1 := Nat.le_trans hB.size _hs1; have hB := below_trans hB hb1)
          | (with_reducible refine wpList_box 3 rfl rfl 40 _ rfl (.agg #[.int .i8 x, .int .i8 y]) rfl #[.int .i8 x, .int .i8 y] rfl ?_; intro g2 w2 b2 hb2 _hs2; have hs2 : w.heap.size ≤ g2 := Nat.le_trans hB.size _hs2; have hB := below_trans hB hb2; have n1_2 : g1 < g2 := Nat.lt_of_lt_of_le (blk_lt b1) _hs2; have b1 := blk_below hb2 b1)
          | (with_reducible refine wpList_allocB 4 rfl rfl 40 rfl (.agg #[.int .i8 0, .int .i8 0]) #[.int .i8 0, .int .i8 0] (by kernel_rfl) rfl ?_; intro g3 w3 b3 hb3 _hs3; have hs3 : w.heap.size ≤ g3 := Nat.le_trans hB.size _hs3; have hB := below_trans hB hb3; have n1_3 : g1 < g3 := Nat.lt_of_lt_of_le (blk_lt b1) _hs3; have n2_3 : g2 < g3 := Nat.lt_of_lt_of_le (blk_lt b2) _hs3; have b1 := blk_below hb3 b1; have b2 := blk_below hb3 b2;  have z2 := blk_two b2; obtain ⟨x0, y0⟩ := z2; have c0 := (blk_cell b1 0).trans (gc_0 _ _); have c1 := (blk_cell b1 1).trans (gc_1 _ _))
          | (go_at_call 68; refine (l04Is_t _ _ _ _ g1 _ hG.W hG.H hx hy c0 c1 hp).mono ?_; rintro e w4 ⟨rfl, hb4⟩; have b1 := blk_below hb4 b1; have b2 := blk_below hb4 b2; have b3 := blk_below hb4 b3; have x0 := cell_below hb4 x0; have y0 := cell_below hb4 y0; have hB := below_trans hB hb4)
          | (go_at_call 63; refine (asked_v hG hA.out g1 _ (hv.below hB) b1).mono ?_; rintro e w5 ⟨rfl, hb5⟩; have b1 := blk_below hb5 b1; have b2 := blk_below hb5 b2; have b3 := blk_below hb5 b3; have x0 := cell_below hb5 x0; have y0 := cell_below hb5 y0; have hB := below_trans hB hb5)
          | (go_at_call 69; refine (HRun.out g1 _ (hv.below hB) b1).mono ?_; rintro e w6 ⟨rfl, hb6⟩; have b1 := blk_below hb6 b1; have b2 := blk_below hb6 b2; have b3 := blk_below hb6 b3; have hB := below_trans hB hb6)
          | (with_reducible refine wpList_allocB 8 rfl rfl 40 rfl (.agg #[.int .i8 0, .int .i8 0]) #[.int .i8 0, .int .i8 0] (by kernel_rfl) rfl ?_; intro g8 w8 b8 hb8 _hs8; have hs8 : w.heap.size ≤ g8 := Nat.le_trans hB.size _hs8; have hB := below_trans hB hb8; have n1_8 : g1 < g8 := Nat.lt_of_lt_of_le (blk_lt b1) _hs8; have n2_8 : g2 < g8 := Nat.lt_of_lt_of_le (blk_lt b2) _hs8; have n3_8 : g3 < g8 := Nat.lt_of_lt_of_le (blk_lt b3) _hs8; have b1 := blk_below hb8 b1; have b2 := blk_below hb8 b2; have b3 := blk_below hb8 b3)
          | (with_reducible refine wpList_storeB rfl 40 _ _ rfl g8 0 (.agg #[.int .i8 ((runT G x y).1), .int .i8 ((runT G x y).2)]) #[.int .i8 ((runT G x y).1), .int .i8 ((runT G x y).2)] rfl rfl rfl _ 40 b8 (by kernel_rfl) (by simp [Value.oneCell']) (by simp) #[.int .i8 ((runT G x y).1), .int .i8 ((runT G x y).2)] (by simp) ?_; intro w9 b8 hS9; have b1 := hS9.blk b1 (by omega); have b2 := hS9.blk b2 (by omega); have b3 := hS9.blk b3 (by omega); have hB := hS9.below hB hs8)
          | (with_reducible refine wpList_storeB rfl 40 _ _ rfl g3 0 (.agg #[.int .i8 (0), .int .i8 (0)]) #[.int .i8 (0), .int .i8 (0)] rfl rfl rfl _ 40 b3 (by kernel_rfl) (by simp [Value.oneCell']) (by simp) #[.int .i8 (0), .int .i8 (0)] (by simp) ?_; intro w10 b3 hS10; have hB := hS10.below hB hs3))
        exact bodyPost_ret (results_ctt rfl g3 40 _ (0, 0) _ rfl b3 Try.underlying40 rfl (isz40 _ _)) rfl ⟨by rw [hF.out]; rfl, hB⟩
    · have hA : Hid (askC G false = 2) := by unfold askC; rw [if_pos hV]; rfl
      have hF : Hid (fallR G x y = ⟨0, 0, 0, 2⟩) := by unfold fallR; rw [if_pos hV, if_neg hp]; rfl
      go_enter Try.func28, Try.ntmps28
      go_wp2_with (first
        | (with_reducible refine wpList_box 2 rfl rfl 33 _ rfl (.agg (gc G gl)) rfl (gc G gl) rfl ?_; intro g1 w1 b1 hb1 _hs1; have hs1 : w.heap.size ≤ g1 := Nat.le_trans hB.size _hs1; have hB := below_trans hB hb1)
        | (with_reducible refine wpList_box 3 rfl rfl 40 _ rfl (.agg #[.int .i8 x, .int .i8 y]) rfl #[.int .i8 x, .int .i8 y] rfl ?_; intro g2 w2 b2 hb2 _hs2; have hs2 : w.heap.size ≤ g2 := Nat.le_trans hB.size _hs2; have hB := below_trans hB hb2; have n1_2 : g1 < g2 := Nat.lt_of_lt_of_le (blk_lt b1) _hs2; have b1 := blk_below hb2 b1)
        | (with_reducible refine wpList_allocB 4 rfl rfl 40 rfl (.agg #[.int .i8 0, .int .i8 0]) #[.int .i8 0, .int .i8 0] (by kernel_rfl) rfl ?_; intro g3 w3 b3 hb3 _hs3; have hs3 : w.heap.size ≤ g3 := Nat.le_trans hB.size _hs3; have hB := below_trans hB hb3; have n1_3 : g1 < g3 := Nat.lt_of_lt_of_le (blk_lt b1) _hs3; have n2_3 : g2 < g3 := Nat.lt_of_lt_of_le (blk_lt b2) _hs3; have b1 := blk_below hb3 b1; have b2 := blk_below hb3 b2;  have z2 := blk_two b2; obtain ⟨x0, y0⟩ := z2; have c0 := (blk_cell b1 0).trans (gc_0 _ _); have c1 := (blk_cell b1 1).trans (gc_1 _ _))
        | (go_at_call 68; refine (l04Is_f _ _ _ _ g1 _ hG.W hG.H hx hy c0 c1 hp).mono ?_; rintro e w4 ⟨rfl, hb4⟩; have b1 := blk_below hb4 b1; have b2 := blk_below hb4 b2; have b3 := blk_below hb4 b3; have x0 := cell_below hb4 x0; have y0 := cell_below hb4 y0; have hB := below_trans hB hb4)
        | (go_at_call 63; refine (asked_v hG hA.out g1 _ (hv.below hB) b1).mono ?_; rintro e w5 ⟨rfl, hb5⟩; have b1 := blk_below hb5 b1; have b2 := blk_below hb5 b2; have b3 := blk_below hb5 b3; have x0 := cell_below hb5 x0; have y0 := cell_below hb5 y0; have hB := below_trans hB hb5)
        | (with_reducible refine wpList_storeB rfl 40 _ _ rfl g3 0 (.agg #[.int .i8 (0), .int .i8 (0)]) #[.int .i8 (0), .int .i8 (0)] rfl rfl rfl _ 40 b3 (by kernel_rfl) (by simp [Value.oneCell']) (by simp) #[.int .i8 (0), .int .i8 (0)] (by simp) ?_; intro w10 b3 hS10; have hB := hS10.below hB hs3))
      exact bodyPost_ret (results_ctt rfl g3 40 _ (0, 0) _ rfl b3 Try.underlying40 rfl (isz40 _ _)) rfl ⟨by rw [hF.out]; rfl, hB⟩
  · have hA : ∀ b, Hid (askC G b = 1) := fun b => if_neg hV
    have hF : Hid (fallR G x y = ⟨0, 0, 0, 1⟩) := if_neg hV
    go_enter Try.func28, Try.ntmps28
    go_wp2_with (first
      | (with_reducible refine wpList_box 2 rfl rfl 33 _ rfl (.agg (gc G gl)) rfl (gc G gl) rfl ?_; intro g1 w1 b1 hb1 _hs1; have hs1 : w.heap.size ≤ g1 := Nat.le_trans hB.size _hs1; have hB := below_trans hB hb1)
      | (with_reducible refine wpList_box 3 rfl rfl 40 _ rfl (.agg #[.int .i8 x, .int .i8 y]) rfl #[.int .i8 x, .int .i8 y] rfl ?_; intro g2 w2 b2 hb2 _hs2; have hs2 : w.heap.size ≤ g2 := Nat.le_trans hB.size _hs2; have hB := below_trans hB hb2; have n1_2 : g1 < g2 := Nat.lt_of_lt_of_le (blk_lt b1) _hs2; have b1 := blk_below hb2 b1)
      | (with_reducible refine wpList_allocB 4 rfl rfl 40 rfl (.agg #[.int .i8 0, .int .i8 0]) #[.int .i8 0, .int .i8 0] (by kernel_rfl) rfl ?_; intro g3 w3 b3 hb3 _hs3; have hs3 : w.heap.size ≤ g3 := Nat.le_trans hB.size _hs3; have hB := below_trans hB hb3; have n1_3 : g1 < g3 := Nat.lt_of_lt_of_le (blk_lt b1) _hs3; have n2_3 : g2 < g3 := Nat.lt_of_lt_of_le (blk_lt b2) _hs3; have b1 := blk_below hb3 b1; have b2 := blk_below hb3 b2;  have z2 := blk_two b2; obtain ⟨x0, y0⟩ := z2; have c0 := (blk_cell b1 0).trans (gc_0 _ _); have c1 := (blk_cell b1 1).trans (gc_1 _ _))
      | (go_at_call 68; refine (l04Is_b _ _ _ _ g1 _ hG.W hG.H hx hy c0 c1).mono ?_; rintro e w4 ⟨rfl, hb4⟩; have b1 := blk_below hb4 b1; have b2 := blk_below hb4 b2; have b3 := blk_below hb4 b3; have x0 := cell_below hb4 x0; have y0 := cell_below hb4 y0; have hB := below_trans hB hb4)
      | (go_at_call 63; refine (asked_v hG (hA _).out g1 _ (hv.below hB) b1).mono ?_; rintro e w5 ⟨rfl, hb5⟩; have b1 := blk_below hb5 b1; have b2 := blk_below hb5 b2; have b3 := blk_below hb5 b3; have x0 := cell_below hb5 x0; have y0 := cell_below hb5 y0; have hB := below_trans hB hb5)
      | (with_reducible refine wpList_storeB rfl 40 _ _ rfl g3 0 (.agg #[.int .i8 (0), .int .i8 (0)]) #[.int .i8 (0), .int .i8 (0)] rfl rfl rfl _ 40 b3 (by kernel_rfl) (by simp [Value.oneCell']) (by simp) #[.int .i8 (0), .int .i8 (0)] (by simp) ?_; intro w10 b3 hS10; have hB := hS10.below hB hs3))
    exact bodyPost_ret (results_ctt rfl g3 40 _ (0, 0) _ rfl b3 Try.underlying40 rfl (isz40 _ _)) rfl ⟨by rw [hF.out]; rfl, hB⟩
end Go.Proofs.Ytkhheofgnhndbaa
