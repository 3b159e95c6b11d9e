/- The points of a ground that a function value takes. -/
import Derived.Test.YtkhheofgnhndbaaGe
namespace Go.Proofs.Ytkhheofgnhndbaa
set_option linter.unusedVariables false
set_option linter.unusedSimpArgs false
open Go.RowKit
/-- A function value that takes two numbers and answers as acc says. -/
structure PredN (f : Nat) (cs : Array Value) (B : Nat) (w : World) (W H : Nat) (acc : Int × Int → Bool) : Prop where
  enter : ∀ args w, (callFunc f args).run Try.prog w = .ok (.enter f args) w
  gives : ∀ x y : Nat, x < W → y < H → ∀ w', Below B w w' → Calls Try.prog f (#[.int .i64 x, .int .i64 y] ++ cs) w' (eqPost w' (acc ((x : Int), (y : Int))))
/-- A function value that takes a cell and answers as acc says. -/
structure PredC (f : Nat) (cs : Array Value) (B : Nat) (w : World) (W H : Nat) (acc : Int × Int → Bool) : Prop where
  enter : ∀ args w, (callFunc f args).run Try.prog w = .ok (.enter f args) w
  gives : ∀ x y : Nat, x < W → y < H → ∀ w', Below B w w' → Calls Try.prog f (#[.agg #[.int .i8 x, .int .i8 y]] ++ cs) w' (eqPost w' (acc ((x : Int), (y : Int))))
set_option maxHeartbeats 1000000 in
theorem cells_is (W H : Nat) (hW : W ≤ 12) (hH : H ≤ 12) (f : Nat) (cs : Array Value) (w : World) (acc : Int × Int → Bool) (hp : PredN f cs w.heap.size w W H acc) :
    Calls Try.prog 94 #[.agg #[.int .i8 W, .int .i8 H, .slice none 0 0], .func (.func f) #[] cs] w (ownPost w (rowsUp acc W H)) := by
  obtain ⟨heg, hgv⟩ := hp
  have HG := Lib.hid hgv
  clear hgv
  go_enter Try.func94, Try.ntmps94
  go_wp2_with (first
    | (with_reducible refine wpList_box 2 rfl rfl 97 _ rfl (.agg #[.int .i8 W, .int .i8 H, .slice none 0 0]) rfl #[.int .i8 W, .int .i8 H, .slice none 0 0] rfl ?_; intro g1 w1 b1 hb1 _hs1;  have hlt1 := blk_lt b1)
    | (with_reducible refine wpList_nilC 8 rfl rfl rfl ?_; intro v0 w2 hO0 hB0; have b1 := blk_below hB0 b1; have a0 : w2.cell? ⟨g1, 0, none⟩ = some (.int .i8 W) := (blk_cell b1 0).trans rfl; have a1 : w2.cell? ⟨g1, 1, none⟩ = some (.int .i8 H) := (blk_cell b1 1).trans rfl))
  go_loopw [5, 12] (fun v u wr => ∃ j : Nat, j ≤ H ∧ u = .int .i64 j ∧ OwnC w1.heap.size wr v (rowsUp acc W j) ∧ Below w1.heap.size w1 wr ∧ wr.cell? ⟨g1, 0, none⟩ = some (.int .i8 W)) (fun _ u _ => H - (intOf u).toNat)
  case atStart => exact ⟨0, Nat.zero_le _, rfl, hO0, hB0, a0⟩
  case round =>
    obtain ⟨j, hj, rfl, hO, hB, c0⟩ := hrel
    by_cases hlt : j < H
    · have hlt' : decide ((j : Int) < (H : Int)) = true := decide_eq_true (by omega)
      go_wp2
      obtain ⟨wo, hwo⟩ : ∃ wo : World, wo = wr := ⟨_, rfl⟩
      subst hwo
      go_loopw [5, 18] (fun v u wr => ∃ k : Nat, k ≤ W ∧ u = .int .i64 k ∧ OwnC w1.heap.size wr v (rowsUp acc W j ++ colsUp acc j k) ∧ Below w1.heap.size w1 wr ∧ wr.cell? ⟨g1, 0, none⟩ = some (.int .i8 W)) (fun _ u _ => W - (intOf u).toNat)
      case atStart => exact ⟨0, Nat.zero_le _, rfl, by rw [colsUp_zero, List.append_nil]; exact hO, hB, c0⟩
      case round =>
        obtain ⟨k, hk, rfl, hO2, hB2, c2⟩ := hrel
        by_cases hlk : k < W
        · have hlk' : decide ((k : Int) < (W : Int)) = true := decide_eq_true (by omega)
          have hle := up_le acc W j k (by omega) (by omega) (by omega)
          have hca := HG.out k j hlk hlt wr (hb1.trans (hB2.mono hb1.size))
          by_cases hacc : acc ((k : Int), (j : Int)) = true
          · rw [hacc] at hca
            go_wp2_with (first
              | (go_at_fn f; refine hca.mono ?_; rintro e w2 ⟨rfl, hb2⟩; have hO2 := hO2.below hb2; have hB2 := hB2.trans (hb2.mono hB2.size); have c2 := cell_below hb2 c2)
              | (at_builtin; refine wpList_appC rfl _ _ rfl w1.heap.size _ _ rfl hO2 hB2.size (by omega) k j rfl ?_; intro v' w3 hO3 hB3))
            go_roundw
            case rel => exact ⟨k + 1, by omega, by go_num, by rw [colsUp_t hacc, ← List.append_assoc]; exact hO3, hB2.trans hB3, (hB3.cell hlt1).trans c2⟩
            case measure => simp [intOf]; omega
          · rw [Bool.not_eq_true] at hacc
            rw [hacc] at hca
            go_wp2_with (first
              | (go_at_fn f; refine hca.mono ?_; rintro e w2 ⟨rfl, hb2⟩; have hO2 := hO2.below hb2; have hB2 := hB2.trans (hb2.mono hB2.size); have c2 := cell_below hb2 c2))
            go_roundw
            case rel => exact ⟨k + 1, by omega, by go_num, by rw [colsUp_f hacc]; exact hO2, hB2, c2⟩
            case measure => simp [intOf]; omega
        · obtain rfl : k = W := by omega
          go_wp2
          go_roundw
          case rel => exact ⟨j + 1, by omega, by go_num, by rw [rowsUp_succ]; exact hO2, hB2, c2⟩
          case measure => simp [intOf]; omega
    · obtain rfl : j = H := by omega
      go_wp2
      go_ret
      exact ⟨_, rfl, hO.lower hb1.size, hb1.trans (hB.mono hb1.size)⟩
theorem wrap_i8 (n : Int) (h : -128 ≤ n) (h' : n ≤ 127) : IntKind.i8.wrap n = n := by
  simp [IntKind.wrap, IntKind.signed, IntKind.bits]; omega
theorem points1_is (f : Nat) (cs : Array Value) (B : Nat) (w : World) (W H : Nat) (hW : W ≤ 12) (hH : H ≤ 12) (acc : Int × Int → Bool) (hp : PredC f cs B w W H acc) (g : Nat) (hg : w.heap[g]? = some (.cells #[.func (.func f) #[] cs] 70 (0, 0))) (hgB : g < B) :
    PredN 95 #[.pointer (some ⟨g, 0, none⟩)] B w W H acc := by
  refine ⟨by go_simp, fun x y hx hy w' hb => ?_⟩
  have hg' := (hb.block g hgB).trans hg
  have a0 : w'.cell? ⟨g, 0, none⟩ = some (.func (.func f) #[] cs) := (blk_cell hg' 0).trans rfl
  have eg := hp.enter
  have hca := hp.gives x y hx hy w' hb
  have Hx : IntKind.i8.wrap (x : Int) = x := wrap_i8 _ (by omega) (by omega)
  have Hy : IntKind.i8.wrap (y : Int) = y := wrap_i8 _ (by omega) (by omega)
  go_enter Try.func95, Try.ntmps95
  go_wp2_with (first
    | (go_at_fn f; refine hca.mono ?_; rintro e w2 ⟨rfl, hb2⟩))
  go_ret
  exact ⟨rfl, hb2⟩
set_option maxRecDepth 100000 in
theorem points_is (G : Gd) (gl : Value) (hG : GdOk G) (hV : GValid G) (f : Nat) (cs : Array Value) (w : World) (acc : Int × Int → Bool) (hp : PredC f cs w.heap.size w G.W.toNat G.H.toNat acc) :
    Calls Try.prog 57 #[.agg (gc G gl), .func (.func f) #[] cs] w (ownPost w (rowsUp acc G.W.toNat G.H.toNat)) := by
  obtain ⟨hW1, hW2⟩ := hV.W
  obtain ⟨hH1, hH2⟩ := hV.H
  have hlen := hG.len
  obtain ⟨W, hW⟩ : ∃ W : Nat, G.W = (W : Int) := ⟨G.W.toNat, by omega⟩
  obtain ⟨H, hH⟩ : ∃ H : Nat, G.H = (H : Int) := ⟨G.H.toNat, by omega⟩
  have eW : G.W.toNat = W := by omega
  have eH : G.H.toNat = H := by omega
  have hfr := frame_is G gl
  rw [hW, hH] at hfr
  rw [eW, eH] at hp ⊢
  rw [hW] at hW1 hW2
  rw [hH] at hH1 hH2
  clear eW eH hW hH
  go_enter Try.func57, Try.ntmps57
  go_wp2_with (first
    | (with_reducible refine wpList_box 2 rfl rfl 33 _ rfl (.agg (gc G gl)) rfl (gc G gl) rfl ?_; intro g1 w1 b1 hb1 _hs1)
    | (with_reducible refine wpList_box 3 rfl rfl 70 _ rfl (.func (.func f) #[] cs) rfl #[.func (.func f) #[] cs] rfl ?_; intro g2 w2 b2 hb2 _hs2; have b1 := blk_below hb2 b1)
    | (with_reducible refine wpList_load_row rfl 33 _ rfl g1 rfl 33 _ (0, 0) _ b1 Try.underlying33 rfl (gsize _ _ hlen) ?_)
    | (go_at_call 89; refine (hfr _).mono ?_; rintro e w3 ⟨rfl, hb3⟩)
    | (go_at_call 94; refine (cells_is W H (by omega) (by omega) 95 _ _ acc (points1_is f cs _ _ W H (by omega) (by omega) acc ⟨hp.enter, fun x y hx hy w' hb => hp.gives x y hx hy w' (((hb1.trans (hb2.mono hb1.size)).trans (hb3.mono (hb1.trans (hb2.mono hb1.size)).size)).trans (hb.mono (((hb1.trans (hb2.mono hb1.size)).trans (hb3.mono (hb1.trans (hb2.mono hb1.size)).size)).size)))⟩ g2 (blk_below hb3 b2) (blk_lt (blk_below hb3 b2)))).mono ?_; rintro e w4 ⟨v, rfl, hO, hb4⟩))
  have hB := below_trans (below_trans hb1 hb2) hb3
  go_ret
  exact ⟨_, rfl, hO.lower hB.size, below_trans hB hb4⟩
theorem PredC.step {f : Nat} {cs : Array Value} {w w1 : World} {W H : Nat} {acc : Int × Int → Bool} (h : PredC f cs w.heap.size w W H acc) (hb : Below w.heap.size w w1) : PredC f cs w1.heap.size w1 W H acc :=
  ⟨h.enter, fun x y hx hy w' hb' => h.gives x y hx hy w' (hb.trans (hb'.mono hb.size))⟩
set_option linter.unusedVariables false in
theorem always58 (B : Nat) (w : World) (W H : Nat) : PredC 58 #[] B w W H (fun _ => true) := by
  refine ⟨by go_simp, fun x y hx hy w' hb => ?_⟩
  go_enter Try.func58, Try.ntmps58
  go_wp2
  go_ret
  exact ⟨rfl, (Below.refl _ _).alloc (Nat.le_refl _) _⟩
set_option linter.unusedVariables false in
theorem always62 (B : Nat) (w : World) (W H : Nat) : PredC 62 #[] B w W H (fun _ => true) := by
  refine ⟨by go_simp, fun x y hx hy w' hb => ?_⟩
  go_enter Try.func62, Try.ntmps62
  go_wp2
  go_ret
  exact ⟨rfl, (Below.refl _ _).alloc (Nat.le_refl _) _⟩
theorem bit_is (b : Bool) (w : World) : Calls Try.prog 60 #[.bool b] w fun e w' => e = .returned (.int .i64 (if b then 1 else 0)) ∧ w = w' := by
  cases b
  · go_enter Try.func60, Try.ntmps60
    go_wp2
    go_ret
    exact ⟨rfl, rfl⟩
  · go_enter Try.func60, Try.ntmps60
    go_wp2
    go_ret
    exact ⟨rfl, rfl⟩
theorem heightS_is (G : Gd) (gl : Value) (hG : GdOk G) (x y : Int) (hx : 0 ≤ x ∧ x < 9) (hy : 0 ≤ y ∧ y < 9) (g : Nat) (w : World) (hb : w.heap[g]? = some (.cells (gc G gl) 33 (0, 0))) :
    Calls Try.prog 56 #[.pointer (some ⟨g, 0, none⟩), .agg #[.int .i8 x, .int .i8 y]] w fun e w' => e = .returned (.int .i64 (hAt G x y)) ∧ Below w.heap.size w w' := by
  obtain ⟨hx1, hx2⟩ := hx
  obtain ⟨hy1, hy2⟩ := hy
  go_enter Try.func56, Try.ntmps56
  go_wp2_with (first
    | (with_reducible refine wpList_box 3 rfl rfl 40 _ rfl (.agg #[.int .i8 x, .int .i8 y]) rfl #[.int .i8 x, .int .i8 y] rfl ?_; intro g2 w2 b2 hb2 _hs2))
  obtain ⟨hh1, hh2⟩ := hAt_ok hG x y
  have b1' := blk_below hb2 hb
  have c0 := ext_cell (v := .int .i8 x) ((blk_cell b2 0).trans rfl)
  have c1 := ext_cell (v := .int .i8 y) ((blk_cell b2 1).trans rfl)
  have cc := ext_cell ((blk_cell b1' _).trans (gc_h G gl hG.len x y hx1 hx2 hy1 hy2))
  try simp only [Act.put, List.setIfInBounds_toArray, List.set_cons_zero, List.set_cons_succ]
  refine wp_region_ext (by kernel_rfl) (by kernel_rfl) ?_
  repeat (first
    | go_big_quiet_skip
    | (go_big_quiet_want
       go_big_quiet_op
       first
         | go_big_quiet_on))
  refine wpQuiet_nil ?_
  intro w3 hb3
  go_wp2
  go_ret
  exact ⟨rfl, below_trans hb2 hb3⟩
end Go.Proofs.Ytkhheofgnhndbaa
