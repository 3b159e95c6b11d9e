/- What a valid ground is; the reference's answer. -/
import Derived.Test.YtkhheofgnhndbaaG7
namespace Go.Proofs.Ytkhheofgnhndbaa
set_option linter.unusedVariables false
set_option linter.unusedSimpArgs false
open Go.RowKit
def hN (G : Gd) (x y : Nat) : Int := G.hs.getD (y * 9 + x) 0
theorem hN_ok {G : Gd} (hG : GdOk G) (x y : Nat) : -32768 ≤ hN G x y ∧ hN G x y ≤ 32767 := hAt_ok hG x y
theorem gc_hN (G : Gd) (gl : Value) (h : G.hs.length = 81) (x y : Nat) (hx : x < 9) (hy : y < 9) : (gc G gl)[2 + y * 9 + x]? = some (.int .i16 (hN G x y)) := gc_h G gl h x y (by omega) (by omega) (by omega) (by omega)
def hOK (G : Gd) (x y : Nat) : Prop := 0 ≤ hN G x y ∧ hN G x y ≤ 200 ∧ (hN G x y ≠ 0 → isPt G.W G.H x y)
def gAt (G : Gd) (i : Nat) : Int × Int := G.gul.getD i (0, 0)
def gOK (G : Gd) (i : Nat) : Prop := isPt G.W G.H (gAt G i).1 (gAt G i).2 ∧ (0 < i → befC (gAt G (i - 1)).1 (gAt G (i - 1)).2 (gAt G i).1 (gAt G i).2)
/-- A valid ground. -/
structure GValid (G : Gd) : Prop where
  W : 1 ≤ G.W ∧ G.W ≤ 9
  H : 1 ≤ G.H ∧ G.H ≤ 9
  n : G.gul.length ≤ 8
  h : ∀ y x, y < 9 → x < 9 → hOK G x y
  g : ∀ i, i < G.gul.length → gOK G i
set_option maxHeartbeats 1000000 in
theorem eqGround_t (G : Gd) (gl gm : Value) (hG : GdOk G) (w : World) (hv : Cs w gl G.gul) (hu : Cs w gm G.gul) (hl : G.gul.length ≤ 1048576) :
    Calls Try.prog 18 #[.agg (gc G gl), .agg (gc G gm)] w (eqPost w true) := by
  go_enter Try.func18, Try.ntmps18
  have e1 : (G.W != G.W) = false := by simp
  have e2 : (G.H != G.H) = false := by simp
  have hlen := hG.len
  go_wp2_with (first
    | (with_reducible refine wpList_box 2 rfl rfl 33 _ rfl (.agg (gc G gl)) rfl (gc G gl) rfl ?_; intro g1 w1 b1 hb1 _hs1)
    | (with_reducible refine wpList_box 3 rfl rfl 33 _ rfl (.agg (gc G gm)) rfl (gc G gm) rfl ?_; intro g2 w2 b2 hb2 _hs2; have n1_2 : g1 < g2 := Nat.lt_of_lt_of_le (blk_lt b1) _hs2; have b1 := blk_below hb2 b1;  have a0 := (blk_cell b1 0).trans (gc_0 _ _); have a1 := (blk_cell b1 1).trans (gc_1 _ _); have a83 := (blk_cell b1 83).trans (gc_83 _ _ hlen); have d0 := (blk_cell b2 0).trans (gc_0 _ _); have d1 := (blk_cell b2 1).trans (gc_1 _ _); have d83 := (blk_cell b2 83).trans (gc_83 _ _ hlen); have r1 : w2.rangeAt g1 2 (i16s G.hs) := range_of_blk b1 _ (fun k v h => gc_seg _ _ k v h); have r2 : w2.rangeAt g2 2 (i16s G.hs) := range_of_blk b2 _ (fun k v h => gc_seg _ _ k v h))
    | (with_reducible refine wpList_load_mid rfl 25 _ rfl g1 2 rfl (i16s G.hs) _ r1 Try.underlying25 rfl (by rw [i16s_len, hlen]; kernel_rfl) ?_)
    | (with_reducible refine wpList_load_mid rfl 25 _ rfl g2 2 rfl (i16s G.hs) _ r2 Try.underlying25 rfl (by rw [i16s_len, hlen]; kernel_rfl) ?_)
    | (go_at_call 53; refine (eqRows_t _ hlen _).mono ?_; rintro e w3 ⟨rfl, hb3⟩; have a83 := cell_below hb3 a83; have d83 := cell_below hb3 d83)
    | (go_at_call 35; refine (eqCellS_t G.gul gl gm _ (hv.below (below_trans (below_trans hb1 hb2) hb3)) (hu.below (below_trans (below_trans hb1 hb2) hb3)) hl).mono ?_; rintro e w4 ⟨rfl, hb4⟩))
  go_ret
  exact ⟨rfl, below_trans (below_trans (below_trans hb1 hb2) hb3) hb4⟩
def szG (n : Nat) : Int := if (1048576 : Int) - n < 0 then -1 else 1048576 - n
set_option maxHeartbeats 400000 in
theorem szGround_is (G : Gd) (gl : Value) (hG : GdOk G) (w : World) (hv : Cs w gl G.gul) :
    Calls Try.prog 14 #[.agg (gc G gl), .int .i64 1048576] w fun e w' => e = .returned (.int .i64 (szG G.gul.length)) ∧ Below w.heap.size w w' := by
  have hlen := hG.len
  go_enter Try.func14, Try.ntmps14
  by_cases h : (1048576 : Int) - G.gul.length < 0
  · have e : szG G.gul.length = -1 := if_pos h
    rw [e]
    go_wp2_with (first
      | (with_reducible refine wpList_box 2 rfl rfl 28 _ rfl (.agg (gc G gl)) rfl (gc G gl) rfl ?_; intro g1 w1 b1 hb1 _hs1;  have a83 := (blk_cell b1 83).trans (gc_83 _ _ hlen))
      | (go_at_call 31; refine (szCellS_is G.gul gl _ (hv.below hb1) (-1) (if_pos h)).mono ?_; rintro e w3 ⟨rfl, rfl⟩))
    go_ret
    exact ⟨rfl, hb1⟩
  · have e : szG G.gul.length = 1048576 - G.gul.length := if_neg h
    rw [e]
    go_wp2_with (first
      | (with_reducible refine wpList_box 2 rfl rfl 28 _ rfl (.agg (gc G gl)) rfl (gc G gl) rfl ?_; intro g1 w1 b1 hb1 _hs1;  have a83 := (blk_cell b1 83).trans (gc_83 _ _ hlen))
      | (go_at_call 31; refine (szCellS_is G.gul gl _ (hv.below hb1) (1048576 - G.gul.length) (if_neg h)).mono ?_; rintro e w3 ⟨rfl, rfl⟩))
    go_ret
    exact ⟨rfl, hb1⟩
end Go.Proofs.Ytkhheofgnhndbaa
