/- The law on whether a ground is valid. -/
import Derived.Test.YtkhheofgnhndbaaGa
namespace Go.Proofs.Ytkhheofgnhndbaa
set_option linter.unusedVariables false
set_option linter.unusedSimpArgs false
open Go.RowKit
set_option linter.unusedSimpArgs false
theorem lsize (G : Gd) (gl : Value) (h : G.hs.length = 81) : (Try.prog.info? 28).map (·.size) = some (gc G gl).size := by
  rw [gc_size G gl h]; kernel_rfl
open Classical in
set_option maxHeartbeats 2000000 in
set_option maxRecDepth 100000 in
theorem lawValid_is (G : Gd) (gl : Value) (hG : GdOk G) (w : World) (hv : Cs w gl G.gul) :
    Calls Try.prog 3 #[.agg (gc G gl)] w (eqPost w true) := by
  have hlen := hG.len
  go_enter Try.func3, Try.ntmps3
  by_cases hbig : szG G.gul.length < 0
  · have hd : decide (szG G.gul.length < 0) = true := decide_eq_true hbig
    go_wp2_with (first
      | (with_reducible refine wpList_box 1 rfl rfl 28 _ rfl (.agg (gc G gl)) rfl (gc G gl) rfl ?_; intro g1 w1 b1 hb1 _hs1)
      | (with_reducible refine wpList_load_row rfl 28 _ rfl g1 rfl 28 _ (0, 0) _ b1 Try.underlying28 rfl (lsize _ _ hlen) ?_)
      | (go_at_call 14; refine (szGround_is G gl hG _ (hv.below hb1)).mono ?_; rintro e w2 ⟨rfl, hb2⟩))
    go_ret
    exact ⟨rfl, below_trans hb1 hb2⟩
  · have hd : decide (szG G.gul.length < 0) = false := decide_eq_false hbig
    have hl : G.gul.length ≤ 1048576 := by unfold szG at hbig; split at hbig <;> omega
    clear hbig
    obtain ⟨r, hr⟩ : ∃ r : Bool, r = true ↔ GValid G := ⟨decide (GValid G), by simp⟩
    have HR := Lib.hid hr
    have hrr : (r != r) = false := by simp
    clear hr
    go_wp2_with (first
      | (with_reducible refine wpList_box 1 rfl rfl 28 _ rfl (.agg (gc G gl)) rfl (gc G gl) rfl ?_; intro g1 w1 b1 hb1 _hs1)
      | (go_at_call 14; refine (szGround_is G gl hG _ (hv.below hb1)).mono ?_; rintro e w2 ⟨rfl, hb2⟩; have b1 := blk_below hb2 b1)
      | (with_reducible refine wpList_load_row rfl 28 _ rfl g1 rfl 28 _ (0, 0) _ b1 Try.underlying28 rfl (lsize _ _ hlen) ?_))
    have hB2 := below_trans hb1 hb2
    refine (toGround_is G gl hG _ (hv.below hB2) hl).mono ?_
    rintro e w3 ⟨v1, rfl, hM1, hb3⟩
    have hB3 := below_trans hB2 hb3
    have b1 := blk_below hb3 b1
    have hC1 := hM1.cs (by omega)
    go_wp2_with (first
      | (go_at_call 15; refine (specValid_is G v1 hG _ hC1 r HR.out).mono ?_; rintro e w4 ⟨rfl, hb4⟩; have b1 := blk_below hb4 b1)
      | (with_reducible refine wpList_load_row rfl 28 _ rfl g1 rfl 28 _ (0, 0) _ b1 Try.underlying28 rfl (lsize _ _ hlen) ?_))
    have hB4 := below_trans hB3 hb4
    refine (toGround_is G gl hG _ (hv.below hB4) hl).mono ?_
    rintro e w5 ⟨v2, rfl, hM2, hb5⟩
    have hB5 := below_trans hB4 hb5
    have b1 := blk_below hb5 b1
    have hC2 := hM2.cs (by omega)
    obtain ⟨A2, c2, rfl, _, _, _⟩ := id hC2
    go_wp2_with (first
      | (with_reducible refine wpList_allocB 5 rfl rfl 33 rfl (.agg (gc gz (.slice none 0 0))) (gc gz (.slice none 0 0)) (by kernel_rfl) rfl ?_; intro g6 w6 b6 hb6 _hs6; have n1_6 : g1 < g6 := Nat.lt_of_lt_of_le (blk_lt b1) _hs6; have b1 := blk_below hb6 b1)
      | (with_reducible refine wpList_storeB rfl 33 _ _ rfl g6 0 (.agg (gc G (.slice A2 G.gul.length c2))) (gc G (.slice A2 G.gul.length c2)) rfl rfl rfl _ 33 b6 (gsize _ _ hlen) (gc_one _ _ rfl) (by rw [gc_size _ _ hlen, gc_size _ _ (by simp [gz])]; simp) (gc G (.slice A2 G.gul.length c2)) (gc_whole _ _ _ _ hlen (by simp [gz])) ?_; intro w7 b7 hS7; have b1 := hS7.blk b1 (by omega))
      | (with_reducible refine wpList_load_row rfl 33 _ rfl g6 rfl 33 _ (0, 0) _ b7 Try.underlying33 rfl (gsize _ _ hlen) ?_))
    have hb7 : Below w5.heap.size w5 w7 := hS7.below hb6 _hs6
    have hC2 := hC2.below hb7
    have hB7 := below_trans hB5 hb7
    refine (implValid_is G _ hG _ hC2 r HR.out).mono ?_
    rintro e w8 ⟨rfl, hb8⟩
    have b1 := blk_below hb8 b1
    have b7 := blk_below hb8 b7
    have hC2 := hC2.below hb8
    have hB8 := below_trans hB7 hb8
    go_wp2
    try simp only [Act.put, List.setIfInBounds_toArray, List.set_cons_zero, List.set_cons_succ]
    refine wp_region_held (S := fun w' => Below w8.heap.size w8 w') (by kernel_rfl) ?_
    refine anyH_take 0 _ (.agg (gc G (.slice A2 G.gul.length c2))) rfl rfl (by kernel_rfl) (by kernel_rfl) (by kernel_rfl) (fun _ _ _ h => h) (Below.refl _ _).drew (fun w' hw => run_load_row' _ 33 _ rfl g6 rfl 33 _ (0, 0) _ (blk_below hw b7) Try.underlying33 rfl (gsize _ _ hlen)) ?_
    refine anyH_take 1 _ (.agg (gc G gl)) rfl rfl (by kernel_rfl) (by kernel_rfl) (by kernel_rfl) (fun _ _ _ h => h) (Below.refl _ _).drew (fun w' hw => run_load_row' _ 28 _ rfl g1 rfl 28 _ (0, 0) _ (blk_below hw b1) Try.underlying28 rfl (lsize _ _ hlen)) ?_
    refine anyH_call 2 _ (by kernel_rfl) rfl rfl 16 _ _ rfl #[.agg (gc G gl)] (by simp only [List.map_toArray, List.map_cons, List.map_nil]; rfl) (by go_simp) ?_
    have hd8 : Below w8.heap.size w8 w8.drew := (Below.refl _ _).drew
    refine (toGround_is G gl hG w8.drew (hv.below (below_trans hB8 hd8)) hl).mono ?_
    rintro e w9 ⟨v3, rfl, hM3, hb9⟩
    have hb9' := below_trans hd8 hb9
    refine ⟨_, rfl, hb9', ?_⟩
    refine anyH_call 3 _ (by kernel_rfl) rfl rfl 18 _ _ rfl #[.agg (gc G (.slice A2 G.gul.length c2)), .agg (gc G v3)] (by simp only [List.map_toArray, List.map_cons, List.map_nil]; rfl) (by go_simp) ?_
    refine (eqGround_t G _ v3 hG _ (hC2.below hb9') (hM3.cs (by omega)) hl).mono ?_
    rintro e w10 ⟨rfl, hb10⟩
    have hb10' := below_trans hb9' hb10
    refine ⟨_, rfl, hb10', ?_⟩
    refine anyH_take 4 _ (.bool false) rfl rfl (by kernel_rfl) (by kernel_rfl) (by kernel_rfl) (fun _ _ _ h => h) hb10' (fun w' hw => run_not' _ 4 _ rfl true rfl) ?_
    refine wpAnyH_done (by kernel_rfl) ?_ _
    simp only [Act.put, List.setIfInBounds_toArray, List.set_cons_zero, List.set_cons_succ]
    go_wp2
    go_ret
    exact ⟨rfl, below_trans hB8 hb10'⟩
end Go.Proofs.Ytkhheofgnhndbaa
