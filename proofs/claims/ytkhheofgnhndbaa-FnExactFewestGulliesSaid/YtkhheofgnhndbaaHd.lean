/- The law on the points at which water stands. -/
import Derived.Test.YtkhheofgnhndbaaHc
namespace Go.Proofs.Ytkhheofgnhndbaa
set_option linter.unusedVariables false
set_option linter.unusedSimpArgs false
open Go.RowKit
theorem stands_le {G : Gd} : (standsV G).length ≤ 1000 := by
  unfold standsV
  split
  · rename_i hV
    have h1 := pts_le hV
    have h2 : (stands G).length ≤ (ptsOf G).length := List.length_filter_le _ _
    omega
  · simp
theorem own_ge {B : Nat} {w : World} {v : Value} {xs : List (Int × Int)} (h : OwnC B w v xs) : ∀ g, v.ownBlock = some g → B ≤ g ∧ g < w.heap.size := fun g hg => World.ownsRow.lt h g hg
set_option maxHeartbeats 4000000 in
set_option maxRecDepth 100000 in
theorem lawStands_is (G : Gd) (gl : Value) (hG : GdOk G) (w : World) (hv : Cs w gl G.gul) :
    Calls Try.prog 13 #[.agg (gc G gl)] w (eqPost w true) := by
  have hlen := hG.len
  have hB := Below.refl w.heap.size w
  go_enter Try.func13, Try.ntmps13
  by_cases hbig : szG G.gul.length < 0
  · have hd : decide (szG G.gul.length < 0) = true := decide_eq_true hbig
    go_wp2_with (first
      | (with_reducible refine wpList_box 1 rfl rfl 28 _ rfl (.agg (gc G gl)) rfl (gc G gl) rfl ?_; intro g1 w1 b1 hb1 _hs1; have hs1 : w.heap.size ≤ g1 := Nat.le_trans hB.size _hs1; have hB := below_trans hB hb1)
      | (with_reducible refine wpList_load_row rfl 28 _ rfl g1 rfl 28 _ (0, 0) _ b1 Try.underlying28 rfl (lsize _ _ hlen) ?_)
      | (go_at_call 14; refine (szGround_is G gl hG _ (hv.below hB)).mono ?_; rintro e w2 ⟨rfl, hb2⟩; have hB := below_trans hB hb2))
    go_ret
    exact ⟨rfl, hB⟩
  · have hd : decide (szG G.gul.length < 0) = false := decide_eq_false hbig
    have hl : G.gul.length ≤ 1048576 := by unfold szG at hbig; split at hbig <;> omega
    clear hbig
    have hxl := stands_le (G := G)
    obtain ⟨xs, hxs⟩ : ∃ xs, xs = standsV G := ⟨_, rfl⟩
    obtain ⟨m, hm⟩ : ∃ m, m = okCode G := ⟨_, rfl⟩
    have HSp := Lib.hid (fun v w' h => specStands_is G v hG w' h)
    have HIm := Lib.hid (fun v w' h => implStands_is G v hG w' h)
    rw [← hxs] at hxl
    rw [← hxs, ← hm] at HSp HIm
    clear hxs hm
    have e2 : (m != m) = false := by simp
    go_wp2_with (first
      | (with_reducible refine wpList_box 1 rfl rfl 28 _ rfl (.agg (gc G gl)) rfl (gc G gl) rfl ?_; intro g1 w1 b1 hb1 _hs1; have hs1 : w.heap.size ≤ g1 := Nat.le_trans hB.size _hs1; have hB := below_trans hB hb1)
      | (go_at_call 14; refine (szGround_is G gl hG _ (hv.below hB)).mono ?_; rintro e w2 ⟨rfl, hb2⟩; have b1 := blk_below hb2 b1; have hB := below_trans hB hb2)
      | (with_reducible refine wpList_load_row rfl 28 _ rfl g1 rfl 28 _ (0, 0) _ b1 Try.underlying28 rfl (lsize _ _ hlen) ?_))
    refine (toGround_is G gl hG _ (hv.below hB) hl).mono ?_
    rintro e w3 ⟨v1, rfl, hM1, hb3⟩
    have hB := below_trans hB hb3
    have b1 := blk_below hb3 b1
    have hC1 := hM1.cs (by omega)
    go_wp2_with (first
      | (go_at_call 46; refine (HSp.out v1 _ hC1).mono ?_; rintro e w4 ⟨vw, rfl, hOw, hb4⟩; have b1 := blk_below hb4 b1; have hB := below_trans hB hb4)
      | (with_reducible refine wpList_load_row rfl 28 _ rfl g1 rfl 28 _ (0, 0) _ b1 Try.underlying28 rfl (lsize _ _ hlen) ?_))
    refine (toGround_is G gl hG _ (hv.below hB) hl).mono ?_
    rintro e w5 ⟨v2, rfl, hM2, hb5⟩
    have hlw4 : ∀ g, vw.ownBlock = some g → g < w4.heap.size := fun g hg => (own_ge hOw g hg).2
    have hO2 := hM2.own (by omega)
    have h2g : ∀ g, v2.ownBlock = some g → w4.heap.size ≤ g ∧ g < w5.heap.size := own_ge hO2
    have hB4 := hB.size
    have hB := below_trans hB hb5
    have b1l := blk_lt b1
    have b1 := blk_below hb5 b1
    have hOw := hOw.below hb5
    have hC2 := hM2.cs (by omega)
    obtain ⟨A2, c2, rfl, _, _, _⟩ := id hC2
    go_wp2_with (first
      | (with_reducible refine wpList_allocB 6 rfl rfl 33 rfl (.agg (gc gz (.slice none 0 0))) (gc gz (.slice none 0 0)) (by kernel_rfl) rfl ?_; intro g6 w6 b6 hb6 _hs6; have hs6 := Nat.le_trans hB.size _hs6; have hB := below_trans hB hb6; have n1_6 : g1 < g6 := Nat.lt_of_lt_of_le (blk_lt b1) _hs6; have b1 := blk_below hb6 b1)
      | (with_reducible refine wpList_storeB rfl 33 _ _ rfl g6 0 (.agg (gc G (.slice A2 G.gul.length c2))) (gc G (.slice A2 G.gul.length c2)) rfl rfl rfl _ 33 b6 (gsize _ _ hlen) (gc_one _ _ rfl) (by rw [gc_size _ _ hlen, gc_size _ _ (by simp [gz])]; simp) (gc G (.slice A2 G.gul.length c2)) (gc_whole _ _ _ _ hlen (by simp [gz])) ?_; intro w7 b6 hS7; have b1 := hS7.blk b1 (by omega); have hB := hS7.below hB hs6)
      | (with_reducible refine wpList_load_row rfl 33 _ rfl g6 rfl 33 _ (0, 0) _ b6 Try.underlying33 rfl (gsize _ _ hlen) ?_))
    have hb7 : Below w5.heap.size w5 w7 := hS7.below hb6 _hs6
    have hC2 := hC2.below hb7
    have hO2 := hO2.below hb7
    have hOw := hOw.below hb7
    have h67 := blk_lt b6
    refine (HIm.out _ _ hC2).mono ?_
    rintro e w8 ⟨vg, rfl, hOg, hb8⟩
    have hgg : ∀ g, vg.ownBlock = some g → w7.heap.size ≤ g ∧ g < w8.heap.size := own_ge hOg
    have b1 := blk_below hb8 b1
    have b6 := blk_below hb8 b6
    have hC2 := hC2.below hb8
    have hO2 := hO2.below hb8
    have hOw := hOw.below hb8
    have hB := below_trans hB hb8
    go_wp2_with (first
      | (go_at_call 35; refine (eqCellS_t xs vg vw _ hOg.cs hOw.cs (by omega)).mono ?_; rintro e w9 ⟨rfl, hb9⟩))
    have b1 := blk_below hb9 b1
    have b6 := blk_below hb9 b6
    have hC2 := hC2.below hb9
    have hO2 := hO2.below hb9
    have hOw := hOw.below hb9
    have hOg := hOg.below hb9
    have hB := below_trans hB hb9
    try simp only [Act.put, List.setIfInBounds_toArray, List.set_cons_zero, List.set_cons_succ]
    refine wp_region_held (S := fun w' => Below w9.heap.size w9 w') (by kernel_rfl) ?_
    refine anyH_val 0 41 _ (.agg (gc G (.slice A2 G.gul.length c2))) rfl rfl rfl (by kernel_rfl) (by kernel_rfl) (by kernel_rfl) (fun _ _ _ h => h) (Below.refl _ _).drew (fun w' hw => run_load_row' _ 33 _ rfl g6 rfl 33 _ (0, 0) _ (blk_below hw b6) Try.underlying33 rfl (gsize _ _ hlen)) ?_
    try simp only [Act.put, List.setIfInBounds_toArray, List.set_cons_zero, List.set_cons_succ]
    refine anyH_val 1 42 _ (.agg (gc G gl)) rfl rfl rfl (by kernel_rfl) (by kernel_rfl) (by kernel_rfl) (fun _ _ _ h => h) (Below.refl _ _).drew (fun w' hw => run_load_row' _ 28 _ rfl g1 rfl 28 _ (0, 0) _ (blk_below hw b1) Try.underlying28 rfl (lsize _ _ hlen)) ?_
    try simp only [Act.put, List.setIfInBounds_toArray, List.set_cons_zero, List.set_cons_succ]
    refine anyH_callN 2 43 _ (by kernel_rfl) rfl rfl rfl 16 _ _ rfl #[.agg (gc G gl)] (by simp only [List.map_toArray, List.map_cons, List.map_nil]; rfl) (by go_simp) ?_
    have hd9 : Below w9.heap.size w9 w9.drew := (Below.refl _ _).drew
    refine (toGround_is G gl hG w9.drew (hv.below (below_trans hB hd9)) hl).mono ?_
    rintro e w10 ⟨v3, rfl, hM3, hb10⟩
    have hb10' := below_trans hd9 hb10
    refine ⟨_, rfl, hb10', ?_⟩
    try simp only [Act.put, List.setIfInBounds_toArray, List.set_cons_zero, List.set_cons_succ]
    refine anyH_callN 3 44 _ (by kernel_rfl) rfl rfl rfl 18 _ _ rfl #[.agg (gc G (.slice A2 G.gul.length c2)), .agg (gc G v3)] (by simp only [List.map_toArray, List.map_cons, List.map_nil]; rfl) (by go_simp) ?_
    refine (eqGround_t G _ v3 hG _ (hC2.below hb10') (hM3.cs (by omega)) hl).mono ?_
    rintro e w11 ⟨rfl, hb11⟩
    have hb11' := below_trans hb10' hb11
    refine ⟨_, rfl, hb11', ?_⟩
    try simp only [Act.put, List.setIfInBounds_toArray, List.set_cons_zero, List.set_cons_succ]
    refine anyH_val 4 45 _ (.bool false) rfl rfl rfl (by kernel_rfl) (by kernel_rfl) (by kernel_rfl) (fun _ _ _ h => h) hb11' (fun w' hw => run_not' _ 4 _ rfl true rfl) ?_
    try simp only [Act.put, List.setIfInBounds_toArray, List.set_cons_zero, List.set_cons_succ]
    refine wpAnyH_done (by kernel_rfl) ?_ _
    have b1 := blk_below hb11' b1
    have b6 := blk_below hb11' b6
    have hO2 := hO2.below hb11'
    have hOw := hOw.below hb11'
    have hOg := hOg.below hb11'
    have hB := below_trans hB hb11'
    clear hC2 hC1
    have hk0 : decide (1 + 2 * (G.gul.length : Int) < 0) = false := decide_eq_false (by omega)
    have hn0 : decide (1 + 2 * (xs.length : Int) < 0) = false := decide_eq_false (by omega)
    have hn1 : (1 + 2 * (xs.length : Int) != 1 + 2 * (xs.length : Int)) = false := by simp
    have hs7 := hb7.size
    go_wp2_with (first
      | (with_reducible refine wpList_load_row rfl 33 _ rfl g6 rfl 33 _ (0, 0) _ b6 Try.underlying33 rfl (gsize _ _ hlen) ?_)
      | (go_at_call 26; refine (markGround_is G _ hG w4.heap.size _ hl hO2).mono ?_; rintro e w12 ⟨rfl, hgr⟩; have b1 := grown_blk hgr b1 (fun e => by have := (h2g g1 e).1; omega); have b6 := grown_blk hgr b6 (fun e => by have := (h2g g6 e).2; omega); have hOw := hOw.grown hgr (fun g hg e => by have := hlw4 g hg; have := (h2g g e).1; omega); have hOg := hOg.grown hgr (fun g hg e => by have := (hgg g hg).1; have := (h2g g e).2; omega); have hB := grown_below hB hgr hB.size (fun g e => by have := (h2g g e).1; omega))
      | (go_at_call 35; refine (eqCellS_t xs vg vw _ hOg.cs hOw.cs (by omega)).mono ?_; rintro e w13 ⟨rfl, hb13⟩; have b1 := blk_below hb13 b1; have b6 := blk_below hb13 b6; have hOw := hOw.below hb13; have hOg := hOg.below hb13; have hB := below_trans hB hb13))
    have hb5s := hb5.size
    refine (mark_is w7.heap.size vg xs _ (by omega) hOg).mono ?_
    rintro e w14 ⟨rfl, hOg, hT⟩
    have hgr := hT.grown
    have hgl : ∀ g, vg.ownBlock = some g → w7.heap.size ≤ g := fun g hg => (hgg g hg).1
    have b1 := grown_blk hgr b1 (fun e => by have := hgl g1 e; omega)
    have b6 := grown_blk hgr b6 (fun e => by have := hgl g6 e; omega)
    have hOw := hOw.grown hgr (fun g hg e => by have := hlw4 g hg; have := hgl g e; omega)
    have hB := grown_below hB hgr hB.size (fun g e => by have := hgl g e; omega)
    go_wp2_with (first
      | (go_at_call 41; refine (held_is vg xs.length _ hxl hOg.cs).mono ?_; rintro e w15 ⟨rfl, rfl⟩)
      | (with_reducible refine wpList_load_row rfl 28 _ rfl g1 rfl 28 _ (0, 0) _ b1 Try.underlying28 rfl (lsize _ _ hlen) ?_))
    refine (toGround_is G gl hG _ (hv.below hB) hl).mono ?_
    rintro e w16 ⟨v4, rfl, hM4, hb16⟩
    have hOw := hOw.below hb16
    have hOg := hOg.below hb16
    have hB := below_trans hB hb16
    go_wp2_with (first
      | (go_at_call 47; refine (HIm.out v4 _ (hM4.cs (by omega))).mono ?_; rintro e w17 ⟨vh, rfl, hOh, hb17⟩; have hOw := hOw.below hb17; have hOg := hOg.below hb17; have hB := below_trans hB hb17)
      | (go_at_call 35; refine (eqCellS_t xs vh vw _ hOh.cs hOw.cs (by omega)).mono ?_; rintro e w18 ⟨rfl, hb18⟩; have hOg := hOg.below hb18; have hB := below_trans hB hb18)
      | (go_at_call 41; refine (held_is vg xs.length _ hxl hOg.cs).mono ?_; rintro e w19 ⟨rfl, rfl⟩))
    go_ret
    exact ⟨rfl, hB⟩
end Go.Proofs.Ytkhheofgnhndbaa
