/- The law on the steepest fall. -/
import Derived.Test.YtkhheofgnhndbaaGr
namespace Go.Proofs.Ytkhheofgnhndbaa
set_option linter.unusedVariables false
set_option linter.unusedSimpArgs false
open Go.RowKit
theorem blk_two {w : World} {g : Nat} {x y : Int} (h : w.heap[g]? = some (.cells #[.int .i8 x, .int .i8 y] 40 (0, 0))) : w.cell? ⟨g, 0, none⟩ = some (.int .i8 x) ∧ w.cell? ⟨g, 1, none⟩ = some (.int .i8 y) := ⟨(blk_cell h 0).trans rfl, (blk_cell h 1).trans rfl⟩
set_option maxHeartbeats 2000000 in
set_option maxRecDepth 100000 in
theorem lawSteep_is (G : Gd) (gl : Value) (hG : GdOk G) (w : World) (hv : Cs w gl G.gul) :
    Calls Try.prog 5 #[.agg (gc G gl)] w (eqPost w true) := by
  have hlen := hG.len
  have hB := Below.refl w.heap.size w
  go_enter Try.func5, Try.ntmps5
  by_cases hbig : szG G.gul.length < 0
  · have hd : decide (szG G.gul.length < 0) = true := decide_eq_true hbig
    go_wp2_with (first
      | (with_reducible refine wpList_box 1 rfl rfl 28 _ rfl (.agg (gc G gl)) rfl (gc G gl) rfl ?_; intro g1 w1 b1 hb1 _hs1; have hs1 : w.heap.size ≤ g1 := Nat.le_trans hB.size _hs1; have hB := below_trans hB hb1)
      | (with_reducible refine wpList_load_row rfl 28 _ rfl g1 rfl 28 _ (0, 0) _ b1 Try.underlying28 rfl (lsize _ _ hlen) ?_)
      | (go_at_call 14; refine (szGround_is G gl hG _ (hv.below hB)).mono ?_; rintro e w2 ⟨rfl, hb2⟩; have hB := below_trans hB hb2))
    go_ret
    exact ⟨rfl, hB⟩
  · have hd : decide (szG G.gul.length < 0) = false := decide_eq_false hbig
    have hl : G.gul.length ≤ 1048576 := by unfold szG at hbig; split at hbig <;> omega
    clear hbig
    go_wp2_with (first
      | (with_reducible refine wpList_box 1 rfl rfl 28 _ rfl (.agg (gc G gl)) rfl (gc G gl) rfl ?_; intro g1 w1 b1 hb1 _hs1; have hs1 : w.heap.size ≤ g1 := Nat.le_trans hB.size _hs1; have hB := below_trans hB hb1)
      | (go_at_call 14; refine (szGround_is G gl hG _ (hv.below hB)).mono ?_; rintro e w2 ⟨rfl, hb2⟩; have b1 := blk_below hb2 b1; have hB := below_trans hB hb2)
      | (with_reducible refine wpList_load_row rfl 28 _ rfl g1 rfl 28 _ (0, 0) _ b1 Try.underlying28 rfl (lsize _ _ hlen) ?_))
    refine (toGround_is G gl hG _ (hv.below hB) hl).mono ?_
    rintro e w3 ⟨v1, rfl, hM1, hb3⟩
    have hB := below_trans hB hb3
    have b1 := blk_below hb3 b1
    have hC1 := hM1.cs (by omega)
    go_wp2_with (first
      | (go_at_call 21; refine (specSteep_is G v1 hG _ hC1).mono ?_; rintro e w4 ⟨⟨s, m, rfl, hnm⟩, hb4⟩; have b1 := blk_below hb4 b1; have hB := below_trans hB hb4)
      | (with_reducible refine wpList_allocB 4 rfl rfl 40 rfl (.agg #[.int .i8 0, .int .i8 0]) #[.int .i8 0, .int .i8 0] (by kernel_rfl) rfl ?_; intro g4 w4 b4 hb4 _hs4; have hs4 : w.heap.size ≤ g4 := Nat.le_trans hB.size _hs4; have hB := below_trans hB hb4; have n1_4 : g1 < g4 := Nat.lt_of_lt_of_le (blk_lt b1) _hs4; have b1 := blk_below hb4 b1)
      | (with_reducible refine wpList_allocB 5 rfl rfl 40 rfl (.agg #[.int .i8 0, .int .i8 0]) #[.int .i8 0, .int .i8 0] (by kernel_rfl) rfl ?_; intro g5 w5 b5 hb5 _hs5; have hs5 : w.heap.size ≤ g5 := Nat.le_trans hB.size _hs5; have hB := below_trans hB hb5; have n1_5 : g1 < g5 := Nat.lt_of_lt_of_le (blk_lt b1) _hs5; have n4_5 : g4 < g5 := Nat.lt_of_lt_of_le (blk_lt b4) _hs5; have b1 := blk_below hb5 b1; have b4 := blk_below hb5 b4)
      | (with_reducible refine wpList_storeB rfl 40 _ _ rfl g4 0 (.agg #[.int .i8 (s.fx), .int .i8 (s.fy)]) #[.int .i8 (s.fx), .int .i8 (s.fy)] rfl rfl rfl _ 40 b4 (by kernel_rfl) (by simp [Value.oneCell']) (by simp) #[.int .i8 (s.fx), .int .i8 (s.fy)] (by simp) ?_; intro w40 b4 hS40; have b1 := hS40.blk b1 (by omega); have b5 := hS40.blk b5 (by omega); have hB := hS40.below hB hs4)
      | (with_reducible refine wpList_storeB rfl 40 _ _ rfl g5 0 (.agg #[.int .i8 (s.tx), .int .i8 (s.ty)]) #[.int .i8 (s.tx), .int .i8 (s.ty)] rfl rfl rfl _ 40 b5 (by kernel_rfl) (by simp [Value.oneCell']) (by simp) #[.int .i8 (s.tx), .int .i8 (s.ty)] (by simp) ?_; intro w50 b5 hS50; have b1 := hS50.blk b1 (by omega); have b4 := hS50.blk b4 (by omega); have hB := hS50.below hB hs5)
      | (with_reducible refine wpList_load_row rfl 28 _ rfl g1 rfl 28 _ (0, 0) _ b1 Try.underlying28 rfl (lsize _ _ hlen) ?_))
    refine (toGround_is G gl hG _ (hv.below hB) hl).mono ?_
    rintro e w5 ⟨v2, rfl, hM2, hb5'⟩
    have hB := below_trans hB hb5'
    have b1 := blk_below hb5' b1
    have b4 := blk_below hb5' b4
    have b5 := blk_below hb5' b5
    have hC2 := hM2.cs (by omega)
    obtain ⟨A2, c2, rfl, _, _, _⟩ := id hC2
    go_wp2_with (first
      | (with_reducible refine wpList_allocB 8 rfl rfl 33 rfl (.agg (gc gz (.slice none 0 0))) (gc gz (.slice none 0 0)) (by kernel_rfl) rfl ?_; intro g6 w6 b6 hb6 _hs6; have hs6 := Nat.le_trans hB.size _hs6; have hB := below_trans hB hb6; have n1_6 : g1 < g6 := Nat.lt_of_lt_of_le (blk_lt b1) _hs6; have n4_6 : g4 < g6 := Nat.lt_of_lt_of_le (blk_lt b4) _hs6; have n5_6 : g5 < g6 := Nat.lt_of_lt_of_le (blk_lt b5) _hs6; have b1 := blk_below hb6 b1; have b4 := blk_below hb6 b4; have b5 := blk_below hb6 b5)
      | (with_reducible refine wpList_storeB rfl 33 _ _ rfl g6 0 (.agg (gc G (.slice A2 G.gul.length c2))) (gc G (.slice A2 G.gul.length c2)) rfl rfl rfl _ 33 b6 (gsize _ _ hlen) (gc_one _ _ rfl) (by rw [gc_size _ _ hlen, gc_size _ _ (by simp [gz])]; simp) (gc G (.slice A2 G.gul.length c2)) (gc_whole _ _ _ _ hlen (by simp [gz])) ?_; intro w7 b6 hS7; have b1 := hS7.blk b1 (by omega); have b4 := hS7.blk b4 (by omega); have b5 := hS7.blk b5 (by omega); have hB := hS7.below hB hs6)
      | (with_reducible refine wpList_load_row rfl 33 _ rfl g6 rfl 33 _ (0, 0) _ b6 Try.underlying33 rfl (gsize _ _ hlen) ?_))
    have hb7 : Below w5.heap.size w5 w7 := hS7.below hb6 _hs6
    have hC2 := hC2.below hb7
    refine (implSteep_is G _ hG _ hC2).mono ?_
    rintro e w8 ⟨⟨s', m', rfl, hnm'⟩, hb8⟩
    obtain ⟨rfl, rfl⟩ := steep_same hnm hnm'
    have b1 := blk_below hb8 b1
    have b4 := blk_below hb8 b4
    have b5 := blk_below hb8 b5
    have b6 := blk_below hb8 b6
    have hC2 := hC2.below hb8
    have hB := below_trans hB hb8
    clear hnm hnm' hb3 hb4 hb5 hb5' hb6 hb7
    have e1 : (s'.n != s'.n) = false := by simp
    have e2 : (m' != m') = false := by simp
    go_wp2_with (first
      | (with_reducible refine wpList_allocB 9 rfl rfl 40 rfl (.agg #[.int .i8 0, .int .i8 0]) #[.int .i8 0, .int .i8 0] (by kernel_rfl) rfl ?_; intro g9 w9 b9 hb9 _hs9; have hs9 : w.heap.size ≤ g9 := Nat.le_trans hB.size _hs9; have hB := below_trans hB hb9; have n1_9 : g1 < g9 := Nat.lt_of_lt_of_le (blk_lt b1) _hs9; have n4_9 : g4 < g9 := Nat.lt_of_lt_of_le (blk_lt b4) _hs9; have n5_9 : g5 < g9 := Nat.lt_of_lt_of_le (blk_lt b5) _hs9; have n6_9 : g6 < g9 := Nat.lt_of_lt_of_le (blk_lt b6) _hs9; have b1 := blk_below hb9 b1; have b4 := blk_below hb9 b4; have b5 := blk_below hb9 b5; have b6 := blk_below hb9 b6)
      | (with_reducible refine wpList_allocB 10 rfl rfl 40 rfl (.agg #[.int .i8 0, .int .i8 0]) #[.int .i8 0, .int .i8 0] (by kernel_rfl) rfl ?_; intro g10 w10 b10 hb10 _hs10; have hs10 : w.heap.size ≤ g10 := Nat.le_trans hB.size _hs10; have hB := below_trans hB hb10; have n1_10 : g1 < g10 := Nat.lt_of_lt_of_le (blk_lt b1) _hs10; have n4_10 : g4 < g10 := Nat.lt_of_lt_of_le (blk_lt b4) _hs10; have n5_10 : g5 < g10 := Nat.lt_of_lt_of_le (blk_lt b5) _hs10; have n6_10 : g6 < g10 := Nat.lt_of_lt_of_le (blk_lt b6) _hs10; have n9_10 : g9 < g10 := Nat.lt_of_lt_of_le (blk_lt b9) _hs10; have b1 := blk_below hb10 b1; have b4 := blk_below hb10 b4; have b5 := blk_below hb10 b5; have b6 := blk_below hb10 b6; have b9 := blk_below hb10 b9)
      | (with_reducible refine wpList_storeB rfl 40 _ _ rfl g9 0 (.agg #[.int .i8 (s'.fx), .int .i8 (s'.fy)]) #[.int .i8 (s'.fx), .int .i8 (s'.fy)] rfl rfl rfl _ 40 b9 (by kernel_rfl) (by simp [Value.oneCell']) (by simp) #[.int .i8 (s'.fx), .int .i8 (s'.fy)] (by simp) ?_; intro w90 b9 hS90; have b1 := hS90.blk b1 (by omega); have b4 := hS90.blk b4 (by omega); have b5 := hS90.blk b5 (by omega); have b6 := hS90.blk b6 (by omega); have b10 := hS90.blk b10 (by omega); have hB := hS90.below hB hs9)
      | (with_reducible refine wpList_storeB rfl 40 _ _ rfl g10 0 (.agg #[.int .i8 (s'.tx), .int .i8 (s'.ty)]) #[.int .i8 (s'.tx), .int .i8 (s'.ty)] rfl rfl rfl _ 40 b10 (by kernel_rfl) (by simp [Value.oneCell']) (by simp) #[.int .i8 (s'.tx), .int .i8 (s'.ty)] (by simp) ?_; intro w100 b10 hS100; have b1 := hS100.blk b1 (by omega); have b4 := hS100.blk b4 (by omega); have b5 := hS100.blk b5 (by omega); have b6 := hS100.blk b6 (by omega); have b9 := hS100.blk b9 (by omega); have hB := hS100.below hB hs10; have z9 := blk_two b9; obtain ⟨x0, x1⟩ := z9; have z4 := blk_two b4; obtain ⟨y0, y1⟩ := z4; have hb8x : Below w8.heap.size w8 w100 := hS100.below (hS90.below (below_trans hb9 hb10) _hs9) (Nat.le_trans hb9.size _hs10))
      | (go_at_call 23; refine (eqCell_t _ _ _).mono ?_; rintro e w11 ⟨rfl, hb11⟩; have b1 := blk_below hb11 b1; have b4 := blk_below hb11 b4; have b5 := blk_below hb11 b5; have b6 := blk_below hb11 b6; have b9 := blk_below hb11 b9; have b10 := blk_below hb11 b10; have hB := below_trans hB hb11; have hb8x := below_trans hb8x hb11; have z10 := blk_two b10; obtain ⟨x0, x1⟩ := z10; have z5 := blk_two b5; obtain ⟨y0, y1⟩ := z5))
    have hC2 := hC2.below hb8x
    clear x0 x1 y0 y1
    try simp only [Act.put, List.setIfInBounds_toArray, List.set_cons_zero, List.set_cons_succ]
    refine wp_region_held (S := fun w' => Below w11.heap.size w11 w') (by kernel_rfl) ?_
    refine anyH_take 0 _ (.agg (gc G (.slice A2 G.gul.length c2))) rfl rfl (by kernel_rfl) (by kernel_rfl) (by kernel_rfl) (fun _ _ _ h => h) (Below.refl _ _).drew (fun w' hw => run_load_row' _ 33 _ rfl g6 rfl 33 _ (0, 0) _ (blk_below hw b6) Try.underlying33 rfl (gsize _ _ hlen)) ?_
    refine anyH_take 1 _ (.agg (gc G gl)) rfl rfl (by kernel_rfl) (by kernel_rfl) (by kernel_rfl) (fun _ _ _ h => h) (Below.refl _ _).drew (fun w' hw => run_load_row' _ 28 _ rfl g1 rfl 28 _ (0, 0) _ (blk_below hw b1) Try.underlying28 rfl (lsize _ _ hlen)) ?_
    refine anyH_call 2 _ (by kernel_rfl) rfl rfl 16 _ _ rfl #[.agg (gc G gl)] (by simp only [List.map_toArray, List.map_cons, List.map_nil]; rfl) (by go_simp) ?_
    have hd8 : Below w11.heap.size w11 w11.drew := (Below.refl _ _).drew
    refine (toGround_is G gl hG w11.drew (hv.below (below_trans hB hd8)) hl).mono ?_
    rintro e w12 ⟨v3, rfl, hM3, hb12⟩
    have hb12' := below_trans hd8 hb12
    refine ⟨_, rfl, hb12', ?_⟩
    refine anyH_call 3 _ (by kernel_rfl) rfl rfl 18 _ _ rfl #[.agg (gc G (.slice A2 G.gul.length c2)), .agg (gc G v3)] (by simp only [List.map_toArray, List.map_cons, List.map_nil]; rfl) (by go_simp) ?_
    refine (eqGround_t G _ v3 hG _ (hC2.below hb12') (hM3.cs (by omega)) hl).mono ?_
    rintro e w13 ⟨rfl, hb13⟩
    have hb13' := below_trans hb12' hb13
    refine ⟨_, rfl, hb13', ?_⟩
    refine anyH_take 4 _ (.bool false) rfl rfl (by kernel_rfl) (by kernel_rfl) (by kernel_rfl) (fun _ _ _ h => h) hb13' (fun w' hw => run_not' _ 4 _ rfl true rfl) ?_
    refine wpAnyH_done (by kernel_rfl) ?_ _
    simp only [Act.put, List.setIfInBounds_toArray, List.set_cons_zero, List.set_cons_succ]
    go_wp2
    go_ret
    exact ⟨rfl, below_trans hB hb13'⟩
end Go.Proofs.Ytkhheofgnhndbaa
