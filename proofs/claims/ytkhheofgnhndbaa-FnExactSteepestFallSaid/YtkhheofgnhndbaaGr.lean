/- The steepest fall: the program's walk. -/
import Derived.Test.YtkhheofgnhndbaaGq
namespace Go.Proofs.Ytkhheofgnhndbaa
set_option linter.unusedVariables false
set_option linter.unusedSimpArgs false
open Go.RowKit
set_option maxHeartbeats 4000000 in
set_option maxRecDepth 100000 in
theorem implSteep_is (G : Gd) (gl : Value) (hG : GdOk G) (w : World) (hv : Cs w gl G.gul) :
    Calls Try.prog 22 #[.agg (gc G gl)] w (steepPost G w) := by
  have hlen := hG.len
  have hB := Below.refl w.heap.size w
  by_cases hV : GValid G
  · go_enter Try.func22, Try.ntmps22
    go_wp2_with (first
      | (with_reducible refine wpList_box 1 rfl rfl 33 _ rfl (.agg (gc G gl)) rfl (gc G gl) rfl ?_; intro g1 w1 b1 hb1 _hs1; have hs1 : w.heap.size ≤ g1 := Nat.le_trans hB.size _hs1; have hB := below_trans hB hb1)
      | (with_reducible refine wpList_allocB 2 rfl rfl 40 rfl (.agg #[.int .i8 0, .int .i8 0]) #[.int .i8 0, .int .i8 0] (by kernel_rfl) rfl ?_; intro g2 w2 b2 hb2 _hs2; have hs2 : w.heap.size ≤ g2 := Nat.le_trans hB.size _hs2; have hB := below_trans hB hb2; have n1_2 : g1 < g2 := Nat.lt_of_lt_of_le (blk_lt b1) _hs2; have b1 := blk_below hb2 b1)
      | (with_reducible refine wpList_allocB 3 rfl rfl 40 rfl (.agg #[.int .i8 0, .int .i8 0]) #[.int .i8 0, .int .i8 0] (by kernel_rfl) rfl ?_; intro g3 w3 b3 hb3 _hs3; have hs3 : w.heap.size ≤ g3 := Nat.le_trans hB.size _hs3; have hB := below_trans hB hb3; have n1_3 : g1 < g3 := Nat.lt_of_lt_of_le (blk_lt b1) _hs3; have n2_3 : g2 < g3 := Nat.lt_of_lt_of_le (blk_lt b2) _hs3; have b1 := blk_below hb3 b1; have b2 := blk_below hb3 b2)
      | (with_reducible refine wpList_load_row rfl 33 _ rfl g1 rfl 33 _ (0, 0) _ b1 Try.underlying33 rfl (gsize _ _ hlen) ?_)
      | (go_at_call 17; refine (implValid_is G gl hG _ (hv.below hB) true (by simp [hV])).mono ?_; rintro e w4 ⟨rfl, hb4⟩; have b1 := blk_below hb4 b1; have b2 := blk_below hb4 b2; have b3 := blk_below hb4 b3; have hB := below_trans hB hb4)
      | (with_reducible refine wpList_allocB 6 rfl rfl 40 rfl (.agg #[.int .i8 0, .int .i8 0]) #[.int .i8 0, .int .i8 0] (by kernel_rfl) rfl ?_; intro g6 w6 b6 hb6 _hs6; have hs6 : w.heap.size ≤ g6 := Nat.le_trans hB.size _hs6; have hB := below_trans hB hb6; have n1_6 : g1 < g6 := Nat.lt_of_lt_of_le (blk_lt b1) _hs6; have n2_6 : g2 < g6 := Nat.lt_of_lt_of_le (blk_lt b2) _hs6; have n3_6 : g3 < g6 := Nat.lt_of_lt_of_le (blk_lt b3) _hs6; have b1 := blk_below hb6 b1; have b2 := blk_below hb6 b2; have b3 := blk_below hb6 b3)
      | (with_reducible refine wpList_allocB 7 rfl rfl 40 rfl (.agg #[.int .i8 0, .int .i8 0]) #[.int .i8 0, .int .i8 0] (by kernel_rfl) rfl ?_; intro g7 w7 b7 hb7 _hs7; have hs7 : w.heap.size ≤ g7 := Nat.le_trans hB.size _hs7; have hB := below_trans hB hb7; have n1_7 : g1 < g7 := Nat.lt_of_lt_of_le (blk_lt b1) _hs7; have n2_7 : g2 < g7 := Nat.lt_of_lt_of_le (blk_lt b2) _hs7; have n3_7 : g3 < g7 := Nat.lt_of_lt_of_le (blk_lt b3) _hs7; have n6_7 : g6 < g7 := Nat.lt_of_lt_of_le (blk_lt b6) _hs7; have b1 := blk_below hb7 b1; have b2 := blk_below hb7 b2; have b3 := blk_below hb7 b3; have b6 := blk_below hb7 b6)
      | (with_reducible refine wpList_storeB rfl 40 _ _ rfl g6 0 (.agg #[.int .i8 (0), .int .i8 (0)]) #[.int .i8 (0), .int .i8 (0)] rfl rfl rfl _ 40 b6 (by kernel_rfl) (by simp [Value.oneCell']) (by simp) #[.int .i8 (0), .int .i8 (0)] (by simp) ?_; intro w8 b6 hS8; have b1 := hS8.blk b1 (by omega); have b2 := hS8.blk b2 (by omega); have b3 := hS8.blk b3 (by omega); have b7 := hS8.blk b7 (by omega); have hB := hS8.below hB hs6)
      | (with_reducible refine wpList_storeB rfl 40 _ _ rfl g7 0 (.agg #[.int .i8 (0), .int .i8 (0)]) #[.int .i8 (0), .int .i8 (0)] rfl rfl rfl _ 40 b7 (by kernel_rfl) (by simp [Value.oneCell']) (by simp) #[.int .i8 (0), .int .i8 (0)] (by simp) ?_; intro w9 b7 hS9; have b1 := hS9.blk b1 (by omega); have b2 := hS9.blk b2 (by omega); have b3 := hS9.blk b3 (by omega); have b6 := hS9.blk b6 (by omega); have hB := hS9.below hB hs7)
      | (go_at_call 57; refine (points_is G gl hG hV 62 _ _ _ (always62 _ _ _ _)).mono ?_; rintro e w10 ⟨v, rfl, hO, hbp⟩; have b1 := blk_below hbp b1; have b2 := blk_below hbp b2; have b3 := blk_below hbp b3; have l6 := blk_lt b6; have l7 := blk_lt b7; have b6 := blk_below hbp b6; have b7 := blk_below hbp b7; have hB := below_trans hB hbp; have hO : OwnC _ w10 v (ptsOf G) := hO; obtain ⟨A, c, rfl⟩ := hO.sl))
    have hpl := pts_le hV
    go_loopw [8, 24] (fun u v wr => ∃ i : Nat, i ≤ (ptsOf G).length ∧ v = .int .i64 i ∧ u = .int .i64 (allS G ((ptsOf G).take i)).n ∧ Kept [g6, g7] w10 wr ∧ wr.heap[g6]? = some (.cells #[.int .i8 (allS G ((ptsOf G).take i)).fx, .int .i8 (allS G ((ptsOf G).take i)).fy] 40 (0, 0)) ∧ wr.heap[g7]? = some (.cells #[.int .i8 (allS G ((ptsOf G).take i)).tx, .int .i8 (allS G ((ptsOf G).take i)).ty] 40 (0, 0))) (fun _ v _ => (ptsOf G).length - (intOf v).toNat)
    case atStart => exact ⟨0, Nat.zero_le _, rfl, rfl, Kept.refl _ _, b6, b7⟩
    case round =>
      obtain ⟨i, hi, rfl, rfl, hK, b6, b7⟩ := hrel
      by_cases hlt : i < (ptsOf G).length
      · have hlt' : decide ((i : Int) < ((ptsOf G).length : Int)) = true := decide_eq_true (by omega)
        obtain ⟨ad, rfl, hci⟩ := (hO.kept hK (by simp; omega)).at hlt
        have hp := pts_at hV hlt
        have hfn := allS_next G hlt
        revert hp hci hfn
        generalize (ptsOf G).getD i (0, 0) = p
        obtain ⟨px, py⟩ := p
        intro hci hp hfn
        obtain ⟨c1, c2⟩ := hci
        dsimp only at hp c1 c2 hfn
        obtain ⟨hpx, hpy⟩ := pt_lt hV hp
        have HFN := Lib.hid hfn
        clear hfn
        generalize allS G ((ptsOf G).take i) = s0 at b6 b7 HFN ⊢
        have b1 := hK.blk b1 (by simp; omega)
        have hsz := hK.size
        have hsz9 := hbp.size
        go_wp2_with (first
          | (with_reducible refine wpList_allocB 10 rfl rfl 40 rfl (.agg #[.int .i8 0, .int .i8 0]) #[.int .i8 0, .int .i8 0] (by kernel_rfl) rfl ?_; intro g10 w10 b10 hb10 _hs10; have n1_10 : g1 < g10 := Nat.lt_of_lt_of_le (blk_lt b1) _hs10; have n6_10 : g6 < g10 := Nat.lt_of_lt_of_le (blk_lt b6) _hs10; have n7_10 : g7 < g10 := Nat.lt_of_lt_of_le (blk_lt b7) _hs10; have b1 := blk_below hb10 b1; have b6 := blk_below hb10 b6; have b7 := blk_below hb10 b7)
          | (with_reducible refine wpList_storeB rfl 40 _ _ rfl g10 0 (.agg #[.int .i8 (px), .int .i8 (py)]) #[.int .i8 (px), .int .i8 (py)] rfl rfl rfl _ 40 b10 (by kernel_rfl) (by simp [Value.oneCell']) (by simp) #[.int .i8 (px), .int .i8 (py)] (by simp) ?_; intro w11 b10 hS11; have b1 := hS11.blk b1 (by omega); have b6 := hS11.blk b6 (by omega); have b7 := hS11.blk b7 (by omega); have hBr : Below wr.heap.size wr w11 := hS11.below hb10 _hs10; have x0 : w11.cell? ⟨g10, 0, none⟩ = some (.int .i8 px) := (blk_cell b10 0).trans rfl; have x1 : w11.cell? ⟨g10, 1, none⟩ = some (.int .i8 py) := (blk_cell b10 1).trans rfl)
          | (with_reducible refine wpList_load_row rfl 33 _ rfl g1 rfl 33 _ (0, 0) _ b1 Try.underlying33 rfl (gsize _ _ hlen) ?_)
          | (go_at_call 59; refine (around_is G gl hG px py hpx hpy _).mono ?_; rintro e w12 ⟨u, rfl, hO2, hbq⟩; have hw11 := blk_lt b10; have b1 := blk_below hbq b1; have b6 := blk_below hbq b6; have b7 := blk_below hbq b7; have b10 := blk_below hbq b10; have hBr1 := hBr.size; have hBr := below_trans hBr hbq; obtain ⟨A2, k2, rfl⟩ := hO2.sl))
        have hK4 := hK.trans (Kept.of_below hBr)
        have hbl := bes_le G px py
        have hsz12 := hBr.size
        have hsz12' := hbq.size
        go_loopw [8, 32] (fun u v wr => ∃ k : Nat, k ≤ (besOf G px py).length ∧ v = .int .i64 k ∧ u = .int .i64 (inS G (px, py) s0 ((besOf G px py).take k)).n ∧ Kept [g6, g7] w12 wr ∧ wr.heap[g6]? = some (.cells #[.int .i8 (inS G (px, py) s0 ((besOf G px py).take k)).fx, .int .i8 (inS G (px, py) s0 ((besOf G px py).take k)).fy] 40 (0, 0)) ∧ wr.heap[g7]? = some (.cells #[.int .i8 (inS G (px, py) s0 ((besOf G px py).take k)).tx, .int .i8 (inS G (px, py) s0 ((besOf G px py).take k)).ty] 40 (0, 0))) (fun _ v _ => (besOf G px py).length - (intOf v).toNat)
        case atStart => exact ⟨0, Nat.zero_le _, rfl, rfl, Kept.refl _ _, b6, b7⟩
        case round =>
          obtain ⟨k, hk, rfl, rfl, hK2, b6, b7⟩ := hrel
          have hK24 := hK4.trans hK2
          by_cases hlk : k < (besOf G px py).length
          · have hlk' : decide ((k : Int) < ((besOf G px py).length : Int)) = true := decide_eq_true (by omega)
            obtain ⟨ad2, rfl, hck⟩ := (hO2.kept hK2 (by simp; omega)).at hlk
            have hq := bes_at hlk
            have hin := inS_next G (px, py) s0 hlk
            revert hq hck hin
            generalize (besOf G px py).getD k (0, 0) = q
            obtain ⟨qx, qy⟩ := q
            intro hck hq hin
            obtain ⟨c3, c4⟩ := hck
            dsimp only at hq c3 c4 hin
            obtain ⟨hqx, hqy⟩ := pt_lt hV hq
            have HIN := Lib.hid hin
            clear hin
            generalize inS G (px, py) s0 ((besOf G px py).take k) = s1 at b6 b7 HIN ⊢
            have b1 := hK2.blk b1 (by simp; omega)
            have b10 := hK2.blk b10 (by simp; omega)
            obtain ⟨h1, h2⟩ := hAt_ok hG px py
            obtain ⟨h3, h4⟩ := hAt_ok hG qx qy
            go_wp2_with (first
              | (with_reducible refine wpList_allocB 12 rfl rfl 40 rfl (.agg #[.int .i8 0, .int .i8 0]) #[.int .i8 0, .int .i8 0] (by kernel_rfl) rfl ?_; intro g12 w12 b12 hb12 _hs12; have n1_12 : g1 < g12 := Nat.lt_of_lt_of_le (blk_lt b1) _hs12; have n6_12 : g6 < g12 := Nat.lt_of_lt_of_le (blk_lt b6) _hs12; have n7_12 : g7 < g12 := Nat.lt_of_lt_of_le (blk_lt b7) _hs12; have n10_12 : g10 < g12 := Nat.lt_of_lt_of_le (blk_lt b10) _hs12; have b1 := blk_below hb12 b1; have b6 := blk_below hb12 b6; have b7 := blk_below hb12 b7; have b10 := blk_below hb12 b10)
              | (with_reducible refine wpList_storeB rfl 40 _ _ rfl g12 0 (.agg #[.int .i8 (qx), .int .i8 (qy)]) #[.int .i8 (qx), .int .i8 (qy)] rfl rfl rfl _ 40 b12 (by kernel_rfl) (by simp [Value.oneCell']) (by simp) #[.int .i8 (qx), .int .i8 (qy)] (by simp) ?_; intro w13 b12 hS13; have b1 := hS13.blk b1 (by omega); have b6 := hS13.blk b6 (by omega); have b7 := hS13.blk b7 (by omega); have b10 := hS13.blk b10 (by omega)))
            have hBs : Below wr.heap.size wr w13 := hS13.below hb12 _hs12
            have x1 := ext_cell (v := .int .i8 px) ((blk_cell b10 0).trans rfl)
            have x2 := ext_cell (v := .int .i8 py) ((blk_cell b10 1).trans rfl)
            have x3 := ext_cell (v := .int .i8 qx) ((blk_cell b12 0).trans rfl)
            have x4 := ext_cell (v := .int .i8 qy) ((blk_cell b12 1).trans rfl)
            have bx := ext_blk b1
            try simp only [Act.put, List.setIfInBounds_toArray, List.set_cons_zero, List.set_cons_succ]
            refine wp_region_ext (by kernel_rfl) (by kernel_rfl) ?_
            repeat (first
              | go_big_quiet_skip
              | (go_big_quiet_want; with_reducible refine quiet_load_row 33 _ rfl g1 rfl 33 _ (0, 0) _ (by rintro _ ⟨p, rfl⟩; exact ext_blk b1 p) Try.underlying33 rfl (gsize _ _ hlen) ?_; (simp only [Act.put, List.setIfInBounds_toArray, List.set_cons_zero, List.set_cons_succ]); go_big_quiet_on)
              | (go_big_quiet_want
                 go_big_quiet_op
                 first
                   | go_big_quiet_on
                   | (apply Exists.intro
                      refine ⟨fun _ => ?_, ?_⟩
                      · first
                          | (go_at_call 61; exact Calls.ext_of (height_is G gl hG _ _ (by assumption) (by assumption) _))
                      go_big_quiet_on)))
            refine wpQuiet_nil ?_
            intro w5 hb5
            have b6 := blk_below hb5 b6
            have b7 := blk_below hb5 b7
            have b10 := blk_below hb5 b10
            have b12 := blk_below hb5 b12
            have hK5 := hK2.trans (Kept.of_below (below_trans hBs hb5))
            by_cases hgt : s1.n < hAt G px py - hAt G qx qy
            · have hgt' : decide (s1.n < hAt G px py - hAt G qx qy) = true := decide_eq_true hgt
              have HU : Hid (updS G (px, py) s1 (qx, qy) = ⟨px, py, qx, qy, hAt G px py - hAt G qx qy⟩) := if_pos hgt
              clear hgt
              go_wp2
              try simp only [Act.put, List.setIfInBounds_toArray, List.set_cons_zero, List.set_cons_succ]
              refine wp_region_held (S := fun w' => w'.heap[g10]? = some (.cells #[.int .i8 px, .int .i8 py] 40 (0, 0)) ∧ w'.heap[g12]? = some (.cells #[.int .i8 qx, .int .i8 qy] 40 (0, 0))) (by kernel_rfl) ?_
              refine anyH_val 0 46 _ (.agg #[.int .i8 px, .int .i8 py]) rfl rfl rfl (by kernel_rfl) (by kernel_rfl) (by kernel_rfl) (fun _ _ _ h => h) ⟨b10, b12⟩ (fun w' hw => run_load_row' _ 40 _ rfl g10 rfl 40 _ (0, 0) _ hw.1 Try.underlying40 rfl (isz40 _ _)) ?_
              refine anyH_val 1 47 _ (.agg #[.int .i8 qx, .int .i8 qy]) rfl rfl rfl (by kernel_rfl) (by kernel_rfl) (by kernel_rfl) (fun _ _ _ h => h) ⟨b10, b12⟩ (fun w' hw => run_load_row' _ 40 _ rfl g12 rfl 40 _ (0, 0) _ hw.2 Try.underlying40 rfl (isz40 _ _)) ?_
              refine anyH_val 2 48 _ (.int .i64 (hAt G px py - hAt G qx qy)) rfl rfl rfl (by kernel_rfl) (by kernel_rfl) (by kernel_rfl) (fun _ _ _ h => h) ⟨b10, b12⟩ (fun w' hw => run_move' _ _ rfl _ rfl) ?_
              refine anyH_store1 3 _ (by kernel_rfl) rfl rfl rfl 40 _ _ rfl g6 _ #[.int .i8 px, .int .i8 py] rfl rfl rfl _ 40 b6 (isz40 _ _) (by simp [Value.oneCell']) rfl ?_
              intro w22 b6 hS22
              have b10 := hS22.blk b10 (by omega)
              have b12 := hS22.blk b12 (by omega)
              have b7 := hS22.blk b7 (by omega)
              refine ⟨⟨b10, b12⟩, anyH_store1 4 _ (by kernel_rfl) rfl rfl rfl 40 _ _ rfl g7 _ #[.int .i8 qx, .int .i8 qy] rfl rfl rfl _ 40 b7 (isz40 _ _) (by simp [Value.oneCell']) rfl ?_⟩
              intro w23 b7 hS23
              have b10 := hS23.blk b10 (by omega)
              have b12 := hS23.blk b12 (by omega)
              have b6 := hS23.blk b6 (by omega)
              refine ⟨⟨b10, b12⟩, ?_⟩
              refine anyH_val 5 8 _ (.int .i64 (hAt G px py - hAt G qx qy)) rfl rfl rfl (by kernel_rfl) (by kernel_rfl) (by kernel_rfl) (fun _ _ _ h => h) ⟨b10, b12⟩ (fun w' hw => run_assign' _ _ rfl _ rfl) ?_
              refine wpAnyH_done (by kernel_rfl) ?_ _
              simp only [Act.put, List.setIfInBounds_toArray, List.set_cons_zero, List.set_cons_succ]
              have hK6 := ((hK5.trans (Kept.of_below (Below.refl _ _).drew)).trans (Kept.of_setB hS22 (by simp))).trans (Kept.of_setB hS23 (by simp))
              go_wp2
              go_roundw
              case rel => exact ⟨k + 1, by omega, by go_num, by rw [HIN.out, HU.out], hK6, by rw [HIN.out, HU.out]; exact b6, by rw [HIN.out, HU.out]; exact b7⟩
              case measure => simp [intOf]; omega
            · have hgt' : decide (s1.n < hAt G px py - hAt G qx qy) = false := decide_eq_false hgt
              have HU : Hid (updS G (px, py) s1 (qx, qy) = s1) := if_neg hgt
              clear hgt
              go_wp2
              go_roundw
              case rel => exact ⟨k + 1, by omega, by go_num, by rw [HIN.out, HU.out], hK5, by rw [HIN.out, HU.out]; exact b6, by rw [HIN.out, HU.out]; exact b7⟩
              case measure => simp [intOf]; omega
          · obtain rfl : k = (besOf G px py).length := by omega
            rw [List.take_length] at b6 b7 ⊢
            go_wp2
            go_roundw
            case rel => exact ⟨i + 1, by omega, by go_num, by rw [HFN.out], hK24, by rw [HFN.out]; exact b6, by rw [HFN.out]; exact b7⟩
            case measure => simp [intOf]; omega
      · obtain rfl : i = (ptsOf G).length := by omega
        rw [List.take_length] at b6 b7 ⊢
        have d6 := b6
        have d7 := b7
        have b2 := hK.blk b2 (by simp; omega)
        have b3 := hK.blk b3 (by simp; omega)
        have hKB : Below w.heap.size w wr := hB.trans (hK.below hB.size (by simp; omega))
        by_cases h0 : (allS G (ptsOf G)).n = 0
        · have h0' : ((allS G (ptsOf G)).n == 0) = true := beq_iff_eq.2 h0
          have H0 := Lib.hid h0
          clear h0
          go_wp2_with (first
            | (with_reducible refine wpList_storeB rfl 40 _ _ rfl g2 0 (.agg #[.int .i8 (0), .int .i8 (0)]) #[.int .i8 (0), .int .i8 (0)] rfl rfl rfl _ 40 b2 (by kernel_rfl) (by simp [Value.oneCell']) (by simp) #[.int .i8 (0), .int .i8 (0)] (by simp) ?_; intro w21 b2 hS21; have b3 := hS21.blk b3 (by omega))
            | (with_reducible refine wpList_storeB rfl 40 _ _ rfl g3 0 (.agg #[.int .i8 (0), .int .i8 (0)]) #[.int .i8 (0), .int .i8 (0)] rfl rfl rfl _ 40 b3 (by kernel_rfl) (by simp [Value.oneCell']) (by simp) #[.int .i8 (0), .int .i8 (0)] (by simp) ?_; intro w22 b3 hS22; have b2 := hS22.blk b2 (by omega)))
          exact bodyPost_ret (results_cctt rfl g2 g3 40 40 _ _ (0, 0) (0, 0) _ rfl b2 rfl b3 Try.underlying40 rfl (isz40 _ _) (isz40 _ _)) rfl ⟨⟨stp0, 6, rfl, .inl ⟨hV, .inr ⟨H0.out, rfl, rfl⟩⟩⟩, hS22.below (hS21.below hKB hs2) hs3⟩
        · have h0' : ((allS G (ptsOf G)).n == 0) = false := beq_eq_false_iff_ne.2 h0
          have H0 := Lib.hid h0
          clear h0
          go_wp2
          try simp only [Act.put, List.setIfInBounds_toArray, List.set_cons_zero, List.set_cons_succ]
          refine wp_region_held (S := fun w' => w'.heap[g6]? = some (.cells #[.int .i8 (allS G (ptsOf G)).fx, .int .i8 (allS G (ptsOf G)).fy] 40 (0, 0)) ∧ w'.heap[g7]? = some (.cells #[.int .i8 (allS G (ptsOf G)).tx, .int .i8 (allS G (ptsOf G)).ty] 40 (0, 0))) (by kernel_rfl) ?_
          refine anyH_val 0 55 _ (.agg #[.int .i8 (allS G (ptsOf G)).fx, .int .i8 (allS G (ptsOf G)).fy]) rfl rfl rfl (by kernel_rfl) (by kernel_rfl) (by kernel_rfl) (fun _ _ _ h => h) ⟨d6, d7⟩ (fun w' hw => run_load_row' _ 40 _ rfl g6 rfl 40 _ (0, 0) _ hw.1 Try.underlying40 rfl (isz40 _ _)) ?_
          refine anyH_val 1 56 _ (.agg #[.int .i8 (allS G (ptsOf G)).tx, .int .i8 (allS G (ptsOf G)).ty]) rfl rfl rfl (by kernel_rfl) (by kernel_rfl) (by kernel_rfl) (fun _ _ _ h => h) ⟨d6, d7⟩ (fun w' hw => run_load_row' _ 40 _ rfl g7 rfl 40 _ (0, 0) _ hw.2 Try.underlying40 rfl (isz40 _ _)) ?_
          refine anyH_val 2 57 _ (.int .i64 (allS G (ptsOf G)).n) rfl rfl rfl (by kernel_rfl) (by kernel_rfl) (by kernel_rfl) (fun _ _ _ h => h) ⟨d6, d7⟩ (fun w' hw => run_move' _ _ rfl _ rfl) ?_
          refine anyH_store1 3 _ (by kernel_rfl) rfl rfl rfl 40 _ _ rfl g2 _ #[.int .i8 (allS G (ptsOf G)).fx, .int .i8 (allS G (ptsOf G)).fy] rfl rfl rfl _ 40 b2 (isz40 _ _) (by simp [Value.oneCell']) rfl ?_
          intro w22 b2 hS22
          have d6 := hS22.blk d6 (by omega)
          have d7 := hS22.blk d7 (by omega)
          have b3 := hS22.blk b3 (by omega)
          refine ⟨⟨d6, d7⟩, anyH_store1 4 _ (by kernel_rfl) rfl rfl rfl 40 _ _ rfl g3 _ #[.int .i8 (allS G (ptsOf G)).tx, .int .i8 (allS G (ptsOf G)).ty] rfl rfl rfl _ 40 b3 (isz40 _ _) (by simp [Value.oneCell']) rfl ?_⟩
          intro w23 b3 hS23
          have d6 := hS23.blk d6 (by omega)
          have d7 := hS23.blk d7 (by omega)
          have b2 := hS23.blk b2 (by omega)
          refine ⟨⟨d6, d7⟩, ?_⟩
          refine anyH_val 5 4 _ (.int .i64 (allS G (ptsOf G)).n) rfl rfl rfl (by kernel_rfl) (by kernel_rfl) (by kernel_rfl) (fun _ _ _ h => h) ⟨d6, d7⟩ (fun w' hw => run_assign' _ _ rfl _ rfl) ?_
          refine anyH_val 6 5 _ (.int .i64 0) rfl rfl rfl (by kernel_rfl) (by kernel_rfl) (by kernel_rfl) (fun _ _ _ h => h) ⟨d6, d7⟩ (fun w' hw => run_assign' _ _ rfl _ rfl) ?_
          refine wpAnyH_done (by kernel_rfl) ?_ _
          simp only [Act.put, List.setIfInBounds_toArray, List.set_cons_zero, List.set_cons_succ]
          go_wp2
          exact bodyPost_ret (results_cctt rfl g2 g3 40 40 _ _ (0, 0) (0, 0) _ rfl b2 rfl b3 Try.underlying40 rfl (isz40 _ _) (isz40 _ _)) rfl ⟨⟨allS G (ptsOf G), 0, rfl, .inl ⟨hV, .inl ⟨H0.out, rfl, rfl⟩⟩⟩, hS23.below (hS22.below hKB.drew hs2) hs3⟩
  · go_enter Try.func22, Try.ntmps22
    go_wp2_with (first
      | (with_reducible refine wpList_box 1 rfl rfl 33 _ rfl (.agg (gc G gl)) rfl (gc G gl) rfl ?_; intro g1 w1 b1 hb1 _hs1; have hs1 : w.heap.size ≤ g1 := Nat.le_trans hB.size _hs1; have hB := below_trans hB hb1)
      | (with_reducible refine wpList_allocB 2 rfl rfl 40 rfl (.agg #[.int .i8 0, .int .i8 0]) #[.int .i8 0, .int .i8 0] (by kernel_rfl) rfl ?_; intro g2 w2 b2 hb2 _hs2; have hs2 : w.heap.size ≤ g2 := Nat.le_trans hB.size _hs2; have hB := below_trans hB hb2; have n1_2 : g1 < g2 := Nat.lt_of_lt_of_le (blk_lt b1) _hs2; have b1 := blk_below hb2 b1)
      | (with_reducible refine wpList_allocB 3 rfl rfl 40 rfl (.agg #[.int .i8 0, .int .i8 0]) #[.int .i8 0, .int .i8 0] (by kernel_rfl) rfl ?_; intro g3 w3 b3 hb3 _hs3; have hs3 : w.heap.size ≤ g3 := Nat.le_trans hB.size _hs3; have hB := below_trans hB hb3; have n1_3 : g1 < g3 := Nat.lt_of_lt_of_le (blk_lt b1) _hs3; have n2_3 : g2 < g3 := Nat.lt_of_lt_of_le (blk_lt b2) _hs3; have b1 := blk_below hb3 b1; have b2 := blk_below hb3 b2)
      | (with_reducible refine wpList_load_row rfl 33 _ rfl g1 rfl 33 _ (0, 0) _ b1 Try.underlying33 rfl (gsize _ _ hlen) ?_)
      | (go_at_call 17; refine (implValid_is G gl hG _ (hv.below hB) false (by simp [hV])).mono ?_; rintro e w4 ⟨rfl, hb4⟩; have b1 := blk_below hb4 b1; have b2 := blk_below hb4 b2; have b3 := blk_below hb4 b3; have hB := below_trans hB hb4)
      | (with_reducible refine wpList_storeB rfl 40 _ _ rfl g2 0 (.agg #[.int .i8 (0), .int .i8 (0)]) #[.int .i8 (0), .int .i8 (0)] rfl rfl rfl _ 40 b2 (by kernel_rfl) (by simp [Value.oneCell']) (by simp) #[.int .i8 (0), .int .i8 (0)] (by simp) ?_; intro w5 b2 hS5; have b3 := hS5.blk b3 (by omega); have hB := hS5.below hB hs2)
      | (with_reducible refine wpList_storeB rfl 40 _ _ rfl g3 0 (.agg #[.int .i8 (0), .int .i8 (0)]) #[.int .i8 (0), .int .i8 (0)] rfl rfl rfl _ 40 b3 (by kernel_rfl) (by simp [Value.oneCell']) (by simp) #[.int .i8 (0), .int .i8 (0)] (by simp) ?_; intro w6 b3 hS6; have b2 := hS6.blk b2 (by omega); have hB := hS6.below hB hs3))
    exact bodyPost_ret (results_cctt rfl g2 g3 40 40 _ _ (0, 0) (0, 0) _ rfl b2 rfl b3 Try.underlying40 rfl (isz40 _ _) (isz40 _ _)) rfl ⟨⟨stp0, 1, rfl, .inr ⟨hV, rfl, rfl⟩⟩, hB⟩
end Go.Proofs.Ytkhheofgnhndbaa
