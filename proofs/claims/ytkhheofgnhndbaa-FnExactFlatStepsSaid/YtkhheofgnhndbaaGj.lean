/- Steps of one height, counted by the program. -/
import Derived.Test.YtkhheofgnhndbaaGi
namespace Go.Proofs.Ytkhheofgnhndbaa
open Go.RowKit
set_option maxHeartbeats 2000000 in
set_option maxRecDepth 100000 in
theorem implFlat_is (G : Gd) (gl : Value) (hG : GdOk G) (w : World) (hv : Cs w gl G.gul) :
    Calls Try.prog 20 #[.agg (gc G gl)] w (flatPost G w) := by
  have hlen := hG.len
  by_cases hV : GValid G
  · go_enter Try.func20, Try.ntmps20
    go_wp2_with (first
      | (with_reducible refine wpList_box 1 rfl rfl 33 _ rfl (.agg (gc G gl)) rfl (gc G gl) rfl ?_; intro g1 w1 b1 hb1 _hs1)
      | (with_reducible refine wpList_load_row rfl 33 _ rfl g1 rfl 33 _ (0, 0) _ b1 Try.underlying33 rfl (gsize _ _ hlen) ?_)
      | (go_at_call 17; refine (implValid_is G gl hG _ (hv.below hb1) true (by simp [hV])).mono ?_; rintro e w2 ⟨rfl, hb2⟩; have b1 := blk_below hb2 b1)
      | (go_at_call 57; refine (points_is G gl hG hV 58 _ _ _ (always58 _ _ _ _)).mono ?_; rintro e w3 ⟨v, rfl, hO, hb3⟩; have b1 := blk_below hb3 b1; have hO : OwnC _ w3 v (ptsOf G) := hO; obtain ⟨A, c, rfl, hc1, hc2, hc3⟩ := hO.cs))
    have hB3 := below_trans (below_trans hb1 hb2) hb3
    have hpl := pts_le hV
    have HC := Lib.hid hc3
    clear hO hc1 hc2 hc3
    go_loopw [4, 15] (fun u v wr => ∃ i : Nat, i ≤ (ptsOf G).length ∧ v = .int .i64 i ∧ u = .int .i64 (flA G ((ptsOf G).take i)) ∧ Below w3.heap.size w3 wr) (fun _ v _ => (ptsOf G).length - (intOf v).toNat)
    case atStart => exact ⟨0, Nat.zero_le _, rfl, rfl, Below.refl _ _⟩
    case round =>
      obtain ⟨i, hi, rfl, rfl, hB⟩ := hrel
      have hfl := flA_le G ((ptsOf G).take i)
      rw [List.length_take] at hfl
      by_cases hlt : i < (ptsOf G).length
      · have hlt' : decide ((i : Int) < ((ptsOf G).length : Int)) = true := decide_eq_true (by omega)
        obtain ⟨ad, rfl, hc⟩ := HC.out (by omega)
        have hp := pts_at hV hlt
        have hci := (hc i hlt).below hB
        have hfn := flA_next G hlt
        revert hp hci hfn
        generalize (ptsOf G).getD i (0, 0) = p
        obtain ⟨px, py⟩ := p
        intro hp hci hfn
        obtain ⟨c1, c2⟩ := hci
        dsimp only at hp c1 c2 hfn
        obtain ⟨hpx, hpy⟩ := pt_lt hV hp
        have HFN := Lib.hid hfn
        clear hc hfn
        have b1 := blk_below hB b1
        go_wp2_with (first
          | (with_reducible refine wpList_allocB 6 rfl rfl 40 rfl (.agg #[.int .i8 0, .int .i8 0]) #[.int .i8 0, .int .i8 0] (by kernel_rfl) rfl ?_; intro g4 w4 b4 hb4 _hs4; have n1_4 : g1 < g4 := Nat.lt_of_lt_of_le (blk_lt b1) _hs4; have b1 := blk_below hb4 b1)
          | (with_reducible refine wpList_storeB rfl 40 _ _ rfl g4 0 (.agg #[.int .i8 px, .int .i8 py]) #[.int .i8 px, .int .i8 py] rfl rfl rfl _ 40 b4 (by kernel_rfl) (by simp [Value.oneCell']) (by simp) #[.int .i8 px, .int .i8 py] (by simp) ?_; intro w5 b5 hS5; have hb5 : Below wr.heap.size wr w5 := hS5.below hb4 _hs4; have b1 := hS5.blk b1 (by omega); have x0 : w5.cell? ⟨g4, 0, none⟩ = some (.int .i8 px) := (blk_cell b5 0).trans rfl; have x1 : w5.cell? ⟨g4, 1, none⟩ = some (.int .i8 py) := (blk_cell b5 1).trans rfl)
          | (with_reducible refine wpList_load_row rfl 33 _ rfl g1 rfl 33 _ (0, 0) _ b1 Try.underlying33 rfl (gsize _ _ hlen) ?_)
          | (go_at_call 59; refine (around_is G gl hG px py hpx hpy _).mono ?_; rintro e w6 ⟨u, rfl, hO2, hb6⟩; have b1 := blk_below hb6 b1; have x0 := cell_below hb6 x0; have x1 := cell_below hb6 x1; obtain ⟨A2, k2, rfl, hd1, hd2, hd3⟩ := hO2.cs))
        have hb46 := below_trans hb5 hb6
        have HD := Lib.hid hd3
        have hbl := bes_le G px py
        clear hO2 hd1 hd2 hd3
        go_loopw [4, 23] (fun u v wr => ∃ k : Nat, k ≤ (besOf G px py).length ∧ v = .int .i64 k ∧ u = .int .i64 ((flA G ((ptsOf G).take i) + flP G (px, py) ((besOf G px py).take k) : Nat) : Int) ∧ Below w6.heap.size w6 wr) (fun _ v _ => (besOf G px py).length - (intOf v).toNat)
        case atStart => exact ⟨0, Nat.zero_le _, rfl, by simp [flP], Below.refl _ _⟩
        case round =>
          obtain ⟨k, hk, rfl, rfl, hB2⟩ := hrel
          by_cases hlk : k < (besOf G px py).length
          · have hlk' : decide ((k : Int) < ((besOf G px py).length : Int)) = true := decide_eq_true (by omega)
            obtain ⟨ad2, rfl, hd⟩ := HD.out (by omega)
            have hq := bes_at hlk
            have hck := (hd k hlk).below hB2
            have hle := flP_le G (px, py) ((besOf G px py).take k)
            rw [List.length_take] at hle
            have HT := Lib.hid (fun h => flP_t (G := G) (p := (px, py)) hlk h)
            have HF := Lib.hid (fun h => flP_f (G := G) (p := (px, py)) hlk h)
            revert hq hck HT HF
            generalize (besOf G px py).getD k (0, 0) = q
            obtain ⟨qx, qy⟩ := q
            intro hq hck HT HF
            obtain ⟨d1, d2⟩ := hck
            dsimp only at hq d1 d2
            obtain ⟨hqx, hqy⟩ := pt_lt hV hq
            clear hd
            have b1 := blk_below hB2 b1
            have z0 := cell_below hB2 x0
            have z1 := cell_below hB2 x1
            go_wp2_with (first
              | (with_reducible refine wpList_allocB 8 rfl rfl 40 rfl (.agg #[.int .i8 0, .int .i8 0]) #[.int .i8 0, .int .i8 0] (by kernel_rfl) rfl ?_; intro g7 w7 b7 hb7 _hs7; have n1_7 : g1 < g7 := Nat.lt_of_lt_of_le (blk_lt b1) _hs7; have b1 := blk_below hb7 b1)
              | (with_reducible refine wpList_storeB rfl 40 _ _ rfl g7 0 (.agg #[.int .i8 qx, .int .i8 qy]) #[.int .i8 qx, .int .i8 qy] rfl rfl rfl _ 40 b7 (by kernel_rfl) (by simp [Value.oneCell']) (by simp) #[.int .i8 qx, .int .i8 qy] (by simp) ?_; intro w8 b8 hS8; have hb8 : Below wr.heap.size wr w8 := hS8.below hb7 _hs7; have b1 := hS8.blk b1 (by omega); have z0 := cell_below hb8 z0; have z1 := cell_below hb8 z1))
            have x1 := ext_cell z0
            have x2 := ext_cell z1
            have y1 := ext_cell (v := .int .i8 qx) ((blk_cell b8 0).trans rfl)
            have y2 := ext_cell (v := .int .i8 qy) ((blk_cell b8 1).trans rfl)
            cases he : eqH G (px, py) (qx, qy) with
            | true =>
              have HT := Lib.hid (HT.out he)
              have he' : (hAt G qx qy == hAt G px py) = true := beq_iff_eq.2 (eq_of_beq he).symm
              clear HF he
              try simp only [Act.put, List.setIfInBounds_toArray, List.set_cons_zero, List.set_cons_succ]
              refine wp_region_ext (by kernel_rfl) (by kernel_rfl) ?_
              repeat (first
                | go_big_quiet_skip
                | (go_big_quiet_want; with_reducible refine quiet_load_row 33 _ rfl g1 rfl 33 _ (0, 0) _ (by rintro _ ⟨p, rfl⟩; exact ext_blk b1 p) Try.underlying33 rfl (gsize _ _ hlen) ?_; (simp only [Act.put, List.setIfInBounds_toArray, List.set_cons_zero, List.set_cons_succ]); go_big_quiet_on)
                | (go_big_quiet_want
                   go_big_quiet_op
                   first
                     | go_big_quiet_on
                     | (apply Exists.intro
                        refine ⟨fun _ => ?_, ?_⟩
                        · first
                            | (go_at_call 61; exact Calls.ext_of (height_is G gl hG _ _ (by assumption) (by assumption) _))
                            | (go_at_call 60; exact Calls.ext_same (bit_is _ _))
                        go_big_quiet_on)))
              refine wpQuiet_nil ?_
              intro w9 hb9
              go_wp2
              go_roundw
              case rel => exact ⟨k + 1, by omega, by go_num, by rw [HT.out]; go_num, below_trans hB2 (below_trans hb8 hb9)⟩
              case measure => simp [intOf]; omega
            | false =>
              have HF := Lib.hid (HF.out he)
              have he' : (hAt G qx qy == hAt G px py) = false := beq_eq_false_iff_ne.2 (fun h => by have h2 := beq_eq_false_iff_ne.1 he; exact h2 h.symm)
              clear HT he
              try simp only [Act.put, List.setIfInBounds_toArray, List.set_cons_zero, List.set_cons_succ]
              refine wp_region_ext (by kernel_rfl) (by kernel_rfl) ?_
              repeat (first
                | go_big_quiet_skip
                | (go_big_quiet_want; with_reducible refine quiet_load_row 33 _ rfl g1 rfl 33 _ (0, 0) _ (by rintro _ ⟨p, rfl⟩; exact ext_blk b1 p) Try.underlying33 rfl (gsize _ _ hlen) ?_; (simp only [Act.put, List.setIfInBounds_toArray, List.set_cons_zero, List.set_cons_succ]); go_big_quiet_on)
                | (go_big_quiet_want
                   go_big_quiet_op
                   first
                     | go_big_quiet_on
                     | (apply Exists.intro
                        refine ⟨fun _ => ?_, ?_⟩
                        · first
                            | (go_at_call 61; exact Calls.ext_of (height_is G gl hG _ _ (by assumption) (by assumption) _))
                            | (go_at_call 60; exact Calls.ext_same (bit_is _ _))
                        go_big_quiet_on)))
              refine wpQuiet_nil ?_
              intro w9 hb9
              go_wp2
              go_roundw
              case rel => exact ⟨k + 1, by omega, by go_num, by rw [HF.out]; go_num, below_trans hB2 (below_trans hb8 hb9)⟩
              case measure => simp [intOf]; omega
          · obtain rfl : k = (besOf G px py).length := by omega
            go_wp2
            go_roundw
            case rel => exact ⟨i + 1, by omega, by go_num, by rw [HFN.out, List.take_length], below_trans hB (below_trans hb46 hB2)⟩
            case measure => simp [intOf]; omega
      · obtain rfl : i = (ptsOf G).length := by omega
        rw [List.take_length] at hfl ⊢
        go_wp2
        exact bodyPost_ret (v := .tuple #[.int .i64 _, .int .i64 0]) (by simp [results, Try.results20, go_sem]) rfl ⟨⟨_, _, rfl, .inl ⟨hV, rfl, rfl⟩⟩, below_trans hB3 hB⟩
  · go_enter Try.func20, Try.ntmps20
    go_wp2_with (first
      | (with_reducible refine wpList_box 1 rfl rfl 33 _ rfl (.agg (gc G gl)) rfl (gc G gl) rfl ?_; intro g1 w1 b1 hb1 _hs1)
      | (with_reducible refine wpList_load_row rfl 33 _ rfl g1 rfl 33 _ (0, 0) _ b1 Try.underlying33 rfl (gsize _ _ hlen) ?_)
      | (go_at_call 17; refine (implValid_is G gl hG _ (hv.below hb1) false (by simp [hV])).mono ?_; rintro e w2 ⟨rfl, hb2⟩))
    exact bodyPost_ret (v := .tuple #[.int .i64 0, .int .i64 1]) (by simp [results, Try.results20, go_sem]) rfl ⟨⟨_, _, rfl, .inr ⟨hV, rfl, rfl⟩⟩, below_trans hb1 hb2⟩
end Go.Proofs.Ytkhheofgnhndbaa