/- Steps of one height, counted by the reference and by the program. -/
import Derived.Test.YtkhheofgnhndbaaGh
namespace Go.Proofs.Ytkhheofgnhndbaa
set_option linter.unusedVariables false
set_option linter.unusedSimpArgs false
open Go.RowKit
theorem getD_mem {xs : List (Int × Int)} {i : Nat} (h : i < xs.length) : xs.getD i (0, 0) ∈ xs := by
  rw [List.getD_eq_getElem?_getD, List.getElem?_eq_getElem h]; exact List.getElem_mem h
theorem pts_at {G : Gd} (hV : GValid G) {i : Nat} (h : i < (ptsOf G).length) : isPt G.W G.H ((ptsOf G).getD i (0, 0)).1 ((ptsOf G).getD i (0, 0)).2 := by
  have h1 := (mem_rowsUp _ _ _ _).1 (getD_mem h)
  have h2 := hV.W
  have h3 := hV.H
  unfold isPt
  unfold ptsOf at *
  omega
theorem bes_at {G : Gd} {x y : Int} {i : Nat} (h : i < (besOf G x y).length) : isPt G.W G.H ((besOf G x y).getD i (0, 0)).1 ((besOf G x y).getD i (0, 0)).2 := by
  have h1 := getD_mem h
  unfold besOf at h1
  exact of_decide_eq_true (List.mem_filter.1 h1).2
theorem pt_lt {G : Gd} (hV : GValid G) {x y : Int} (h : isPt G.W G.H x y) : (0 ≤ x ∧ x < 9) ∧ 0 ≤ y ∧ y < 9 := by
  have h2 := hV.W
  have h3 := hV.H
  unfold isPt at h
  omega
theorem pts_le {G : Gd} (hV : GValid G) : (ptsOf G).length ≤ 81 := by
  have h := rowsUp_le (fun _ => true) G.W.toNat G.H.toNat
  have h1 := hV.W
  have h2 := hV.H
  have h3 : G.W.toNat * G.H.toNat ≤ 9 * 9 := Nat.mul_le_mul (by omega) (by omega)
  unfold ptsOf
  omega
theorem bes_le (G : Gd) (x y : Int) : (besOf G x y).length ≤ 4 := List.length_filter_le _ _
def eqH (G : Gd) (p q : Int × Int) : Bool := hAt G p.1 p.2 == hAt G q.1 q.2
def flP (G : Gd) (p : Int × Int) (qs : List (Int × Int)) : Nat := (qs.filter (eqH G p)).length
def flA (G : Gd) (ps : List (Int × Int)) : Nat := (ps.map fun p => flP G p (besOf G p.1 p.2)).sum
theorem flP_le (G : Gd) (p : Int × Int) (qs : List (Int × Int)) : flP G p qs ≤ qs.length := List.length_filter_le _ _
theorem flA_le (G : Gd) (ps : List (Int × Int)) : flA G ps ≤ 4 * ps.length := by
  induction ps with
  | nil => simp [flA]
  | cons p ps ih =>
    have := flP_le G p (besOf G p.1 p.2)
    have := bes_le G p.1 p.2
    simp only [flA, List.map_cons, List.sum_cons, List.length_cons] at ih ⊢
    omega
theorem take_next {xs : List (Int × Int)} {j : Nat} (hj : j < xs.length) : xs.take (j + 1) = xs.take j ++ [xs.getD j (0, 0)] := by
  rw [List.take_add_one, List.getElem?_eq_getElem hj, List.getD_eq_getElem?_getD, List.getElem?_eq_getElem hj]; rfl
theorem flA_next (G : Gd) {xs : List (Int × Int)} {j : Nat} (hj : j < xs.length) : flA G (xs.take (j + 1)) = flA G (xs.take j) + flP G (xs.getD j (0, 0)) (besOf G (xs.getD j (0, 0)).1 (xs.getD j (0, 0)).2) := by
  rw [take_next hj]; simp [flA]
theorem flP_t {G : Gd} {p : Int × Int} {xs : List (Int × Int)} {j : Nat} (hj : j < xs.length) (h : eqH G p (xs.getD j (0, 0)) = true) : flP G p (xs.take (j + 1)) = flP G p (xs.take j) + 1 := by
  unfold flP; rw [filter_take_t hj h]; simp
theorem flP_f {G : Gd} {p : Int × Int} {xs : List (Int × Int)} {j : Nat} (hj : j < xs.length) (h : eqH G p (xs.getD j (0, 0)) = false) : flP G p (xs.take (j + 1)) = flP G p (xs.take j) := by
  unfold flP; rw [filter_take_f hj h]
/-- What the count gives. -/
def flatV (G : Gd) (n : Int) : Prop := n = Int.tdiv (flA G (ptsOf G) : Int) 2
def flatPost (G : Gd) (w : World) (e : Ending) (w' : World) : Prop := (∃ n m, e = .returned (.tuple #[.int .i64 n, .int .i64 m]) ∧ ((GValid G ∧ flatV G n ∧ m = 0) ∨ (¬ GValid G ∧ n = 0 ∧ m = 1))) ∧ Below w.heap.size w w'
set_option maxHeartbeats 2000000 in
set_option maxRecDepth 100000 in
theorem specFlat_is (G : Gd) (gl : Value) (hG : GdOk G) (w : World) (hv : Cs w gl G.gul) :
    Calls Try.prog 19 #[.agg (gc G gl)] w (flatPost G w) := by
  by_cases hV : GValid G
  · go_enter Try.func19, Try.ntmps19
    go_wp2_with (first
      | (with_reducible refine wpList_box 1 rfl rfl 33 _ rfl (.agg (gc G gl)) rfl (gc G gl) rfl ?_; intro g1 w1 b1 hb1 _hs1)
      | (go_at_call 48; refine (l04Ok_is G gl hG g1 _ (hv.below hb1) b1 true (by simp [hV])).mono ?_; rintro e w2 ⟨rfl, hb2⟩; have b1 := blk_below hb2 b1)
      | (go_at_call 54; refine (l04All_is G gl hV g1 _ b1).mono ?_; rintro e w3 ⟨v, rfl, hO, hb3⟩; have b1 := blk_below hb3 b1))
    have hB3 := below_trans (below_trans hb1 hb2) hb3
    obtain ⟨A, c, rfl, hc1, hc2, hc3⟩ := hO.cs
    have hpl := pts_le hV
    have HC := Lib.hid hc3
    clear hO hc1 hc2 hc3
    go_loopw [4, 6] (fun u v wr => ∃ i : Nat, i ≤ (ptsOf G).length ∧ v = .int .i64 i ∧ u = .int .i64 (flA G ((ptsOf G).take i)) ∧ Below w3.heap.size w3 wr) (fun _ v _ => (ptsOf G).length - (intOf v).toNat)
    case atStart => exact ⟨0, Nat.zero_le _, rfl, rfl, Below.refl _ _⟩
    case round =>
      obtain ⟨i, hi, rfl, rfl, hB⟩ := hrel
      have hfl := flA_le G ((ptsOf G).take i)
      rw [List.length_take] at hfl
      by_cases hlt : i < (ptsOf G).length
      · have hlt' : decide ((i : Int) < ((ptsOf G).length : Int)) = true := decide_eq_true (by omega)
        obtain ⟨ad, rfl, hc⟩ := HC.out (by omega)
        have hp := pts_at hV hlt
        have hci := (hc i hlt).below hB
        have hfn := flA_next G hlt
        revert hp hci hfn
        generalize (ptsOf G).getD i (0, 0) = p
        obtain ⟨px, py⟩ := p
        intro hp hci hfn
        obtain ⟨c1, c2⟩ := hci
        dsimp only at hp c1 c2 hfn
        obtain ⟨hpx, hpy⟩ := pt_lt hV hp
        have HFN := Lib.hid hfn
        clear hc hfn
        have b1r := blk_below hB b1
        go_wp2_with (first
          | (go_at_call 55; refine (l04Beside_is G gl hG px py hpx hpy g1 _ b1r).mono ?_; rintro e w4 ⟨u, rfl, hO2, hb4⟩; have b1r := blk_below hb4 b1r; have c1 := cell_below hb4 c1; have c2 := cell_below hb4 c2))
        obtain ⟨A2, k2, rfl, hd1, hd2, hd3⟩ := hO2.cs
        have HD := Lib.hid hd3
        have hbl := bes_le G px py
        clear hO2 hd1 hd2 hd3
        go_loopw [4, 8] (fun u v wr => ∃ k : Nat, k ≤ (besOf G px py).length ∧ v = .int .i64 k ∧ u = .int .i64 ((flA G ((ptsOf G).take i) + flP G (px, py) ((besOf G px py).take k) : Nat) : Int) ∧ Below w4.heap.size w4 wr) (fun _ v _ => (besOf G px py).length - (intOf v).toNat)
        case atStart => exact ⟨0, Nat.zero_le _, rfl, by simp [flP], Below.refl _ _⟩
        case round =>
          obtain ⟨k, hk, rfl, rfl, hB2⟩ := hrel
          have hB24 := below_trans hb4 hB2
          by_cases hlk : k < (besOf G px py).length
          · have hlk' : decide ((k : Int) < ((besOf G px py).length : Int)) = true := decide_eq_true (by omega)
            obtain ⟨ad2, rfl, hd⟩ := HD.out (by omega)
            have hq := bes_at hlk
            have hck := (hd k hlk).below hB2
            have hle := flP_le G (px, py) ((besOf G px py).take k)
            rw [List.length_take] at hle
            have HT := Lib.hid (fun h => flP_t (G := G) (p := (px, py)) hlk h)
            have HF := Lib.hid (fun h => flP_f (G := G) (p := (px, py)) hlk h)
            revert hq hck HT HF
            generalize (besOf G px py).getD k (0, 0) = q
            obtain ⟨qx, qy⟩ := q
            intro hq hck HT HF
            obtain ⟨d1, d2⟩ := hck
            dsimp only at hq d1 d2
            obtain ⟨hqx, hqy⟩ := pt_lt hV hq
            clear hd
            have x1 := ext_cell (cell_below hB2 c1)
            have x2 := ext_cell (cell_below hB2 c2)
            have y1 := ext_cell d1
            have y2 := ext_cell d2
            have bx := ext_blk (blk_below hB2 b1r)
            cases he : eqH G (px, py) (qx, qy) with
            | true =>
              have HT := Lib.hid (HT.out he)
              have he' : (hAt G px py == hAt G qx qy) = true := he
              clear HF he
              go_wp2
              try simp only [Act.put, List.setIfInBounds_toArray, List.set_cons_zero, List.set_cons_succ]
              refine wp_region_ext (by kernel_rfl) (by kernel_rfl) ?_
              repeat (first
                | go_big_quiet_skip
                | (go_big_quiet_want
                   go_big_quiet_op
                   first
                     | go_big_quiet_on
                     | (apply Exists.intro
                        refine ⟨fun _ => ?_, ?_⟩
                        · first
                            | (go_at_call 56; exact Calls.ext_of (heightS_is G gl hG _ _ (by assumption) (by assumption) g1 _ (bx _)))
                        go_big_quiet_on)))
              refine wpQuiet_nil ?_
              intro w5 hb5
              go_wp2
              go_roundw
              case rel => exact ⟨k + 1, by omega, by go_num, by rw [HT.out]; go_num, below_trans hB2 hb5⟩
              case measure => simp [intOf]; omega
            | false =>
              have HF := Lib.hid (HF.out he)
              have he' : (hAt G px py == hAt G qx qy) = false := he
              clear HT he
              go_wp2
              try simp only [Act.put, List.setIfInBounds_toArray, List.set_cons_zero, List.set_cons_succ]
              refine wp_region_ext (by kernel_rfl) (by kernel_rfl) ?_
              repeat (first
                | go_big_quiet_skip
                | (go_big_quiet_want
                   go_big_quiet_op
                   first
                     | go_big_quiet_on
                     | (apply Exists.intro
                        refine ⟨fun _ => ?_, ?_⟩
                        · first
                            | (go_at_call 56; exact Calls.ext_of (heightS_is G gl hG _ _ (by assumption) (by assumption) g1 _ (bx _)))
                        go_big_quiet_on)))
              refine wpQuiet_nil ?_
              intro w5 hb5
              go_wp2
              go_roundw
              case rel => exact ⟨k + 1, by omega, by go_num, by rw [HF.out], below_trans hB2 hb5⟩
              case measure => simp [intOf]; omega
          · obtain rfl : k = (besOf G px py).length := by omega
            go_wp2
            go_roundw
            case rel => exact ⟨i + 1, by omega, by go_num, by rw [HFN.out, List.take_length], below_trans hB (below_trans hb4 hB2)⟩
            case measure => simp [intOf]; omega
      · obtain rfl : i = (ptsOf G).length := by omega
        rw [List.take_length] at hfl ⊢
        go_wp2
        exact bodyPost_ret (v := .tuple #[.int .i64 _, .int .i64 0]) (by simp [results, Try.results19, go_sem]) rfl ⟨⟨_, _, rfl, .inl ⟨hV, rfl, rfl⟩⟩, below_trans hB3 hB⟩
  · go_enter Try.func19, Try.ntmps19
    go_wp2_with (first
      | (with_reducible refine wpList_box 1 rfl rfl 33 _ rfl (.agg (gc G gl)) rfl (gc G gl) rfl ?_; intro g1 w1 b1 hb1 _hs1)
      | (go_at_call 48; refine (l04Ok_is G gl hG g1 _ (hv.below hb1) b1 false (by simp [hV])).mono ?_; rintro e w2 ⟨rfl, hb2⟩))
    exact bodyPost_ret (v := .tuple #[.int .i64 0, .int .i64 1]) (by simp [results, Try.results19, go_sem]) rfl ⟨⟨_, _, rfl, .inr ⟨hV, rfl, rfl⟩⟩, below_trans hb1 hb2⟩
end Go.Proofs.Ytkhheofgnhndbaa
