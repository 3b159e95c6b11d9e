/- Whereto water runs: the program's answer and the reference's. -/
import Derived.Test.YtkhheofgnhndbaaGo
namespace Go.Proofs.Ytkhheofgnhndbaa
set_option linter.unusedVariables false
set_option linter.unusedSimpArgs false
open Go.RowKit
def gulB (G : Gd) (x y : Int) : Bool := G.gul.any (eqP (x, y))
theorem gulB_of {G : Gd} {x y r : Int} (h : IdxR (eqP (x, y)) G.gul r) : decide (0 ≤ r) = gulB G x y := by
  rcases h with ⟨rfl, ha⟩ | ⟨k, hk, rfl, h1, h2⟩
  · have : gulB G x y = false := by
      unfold gulB
      rw [List.any_eq_false]
      intro q hq
      obtain ⟨i, hi, rfl⟩ := List.mem_iff_getElem.1 hq
      have := ha i hi
      rw [List.getD_eq_getElem?_getD, List.getElem?_eq_getElem hi] at this
      simp only [Option.getD_some] at this
      rw [this]; simp
    rw [this]; rfl
  · have : gulB G x y = true := by
      unfold gulB
      rw [List.any_eq_true]
      exact ⟨_, getD_mem hk, h1⟩
    rw [this]; exact decide_eq_true (by omega)
def runT (G : Gd) (x y : Int) : Int × Int := if gulB G x y then (x, y) else lowG G x y
def runB (G : Gd) (x y : Int) : Bool := if gulB G x y then false else !eqP (lowG G x y) (x, y)
theorem runT_pt {G : Gd} {x y : Int} (hp : isPt G.W G.H x y) : isPt G.W G.H (runT G x y).1 (runT G x y).2 := by
  unfold runT; split
  · exact hp
  · exact lowG_pt hp
def runPost (G : Gd) (x y : Int) (w : World) (e : Ending) (w' : World) : Prop :=
  e = .returned (.tuple #[.agg #[.int .i8 (runT G x y).1, .int .i8 (runT G x y).2], .bool (runB G x y)]) ∧ Below w.heap.size w w'
set_option maxHeartbeats 1000000 in
theorem runs_is (G : Gd) (gl : Value) (hG : GdOk G) (hV : GValid G) (x y : Int) (hp : isPt G.W G.H x y) (w : World) (hv : Cs w gl G.gul) :
    Calls Try.prog 71 #[.agg (gc G gl), .agg #[.int .i8 x, .int .i8 y]] w (runPost G x y w) := by
  have hlen := hG.len
  have hn := hV.n
  obtain ⟨r, hr⟩ := IdxR.ex (eqP (x, y)) G.gul
  have hgb := gulB_of hr
  have HR := Lib.hid hr
  have hB := Below.refl w.heap.size w
  clear hr
  go_enter Try.func71, Try.ntmps71
  cases hg : gulB G x y with
  | true =>
    have hT : Hid (runT G x y = (x, y) ∧ runB G x y = false) := by unfold runT runB; rw [hg]; exact ⟨rfl, rfl⟩
    rw [hg] at hgb
    go_wp2_with (first
      | (with_reducible refine wpList_box 2 rfl rfl 33 _ rfl (.agg (gc G gl)) rfl (gc G gl) rfl ?_; intro g1 w1 b1 hb1 _hs1; have hs1 : w.heap.size ≤ g1 := Nat.le_trans hB.size _hs1; have hB := below_trans hB hb1)
      | (with_reducible refine wpList_box 3 rfl rfl 40 _ rfl (.agg #[.int .i8 x, .int .i8 y]) rfl #[.int .i8 x, .int .i8 y] rfl ?_; intro g2 w2 b2 hb2 _hs2; have hs2 : w.heap.size ≤ g2 := Nat.le_trans hB.size _hs2; have hB := below_trans hB hb2; have n1_2 : g1 < g2 := Nat.lt_of_lt_of_le (blk_lt b1) _hs2; have b1 := blk_below hb2 b1)
      | (with_reducible refine wpList_allocB 4 rfl rfl 40 rfl (.agg #[.int .i8 0, .int .i8 0]) #[.int .i8 0, .int .i8 0] (by kernel_rfl) rfl ?_; intro g3 w3 b3 hb3 _hs3; have hs3 : w.heap.size ≤ g3 := Nat.le_trans hB.size _hs3; have hB := below_trans hB hb3; have n1_3 : g1 < g3 := Nat.lt_of_lt_of_le (blk_lt b1) _hs3; have n2_3 : g2 < g3 := Nat.lt_of_lt_of_le (blk_lt b2) _hs3; have b1 := blk_below hb3 b1; have b2 := blk_below hb3 b2;  have z2 := blk_two b2; obtain ⟨x0, y0⟩ := z2)
      | (with_reducible refine wpList_load_row rfl 33 _ rfl g1 rfl 33 _ (0, 0) _ b1 Try.underlying33 rfl (gsize _ _ hlen) ?_)
      | (go_at_call 86; refine (isGully_is G gl hG (by omega) x y _ (hv.below hB) r HR.out).mono ?_; rintro e w4 ⟨rfl, hb4⟩; have b1 := blk_below hb4 b1; have b2 := blk_below hb4 b2; have b3 := blk_below hb4 b3; have x0 := cell_below hb4 x0; have y0 := cell_below hb4 y0; have hB := below_trans hB hb4)
      | (with_reducible refine wpList_storeB rfl 40 _ _ rfl g3 0 (.agg #[.int .i8 (x), .int .i8 (y)]) #[.int .i8 (x), .int .i8 (y)] rfl rfl rfl _ 40 b3 (by kernel_rfl) (by simp [Value.oneCell']) (by simp) #[.int .i8 (x), .int .i8 (y)] (by simp) ?_; intro w5 b3 hS5; have b1 := hS5.blk b1 (by omega); have b2 := hS5.blk b2 (by omega); have hB := hS5.below hB hs3))
    exact bodyPost_ret (results_ct rfl g3 40 _ (0, 0) _ rfl b3 Try.underlying40 rfl (isz40 _ _)) rfl ⟨by rw [hT.out.1, hT.out.2]; rfl, hB⟩
  | false =>
    have hT : Hid (runT G x y = lowG G x y ∧ runB G x y = !eqP (lowG G x y) (x, y)) := by unfold runT runB; rw [hg]; exact ⟨rfl, rfl⟩
    rw [hg] at hgb
    go_wp2_with (first
      | (with_reducible refine wpList_box 2 rfl rfl 33 _ rfl (.agg (gc G gl)) rfl (gc G gl) rfl ?_; intro g1 w1 b1 hb1 _hs1; have hs1 : w.heap.size ≤ g1 := Nat.le_trans hB.size _hs1; have hB := below_trans hB hb1)
      | (with_reducible refine wpList_box 3 rfl rfl 40 _ rfl (.agg #[.int .i8 x, .int .i8 y]) rfl #[.int .i8 x, .int .i8 y] rfl ?_; intro g2 w2 b2 hb2 _hs2; have hs2 : w.heap.size ≤ g2 := Nat.le_trans hB.size _hs2; have hB := below_trans hB hb2; have n1_2 : g1 < g2 := Nat.lt_of_lt_of_le (blk_lt b1) _hs2; have b1 := blk_below hb2 b1)
      | (with_reducible refine wpList_allocB 4 rfl rfl 40 rfl (.agg #[.int .i8 0, .int .i8 0]) #[.int .i8 0, .int .i8 0] (by kernel_rfl) rfl ?_; intro g3 w3 b3 hb3 _hs3; have hs3 : w.heap.size ≤ g3 := Nat.le_trans hB.size _hs3; have hB := below_trans hB hb3; have n1_3 : g1 < g3 := Nat.lt_of_lt_of_le (blk_lt b1) _hs3; have n2_3 : g2 < g3 := Nat.lt_of_lt_of_le (blk_lt b2) _hs3; have b1 := blk_below hb3 b1; have b2 := blk_below hb3 b2;  have z2 := blk_two b2; obtain ⟨x0, y0⟩ := z2)
      | (with_reducible refine wpList_load_row rfl 33 _ rfl g1 rfl 33 _ (0, 0) _ b1 Try.underlying33 rfl (gsize _ _ hlen) ?_)
      | (go_at_call 86; refine (isGully_is G gl hG (by omega) x y _ (hv.below hB) r HR.out).mono ?_; rintro e w4 ⟨rfl, hb4⟩; have b1 := blk_below hb4 b1; have b2 := blk_below hb4 b2; have b3 := blk_below hb4 b3; have x0 := cell_below hb4 x0; have y0 := cell_below hb4 y0; have hB := below_trans hB hb4)
      | (go_at_call 81; refine (lowest_is G gl hG hV x y hp _).mono ?_; rintro e w5 ⟨rfl, hb5⟩; have b1 := blk_below hb5 b1; have b2 := blk_below hb5 b2; have b3 := blk_below hb5 b3; have hB := below_trans hB hb5)
      | (with_reducible refine wpList_storeB rfl 40 _ _ rfl g3 0 (.agg #[.int .i8 ((lowG G x y).1), .int .i8 ((lowG G x y).2)]) #[.int .i8 ((lowG G x y).1), .int .i8 ((lowG G x y).2)] rfl rfl rfl _ 40 b3 (by kernel_rfl) (by simp [Value.oneCell']) (by simp) #[.int .i8 ((lowG G x y).1), .int .i8 ((lowG G x y).2)] (by simp) ?_; intro w6 b3 hS6; have b1 := hS6.blk b1 (by omega); have b2 := hS6.blk b2 (by omega); have hB := hS6.below hB hs3))
    exact bodyPost_ret (results_ct rfl g3 40 _ (0, 0) _ rfl b3 Try.underlying40 rfl (isz40 _ _)) rfl ⟨by rw [hT.out.1, hT.out.2]; rfl, hB⟩
set_option maxHeartbeats 4000000 in
set_option maxRecDepth 100000 in
theorem l04Fall_is (G : Gd) (gl : Value) (hG : GdOk G) (hV : GValid G) (x y : Int) (hp : isPt G.W G.H x y) (g : Nat) (w : World) (hv : Cs w gl G.gul) (hb : w.heap[g]? = some (.cells (gc G gl) 33 (0, 0))) :
    Calls Try.prog 69 #[.pointer (some ⟨g, 0, none⟩), .agg #[.int .i8 x, .int .i8 y]] w (runPost G x y w) := by
  have hlen := hG.len
  have hn := hV.n
  obtain ⟨hx, hy⟩ := pt_lt hV hp
  obtain ⟨r, hr⟩ := IdxR.ex (eqP (x, y)) G.gul
  have hgb := gulB_of hr
  have HR := Lib.hid hr
  have hB := Below.refl w.heap.size w
  have hgw := blk_lt hb
  clear hr
  go_enter Try.func69, Try.ntmps69
  cases hg : gulB G x y with
  | true =>
    have hT : Hid (runT G x y = (x, y) ∧ runB G x y = false) := by unfold runT runB; rw [hg]; exact ⟨rfl, rfl⟩
    rw [hg] at hgb
    go_wp2_with (first
      | (with_reducible refine wpList_box 3 rfl rfl 40 _ rfl (.agg #[.int .i8 x, .int .i8 y]) rfl #[.int .i8 x, .int .i8 y] rfl ?_; intro g2 w2 b2 hb2 _hs2; have hs2 : w.heap.size ≤ g2 := Nat.le_trans hB.size _hs2; have hB := below_trans hB hb2)
      | (with_reducible refine wpList_allocB 4 rfl rfl 40 rfl (.agg #[.int .i8 0, .int .i8 0]) #[.int .i8 0, .int .i8 0] (by kernel_rfl) rfl ?_; intro g3 w3 b3 hb3 _hs3; have hs3 : w.heap.size ≤ g3 := Nat.le_trans hB.size _hs3; have hB := below_trans hB hb3; have n2_3 : g2 < g3 := Nat.lt_of_lt_of_le (blk_lt b2) _hs3; have b2 := blk_below hb3 b2;  have z2 := blk_two b2; obtain ⟨x0, y0⟩ := z2)
      | (go_at_call 84; refine (l04Gully_is G gl hG (by omega) x y g _ (hv.below hB) (blk_below hB hb) r HR.out).mono ?_; rintro e w4 ⟨rfl, hb4⟩; have b2 := blk_below hb4 b2; have b3 := blk_below hb4 b3; have x0 := cell_below hb4 x0; have y0 := cell_below hb4 y0; have hB := below_trans hB hb4)
      | (with_reducible refine wpList_storeB rfl 40 _ _ rfl g3 0 (.agg #[.int .i8 (x), .int .i8 (y)]) #[.int .i8 (x), .int .i8 (y)] rfl rfl rfl _ 40 b3 (by kernel_rfl) (by simp [Value.oneCell']) (by simp) #[.int .i8 (x), .int .i8 (y)] (by simp) ?_; intro w5 b3 hS5; have b2 := hS5.blk b2 (by omega); have hB := hS5.below hB hs3))
    exact bodyPost_ret (results_ct rfl g3 40 _ (0, 0) _ rfl b3 Try.underlying40 rfl (isz40 _ _)) rfl ⟨by rw [hT.out.1, hT.out.2]; rfl, hB⟩
  | false =>
    have hT : Hid (runT G x y = lowG G x y ∧ runB G x y = !eqP (lowG G x y) (x, y)) := by unfold runT runB; rw [hg]; exact ⟨rfl, rfl⟩
    rw [hg] at hgb
    go_wp2_with (first
      | (with_reducible refine wpList_box 3 rfl rfl 40 _ rfl (.agg #[.int .i8 x, .int .i8 y]) rfl #[.int .i8 x, .int .i8 y] rfl ?_; intro g2 w2 b2 hb2 _hs2; have hs2 : w.heap.size ≤ g2 := Nat.le_trans hB.size _hs2; have hB := below_trans hB hb2)
      | (with_reducible refine wpList_allocB 4 rfl rfl 40 rfl (.agg #[.int .i8 0, .int .i8 0]) #[.int .i8 0, .int .i8 0] (by kernel_rfl) rfl ?_; intro g3 w3 b3 hb3 _hs3; have hs3 : w.heap.size ≤ g3 := Nat.le_trans hB.size _hs3; have hB := below_trans hB hb3; have n2_3 : g2 < g3 := Nat.lt_of_lt_of_le (blk_lt b2) _hs3; have b2 := blk_below hb3 b2;  have z2 := blk_two b2; obtain ⟨x0, y0⟩ := z2)
      | (go_at_call 84; refine (l04Gully_is G gl hG (by omega) x y g _ (hv.below hB) (blk_below hB hb) r HR.out).mono ?_; rintro e w4 ⟨rfl, hb4⟩; have b2 := blk_below hb4 b2; have b3 := blk_below hb4 b3; have x0 := cell_below hb4 x0; have y0 := cell_below hb4 y0; have hB := below_trans hB hb4)
      | (with_reducible refine wpList_allocB 6 rfl rfl 40 rfl (.agg #[.int .i8 0, .int .i8 0]) #[.int .i8 0, .int .i8 0] (by kernel_rfl) rfl ?_; intro g4 w4 b4 hb4 _hs4; have hs4 : w.heap.size ≤ g4 := Nat.le_trans hB.size _hs4; have hB := below_trans hB hb4; have n2_4 : g2 < g4 := Nat.lt_of_lt_of_le (blk_lt b2) _hs4; have n3_4 : g3 < g4 := Nat.lt_of_lt_of_le (blk_lt b3) _hs4; have b2 := blk_below hb4 b2; have b3 := blk_below hb4 b3; have x0 := cell_below hb4 x0; have y0 := cell_below hb4 y0)
      | (with_reducible refine wpList_storeB rfl 40 _ _ rfl g4 0 (.agg #[.int .i8 (x), .int .i8 (y)]) #[.int .i8 (x), .int .i8 (y)] rfl rfl rfl _ 40 b4 (by kernel_rfl) (by simp [Value.oneCell']) (by simp) #[.int .i8 (x), .int .i8 (y)] (by simp) ?_; intro w5 b4 hS5; have b2 := hS5.blk b2 (by omega); have b3 := hS5.blk b3 (by omega); have hB := hS5.below hB hs4; have z2 := blk_two b2; obtain ⟨x0, y0⟩ := z2)
      | (go_at_call 55; refine (l04Beside_is G gl hG x y hx hy g _ (blk_below hB hb)).mono ?_; rintro e w6 ⟨u, rfl, hO, hb6⟩; have l4 := blk_lt b4; have b2 := blk_below hb6 b2; have b3 := blk_below hb6 b3; have b4 := blk_below hb6 b4; have hB := below_trans hB hb6; obtain ⟨A2, k2, rfl⟩ := hO.sl))
    have hbl := bes_le G x y
    have hsz6 := hb6.size
    have b1 := blk_below hB hb
    clear x0 y0
    go_loopw [8] (fun v wr => ∃ i : Nat, i ≤ (besOf G x y).length ∧ v = .int .i64 i ∧ Kept [g4] w6 wr ∧ wr.heap[g4]? = some (.cells #[.int .i8 (lowIn G (x, y) ((besOf G x y).take i)).1, .int .i8 (lowIn G (x, y) ((besOf G x y).take i)).2] 40 (0, 0))) (fun v _ => (besOf G x y).length - (intOf v).toNat)
    case atStart => exact ⟨0, Nat.zero_le _, rfl, Kept.refl _ _, b4⟩
    case round =>
      obtain ⟨i, hi, rfl, hK, b4⟩ := hrel
      have hsz := hK.size
      by_cases hlt : i < (besOf G x y).length
      · have hlt' : decide ((i : Int) < ((besOf G x y).length : Int)) = true := decide_eq_true (by omega)
        obtain ⟨ad, rfl, hci⟩ := (hO.kept hK (by simp; omega)).at hlt
        have hq := bes_at hlt
        have hr := lowTake_pt hp i
        have hfn := lowIn_next G (x, y) hlt
        revert hq hci hfn hr b4
        generalize (besOf G x y).getD i (0, 0) = q
        generalize lowIn G (x, y) ((besOf G x y).take i) = r
        obtain ⟨qx, qy⟩ := q
        obtain ⟨rx, ry⟩ := r
        intro b4 hci hq hr hfn
        have hci2 := hci.two
        obtain ⟨c1, c2⟩ := hci2
        dsimp only at hq hr b4
        obtain ⟨hqx, hqy⟩ := pt_lt hV hq
        obtain ⟨hrx, hry⟩ := pt_lt hV hr
        have HFN := Lib.hid hfn
        clear hfn hci
        have b1 := hK.blk b1 (by simp; omega)
        have x1 := ext_cell c1
        have x2 := ext_cell c2
        have x3 := ext_cell (v := .int .i8 rx) ((blk_cell b4 0).trans rfl)
        have x4 := ext_cell (v := .int .i8 ry) ((blk_cell b4 1).trans rfl)
        have bx := ext_blk b1
        go_wp2
        try simp only [Act.put, List.setIfInBounds_toArray, List.set_cons_zero, List.set_cons_succ]
        refine wp_region_ext (by kernel_rfl) (by kernel_rfl) ?_
        repeat (first
          | go_big_quiet_skip
          | (go_big_quiet_want
             go_big_quiet_op
             first
               | go_big_quiet_on
               | (apply Exists.intro
                  refine ⟨fun _ => ?_, ?_⟩
                  · first
                      | (go_at_call 56; exact Calls.ext_of (heightS_is G gl hG _ _ (by assumption) (by assumption) g _ (bx _)))
                  go_big_quiet_on)))
        refine wpQuiet_nil ?_
        intro w10 hb10
        have b4 := blk_below hb10 b4
        have c1 := cell_below hb10 c1
        have c2 := cell_below hb10 c2
        have hK5 := hK.trans (Kept.of_below hb10)
        by_cases hgt : hAt G qx qy < hAt G rx ry
        · have hgt' : decide (hAt G qx qy < hAt G rx ry) = true := decide_eq_true hgt
          have HU : Hid (lowU G (rx, ry) (qx, qy) = (qx, qy)) := if_pos hgt
          clear hgt
          rw [hgt']
          go_wp2_with (first
            | (with_reducible refine wpList_storeB rfl 40 _ _ rfl g4 0 (.agg #[.int .i8 (qx), .int .i8 (qy)]) #[.int .i8 (qx), .int .i8 (qy)] rfl rfl rfl _ 40 b4 (by kernel_rfl) (by simp [Value.oneCell']) (by simp) #[.int .i8 (qx), .int .i8 (qy)] (by simp) ?_; intro w11 b4 hS11))
          go_roundw
          case rel => exact ⟨i + 1, by omega, by go_num, hK5.trans (Kept.of_setB hS11 (by simp)), by rw [HFN.out, HU.out]; exact b4⟩
          case measure => simp [intOf]; omega
        · have hgt' : decide (hAt G qx qy < hAt G rx ry) = false := decide_eq_false hgt
          have HU : Hid (lowU G (rx, ry) (qx, qy) = (rx, ry)) := if_neg hgt
          clear hgt
          rw [hgt']
          go_wp2
          go_roundw
          case rel => exact ⟨i + 1, by omega, by go_num, hK5, by rw [HFN.out, HU.out]; exact b4⟩
          case measure => simp [intOf]; omega
      · obtain rfl : i = (besOf G x y).length := by omega
        rw [List.take_length] at b4
        have eL : lowIn G (x, y) (besOf G x y) = lowG G x y := rfl
        rw [eL] at b4
        have b2 := hK.blk b2 (by simp; omega)
        have b3 := hK.blk b3 (by simp; omega)
        have hKB : Below w.heap.size w wr := hB.trans (hK.below hB.size (by simp; omega))
        go_wp2
        try simp only [Act.put, List.setIfInBounds_toArray, List.set_cons_zero, List.set_cons_succ]
        refine wp_region_held (S := fun w' => w'.heap[g4]? = some (.cells #[.int .i8 (lowG G x y).1, .int .i8 (lowG G x y).2] 40 (0, 0)) ∧ w'.heap[g2]? = some (.cells #[.int .i8 x, .int .i8 y] 40 (0, 0))) (by kernel_rfl) ?_
        refine anyH_val 0 38 _ (.agg #[.int .i8 (lowG G x y).1, .int .i8 (lowG G x y).2]) rfl rfl rfl (by kernel_rfl) (by kernel_rfl) (by kernel_rfl) (fun _ _ _ h => h) ⟨b4, b2⟩ (fun w' hw => run_load_row' _ 40 _ rfl g4 rfl 40 _ (0, 0) _ hw.1 Try.underlying40 rfl (isz40 _ _)) ?_
        refine anyH_val 1 39 _ (.agg #[.int .i8 (lowG G x y).1, .int .i8 (lowG G x y).2]) rfl rfl rfl (by kernel_rfl) (by kernel_rfl) (by kernel_rfl) (fun _ _ _ h => h) ⟨b4, b2⟩ (fun w' hw => run_load_row' _ 40 _ rfl g4 rfl 40 _ (0, 0) _ hw.1 Try.underlying40 rfl (isz40 _ _)) ?_
        refine anyH_val 2 40 _ (.agg #[.int .i8 x, .int .i8 y]) rfl rfl rfl (by kernel_rfl) (by kernel_rfl) (by kernel_rfl) (fun _ _ _ h => h) ⟨b4, b2⟩ (fun w' hw => run_load_row' _ 40 _ rfl g2 rfl 40 _ (0, 0) _ hw.2 Try.underlying40 rfl (isz40 _ _)) ?_
        refine anyH_val 3 41 _ (.bool (!eqP (lowG G x y) (x, y))) rfl rfl rfl (by kernel_rfl) (by kernel_rfl) (by kernel_rfl) (fun _ _ _ h => h) ⟨b4, b2⟩ (fun w' hw => run_ne40' _ _ _ rfl _ _ _ _ rfl rfl) ?_
        refine anyH_store1 4 _ (by kernel_rfl) rfl rfl rfl 40 _ _ rfl g3 _ #[.int .i8 (lowG G x y).1, .int .i8 (lowG G x y).2] rfl rfl rfl _ 40 b3 (isz40 _ _) (by simp [Value.oneCell']) rfl ?_
        intro w22 b3 hS22
        have b4 := hS22.blk b4 (by omega)
        have b2 := hS22.blk b2 (by omega)
        refine ⟨⟨b4, b2⟩, ?_⟩
        refine anyH_val 5 5 _ (.bool (!eqP (lowG G x y) (x, y))) rfl rfl rfl (by kernel_rfl) (by kernel_rfl) (by kernel_rfl) (fun _ _ _ h => h) ⟨b4, b2⟩ (fun w' hw => run_assign' _ _ rfl _ rfl) ?_
        refine wpAnyH_done (by kernel_rfl) ?_ _
        simp only [Act.put, List.setIfInBounds_toArray, List.set_cons_zero, List.set_cons_succ]
        go_wp2
        exact bodyPost_ret (results_ct rfl g3 40 _ (0, 0) _ rfl b3 Try.underlying40 rfl (isz40 _ _)) rfl ⟨by rw [hT.out.1, hT.out.2]; rfl, hS22.below hKB.drew hs3⟩
end Go.Proofs.Ytkhheofgnhndbaa
