/- The fewest gullies: both answers. -/
import Derived.Test.YtkhheofgnhndbaaHd
namespace Go.Proofs.Ytkhheofgnhndbaa
set_option linter.unusedVariables false
set_option linter.unusedSimpArgs false
open Go.RowKit
theorem OwnC.slc {B : Nat} {w : World} {v : Value} {xs : List (Int × Int)} (h : OwnC B w v xs) : ∃ A c, v = .slice A xs.length c ∧ c ≤ maxLen := by
  obtain ⟨A, c, e, _, h2, _⟩ := h.cs
  exact ⟨A, c, e, h2⟩
def fwB (G : Gd) (p : Int × Int) : Bool := eqP (lowG G p.1 p.2) p
def fews (G : Gd) : List (Int × Int) := (ptsOf G).filter (fwB G)
open Classical in
noncomputable def fewV (G : Gd) : List (Int × Int) := if GValid G then fews G else []
theorem few_le {G : Gd} : (fewV G).length ≤ 1000 := by
  unfold fewV
  split
  · rename_i hV
    have h1 := pts_le hV
    have h2 : (fews G).length ≤ (ptsOf G).length := List.length_filter_le _ _
    omega
  · simp
/-- The ground without its gullies. -/
def bare (G : Gd) : Gd := { G with gul := [] }
theorem bare_ok {G : Gd} (h : GdOk G) : GdOk (bare G) := ⟨h.W, h.H, h.len, h.hs, fun p hp => absurd hp (by simp [bare])⟩
theorem bare_valid {G : Gd} (h : GValid G) : GValid (bare G) := ⟨h.W, h.H, by simp [bare], h.h, fun i hi => absurd hi (by simp [bare])⟩
theorem bare_stB (G : Gd) (p : Int × Int) : stB (bare G) p = fwB G p := by
  have e1 : gulB (bare G) p.1 p.2 = false := rfl
  have e2 : lowG (bare G) p.1 p.2 = lowG G p.1 p.2 := rfl
  simp [stB, fwB, runB, e1, e2]
theorem bare_stands (G : Gd) : stands (bare G) = fews G := by
  have e : stB (bare G) = fwB G := funext (bare_stB G)
  unfold stands fews
  rw [e]; rfl
theorem gc_bare (G : Gd) (v : Value) : gc G v = gc (bare G) v := by unfold gc bare; rfl
theorem few80 (G : Gd) (gl : Value) (hG : GdOk G) (hV : GValid G) (g1 : Nat) (w : World) (hb : w.heap[g1]? = some (.cells (gc G gl) 33 (0, 0))) :
    PredC 80 #[.pointer (some ⟨g1, 0, none⟩)] w.heap.size w G.W.toNat G.H.toNat (fwB G) := by
  have hlen := hG.len
  refine ⟨by go_simp, fun x y hx hy w' hw => ?_⟩
  have hp := isPt_nat hV hx hy
  have b1 := blk_below hw hb
  generalize (x : Int) = x at hp ⊢
  generalize (y : Int) = y at hp ⊢
  clear hx hy
  have hB := Below.refl w'.heap.size w'
  have hf : Hid (fwB G (x, y) = eqP (lowG G x y) (x, y)) := rfl
  go_enter Try.func80, Try.ntmps80
  go_wp2_with (first
    | (with_reducible refine wpList_box 2 rfl rfl 40 _ rfl (.agg #[.int .i8 x, .int .i8 y]) rfl #[.int .i8 x, .int .i8 y] rfl ?_; intro g2 w2 b2 hb2 _hs2; have n1_2 : g1 < g2 := Nat.lt_of_lt_of_le (blk_lt b1) _hs2; have b1 := blk_below hb2 b1;  have z2 := blk_two b2; obtain ⟨x0, y0⟩ := z2)
    | (with_reducible refine wpList_load_row rfl 33 _ rfl g1 rfl 33 _ (0, 0) _ b1 Try.underlying33 rfl (gsize _ _ hlen) ?_)
    | (go_at_call 81; refine (lowest_is G gl hG hV x y hp _).mono ?_; rintro e w20 ⟨rfl, hb20⟩; have b1 := blk_below hb20 b1; have b2 := blk_below hb20 b2; have hB := below_trans hb2 hb20)
    | (with_reducible refine wpList_allocB 4 rfl rfl 40 rfl (.agg #[.int .i8 0, .int .i8 0]) #[.int .i8 0, .int .i8 0] (by kernel_rfl) rfl ?_; intro g4 w4 b4 hb4 _hs4; have n1_4 : g1 < g4 := Nat.lt_of_lt_of_le (blk_lt b1) _hs4; have n2_4 : g2 < g4 := Nat.lt_of_lt_of_le (blk_lt b2) _hs4; have b1 := blk_below hb4 b1; have b2 := blk_below hb4 b2)
    | (with_reducible refine wpList_storeB rfl 40 _ _ rfl g4 0 (.agg #[.int .i8 ((lowG G x y).1), .int .i8 ((lowG G x y).2)]) #[.int .i8 ((lowG G x y).1), .int .i8 ((lowG G x y).2)] rfl rfl rfl _ 40 b4 (by kernel_rfl) (by simp [Value.oneCell']) (by simp) #[.int .i8 ((lowG G x y).1), .int .i8 ((lowG G x y).2)] (by simp) ?_; intro w5 b4 hS5; have b1 := hS5.blk b1 (by omega); have b2 := hS5.blk b2 (by omega); have hbx := hS5.below hb4 _hs4; have hB := below_trans hB hbx))
  go_ret
  exact ⟨by rw [hf.out]; simp, hB⟩
set_option maxHeartbeats 1000000 in
theorem implFewest_is (G : Gd) (gl : Value) (hG : GdOk G) (w : World) (hv : Cs w gl G.gul) :
    Calls Try.prog 40 #[.agg (gc G gl)] w (slPost (fewV G) (okCode G) w) := by
  have hlen := hG.len
  have hB := Below.refl w.heap.size w
  by_cases hV : GValid G
  · have eV : Hid (fewV G = fews G ∧ okCode G = 0) := ⟨if_pos hV, if_pos hV⟩
    have eS : Hid (rowsUp (fwB G) G.W.toNat G.H.toNat = fews G) := rowsUp_filter _ _ _
    go_enter Try.func40, Try.ntmps40
    go_wp2_with (first
      | (with_reducible refine wpList_box 1 rfl rfl 33 _ rfl (.agg (gc G gl)) rfl (gc G gl) rfl ?_; intro g1 w1 b1 hb1 _hs1; have hs1 : w.heap.size ≤ g1 := Nat.le_trans hB.size _hs1; have hB := below_trans hB hb1)
      | (with_reducible refine wpList_load_row rfl 33 _ rfl g1 rfl 33 _ (0, 0) _ b1 Try.underlying33 rfl (gsize _ _ hlen) ?_)
      | (go_at_call 17; refine (implValid_is G gl hG _ (hv.below hB) true (by simp [hV])).mono ?_; rintro e w2 ⟨rfl, hb2⟩; have b1 := blk_below hb2 b1; have hB := below_trans hB hb2)
      | (go_at_call 57; refine (points_is G gl hG hV 80 _ _ _ (few80 G gl hG hV g1 _ b1)).mono ?_; rintro e w3 ⟨v, rfl, hO, hb3⟩))
    rw [eS.out] at hO
    go_ret2
    exact ⟨v, by rw [eV.out.2]; rfl, by rw [eV.out.1]; exact hO.lower hB.size, below_trans hB hb3⟩
  · have eV : Hid (fewV G = [] ∧ okCode G = 1) := ⟨if_neg hV, if_neg hV⟩
    go_enter Try.func40, Try.ntmps40
    go_wp2_with (first
      | (with_reducible refine wpList_box 1 rfl rfl 33 _ rfl (.agg (gc G gl)) rfl (gc G gl) rfl ?_; intro g1 w1 b1 hb1 _hs1; have hs1 : w.heap.size ≤ g1 := Nat.le_trans hB.size _hs1; have hB := below_trans hB hb1)
      | (with_reducible refine wpList_load_row rfl 33 _ rfl g1 rfl 33 _ (0, 0) _ b1 Try.underlying33 rfl (gsize _ _ hlen) ?_)
      | (go_at_call 17; refine (implValid_is G gl hG _ (hv.below hB) false (by simp [hV])).mono ?_; rintro e w2 ⟨rfl, hb2⟩; have b1 := blk_below hb2 b1; have hB := below_trans hB hb2))
    go_ret2
    exact ⟨_, by rw [eV.out.2]; rfl, by rw [eV.out.1]; exact OwnC.nil _ _, hB⟩
set_option maxHeartbeats 1000000 in
set_option maxRecDepth 100000 in
theorem specFewest_is (G : Gd) (gl : Value) (hG : GdOk G) (w : World) (hv : Cs w gl G.gul) :
    Calls Try.prog 39 #[.agg (gc G gl)] w (slPost (fewV G) (okCode G) w) := by
  have hlen := hG.len
  have hB := Below.refl w.heap.size w
  obtain ⟨A0, c0, rfl, hv0⟩ := id hv
  have hlen2 : (bare G).hs.length = 81 := hlen
  have hCu0 : ∀ (w' : World) (A : Option Addr) (c : Nat), c ≤ maxLen → Cs w' (.slice A 0 c) (bare G).gul := fun w' A c hc => ⟨A, c, rfl, Nat.zero_le _, hc, fun h => absurd h (by simp [bare])⟩
  by_cases hV : GValid G
  · have eV : Hid (fewV G = fews G ∧ okCode G = 0) := ⟨if_pos hV, if_pos hV⟩
    have hV2 := bare_valid hV
    have eW : Hid (standsV (bare G) = fews G ∧ okCode (bare G) = 0) := ⟨(if_pos hV2).trans (bare_stands G), if_pos hV2⟩
    have HSp := Lib.hid (fun v w' h => specStands_is (bare G) v (bare_ok hG) w' h)
    rw [eW.out.1, eW.out.2] at HSp
    go_enter Try.func39, Try.ntmps39
    go_wp2_with (first
      | (with_reducible refine wpList_box 1 rfl rfl 33 _ rfl (.agg (gc G (.slice A0 G.gul.length c0))) rfl (gc G (.slice A0 G.gul.length c0)) rfl ?_; intro g1 w1 b1 hb1 _hs1; have hs1 : w.heap.size ≤ g1 := Nat.le_trans hB.size _hs1; have hB := below_trans hB hb1)
      | (with_reducible refine wpList_load_row rfl 33 _ rfl g1 rfl 33 _ (0, 0) _ b1 Try.underlying33 rfl (gsize _ _ hlen) ?_)
      | (with_reducible refine wpList_allocB 4 rfl rfl 33 rfl (.agg (gc gz (.slice none 0 0))) (gc gz (.slice none 0 0)) (by kernel_rfl) rfl ?_; intro g6 w6 b6 hb6 _hs6; have hs6 := Nat.le_trans hB.size _hs6; have hB := below_trans hB hb6; have n1_6 : g1 < g6 := Nat.lt_of_lt_of_le (blk_lt b1) _hs6; have b1 := blk_below hb6 b1)
      | (with_reducible refine wpList_storeB rfl 33 _ _ rfl g6 0 (.agg (gc G (.slice A0 G.gul.length c0))) (gc G (.slice A0 G.gul.length c0)) rfl rfl rfl _ 33 b6 (gsize _ _ hlen) (gc_one _ _ rfl) (by rw [gc_size _ _ hlen, gc_size _ _ (by simp [gz])]; simp) (gc G (.slice A0 G.gul.length c0)) (gc_whole _ _ _ _ hlen (by simp [gz])) ?_; intro w7 b6 hS7; have b1 := hS7.blk b1 (by omega); have hB := hS7.below hB hs6)
      | (with_reducible refine wpList_nilC 6 rfl rfl rfl ?_; intro v0 w8 hO0 hb8; have b1 := blk_below hb8 b1; have b6 := blk_below hb8 b6; have hB := below_trans hB hb8; have hsl := hO0.slc; obtain ⟨Au, cu, rfl, hcu⟩ := hsl)
      | (with_reducible refine wpList_storeB rfl 31 _ _ rfl g6 83 (.slice Au 0 cu) #[.slice Au 0 cu] rfl rfl rfl _ 33 b6 (by kernel_rfl) (by simp [Value.oneCell']) (by rw [gc_size _ _ hlen]; simp) (gc (bare G) (.slice Au 0 cu)) (by rw [gc_setGl _ _ _ hlen]; exact gc_bare _ _) ?_; intro w9 b6 hS9; have b1 := hS9.blk b1 (by omega); have hB := hS9.below hB hs6)
      | (go_at_call 48; refine (l04Ok_is G _ hG g1 _ (hv.below hB) b1 true (by simp [hV])).mono ?_; rintro e w10 ⟨rfl, hb10⟩; have b1 := blk_below hb10 b1; have b6 := blk_below hb10 b6; have hB := below_trans hB hb10)
      | (with_reducible refine wpList_load_row rfl 33 _ rfl g6 rfl 33 _ (0, 0) _ b6 Try.underlying33 rfl (gsize _ _ hlen2) ?_)
      | (go_at_call 46; refine (HSp.out _ _ (hCu0 _ Au cu hcu)).mono ?_; rintro e w11 ⟨v, rfl, hO, hb11⟩))
    go_ret2
    exact ⟨v, by rw [eV.out.2]; rfl, by rw [eV.out.1]; exact hO.lower hB.size, below_trans hB hb11⟩
  · have eV : Hid (fewV G = [] ∧ okCode G = 1) := ⟨if_neg hV, if_neg hV⟩
    go_enter Try.func39, Try.ntmps39
    go_wp2_with (first
      | (with_reducible refine wpList_box 1 rfl rfl 33 _ rfl (.agg (gc G (.slice A0 G.gul.length c0))) rfl (gc G (.slice A0 G.gul.length c0)) rfl ?_; intro g1 w1 b1 hb1 _hs1; have hs1 : w.heap.size ≤ g1 := Nat.le_trans hB.size _hs1; have hB := below_trans hB hb1)
      | (with_reducible refine wpList_load_row rfl 33 _ rfl g1 rfl 33 _ (0, 0) _ b1 Try.underlying33 rfl (gsize _ _ hlen) ?_)
      | (with_reducible refine wpList_allocB 4 rfl rfl 33 rfl (.agg (gc gz (.slice none 0 0))) (gc gz (.slice none 0 0)) (by kernel_rfl) rfl ?_; intro g6 w6 b6 hb6 _hs6; have hs6 := Nat.le_trans hB.size _hs6; have hB := below_trans hB hb6; have n1_6 : g1 < g6 := Nat.lt_of_lt_of_le (blk_lt b1) _hs6; have b1 := blk_below hb6 b1)
      | (with_reducible refine wpList_storeB rfl 33 _ _ rfl g6 0 (.agg (gc G (.slice A0 G.gul.length c0))) (gc G (.slice A0 G.gul.length c0)) rfl rfl rfl _ 33 b6 (gsize _ _ hlen) (gc_one _ _ rfl) (by rw [gc_size _ _ hlen, gc_size _ _ (by simp [gz])]; simp) (gc G (.slice A0 G.gul.length c0)) (gc_whole _ _ _ _ hlen (by simp [gz])) ?_; intro w7 b6 hS7; have b1 := hS7.blk b1 (by omega); have hB := hS7.below hB hs6)
      | (with_reducible refine wpList_nilC 6 rfl rfl rfl ?_; intro v0 w8 hO0 hb8; have b1 := blk_below hb8 b1; have b6 := blk_below hb8 b6; have hB := below_trans hB hb8; have hsl := hO0.slc; obtain ⟨Au, cu, rfl, hcu⟩ := hsl)
      | (with_reducible refine wpList_storeB rfl 31 _ _ rfl g6 83 (.slice Au 0 cu) #[.slice Au 0 cu] rfl rfl rfl _ 33 b6 (by kernel_rfl) (by simp [Value.oneCell']) (by rw [gc_size _ _ hlen]; simp) (gc (bare G) (.slice Au 0 cu)) (by rw [gc_setGl _ _ _ hlen]; exact gc_bare _ _) ?_; intro w9 b6 hS9; have b1 := hS9.blk b1 (by omega); have hB := hS9.below hB hs6)
      | (go_at_call 48; refine (l04Ok_is G _ hG g1 _ (hv.below hB) b1 false (by simp [hV])).mono ?_; rintro e w10 ⟨rfl, hb10⟩; have b1 := blk_below hb10 b1; have b6 := blk_below hb10 b6; have hB := below_trans hB hb10)
      | (with_reducible refine wpList_nilC 10 rfl rfl rfl ?_; intro v1 w12 hO1 hb12; have hOr := hO1.lower hB.size; have hB := below_trans hB hb12))
    go_ret2
    exact ⟨_, by rw [eV.out.2]; rfl, by rw [eV.out.1]; exact hOr, hB⟩
end Go.Proofs.Ytkhheofgnhndbaa
