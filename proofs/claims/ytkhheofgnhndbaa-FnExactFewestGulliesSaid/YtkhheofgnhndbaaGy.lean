/- The points at which water stands; the fewest gullies: the program's answers. -/
import Derived.Test.YtkhheofgnhndbaaGv
namespace Go.Proofs.Ytkhheofgnhndbaa
set_option linter.unusedVariables false
set_option linter.unusedSimpArgs false
open Go.RowKit
theorem wpList_load_rowG {P : Program} {ops : Array Oper} {rest : List Oper} {o : Oper} {a : Act} {w : World} {Q : Exit → Act → World → Prop} (hw : Region.wanted o (yielded ops a.tmps) = true) (ty : TypeId) (x : Operand) (ho : o.op = .load ty x)
    (g : Nat) (hx : a.eval x = .pointer (some ⟨g, 0, none⟩)) (t : TypeId) (cs : Array Value) (fr : Nat × Nat) (d : TypeDesc) (hg : w.heap[g]? = some (.cells cs t fr))
    (hu : P.underlying ty = some d) (hd : (match d with | .struct _ | .array _ _ => true | _ => false) = true) (hi : (P.info? ty).map (·.size) = some cs.size)
    (h : wpList P ops Q rest (a.put o.dst (.agg cs)) w) : wpList P ops Q (o :: rest) a w := by
  show if _ then _ else _
  rw [if_pos hw]
  exact .inl (wp_load_row ty x ho g hx t cs fr d hg hu hd hi h)
theorem isPt_nat {G : Gd} (hV : GValid G) {x y : Nat} (hx : x < G.W.toNat) (hy : y < G.H.toNat) : isPt G.W G.H x y := by
  have h1 := hV.W
  have h2 := hV.H
  unfold isPt
  omega
theorem stand85 (G : Gd) (gl : Value) (hG : GdOk G) (hV : GValid G) (g1 : Nat) (w : World) (hv : Cs w gl G.gul) (hb : w.heap[g1]? = some (.cells (gc G gl) 33 (0, 0))) :
    PredC 85 #[.pointer (some ⟨g1, 0, none⟩)] w.heap.size w G.W.toNat G.H.toNat (stB G) := by
  have hlen := hG.len
  have hn := hV.n
  refine ⟨by go_simp, fun x y hx hy w' hw => ?_⟩
  have hp := isPt_nat hV hx hy
  obtain ⟨hx9, hy9⟩ := pt_lt hV hp
  have b1 := blk_below hw hb
  have hvr := hv.below hw
  generalize (x : Int) = x at hp hx9 hy9 ⊢
  generalize (y : Int) = y at hp hx9 hy9 ⊢
  clear hx hy
  have hB := Below.refl w'.heap.size w'
  cases hs : runB G x y with
  | true =>
    have hf : Hid (stB G (x, y) = false) := by show stB G (x, y) = false; simp [stB, hs]
    have HS := Lib.hid hs
    clear hs
    go_enter Try.func85, Try.ntmps85
    go_wp2_with (first
      | (with_reducible refine wpList_box 2 rfl rfl 40 _ rfl (.agg #[.int .i8 x, .int .i8 y]) rfl #[.int .i8 x, .int .i8 y] rfl ?_; intro g2 w2 b2 hb2 _hs2; have n1_2 : g1 < g2 := Nat.lt_of_lt_of_le (blk_lt b1) _hs2; have b1 := blk_below hb2 b1;  have z2 := blk_two b2; obtain ⟨x0, y0⟩ := z2; have hvr := hvr.below hb2)
      | (with_reducible refine wpList_load_row rfl 33 _ rfl g1 rfl 33 _ (0, 0) _ b1 Try.underlying33 rfl (gsize _ _ hlen) ?_)
      | (go_at_call 71; refine (runs_v hG hV hp HS.out _ hvr).mono ?_; rintro e w20 ⟨rfl, hb20⟩; have b1 := blk_below hb20 b1; have b2 := blk_below hb20 b2; have hvr := hvr.below hb20; have hB := below_trans hb2 hb20; have z2 := blk_two b2; obtain ⟨x0, y0⟩ := z2)
      | (with_reducible refine wpList_allocB 4 rfl rfl 40 rfl (.agg #[.int .i8 0, .int .i8 0]) #[.int .i8 0, .int .i8 0] (by kernel_rfl) rfl ?_; intro g4 w4 b4 hb4 _hs4; have n1_4 : g1 < g4 := Nat.lt_of_lt_of_le (blk_lt b1) _hs4; have n2_4 : g2 < g4 := Nat.lt_of_lt_of_le (blk_lt b2) _hs4; have b1 := blk_below hb4 b1; have b2 := blk_below hb4 b2)
      | (with_reducible refine wpList_storeB rfl 40 _ _ rfl g4 0 (.agg #[.int .i8 ((runT G x y).1), .int .i8 ((runT G x y).2)]) #[.int .i8 ((runT G x y).1), .int .i8 ((runT G x y).2)] rfl rfl rfl _ 40 b4 (by kernel_rfl) (by simp [Value.oneCell']) (by simp) #[.int .i8 ((runT G x y).1), .int .i8 ((runT G x y).2)] (by simp) ?_; intro w5 b4 hS5; have b1 := hS5.blk b1 (by omega); have b2 := hS5.blk b2 (by omega); have hbx := hS5.below hb4 _hs4; have hB := below_trans hB hbx; have hvr := hvr.below hbx; have z2 := blk_two b2; obtain ⟨x0, y0⟩ := z2))
    go_ret
    exact ⟨by rw [hf.out]; rfl, hB⟩
  | false =>
    obtain ⟨r, hr⟩ := IdxR.ex (eqP (x, y)) G.gul
    have hgb := gulB_of hr
    have HRr := Lib.hid hr
    have HS := Lib.hid hs
    have hf : Hid (stB G (x, y) = !gulB G x y) := by show stB G (x, y) = !gulB G x y; simp [stB, hs]
    rw [← hgb] at hf
    clear hs hr hgb
    go_enter Try.func85, Try.ntmps85
    go_wp2_with (first
      | (with_reducible refine wpList_box 2 rfl rfl 40 _ rfl (.agg #[.int .i8 x, .int .i8 y]) rfl #[.int .i8 x, .int .i8 y] rfl ?_; intro g2 w2 b2 hb2 _hs2; have n1_2 : g1 < g2 := Nat.lt_of_lt_of_le (blk_lt b1) _hs2; have b1 := blk_below hb2 b1;  have z2 := blk_two b2; obtain ⟨x0, y0⟩ := z2; have hvr := hvr.below hb2)
      | (with_reducible refine wpList_load_row rfl 33 _ rfl g1 rfl 33 _ (0, 0) _ b1 Try.underlying33 rfl (gsize _ _ hlen) ?_)
      | (go_at_call 71; refine (runs_v hG hV hp HS.out _ hvr).mono ?_; rintro e w20 ⟨rfl, hb20⟩; have b1 := blk_below hb20 b1; have b2 := blk_below hb20 b2; have hvr := hvr.below hb20; have hB := below_trans hb2 hb20; have z2 := blk_two b2; obtain ⟨x0, y0⟩ := z2)
      | (with_reducible refine wpList_allocB 4 rfl rfl 40 rfl (.agg #[.int .i8 0, .int .i8 0]) #[.int .i8 0, .int .i8 0] (by kernel_rfl) rfl ?_; intro g4 w4 b4 hb4 _hs4; have n1_4 : g1 < g4 := Nat.lt_of_lt_of_le (blk_lt b1) _hs4; have n2_4 : g2 < g4 := Nat.lt_of_lt_of_le (blk_lt b2) _hs4; have b1 := blk_below hb4 b1; have b2 := blk_below hb4 b2)
      | (with_reducible refine wpList_storeB rfl 40 _ _ rfl g4 0 (.agg #[.int .i8 ((runT G x y).1), .int .i8 ((runT G x y).2)]) #[.int .i8 ((runT G x y).1), .int .i8 ((runT G x y).2)] rfl rfl rfl _ 40 b4 (by kernel_rfl) (by simp [Value.oneCell']) (by simp) #[.int .i8 ((runT G x y).1), .int .i8 ((runT G x y).2)] (by simp) ?_; intro w5 b4 hS5; have b1 := hS5.blk b1 (by omega); have b2 := hS5.blk b2 (by omega); have hbx := hS5.below hb4 _hs4; have hB := below_trans hB hbx; have hvr := hvr.below hbx; have z2 := blk_two b2; obtain ⟨x0, y0⟩ := z2)
      | (refine wpList_load_rowG rfl 33 _ rfl g1 rfl 33 _ (0, 0) _ b1 Try.underlying33 rfl (gsize _ _ hlen) ?_)
      | (go_at_call 86; refine (isGully_is G gl hG (by omega) x y _ hvr r HRr.out).mono ?_; rintro e w30 ⟨rfl, hb30⟩; have hB := below_trans hB hb30))
    go_ret
    exact ⟨by rw [hf.out]; rfl, hB⟩
set_option maxHeartbeats 1000000 in
theorem implStands_is (G : Gd) (gl : Value) (hG : GdOk G) (w : World) (hv : Cs w gl G.gul) :
    Calls Try.prog 47 #[.agg (gc G gl)] w (slPost (standsV G) (okCode G) w) := by
  have hlen := hG.len
  have hB := Below.refl w.heap.size w
  by_cases hV : GValid G
  · have eV : Hid (standsV G = stands G ∧ okCode G = 0) := ⟨if_pos hV, if_pos hV⟩
    have eS : Hid (rowsUp (stB G) G.W.toNat G.H.toNat = stands G) := rowsUp_filter _ _ _
    go_enter Try.func47, Try.ntmps47
    go_wp2_with (first
      | (with_reducible refine wpList_box 1 rfl rfl 33 _ rfl (.agg (gc G gl)) rfl (gc G gl) rfl ?_; intro g1 w1 b1 hb1 _hs1; have hs1 : w.heap.size ≤ g1 := Nat.le_trans hB.size _hs1; have hB := below_trans hB hb1)
      | (with_reducible refine wpList_load_row rfl 33 _ rfl g1 rfl 33 _ (0, 0) _ b1 Try.underlying33 rfl (gsize _ _ hlen) ?_)
      | (go_at_call 17; refine (implValid_is G gl hG _ (hv.below hB) true (by simp [hV])).mono ?_; rintro e w2 ⟨rfl, hb2⟩; have b1 := blk_below hb2 b1; have hB := below_trans hB hb2)
      | (go_at_call 57; refine (points_is G gl hG hV 85 _ _ _ (stand85 G gl hG hV g1 _ (hv.below hB) b1)).mono ?_; rintro e w3 ⟨v, rfl, hO, hb3⟩))
    rw [eS.out] at hO
    go_ret2
    exact ⟨v, by rw [eV.out.2]; rfl, by rw [eV.out.1]; exact hO.lower hB.size, below_trans hB hb3⟩
  · have eV : Hid (standsV G = [] ∧ okCode G = 1) := ⟨if_neg hV, if_neg hV⟩
    go_enter Try.func47, Try.ntmps47
    go_wp2_with (first
      | (with_reducible refine wpList_box 1 rfl rfl 33 _ rfl (.agg (gc G gl)) rfl (gc G gl) rfl ?_; intro g1 w1 b1 hb1 _hs1; have hs1 : w.heap.size ≤ g1 := Nat.le_trans hB.size _hs1; have hB := below_trans hB hb1)
      | (with_reducible refine wpList_load_row rfl 33 _ rfl g1 rfl 33 _ (0, 0) _ b1 Try.underlying33 rfl (gsize _ _ hlen) ?_)
      | (go_at_call 17; refine (implValid_is G gl hG _ (hv.below hB) false (by simp [hV])).mono ?_; rintro e w2 ⟨rfl, hb2⟩; have b1 := blk_below hb2 b1; have hB := below_trans hB hb2))
    go_ret2
    exact ⟨_, by rw [eV.out.2]; rfl, by rw [eV.out.1]; exact OwnC.nil _ _, hB⟩
end Go.Proofs.Ytkhheofgnhndbaa
