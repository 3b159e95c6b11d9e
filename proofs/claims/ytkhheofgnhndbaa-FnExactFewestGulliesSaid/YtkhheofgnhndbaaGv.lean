/- The points at which water stands; the fewest gullies. -/
import Derived.Test.YtkhheofgnhndbaaGw
namespace Go.Proofs.Ytkhheofgnhndbaa
set_option linter.unusedVariables false
set_option linter.unusedSimpArgs false
open Go.RowKit
/-- Two rows of a call's own lie apart. -/
def Apart (v u : Value) : Prop := ∀ g, u.ownBlock = some g → v.ownBlock ≠ some g
theorem OwnC.same {B : Nat} {w w' : World} {v : Value} {xs : List (Int × Int)} (h : OwnC B w v xs) (hb : ∀ g, v.ownBlock = some g → w'.heap[g]? = w.heap[g]?) : OwnC B w' v xs := by
  refine ⟨h.1, ?_⟩
  rcases h.2 with h2 | ⟨g, cap, cur, rfl, e2, e3, e4⟩
  · exact .inl h2
  · exact .inr ⟨g, cap, cur, rfl, e2, (hb g rfl).trans e3, e4⟩
theorem Apart.of_lt {B B' : Nat} {w w' : World} {v u : Value} {xs ys : List (Int × Int)} (hv : OwnC B w v xs) (hu : OwnC B' w' u ys) (h : w.heap.size ≤ B') : Apart v u := fun g hg e => by
  have h1 := (World.ownsRow.lt hv g e).2
  have h2 := (World.ownsRow.lt hu g hg).1
  omega
theorem wpList_appS {ops : Array Oper} {rest : List Oper} {o : Oper} {a : Act} {w0 : World} {Q : Exit → Act → World → Prop} (hgd : o.guard = none) (s x : Operand)
    (ho : o.op = .call { callee := .builtin .append, args := #[s, x], argTypes := #[31, 31] }) (B : Nat) (v : Value) (xs : List (Int × Int)) (hs : a.eval s = v) (hown : OwnC B w0 v xs) (hB : B ≤ w0.heap.size) (hl : xs.length ≤ 1000000)
    (B' : Nat) (u : Value) (ys : List (Int × Int)) (hu : OwnC B' w0 u ys) (hap : Apart v u) (px py : Int) (hx : a.eval x = .slice (some ⟨w0.heap.size, 0, none⟩) 1 1)
    (h : ∀ v' w', OwnC B w' v' (xs ++ [(px, py)]) → Below B w0 w' → Apart v' u → OwnC B' w' u ys → wpList Try.prog ops Q rest (a.put o.dst v') w') :
    wpList Try.prog ops Q (o :: rest) a (w0.alloc (.cells #[.int .i8 px, .int .i8 py] 40)) := by
  obtain ⟨i, hi, hz, hsz, hby⟩ := info40
  have hlt := hown.lt
  refine wpList_append_own_at _ hgd s x 31 ho B 40 i (.agg #[.int .i8 0, .int .i8 0]) 2 2 Try.underlying31 hi hz hsz hby rfl (by decide) v xs.length (pc xs) hs (World.ownsRow.alloc hown _) ⟨w0.heap.size, 0, none⟩ 1 1 [.int .i8 px, .int .i8 py] hx rfl ?_ ?_ (by unfold maxLen; omega) (by omega) (by simp; omega) ?_
  · intro j u hj
    match j, hj with
    | 0, hj => simp at hj; subst hj; simp [Addr.add]
    | 1, hj => simp at hj; subst hj; simp [Addr.add]
  · intro u hu
    simp at hu
    rcases hu with rfl | rfl <;> rfl
  · intro v' w' h1 h2 _ h3
    have hug : ∀ g, u.ownBlock = some g → g < w0.heap.size := fun g hg => (World.ownsRow.lt hu g hg).2
    refine h v' w' ?_ (((Below.refl B w0).alloc hB _).grown h2 (by simp; omega) (fun k hk => (hlt k hk).1)) ?_ ?_
    · unfold OwnC
      rw [pc_append]
      simpa [pc] using h1
    · intro g hg
      rcases h3 with h3 | h3
      · rw [h3]; exact hap g hg
      · rw [h3]; have := hug g hg; simp; omega
    · refine hu.same fun g hg => ?_
      rw [h2.block g (by have := hug g hg; simp; omega) (fun e => hap g hg e.symm)]
      exact heap_alloc_old _ _ (hug g hg)
def slPost (xs : List (Int × Int)) (m : Int) (w : World) (e : Ending) (w' : World) : Prop := ∃ v, e = .returned (.tuple #[v, .int .i64 m]) ∧ OwnC w.heap.size w' v xs ∧ Below w.heap.size w w'
def stB (G : Gd) (p : Int × Int) : Bool := !runB G p.1 p.2 && !gulB G p.1 p.2
/-- Where water stands. -/
def stands (G : Gd) : List (Int × Int) := (ptsOf G).filter (stB G)
open Classical in
noncomputable def standsV (G : Gd) : List (Int × Int) := if GValid G then stands G else []
open Classical in
noncomputable def okCode (G : Gd) : Int := if GValid G then 0 else 1
set_option maxHeartbeats 4000000 in
set_option maxRecDepth 100000 in
theorem specStands_is (G : Gd) (gl : Value) (hG : GdOk G) (w : World) (hv : Cs w gl G.gul) :
    Calls Try.prog 46 #[.agg (gc G gl)] w (slPost (standsV G) (okCode G) w) := by
  have hlen := hG.len
  have hB := Below.refl w.heap.size w
  by_cases hV : GValid G
  · have hn := hV.n
    have eV : Hid (standsV G = stands G ∧ okCode G = 0) := ⟨if_pos hV, if_pos hV⟩
    go_enter Try.func46, Try.ntmps46
    go_wp2_with (first
      | (with_reducible refine wpList_box 1 rfl rfl 33 _ rfl (.agg (gc G gl)) rfl (gc G gl) rfl ?_; intro g1 w1 b1 hb1 _hs1; have hs1 : w.heap.size ≤ g1 := Nat.le_trans hB.size _hs1; have hB := below_trans hB hb1)
      | (with_reducible refine wpList_nilC 9 rfl rfl rfl ?_; intro v0 w2 hO0 hb2; have b1 := blk_below hb2 b1; have hB := below_trans hB hb2)
      | (go_at_call 48; refine (l04Ok_is G gl hG g1 _ (hv.below hB) b1 true (by simp [hV])).mono ?_; rintro e w3 ⟨rfl, hb3⟩; have b1 := blk_below hb3 b1; have hO0 := hO0.below hb3; have hB := below_trans hB hb3)
      | (go_at_call 54; refine (l04All_is G gl hV g1 _ b1).mono ?_; rintro e w4 ⟨u, rfl, hOu, hb4⟩; have hAp := Apart.of_lt hO0 hOu (Nat.le_refl _); have b1 := blk_below hb4 b1; have hO0 := hO0.below hb4; have hB := below_trans hB hb4; obtain ⟨A, c, rfl⟩ := hOu.sl))
    have hpl := pts_le hV
    have hB1 : Below w1.heap.size w1 w4 := below_trans (below_trans hb2 hb3) hb4
    have hb1' := hb1
    obtain ⟨Bu, hBu⟩ : ∃ Bu, Bu = w3.heap.size := ⟨_, rfl⟩
    rw [← hBu] at hOu
    have b1 := (hB1.block g1 (blk_lt ‹w1.heap[g1]? = _›)).symm.trans b1
    have l1 := blk_lt b1
    go_loopw [4, 6] (fun u v wr => ∃ i : Nat, i ≤ (ptsOf G).length ∧ v = .int .i64 i ∧ OwnC w1.heap.size wr u (((ptsOf G).take i).filter (stB G)) ∧ Below w1.heap.size w1 wr ∧ Apart u (.slice A (ptsOf G).length c) ∧ OwnC Bu wr (.slice A (ptsOf G).length c) (ptsOf G)) (fun _ v _ => (ptsOf G).length - (intOf v).toNat)
    case atStart => exact ⟨0, Nat.zero_le _, rfl, hO0, hB1, hAp, hOu⟩
    case round =>
      obtain ⟨i, hi, rfl, hO, hBr, hA, hU⟩ := hrel
      have hle : (((ptsOf G).take i).filter (stB G)).length ≤ 81 := Nat.le_trans (List.length_filter_le _ _) (by rw [List.length_take]; omega)
      by_cases hlt : i < (ptsOf G).length
      · have hlt' : decide ((i : Int) < ((ptsOf G).length : Int)) = true := decide_eq_true (by omega)
        obtain ⟨ad, rfl, hci⟩ := hU.at hlt
        have hp := pts_at hV hlt
        have HT := Lib.hid (fun h => filter_take_t (p := stB G) hlt h)
        have HF := Lib.hid (fun h => filter_take_f (p := stB G) hlt h)
        have HAt := Lib.hid (fun (w' : World) (h : OwnC Bu w' (.slice (some ad) (ptsOf G).length c) (ptsOf G)) => h.at hlt)
        revert hp hci HT HF HAt
        generalize (ptsOf G).getD i (0, 0) = p
        obtain ⟨px, py⟩ := p
        intro hci hp HT HF HAt
        have hci2 := hci.two
        obtain ⟨c1, c2⟩ := hci2
        clear hci
        dsimp only at hp
        have b1r := (hBr.block g1 l1).trans b1
        have hvr := (hv.below hb1).below hBr
        have b1 := b1r
        cases hs : runB G px py with
        | true =>
          have hf : stB G (px, py) = false := by simp [stB, hs]
          have HF := Lib.hid (HF.out hf)
          have HS := Lib.hid hs
          clear HT hf HAt hs b1r
          go_wp2_with (first
            | (go_at_call 69; refine (l04Fall_v hG hV hp HS.out g1 _ hvr b1).mono ?_; rintro e w20 ⟨rfl, hb20⟩; have hO := hO.below hb20; have hU := hU.below hb20; have hBr := hBr.trans (hb20.mono hBr.size); have b1 := blk_below hb20 b1; have c1 := cell_below hb20 c1; have c2 := cell_below hb20 c2; have hvr := hvr.below hb20)
            | (with_reducible refine wpList_allocB 7 rfl rfl 40 rfl (.agg #[.int .i8 0, .int .i8 0]) #[.int .i8 0, .int .i8 0] (by kernel_rfl) rfl ?_; intro g7 w7 b7 hb7 _hs7; have n1_7 : g1 < g7 := Nat.lt_of_lt_of_le (blk_lt b1) _hs7; have b1 := blk_below hb7 b1)
            | (with_reducible refine wpList_storeB rfl 40 _ _ rfl g7 0 (.agg #[.int .i8 ((runT G px py).1), .int .i8 ((runT G px py).2)]) #[.int .i8 ((runT G px py).1), .int .i8 ((runT G px py).2)] rfl rfl rfl _ 40 b7 (by kernel_rfl) (by simp [Value.oneCell']) (by simp) #[.int .i8 ((runT G px py).1), .int .i8 ((runT G px py).2)] (by simp) ?_; intro w21 b7 hS21; have b1 := hS21.blk b1 (by omega); have hbx := hS21.below hb7 _hs7; have hO := hO.below hbx; have hU := hU.below hbx; have hBr := hBr.trans (hbx.mono hBr.size); have c1 := cell_below hbx c1; have c2 := cell_below hbx c2; have hvr := hvr.below hbx))
          go_roundw
          case rel => exact ⟨i + 1, by omega, by go_num, by rw [HF.out]; exact hO, hBr, hA, hU⟩
          case measure => simp [intOf]; omega
        | false =>
          obtain ⟨r, hr⟩ := IdxR.ex (eqP (px, py)) G.gul
          have hgb := gulB_of hr
          have HRr := Lib.hid hr
          have HS := Lib.hid hs
          cases hg : gulB G px py with
          | true =>
            rw [hg] at hgb
            have hlt0 : decide (r < 0) = false := decide_eq_false (by have := of_decide_eq_true hgb; omega)
            have hf : stB G (px, py) = false := by simp [stB, hg]
            have HF := Lib.hid (HF.out hf)
            clear HT hf HAt hs hr hgb b1r
            go_wp2_with (first
              | (go_at_call 69; refine (l04Fall_v hG hV hp HS.out g1 _ hvr b1).mono ?_; rintro e w20 ⟨rfl, hb20⟩; have hO := hO.below hb20; have hU := hU.below hb20; have hBr := hBr.trans (hb20.mono hBr.size); have b1 := blk_below hb20 b1; have c1 := cell_below hb20 c1; have c2 := cell_below hb20 c2; have hvr := hvr.below hb20)
              | (with_reducible refine wpList_allocB 7 rfl rfl 40 rfl (.agg #[.int .i8 0, .int .i8 0]) #[.int .i8 0, .int .i8 0] (by kernel_rfl) rfl ?_; intro g7 w7 b7 hb7 _hs7; have n1_7 : g1 < g7 := Nat.lt_of_lt_of_le (blk_lt b1) _hs7; have b1 := blk_below hb7 b1)
              | (with_reducible refine wpList_storeB rfl 40 _ _ rfl g7 0 (.agg #[.int .i8 ((runT G px py).1), .int .i8 ((runT G px py).2)]) #[.int .i8 ((runT G px py).1), .int .i8 ((runT G px py).2)] rfl rfl rfl _ 40 b7 (by kernel_rfl) (by simp [Value.oneCell']) (by simp) #[.int .i8 ((runT G px py).1), .int .i8 ((runT G px py).2)] (by simp) ?_; intro w21 b7 hS21; have b1 := hS21.blk b1 (by omega); have hbx := hS21.below hb7 _hs7; have hO := hO.below hbx; have hU := hU.below hbx; have hBr := hBr.trans (hbx.mono hBr.size); have c1 := cell_below hbx c1; have c2 := cell_below hbx c2; have hvr := hvr.below hbx)
              | (go_at_call 84; refine (l04Gully_is G gl hG (by omega) px py g1 _ hvr b1 r HRr.out).mono ?_; rintro e w22 ⟨rfl, hb22⟩; have hO := hO.below hb22; have hU := hU.below hb22; have hBr := hBr.trans (hb22.mono hBr.size); have c1 := cell_below hb22 c1; have c2 := cell_below hb22 c2))
            go_roundw
            case rel => exact ⟨i + 1, by omega, by go_num, by rw [HF.out]; exact hO, hBr, hA, hU⟩
            case measure => simp [intOf]; omega
          | false =>
            rw [hg] at hgb
            have hlt0 : decide (r < 0) = true := decide_eq_true (by have := of_decide_eq_false hgb; omega)
            have hf : stB G (px, py) = true := by simp [stB, hg, hs]
            have HT := Lib.hid (HT.out hf)
            clear HF hf HAt hs hr hgb b1r
            go_wp2_with (first
              | (go_at_call 69; refine (l04Fall_v hG hV hp HS.out g1 _ hvr b1).mono ?_; rintro e w20 ⟨rfl, hb20⟩; have hO := hO.below hb20; have hU := hU.below hb20; have hBr := hBr.trans (hb20.mono hBr.size); have b1 := blk_below hb20 b1; have c1 := cell_below hb20 c1; have c2 := cell_below hb20 c2; have hvr := hvr.below hb20)
              | (with_reducible refine wpList_allocB 7 rfl rfl 40 rfl (.agg #[.int .i8 0, .int .i8 0]) #[.int .i8 0, .int .i8 0] (by kernel_rfl) rfl ?_; intro g7 w7 b7 hb7 _hs7; have n1_7 : g1 < g7 := Nat.lt_of_lt_of_le (blk_lt b1) _hs7; have b1 := blk_below hb7 b1)
              | (with_reducible refine wpList_storeB rfl 40 _ _ rfl g7 0 (.agg #[.int .i8 ((runT G px py).1), .int .i8 ((runT G px py).2)]) #[.int .i8 ((runT G px py).1), .int .i8 ((runT G px py).2)] rfl rfl rfl _ 40 b7 (by kernel_rfl) (by simp [Value.oneCell']) (by simp) #[.int .i8 ((runT G px py).1), .int .i8 ((runT G px py).2)] (by simp) ?_; intro w21 b7 hS21; have b1 := hS21.blk b1 (by omega); have hbx := hS21.below hb7 _hs7; have hO := hO.below hbx; have hU := hU.below hbx; have hBr := hBr.trans (hbx.mono hBr.size); have c1 := cell_below hbx c1; have c2 := cell_below hbx c2; have hvr := hvr.below hbx)
              | (go_at_call 84; refine (l04Gully_is G gl hG (by omega) px py g1 _ hvr b1 r HRr.out).mono ?_; rintro e w22 ⟨rfl, hb22⟩; have hO := hO.below hb22; have hU := hU.below hb22; have hBr := hBr.trans (hb22.mono hBr.size); have c1 := cell_below hb22 c1; have c2 := cell_below hb22 c2)
              | (at_builtin; refine wpList_appS rfl _ _ rfl w1.heap.size _ _ rfl hO hBr.size (by omega) Bu _ _ hU (by exact hA) px py rfl ?_; intro v' w23 hO3 hB3 hA3 hU3))
            go_roundw
            case rel => exact ⟨i + 1, by omega, by go_num, by rw [HT.out]; exact hO3, hBr.trans hB3, hA3, hU3⟩
            case measure => simp [intOf]; omega
      · obtain rfl : i = (ptsOf G).length := by omega
        rw [List.take_length] at hO
        have hO : OwnC w1.heap.size wr u4 (stands G) := hO
        go_wp2
        go_ret2
        exact ⟨_, by rw [eV.out.2]; rfl, by rw [eV.out.1]; exact hO.lower hb1'.size, below_trans hb1' hBr⟩
  · have eV : Hid (standsV G = [] ∧ okCode G = 1) := ⟨if_neg hV, if_neg hV⟩
    go_enter Try.func46, Try.ntmps46
    go_wp2_with (first
      | (with_reducible refine wpList_box 1 rfl rfl 33 _ rfl (.agg (gc G gl)) rfl (gc G gl) rfl ?_; intro g1 w1 b1 hb1 _hs1; have hs1 : w.heap.size ≤ g1 := Nat.le_trans hB.size _hs1; have hB := below_trans hB hb1)
      | (with_reducible refine wpList_nilC 9 rfl rfl rfl ?_; intro v0 w2 hO0 hb2; have b1 := blk_below hb2 b1; have hB := below_trans hB hb2)
      | (go_at_call 48; refine (l04Ok_is G gl hG g1 _ (hv.below hB) b1 false (by simp [hV])).mono ?_; rintro e w3 ⟨rfl, hb3⟩; have hO0 := hO0.below hb3; have hB := below_trans hB hb3))
    go_ret2
    exact ⟨v0, by rw [eV.out.2]; rfl, by rw [eV.out.1]; exact hO0.lower hb1.size, hB⟩
end Go.Proofs.Ytkhheofgnhndbaa
