/- The lowest of the points beside one; whereto water runs. -/
import Derived.Test.YtkhheofgnhndbaaGp
namespace Go.Proofs.Ytkhheofgnhndbaa
set_option linter.unusedVariables false
set_option linter.unusedSimpArgs false
open Go.RowKit
def lowU (G : Gd) (b q : Int × Int) : Int × Int := if hAt G q.1 q.2 < hAt G b.1 b.2 then q else b
def lowIn (G : Gd) (p : Int × Int) (qs : List (Int × Int)) : Int × Int := qs.foldl (lowU G) p
/-- The lowest of a point and those beside it. -/
def lowG (G : Gd) (x y : Int) : Int × Int := lowIn G (x, y) (besOf G x y)
theorem lowIn_next (G : Gd) (p : Int × Int) {xs : List (Int × Int)} {j : Nat} (hj : j < xs.length) : lowIn G p (xs.take (j + 1)) = lowU G (lowIn G p (xs.take j)) (xs.getD j (0, 0)) := by
  rw [take_next hj]; simp [lowIn]
theorem lowIn_pt {G : Gd} {p : Int × Int} {qs : List (Int × Int)} (hp : isPt G.W G.H p.1 p.2) (hq : ∀ q ∈ qs, isPt G.W G.H q.1 q.2) : isPt G.W G.H (lowIn G p qs).1 (lowIn G p qs).2 := by
  induction qs generalizing p with
  | nil => exact hp
  | cons q qs ih =>
    refine ih ?_ (fun r hr => hq r (List.mem_cons_of_mem _ hr))
    unfold lowU
    split
    · exact hq q (List.mem_cons_self ..)
    · exact hp
theorem bes_mem {G : Gd} {x y : Int} {q : Int × Int} (h : q ∈ besOf G x y) : isPt G.W G.H q.1 q.2 := of_decide_eq_true (List.mem_filter.1 h).2
theorem lowTake_pt {G : Gd} {x y : Int} (hp : isPt G.W G.H x y) (k : Nat) : isPt G.W G.H (lowIn G (x, y) ((besOf G x y).take k)).1 (lowIn G (x, y) ((besOf G x y).take k)).2 :=
  lowIn_pt hp (fun q hq => bes_mem (List.mem_of_mem_take hq))
theorem lowG_pt {G : Gd} {x y : Int} (hp : isPt G.W G.H x y) : isPt G.W G.H (lowG G x y).1 (lowG G x y).2 := lowIn_pt hp (fun q hq => bes_mem hq)
def lowPost (G : Gd) (x y : Int) (w : World) (e : Ending) (w' : World) : Prop :=
  e = .returned (.tuple #[.agg #[.int .i8 (lowG G x y).1, .int .i8 (lowG G x y).2], .bool (!eqP (lowG G x y) (x, y))]) ∧ Below w.heap.size w w'
theorem blk_two {w : World} {g : Nat} {x y : Int} (h : w.heap[g]? = some (.cells #[.int .i8 x, .int .i8 y] 40 (0, 0))) : w.cell? ⟨g, 0, none⟩ = some (.int .i8 x) ∧ w.cell? ⟨g, 1, none⟩ = some (.int .i8 y) := ⟨(blk_cell h 0).trans rfl, (blk_cell h 1).trans rfl⟩
theorem run_ne40' {a : Act} {w : World} (o : Oper) (x y : Operand) (ho : o.op = .binOp .neq 40 x y 40) (p1 p2 q1 q2 : Int) (hx : a.eval x = .agg #[.int .i8 p1, .int .i8 p2]) (hy : a.eval y = .agg #[.int .i8 q1, .int .i8 q2]) :
    (execOp a.eval o).run Try.prog w = .ok (.value (.bool (!eqP (p1, p2) (q1, q2)))) w := by
  have hm : Try.prog.eqGuardType Try.prog.depth 40 = false := by kernel_rfl
  have h1 := run_eqGuard_agg (P := Try.prog) w .neq 40 x y #[.int .i8 p1, .int .i8 p2] #[.int .i8 q1, .int .i8 q2] hm
  unfold execOp
  simp only [ho, hx, hy, Sem.run_bind, Sem.run_pure, Result.andThen_ok, h1, run_neq_struct, equal40]
set_option maxHeartbeats 4000000 in
set_option maxRecDepth 100000 in
theorem lowest_is (G : Gd) (gl : Value) (hG : GdOk G) (hV : GValid G) (x y : Int) (hp : isPt G.W G.H x y) (w : World) :
    Calls Try.prog 81 #[.agg (gc G gl), .agg #[.int .i8 x, .int .i8 y]] w (lowPost G x y w) := by
  have hlen := hG.len
  obtain ⟨hx, hy⟩ := pt_lt hV hp
  have hB := Below.refl w.heap.size w
  go_enter Try.func81, Try.ntmps81
  go_wp2_with (first
    | (with_reducible refine wpList_box 2 rfl rfl 33 _ rfl (.agg (gc G gl)) rfl (gc G gl) rfl ?_; intro g1 w1 b1 hb1 _hs1; have hs1 : w.heap.size ≤ g1 := Nat.le_trans hB.size _hs1; have hB := below_trans hB hb1)
    | (with_reducible refine wpList_box 3 rfl rfl 40 _ rfl (.agg #[.int .i8 x, .int .i8 y]) rfl #[.int .i8 x, .int .i8 y] rfl ?_; intro g2 w2 b2 hb2 _hs2; have hs2 : w.heap.size ≤ g2 := Nat.le_trans hB.size _hs2; have hB := below_trans hB hb2; have n1_2 : g1 < g2 := Nat.lt_of_lt_of_le (blk_lt b1) _hs2; have b1 := blk_below hb2 b1)
    | (with_reducible refine wpList_allocB 4 rfl rfl 40 rfl (.agg #[.int .i8 0, .int .i8 0]) #[.int .i8 0, .int .i8 0] (by kernel_rfl) rfl ?_; intro g3 w3 b3 hb3 _hs3; have hs3 : w.heap.size ≤ g3 := Nat.le_trans hB.size _hs3; have hB := below_trans hB hb3; have n1_3 : g1 < g3 := Nat.lt_of_lt_of_le (blk_lt b1) _hs3; have n2_3 : g2 < g3 := Nat.lt_of_lt_of_le (blk_lt b2) _hs3; have b1 := blk_below hb3 b1; have b2 := blk_below hb3 b2;  have z2 := blk_two b2; obtain ⟨x0, y0⟩ := z2)
    | (with_reducible refine wpList_allocB 6 rfl rfl 40 rfl (.agg #[.int .i8 0, .int .i8 0]) #[.int .i8 0, .int .i8 0] (by kernel_rfl) rfl ?_; intro g4 w4 b4 hb4 _hs4; have hs4 : w.heap.size ≤ g4 := Nat.le_trans hB.size _hs4; have hB := below_trans hB hb4; have n1_4 : g1 < g4 := Nat.lt_of_lt_of_le (blk_lt b1) _hs4; have n2_4 : g2 < g4 := Nat.lt_of_lt_of_le (blk_lt b2) _hs4; have n3_4 : g3 < g4 := Nat.lt_of_lt_of_le (blk_lt b3) _hs4; have b1 := blk_below hb4 b1; have b2 := blk_below hb4 b2; have b3 := blk_below hb4 b3)
    | (with_reducible refine wpList_storeB rfl 40 _ _ rfl g4 0 (.agg #[.int .i8 (x), .int .i8 (y)]) #[.int .i8 (x), .int .i8 (y)] rfl rfl rfl _ 40 b4 (by kernel_rfl) (by simp [Value.oneCell']) (by simp) #[.int .i8 (x), .int .i8 (y)] (by simp) ?_; intro w5 b4 hS5; have b1 := hS5.blk b1 (by omega); have b2 := hS5.blk b2 (by omega); have b3 := hS5.blk b3 (by omega); have hB := hS5.below hB hs4; have z2 := blk_two b2; obtain ⟨x0, y0⟩ := z2)
    | (with_reducible refine wpList_load_row rfl 33 _ rfl g1 rfl 33 _ (0, 0) _ b1 Try.underlying33 rfl (gsize _ _ hlen) ?_)
    | (go_at_call 59; refine (around_is G gl hG x y hx hy _).mono ?_; rintro e w6 ⟨u, rfl, hO, hb6⟩; have l4 := blk_lt b4; have b1 := blk_below hb6 b1; have b2 := blk_below hb6 b2; have b3 := blk_below hb6 b3; have b4 := blk_below hb6 b4; have hB := below_trans hB hb6; obtain ⟨A2, k2, rfl⟩ := hO.sl))
  have hbl := bes_le G x y
  have hsz6 := hb6.size
  go_loopw [14] (fun v wr => ∃ i : Nat, i ≤ (besOf G x y).length ∧ v = .int .i64 i ∧ Kept [g4] w6 wr ∧ wr.heap[g4]? = some (.cells #[.int .i8 (lowIn G (x, y) ((besOf G x y).take i)).1, .int .i8 (lowIn G (x, y) ((besOf G x y).take i)).2] 40 (0, 0))) (fun v _ => (besOf G x y).length - (intOf v).toNat)
  case atStart => exact ⟨0, Nat.zero_le _, rfl, Kept.refl _ _, b4⟩
  case round =>
    obtain ⟨i, hi, rfl, hK, b4⟩ := hrel
    have hsz := hK.size
    by_cases hlt : i < (besOf G x y).length
    · have hlt' : decide ((i : Int) < ((besOf G x y).length : Int)) = true := decide_eq_true (by omega)
      obtain ⟨ad, rfl, hci⟩ := (hO.kept hK (by simp; omega)).at hlt
      have hq := bes_at hlt
      have hr := lowTake_pt hp i
      have hfn := lowIn_next G (x, y) hlt
      revert hq hci hfn hr b4
      generalize (besOf G x y).getD i (0, 0) = q
      generalize lowIn G (x, y) ((besOf G x y).take i) = r
      obtain ⟨qx, qy⟩ := q
      obtain ⟨rx, ry⟩ := r
      intro b4 hci hq hr hfn
      have hci2 := hci.two
      obtain ⟨c1, c2⟩ := hci2
      dsimp only at hq hr b4
      obtain ⟨hqx, hqy⟩ := pt_lt hV hq
      obtain ⟨hrx, hry⟩ := pt_lt hV hr
      have HFN := Lib.hid hfn
      clear hfn hci
      have b1 := hK.blk b1 (by simp; omega)
      go_wp2_with (first
        | (with_reducible refine wpList_allocB 8 rfl rfl 40 rfl (.agg #[.int .i8 0, .int .i8 0]) #[.int .i8 0, .int .i8 0] (by kernel_rfl) rfl ?_; intro g8 w8 b8 hb8 _hs8; have n1_8 : g1 < g8 := Nat.lt_of_lt_of_le (blk_lt b1) _hs8; have n4_8 : g4 < g8 := Nat.lt_of_lt_of_le (blk_lt b4) _hs8; have b1 := blk_below hb8 b1; have b4 := blk_below hb8 b4)
        | (with_reducible refine wpList_storeB rfl 40 _ _ rfl g8 0 (.agg #[.int .i8 (qx), .int .i8 (qy)]) #[.int .i8 (qx), .int .i8 (qy)] rfl rfl rfl _ 40 b8 (by kernel_rfl) (by simp [Value.oneCell']) (by simp) #[.int .i8 (qx), .int .i8 (qy)] (by simp) ?_; intro w9 b8 hS9; have b1 := hS9.blk b1 (by omega); have b4 := hS9.blk b4 (by omega)))
      have hBr : Below wr.heap.size wr w9 := hS9.below hb8 _hs8
      have x1 := ext_cell (v := .int .i8 qx) ((blk_cell b8 0).trans rfl)
      have x2 := ext_cell (v := .int .i8 qy) ((blk_cell b8 1).trans rfl)
      have x3 := ext_cell (v := .int .i8 rx) ((blk_cell b4 0).trans rfl)
      have x4 := ext_cell (v := .int .i8 ry) ((blk_cell b4 1).trans rfl)
      try simp only [Act.put, List.setIfInBounds_toArray, List.set_cons_zero, List.set_cons_succ]
      refine wp_region_ext (by kernel_rfl) (by kernel_rfl) ?_
      repeat (first
        | go_big_quiet_skip
        | (go_big_quiet_want; with_reducible refine quiet_load_row 33 _ rfl g1 rfl 33 _ (0, 0) _ (by rintro _ ⟨p, rfl⟩; exact ext_blk b1 p) Try.underlying33 rfl (gsize _ _ hlen) ?_; (simp only [Act.put, List.setIfInBounds_toArray, List.set_cons_zero, List.set_cons_succ]); go_big_quiet_on)
        | (go_big_quiet_want
           go_big_quiet_op
           first
             | go_big_quiet_on
             | (apply Exists.intro
                refine ⟨fun _ => ?_, ?_⟩
                · first
                    | (go_at_call 61; exact Calls.ext_of (height_is G gl hG _ _ (by assumption) (by assumption) _))
                go_big_quiet_on)))
      refine wpQuiet_nil ?_
      intro w10 hb10
      have b4 := blk_below hb10 b4
      have b8 := blk_below hb10 b8
      have hK5 := hK.trans (Kept.of_below (below_trans hBr hb10))
      by_cases hgt : hAt G qx qy < hAt G rx ry
      · have hgt' : decide (hAt G qx qy < hAt G rx ry) = true := decide_eq_true hgt
        have HU : Hid (lowU G (rx, ry) (qx, qy) = (qx, qy)) := if_pos hgt
        have z8 := blk_two b8
        obtain ⟨d1, d2⟩ := z8
        clear hgt
        rw [hgt']
        go_wp2_with (first
          | (with_reducible refine wpList_storeB rfl 40 _ _ rfl g4 0 (.agg #[.int .i8 (qx), .int .i8 (qy)]) #[.int .i8 (qx), .int .i8 (qy)] rfl rfl rfl _ 40 b4 (by kernel_rfl) (by simp [Value.oneCell']) (by simp) #[.int .i8 (qx), .int .i8 (qy)] (by simp) ?_; intro w11 b4 hS11))
        go_roundw
        case rel => exact ⟨i + 1, by omega, by go_num, hK5.trans (Kept.of_setB hS11 (by simp)), by rw [HFN.out, HU.out]; exact b4⟩
        case measure => simp [intOf]; omega
      · have hgt' : decide (hAt G qx qy < hAt G rx ry) = false := decide_eq_false hgt
        have HU : Hid (lowU G (rx, ry) (qx, qy) = (rx, ry)) := if_neg hgt
        clear hgt
        rw [hgt']
        go_wp2
        go_roundw
        case rel => exact ⟨i + 1, by omega, by go_num, hK5, by rw [HFN.out, HU.out]; exact b4⟩
        case measure => simp [intOf]; omega
    · obtain rfl : i = (besOf G x y).length := by omega
      rw [List.take_length] at b4
      have eL : lowIn G (x, y) (besOf G x y) = lowG G x y := rfl
      rw [eL] at b4
      have b2 := hK.blk b2 (by simp; omega)
      have b3 := hK.blk b3 (by simp; omega)
      have hKB : Below w.heap.size w wr := hB.trans (hK.below hB.size (by simp; omega))
      go_wp2
      try simp only [Act.put, List.setIfInBounds_toArray, List.set_cons_zero, List.set_cons_succ]
      refine wp_region_held (S := fun w' => w'.heap[g4]? = some (.cells #[.int .i8 (lowG G x y).1, .int .i8 (lowG G x y).2] 40 (0, 0)) ∧ w'.heap[g2]? = some (.cells #[.int .i8 x, .int .i8 y] 40 (0, 0))) (by kernel_rfl) ?_
      refine anyH_val 0 27 _ (.agg #[.int .i8 (lowG G x y).1, .int .i8 (lowG G x y).2]) rfl rfl rfl (by kernel_rfl) (by kernel_rfl) (by kernel_rfl) (fun _ _ _ h => h) ⟨b4, b2⟩ (fun w' hw => run_load_row' _ 40 _ rfl g4 rfl 40 _ (0, 0) _ hw.1 Try.underlying40 rfl (isz40 _ _)) ?_
      refine anyH_val 1 28 _ (.agg #[.int .i8 (lowG G x y).1, .int .i8 (lowG G x y).2]) rfl rfl rfl (by kernel_rfl) (by kernel_rfl) (by kernel_rfl) (fun _ _ _ h => h) ⟨b4, b2⟩ (fun w' hw => run_load_row' _ 40 _ rfl g4 rfl 40 _ (0, 0) _ hw.1 Try.underlying40 rfl (isz40 _ _)) ?_
      refine anyH_val 2 29 _ (.agg #[.int .i8 x, .int .i8 y]) rfl rfl rfl (by kernel_rfl) (by kernel_rfl) (by kernel_rfl) (fun _ _ _ h => h) ⟨b4, b2⟩ (fun w' hw => run_load_row' _ 40 _ rfl g2 rfl 40 _ (0, 0) _ hw.2 Try.underlying40 rfl (isz40 _ _)) ?_
      refine anyH_val 3 30 _ (.bool (!eqP (lowG G x y) (x, y))) rfl rfl rfl (by kernel_rfl) (by kernel_rfl) (by kernel_rfl) (fun _ _ _ h => h) ⟨b4, b2⟩ (fun w' hw => run_ne40' _ _ _ rfl _ _ _ _ rfl rfl) ?_
      refine anyH_store1 4 _ (by kernel_rfl) rfl rfl rfl 40 _ _ rfl g3 _ #[.int .i8 (lowG G x y).1, .int .i8 (lowG G x y).2] rfl rfl rfl _ 40 b3 (isz40 _ _) (by simp [Value.oneCell']) rfl ?_
      intro w22 b3 hS22
      have b4 := hS22.blk b4 (by omega)
      have b2 := hS22.blk b2 (by omega)
      refine ⟨⟨b4, b2⟩, ?_⟩
      refine anyH_val 5 5 _ (.bool (!eqP (lowG G x y) (x, y))) rfl rfl rfl (by kernel_rfl) (by kernel_rfl) (by kernel_rfl) (fun _ _ _ h => h) ⟨b4, b2⟩ (fun w' hw => run_assign' _ _ rfl _ rfl) ?_
      refine wpAnyH_done (by kernel_rfl) ?_ _
      simp only [Act.put, List.setIfInBounds_toArray, List.set_cons_zero, List.set_cons_succ]
      go_wp2
      exact bodyPost_ret (results_ct rfl g3 40 _ (0, 0) _ rfl b3 Try.underlying40 rfl (isz40 _ _)) rfl ⟨rfl, hS22.below hKB.drew hs3⟩
end Go.Proofs.Ytkhheofgnhndbaa
