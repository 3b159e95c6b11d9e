/- The points beside a point, in order. -/
import Derived.Test.YtkhheofgnhndbaaGg
import Derived.Maps.AppendAt
namespace Go.Proofs.Ytkhheofgnhndbaa
set_option linter.unusedVariables false
set_option linter.unusedSimpArgs false
open Go.RowKit
def fourOf (x y : Int) : List (Int × Int) := [(x, y - 1), (x - 1, y), (x + 1, y), (x, y + 1)]
def inG (G : Gd) (q : Int × Int) : Bool := decide (isPt G.W G.H q.1 q.2)
/-- The points beside one. -/
def besOf (G : Gd) (x y : Int) : List (Int × Int) := (fourOf x y).filter (inG G)
/-- An append beside a block that is kept. -/
theorem wpList_appK {ops : Array Oper} {rest : List Oper} {o : Oper} {a : Act} {w0 : World} {Q : Exit → Act → World → Prop} (hgd : o.guard = none) (s x : Operand)
    (ho : o.op = .call { callee := .builtin .append, args := #[s, x], argTypes := #[31, 31] }) (B gk : Nat) (v : Value) (xs : List (Int × Int)) (hs : a.eval s = v) (hown : OwnC B w0 v xs) (hB : B ≤ w0.heap.size) (hl : xs.length ≤ 1000000)
    (hgk : gk < w0.heap.size) (hne : v.ownBlock ≠ some gk) (px py : Int) (hx : a.eval x = .slice (some ⟨w0.heap.size, 0, none⟩) 1 1)
    (h : ∀ v' w', OwnC B w' v' (xs ++ [(px, py)]) → Below B w0 w' → v'.ownBlock ≠ some gk → w'.heap[gk]? = w0.heap[gk]? → wpList Try.prog ops Q rest (a.put o.dst v') w') :
    wpList Try.prog ops Q (o :: rest) a (w0.alloc (.cells #[.int .i8 px, .int .i8 py] 40)) := by
  obtain ⟨i, hi, hz, hsz, hby⟩ := info40
  have hlt := hown.lt
  refine wpList_append_own_at _ hgd s x 31 ho B 40 i (.agg #[.int .i8 0, .int .i8 0]) 2 2 Try.underlying31 hi hz hsz hby rfl (by decide) v xs.length (pc xs) hs (World.ownsRow.alloc hown _) ⟨w0.heap.size, 0, none⟩ 1 1 [.int .i8 px, .int .i8 py] hx rfl ?_ ?_ (by unfold maxLen; omega) (by omega) (by simp; omega) ?_
  · intro j u hj
    match j, hj with
    | 0, hj => simp at hj; subst hj; simp [Addr.add]
    | 1, hj => simp at hj; subst hj; simp [Addr.add]
  · intro u hu
    simp at hu
    rcases hu with rfl | rfl <;> rfl
  · intro v' w' h1 h2 _ h3
    refine h v' w' ?_ (((Below.refl B w0).alloc hB _).grown h2 (by simp; omega) (fun k hk => (hlt k hk).1)) ?_ ?_
    · unfold OwnC
      rw [pc_append]
      simpa [pc] using h1
    · rcases h3 with h3 | h3
      · rw [h3]; exact hne
      · rw [h3]; simp; omega
    · rw [h2.block gk (by simp; omega) (fun h => hne h.symm)]
      exact heap_alloc_old _ _ hgk
theorem wpList_fourC {ops : Array Oper} {rest : List Oper} {o : Oper} {a : Act} {w : World} {Q : Exit → Act → World → Prop} (N : Nat) (hd : o.dst = some N) (hgd : o.guard = none) (x0 x1 x2 x3 : Operand) (ho : o.op = .buildSlice 31 4 #[(0, x0), (1, x1), (2, x2), (3, x3)])
    (p0 p1 p2 p3 q0 q1 q2 q3 : Int) (h0 : a.eval x0 = .agg #[.int .i8 p0, .int .i8 q0]) (h1 : a.eval x1 = .agg #[.int .i8 p1, .int .i8 q1]) (h2 : a.eval x2 = .agg #[.int .i8 p2, .int .i8 q2]) (h3 : a.eval x3 = .agg #[.int .i8 p3, .int .i8 q3])
    (h : ∀ g w1, w1.heap[g]? = some (.cells (pc [(p0, q0), (p1, q1), (p2, q2), (p3, q3)]).toArray 40 (0, 0)) → Below w.heap.size w w1 → w.heap.size ≤ g → wpList Try.prog ops Q rest (a.put (some N) (.slice (some ⟨g, 0, none⟩) 4 4)) w1) : wpList Try.prog ops Q (o :: rest) a w := by
  rw [← hd] at h; clear hd
  refine wpList_plain hgd fun K hK => ?_
  have hr : (execOp a.eval o).run Try.prog w = .ok (.value (.slice (some ⟨w.heap.size, 0, none⟩) 4 4)) (w.alloc (.cells (pc [(p0, q0), (p1, q1), (p2, q2), (p3, q3)]).toArray 40)) := by
    obtain ⟨i, hi, hz, hsz, hby⟩ := info40
    unfold execOp
    simp only [ho, List.map_toArray, List.map_cons, List.map_nil, h0, h1, h2, h3]
    simp [Instr.buildSlice, run_underlying Try.underlying31, sizeOf, zeroValue, typeInfo, hi, hsz, hz, Instr.fill, go_sem, pc, Value.cells]
  unfold Oper.wp
  rw [hr]
  exact hK _ _ (h _ _ (heap_alloc_new w _) ((Below.refl _ _).alloc (Nat.le_refl _) _) (Nat.le_refl _))
theorem around1_is (G : Gd) (gl : Value) (hG : GdOk G) (g B : Nat) (w : World) (xs : List (Int × Int)) (hb : w.heap[g]? = some (.cells (gc G gl) 33 (0, 0))) (hg : g < B) (hx : ∀ i, i < xs.length → i8ok (xs.getD i (0, 0)).1 ∧ i8ok (xs.getD i (0, 0)).2) :
    PredE 97 #[.pointer (some ⟨g, 0, none⟩)] B w xs (fun q => !inG G q) := by
  refine ⟨by go_simp, fun i hi w' hw => ?_⟩
  have hb' := (hw.block g hg).trans hb
  obtain ⟨h1, h2⟩ := hx i hi
  generalize xs.getD i (0, 0) = q at h1 h2 ⊢
  obtain ⟨qx, qy⟩ := q
  dsimp only at h1 h2 ⊢
  have hlen := hG.len
  cases hq : inG G (qx, qy) with
  | true =>
    have hp : isPt G.W G.H qx qy := of_decide_eq_true hq
    clear hq
    go_enter Try.func97, Try.ntmps97
    go_wp2_with (first
      | (with_reducible refine wpList_box 2 rfl rfl 40 _ rfl (.agg #[.int .i8 qx, .int .i8 qy]) rfl #[.int .i8 qx, .int .i8 qy] rfl ?_; intro g1 w1 b1 hb1 _hs1;  have hb1' := blk_below hb1 hb'; have x0 : w1.cell? ⟨g1, 0, none⟩ = some (.int .i8 qx) := (blk_cell b1 0).trans rfl; have y0 : w1.cell? ⟨g1, 1, none⟩ = some (.int .i8 qy) := (blk_cell b1 1).trans rfl)
      | (with_reducible refine wpList_load_row rfl 33 _ rfl g rfl 33 _ (0, 0) _ hb1' Try.underlying33 rfl (gsize _ _ hlen) ?_)
      | (go_at_call 51; refine (isPoint_t G gl hG qx qy _ h1 h2 hp).mono ?_; rintro e w2 ⟨rfl, hb2⟩))
    go_ret
    exact ⟨rfl, below_trans hb1 hb2⟩
  | false =>
    have hp : ¬ isPt G.W G.H qx qy := of_decide_eq_false hq
    clear hq
    go_enter Try.func97, Try.ntmps97
    go_wp2_with (first
      | (with_reducible refine wpList_box 2 rfl rfl 40 _ rfl (.agg #[.int .i8 qx, .int .i8 qy]) rfl #[.int .i8 qx, .int .i8 qy] rfl ?_; intro g1 w1 b1 hb1 _hs1;  have hb1' := blk_below hb1 hb'; have x0 : w1.cell? ⟨g1, 0, none⟩ = some (.int .i8 qx) := (blk_cell b1 0).trans rfl; have y0 : w1.cell? ⟨g1, 1, none⟩ = some (.int .i8 qy) := (blk_cell b1 1).trans rfl)
      | (with_reducible refine wpList_load_row rfl 33 _ rfl g rfl 33 _ (0, 0) _ hb1' Try.underlying33 rfl (gsize _ _ hlen) ?_)
      | (go_at_call 51; refine (isPoint_f G gl hG qx qy _ h1 h2 hp).mono ?_; rintro e w2 ⟨rfl, hb2⟩))
    go_ret
    exact ⟨rfl, below_trans hb1 hb2⟩
theorem four_ok {x y : Int} (hx : 0 ≤ x ∧ x < 9) (hy : 0 ≤ y ∧ y < 9) : ∀ i, i < (fourOf x y).length → i8ok ((fourOf x y).getD i (0, 0)).1 ∧ i8ok ((fourOf x y).getD i (0, 0)).2 := by
  intro i hi
  match i, hi with
  | 0, _ => simp [fourOf, i8ok]; omega
  | 1, _ => simp [fourOf, i8ok]; omega
  | 2, _ => simp [fourOf, i8ok]; omega
  | 3, _ => simp [fourOf, i8ok]; omega
set_option maxHeartbeats 1000000 in
theorem around_is (G : Gd) (gl : Value) (hG : GdOk G) (x y : Int) (hx : 0 ≤ x ∧ x < 9) (hy : 0 ≤ y ∧ y < 9) (w : World) :
    Calls Try.prog 59 #[.agg (gc G gl), .agg #[.int .i8 x, .int .i8 y]] w (ownPost w (besOf G x y)) := by
  have hok := four_ok hx hy
  obtain ⟨hx1, hx2⟩ := hx
  obtain ⟨hy1, hy2⟩ := hy
  have e1 : IntKind.i8.wrap (y - 1) = y - 1 := wrap_i8 _ (by omega) (by omega)
  have e2 : IntKind.i8.wrap (x - 1) = x - 1 := wrap_i8 _ (by omega) (by omega)
  have e3 : IntKind.i8.wrap (x + 1) = x + 1 := wrap_i8 _ (by omega) (by omega)
  have e4 : IntKind.i8.wrap (y + 1) = y + 1 := wrap_i8 _ (by omega) (by omega)
  go_enter Try.func59, Try.ntmps59
  go_wp2_with (first
    | (with_reducible refine wpList_box 2 rfl rfl 33 _ rfl (.agg (gc G gl)) rfl (gc G gl) rfl ?_; intro g1 w1 b1 hb1 _hs1)
    | (with_reducible refine wpList_box 3 rfl rfl 40 _ rfl (.agg #[.int .i8 x, .int .i8 y]) rfl #[.int .i8 x, .int .i8 y] rfl ?_; intro g2 w2 b2 hb2 _hs2; have n1_2 : g1 < g2 := Nat.lt_of_lt_of_le (blk_lt b1) _hs2; have b1 := blk_below hb2 b1;  have x0 : w2.cell? ⟨g2, 0, none⟩ = some (.int .i8 x) := (blk_cell b2 0).trans rfl; have y0 : w2.cell? ⟨g2, 1, none⟩ = some (.int .i8 y) := (blk_cell b2 1).trans rfl)
    | (with_reducible refine wpList_fourC 30 rfl rfl _ _ _ _ rfl x (x - 1) (x + 1) x (y - 1) y y (y + 1) rfl rfl rfl rfl ?_; intro g3 w3 b3 hb3 _hs3; have b1 := blk_below hb3 b1)
    | (go_at_call 96; refine (deleteFunc_is 97 _ g3 w3 w3 (fourOf x y) _ (around1_is G gl hG g1 g3 w3 _ b1 (Nat.lt_of_lt_of_le n1_2 (by have := blk_lt b2; omega)) hok) b3 (by simp [fourOf]) (Below.refl _ _)).mono ?_; rintro e w4 ⟨rfl, ⟨zs, b4, hl4⟩, hb4⟩))
  have hB2 := below_trans hb1 hb2
  have hB3 := below_trans hB2 hb3
  have hB4 : Below w.heap.size w w4 := hB3.trans (hb4.mono (Nat.le_trans hB2.size _hs3))
  have eF : (List.filter (fun q => inG G q) (fourOf x y)) = besOf G x y := rfl
  rw [eF]
  go_ret
  refine ⟨_, rfl, ?_, hB4⟩
  have eN : (List.filter (fun q => !!inG G q) (fourOf x y)) = besOf G x y := by simp [besOf]
  rw [eN] at b4 hl4
  have hle : (besOf G x y).length ≤ 4 := List.length_filter_le _ _
  have h4 : (fourOf x y).length = 4 := rfl
  refine ⟨pc_length _, .inr ⟨g3, (fourOf x y).length, _, rfl, Nat.le_trans hB2.size _hs3, b4, by omega, by unfold maxLen; omega, by simp only [List.size_toArray, pc_length, hl4], ?_⟩⟩
  rw [pc_append, ← pc_length]
  simp
theorem ownPost.mk {w w' : World} {xs : List (Int × Int)} {v : Value} (h : OwnC w.heap.size w' v xs) (hb : Below w.heap.size w w') : ownPost w xs (.returned v) w' := ⟨v, rfl, h, hb⟩
set_option maxHeartbeats 1000000 in
set_option maxRecDepth 100000 in
theorem l04Beside_is (G : Gd) (gl : Value) (hG : GdOk G) (x y : Int) (hx : 0 ≤ x ∧ x < 9) (hy : 0 ≤ y ∧ y < 9) (g : Nat) (w : World) (hb : w.heap[g]? = some (.cells (gc G gl) 33 (0, 0))) :
    Calls Try.prog 55 #[.pointer (some ⟨g, 0, none⟩), .agg #[.int .i8 x, .int .i8 y]] w (ownPost w (besOf G x y)) := by
  have hok := four_ok hx hy
  obtain ⟨hx1, hx2⟩ := hx
  obtain ⟨hy1, hy2⟩ := hy
  have e1 : IntKind.i8.wrap (y - 1) = y - 1 := wrap_i8 _ (by omega) (by omega)
  have e2 : IntKind.i8.wrap (x - 1) = x - 1 := wrap_i8 _ (by omega) (by omega)
  have e3 : IntKind.i8.wrap (x + 1) = x + 1 := wrap_i8 _ (by omega) (by omega)
  have e4 : IntKind.i8.wrap (y + 1) = y + 1 := wrap_i8 _ (by omega) (by omega)
  go_enter Try.func55, Try.ntmps55
  go_wp2_with (first
    | (with_reducible refine wpList_box 3 rfl rfl 40 _ rfl (.agg #[.int .i8 x, .int .i8 y]) rfl #[.int .i8 x, .int .i8 y] rfl ?_; intro g2 w2 b2 hb2 _hs2)
    | (with_reducible refine wpList_nilC 8 rfl rfl rfl ?_; intro v0 w3 hO0 hB0; have b2' := blk_below hB0 b2; have x0 : w3.cell? ⟨g2, 0, none⟩ = some (.int .i8 x) := (blk_cell b2' 0).trans rfl; have y0 : w3.cell? ⟨g2, 1, none⟩ = some (.int .i8 y) := (blk_cell b2' 1).trans rfl)
    | (with_reducible refine wpList_fourC 33 rfl rfl _ _ _ _ rfl x (x - 1) (x + 1) x (y - 1) y y (y + 1) rfl rfl rfl rfl ?_; intro g3 w4 b3 hb3 _hs3))
  have hO1 := hO0.below hb3
  have hB1 : Below w2.heap.size w2 w4 := below_trans hB0 hb3
  have hb4 := blk_below hB1 (blk_below hb2 hb)
  have hbl := hb2.size
  have h4 : (fourOf x y).length = 4 := rfl
  have hne0 : v0.ownBlock ≠ some g3 := fun h => by have := (World.ownsRow.lt hO0 g3 h).2; omega
  clear x0 y0 e1 e2 e3 e4
  go_loopw [5, 7] (fun v u wr => ∃ k : Nat, k ≤ 4 ∧ u = .int .i64 k ∧ OwnC w2.heap.size wr v (((fourOf x y).take k).filter (inG G)) ∧ Below w2.heap.size w2 wr ∧ v.ownBlock ≠ some g3 ∧ wr.heap[g3]? = some (.cells (pc (fourOf x y)).toArray 40 (0, 0))) (fun _ u _ => 4 - (intOf u).toNat)
  case atStart => exact ⟨0, by omega, rfl, hO1, hB1, hne0, b3⟩
  case round =>
    obtain ⟨k, hk, rfl, hO, hBr, hne, b3r⟩ := hrel
    have hb4r := blk_below hBr (blk_below hb2 hb)
    have hg3 := blk_lt b3r
    by_cases hlt : k < 4
    · have hlt' : decide ((k : Int) < 4) = true := decide_eq_true (by omega)
      obtain ⟨c1, c2⟩ := cell_of_blk (xs := fourOf x y) b3r (show k < (fourOf x y).length by omega)
      have hle : (((fourOf x y).take k).filter (inG G)).length ≤ 4 := Nat.le_trans (List.length_filter_le _ _) (by rw [List.length_take]; omega)
      obtain ⟨q1, q2⟩ := hok k (by omega)
      have HT := Lib.hid (fun h => filter_take_t (p := inG G) (show k < (fourOf x y).length by omega) h)
      have HF := Lib.hid (fun h => filter_take_f (p := inG G) (show k < (fourOf x y).length by omega) h)
      revert c1 c2 q1 q2 HT HF
      generalize (fourOf x y).getD k (0, 0) = q
      intro c1 c2 q1 q2 HT HF
      obtain ⟨qx, qy⟩ := q
      dsimp only at c1 c2 q1 q2
      have a0 := (blk_cell hb4r 0).trans (gc_0 _ _)
      have a1 := (blk_cell hb4r 1).trans (gc_1 _ _)
      cases hq : inG G (qx, qy) with
      | true =>
        have hp : isPt G.W G.H qx qy := of_decide_eq_true hq
        have HT := Lib.hid (HT.out hq)
        clear HF hq
        go_wp2_with (first
          | (go_at_call 68; refine (l04Is_t _ _ _ _ g _ hG.W hG.H q1 q2 a0 a1 hp).mono ?_; rintro e w5 ⟨rfl, hb5⟩; have c1 := cell_below hb5 c1; have c2 := cell_below hb5 c2; have hO := hO.below hb5; have b3r := blk_below hb5 b3r; have hg3 := blk_lt b3r)
          | (at_builtin; refine wpList_appK rfl _ _ rfl w2.heap.size g3 _ _ rfl hO (Nat.le_trans hBr.size hb5.size) (by omega) hg3 (by exact hne) qx qy rfl ?_; intro v' w6 hO3 hB3 hne3 hk3))
        go_roundw
        case rel => exact ⟨k + 1, by omega, by go_num, by rw [HT.out]; exact hO3, (below_trans hBr hb5).trans hB3, hne3, hk3.trans b3r⟩
        case measure => simp [intOf]; omega
      | false =>
        have hp : ¬ isPt G.W G.H qx qy := of_decide_eq_false hq
        have HF := Lib.hid (HF.out hq)
        clear HT hq
        go_wp2_with (first
          | (go_at_call 68; refine (l04Is_f _ _ _ _ g _ hG.W hG.H q1 q2 a0 a1 hp).mono ?_; rintro e w5 ⟨rfl, hb5⟩; have hO := hO.below hb5))
        go_roundw
        case rel => exact ⟨k + 1, by omega, by go_num, by rw [HF.out]; exact hO, below_trans hBr hb5, hne, blk_below hb5 b3r⟩
        case measure => simp [intOf]; omega
    · obtain rfl : k = 4 := by omega
      go_wp2
      go_ret
      rw [show (fourOf x y).take 4 = fourOf x y from rfl] at hO
      exact ⟨_, rfl, hO.lower hbl, below_trans hb2 hBr⟩
end Go.Proofs.Ytkhheofgnhndbaa
