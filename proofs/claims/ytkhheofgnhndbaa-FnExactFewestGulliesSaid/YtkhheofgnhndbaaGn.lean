/- Cells compared; the gully at a point. -/
import Derived.Test.YtkhheofgnhndbaaGi
import Derived.Laws.StructEq
namespace Go.Proofs.Ytkhheofgnhndbaa
set_option linter.unusedVariables false
set_option linter.unusedSimpArgs false
open Go.RowKit
def eqP (p q : Int × Int) : Bool := p.1 == q.1 && p.2 == q.2
theorem eqP_iff (p q : Int × Int) : eqP p q = true ↔ p = q := by
  obtain ⟨a, b⟩ := p
  obtain ⟨c, d⟩ := q
  simp [eqP]
theorem equal40 (x y u v : Int) (w : World) : (Op.equalIn 10000 40 (.agg #[.int .i8 x, .int .i8 y]) (.agg #[.int .i8 u, .int .i8 v])).run Try.prog w = .ok (eqP (x, y) (u, v)) w := by
  have hS : Try.prog.underlying 40 = some (.struct (Try.prog.fieldsOf 40)) := by kernel_rfl
  have hp : Try.prog.stoodInHeld 40 = false := by kernel_rfl
  rw [show (10000 : Nat) = 9999 + 1 from rfl, run_equalIn_agg w 9999 40 _ _ hS hp]
  simp only [Program.fieldsOf, Try.underlying40]
  go_simp
  by_cases h1 : x = u <;> by_cases h2 : y = v <;> simp [h1, h2, eqP]
theorem quiet_eq40 {o : Oper} {a : Act} {C : World → Prop} {K : Act → Prop} (x y : Operand) (ho : o.op = .binOp .eql 40 x y 40) (p1 p2 q1 q2 : Int) (hx : a.eval x = .agg #[.int .i8 p1, .int .i8 p2]) (hy : a.eval y = .agg #[.int .i8 q1, .int .i8 q2])
    (hk : K (a.put o.dst (.bool (eqP (p1, p2) (q1, q2))))) : o.quiet Try.prog a C K := by
  refine ⟨_, fun w hw => ?_, hk⟩
  have hm : Try.prog.eqGuardType Try.prog.depth 40 = false := by kernel_rfl
  have h1 := run_eqGuard_agg (P := Try.prog) w .eql 40 x y #[.int .i8 p1, .int .i8 p2] #[.int .i8 q1, .int .i8 q2] hm
  unfold Oper.quietAt execOp
  simp only [ho, hx, hy, Sem.run_bind, Sem.run_pure, Result.andThen_ok, h1, run_eql_struct, equal40]
  exact ⟨rfl, rfl⟩
theorem quiet_ne40 {o : Oper} {a : Act} {C : World → Prop} {K : Act → Prop} (x y : Operand) (ho : o.op = .binOp .neq 40 x y 40) (p1 p2 q1 q2 : Int) (hx : a.eval x = .agg #[.int .i8 p1, .int .i8 p2]) (hy : a.eval y = .agg #[.int .i8 q1, .int .i8 q2])
    (hk : K (a.put o.dst (.bool (!eqP (p1, p2) (q1, q2))))) : o.quiet Try.prog a C K := by
  refine ⟨_, fun w hw => ?_, hk⟩
  have hm : Try.prog.eqGuardType Try.prog.depth 40 = false := by kernel_rfl
  have h1 := run_eqGuard_agg (P := Try.prog) w .neq 40 x y #[.int .i8 p1, .int .i8 p2] #[.int .i8 q1, .int .i8 q2] hm
  unfold Oper.quietAt execOp
  simp only [ho, hx, hy, Sem.run_bind, Sem.run_pure, Result.andThen_ok, h1, run_neq_struct, equal40]
  exact ⟨rfl, rfl⟩
/-- The place of the first element that is p, or -1. -/
theorem l04Gully_is (G : Gd) (gl : Value) (hG : GdOk G) (hl : G.gul.length ≤ 1048576) (x y : Int) (g : Nat) (w : World) (hv : Cs w gl G.gul) (hb : w.heap[g]? = some (.cells (gc G gl) 33 (0, 0))) (r : Int) (hr : IdxR (eqP (x, y)) G.gul r) :
    Calls Try.prog 84 #[.pointer (some ⟨g, 0, none⟩), .agg #[.int .i8 x, .int .i8 y]] w fun e w' => e = .returned (.int .i64 r) ∧ Below w.heap.size w w' := by
  have hlen := hG.len
  obtain ⟨A, c, rfl, h1, h2, h3⟩ := hv
  have H3 := Lib.hid h3
  have HR := Lib.hid hr
  clear h2 h3 hr
  go_enter Try.func84, Try.ntmps84
  go_wp2_with (first
    | (with_reducible refine wpList_box 3 rfl rfl 40 _ rfl (.agg #[.int .i8 x, .int .i8 y]) rfl #[.int .i8 x, .int .i8 y] rfl ?_; intro g1 w1 b1 hb1 _hs1))
  have hb1' := blk_below hb1 hb
  go_loopw [5] (fun u wr => ∃ k : Nat, k ≤ G.gul.length ∧ u = .int .i64 k ∧ Below w1.heap.size w1 wr ∧ Hid (∀ i, i < k → eqP (x, y) (G.gul.getD i (0, 0)) = false)) (fun u _ => G.gul.length - (intOf u).toNat)
  case atStart => exact ⟨0, Nat.zero_le _, rfl, Below.refl _ _, fun i hi => absurd hi (Nat.not_lt_zero _)⟩
  case round =>
    obtain ⟨k, hk, rfl, hB, HU⟩ := hrel
    have bg := blk_below hB hb1'
    have a83 := (blk_cell bg 83).trans (gc_83 _ _ hlen)
    have b1r := blk_below hB b1
    by_cases hlt : k < G.gul.length
    · have hlt' : decide ((k : Int) < (G.gul.length : Int)) = true := decide_eq_true (by omega)
      obtain ⟨ad, rfl, hc⟩ := H3.out (by omega)
      have hck := ((hc k hlt).below hb1).below hB
      clear hc
      have HN : eqP (x, y) (G.gul.getD k (0, 0)) = false → Hid (∀ i, i < k + 1 → eqP (x, y) (G.gul.getD i (0, 0)) = false) := fun h i hi => by
        rcases Nat.lt_succ_iff_lt_or_eq.1 hi with h' | rfl
        · exact HU.out i h'
        · exact h
      have HE : eqP (x, y) (G.gul.getD k (0, 0)) = true → Hid (r = k) := fun h => HR.out.uniq (.inr ⟨k, hlt, rfl, h, HU.out⟩)
      have HN := Lib.hid HN
      have HE := Lib.hid HE
      revert hck HN HE
      generalize G.gul.getD k (0, 0) = q
      intro hck HN HE
      obtain ⟨qx, qy⟩ := q
      obtain ⟨c1, c2⟩ := hck
      dsimp only at c1 c2
      have x1 := ext_cell c1
      have x2 := ext_cell c2
      have x83 := ext_cell a83
      have y1 := ext_cell (v := .int .i8 x) ((blk_cell b1r 0).trans rfl)
      have y2 := ext_cell (v := .int .i8 y) ((blk_cell b1r 1).trans rfl)
      have hsym : eqP (qx, qy) (x, y) = eqP (x, y) (qx, qy) := by simp only [eqP, Bool.beq_comm (a := qx), Bool.beq_comm (a := qy)]
      have HS := Lib.hid hsym
      clear hsym
      go_wp2
      try simp only [Act.put, List.setIfInBounds_toArray, List.set_cons_zero, List.set_cons_succ]
      refine wp_region_ext (by kernel_rfl) (by kernel_rfl) ?_
      repeat (first
        | go_big_quiet_skip
        | (go_big_quiet_want; with_reducible refine quiet_eq40 _ _ rfl qx qy x y rfl rfl ?_; (simp only [Act.put, List.setIfInBounds_toArray, List.set_cons_zero, List.set_cons_succ]); go_big_quiet_on)
        | (go_big_quiet_want
           go_big_quiet_op
           first
             | go_big_quiet_on))
      refine wpQuiet_nil ?_
      intro w5 hb5
      cases hq : eqP (x, y) (qx, qy) with
      | true =>
        have HE := HE.out hq
        have hq' : eqP (qx, qy) (x, y) = true := by rw [HS.out, hq]
        clear HN hq
        rw [hq']
        go_wp2
        go_ret
        exact ⟨by rw [HE.out]; rfl, below_trans hb1 (below_trans hB hb5)⟩
      | false =>
        have HN := HN.out hq
        have hq' : eqP (qx, qy) (x, y) = false := by rw [HS.out, hq]
        clear HE hq
        rw [hq']
        go_wp2
        go_roundw
        case rel => exact ⟨k + 1, by omega, by go_num, below_trans hB hb5, HN⟩
        case measure => simp [intOf]; omega
    · obtain rfl : k = G.gul.length := by omega
      have HE : Hid (r = -1) := HR.out.uniq (.inl ⟨rfl, HU.out⟩)
      go_wp2
      go_ret
      exact ⟨by rw [HE.out]; rfl, below_trans hb1 hB⟩
theorem index_is (xs : List (Int × Int)) (hl : xs.length ≤ 1048576) (x y : Int) (v : Value) (w : World) (hv : Cs w v xs) (r : Int) (hr : IdxR (eqP (x, y)) xs r) :
    Calls Try.prog 103 #[v, .agg #[.int .i8 x, .int .i8 y]] w fun e w' => e = .returned (.int .i64 r) ∧ Below w.heap.size w w' := by
  obtain ⟨A, c, rfl, h1, h2, h3⟩ := hv
  have H3 := Lib.hid h3
  have HR := Lib.hid hr
  clear h2 h3 hr
  go_enter Try.func103, Try.ntmps103
  go_wp2_with (first
    | (with_reducible refine wpList_box 3 rfl rfl 40 _ rfl (.agg #[.int .i8 x, .int .i8 y]) rfl #[.int .i8 x, .int .i8 y] rfl ?_; intro g1 w1 b1 hb1 _hs1))
  go_loopw [8] (fun u wr => ∃ k : Nat, k ≤ xs.length ∧ u = .int .i64 k ∧ Below w1.heap.size w1 wr ∧ Hid (∀ i, i < k → eqP (x, y) (xs.getD i (0, 0)) = false)) (fun u _ => xs.length - (intOf u).toNat)
  case atStart => exact ⟨0, Nat.zero_le _, rfl, Below.refl _ _, fun i hi => absurd hi (Nat.not_lt_zero _)⟩
  case round =>
    obtain ⟨k, hk, rfl, hB, HU⟩ := hrel
    have b1r := blk_below hB b1
    by_cases hlt : k < xs.length
    · have hlt' : decide ((k : Int) < (xs.length : Int)) = true := decide_eq_true (by omega)
      obtain ⟨ad, rfl, hc⟩ := H3.out (by omega)
      have hck := ((hc k hlt).below hb1).below hB
      clear hc
      have HN : eqP (x, y) (xs.getD k (0, 0)) = false → Hid (∀ i, i < k + 1 → eqP (x, y) (xs.getD i (0, 0)) = false) := fun h i hi => by
        rcases Nat.lt_succ_iff_lt_or_eq.1 hi with h' | rfl
        · exact HU.out i h'
        · exact h
      have HE : eqP (x, y) (xs.getD k (0, 0)) = true → Hid (r = k) := fun h => HR.out.uniq (.inr ⟨k, hlt, rfl, h, HU.out⟩)
      have HN := Lib.hid HN
      have HE := Lib.hid HE
      revert hck HN HE
      generalize xs.getD k (0, 0) = q
      intro hck HN HE
      obtain ⟨qx, qy⟩ := q
      obtain ⟨c1, c2⟩ := hck
      dsimp only at c1 c2
      have x1 := ext_cell c1
      have x2 := ext_cell c2
      have y1 := ext_cell (v := .int .i8 x) ((blk_cell b1r 0).trans rfl)
      have y2 := ext_cell (v := .int .i8 y) ((blk_cell b1r 1).trans rfl)
      go_wp2
      try simp only [Act.put, List.setIfInBounds_toArray, List.set_cons_zero, List.set_cons_succ]
      refine wp_region_ext (by kernel_rfl) (by kernel_rfl) ?_
      repeat (first
        | go_big_quiet_skip
        | (go_big_quiet_want; with_reducible refine quiet_eq40 _ _ rfl x y qx qy rfl rfl ?_; (simp only [Act.put, List.setIfInBounds_toArray, List.set_cons_zero, List.set_cons_succ]); go_big_quiet_on)
        | (go_big_quiet_want
           go_big_quiet_op
           first
             | go_big_quiet_on))
      refine wpQuiet_nil ?_
      intro w5 hb5
      cases hq : eqP (x, y) (qx, qy) with
      | true =>
        have HE := HE.out hq
        clear HN
        go_wp2
        go_ret
        exact ⟨by rw [HE.out]; rfl, below_trans hb1 (below_trans hB hb5)⟩
      | false =>
        have HN := HN.out hq
        clear HE
        go_wp2
        go_roundw
        case rel => exact ⟨k + 1, by omega, by go_num, below_trans hB hb5, HN⟩
        case measure => simp [intOf]; omega
    · obtain rfl : k = xs.length := by omega
      have HE : Hid (r = -1) := HR.out.uniq (.inl ⟨rfl, HU.out⟩)
      go_wp2
      go_ret
      exact ⟨by rw [HE.out]; rfl, below_trans hb1 hB⟩
theorem contains_is (xs : List (Int × Int)) (hl : xs.length ≤ 1048576) (x y : Int) (v : Value) (w : World) (hv : Cs w v xs) (r : Int) (hr : IdxR (eqP (x, y)) xs r) :
    Calls Try.prog 104 #[v, .agg #[.int .i8 x, .int .i8 y]] w fun e w' => e = .returned (.bool (decide (0 ≤ r))) ∧ Below w.heap.size w w' := by
  have HR := Lib.hid hr
  clear hr
  go_enter Try.func104, Try.ntmps104
  go_wp2_with (first
    | (with_reducible refine wpList_box 3 rfl rfl 40 _ rfl (.agg #[.int .i8 x, .int .i8 y]) rfl #[.int .i8 x, .int .i8 y] rfl ?_; intro g1 w1 b1 hb1 _hs1;  have x0 : w1.cell? ⟨g1, 0, none⟩ = some (.int .i8 x) := (blk_cell b1 0).trans rfl; have y0 : w1.cell? ⟨g1, 1, none⟩ = some (.int .i8 y) := (blk_cell b1 1).trans rfl)
    | (go_at_call 103; refine (index_is xs hl x y v _ (hv.below hb1) r HR.out).mono ?_; rintro e w2 ⟨rfl, hb2⟩))
  go_ret
  exact ⟨rfl, below_trans hb1 hb2⟩
theorem isGully_is (G : Gd) (gl : Value) (hG : GdOk G) (hl : G.gul.length ≤ 1048576) (x y : Int) (w : World) (hv : Cs w gl G.gul) (r : Int) (hr : IdxR (eqP (x, y)) G.gul r) :
    Calls Try.prog 86 #[.agg (gc G gl), .agg #[.int .i8 x, .int .i8 y]] w fun e w' => e = .returned (.bool (decide (0 ≤ r))) ∧ Below w.heap.size w w' := by
  have HR := Lib.hid hr
  have hlen := hG.len
  clear hr
  go_enter Try.func86, Try.ntmps86
  go_wp2_with (first
    | (with_reducible refine wpList_box 2 rfl rfl 33 _ rfl (.agg (gc G gl)) rfl (gc G gl) rfl ?_; intro g1 w1 b1 hb1 _hs1)
    | (with_reducible refine wpList_box 3 rfl rfl 40 _ rfl (.agg #[.int .i8 x, .int .i8 y]) rfl #[.int .i8 x, .int .i8 y] rfl ?_; intro g2 w2 b2 hb2 _hs2; have n1_2 : g1 < g2 := Nat.lt_of_lt_of_le (blk_lt b1) _hs2; have b1 := blk_below hb2 b1;  have x0 : w2.cell? ⟨g2, 0, none⟩ = some (.int .i8 x) := (blk_cell b2 0).trans rfl; have y0 : w2.cell? ⟨g2, 1, none⟩ = some (.int .i8 y) := (blk_cell b2 1).trans rfl; have a83 := (blk_cell b1 83).trans (gc_83 _ _ hlen); have hB2 := below_trans hb1 hb2)
    | (go_at_call 104; refine (contains_is G.gul hl x y gl _ (hv.below hB2) r HR.out).mono ?_; rintro e w3 ⟨rfl, hb3⟩))
  go_ret
  exact ⟨rfl, below_trans hB2 hb3⟩
end Go.Proofs.Ytkhheofgnhndbaa
