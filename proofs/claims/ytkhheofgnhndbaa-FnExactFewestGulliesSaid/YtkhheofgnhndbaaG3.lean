/- Points of grounds: whether they lie in, how they are ordered, copies of cells. -/
import Derived.Test.YtkhheofgnhndbaaG2
namespace Go.Proofs.Ytkhheofgnhndbaa
set_option linter.unusedVariables false
set_option linter.unusedSimpArgs false
open Go.RowKit
def isPt (W H x y : Int) : Prop := 0 ≤ x ∧ x ≤ W - 1 ∧ 0 ≤ y ∧ y ≤ H - 1
instance (W H x y : Int) : Decidable (isPt W H x y) := by unfold isPt; infer_instance
def befC (x y u v : Int) : Prop := y < v ∨ y = v ∧ x < u
instance (x y u v : Int) : Decidable (befC x y u v) := by unfold befC; infer_instance
theorem cmpC_neg (x y u v : Int) : cmpC x y u v < 0 ↔ befC x y u v := by
  unfold cmpC cmpI befC
  repeat' split
  all_goals omega
set_option maxHeartbeats 400000 in
theorem before_is (x y u v : Int) (r : Bool) (hr : r = true ↔ befC x y u v) (w : World) :
    Calls Try.prog 87 #[.agg #[.int .i8 x, .int .i8 y], .agg #[.int .i8 u, .int .i8 v]] w fun e w' => e = .returned (.bool r) ∧ Below w.heap.size w w' := by
  obtain rfl : r = decide (befC x y u v) := by rw [Bool.eq_iff_iff, hr]; simp
  clear hr
  go_enter Try.func87, Try.ntmps87
  by_cases h : y < v
  · have e : decide (befC x y u v) = true := decide_eq_true (.inl h)
    rw [e]; clear e
    have h1 : decide (y < v) = true := decide_eq_true h
    go_wp2
    go_ret
    exact ⟨rfl, ((Below.refl _ _).alloc (Nat.le_refl _) _).alloc (by simp) _⟩
  · have h1 : decide (y < v) = false := decide_eq_false h
    by_cases h' : y = v
    · have h2 : (y == v) = true := beq_iff_eq.2 h'
      by_cases h'' : x < u
      · have e : decide (befC x y u v) = true := decide_eq_true (.inr ⟨h', h''⟩)
        rw [e]; clear e
        have h3 : decide (x < u) = true := decide_eq_true h''
        clear h' h
        go_wp2
        go_ret
        exact ⟨rfl, ((Below.refl _ _).alloc (Nat.le_refl _) _).alloc (by simp) _⟩
      · have e : decide (befC x y u v) = false := decide_eq_false (by unfold befC; omega)
        rw [e]; clear e
        have h3 : decide (x < u) = false := decide_eq_false h''
        clear h' h h''
        go_wp2
        go_ret
        exact ⟨rfl, ((Below.refl _ _).alloc (Nat.le_refl _) _).alloc (by simp) _⟩
    · have h2 : (y == v) = false := beq_eq_false_iff_ne.2 h'
      have e : decide (befC x y u v) = false := decide_eq_false (by unfold befC; omega)
      rw [e]; clear e
      clear h' h
      go_wp2
      go_ret
      exact ⟨rfl, ((Below.refl _ _).alloc (Nat.le_refl _) _).alloc (by simp) _⟩
set_option maxHeartbeats 400000 in
theorem l04Is_is (W H x y : Int) (g : Nat) (w : World) (hW : i8ok W) (hH : i8ok H) (hx : i8ok x) (hy : i8ok y)
    (c0 : w.cell? ⟨g, 0, none⟩ = some (.int .i8 W)) (c1 : w.cell? ⟨g, 1, none⟩ = some (.int .i8 H)) (r : Bool) (hr : r = true ↔ isPt W H x y) :
    Calls Try.prog 68 #[.pointer (some ⟨g, 0, none⟩), .agg #[.int .i8 x, .int .i8 y]] w fun e w' => e = .returned (.bool r) ∧ Below w.heap.size w w' := by
  obtain ⟨hW1, hW2⟩ := hW
  obtain ⟨hH1, hH2⟩ := hH
  obtain ⟨hx1, hx2⟩ := hx
  obtain ⟨hy1, hy2⟩ := hy
  obtain rfl : r = decide (isPt W H x y) := by rw [Bool.eq_iff_iff, hr]; simp
  clear hr
  go_enter Try.func68, Try.ntmps68
  go_wp2_with (first
    | (with_reducible refine wpList_box 3 rfl rfl 40 _ rfl (.agg #[.int .i8 x, .int .i8 y]) rfl #[.int .i8 x, .int .i8 y] rfl ?_; intro g1 w1 b1 hb1 _hs1))
  have e0 := ext_cell (v := .int .i8 x) ((blk_cell b1 0).trans rfl)
  have e1 := ext_cell (v := .int .i8 y) ((blk_cell b1 1).trans rfl)
  have e2 := ext_cell (cell_below hb1 c0)
  have e3 := ext_cell (cell_below hb1 c1)
  by_cases h : 0 ≤ x ∧ x ≤ W - 1
  · have e : decide (isPt W H x y) = (decide (0 ≤ y) && decide (y ≤ H - 1)) := by simp [isPt, h]
    have E := Lib.hid e; clear e
    try simp only [Act.put, List.setIfInBounds_toArray, List.set_cons_zero, List.set_cons_succ]
    refine wp_region_ext (by kernel_rfl) (by kernel_rfl) ?_
    repeat (first
      | go_big_quiet_skip
      | (go_big_quiet_want
         go_big_quiet_op
         first
           | go_big_quiet_on
           | (apply Exists.intro
              refine ⟨fun _ => ?_, ?_⟩
              · first
                  | (go_at_call 64; exact Calls.ext_same (l00In_t _ _ _ (by omega) (by omega) _))
                  | (go_at_call 64; exact Calls.ext_same (l00In_d _ _ _ _))
              go_big_quiet_on)))
    refine wpQuiet_nil ?_
    intro w3 hb3
    go_wp2
    go_ret
    exact ⟨by rw [E.out]; rfl, below_trans hb1 hb3⟩
  · have e : decide (isPt W H x y) = false := decide_eq_false (by unfold isPt; omega)
    have E := Lib.hid e; clear e
    try simp only [Act.put, List.setIfInBounds_toArray, List.set_cons_zero, List.set_cons_succ]
    refine wp_region_ext (by kernel_rfl) (by kernel_rfl) ?_
    repeat (first
      | go_big_quiet_skip
      | (go_big_quiet_want
         go_big_quiet_op
         first
           | go_big_quiet_on
           | (apply Exists.intro
              refine ⟨fun _ => ?_, ?_⟩
              · first
                  | (go_at_call 64; exact Calls.ext_same (l00In_f _ _ _ (by omega) _))
              go_big_quiet_on)))
    refine wpQuiet_nil ?_
    intro w3 hb3
    go_wp2
    go_ret
    exact ⟨by rw [E.out]; rfl, below_trans hb1 hb3⟩
set_option maxHeartbeats 400000 in
theorem isCell_is (W H x y : Int) (s : Value) (w : World) (hs1 : s.cells = #[s]) (hW : i8ok W) (hH : i8ok H) (hx : i8ok x) (hy : i8ok y) (r : Bool) (hr : r = true ↔ isPt W H x y) :
    Calls Try.prog 90 #[.agg #[.int .i8 W, .int .i8 H, s], .agg #[.int .i8 x, .int .i8 y]] w fun e w' => e = .returned (.bool r) ∧ Below w.heap.size w w' := by
  obtain ⟨hW1, hW2⟩ := hW
  obtain ⟨hH1, hH2⟩ := hH
  obtain ⟨hx1, hx2⟩ := hx
  obtain ⟨hy1, hy2⟩ := hy
  obtain rfl : r = decide (isPt W H x y) := by rw [Bool.eq_iff_iff, hr]; simp
  clear hr
  go_enter Try.func90, Try.ntmps90
  by_cases h : 0 ≤ x ∧ x ≤ W - 1
  · have e : decide (isPt W H x y) = (decide (0 ≤ y) && decide (y ≤ H - 1)) := by simp [isPt, h]
    have E := Lib.hid e; clear e
    go_wp2_with (first
      | (go_at_call 50; refine (within_t _ _ _ (by omega) (by omega) _).mono ?_; rintro e w' ⟨rfl, rfl⟩)
      | (go_at_call 50; refine (within_d _ _ _ _).mono ?_; rintro e w' ⟨rfl, rfl⟩))
    go_ret
    exact ⟨by rw [E.out]; rfl, ((Below.refl _ _).alloc (Nat.le_refl _) _).alloc (by simp) _⟩
  · have e : decide (isPt W H x y) = false := decide_eq_false (by unfold isPt; omega)
    have E := Lib.hid e; clear e
    go_wp2_with (first
      | (go_at_call 50; refine (within_f _ _ _ (by omega) _).mono ?_; rintro e w' ⟨rfl, rfl⟩))
    go_ret
    exact ⟨by rw [E.out]; rfl, ((Below.refl _ _).alloc (Nat.le_refl _) _).alloc (by simp) _⟩
set_option maxHeartbeats 400000 in
theorem frame_is (G : Gd) (gl : Value) (w : World) :
    Calls Try.prog 89 #[.agg (gc G gl)] w fun e w' => e = .returned (.agg #[.int .i8 G.W, .int .i8 G.H, .slice none 0 0]) ∧ Below w.heap.size w w' := by
  go_enter Try.func89, Try.ntmps89
  go_wp2_with (first
    | (with_reducible refine wpList_box 1 rfl rfl 33 _ rfl (.agg (gc G gl)) rfl (gc G gl) rfl ?_; intro g1 w1 b1 hb1 _hs1;  have c0 := (blk_cell b1 0).trans (gc_0 G gl); have c1 := (blk_cell b1 1).trans (gc_1 G gl); have hlt := blk_lt b1))
  exact bodyPost_ret (v := .agg #[.int .i8 G.W, .int .i8 G.H, .slice none 0 0]) (by simp [results, Try.results89, go_sem]) rfl ⟨rfl, hb1.trans ((Below.refl _ _).alloc hb1.size _)⟩
set_option maxHeartbeats 400000 in
theorem isPoint_is (G : Gd) (gl : Value) (hG : GdOk G) (x y : Int) (w : World) (hx : i8ok x) (hy : i8ok y) (r : Bool) (hr : r = true ↔ isPt G.W G.H x y) :
    Calls Try.prog 51 #[.agg (gc G gl), .agg #[.int .i8 x, .int .i8 y]] w fun e w' => e = .returned (.bool r) ∧ Below w.heap.size w w' := by
  go_enter Try.func51, Try.ntmps51
  go_wp2_with (first
    | (with_reducible refine wpList_box 2 rfl rfl 33 _ rfl (.agg (gc G gl)) rfl (gc G gl) rfl ?_; intro g1 w1 b1 hb1 _hs1)
    | (with_reducible refine wpList_box 3 rfl rfl 40 _ rfl (.agg #[.int .i8 x, .int .i8 y]) rfl #[.int .i8 x, .int .i8 y] rfl ?_; intro g2 w2 b2 hb2 _hs2))
  have b1' := blk_below hb2 b1
  have d0 := ext_cell (v := .int .i8 x) ((blk_cell b2 0).trans rfl)
  have d1 := ext_cell (v := .int .i8 y) ((blk_cell b2 1).trans rfl)
  try simp only [Act.put, List.setIfInBounds_toArray, List.set_cons_zero, List.set_cons_succ]
  refine wp_region_ext (by kernel_rfl) (by kernel_rfl) ?_
  repeat (first
    | go_big_quiet_skip
    | (go_big_quiet_want; with_reducible refine quiet_load_row 33 _ rfl g1 rfl 33 (gc G gl) (0, 0) _ (by rintro _ ⟨p, rfl⟩; exact ext_blk b1' p) Try.underlying33 rfl (gc_info G gl hG) ?_; (simp only [Act.put, List.setIfInBounds_toArray, List.set_cons_zero, List.set_cons_succ]); go_big_quiet_on)
    | (go_big_quiet_want
       go_big_quiet_op
       first
         | go_big_quiet_on
         | (apply Exists.intro
            refine ⟨fun _ => ?_, ?_⟩
            · first
                | (go_at_call 89; exact Calls.ext_of (frame_is _ _ _))
                | (go_at_call 90; exact Calls.ext_of (isCell_is _ _ _ _ _ _ rfl hG.W hG.H hx hy _ hr))
            go_big_quiet_on)))
  refine wpQuiet_nil ?_
  intro w3 hb3
  go_wp2
  go_ret
  exact ⟨rfl, below_trans (below_trans hb1 hb2) hb3⟩
end Go.Proofs.Ytkhheofgnhndbaa
