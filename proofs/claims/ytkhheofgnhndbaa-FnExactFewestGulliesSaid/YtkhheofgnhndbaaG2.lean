/- Small functions on numbers, points and cells. -/
import Derived.Test.YtkhheofgnhndbaaG1
import Derived.StillTailTactics
namespace Go.Proofs.Ytkhheofgnhndbaa
set_option linter.unusedVariables false
set_option linter.unusedSimpArgs false
open Go.RowKit
theorem isNaN_is (a : Int) (w : World) : Calls Try.prog 105 #[.int .i8 a] w fun e w' => e = .returned (.bool false) ∧ w = w' := by
  go_enter Try.func105, Try.ntmps105
  go_wp2
  go_ret
  exact ⟨by simp, rfl⟩
def cmpI (a b : Int) : Int := if a < b then -1 else if b < a then 1 else 0
theorem compare_is (a b : Int) (w : World) : Calls Try.prog 92 #[.int .i8 a, .int .i8 b] w fun e w' => e = .returned (.int .i64 (cmpI a b)) ∧ w = w' := by
  go_enter Try.func92, Try.ntmps92
  rcases Int.lt_trichotomy a b with h | h | h
  · have e : cmpI a b = -1 := by unfold cmpI; rw [if_pos h]
    rw [e]
    have h1 : decide (a < b) = true := decide_eq_true h
    go_wp2_with (first
      | (go_at_call 105; refine (isNaN_is _ _).mono ?_; rintro e w' ⟨rfl, rfl⟩))
    go_ret
    exact ⟨rfl, rfl⟩
  · have e : cmpI a b = 0 := by unfold cmpI; rw [if_neg (by omega), if_neg (by omega)]
    rw [e]
    have h1 : decide (a < b) = false := decide_eq_false (by omega)
    have h2 : decide (b < a) = false := decide_eq_false (by omega)
    clear h e
    go_wp2_with (first
      | (go_at_call 105; refine (isNaN_is _ _).mono ?_; rintro e w' ⟨rfl, rfl⟩))
    go_ret
    exact ⟨rfl, rfl⟩
  · have e : cmpI a b = 1 := by unfold cmpI; rw [if_neg (by omega), if_pos h]
    rw [e]
    have h1 : decide (a < b) = false := decide_eq_false (by omega)
    have h2 : decide (b < a) = true := decide_eq_true h
    clear e
    go_wp2_with (first
      | (go_at_call 105; refine (isNaN_is _ _).mono ?_; rintro e w' ⟨rfl, rfl⟩))
    go_ret
    exact ⟨rfl, rfl⟩
theorem within_is (a b c : Int) (r : Bool) (h : r = true ↔ (b ≤ a ∧ a ≤ c)) (w : World) :
    Calls Try.prog 50 #[.int .i64 a, .int .i64 b, .int .i64 c] w fun e w' => e = .returned (.bool r) ∧ w = w' := by
  have e : r = decide (b ≤ a ∧ a ≤ c) := by rw [Bool.eq_iff_iff, h]; simp
  subst e
  clear h
  go_enter Try.func50, Try.ntmps50
  by_cases h : b ≤ a
  · have h1 : decide (b ≤ a) = true := decide_eq_true h
    clear h
    go_wp2
    go_ret
    simp at h1; simp [h1]
  · have h1 : decide (b ≤ a) = false := decide_eq_false h
    clear h
    go_wp2
    go_ret
    simp at h1; simp; omega
theorem l00In_is (a b c : Int) (r : Bool) (h : r = true ↔ (b ≤ a ∧ a ≤ c)) (w : World) :
    Calls Try.prog 64 #[.int .i64 a, .int .i64 b, .int .i64 c] w fun e w' => e = .returned (.bool r) ∧ w = w' := by
  have e : r = decide (b ≤ a ∧ a ≤ c) := by rw [Bool.eq_iff_iff, h]; simp
  subst e
  clear h
  go_enter Try.func64, Try.ntmps64
  by_cases h : b ≤ a
  · have h1 : decide (b ≤ a) = true := decide_eq_true h
    clear h
    go_wp2
    go_ret
    simp at h1; simp [h1]
  · have h1 : decide (b ≤ a) = false := decide_eq_false h
    clear h
    go_wp2
    go_ret
    simp at h1; simp; omega
/-- A row of whole numbers that is read. -/
theorem or_is (g : Nat) (a b : Int) (w : World) (c0 : w.cell? ⟨g, 0, none⟩ = some (.int .i64 a)) (c1 : w.cell? ⟨g, 1, none⟩ = some (.int .i64 b)) :
    Calls Try.prog 91 #[.slice (some ⟨g, 0, none⟩) 2 2] w fun e w' => e = .returned (.int .i64 (if a = 0 then b else a)) ∧ w = w' := by
  by_cases h : a = 0
  · subst h
    rw [if_pos rfl]
    go_enter Try.func91, Try.ntmps91
    go_wp2
    go_loop [8] (fun i => (i = .int .i64 0) ∨ (i = .int .i64 1) ∨ (i = .int .i64 2 ∧ b = 0)) (fun i => (2 - intOf i).toNat)
    case atStart => exact .inl rfl
    case round =>
      rcases hrel with rfl | rfl | ⟨rfl, rfl⟩
      · go_wp2
        go_round
        case rel => exact .inr (.inl rfl)
        case measure => simp [intOf]
      · by_cases hb : b = 0
        · subst hb
          go_wp2
          go_round
          case rel => exact .inr (.inr ⟨rfl, trivial⟩)
          case measure => simp [intOf]
        · have h1 : (b != 0) = true := bne_iff_ne.2 hb
          clear hb
          go_wp2
          go_ret
          exact ⟨rfl, rfl⟩
      · go_wp2
        go_ret
        exact ⟨rfl, rfl⟩
  · have h1 : (a != 0) = true := bne_iff_ne.2 h
    rw [if_neg h]
    clear h
    go_enter Try.func91, Try.ntmps91
    go_wp2
    go_loop [8] (fun i => i = .int .i64 0) (fun i => (2 - intOf i).toNat)
    case atStart => exact rfl
    case round =>
      subst hrel
      go_wp2
      go_ret
      exact ⟨rfl, rfl⟩
set_option maxHeartbeats 800000 in
def cmpC (x y u v : Int) : Int := if cmpI y v = 0 then cmpI x u else cmpI y v
theorem or_r (g : Nat) (a b : Int) (w : World) (c0 : w.cell? ⟨g, 0, none⟩ = some (.int .i64 a)) (c1 : w.cell? ⟨g, 1, none⟩ = some (.int .i64 b)) (r : Int) (hr : (if a = 0 then b else a) = r) :
    Calls Try.prog 91 #[.slice (some ⟨g, 0, none⟩) 2 2] w fun e w' => e = .returned (.int .i64 r) ∧ w = w' := by
  subst hr; exact or_is g a b w c0 c1
theorem compareCells_is (x y u v : Int) (w : World) :
    Calls Try.prog 52 #[.agg #[.int .i8 x, .int .i8 y], .agg #[.int .i8 u, .int .i8 v]] w fun e w' => e = .returned (.int .i64 (cmpC x y u v)) ∧ Below w.heap.size w w' := by
  go_enter Try.func52, Try.ntmps52
  go_wp2_with (first
    | (with_reducible refine wpList_box 2 rfl rfl 40 _ rfl (.agg #[.int .i8 x, .int .i8 y]) rfl #[.int .i8 x, .int .i8 y] rfl ?_; intro g1 w1 b1 hb1 _hs1)
    | (with_reducible refine wpList_box 3 rfl rfl 40 _ rfl (.agg #[.int .i8 u, .int .i8 v]) rfl #[.int .i8 u, .int .i8 v] rfl ?_; intro g2 w2 b2 hb2 _hs2))
  have b1' := blk_below hb2 b1
  have c0 : w2.cell? ⟨g1, 0, none⟩ = some (.int .i8 x) := (blk_cell b1' 0).trans rfl
  have c1 : w2.cell? ⟨g1, 1, none⟩ = some (.int .i8 y) := (blk_cell b1' 1).trans rfl
  have d0 : w2.cell? ⟨g2, 0, none⟩ = some (.int .i8 u) := (blk_cell b2 0).trans rfl
  have d1 : w2.cell? ⟨g2, 1, none⟩ = some (.int .i8 v) := (blk_cell b2 1).trans rfl
  set_option maxRecDepth 100000 in
  go_still_tail 10, (by kernel_rfl)
  still_call ((compare_is _ _ _).mono fun _ _ ⟨ha, hb⟩ => ⟨ha, hb.symm⟩)
  repeat still_step
  still_call ((compare_is _ _ _).mono fun _ _ ⟨ha, hb⟩ => ⟨ha, hb.symm⟩)
  refine wpStill_nil ?_
  have hb3 : Below w2.heap.size w2 w2.drew := (Below.refl _ _).drew
  revert hb3
  change _ → wpList _ _ _ _ _ w2.drew
  generalize w2.drew = w3
  intro hb3
  go_wp2_with (first
    | (go_at_call 91; refine (or_r _ (cmpI y v) (cmpI x u) _ (by simp) (by simp) (cmpC x y u v) rfl).mono ?_; rintro e w' ⟨rfl, rfl⟩))
  go_ret
  exact ⟨rfl, below_trans (below_trans hb1 hb2) ((hb3.trans ((Below.refl _ _).alloc hb3.size _)))⟩
theorem within_t (a b c : Int) (h1 : b ≤ a) (h2 : a ≤ c) (w : World) : Calls Try.prog 50 #[.int .i64 a, .int .i64 b, .int .i64 c] w fun e w' => e = .returned (.bool true) ∧ w = w' := within_is a b c true (by simp [h1, h2]) w
theorem within_f (a b c : Int) (h : ¬ (b ≤ a ∧ a ≤ c)) (w : World) : Calls Try.prog 50 #[.int .i64 a, .int .i64 b, .int .i64 c] w fun e w' => e = .returned (.bool false) ∧ w = w' := within_is a b c false (by simpa using h) w
theorem within_d (a b c : Int) (w : World) : Calls Try.prog 50 #[.int .i64 a, .int .i64 b, .int .i64 c] w fun e w' => e = .returned (.bool (decide (b ≤ a ∧ a ≤ c))) ∧ w = w' := within_is a b c _ (by rw [decide_eq_true_iff]) w
theorem l00In_t (a b c : Int) (h1 : b ≤ a) (h2 : a ≤ c) (w : World) : Calls Try.prog 64 #[.int .i64 a, .int .i64 b, .int .i64 c] w fun e w' => e = .returned (.bool true) ∧ w = w' := l00In_is a b c true (by simp [h1, h2]) w
theorem l00In_f (a b c : Int) (h : ¬ (b ≤ a ∧ a ≤ c)) (w : World) : Calls Try.prog 64 #[.int .i64 a, .int .i64 b, .int .i64 c] w fun e w' => e = .returned (.bool false) ∧ w = w' := l00In_is a b c false (by simpa using h) w
theorem l00In_d (a b c : Int) (w : World) : Calls Try.prog 64 #[.int .i64 a, .int .i64 b, .int .i64 c] w fun e w' => e = .returned (.bool (decide (b ≤ a ∧ a ≤ c))) ∧ w = w' := l00In_is a b c _ (by rw [decide_eq_true_iff]) w
end Go.Proofs.Ytkhheofgnhndbaa
