/- How slabs are compared, walked: of the world but draws and new blocks nothing turns. No statement is proved here. -/
import Derived.Test.YtmjijggkdbiijaaG0
import Derived.Test.YtmjijggkdbiijaaSv
import Derived.StillTailTactics
import Derived.Sort.Grow
namespace Go.Proofs.Ytmjijggkdbiijaa
open Go.RowKit Go.Sort
set_option linter.unusedVariables false
set_option linter.unusedSimpArgs false
/-- All that lay in w lies as it did, and no fewer numbers are drawn. -/
structure BD (w w' : World) : Prop where
  below : Below w.heap.size w w'
  dr : w.drawn ≤ w'.drawn
theorem BD.refl (w : World) : BD w w := ⟨Below.refl _ _, Nat.le_refl _⟩
theorem BD.trans {w w1 w2 : World} (h : BD w w1) (k : BD w1 w2) : BD w w2 := ⟨below_trans h.below k.below, Nat.le_trans h.dr k.dr⟩
theorem BD.alloc (w : World) (o : Obj) : BD w (w.alloc o) := ⟨(Below.refl _ _).alloc (Nat.le_refl _) _, Nat.le_refl _⟩
theorem BD.drew (w : World) : BD w w.drew := ⟨(Below.refl _ _).drew, Nat.le_succ _⟩
theorem BD.grow {w w' : World} (h : BD w w') : ∃ q os, w' = Go.Sort.grow (w.drewN q) os := by
  refine ⟨w'.drawn - w.drawn, (w'.heap.toList.drop w.heap.size).toArray, ?_⟩
  obtain ⟨hp, tp, dn, os, op⟩ := w'
  have h1 := h.below.os
  have h2 := h.below.tape
  have h3 := h.below.output
  have h4 := h.below.size
  have h5 := h.below.block
  have h6 := h.dr
  simp only at h1 h2 h3 h4 h5 h6
  subst h1 h2 h3
  unfold Go.Sort.grow World.drewN
  simp only [World.mk.injEq, true_and, and_true]
  refine ⟨?_, by omega⟩
  apply Array.ext'
  rw [Array.toList_append]
  have e : hp.toList.take w.heap.size = w.heap.toList := by
    apply List.ext_getElem?
    intro i
    rcases Nat.lt_or_ge i w.heap.size with q | q
    · rw [List.getElem?_take_of_lt q, Array.getElem?_toList, h5 i q, Array.getElem?_toList]
    · rw [List.getElem?_eq_none (by simp; omega), List.getElem?_eq_none (by simpa using q)]
  rw [← e, List.take_append_drop]
structure ExtD (w : World) where
  val : World
  bd : BD w val
instance (w : World) : Inhabited (ExtD w) := ⟨⟨w, BD.refl _⟩⟩
theorem wp_region_extD {P : Program} {id : Nat} {Q : Exit → Act → World → Prop} {a : Act} {w : World} {l : List Oper} (hm : P.follows .mixedOrders = true) (hB : Region.lexB .any l.toArray = true)
    (h : wpQuiet P l.toArray (fun w' => ∃ p : ExtD w, w' = p.val) (fun a' => ∀ w', BD w w' → Q .normal a' w') l a) : (Code.region id l.toArray true).wp P Q a w :=
  wp_region_quiet (C := fun w' => ∃ p : ExtD w, w' = p.val) hm hB ⟨⟨_, BD.drew w⟩, rfl⟩ (by
    have e : (fun a' => ∀ w', (∃ p : ExtD w, w' = p.val) → Q .normal a' w') = (fun a' => ∀ w', BD w w' → Q .normal a' w') := by
      funext a'
      exact propext ⟨fun h w' hb => h w' ⟨⟨w', hb⟩, rfl⟩, fun h w' ⟨p, hp⟩ => by subst hp; exact h _ p.bd⟩
    rw [e]; simpa using h)
theorem Calls.extD_of {P : Program} {f : FuncId} {args : Array Value} {w : World} {p : ExtD w} {v : Value}
    (h : Calls P f args p.val fun e w' => e = .returned v ∧ BD p.val w') : Calls P f args p.val fun e w'' => e = .returned v ∧ ∃ q : ExtD w, w'' = q.val :=
  h.mono fun _ w' ⟨he, hb⟩ => ⟨he, ⟨w', p.bd.trans hb⟩, rfl⟩
theorem extD_blk {w : World} {g : Nat} {o : Obj} (h : w.heap[g]? = some o) : ∀ p : ExtD w, p.val.heap[g]? = some o := fun p => blk_below p.bd.below h
section
variable {P : Program} {ops : Array Oper} {rest : List Oper} {o : Oper} {a : Act} {w : World} {Q : Exit → Act → World → Prop}
theorem wpList_boxD (N : Nat) (hd : o.dst = some N) (hg : o.guard = none) (T : TypeId) (x : Operand) (ho : o.op = .box T x) (v : Value) (hx : a.eval x = v) (cs : Array Value) (hcs : v.cells = cs)
    (h : ∀ g w1, w1.heap[g]? = some (.cells cs T (0, 0)) → BD w w1 → wpList P ops Q rest (a.put (some N) (.pointer (some ⟨g, 0, none⟩))) w1) :
    wpList P ops Q (o :: rest) a w := by
  rw [← hd] at h; clear hd
  subst hcs
  refine wpList_plain hg fun K hK => ?_
  unfold Oper.wp execOp
  simp only [ho, hx]
  go_simp
  exact hK _ _ (h _ _ (heap_alloc_new w _) (BD.alloc w _))
end
theorem isNaN_w (a : Int) (w : World) : Calls Try.prog 184 #[.int .i8 a] w fun e w' => e = .returned (.bool false) ∧ w = w' := by
  go_enter Try.func184, Try.ntmps184
  go_wp2
  go_ret
  exact ⟨by simp, rfl⟩
theorem compare_w (a b : Int) (w : World) : Calls Try.prog 164 #[.int .i8 a, .int .i8 b] w fun e w' => e = .returned (.int .i64 (cmp8 a b)) ∧ w = w' := by
  go_enter Try.func164, Try.ntmps164
  rcases Int.lt_trichotomy a b with h | h | h
  · have e : cmp8 a b = -1 := by unfold cmp8; rw [if_pos h]
    rw [e]
    have h1 : decide (a < b) = true := decide_eq_true h
    go_wp2_with (go_at_call 184; refine (isNaN_w _ _).mono ?_; rintro e w' ⟨rfl, rfl⟩)
    go_ret
    exact ⟨rfl, rfl⟩
  · have e : cmp8 a b = 0 := by unfold cmp8; rw [if_neg (by omega), if_neg (by omega)]
    rw [e]
    have h1 : decide (a < b) = false := decide_eq_false (by omega)
    have h2 : decide (b < a) = false := decide_eq_false (by omega)
    clear h e
    go_wp2_with (go_at_call 184; refine (isNaN_w _ _).mono ?_; rintro e w' ⟨rfl, rfl⟩)
    go_ret
    exact ⟨rfl, rfl⟩
  · have e : cmp8 a b = 1 := by unfold cmp8; rw [if_neg (by omega), if_pos h]
    rw [e]
    have h1 : decide (a < b) = false := decide_eq_false (by omega)
    have h2 : decide (b < a) = true := decide_eq_true h
    clear e
    go_wp2_with (go_at_call 184; refine (isNaN_w _ _).mono ?_; rintro e w' ⟨rfl, rfl⟩)
    go_ret
    exact ⟨rfl, rfl⟩
theorem or_w (g : Nat) (a b : Int) (w : World) (c0 : w.cell? ⟨g, 0, none⟩ = some (.int .i64 a)) (c1 : w.cell? ⟨g, 1, none⟩ = some (.int .i64 b)) :
    Calls Try.prog 163 #[.slice (some ⟨g, 0, none⟩) 2 2] w fun e w' => e = .returned (.int .i64 (if a = 0 then b else a)) ∧ w = w' := by
  by_cases h : a = 0
  · subst h
    rw [if_pos rfl]
    go_enter Try.func163, Try.ntmps163
    go_wp2
    go_loop [8] (fun i => (i = .int .i64 0) ∨ (i = .int .i64 1) ∨ (i = .int .i64 2 ∧ b = 0)) (fun i => (2 - intOf i).toNat)
    case atStart => exact .inl rfl
    case round =>
      rcases hrel with rfl | rfl | ⟨rfl, rfl⟩
      · go_wp2
        go_round
        case rel => exact .inr (.inl rfl)
        case measure => simp [intOf]
      · by_cases hb : b = 0
        · subst hb
          go_wp2
          go_round
          case rel => exact .inr (.inr ⟨rfl, trivial⟩)
          case measure => simp [intOf]
        · have h1 : (b != 0) = true := bne_iff_ne.2 hb
          clear hb
          go_wp2
          go_ret
          exact ⟨rfl, rfl⟩
      · go_wp2
        go_ret
        exact ⟨rfl, rfl⟩
  · have h1 : (a != 0) = true := bne_iff_ne.2 h
    rw [if_neg h]
    clear h
    go_enter Try.func163, Try.ntmps163
    go_wp2
    go_loop [8] (fun i => i = .int .i64 0) (fun i => (2 - intOf i).toNat)
    case atStart => exact rfl
    case round =>
      subst hrel
      go_wp2
      go_ret
      exact ⟨rfl, rfl⟩
theorem or_v (g : Nat) (a b : Int) (w : World) (c0 : w.cell? ⟨g, 0, none⟩ = some (.int .i64 a)) (c1 : w.cell? ⟨g, 1, none⟩ = some (.int .i64 b)) (r : Int) (hr : (if a = 0 then b else a) = r) :
    Calls Try.prog 163 #[.slice (some ⟨g, 0, none⟩) 2 2] w fun e w' => e = .returned (.int .i64 r) ∧ w = w' := by
  subst hr; exact or_w g a b w c0 c1
def cmpC (x y u v : Int) : Int := if cmp8 y v = 0 then cmp8 x u else cmp8 y v
set_option maxHeartbeats 800000 in
theorem compareCells_w (x y u v : Int) (w : World) :
    Calls Try.prog 152 #[.agg #[.int .i8 x, .int .i8 y], .agg #[.int .i8 u, .int .i8 v]] w fun e w' => e = .returned (.int .i64 (cmpC x y u v)) ∧ BD w w' := by
  go_enter Try.func152, Try.ntmps152
  go_wp2_with (first
    | (with_reducible refine wpList_boxD 2 rfl rfl 52 _ rfl (.agg #[.int .i8 x, .int .i8 y]) rfl #[.int .i8 x, .int .i8 y] rfl ?_; intro g1 w1 b1 hb1)
    | (with_reducible refine wpList_boxD 3 rfl rfl 52 _ rfl (.agg #[.int .i8 u, .int .i8 v]) rfl #[.int .i8 u, .int .i8 v] rfl ?_; intro g2 w2 b2 hb2))
  have b1' := blk_below hb2.below b1
  have c0 : w2.cell? ⟨g1, 0, none⟩ = some (.int .i8 x) := (blk_cell b1' 0).trans rfl
  have c1 : w2.cell? ⟨g1, 1, none⟩ = some (.int .i8 y) := (blk_cell b1' 1).trans rfl
  have d0 : w2.cell? ⟨g2, 0, none⟩ = some (.int .i8 u) := (blk_cell b2 0).trans rfl
  have d1 : w2.cell? ⟨g2, 1, none⟩ = some (.int .i8 v) := (blk_cell b2 1).trans rfl
  set_option maxRecDepth 100000 in
  go_still_tail 10, (by kernel_rfl)
  still_call ((compare_w _ _ _).mono fun _ _ ⟨ha, hb⟩ => ⟨ha, hb.symm⟩)
  repeat still_step
  still_call ((compare_w _ _ _).mono fun _ _ ⟨ha, hb⟩ => ⟨ha, hb.symm⟩)
  refine wpStill_nil ?_
  have hb3 : BD w2 w2.drew := BD.drew w2
  revert hb3
  change _ → wpList _ _ _ _ _ w2.drew
  generalize w2.drew = w3
  intro hb3
  go_wp2_with (go_at_call 163; refine (or_v _ (cmp8 y v) (cmp8 x u) _ (by simp) (by simp) (cmpC x y u v) rfl).mono ?_; rintro e w' ⟨rfl, rfl⟩)
  go_ret
  exact ⟨rfl, ((hb1.trans hb2).trans hb3).trans (BD.alloc _ _)⟩
end Go.Proofs.Ytmjijggkdbiijaa
