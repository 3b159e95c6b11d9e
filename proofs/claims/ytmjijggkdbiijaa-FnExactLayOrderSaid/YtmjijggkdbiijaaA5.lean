/- The way from code to plain Lean: regions, calls, functions. No statement is proved here. -/
import Derived.Test.YtmjijggkdbiijaaA2
/- An operation of a region, run or passed over: what it reads, what it writes. No statement is proved here. -/
namespace Go.Proofs.Ytmjijggkdbiijaa
open Go.RowKit
set_option linter.unusedVariables false
set_option linter.unusedSimpArgs false
theorem run_agree {α : Type} {σ τ : List Slot} : ∀ {m : RM α}, (∀ n ∈ m.reads σ, τ.getD n .dead = σ.getD n .dead) → m.run τ = m.run σ ∧ m.reads τ = m.reads σ
  | .ret a, _ => ⟨rfl, rfl⟩
  | .fail, _ => ⟨rfl, rfl⟩
  | .get n k, h => by
    have h1 := h n (by simp [RM.reads])
    have h2 := run_agree (m := k (σ.getD n .dead)) (τ := τ) (σ := σ) fun i hi => h i (by simp only [RM.reads, List.mem_cons]; exact .inr hi)
    simp only [RM.run, RM.reads, h1]
    exact ⟨h2.1, by rw [h2.2]⟩
section
variable {P : Program} {Γ : Ctx} {w0 : World} {K : Nat → Prop} {lab lab' : Lab} {σ τ : List Slot} {a : Act} {w w' : World} {C : List Nat} {o : Oper} {pre fact : List Prop} {ws : Wr} {ops : Array Oper} {pr : Nat → Bool}
/-- The temporaries that are not among D are as they were. -/
def Fx (D : List Nat) (a a' : Act) : Prop := ∀ n, n ∉ D → a'.tmps.getD n undef = a.tmps.getD n undef
theorem Fx.refl {D : List Nat} {a : Act} : Fx D a a := fun _ _ => rfl
theorem Fx.trans {D : List Nat} {a1 a2 a3 : Act} (h1 : Fx D a1 a2) (h2 : Fx D a2 a3) : Fx D a1 a3 := fun n hn => (h2 n hn).trans (h1 n hn)
theorem Fx.imp {D D' : List Nat} {a1 a2 : Act} (h1 : Fx D a1 a2) (hd : ∀ n ∈ D, n ∈ D') : Fx D' a1 a2 := fun n hn => h1 n fun hm => hn (hd n hm)
theorem Fx.put (a : Act) (o : Option Nat) (v : Value) : Fx o.toList a (a.put o v) := fun n hn => by
  cases o with
  | none => rfl
  | some N =>
    rw [tmps_put, if_neg]
    rintro ⟨rfl, _⟩
    exact hn (by simp)
variable (P Γ C) in
/-- What an operation does that is not passed over. -/
def Does (o : Oper) (σ : List Slot) (R : List Nat) (ws : Wr) : Prop :=
  (∃ R0, (∀ n ∈ R0, n ∈ R) ∧ Cust P C o R0 σ ws) ∨ (∀ n ∈ (evalOp Γ C o).reads σ, n ∈ R) ∧
  ((∃ pre fact, (evalOp Γ C o).run σ = some (.pure pre fact ws) ∧ allP pre ∧ ∀ x ∈ ws, hang C x) ∨
   (∃ f args l dst ws' fl, ∃ r : RTup l, (evalOp Γ C o).run σ = some (.call f args l dst ws' fl) ∧ (fl = true ∨ flatRes l = true) ∧ Ev P f args (compsOf l r) ∧ ws = ws' ++ [(dst, slotOf l r)]) ∨
   (∃ f args l dst mv ws', ∃ r : RTup l, (evalOp Γ C o).run σ = some (.callc f args l dst mv ws') ∧ flatRes l = true ∧ Ev P f args (compsOf l r) ∧ ws = mv ++ ws' ++ [(dst, slotOf l r)]) ∨
   (∃ f q args l dst ws', ∃ r : RTup l, ∃ y : q.t.T, ∃ s, (evalOp Γ C o).run σ = some (.callb f q args l dst ws') ∧ q.t.ownFlat = true ∧ (l.all fun x => !x.1 && x.2.flat) = true ∧ EvB P f q.t q.x args (compsOf l r) y ∧ putBack q.p q.t y q.s = some s ∧ ws = (q.M, s) :: (ws' ++ dst.toList.map fun n => (n, slotOf l r))) ∨
   (∃ m M A args l dst fz ws', ∃ r : RTup l, ∃ A' : Thg, (evalOp Γ C o).run σ = some (.calls m M A args l dst fz ws') ∧ EvS P m A args (compsOf l r) A' ∧ ws = ((M, Slot.sem A') :: fz) ++ ws' ++ [(dst, slotOf l r)]) ∨
   ∃ f args dst ws', ∃ A' : Thg, (evalOp Γ C o).run σ = some (.callr f args dst ws') ∧ EvR P f args A' ∧ ws = ws' ++ [(dst, Slot.sem A')])
variable (P Γ C ops) in
inductive Steps (o : Oper) (σ : List Slot) (R : List Nat) (ws : Wr) : Prop where
  | run (hg : o.guard = none) (h : Does P Γ C o σ R ws)
  | yes {j n : Nat} {want : Bool} (hg : o.guard = some (j, want)) (hj : (ops[j]?).bind (·.dst) = some n) (hR : n ∈ R) (hn : σ.getD n .dead = .val (.dat .bool want)) (h : Does P Γ C o σ R ws)
  | no {j n : Nat} {want : Bool} (hg : o.guard = some (j, want)) (hj : (ops[j]?).bind (·.dst) = some n) (hR : n ∈ R) (hn : σ.getD n .dead = .val (.dat .bool (!want)) ∨ σ.getD n .dead = .tup []) (h : (skipR C o).run σ = some ws) (hs : ∀ n ∈ (skipR C o).reads σ, n ∈ R)
theorem Does.agree {R : List Nat} (h : ∀ n ∈ R, τ.getD n .dead = σ.getD n .dead) (hd : Does P Γ C o σ R ws) : Does P Γ C o τ R ws := by
  rcases hd with ⟨R0, hR0, hc⟩ | ⟨h1, h2⟩
  · exact .inl ⟨R0, hR0, fun τ' hτ => hc τ' fun n hn => (hτ n hn).trans (h n (hR0 n hn))⟩
  obtain ⟨q1, q2⟩ := run_agree (m := evalOp Γ C o) (σ := σ) (τ := τ) fun n hn => h n (h1 n hn)
  unfold Does
  rw [q1, q2]
  exact .inr ⟨h1, h2⟩
theorem Steps.agree {R : List Nat} (h : ∀ n ∈ R, τ.getD n .dead = σ.getD n .dead) (hd : Steps P Γ C ops o σ R ws) : Steps P Γ C ops o τ R ws := by
  cases hd with
  | run hg hd => exact .run hg (hd.agree h)
  | yes hg hj hR hn hd => exact .yes hg hj hR (by rw [h _ hR]; exact hn) (hd.agree h)
  | no hg hj hR hn hd hs =>
    obtain ⟨q1, q2⟩ := run_agree (m := skipR C o) (σ := σ) (τ := τ) fun n hn => h n (hs n hn)
    exact .no hg hj hR (by rw [h _ hR]; exact hn) (by rw [q1]; exact hd) (by rw [q2]; exact hs)
theorem Does.go (h : Sim w0 K lab σ a w) (hR : Rt C σ) (hC : True) (hT : TyOk P Γ) {R : List Nat} (hd : Does P Γ C o σ R ws) {Kc : Act → World → Prop} {Q : Exit → Act → World → Prop}
    (hK : ∀ a' w' lab', Sim w0 K lab' (app σ ws) a' w' → Rt C (app σ ws) → Kept lab lab' w w' ws → Fx o.dst.toList a a' → Kc a' w') : o.wp P a w Kc Q := by
  rcases hd with ⟨R0, hR0, hc⟩ | hd
  · obtain ⟨v, w', lab', g1, g2, g3, g4⟩ := hc σ (fun _ _ => rfl) w0 K lab a w h (fun N M hr => hR N M hr)
    have g3' : Rt C (app σ ws) := fun N M hr => g3 N M hr
    unfold Oper.wp
    rcases g1 with g1 | ⟨g1, rfl⟩
    · rw [g1]; exact hK _ _ _ g2 g3' g4 (Fx.put a _ _)
    · rw [g1]; exact hK _ _ _ g2 g3' g4 (Fx.put a _ _)
  rcases hd.2 with ⟨pre, fact, h1, h2, h5⟩ | ⟨f, args, l, dst, ws', fl, r, h1, h2, h3, rfl⟩ | ⟨f, args, l, dst, mv, ws', r, h1, h2, h3, rfl⟩ | ⟨f, q, args, l, dst, ws', r, y, s, h1, h2, h3, h4, h5, rfl⟩ | ⟨m, M, A, args, l, dst, fz, ws', r, A', h1, h2, rfl⟩ | ⟨f, args, dst, ws', A', h1, h2, rfl⟩
  · obtain ⟨_, v, w', lab', g1, g2, g3, g4⟩ := good_op h hR hC hT h1 h2
    unfold Oper.wp
    rcases g1 with g1 | ⟨g1, rfl⟩
    · rw [g1]; exact hK _ _ _ g2 (g3 h5) g4 (Fx.put a _ _)
    · rw [g1]; exact hK _ _ _ g2 (g3 h5) g4 (Fx.put a _ _)
  · obtain ⟨c, ho, hc⟩ := evalOp_call h1
    obtain ⟨vs, e1, e2⟩ := call_good h hR hC ho hc h3 h2
    unfold Oper.wp
    rw [e1]
    refine Calls.mono e2 ?_
    rintro e w' ⟨v, lab', rfl, q1, q2, q3, q4⟩
    exact hK _ _ _ q1 q2 q4 (Fx.put a _ _)
  · obtain ⟨c, f', j, ho, hcal, hc⟩ := evalOp_callc h1
    obtain ⟨vs, e1, e2⟩ := callC_good h hR ho hcal hc h3 h2
    unfold Oper.wp
    rw [e1]
    refine Calls.mono e2 ?_
    rintro e w' ⟨v, lab', rfl, q1, q2, q3, q4⟩
    exact hK _ _ _ q1 q2 q4 (Fx.put a _ _)
  · obtain ⟨c, f', ho, hcal, hc⟩ := evalOp_callb h1
    obtain ⟨_, vs, e1, e2⟩ := callB_good h hR ho hcal hc h4 h2 h3 h5
    unfold Oper.wp
    rw [e1]
    refine Calls.mono e2 ?_
    rintro e w' ⟨v, rfl, q1, q2, q3, q4⟩
    exact hK _ _ _ q1 q2 q4 (Fx.put a _ _)
  · obtain ⟨c, m', x, xs, ts, ho, hcal, hc⟩ := evalOp_calls h1
    obtain ⟨f, vs, e1, e2⟩ := callS_good h hR ho hcal hc h2
    unfold Oper.wp
    rw [e1]
    refine Calls.mono e2 ?_
    rintro e w' ⟨v, lab', rfl, q1, q2, q3, q4⟩
    exact hK _ _ _ q1 q2 q4 (Fx.put a _ _)
  · obtain ⟨c, f', ho, hcal, hc⟩ := evalOp_callr h1
    obtain ⟨vs, e1, e2⟩ := callR_good h hR ho hcal hc h2
    unfold Oper.wp
    rw [e1]
    refine Calls.mono e2 ?_
    rintro e w' ⟨v, lab', rfl, q1, q2, q4⟩
    exact hK _ _ _ q1 q2 q4 (Fx.put a _ _)
end
end Go.Proofs.Ytmjijggkdbiijaa
/- From the condition to the chain of steps; a region whose order is fixed. No statement is proved here. -/
namespace Go.Proofs.Ytmjijggkdbiijaa
open Go.RowKit
set_option linter.unusedVariables false
set_option linter.unusedSimpArgs false
theorem andL_elim : ∀ {ps : List Prop} {X : Prop}, andL ps X → allP ps ∧ X
  | [], _, h => ⟨trivial, h⟩
  | p :: ps, X, h => ⟨⟨h.1, (andL_elim h.2).1⟩, (andL_elim h.2).2⟩
theorem impL_elim : ∀ {ps : List Prop} {X : Prop}, impL ps X → allP ps → X
  | [], _, h, _ => h
  | p :: ps, X, h, hp => impL_elim (h hp.1) hp.2
theorem set_same {σ : List Slot} {n : Nat} {s : Slot} (h : σ.getD n .dead = s) : σ.set n s = σ := by
  apply List.ext_getElem?
  intro m
  rw [List.getElem?_set]
  split
  · rename_i e; subst e
    split
    · rename_i hlt
      rw [List.getElem?_eq_getElem hlt, ← h]
      simp [List.getD_eq_getElem?_getD, hlt]
    · rename_i hlt
      rw [List.getElem?_eq_none (by omega)]
  · rfl
theorem setB_same {pr : Nat → Bool} {σ : List Slot} {n : Nat} {b : Bool} (h : σ.getD n .dead = .val (.dat .bool b)) : setB pr (.tmp n) b σ = σ := by
  unfold setB
  simp only
  split
  · rfl
  · exact set_same h
section
variable {P : Program} {Γ : Ctx} {w0 : World} {K : Nat → Prop} {lab lab' : Lab} {σ τ : List Slot} {a : Act} {w w' : World} {C : List Nat} {o : Oper} {pre fact : List Prop} {ws : Wr} {ops : Array Oper} {pr : Nat → Bool}
theorem skip_sim (h : Sim w0 K lab σ a w) (hR : Rt C σ) (hC : True) (hs : (skipR C o).run σ = some ws) : Sim w0 K lab (app σ ws) (a.put o.dst undef) w ∧ Rt C (app σ ws) := by
  unfold skipR at hs
  split at hs
  · rename_i hd
    simp only [RM.run, Option.some.injEq] at hs; subst hs
    rw [hd]; exact ⟨h, hR⟩
  · rename_i d hd
    obtain ⟨ks, h1, h2⟩ := bind_run hs
    simp only [RM.run, Option.some.injEq] at h2; subst h2
    obtain ⟨ks', k1, k2, k3⟩ := free_run h hR d
    rw [k1] at h1
    obtain rfl := Option.some.inj h1
    rw [hd]
    refine ⟨h.put0 k2 k3 fun σ' tmps' _ => ⟨[], rfl, rfl, fun k c u hc _ => by simp at hc⟩, ?_⟩
    refine hR.app fun x hx => ?_
    rcases List.mem_append.1 hx with hx | hx
    · rw [(k2 x hx).1]; rfl
    · simp only [List.mem_singleton] at hx; subst hx; rfl
/-- What a guard says. -/
theorem wanted_val (h : Sim w0 K lab σ a w) {j n : Nat} {want : Bool} (hg : o.guard = some (j, want)) (hj : (ops[j]?).bind (·.dst) = some n) {b : Bool} (hn : σ.getD n .dead = .val (.dat .bool b)) : Region.wanted o (yielded ops a.tmps) = (b == want) := by
  have hs := h.slots n
  rw [hn] at hs
  have hv := rep_bool hs
  have hlt : n < a.tmps.size := by
    rcases Nat.lt_or_ge n a.tmps.size with q | q
    · exact q
    · rw [show a.tmps.getD n undef = undef from by simp [Array.getD, Nat.not_lt.2 q]] at hv; cases hv
  have he : a.tmps[n]? = some (.bool b) := by
    rw [Array.getElem?_eq_getElem hlt]
    simpa [Array.getD, hlt] using hv
  unfold Region.wanted yielded
  simp only [hg, hj, Option.bind_some, he]
  cases b <;> cases want <;> rfl
theorem wanted_undef (h : Sim w0 K lab σ a w) {j n : Nat} {want : Bool} (hg : o.guard = some (j, want)) (hj : (ops[j]?).bind (·.dst) = some n) (hn : σ.getD n .dead = .tup []) : Region.wanted o (yielded ops a.tmps) = false := by
  have hs := h.slots n
  rw [hn] at hs
  obtain ⟨vs, hv, _⟩ := hs
  have hlt : n < σ.length := by
    rcases Nat.lt_or_ge n σ.length with q | q
    · exact q
    · rw [getD_beyond (by omega)] at hn; cases hn
  rw [h.len] at hlt
  have he : a.tmps[n]? = some (.tuple vs.toArray) := by
    rw [Array.getElem?_eq_getElem hlt]
    simpa [Array.getD, hlt] using hv
  unfold Region.wanted yielded
  simp only [hg, hj, Option.bind_some, he]
  rfl
/-- A step, run. -/
theorem step_run (h : Sim w0 K lab σ a w) (hR : Rt C σ) (hC : True) (hT : TyOk P Γ) {R : List Nat} (hd : Steps P Γ C ops o σ R ws) {Kc : Act → World → Prop} {Q : Exit → Act → World → Prop}
    (hK : ∀ a' w' lab', Sim w0 K lab' (app σ ws) a' w' → Rt C (app σ ws) → Kept lab lab' w w' ws → Fx o.dst.toList a a' → Kc a' w') :
    if Region.wanted o (yielded ops a.tmps) then o.wp P a w Kc Q ∨ (o.asks P a w ∧ LetsOut Q) else Kc (a.put o.dst undef) w := by
  cases hd with
  | run hg hd =>
    rw [if_pos (by simp [Region.wanted, hg])]
    exact .inl (hd.go h hR hC hT hK)
  | yes hg hj hn' hn hd =>
    rw [if_pos (by rw [wanted_val h hg hj hn]; simp)]
    exact .inl (hd.go h hR hC hT hK)
  | @no j n want hg hj hn' hn hd hs =>
    rw [if_neg (by
      rcases hn with hn | hn
      · rw [wanted_val h hg hj hn]; cases want <;> simp
      · rw [wanted_undef h hg hj hn]; simp)]
    obtain ⟨q1, q2⟩ := skip_sim h hR hC hd
    exact hK _ _ _ q1 q2 (fun _ _ _ _ _ hg => ⟨hg, rfl⟩) (Fx.put a _ _)
/-- There is such a world. -/
def Mind (w0 : World) (K : Nat → Prop) (C : List Nat) (σ : List Slot) : Prop := Rt C σ ∧ ∃ lab a w, Sim w0 K lab σ a w
theorem stepV_does (hM : Mind w0 K C σ) (hC : True) (hT : TyOk P Γ) {g : List Nat} {X : Fp → List Slot → Prop} (hV : stepV P Γ pr C o g X σ) :
    ∃ R ws, Does P Γ C o σ R ws ∧ (∀ n ∈ g, n ∈ R) ∧ (∀ x ∈ ws, pr x.1 = false) ∧ Mind w0 K C (app σ ws) ∧ X (R, ws.map (·.1)) (app σ ws) := by
  obtain ⟨hR, lab, a, w, h⟩ := hM
  unfold stepV at hV
  split at hV
  · rename_i L hL
    obtain ⟨x, hx, hc, hV⟩ := hV
    split at hV
    · rename_i hpr
      obtain ⟨v, w', lab', g1, g2, g3, g4⟩ := hc σ (fun _ _ => rfl) w0 K lab a w h (fun N M hr => hR N M hr)
      exact ⟨g ++ L.hv, L.sl x, .inl ⟨L.hv, fun n hn => by simp [hn], hc⟩, fun n hn => by simp [hn], fun y hy => by simpa using List.all_eq_true.1 hpr y hy, ⟨fun N M hr => g3 N M hr, _, _, _, g2⟩, hV⟩
    · cases hV
  split at hV
  · rename_i pre fact ws hrun
    split at hV
    · rename_i hpr
      obtain ⟨hp, hV⟩ := andL_elim hV
      obtain ⟨hf, v, w', lab', _, g2, g3, _⟩ := good_op h hR hC hT hrun hp
      have hroot : ∀ x ∈ ws, hang C x := fun x hx => by
        have := List.all_eq_true.1 hpr x hx
        simp only [Bool.and_eq_true] at this
        exact hangB_iff this.2
      refine ⟨g ++ (evalOp Γ C o).reads σ, ws, .inr ⟨fun n hn => by simp [hn], .inl ⟨pre, fact, hrun, hp, hroot⟩⟩, fun n hn => by simp [hn], fun x hx => ?_, ⟨g3 hroot, _, _, _, g2⟩, impL_elim hV hf⟩
      have := List.all_eq_true.1 hpr x hx
      simp only [Bool.and_eq_true] at this
      simpa using this.1
    · cases hV
  · rename_i f args l dst ws fl hrun
    split at hV
    · rename_i hpr
      simp only [Bool.and_eq_true, Bool.or_eq_true] at hpr
      obtain ⟨r, hev, hV⟩ := hV
      obtain ⟨c, ho, hc⟩ := evalOp_call hrun
      obtain ⟨vs, e1, e2⟩ := call_good h hR hC ho hc hev hpr.2
      obtain ⟨e, w', fr, ⟨v, lab', rfl, q1, q2, q3, q4⟩, _⟩ := e2 []
      refine ⟨g ++ (evalOp Γ C o).reads σ, ws ++ [(dst, slotOf l r)], .inr ⟨fun n hn => by simp [hn], .inr (.inl ⟨f, args, l, dst, ws, fl, r, hrun, hpr.2, hev, rfl⟩)⟩, fun n hn => by simp [hn], fun x hx => ?_, ⟨q2, _, _, _, q1⟩, ?_⟩
      · rcases List.mem_append.1 hx with hx | hx
        · simpa using List.all_eq_true.1 hpr.1.1 x hx
        · simp only [List.mem_singleton] at hx; subst hx; simpa using hpr.1.2
      · rw [List.map_append]
        exact impL_elim hV q3
    · cases hV
  · rename_i f args l dst mv ws hrun
    split at hV
    · rename_i hpr
      simp only [Bool.and_eq_true] at hpr
      obtain ⟨⟨p1, p2⟩, p3⟩ := hpr
      obtain ⟨r, hev, hV⟩ := hV
      obtain ⟨c, f', j, ho, hcal, hc⟩ := evalOp_callc hrun
      obtain ⟨vs, e1, e2⟩ := callC_good h hR ho hcal hc hev p3
      obtain ⟨e, w', fr, ⟨v, lab', rfl, q1, q2, q3, q4⟩, _⟩ := e2 []
      refine ⟨g ++ (evalOp Γ C o).reads σ, mv ++ ws ++ [(dst, slotOf l r)], .inr ⟨fun n hn => by simp [hn], .inr (.inr (.inl ⟨f, args, l, dst, mv, ws, r, hrun, p3, hev, rfl⟩))⟩, fun n hn => by simp [hn], fun x hx => ?_, ⟨q2, _, _, _, q1⟩, ?_⟩
      · rcases List.mem_append.1 hx with hx | hx
        · simpa using List.all_eq_true.1 p1 x hx
        · simp only [List.mem_singleton] at hx; subst hx; simpa using p2
      · rw [List.map_append]
        exact impL_elim hV q3
    · cases hV
  · rename_i f q args l dst ws hrun
    split at hV
    · rename_i hpr
      simp only [Bool.and_eq_true] at hpr
      obtain ⟨⟨⟨⟨p1, p2⟩, p3⟩, p4⟩, p5⟩ := hpr
      obtain ⟨r, y, hev, hV⟩ := hV
      obtain ⟨c, f', ho, hcal, hc⟩ := evalOp_callb hrun
      cases hpb : putBack q.p q.t y q.s with
      | none =>
        rw [hpb] at hV
        exact hV.elim
      | some s =>
        rw [hpb] at hV
        obtain ⟨hdd, vs, e1, e2⟩ := callB_good h hR ho hcal hc hev p4 p5 hpb
        obtain ⟨e, w', fr, ⟨v, rfl, q1, q2, q3, q4⟩, _⟩ := e2 []
        refine ⟨g ++ (evalOp Γ C o).reads σ, (q.M, s) :: (ws ++ dst.toList.map fun n => (n, slotOf l r)), .inr ⟨fun n hn => by simp [hn], .inr (.inr (.inr (.inl ⟨f, q, args, l, dst, ws, r, y, s, hrun, p4, p5, hev, hpb, rfl⟩)))⟩, fun n hn => by simp [hn], fun x hx => ?_, ⟨q2, _, _, _, q1⟩, ?_⟩
        · rcases List.mem_cons.1 hx with rfl | hx
          · simpa using p2
          · rcases List.mem_append.1 hx with hx | hx
            · simpa using List.all_eq_true.1 p1 x hx
            · obtain ⟨n, hn, rfl⟩ := List.mem_map.1 hx
              simpa using List.all_eq_true.1 p3 n hn
        · have hmap : ((q.M, s) :: (ws ++ dst.toList.map fun n => (n, slotOf l r))).map (·.1) = q.M :: (ws.map (·.1) ++ dst.toList) := by
            cases dst <;> simp
          rw [hmap]
          exact impL_elim hV q3
    · cases hV
  · rename_i m M A args l dst fz ws hrun
    split at hV
    · rename_i hpr
      simp only [Bool.and_eq_true] at hpr
      obtain ⟨⟨p1, p2⟩, p3⟩ := hpr
      obtain ⟨r, A', hev, hV⟩ := hV
      obtain ⟨c, m', x, xs, ts, ho, hcal, hc⟩ := evalOp_calls hrun
      obtain ⟨f, vs, e1, e2⟩ := callS_good h hR ho hcal hc hev
      obtain ⟨e, w', fr, ⟨v, lab', rfl, q1, q2, q3, q4⟩, _⟩ := e2 []
      refine ⟨g ++ (evalOp Γ C o).reads σ, ((M, Slot.sem A') :: fz) ++ ws ++ [(dst, slotOf l r)], .inr ⟨fun n hn => by simp [hn], .inr (.inr (.inr (.inr (.inl ⟨m, M, A, args, l, dst, fz, ws, r, A', hrun, hev, rfl⟩))))⟩, fun n hn => by simp [hn], fun x hx => ?_, ⟨q2, _, _, _, q1⟩, ?_⟩
      · rcases List.mem_append.1 hx with hx | hx
        · rcases List.mem_append.1 hx with hx | hx
          · rcases List.mem_cons.1 hx with rfl | hx
            · simpa using p2
            · simpa using List.all_eq_true.1 p1 x (by simp [hx])
          · simpa using List.all_eq_true.1 p1 x (by simp [hx])
        · simp only [List.mem_singleton] at hx; subst hx; simpa using p3
      · rw [List.map_append]
        exact impL_elim hV q3
    · cases hV
  · rename_i f args dst ws hrun
    split at hV
    · rename_i hpr
      simp only [Bool.and_eq_true] at hpr
      obtain ⟨p1, p2⟩ := hpr
      obtain ⟨A', hev, hV⟩ := hV
      obtain ⟨c, f', ho, hcal, hc⟩ := evalOp_callr hrun
      obtain ⟨vs, e1, e2⟩ := callR_good h hR ho hcal hc hev
      obtain ⟨e, w', fr, ⟨v, lab', rfl, q1, q2, q4⟩, _⟩ := e2 []
      refine ⟨g ++ (evalOp Γ C o).reads σ, ws ++ [(dst, Slot.sem A')], .inr ⟨fun n hn => by simp [hn], .inr (.inr (.inr (.inr (.inr ⟨f, args, dst, ws, A', hrun, hev, rfl⟩))))⟩, fun n hn => by simp [hn], fun x hx => ?_, ⟨q2, _, _, _, q1⟩, ?_⟩
      · rcases List.mem_append.1 hx with hx | hx
        · simpa using List.all_eq_true.1 p1 x hx
        · simp only [List.mem_singleton] at hx; subst hx; simpa using p2
      · rw [List.map_append]
        exact hV
    · cases hV
  · cases hV
theorem skipV_does (hM : Mind w0 K C σ) (hC : True) {g : List Nat} {X : Fp → List Slot → Prop} (hV : skipV pr C o g X σ) :
    ∃ R ws, (skipR C o).run σ = some ws ∧ (∀ n ∈ (skipR C o).reads σ, n ∈ R) ∧ (∀ n ∈ g, n ∈ R) ∧ (∀ x ∈ ws, pr x.1 = false) ∧ Mind w0 K C (app σ ws) ∧ X (R, ws.map (·.1)) (app σ ws) := by
  obtain ⟨hR, lab, a, w, h⟩ := hM
  unfold skipV at hV
  split at hV
  · rename_i ws hrun
    split at hV
    · rename_i hpr
      obtain ⟨q1, q2⟩ := skip_sim h hR hC hrun
      exact ⟨g ++ (skipR C o).reads σ, ws, hrun, fun n hn => by simp [hn], fun n hn => by simp [hn], fun x hx => by simpa using List.all_eq_true.1 hpr x hx, ⟨q2, _, _, _, q1⟩, hV⟩
    · cases hV
  · cases hV
variable (P Γ C ops pr) in
inductive Chain : List Oper → List Slot → List Fp → List Wr → List Slot → Prop where
  | nil {σ : List Slot} : Chain [] σ [] [] σ
  | cons {o : Oper} {rest : List Oper} {σ σ' : List Slot} {R : List Nat} {ws : Wr} {fps : List Fp} {wss : List Wr} (h : Steps P Γ C ops o σ R ws) (hp : ∀ x ∈ ws, pr x.1 = false) (t : Chain rest (app σ ws) fps wss σ') : Chain (o :: rest) σ ((R, ws.map (·.1)) :: fps) (ws :: wss) σ'
theorem opsV_chain (hT : TyOk P Γ) {X : List Slot → Prop} {dr : Bool} : ∀ {rest : List Oper} {fps : List Fp} {σ : List Slot}, (∀ o ∈ rest, True) → Mind w0 K C σ → opsV P Γ pr C ops X dr rest fps σ →
    ∃ fps' wss σ', Chain P Γ C ops pr rest σ fps' wss σ' ∧ (dr = true → drawnOk ops.toList (fps ++ fps') = true) ∧ Mind w0 K C σ' ∧ X σ'
  | [], fps, σ, _, hM, hV => by
    simp only [opsV] at hV
    refine ⟨[], [], σ, .nil, ?_, hM, ?_⟩
    · rintro rfl
      simp only [↓reduceIte] at hV
      split at hV
      · rename_i q; simpa using q
      · cases hV
    · split at hV
      · split at hV
        · exact hV
        · cases hV
      · exact hV
  | o :: rest, fps, σ, hC, hM, hV => by
    have next : ∀ {R : List Nat} {ws : Wr}, Steps P Γ C ops o σ R ws → (∀ x ∈ ws, pr x.1 = false) → Mind w0 K C (app σ ws) → opsV P Γ pr C ops X dr rest (fps ++ [(R, ws.map (·.1))]) (app σ ws) →
        ∃ fps' wss σ', Chain P Γ C ops pr (o :: rest) σ fps' wss σ' ∧ (dr = true → drawnOk ops.toList (fps ++ fps') = true) ∧ Mind w0 K C σ' ∧ X σ' := by
      intro R ws hs hp hM' hV'
      obtain ⟨fps', wss, σ', c1, c2, c3, c4⟩ := opsV_chain hT (fun o ho => hC o (by simp [ho])) hM' hV'
      exact ⟨_, _, σ', .cons hs hp c1, fun hd => by have := c2 hd; simpa using this, c3, c4⟩
    have hCo := hC o (by simp)
    simp only [opsV] at hV
    split at hV
    · rename_i hg
      obtain ⟨R, ws, q1, _, q2, q3, q4⟩ := stepV_does hM hCo hT hV
      exact next (.run hg q1) q2 q3 q4
    · rename_i j want hg
      split at hV
      · rename_i n hj
        split at hV
        · rename_i b hn
          cases he : eqB want b with
          | true =>
            have hb : b = want := by cases want <;> cases b <;> simp_all [eqB]
            subst hb
            rw [he] at hV
            simp only [split] at hV
            rw [setB_same hn] at hV
            obtain ⟨R, ws, q1, q0, q2, q3, q4⟩ := stepV_does hM hCo hT hV
            exact next (.yes hg hj (q0 n (by simp)) hn q1) q2 q3 q4
          | false =>
            have hb : b = !want := by cases want <;> cases b <;> simp_all [eqB]
            subst hb
            rw [he] at hV
            simp only [split] at hV
            rw [setB_same hn] at hV
            obtain ⟨R, ws, q1, q5, q0, q2, q3, q4⟩ := skipV_does hM hCo hV
            exact next (.no hg hj (q0 n (by simp)) (.inl hn) q1 q5) q2 q3 q4
        · rename_i hn
          obtain ⟨R, ws, q1, q5, q0, q2, q3, q4⟩ := skipV_does hM hCo hV
          exact next (.no hg hj (q0 n (by simp)) (.inr hn) q1 q5) q2 q3 q4
        · cases hV
      · cases hV
/-- In the order of the text. -/
theorem chain_list_wp (hT : TyOk P Γ) {Q : Exit → Act → World → Prop} : ∀ {rest : List Oper} {σ σ' : List Slot} {fps : List Fp} {wss : List Wr} {lab : Lab} {a : Act} {w : World}, (∀ o ∈ rest, True) → Chain P Γ C ops pr rest σ fps wss σ' →
    Sim w0 K lab σ a w → Rt C σ → (∀ a' w' lab', Sim w0 K lab' σ' a' w' → Rt C σ' → (∀ M, pr M = true → ∀ g k m, lab g = some (M, k, m) → lab' g = some (M, k, m) ∧ w'.heap[g]? = w.heap[g]?) → Fx (rest.filterMap (·.dst)) a a' → Q .normal a' w') → wpList P ops Q rest a w
  | [], σ, σ', fps, wss, lab, a, w, _, hc, h, hR, hK => by
    cases hc
    exact hK a w lab h hR (fun _ _ _ _ _ hg => ⟨hg, rfl⟩) .refl
  | o :: rest, σ, σ', fps, wss, lab, a, w, hC, hc, h, hR, hK => by
    cases hc with
    | cons hs hp hc =>
      unfold wpList
      refine step_run h hR (hC o (by simp)) hT hs fun a' w' lab' h' hR' hk hx => ?_
      refine chain_list_wp hT (fun o ho => hC o (by simp [ho])) hc h' hR' fun a2 w2 lab2 h2 hR2 hk2 hx2 => hK a2 w2 lab2 h2 hR2 (fun M hM g k m hg => ?_) ((hx.imp fun n hn => ?_).trans (hx2.imp fun n hn => ?_))
      rotate_left 1
      · rw [List.filterMap_cons]; cases hd : o.dst with
        | none => rw [hd] at hn; cases hn
        | some N => rw [hd] at hn; simp at hn; simp [hn]
      · rw [List.filterMap_cons]; cases hd : o.dst with
        | none => exact hn
        | some N => exact List.mem_cons_of_mem _ hn
      obtain ⟨e1, e2⟩ := hk M (fun x hx e => by have := hp x hx; rw [e, hM] at this; cases this) g k m hg
      obtain ⟨e3, e4⟩ := hk2 M hM g k m e1
      exact ⟨e3, e4.trans e2⟩
end
end Go.Proofs.Ytmjijggkdbiijaa
/- A region whose order is drawn: whatever the order, the same comes out. No statement is proved here. -/
namespace Go.Proofs.Ytmjijggkdbiijaa
open Go.RowKit
set_option linter.unusedVariables false
set_option linter.unusedSimpArgs false
def selF (S : Nat → Bool) : Nat → List Wr → List Slot → List Slot
  | _, [], σ => σ
  | i, ws :: wss, σ => selF S (i + 1) wss (if S i then app σ ws else σ)
theorem app_agree {N : Nat} : ∀ {ws : Wr} {σ τ : List Slot}, σ.length = τ.length → σ.getD N .dead = τ.getD N .dead → (app σ ws).getD N .dead = (app τ ws).getD N .dead
  | [], _, _, _, h => h
  | x :: ws, σ, τ, hl, h => by
    rw [app_cons, app_cons]
    refine app_agree (by simp [hl]) ?_
    rw [getD_set, getD_set, hl, h]
theorem selF_read {S S' : Nat → Bool} {N : Nat} : ∀ {i : Nat} {wss : List Wr} {σ τ : List Slot}, σ.length = τ.length → σ.getD N .dead = τ.getD N .dead → (∀ k ws, wss[k]? = some ws → S (i + k) ≠ S' (i + k) → ∀ x ∈ ws, x.1 ≠ N) →
    (selF S i wss σ).getD N .dead = (selF S' i wss τ).getD N .dead
  | _, [], _, _, _, h, _ => h
  | i, ws :: wss, σ, τ, hl, h, hk => by
    simp only [selF]
    have h0 := hk 0 ws rfl
    simp only [Nat.add_zero] at h0
    refine selF_read ?_ ?_ fun k ws' hw hne => hk (k + 1) ws' (by simpa using hw) (by rw [show i + (k + 1) = i + 1 + k by omega]; exact hne)
    · split <;> split <;> simp [app_len, hl]
    · cases h1 : S i <;> cases h2 : S' i
      · simpa using h
      · simp only [Bool.false_eq_true, ↓reduceIte]
        rw [app_out τ ws N (h0 (by rw [h1, h2]; simp))]; exact h
      · simp only [Bool.false_eq_true, ↓reduceIte]
        rw [app_out σ ws N (h0 (by rw [h1, h2]; simp))]; exact h
      · simp only [↓reduceIte]
        exact app_agree hl h
theorem selF_congr {S S' : Nat → Bool} : ∀ {i : Nat} {wss : List Wr} {σ : List Slot}, (∀ k, i ≤ k → k < i + wss.length → S k = S' k) → selF S i wss σ = selF S' i wss σ
  | _, [], _, _ => rfl
  | i, ws :: wss, σ, h => by
    simp only [selF]
    rw [h i (Nat.le_refl _) (by simp), selF_congr fun k h1 h2 => h k (by omega) (by simp; omega)]
theorem ext_getD {σ τ : List Slot} (hl : σ.length = τ.length) (h : ∀ N, σ.getD N .dead = τ.getD N .dead) : σ = τ := by
  apply List.ext_getElem hl
  intro n h1 h2
  have := h n
  simpa [List.getD_eq_getElem?_getD, h1, h2] using this
theorem app_comm {ws vs : Wr} (hd : ∀ x ∈ ws, ∀ y ∈ vs, x.1 ≠ y.1) (σ : List Slot) : app (app σ ws) vs = app (app σ vs) ws := by
  refine ext_getD (by simp only [app_len]) fun N => ?_
  by_cases h1 : ∃ x ∈ ws, x.1 = N
  · obtain ⟨x, hx, rfl⟩ := h1
    have hv : ∀ y ∈ vs, y.1 ≠ x.1 := fun y hy e => hd x hx y hy e.symm
    rw [app_out _ _ _ hv]
    exact app_agree (by simp only [app_len]) (app_out _ _ _ hv).symm
  · have hw : ∀ x ∈ ws, x.1 ≠ N := fun x hx e => h1 ⟨x, hx, e⟩
    rw [app_out (app σ vs) ws N hw]
    exact app_agree (by simp only [app_len]) (app_out _ _ _ hw)
theorem selF_comm {S : Nat → Bool} {ws : Wr} : ∀ {i : Nat} {wss : List Wr} {σ : List Slot}, (∀ k vs, wss[k]? = some vs → S (i + k) = true → ∀ x ∈ ws, ∀ y ∈ vs, x.1 ≠ y.1) → app (selF S i wss σ) ws = selF S i wss (app σ ws)
  | _, [], _, _ => rfl
  | i, vs :: wss, σ, h => by
    simp only [selF]
    rw [selF_comm fun k us hu hs => h (k + 1) us (by simpa using hu) (by rw [show i + (k + 1) = i + 1 + k by omega]; exact hs)]
    split
    · rename_i hs
      rw [app_comm fun x hx y hy e => h 0 vs rfl (by simpa using hs) y hy x hx e.symm]
    · rfl
end Go.Proofs.Ytmjijggkdbiijaa
/- A region whose order is drawn: the proof. No statement is proved here. -/
namespace Go.Proofs.Ytmjijggkdbiijaa
open Go.RowKit
set_option linter.unusedVariables false
set_option linter.unusedSimpArgs false
theorem selF_write {S : Nat → Bool} {ws : Wr} : ∀ {i j : Nat} {wss : List Wr} {σ : List Slot}, wss[j]? = some ws → S (i + j) = false → (∀ k vs, j < k → wss[k]? = some vs → S (i + k) = true → ∀ x ∈ ws, ∀ y ∈ vs, x.1 ≠ y.1) →
    app (selF S i wss σ) ws = selF (fun k => S k || k == i + j) i wss σ
  | _, _, [], _, h, _, _ => by simp at h
  | i, 0, vs :: wss, σ, h, hS, hd => by
    simp only [List.getElem?_cons_zero, Option.some.injEq] at h
    subst h
    simp only [Nat.add_zero] at hS
    simp only [selF, hS, Nat.add_zero, beq_self_eq_true, Bool.or_true, if_true, Bool.false_eq_true, if_false]
    rw [selF_comm fun k us hu hs => hd (k + 1) us (by omega) (by simpa using hu) (by rw [show i + (k + 1) = i + 1 + k by omega]; exact hs)]
    exact selF_congr fun k h1 h2 => by
      have : (k == i) = false := by simp; omega
      simp [this]
  | i, j + 1, vs :: wss, σ, h, hS, hd => by
    simp only [selF]
    have e1 : (i == i + (j + 1)) = false := by simp
    simp only [e1, Bool.or_false]
    rw [selF_write (i := i + 1) (j := j) (by simpa using h) (by rw [show i + 1 + j = i + (j + 1) by omega]; exact hS)
      fun k us hk hu hs => hd (k + 1) us (by omega) (by simpa using hu) (by rw [show i + (k + 1) = i + 1 + k by omega]; exact hs)]
    rw [show i + 1 + j = i + (j + 1) by omega]
theorem edgesM_bit {acc : List Nat} {i : Nat} : ∀ {es : List Edge}, (edgesM acc es).testBit i = true → ∃ e ∈ es, Region.binds .any e = true ∧ (i = e.on ∨ (acc.getD e.on 0).testBit i = true)
  | [], h => by simp [edgesM] at h
  | e :: es, h => by
    simp only [edgesM] at h
    split at h
    · rename_i hb
      rw [Nat.testBit_or, Nat.testBit_or, Bool.or_eq_true, Bool.or_eq_true, Nat.testBit_two_pow] at h
      rcases h with (h | h) | h
      · exact ⟨e, by simp, hb, .inl (of_decide_eq_true h).symm⟩
      · exact ⟨e, by simp, hb, .inr h⟩
      · obtain ⟨e', h1, h2⟩ := edgesM_bit h
        exact ⟨e', by simp [h1], h2⟩
    · obtain ⟨e', h1, h2⟩ := edgesM_bit h
      exact ⟨e', by simp [h1], h2⟩
theorem ancs_spec : ∀ {os : List Oper} {acc : List Nat}, (ancs os acc).take acc.length = acc ∧ ∀ j o, os[j]? = some o → (ancs os acc)[acc.length + j]? = some (edgesM ((ancs os acc).take (acc.length + j)) o.after.toList)
  | [], acc => ⟨by simp [ancs], fun j o h => by simp at h⟩
  | o :: os, acc => by
    obtain ⟨h1, h2⟩ := ancs_spec (os := os) (acc := acc ++ [edgesM acc o.after.toList])
    simp only [ancs]
    simp only [List.length_append, List.length_cons, List.length_nil, Nat.zero_add] at h1 h2
    have h3 : (ancs os (acc ++ [edgesM acc o.after.toList])).take acc.length = acc := by
      have := congrArg (List.take acc.length) h1
      rw [List.take_take, Nat.min_eq_left (by omega)] at this
      rw [this]; simp
    refine ⟨h3, fun j o' hj => ?_⟩
    cases j with
    | zero =>
      simp only [List.getElem?_cons_zero, Option.some.injEq] at hj
      subst hj
      rw [Nat.add_zero, h3]
      have := congrArg (fun l => l[acc.length]?) h1
      simp only [List.getElem?_take_of_lt (Nat.lt_succ_self acc.length)] at this
      rw [this]; simp
    | succ j =>
      have := h2 j o' (by simpa using hj)
      rw [show acc.length + (j + 1) = acc.length + 1 + j by omega]
      exact this
theorem closed_anc {os : List Oper} {S : Nat → Bool} (hS : ∀ j o, os[j]? = some o → S j = true → ∀ e ∈ o.after.toList, Region.binds .any e = true → S e.on = true) (hn : ∀ j, S j = true → j < os.length) :
    ∀ (j m i : Nat), (ancs os [])[j]? = some m → S j = true → m.testBit i = true → S i = true := by
  intro j
  induction j using Nat.strongRecOn with
  | ind j ih =>
    intro m i hm hj hb
    have hlt := hn j hj
    obtain ⟨o, ho⟩ : ∃ o, os[j]? = some o := ⟨_, List.getElem?_eq_getElem hlt⟩
    have h1 := (ancs_spec (os := os) (acc := [])).2 j o ho
    simp only [List.length_nil, Nat.zero_add] at h1
    rw [h1] at hm
    obtain rfl := Option.some.inj hm
    obtain ⟨e, he, hbd, hh⟩ := edgesM_bit hb
    have hSe := hS j o ho hj e he hbd
    rcases hh with rfl | hh
    · exact hSe
    · by_cases hej : e.on < j
      · have h2 : ((ancs os []).take j).getD e.on 0 = (ancs os []).getD e.on 0 := by
          simp [List.getD_eq_getElem?_getD, List.getElem?_take_of_lt hej]
        rw [h2] at hh
        cases h3 : (ancs os [])[e.on]? with
        | none => rw [List.getD_eq_getElem?_getD, h3] at hh; simp at hh
        | some m' =>
          rw [List.getD_eq_getElem?_getD, h3] at hh
          exact ih e.on hej m' i h3 hSe hh
      · rw [List.getD_eq_getElem?_getD, List.getElem?_eq_none (by simp; omega)] at hh
        simp at hh
theorem confAll_spec {m : Nat} {g : Fp} : ∀ {i : Nat} {p : List Fp}, confAll m g i p = true → ∀ k f, p[k]? = some f → conf f g = true → m.testBit (i + k) = true
  | _, [], _, k, f, h, _ => by simp at h
  | i, f0 :: p, h, k, f, hk, hc => by
    simp only [confAll, Bool.and_eq_true, Bool.or_eq_true, Bool.not_eq_true'] at h
    cases k with
    | zero =>
      simp only [List.getElem?_cons_zero, Option.some.injEq] at hk
      subst hk
      rcases h.1 with q | q
      · rw [q] at hc; cases hc
      · exact q
    | succ k =>
      have := confAll_spec h.2 k f (by simpa using hk) hc
      rw [show i + (k + 1) = i + 1 + k by omega]
      exact this
theorem confOk_spec : ∀ {r : List Fp} {p : List Fp} {ms : List Nat}, confOk p ms r = true → ∀ j g m, r[j]? = some g → ms[j]? = some m → ∀ k f, k < p.length + j → (p ++ r)[k]? = some f → conf f g = true → m.testBit k = true
  | [], p, ms, _, j, g, m, h, _, _, _, _, _, _ => by simp at h
  | g0 :: r, p, [], h, j, g, m, _, hm, _, _, _, _, _ => by simp at hm
  | g0 :: r, p, m0 :: ms, h, j, g, m, hg, hm, k, f, hk, hf, hc => by
    simp only [confOk, Bool.and_eq_true] at h
    cases j with
    | zero =>
      simp only [List.getElem?_cons_zero, Option.some.injEq] at hg hm
      subst hg hm
      have := confAll_spec h.1 k f (by rw [List.getElem?_append_left (by omega)] at hf; exact hf) hc
      simpa using this
    | succ j =>
      refine confOk_spec h.2 j g m (by simpa using hg) (by simpa using hm) k f (by simp; omega) (by simpa using hf) hc
theorem edgesOk_spec : ∀ {os : List Oper} {i : Nat}, edgesOk i os = true → ∀ j o, os[j]? = some o → ∀ e ∈ o.after.toList, Region.binds .any e = true → e.on < i + j
  | [], _, _, j, o, h, _, _, _ => by simp at h
  | o0 :: os, i, h, j, o, hj, e, he, hb => by
    simp only [edgesOk, Bool.and_eq_true] at h
    cases j with
    | zero =>
      simp only [List.getElem?_cons_zero, Option.some.injEq] at hj
      subst hj
      have := List.all_eq_true.1 h.1 e he
      rw [hb] at this
      simpa [Nat.blt_eq] using this
    | succ j =>
      have := edgesOk_spec h.2 j o (by simpa using hj) e he hb
      omega
theorem conf_comm {f g : Fp} (h : ∃ n, (n ∈ f.2 ∧ (n ∈ g.1 ∨ n ∈ g.2)) ∨ (n ∈ g.2 ∧ n ∈ f.1)) : conf f g = true := by
  obtain ⟨n, h⟩ := h
  unfold conf
  rw [Bool.or_eq_true]
  rcases h with ⟨h1, h2⟩ | ⟨h1, h2⟩
  · exact .inl (List.any_eq_true.2 ⟨n, h1, by rw [Bool.or_eq_true]; exact h2.imp (by simp) (by simp)⟩)
  · exact .inr (List.any_eq_true.2 ⟨n, h1, by simpa using h2⟩)
section
variable {P : Program} {Γ : Ctx} {w0 : World} {K : Nat → Prop} {lab lab' : Lab} {σ τ : List Slot} {a : Act} {w w' : World} {C : List Nat} {o : Oper} {pre fact : List Prop} {ws : Wr} {ops : Array Oper} {pr : Nat → Bool}
/-- What the chain says of each operation. -/
theorem chain_at : ∀ {rest : List Oper} {i : Nat} {σ0 σ σ' : List Slot} {fps : List Fp} {wss : List Wr}, Chain P Γ C ops pr rest σ fps wss σ' →
    fps.length = rest.length ∧ wss.length = rest.length ∧ σ' = selF (fun _ => true) i wss σ ∧
    ∀ j o, rest[j]? = some o → ∃ R ws, fps[j]? = some (R, ws.map (·.1)) ∧ wss[j]? = some ws ∧ Steps P Γ C ops o (selF (fun k => decide (k < i + j)) i wss σ) R ws ∧ ∀ x ∈ ws, pr x.1 = false
  | [], i, σ0, σ, σ', fps, wss, h => by
    cases h
    exact ⟨rfl, rfl, rfl, fun j o h => by simp at h⟩
  | o0 :: rest, i, σ0, σ, σ', _, _, .cons (fps := fps) (wss := wss) (ws := ws) (R := R) hs hp ht => by
    obtain ⟨h1, h2, h3, h4⟩ := chain_at (i := i + 1) (σ0 := σ0) ht
    refine ⟨by simp [h1], by simp [h2], by simp only [selF, if_true]; exact h3, fun j o hj => ?_⟩
    cases j with
    | zero =>
      simp only [List.getElem?_cons_zero, Option.some.injEq] at hj
      subst hj
      refine ⟨R, ws, rfl, rfl, ?_, hp⟩
      have : ∀ {i' : Nat} {l : List Wr}, i ≤ i' → selF (fun k => decide (k < i + 0)) i' l σ = σ := by
        intro i' l
        induction l generalizing i' with
        | nil => intro _; rfl
        | cons v l ih =>
          intro hi
          simp only [selF]
          rw [if_neg (by simp; omega)]
          exact ih (by omega)
      rw [this (Nat.le_refl _)]
      exact hs
    | succ j =>
      obtain ⟨R', ws', q1, q2, q3, q4⟩ := h4 j o (by simpa using hj)
      refine ⟨R', ws', by simpa using q1, by simpa using q2, ?_, q4⟩
      simp only [selF]
      rw [if_pos (by simp)]
      rw [show i + (j + 1) = i + 1 + j by omega]
      exact q3
theorem count_set : ∀ {l : List Bool} {i : Nat}, l[i]? = some false → ((l.set i true).filter (· == false)).length + 1 = (l.filter (· == false)).length
  | [], i, h => by simp at h
  | b :: l, 0, h => by
    simp only [List.getElem?_cons_zero, Option.some.injEq] at h
    subst h
    simp
  | b :: l, i + 1, h => by
    have := count_set (l := l) (i := i) (by simpa using h)
    cases b <;> simp only [List.set_cons_succ, List.filter_cons, beq_self_eq_true, if_true, List.length_cons] <;> first | omega | (simp; omega) | simpa using this
theorem wpAny_chain (hT : TyOk P Γ) {Q : Exit → Act → World → Prop} {σ0 σ' : List Slot} {fps : List Fp} {wss : List Wr} (hC : ∀ o ∈ ops.toList, True) (hc : Chain P Γ C ops pr ops.toList σ0 fps wss σ') (hok : drawnOk ops.toList fps = true) :
    ∀ (fuel : Nat) (listed : Array Bool) {lab : Lab} {a : Act} {w : World}, listed.size = ops.size → (listed.toList.filter (· == false)).length = fuel →
      (∀ j o, ops[j]? = some o → listed.getD j false = true → ∀ e ∈ o.after.toList, Region.binds .any e = true → listed.getD e.on false = true) →
      Sim w0 K lab (selF (fun k => listed.getD k false) 0 wss σ0) a w → Rt C (selF (fun k => listed.getD k false) 0 wss σ0) →
      (∀ a' w' lab', Sim w0 K lab' σ' a' w' → Rt C σ' → (∀ M, pr M = true → ∀ g k m, lab g = some (M, k, m) → lab' g = some (M, k, m) ∧ w'.heap[g]? = w.heap[g]?) → Fx (ops.toList.filterMap (·.dst)) a a' → Q .normal a' w') → wpAny P .any ops Q fuel listed a w := by
  obtain ⟨c1, c2, c3, c4⟩ := chain_at (i := 0) (σ0 := σ0) hc
  simp only [drawnOk, Bool.and_eq_true] at hok
  have hedge := edgesOk_spec hok.1
  -- all listed: done
  have fin : ∀ (listed : Array Bool) {lab : Lab} {a : Act} {w : World}, listed.size = ops.size → (∀ j, j < ops.size → listed.getD j false = true) → Sim w0 K lab (selF (fun k => listed.getD k false) 0 wss σ0) a w → Rt C (selF (fun k => listed.getD k false) 0 wss σ0) →
      (∀ a' w' lab', Sim w0 K lab' σ' a' w' → Rt C σ' → (∀ M, pr M = true → ∀ g k m, lab g = some (M, k, m) → lab' g = some (M, k, m) ∧ w'.heap[g]? = w.heap[g]?) → Fx (ops.toList.filterMap (·.dst)) a a' → Q .normal a' w') → Q .normal a w := by
    intro listed lab a w hsz hall h hR hK
    have e : selF (fun k => listed.getD k false) 0 wss σ0 = σ' := by
      rw [c3]
      refine selF_congr fun k _ hk => hall k ?_
      rw [c2] at hk; simpa using hk
    rw [e] at h hR
    exact hK _ _ _ h hR (fun _ _ _ _ _ hg => ⟨hg, rfl⟩) .refl
  have nofalse : ∀ (listed : Array Bool), listed.size = ops.size → (listed.toList.filter (· == false)).length = 0 → ∀ j, j < ops.size → listed.getD j false = true := by
    intro listed hsz hz j hj
    have hl : j < listed.size := by omega
    have hm : listed[j] ∈ listed.toList := by simp
    have h0 := List.eq_nil_of_length_eq_zero hz
    have := List.filter_eq_nil_iff.1 h0 _ hm
    have e : listed.getD j false = listed[j] := by simp [Array.getD, hl]
    rw [e]
    simpa using this
  have noready : ∀ (listed : Array Bool), listed.size = ops.size → Region.ready .any ops listed = [] → ∀ j, j < ops.size → listed.getD j false = true := by
    intro listed hsz hr j
    induction j using Nat.strongRecOn with
    | ind j ih =>
      intro hj
      by_cases hf : listed.getD j false = true
      · exact hf
      · exfalso
        have hmem : j ∈ Region.ready .any ops listed := by
          rw [mem_ready]
          refine ⟨?_, ops[j], by simp [hj], fun e he hb => ?_⟩
          · have hl : j < listed.size := by omega
            simp only [Array.getD, hl, dite_true] at hf ⊢
            simpa using hf
          · have hlt := hedge j ops[j] (by simp [hj]) e (by simpa using he) hb
            exact ih e.on (by omega) (by omega)
        rw [hr] at hmem; cases hmem
  intro fuel
  induction fuel with
  | zero =>
    intro listed lab a w hsz hcnt hcl h hR hK
    have hall := nofalse listed hsz hcnt
    refine ⟨?_, fin listed hsz hall h hR hK⟩
    cases hr : Region.ready .any ops listed with
    | nil => rfl
    | cons j r =>
      exfalso
      have hm : j ∈ Region.ready .any ops listed := by rw [hr]; simp
      rw [mem_ready] at hm
      obtain ⟨q1, o, q2, _⟩ := hm
      have hj : j < ops.size := (Array.getElem?_eq_some_iff.1 q2).1
      have q3 := hall j hj
      have hl : j < listed.size := by omega
      simp only [Array.getD, hl, dite_true] at q1 q3
      rw [q1] at q3; cases q3
  | succ fuel ih =>
    intro listed lab a w hsz hcnt hcl h hR hK
    refine ⟨fun hr => fin listed hsz (noready listed hsz hr) h hR hK, fun i hi => ?_⟩
    rw [mem_ready] at hi
    obtain ⟨q1, o, q2, q3⟩ := hi
    have hin : i < ops.size := (Array.getElem?_eq_some_iff.1 q2).1
    have hl : i < listed.size := by omega
    have hif : listed.getD i false = false := by
      simp only [Array.getD, hl, dite_true] at q1 ⊢; exact q1
    obtain ⟨R, ws, f1, f2, f3, f4⟩ := c4 i o (by simpa using q2)
    rw [Nat.zero_add] at f3
    have hanc : ∀ (j m k : Nat), (ancs ops.toList [])[j]? = some m → listed.getD j false = true → m.testBit k = true → listed.getD k false = true :=
      closed_anc (S := fun k => listed.getD k false) (fun j o hj => hcl j o (by simpa using hj)) (fun j hj => by
        rcases Nat.lt_or_ge j listed.size with q | q
        · simp; omega
        · rw [show listed.getD j false = false from by simp [Array.getD, Nat.not_lt.2 q]] at hj; cases hj)
    have hmask : ∀ j, j < ops.size → ∃ m, (ancs ops.toList [])[j]? = some m := fun j hj => by
      have := (ancs_spec (os := ops.toList) (acc := [])).2 j ops[j] (by simp [hj])
      simp only [List.length_nil, Nat.zero_add] at this
      exact ⟨_, this⟩
    -- nothing that stands in i's way
    have way : ∀ k v, fps[k]? = some v → (k < i → listed.getD k false = false) → (i < k → listed.getD k false = true) → k ≠ i → conf (if k < i then v else (R, ws.map (·.1))) (if k < i then (R, ws.map (·.1)) else v) = false := by
      intro k v hv hlt hgt hne
      cases hcf : conf (if k < i then v else (R, ws.map (·.1))) (if k < i then (R, ws.map (·.1)) else v) with
      | false => rfl
      | true =>
        exfalso
        have hkn : k < ops.size := by
          rcases Nat.lt_or_ge k fps.length with q | q
          · rw [c1] at q; simpa using q
          · rw [List.getElem?_eq_none q] at hv; cases hv
        by_cases hki : k < i
        · rw [if_pos hki, if_pos hki] at hcf
          obtain ⟨m, hm⟩ := hmask i hin
          have hb := confOk_spec hok.2 i _ m f1 hm k v (by simpa using hki) (by simpa using hv) hcf
          -- k comes ahead of i: it is listed
          have h1 := (ancs_spec (os := ops.toList) (acc := [])).2 i o (by simpa using q2)
          simp only [List.length_nil, Nat.zero_add] at h1
          rw [h1] at hm
          obtain rfl := Option.some.inj hm
          obtain ⟨e, he, hbd, hh⟩ := edgesM_bit hb
          have hSe := q3 e (by simpa using he) hbd
          have : listed.getD k false = true := by
            rcases hh with rfl | hh
            · exact hSe
            · have hei := hedge i o (by simpa using q2) e he hbd
              have h2 : ((ancs ops.toList []).take i).getD e.on 0 = (ancs ops.toList []).getD e.on 0 := by
                simp [List.getD_eq_getElem?_getD, List.getElem?_take_of_lt (show e.on < i by omega)]
              rw [h2] at hh
              obtain ⟨m', hm'⟩ := hmask e.on (by omega)
              rw [List.getD_eq_getElem?_getD, hm'] at hh
              exact hanc e.on m' k hm' hSe hh
          rw [hlt hki] at this; cases this
        · rw [if_neg hki, if_neg hki] at hcf
          have hik : i < k := by omega
          obtain ⟨m, hm⟩ := hmask k hkn
          have hb := confOk_spec hok.2 k _ m hv hm i _ (by simpa using hik) (by simpa using f1) hcf
          have := hanc k m i hm (hgt hik) hb
          rw [hif] at this; cases this
    have noconf : ∀ {f g : Fp}, conf f g = false → ∀ n, (n ∈ f.2 → n ∉ g.1 ∧ n ∉ g.2) ∧ (n ∈ g.2 → n ∉ f.1) := by
      intro f g hcf n
      refine ⟨fun h1 => ⟨fun h2 => ?_, fun h2 => ?_⟩, fun h1 h2 => ?_⟩
      · rw [conf_comm ⟨n, .inl ⟨h1, .inl h2⟩⟩] at hcf; cases hcf
      · rw [conf_comm ⟨n, .inl ⟨h1, .inr h2⟩⟩] at hcf; cases hcf
      · rw [conf_comm ⟨n, .inr ⟨h1, h2⟩⟩] at hcf; cases hcf
    have fpk : ∀ (k : Nat) (us : Wr), wss[k]? = some us → ∃ R', fps[k]? = some (R', us.map (·.1)) := by
      intro k us hu
      have hk : k < ops.size := by
        rcases Nat.lt_or_ge k wss.length with q | q
        · rw [c2] at q; simpa using q
        · rw [List.getElem?_eq_none q] at hu; cases hu
      obtain ⟨R', ws', g1, g2, _⟩ := c4 k ops[k] (by simp [hk])
      rw [hu] at g2
      obtain rfl := Option.some.inj g2
      exact ⟨R', g1⟩
    have hsteps : Steps P Γ C ops o (selF (fun k => listed.getD k false) 0 wss σ0) R ws := by
      refine f3.agree fun n hn => ?_
      refine selF_read rfl rfl fun k us hu hne x hx => ?_
      simp only [Nat.zero_add] at hne
      obtain ⟨R', hv⟩ := fpk k us hu
      have hki : k ≠ i := by
        rintro rfl
        rw [hif] at hne; simp at hne
      have hway := way k _ hv (fun q => by
        cases hq : listed.getD k false with
        | false => rfl
        | true => rw [hq] at hne; simp [q] at hne) (fun q => by
        cases hq : listed.getD k false with
        | true => rfl
        | false => rw [hq] at hne; simp at hne; omega) hki
      rintro rfl
      have hxm : x.1 ∈ us.map (·.1) := List.mem_map.2 ⟨x, hx, rfl⟩
      by_cases hk2 : k < i
      · rw [if_pos hk2, if_pos hk2] at hway
        exact ((noconf hway x.1).1 hxm).1 hn
      · rw [if_neg hk2, if_neg hk2] at hway
        exact (noconf hway x.1).2 hxm hn
    have hwrite : app (selF (fun k => listed.getD k false) 0 wss σ0) ws = selF (fun k => (listed.setIfInBounds i true).getD k false) 0 wss σ0 := by
      rw [selF_write (j := i) f2 (by rw [Nat.zero_add]; exact hif) fun k us hik hu hs x hx y hy => ?_]
      · refine selF_congr fun k _ _ => ?_
        rw [Nat.zero_add]
        by_cases hk : k = i
        · subst hk
          simp [Array.getD, hl]
        · rw [getD_set_ne false (Ne.symm hk)]
          have : (k == i) = false := by simpa using hk
          rw [this, Bool.or_false]
      · rw [Nat.zero_add] at hs
        obtain ⟨R', hv⟩ := fpk k us hu
        have hway := way k _ hv (fun q => by omega) (fun _ => hs) (by omega)
        rw [if_neg (by omega), if_neg (by omega)] at hway
        intro e
        exact ((noconf hway x.1).1 (List.mem_map.2 ⟨x, hx, rfl⟩)).2 (List.mem_map.2 ⟨y, hy, e.symm⟩)
    unfold wpOp
    simp only [q2]
    refine step_run h hR (hC o (List.mem_of_getElem? (by simpa using q2))) hT hsteps fun a' w' lab' h' hR' hk hx => ?_
    rw [hwrite] at h' hR'
    refine ih (listed.setIfInBounds i true) (by simp [hsz]) ?_ ?_ h' hR' fun a2 w2 lab2 h2 hR2 hk2 hx2 => hK a2 w2 lab2 h2 hR2 (fun M hM g k m hg => ?_) ((hx.imp fun n hn => ?_).trans hx2)
    · have := count_set (l := listed.toList) (i := i) (by
        have : listed[i]? = some listed[i] := by simp [hl]
        simp only [Array.getElem?_toList, this, Option.some.injEq]
        simpa [Array.getD, hl] using hif)
      rw [Array.toList_setIfInBounds]
      omega
    · intro j o' ho' hj e he hb
      by_cases hji : j = i
      · subst hji
        rw [q2] at ho'
        obtain rfl := Option.some.inj ho'
        exact getD_set_true (q3 e (by simpa using he) hb)
      · rw [getD_set_ne false (Ne.symm hji)] at hj
        exact getD_set_true (hcl j o' ho' hj e he hb)
    · obtain ⟨e1, e2⟩ := hk M (fun x hx e => by have := f4 x hx; rw [e, hM] at this; cases this) g k m hg
      obtain ⟨e3, e4⟩ := hk2 M hM g k m e1
      exact ⟨e3, e4.trans e2⟩
    · exact List.mem_filterMap.2 ⟨o, List.mem_of_getElem? (by simpa using q2), by simpa using hn⟩
end
end Go.Proofs.Ytmjijggkdbiijaa
/- What a region leaves behind. No statement is proved here. -/
namespace Go.Proofs.Ytmjijggkdbiijaa
open Go.RowKit
set_option linter.unusedVariables false
set_option linter.unusedSimpArgs false
section
variable {P : Program} {Γ : Ctx} {w0 : World} {K : Nat → Prop} {lab lab' : Lab} {σ τ : List Slot} {a : Act} {w w' : World} {C : List Nat} {o : Oper} {pre fact : List Prop} {ws : Wr} {ops : Array Oper} {pr : Nat → Bool}
/-- Some slots are forgotten. -/
theorem Sim.weaken (h : Sim w0 K lab σ a w) (hl : τ.length = σ.length) (h1 : ∀ M, τ.getD M .dead = σ.getD M .dead ∨ τ.getD M .dead = .dead) (h2 : ∀ M R, τ.getD M .dead ≠ .dead → (σ.getD M .dead).root = some R → τ.getD R .dead = σ.getD R .dead) : Sim w0 K lab τ a w := by
  refine h.upd (by rw [hl]; exact h.len) h.nd h.fr h.lt h.kl fun M => ?_
  by_cases hd : τ.getD M .dead = .dead
  · exact .inr (by rw [hd]; trivial)
  · have e := (h1 M).resolve_right hd
    exact .inl ⟨e, rfl, Kp.refl _ _ _, fun R hr => ⟨fun _ _ => rfl, fun _ _ => rfl, by rw [h2 M R hd hr], by rw [h2 M R hd hr], rfl⟩⟩
theorem Sim.same (h : Sim w0 K lab σ a w) (hh : w'.heap = w.heap) (h1 : w'.os = w.os) (h2 : w'.tape = w.tape) (h3 : w'.output = w.output) : Sim w0 K lab σ a w' := by
  refine h.upd h.len h.nd ⟨h1.trans h.fr.os, h2.trans h.fr.tape, h3.trans h.fr.output, by rw [hh]; exact h.fr.size, fun g hg => by rw [hh]; exact h.fr.keep g hg⟩ (fun g p hg => by rw [hh]; exact h.lt g p hg) h.kl fun M => ?_
  exact .inl ⟨rfl, rfl, ⟨fun g hg => ⟨⟨hg.1, by rw [hh]; exact hg.2⟩, by rw [hh]⟩, fun g k m hg => ⟨hg, by rw [hh]⟩⟩, fun R hr => ⟨fun _ _ => by rw [hh], fun _ _ => by rw [hh], rfl, rfl, rfl⟩⟩
/-- A region's roots lie in it, and are not protected. -/
def Rp (C : List Nat) (pr : Nat → Bool) (σ : List Slot) : Prop := ∀ N, (σ.getD N .dead).root ≠ none → N ∈ C ∧ pr N = false
theorem share_sim (h : Sim w0 K lab σ a w) (hR : Rp C pr σ) {n : Nat} (hn : pr n = false) : (∃ lab', Sim w0 K lab' (share pr n σ) a w ∧ ∀ M, pr M = true → ∀ g k m, lab g = some (M, k, m) → lab' g = some (M, k, m)) ∧ Rp C pr (share pr n σ) ∧ (share pr n σ).length = σ.length ∧ ∀ N, pr N = true → (share pr n σ).getD N .dead = σ.getD N .dead := by
  have base : (∃ lab', Sim w0 K lab' σ a w ∧ ∀ M, pr M = true → ∀ g k m, lab g = some (M, k, m) → lab' g = some (M, k, m)) ∧ Rp C pr σ ∧ σ.length = σ.length ∧ ∀ N, pr N = true → σ.getD N .dead = σ.getD N .dead := ⟨⟨lab, h, fun _ _ _ _ _ hg => hg⟩, hR, rfl, fun _ _ => rfl⟩
  unfold share
  split
  · rename_i M p hσ
    split
    · rename_i k hk
      split
      · rename_i hpr
        have hpr' : ∀ x ∈ k.fz, pr x.1 = false := fun x hx => by simpa using List.all_eq_true.1 hpr x hx
        have ht : (take none (.tmp n)).run σ = some k := by simp only [take, RM.run, hσ]; exact hk
        obtain ⟨_, hcase⟩ := take_run h ht
        have hroot : (σ.getD n .dead).root ≠ none := by rw [hσ]; simp [Slot.root]
        have hev : a.eval (.tmp n) = a.tmps.getD n undef := rfl
        have out : ∀ N, pr N = true → (app σ ((n, Slot.val k.d) :: k.fz.filter (·.1 != n))).getD N .dead = σ.getD N .dead := fun N hN => by
          refine app_out _ _ _ fun x hx e => ?_
          rcases List.mem_cons.1 hx with rfl | hx
          · simp only at e; subst e; rw [hn] at hN; cases hN
          · have := hpr' x (List.mem_filter.1 hx).1
            rw [e, hN] at this; cases this
        have rp : (∀ x ∈ k.fz, x.2.root = none) → Rp C pr (app σ ((n, Slot.val k.d) :: k.fz.filter (·.1 != n))) := fun hz N hN => by
          by_cases hex : ∃ x ∈ ((n, Slot.val k.d) :: k.fz.filter (·.1 != n) : Wr), x.1 = N
          · by_cases hlt : N < σ.length
            · obtain ⟨x, hx, _, e⟩ := app_mem σ _ N hlt hex
              rw [e] at hN
              rcases List.mem_cons.1 hx with rfl | hx
              · simp [Slot.root] at hN
              · rw [hz x (List.mem_filter.1 hx).1] at hN; exact absurd rfl hN
            · rw [getD_beyond (by rw [app_len]; exact hlt)] at hN; simp [Slot.root] at hN
          · rw [app_out _ _ _ fun x hx e => hex ⟨x, hx, e⟩] at hN
            exact hR N hN
        rcases hcase with ⟨q1, q2, q3, q4⟩ | ⟨q1, t, y, q2, q3⟩
        · have hz : ∀ x ∈ k.fz, x.2.root = none := by rw [q4]; simp
          refine ⟨⟨lab, ?_, fun _ _ _ _ _ hg => hg⟩, rp hz, app_len _ _, out⟩
          rw [q4]
          have := h.wrT (lab' := lab) (w' := w) (ws := [(n, Slot.val k.d)]) (kk := []) h.fr h.lt h.kl (fun g hg => ⟨hg, rfl⟩) (fun M _ g k m hg => ⟨hg, rfl⟩) (fun x hx => by
            simp only [List.mem_singleton] at hx; subst hx
            exact ⟨rfl, q2, .inr (.inl hroot)⟩) ⟨by simp, by simp⟩
          simpa using this
        · obtain ⟨s1, s2⟩ := q3.share h (F := k.fz.map (·.1)) (fun e he => List.mem_map.2 ⟨e, he, rfl⟩)
          have hz : ∀ x ∈ k.fz, x.2.root = none := fun x hx => (s2 x hx).1
          refine ⟨⟨dropL (k.fz.map (·.1)) lab, ?_, fun M hM g j m hg => dropL_other (fun hm => ?_) hg⟩, rp hz, app_len _ _, out⟩
          · have := h.wrT (lab' := dropL (k.fz.map (·.1)) lab) (w' := w) (ws := (n, Slot.val k.d) :: k.fz.filter (·.1 != n)) (kk := []) h.fr (fun g p hg => h.lt g p (dropL_some hg)) (fun g p hg => h.kl g p (dropL_some hg)) (fun g hg => ⟨hg.drop, rfl⟩) (fun M hM g j m hg => ⟨dropL_other (fun hm => by
              obtain ⟨e, he, rfl⟩ := List.mem_map.1 hm
              by_cases hen : e.1 = n
              · exact hM (n, .val k.d) (by simp) hen.symm
              · exact hM e (by simp [he, hen]) rfl) hg, rfl⟩) (fun x hx => by
              rcases List.mem_cons.1 hx with rfl | hx
              · exact ⟨rfl, by rw [q2]; exact s1, .inr (.inl hroot)⟩
              · obtain ⟨r1, r2, r3⟩ := s2 x (List.mem_filter.1 hx).1
                refine ⟨r1, r2, ?_⟩
                rcases r3 with r3 | r3 | r3
                · exact .inl r3
                · exact .inr (.inl r3)
                · exact .inr (.inr (.inl r3))) ⟨by simp, fun x hx hd => by
              rcases List.mem_cons.1 hx with rfl | hx
              · cases hd
              · exact absurd hd (q3.alive x (List.mem_filter.1 hx).1)⟩
            simpa using this
          · obtain ⟨e, he, rfl⟩ := List.mem_map.1 hm
            rw [hpr' e he] at hM; cases hM
      · exact base
    · exact base
  · exact base
theorem shares_sim : ∀ {ns : List Nat} {σ : List Slot} {lab : Lab}, Sim w0 K lab σ a w → Rp C pr σ → (∀ n ∈ ns, pr n = false) → (∃ lab', Sim w0 K lab' (ns.foldl (fun σ n => share pr n σ) σ) a w ∧ ∀ M, pr M = true → ∀ g k m, lab g = some (M, k, m) → lab' g = some (M, k, m)) ∧ Rp C pr (ns.foldl (fun σ n => share pr n σ) σ) ∧
    (ns.foldl (fun σ n => share pr n σ) σ).length = σ.length ∧ ∀ N, pr N = true → (ns.foldl (fun σ n => share pr n σ) σ).getD N .dead = σ.getD N .dead
  | [], σ, lab, h, hR, _ => ⟨⟨lab, h, fun _ _ _ _ _ hg => hg⟩, hR, rfl, fun _ _ => rfl⟩
  | n :: ns, σ, lab, h, hR, hn => by
    obtain ⟨⟨lab1, h1, k1⟩, r1, l1, o1⟩ := share_sim h hR (hn n (by simp))
    obtain ⟨⟨lab2, h2, k2⟩, r2, l2, o2⟩ := shares_sim (ns := ns) h1 r1 fun m hm => hn m (by simp [hm])
    exact ⟨⟨lab2, h2, fun M hM g k m hg => k2 M hM g k m (k1 M hM g k m hg)⟩, r2, l2.trans l1, fun N hN => (o2 N hN).trans (o1 N hN)⟩
theorem mapAt_getD {f : Nat → Slot → Slot} (hf : ∀ n, f n .dead = .dead) : ∀ {i : Nat} {σ : List Slot} {N : Nat}, (mapAt f i σ).getD N .dead = f (i + N) (σ.getD N .dead)
  | i, [], N => by simp [mapAt, hf]
  | i, s :: σ, 0 => by simp [mapAt]
  | i, s :: σ, N + 1 => by
    have := mapAt_getD hf (i := i + 1) (σ := σ) (N := N)
    simp only [mapAt, List.getD_cons_succ]
    rw [this, show i + 1 + N = i + (N + 1) by omega]
theorem mapAt_len {f : Nat → Slot → Slot} : ∀ {i : Nat} {σ : List Slot}, (mapAt f i σ).length = σ.length
  | _, [] => rfl
  | i, s :: σ => by simp [mapAt, mapAt_len]
/-- A region's end. -/
theorem endReg_sim (h : Sim w0 K lab σ a w) (hR : Rp C pr σ) : (∃ lab', Sim w0 K lab' (endReg Γ pr C σ) a w ∧ ∀ M, pr M = true → ∀ g k m, lab g = some (M, k, m) → lab' g = some (M, k, m)) ∧ Rz (endReg Γ pr C σ) ∧ ∀ N, pr N = true → (endReg Γ pr C σ).getD N .dead = σ.getD N .dead := by
  unfold endReg
  obtain ⟨⟨lab1, h1, k1⟩, r1, l1, o1⟩ := shares_sim (ns := Γ.live.filter fun n => C.contains n && !pr n) h hR fun n hn => by
    have := (List.mem_filter.1 hn).2
    simp only [Bool.and_eq_true, Bool.not_eq_true'] at this
    exact this.2
  generalize (List.foldl (fun σ n => share pr n σ) σ (Γ.live.filter fun n => C.contains n && !pr n)) = τ at h1 r1 l1 o1
  have hf : ∀ n, endSlot pr C n .dead = .dead := fun n => rfl
  have hg : ∀ N, (mapAt (endSlot pr C) 0 τ).getD N .dead = endSlot pr C N (τ.getD N .dead) := fun N => by rw [mapAt_getD hf, Nat.zero_add]
  have hend : ∀ N, (τ.getD N .dead).root = none → endSlot pr C N (τ.getD N .dead) = τ.getD N .dead := fun N hN => by unfold endSlot; rw [hN]
  have hdie : ∀ N, (τ.getD N .dead).root ≠ none → endSlot pr C N (τ.getD N .dead) = .dead := fun N hN => by
    obtain ⟨c1, c2⟩ := r1 N hN
    unfold endSlot
    cases hr : (τ.getD N .dead).root with
    | none => exact absurd hr hN
    | some M =>
      simp only
      rw [if_pos (by simp [c1, c2])]
  refine ⟨⟨lab1, h1.weaken mapAt_len (fun M => ?_) (fun M R hne hr => ?_), k1⟩, fun N hN => ?_, fun N hN => ?_⟩
  · rw [hg]
    by_cases hr : (τ.getD M .dead).root = none
    · exact .inl (hend M hr)
    · exact .inr (hdie M hr)
  · rw [hg, hdie M (by rw [hr]; simp)] at hne; exact absurd rfl hne
  · exfalso
    rw [hg] at hN
    by_cases hr : (τ.getD N .dead).root = none
    · rw [hend N hr] at hN; exact hN hr
    · rw [hdie N hr] at hN; exact hN rfl
  · rw [hg]
    by_cases hr : (τ.getD N .dead).root = none
    · rw [hend N hr]; exact o1 N hN
    · have := (r1 N hr).2; rw [hN] at this; cases this
theorem chain_out : ∀ {rest : List Oper} {σ σ' : List Slot} {fps : List Fp} {wss : List Wr}, Chain P Γ C ops pr rest σ fps wss σ' → ∀ N, pr N = true → σ'.getD N .dead = σ.getD N .dead
  | [], _, _, _, _, h, N, _ => by cases h; rfl
  | o :: rest, σ, σ', _, _, .cons (ws := ws) hs hp ht, N, hN => by
    rw [chain_out ht N hN]
    exact app_out _ _ _ fun x hx e => by have := hp x hx; rw [e, hN] at this; cases this
end
end Go.Proofs.Ytmjijggkdbiijaa
/- A function's code: the condition is enough. No statement is proved here. -/
namespace Go.Proofs.Ytmjijggkdbiijaa
open Go.RowKit
set_option linter.unusedVariables false
set_option linter.unusedSimpArgs false
theorem exists_min {p : Nat → Prop} (h : ∃ n, p n) : ∃ n, p n ∧ ∀ m, p m → n ≤ m := by
  obtain ⟨n, hn⟩ := h
  induction n using Nat.strongRecOn with
  | ind n ih =>
    by_cases hm : ∃ m, m < n ∧ p m
    · obtain ⟨m, h1, h2⟩ := hm
      exact ih m h1 h2
    · exact ⟨n, hn, fun m hp => by
        rcases Nat.lt_or_ge m n with q | q
        · exact absurd ⟨m, q, hp⟩ hm
        · exact q⟩
open Classical in
noncomputable def least (p : Nat → Prop) : Nat := if h : ∃ n, p n then Classical.choose (exists_min h) else 0
theorem least_spec {p : Nat → Prop} (h : ∃ n, p n) : p (least p) ∧ ∀ m, p m → least p ≤ m := by
  unfold least
  rw [dif_pos h]
  exact Classical.choose_spec (exists_min h)
theorem share_len {pr : Nat → Bool} {n : Nat} {σ : List Slot} : (share pr n σ).length = σ.length := by
  unfold share
  split
  · split
    · split
      · exact app_len _ _
      · rfl
    · rfl
  · rfl
theorem endReg_len {Γ : Ctx} {pr : Nat → Bool} {C : List Nat} {σ : List Slot} : (endReg Γ pr C σ).length = σ.length := by
  unfold endReg
  rw [mapAt_len]
  generalize (Γ.live.filter fun n => C.contains n && !pr n) = ns
  induction ns generalizing σ with
  | nil => rfl
  | cons n ns ih => simp only [List.foldl_cons]; rw [ih, share_len]
theorem agree_mem {σ : List Slot} : ∀ {ws : Wr}, agree σ ws → ∀ x ∈ ws, σ.getD x.1 .dead = x.2
  | [], _, x, hx => by cases hx
  | [(N, s)], h, x, hx => by simp only [List.mem_singleton] at hx; subst hx; exact h
  | (N, s) :: y :: ws, h, x, hx => by
    rcases List.mem_cons.1 hx with rfl | hx
    · exact h.1
    · exact agree_mem (ws := y :: ws) h.2 x hx
theorem Slot.fact_of {s : Slot} (h : s.ok) : allP s.fact := by
  cases s with
  | val d => exact D.fact_of_ok h
  | own t x => exact Ty.fact_of_ok h
  | box d => exact D.fact_of_ok h
  | boxo t x => exact Ty.fact_of_ok h
  | boxh t x p => exact Ty.fact_of_ok h
  | _ => trivial
theorem factW_of : ∀ {ws : Wr}, (∀ x ∈ ws, x.2.ok) → allP (factW ws)
  | [], _ => trivial
  | (N, s) :: ws, h => allP_append.2 ⟨Slot.fact_of (h (N, s) (by simp)), factW_of fun x hx => h x (by simp [hx])⟩
section
variable {P : Program} {Γ : Ctx} {w0 : World} {K : Nat → Prop} {lab lab' : Lab} {σ τ : List Slot} {a : Act} {w w' : World} {C : List Nat} {o : Oper} {pre fact : List Prop} {ws : Wr} {ops : Array Oper} {pr : Nat → Bool}
/-- What must be left alone is. -/
def KD (lab lab' : Lab) (w w' : World) : Prop := ∀ g k m, lab g = some (D0, k, m) → lab' g = some (D0, k, m) ∧ w'.heap[g]? = w.heap[g]?
theorem KD.refl : KD lab lab w w := fun _ _ _ h => ⟨h, rfl⟩
theorem KD.trans {lab1 lab2 lab3 : Lab} {w1 w2 w3 : World} (h1 : KD lab1 lab2 w1 w2) (h2 : KD lab2 lab3 w2 w3) : KD lab1 lab3 w1 w3 := fun g k m hg => by
  obtain ⟨e1, e2⟩ := h1 g k m hg
  obtain ⟨e3, e4⟩ := h2 g k m e1
  exact ⟨e3, e4.trans e2⟩
def Post (w0 : World) (K : Nat → Prop) (pr : Nat → Bool) (lab : Lab) (σ : List Slot) (D : List Nat) (a : Act) (w : World) (Q : Exit → List Slot → Prop) : Exit → Act → World → Prop := fun e a' w' =>
  ∃ σ' lab', Q e σ' ∧ Sim w0 K lab' σ' a' w' ∧ Rz σ' ∧ (∀ N, pr N = true → σ'.getD N .dead = σ.getD N .dead) ∧ σ'.length = σ.length ∧ KD lab lab' w w' ∧ Fx D a a'
theorem Rz.any (h : Rz σ) : Rt C σ := fun N M hN => absurd (h N (by rw [hN]; simp)) (by simp)
theorem chain_len : ∀ {rest : List Oper} {σ σ' : List Slot} {fps : List Fp} {wss : List Wr}, Chain P Γ C ops pr rest σ fps wss σ' → σ'.length = σ.length
  | [], _, _, _, _, h => by cases h; rfl
  | o :: rest, σ, σ', _, _, .cons (ws := ws) hs hp ht => by rw [chain_len ht, app_len]
theorem region_sound (hT : TyOk P Γ) (hm : P.follows .mixedOrders = true) (hpr : pr D0 = true) {id : Nat} {dr : Bool} {Q : Exit → List Slot → Prop} {D : List Nat} (hDs : ∀ n ∈ dstsOf ops, n ∈ D) (h : Sim w0 K lab σ a w) (hR : Rz σ)
    (hV : opsV P Γ pr (cands Γ ops) ops (fun σ' => Q .normal (endReg Γ pr (cands Γ ops) σ')) dr ops.toList [] σ) : (Code.region id ops dr).wp P (Post w0 K pr lab σ D a w Q) a w := by
  have hC : ∀ o ∈ ops.toList, True := fun _ _ => trivial
  obtain ⟨fps, wss, σ', c1, c2, c3, c4⟩ := opsV_chain hT hC ⟨hR.any, lab, a, w, h⟩ hV
  have hend : ∀ {w1 : World}, w1.heap = w.heap → ∀ a' w' lab', Sim w0 K lab' σ' a' w' → Rt (cands Γ ops) σ' → (∀ M, pr M = true → ∀ g k m, lab g = some (M, k, m) → lab' g = some (M, k, m) ∧ w'.heap[g]? = w1.heap[g]?) → Fx (ops.toList.filterMap (·.dst)) a a' → Post w0 K pr lab σ D a w Q .normal a' w' := by
    intro w1 hw a' w' lab' h' hR' hk hx
    have hRp : Rp (cands Γ ops) pr σ' := fun N hN => by
      refine ⟨hR'.mem hN, ?_⟩
      cases hp : pr N with
      | false => rfl
      | true =>
        rw [chain_out c1 N hp] at hN
        exact absurd (hR N hN) (by simp)
    obtain ⟨⟨lab2, e1, e2⟩, e3, e4⟩ := endReg_sim (Γ := Γ) h' hRp
    refine ⟨_, lab2, c4, e1, e3, fun N hN => (e4 N hN).trans (chain_out c1 N hN), endReg_len.trans (chain_len c1), fun g k m hg => ?_, hx.imp hDs⟩
    obtain ⟨f1, f2⟩ := hk D0 hpr g k m hg
    exact ⟨e2 D0 hpr g k m f1, by rw [f2, hw]⟩
  cases dr with
  | false =>
    refine wp_region_list ?_
    exact chain_list_wp hT hC c1 h hR.any (hend rfl)
  | true =>
    refine wp_region_any hm ?_
    have hsel : selF (fun k => (Array.replicate ops.size false).getD k false) 0 wss σ = σ := by
      have : ∀ (i : Nat) (l : List Wr), selF (fun k => (Array.replicate ops.size false).getD k false) i l σ = σ := by
        intro i l
        induction l generalizing i with
        | nil => rfl
        | cons v l ih =>
          simp only [selF]
          rw [if_neg (by simp [Array.getD])]
          exact ih _
      exact this 0 wss
    have h1 : Sim w0 K lab σ a { w with drawn := w.drawn + 1 } := h.same rfl rfl rfl rfl
    exact wpAny_chain hT hC c1 (by simpa using c2 rfl) ops.size (Array.replicate ops.size false) (by simp) (by simp) (fun j o _ hj => by simp [Array.getD] at hj) (by rw [hsel]; exact h1) (by rw [hsel]; exact hR.any) (hend rfl)
/-- A loop's state at its head. -/
theorem head_sim (h : Sim w0 K lab τ a w) (hR : Rz τ) (hl : τ.length = σ.length) {hv : List Nat} {sl : Wr} (ha : agree τ sl) (hs : ∀ N, hv.contains N = false → τ.getD N .dead = σ.getD N .dead) (hsub : ∀ x ∈ sl, hv.contains x.1 = true) :
    Sim w0 K lab (app (app σ (dying hv)) sl) a w ∧ Rz (app (app σ (dying hv)) sl) := by
  have key : ∀ M, (app (app σ (dying hv)) sl).getD M .dead = τ.getD M .dead ∨ (app (app σ (dying hv)) sl).getD M .dead = .dead := by
    intro M
    by_cases hlt : M < σ.length
    · by_cases hm : ∃ x ∈ sl, x.1 = M
      · obtain ⟨x, h1, h2, h3⟩ := app_mem (app σ (dying hv)) sl M (by rw [app_len]; exact hlt) hm
        left
        rw [h3, ← agree_mem ha x h1, h2]
      · rw [app_out _ _ _ fun x hx e => hm ⟨x, hx, e⟩]
        by_cases hc : hv.contains M = true
        · right
          refine app_dead _ _ _ ⟨(M, .dead), List.mem_map.2 ⟨M, by simpa using hc, rfl⟩, rfl⟩ fun x hx _ => ?_
          obtain ⟨n, _, rfl⟩ := List.mem_map.1 hx
          rfl
        · left
          have hc' : hv.contains M = false := by simpa using hc
          rw [app_out _ _ _ fun x hx e => ?_, hs M hc']
          obtain ⟨n, hn, rfl⟩ := List.mem_map.1 hx
          simp only at e
          subst e
          simp at hc; exact hc hn
    · right
      exact getD_beyond (by rw [app_len, app_len]; exact hlt)
  refine ⟨h.weaken (by rw [app_len, app_len, hl]) key fun M R _ hr => absurd (hR M (by rw [hr]; simp)) (by simp), fun N hN => ?_⟩
  rcases key N with e | e
  · rw [e] at hN; exact hR N hN
  · rw [e] at hN; exact absurd rfl hN
theorem wpc_sound (hT : TyOk P Γ) (hm : P.follows .mixedOrders = true) {D : List Nat} : ∀ (c : Code) {pr : Nat → Bool} {Q : Exit → List Slot → Prop} {lab : Lab} {σ : List Slot} {a : Act} {w : World}, (∀ n ∈ Cod.dsts c, n ∈ D) → pr D0 = true → Sim w0 K lab σ a w → Rz σ → wpc P Γ pr Q c σ → c.wp P (Post w0 K pr lab σ D a w Q) a w
  | .skip, pr, Q, lab, σ, a, w, hD, hp, h, hR, hV => wp_skip ⟨σ, lab, hV, h, hR, fun _ _ => rfl, rfl, .refl, .refl⟩
  | .region id ops dr, pr, Q, lab, σ, a, w, hD, hp, h, hR, hV => region_sound hT hm hp hD h hR hV
  | .seq c1 c2, pr, Q, lab, σ, a, w, hD, hp, h, hR, hV => by
    refine wp_seq (wp_mono (wpc_sound hT hm c1 (fun n hn => hD n (List.mem_append.2 (.inl hn))) hp h hR hV) ?_)
    rintro e a1 w1 ⟨σ1, lab1, q1, q2, q3, q4, q5, q6, q7⟩
    cases e with
    | normal =>
      refine wp_mono (wpc_sound hT hm c2 (fun n hn => hD n (List.mem_append.2 (.inr hn))) hp q2 q3 q1) ?_
      rintro e a2 w2 ⟨σ2, lab2, r1, r2, r3, r4, r5, r6, r7⟩
      exact ⟨σ2, lab2, r1, r2, r3, fun N hN => (r4 N hN).trans (q4 N hN), r5.trans q5, q6.trans r6, q7.trans r7⟩
    | _ => exact ⟨σ1, lab1, q1, q2, q3, q4, q5, q6, q7⟩
  | .cond c c1 c2, pr, Q, lab, σ, a, w, hD, hp, h, hR, hV => by
    simp only [wpc] at hV
    split at hV
    · rename_i t ht
      cases c with
      | tmp n =>
        simp only [boolAt] at ht
        split at ht
        · rename_i b hn
          simp only [Option.some.injEq] at ht
          subst ht
          have hs := h.slots n
          rw [hn] at hs
          have hv : a.eval (.tmp n) = .bool b := rep_bool hs
          cases b with
          | true =>
            simp only [split] at hV
            rw [setB_same hn] at hV
            exact wp_cond_true hv (wpc_sound hT hm c1 (fun n hn => hD n (List.mem_append.2 (.inl hn))) hp h hR hV)
          | false =>
            simp only [split] at hV
            rw [setB_same hn] at hV
            exact wp_cond_false hv (wpc_sound hT hm c2 (fun n hn => hD n (List.mem_append.2 (.inr hn))) hp h hR hV)
        · cases ht
      | _ => simp [boolAt] at ht
    · split at hV
      · rename_i p ht
        cases c with
        | tmp n =>
          simp only [nilAt] at ht
          split at ht
          · rename_i p' hn
            simp only [Option.some.injEq] at ht
            subst ht
            have hs := h.slots n
            rw [hn] at hs
            obtain ⟨b, hv, hb⟩ := hs
            have hv' : a.eval (.tmp n) = .bool b := hv
            cases b with
            | true => exact wp_cond_true hv' (wpc_sound hT hm c1 (fun n hn => hD n (List.mem_append.2 (.inl hn))) hp h hR (hV.1 (hb rfl)))
            | false => exact wp_cond_false hv' (wpc_sound hT hm c2 (fun n hn => hD n (List.mem_append.2 (.inr hn))) hp h hR hV.2)
          · cases ht
        | _ => simp [nilAt] at ht
      · cases hV
  | .block id b, pr, Q, lab, σ, a, w, hD, hp, h, hR, hV => by
    simp only [wpc] at hV
    refine wp_block (wp_mono (wpc_sound hT hm b hD hp h hR hV) ?_)
    rintro e a1 w1 ⟨σ1, lab1, q1, q2, q3, q4, q5, q6, q7⟩
    cases e with
    | exit id' =>
      simp only at q1
      simp only [Exit.inBlock]
      split
      · rename_i e; rw [if_pos e] at q1; exact ⟨σ1, lab1, q1, q2, q3, q4, q5, q6, q7⟩
      · rename_i e; rw [if_neg e] at q1; exact ⟨σ1, lab1, q1, q2, q3, q4, q5, q6, q7⟩
    | _ => exact ⟨σ1, lab1, q1, q2, q3, q4, q5, q6, q7⟩
  | .loop b, pr, Q, lab, σ, a, w, hD, hp, h, hR, hV => by
    simp only [wpc] at hV
    split at hV
    · rename_i L hL
      obtain ⟨⟨x0, i1, i2⟩, hV⟩ := hV
      -- what holds at the head, for x
      obtain ⟨J, hJ⟩ : ∃ J : L.T → Act → World → Prop, J = fun x a' w' => L.inv x ∧ ∃ τ lab', agree τ (L.sl x) ∧ Sim w0 K lab' τ a' w' ∧ Rz τ ∧ (∀ N, L.hv.contains N = false → τ.getD N .dead = σ.getD N .dead) ∧ τ.length = σ.length ∧ KD lab lab' w w' ∧ Fx D a a' := ⟨_, rfl⟩
      refine wp_loop (fun a' w' => ∃ x, J x a' w') (fun a' w' => least fun n => ∃ x, J x a' w' ∧ L.mu x = n) ⟨x0, ?_⟩ fun a1 w1 hI => ?_
      · rw [hJ]; exact ⟨i2, σ, lab, i1, h, hR, fun _ _ => rfl, rfl, .refl, .refl⟩
      · obtain ⟨⟨x, hx, hmu⟩, _⟩ := least_spec (p := fun n => ∃ x, J x a1 w1 ∧ L.mu x = n) (by obtain ⟨x, hx⟩ := hI; exact ⟨_, x, hx, rfl⟩)
        rw [← hmu]
        rw [hJ] at hx
        obtain ⟨j1, τ, lab1, j2, j3, j4, j5, j6, j7, j8⟩ := hx
        have hfact : allP (factW (L.sl x)) := factW_of fun y hy => by
          rw [← agree_mem j2 y hy]; exact (j3.slots y.1).ok
        have hV1 := impL_elim (hV x j1) hfact
        split at hV1
        · rename_i hchk
          simp only [Bool.and_eq_true] at hchk
          have hsub : ∀ y ∈ L.sl x, L.hv.contains y.1 = true := fun y hy => List.all_eq_true.1 hchk.1 y hy
          have hnp : ∀ N, L.hv.contains N = true → pr N = false := fun N hN => by simpa using List.all_eq_true.1 hchk.2 N (by simpa using hN)
          obtain ⟨k1, k2⟩ := head_sim j3 j4 j6 j2 j5 hsub
          have hDD : (!L.hv.contains D0) = true := by
            cases hc : L.hv.contains D0 with
            | false => rfl
            | true => have := hnp D0 hc; rw [hp] at this; cases this
          have hout : ∀ N, L.hv.contains N = false → (app (app σ (dying L.hv)) (L.sl x)).getD N .dead = σ.getD N .dead := fun N hN => by
            rw [app_out _ _ _ fun y hy e => by have := hsub y hy; rw [e, hN] at this; cases this]
            refine app_out _ _ _ fun y hy e => ?_
            obtain ⟨n, hn, rfl⟩ := List.mem_map.1 hy
            simp only at e
            subst e
            rw [List.contains_iff_mem.2 hn] at hN; cases hN
          refine wp_mono (wpc_sound hT hm b (pr := fun n => !L.hv.contains n) hD hDD k1 k2 hV1) ?_
          rintro e a2 w2 ⟨σ2, lab2, q1, q2, q3, q4, q5, q6, q7⟩
          have hlen : σ2.length = σ.length := by rw [q5, app_len, app_len]
          have hkeep : ∀ N, L.hv.contains N = false → σ2.getD N .dead = σ.getD N .dead := fun N hN => (q4 N (show (!L.hv.contains N) = true by rw [hN]; rfl)).trans (hout N hN)
          have hprk : ∀ N, pr N = true → σ2.getD N .dead = σ.getD N .dead := fun N hN => hkeep N (by
            cases hc : L.hv.contains N with
            | false => rfl
            | true => rw [hnp N hc] at hN; cases hN)
          cases e with
          | normal =>
            obtain ⟨x', r1, r2, r3⟩ := q1
            have hx' : J x' a2 w2 := by rw [hJ]; exact ⟨r2, σ2, lab2, r1, q2, q3, hkeep, hlen, j7.trans q6, j8.trans q7⟩
            refine ⟨⟨x', hx'⟩, Nat.lt_of_le_of_lt ?_ r3⟩
            exact (least_spec (p := fun n => ∃ x, J x a2 w2 ∧ L.mu x = n) ⟨_, x', hx', rfl⟩).2 _ ⟨x', hx', rfl⟩
          | _ => exact ⟨σ2, lab2, q1, q2, q3, hprk, hlen, j7.trans q6, j8.trans q7⟩
        · cases hV1
    · cases hV
  | .exit id, pr, Q, lab, σ, a, w, hD, hp, h, hR, hV => wp_exit ⟨σ, lab, hV, h, hR, fun _ _ => rfl, rfl, .refl, .refl⟩
  | .ret, pr, Q, lab, σ, a, w, hD, hp, h, hR, hV => wp_ret ⟨σ, lab, hV, h, hR, fun _ _ => rfl, rfl, .refl, .refl⟩
  | .scope b, pr, Q, lab, σ, a, w, hD, hp, h, hR, hV => by simp [wpc] at hV
  | .goto l, pr, Q, lab, σ, a, w, hD, hp, h, hR, hV => by simp [wpc] at hV
  | .label l, pr, Q, lab, σ, a, w, hD, hp, h, hR, hV => by simp [wpc] at hV
end
end Go.Proofs.Ytmjijggkdbiijaa
/- A function: its condition makes a contract. No statement is proved here. -/
namespace Go.Proofs.Ytmjijggkdbiijaa
open Go.RowKit
set_option linter.unusedVariables false
set_option linter.unusedSimpArgs false
section
variable {P : Program} {Γ : Ctx} {w0 : World} {K : Nat → Prop} {lab lab' : Lab} {σ τ : List Slot} {a : Act} {w w' : World} {C : List Nat}
/-- A result's value. -/
def RV (P : Program) (w : World) (tmps : Array Value) : ResultVar → Value → Prop
  | .tmp n, v => v = tmps.getD n undef
  | .cell n T, v => ∃ ad, tmps.getD n undef = .pointer (some ad) ∧ (loadVar T ad).run P w = .ok v w
def rvM (tmps : Array Value) (rv : ResultVar) : Sem Value :=
  match rv with
  | .tmp t => pure (tmps.getD t undef)
  | .cell a t => do loadVar t (← asAddr (tmps.getD a undef))
theorem results_run {fn : Func} {tmps : Array Value} {vs : List Value} (h : Al2 (fun rv v => RV P w tmps rv v) fn.results.toList vs) : (results fn tmps).run P w = .ok (if vs.length = 1 then vs.getD 0 undef else .tuple vs.toArray) w := by
  have key : ∀ {l : List ResultVar} {vs : List Value}, Al2 (fun rv v => RV P w tmps rv v) l vs → (l.mapM (rvM tmps)).run P w = Result.ok vs w := by
    intro l vs h
    induction h with
    | nil => simp
    | @cons rv v l vs h t ih =>
      rw [List.mapM_cons]
      cases rv with
      | tmp n =>
        obtain rfl : v = tmps.getD n undef := h
        simp [rvM, ih]
      | cell n T =>
        obtain ⟨ad, h1, h2⟩ := h
        simp [rvM, h1, asAddr, h2, ih]
  have e : results fn tmps = (do let vs ← fn.results.mapM (rvM tmps); pure (if h : vs.size = 1 then vs[0] else .tuple vs)) := rfl
  rw [e, Array.mapM_eq_mapM_toList]
  simp only [Sem.run_bind, Sem.run_map, key h, Result.andThen_ok, Sem.run_pure]
  match vs with
  | [] => rfl
  | [v] => rfl
  | u :: v :: vs => rfl
/-- What a slot gives as a result, before labels turn. -/
def Gives (lab : Lab) (w : World) (n : Nat) (o : Bool) (t : Ty) (x : t.T) (v : Value) : Prop :=
  (∃ d, t.cloD x = some d ∧ RepV w (Fz lab w) d v) ∨ t.cloD x = none ∧ ((RepV w (Fz lab w) (.dat t x) v ∧ (o = true → t.lv = 0)) ∨ ∃ cs, v = t.mk cs ∧ Own w (Fz lab w) (Lb lab n 0) 0 t x cs)
theorem capsAre_is : ∀ {c : Ty} {x : c.T} {d : D}, capsAre c x d → d = refsD c x
  | .prod a b, x, .cn (.ref (.dat u y)) ds, h => by
    simp only [capsAre] at h
    obtain ⟨h1, h2⟩ := h
    split at h1
    · rename_i e; subst e
      simp only [castT] at h1
      subst h1
      rw [refsD, ← capsAre_is h2]
    · exact h1.elim
  | .unit, x, .nl, _ => rfl
  | .prod a b, x, .nl, h => by simp [capsAre] at h
  | .prod a b, x, .dat _ _, h => by simp [capsAre] at h
  | .prod a b, x, .clo _ _, h => by simp [capsAre] at h
  | .prod a b, x, .bnd _ _, h => by simp [capsAre] at h
  | .prod a b, x, .ref _, h => by simp [capsAre] at h
  | .prod a b, x, .cn .nl _, h => by simp [capsAre] at h
  | .prod a b, x, .cn (.dat _ _) _, h => by simp [capsAre] at h
  | .prod a b, x, .cn (.clo _ _) _, h => by simp [capsAre] at h
  | .prod a b, x, .cn (.bnd _ _) _, h => by simp [capsAre] at h
  | .prod a b, x, .cn (.cn _ _) _, h => by simp [capsAre] at h
  | .prod a b, x, .cn (.ref .nl) _, h => by simp [capsAre] at h
  | .prod a b, x, .cn (.ref (.clo _ _)) _, h => by simp [capsAre] at h
  | .prod a b, x, .cn (.ref (.bnd _ _)) _, h => by simp [capsAre] at h
  | .prod a b, x, .cn (.ref (.ref _)) _, h => by simp [capsAre] at h
  | .prod a b, x, .cn (.ref (.cn _ _)) _, h => by simp [capsAre] at h
  | .unit, x, .dat _ _, h => by simp [capsAre] at h
  | .unit, x, .clo _ _, h => by simp [capsAre] at h
  | .unit, x, .bnd _ _, h => by simp [capsAre] at h
  | .unit, x, .ref _, h => by simp [capsAre] at h
  | .unit, x, .cn _ _, h => by simp [capsAre] at h
  | .int _, x, d, h => by simp [capsAre] at h
  | .bool, x, d, h => by simp [capsAre] at h
  | .str, x, d, h => by simp [capsAre] at h
  | .slice _ _, x, d, h => by simp [capsAre] at h
  | .arr _ _, x, d, h => by simp [capsAre] at h
  | .map _ _, x, d, h => by simp [capsAre] at h
  | .fn _ _, x, d, h => by simp [capsAre] at h
theorem cloIs_is {t : Ty} {x : t.T} {f : Nat} {d : D} (h : cloIs t x f d) : t.cloD x = some (.clo f d) := by
  cases t with
  | fn f' c =>
    simp only [cloIs] at h
    split at h
    · rename_i e
      subst e
      rw [capsAre_is h]; rfl
    · exact h.elim
  | _ => exact h.elim
theorem noFn {t : Ty} {x : t.T} (h : t.isFn = false) : t.cloD x = none := by
  cases t with
  | fn f c => simp [Ty.isFn] at h
  | _ => rfl
theorem resIs_gives (h : Sim w0 K lab σ a w) (hT : TyOk P Γ) {o : Bool} {t : Ty} {x : t.T} {rv : ResultVar} (hr : resIs Γ σ o t x rv) : ∃ v, RV P w a.tmps rv v ∧ Gives lab w (rvSlot rv) o t x v := by
  cases rv with
  | tmp n =>
    have hn := h.slots n
    simp only [resIs] at hr
    generalize σ.getD n .dead = s at hr hn
    split at hr
    · rename_i u y
      split at hr
      · rename_i e; subst e
        split at hr
        · exact hr.elim
        · rename_i hc
          simp only [castT] at hr
          subst hr
          simp only [Bool.or_eq_true, not_or, Bool.not_eq_true] at hc
          exact ⟨_, rfl, .inr ⟨noFn hc.2, .inl ⟨hn, fun ho => by subst ho; simpa using hc.1⟩⟩⟩
      · exact hr.elim
    · rename_i u y
      split at hr
      · rename_i e; subst e
        split at hr
        · exact hr.elim
        · rename_i hc
          simp only [castT] at hr
          subst hr
          obtain ⟨cs, h1, h2⟩ := hn
          exact ⟨_, rfl, .inr ⟨noFn (by simpa using hc), .inr ⟨cs, h1, h2⟩⟩⟩
      · exact hr.elim
    · exact ⟨_, rfl, .inl ⟨_, cloIs_is hr, hn⟩⟩
    · exact hr.elim
  | cell n T =>
    have hn := h.slots n
    simp only [resIs] at hr
    generalize σ.getD n .dead = s at hr hn
    split at hr
    · rename_i u y
      split at hr
      · rename_i e; subst e
        split at hr
        · rename_i hty
          split at hr
          · exact hr.elim
          · rename_i hc
            simp only [castT] at hr
            subst hr
            obtain ⟨g, ty, cs, h1, h2, h3, h4⟩ := hn
            have h4' : Imm w (Fz lab w) u y cs := h4
            exact ⟨u.mk cs, ⟨_, h1, run_loadT hT hty (fun j v hv => by rw [Nat.zero_add, cell_of_row w g j cs.toArray ty (0, 0) h3]; simpa using hv) h4'.len⟩, .inr ⟨noFn (by simp only [Bool.or_eq_true, not_or, Bool.not_eq_true] at hc; exact hc.2), .inl ⟨⟨cs, h4, rfl⟩, fun ho => by subst ho; simp only [Bool.or_eq_true, not_or, Bool.not_eq_true] at hc; simpa using hc.1⟩⟩⟩
        · exact hr.elim
      · exact hr.elim
    · rename_i u y
      split at hr
      · rename_i e; subst e
        split at hr
        · rename_i hty
          split at hr
          · exact hr.elim
          · rename_i hc
            simp only [castT] at hr
            subst hr
            obtain ⟨g, ty, cs, h1, h2, h3, h4⟩ := hn
            exact ⟨u.mk cs, ⟨_, h1, run_loadT hT hty (fun j v hv => by rw [Nat.zero_add, cell_of_row w g j cs.toArray ty (0, 0) h3]; simpa using hv) h4.len⟩, .inr ⟨noFn (by simpa using hc), .inr ⟨cs, rfl, h4⟩⟩⟩
        · exact hr.elim
      · exact hr.elim
    · exact hr.elim
def ownerIx (M : Nat) : Nat → List (Nat × Bool) → Option Nat
  | _, [] => none
  | k, (n, o) :: r => if n = M then (if o then some k else none) else ownerIx M (k + 1) r
/-- Labels at a return; one: is there one result alone? -/
def retL (one : Bool) (rs : List (Nat × Bool)) (lab : Lab) : Lab := fun g =>
  match lab g with
  | none => none
  | some (M, k, m) => if M = D0 then some (M, k, m) else
    match k, m, ownerIx M 0 rs with
    | 0, m + 1, some j => some (0, if one then 0 else j + 1, m + 1)
    | _, _, _ => none
theorem ownerIx_at : ∀ {rs : List (Nat × Bool)} {i k M : Nat} {o : Bool}, nodupB (rs.map (·.1)) = true → rs[k]? = some (M, o) → ownerIx M i rs = if o then some (i + k) else none
  | [], _, _, _, _, _, h => by simp at h
  | (n, o') :: rs, i, 0, M, o, hn, h => by
    simp only [List.getElem?_cons_zero, Option.some.injEq, Prod.mk.injEq] at h
    obtain ⟨rfl, rfl⟩ := h
    simp [ownerIx]
  | (n, o') :: rs, i, k + 1, M, o, hn, h => by
    simp only [List.map_cons, nodupB, Bool.and_eq_true, Bool.not_eq_true'] at hn
    have hne : n ≠ M := by
      rintro rfl
      have : n ∈ rs.map (·.1) := List.mem_map.2 ⟨(n, o), List.mem_of_getElem? (by simpa using h), rfl⟩
      have h2 := hn.1
      simp only [List.contains_eq_mem, decide_eq_false_iff_not] at h2
      exact h2 this
    simp only [ownerIx]
    rw [if_neg hne, ownerIx_at hn.2 (by simpa using h), show i + 1 + k = i + (k + 1) by omega]
theorem gives_comp {one : Bool} {rs : List (Nat × Bool)} (hn : nodupB (rs.map (·.1)) = true) {k n : Nat} {o : Bool} (hk : rs[k]? = some (n, o)) (hD : n ≠ D0) (hlt : ∀ g p, lab g = some p → g < w.heap.size) {t : Ty} {x : t.T} {v : Value} (h : Gives lab w n o t x v) :
    CompOk (retL one rs lab) w 0 (if one then 0 else k + 1) (compOf o t x) v := by
  have hown := ownerIx_at (i := 0) hn hk
  rw [Nat.zero_add] at hown
  have fz : ∀ g, Fz lab w g → Fz (retL one rs lab) w g := fun g hg => ⟨by unfold retL; rw [hg.1], hg.2⟩
  rcases h with ⟨d, hd, h⟩ | ⟨hd, h⟩
  · unfold compOf; rw [hd]
    exact h.keep fun g hg => ⟨fz g hg, rfl⟩
  cases o with
  | true =>
    have lb : ∀ i g, Lb lab n 0 i g → Lb (retL one rs lab) 0 (if one then 0 else k + 1) i g := fun i g hg => by
      have hg' : lab g = some (n, 0, i + 1) := hg
      unfold Lb retL
      rw [hg']
      simp only [hD, if_false, hown, if_true]
    simp only [compOf, hd, if_true]
    rcases h with ⟨⟨cs, h1, h2⟩, h3⟩ | ⟨cs, h1, h2⟩
    · exact ⟨cs, h2, Own.of_imm (h3 rfl) (Imm.keep (fun g hg => ⟨fz g hg, rfl⟩) h1)⟩
    · exact ⟨cs, h1, h2.keep (fun g hg => ⟨fz g hg, rfl⟩) (fun i g hg => ⟨lb i g hg, rfl⟩)⟩
  | false =>
    simp only [compOf, hd, Bool.false_eq_true, if_false]
    rcases h with ⟨h1, _⟩ | ⟨cs, h1, h2⟩
    · exact h1.keep fun g hg => ⟨fz g hg, rfl⟩
    · refine ⟨cs, h2.imm fz fun i g hg => ⟨?_, hlt _ _ hg⟩, h1⟩
      have hg' : lab g = some (n, 0, i + 1) := hg
      unfold retL
      rw [hg']
      simp only [hD, if_false, hown, Bool.false_eq_true]
theorem allRes_gives (h : Sim w0 K lab σ a w) (hT : TyOk P Γ) : ∀ {l : List (Bool × Ty)} {r : RTup l} {rvs : List ResultVar}, allRes Γ σ l r rvs → ∃ vs : List Value, Al2 (fun rv v => RV P w a.tmps rv v) rvs vs ∧ l.length = rvs.length ∧
    ∀ (k : Nat) (c : Comp) (u : Value), (compsOf l r)[k]? = some c → vs[k]? = some u → ∃ (rv : ResultVar) (o : Bool) (t : Ty) (x : t.T), rvs[k]? = some rv ∧ (l.map (·.1))[k]? = some o ∧ c = compOf o t x ∧ Gives lab w (rvSlot rv) o t x u
  | [], r, [], _ => ⟨[], .nil, rfl, fun k c u hc => by simp [compsOf] at hc⟩
  | [(o, t)], x, [rv], hr => by
    obtain ⟨v, h1, h2⟩ := resIs_gives h hT (show resIs Γ σ o t x rv from hr)
    refine ⟨[v], .cons h1 .nil, rfl, fun k c u hc hu => ?_⟩
    cases k with
    | zero =>
      simp only [compsOf, List.getElem?_cons_zero, Option.some.injEq] at hc hu
      subst hc hu
      exact ⟨rv, o, t, x, rfl, rfl, rfl, h2⟩
    | succ k => simp at hu
  | (o, t) :: b :: l, x, rv :: rvs, hr => by
    obtain ⟨hr1, hr2⟩ := hr
    obtain ⟨v, h1, h2⟩ := resIs_gives h hT hr1
    obtain ⟨vs, h3, h4, h5⟩ := allRes_gives h hT (l := b :: l) (r := x.2) hr2
    refine ⟨v :: vs, .cons h1 h3, by simp at h4 ⊢; exact h4, fun k c u hc hu => ?_⟩
    cases k with
    | zero =>
      simp only [compsOf, List.getElem?_cons_zero, Option.some.injEq] at hc hu
      subst hc hu
      exact ⟨rv, o, t, x.1, rfl, rfl, rfl, h2⟩
    | succ k =>
      obtain ⟨rv', o', t', x', q1, q2, q3, q4⟩ := h5 k c u (by simpa [compsOf] using hc) (by simpa using hu)
      exact ⟨rv', o', t', x', by simpa using q1, by simpa using q2, q3, q4⟩
  | [], _, _ :: _, hr => hr.elim
  | [(_, _)], _, [], hr => hr.elim
  | [(_, _)], _, _ :: _ :: _, hr => hr.elim
  | (_, _) :: _ :: _, _, [], hr => hr.elim
end
end Go.Proofs.Ytmjijggkdbiijaa
/- A function: its condition makes a contract; the proof. No statement is proved here. -/
namespace Go.Proofs.Ytmjijggkdbiijaa
open Go.RowKit
set_option linter.unusedVariables false
set_option linter.unusedSimpArgs false
theorem allP_flatMap {α : Type} {f : α → List Prop} : ∀ {l : List α}, (∀ x ∈ l, allP (f x)) → allP (l.flatMap f)
  | [], _ => trivial
  | x :: l, h => allP_append.2 ⟨h x (by simp), allP_flatMap fun y hy => h y (by simp [hy])⟩
theorem ArgOk.ok {lab : Lab} {w : World} {j : Nat} {a : Arg} {v : Value} (h : ArgOk lab w j a v) : allP a.fact := by
  cases a with
  | imm d => obtain ⟨cs, h1, _⟩ := h; exact D.fact_of_ok h1.ok
  | own t x => obtain ⟨cs, _, h1⟩ := h; exact Ty.fact_of_ok h1.ok
  | sem A => trivial
theorem compsOf_len : ∀ {l : List (Bool × Ty)} {r : RTup l}, (compsOf l r).length = l.length
  | [], _ => rfl
  | [(b, t)], _ => rfl
  | (b, t) :: b' :: l, x => by simp [compsOf, compsOf_len (l := b' :: l) (r := x.2)]
theorem resOk_of {lab : Lab} {w : World} {cs : List Comp} {us : List Value} (hl : us.length = cs.length) (h : ∀ k c u, cs[k]? = some c → us[k]? = some u → CompOk lab w 0 (if (cs.length == 1) then 0 else k + 1) c u) : ResOk lab w 0 cs (if us.length = 1 then us.getD 0 undef else .tuple us.toArray) := by
  match cs, us, hl, h with
  | [], [], _, _ => exact ⟨[], rfl, rfl, fun k c u hc => by simp at hc⟩
  | [c], [u], _, h => exact h 0 c u rfl rfl
  | c0 :: c1 :: cs, u0 :: u1 :: us, hl, h =>
    refine ⟨u0 :: u1 :: us, rfl, hl, fun k c u hc hu => ?_⟩
    have := h k c u hc hu
    simpa using this
/-- The rule of functions. -/
theorem ev_of {P : Program} {Γ : Ctx} (hT : TyOk P Γ) (hm : P.follows .mixedOrders = true) {f : Nat} {fn : Func} (hf : P.funcs[f]? = some fn) (hname : (fn.name == "runtime.NumGoroutine") = false) {args : List Arg} (hargs : args.length ≤ fn.ntmps) {l : List (Bool × Ty)} {r : RTup l} (hV : fnV P Γ fn args l r) : Ev P f args (compsOf l r) := by
  unfold fnV at hV
  split at hV
  · rename_i c hb
    have hname' : ¬ fn.name = "runtime.NumGoroutine" := by simpa using hname
    refine ⟨fun vs w => by simp [callFunc, hf, hname', hb], fun w lab vs hlt hlen hok => ?_⟩
    have hfact : allP (args.flatMap Arg.fact) := allP_flatMap fun x hx => by
      obtain ⟨j, hj, rfl⟩ := List.getElem_of_mem hx
      exact (hok j _ _ (List.getElem?_eq_getElem hj) (List.getElem?_eq_getElem (by omega))).ok
    have hV := impL_elim hV hfact
    split at hV
    · rename_i hnd
      simp only [nodupB, Bool.and_eq_true, Bool.not_eq_true'] at hnd
      obtain ⟨hD0, hnd⟩ := hnd
      -- the start
      have hst : ∀ N, (start fn args).getD N .dead = match args[N]? with | some x => x.slot | none => .dead := by
        intro N
        unfold start
        rw [List.getD_eq_getElem?_getD]
        rcases Nat.lt_or_ge N args.length with hN | hN
        · rw [List.getElem?_append_left (by simpa using hN), List.getElem?_map, List.getElem?_eq_getElem hN]; rfl
        · rw [List.getElem?_append_right (by simpa using hN), List.getElem?_eq_none hN]
          by_cases hl : N - (args.map Arg.slot).length < fn.ntmps - args.length
          · rw [List.getElem?_replicate, if_pos hl]; rfl
          · rw [List.getElem?_replicate, if_neg hl]; rfl
      have htm : ∀ N, N < vs.length → (vs.toArray ++ Array.replicate (fn.ntmps - vs.toArray.size) undef).getD N undef = vs.getD N undef := by
        intro N hN
        have : (vs.toArray ++ Array.replicate (fn.ntmps - vs.toArray.size) undef)[N]? = vs[N]? := by
          rw [Array.getElem?_append_left (by simpa using hN)]; simp
        rw [Array.getD_eq_getD_getElem?, List.getD_eq_getElem?_getD, this]
      have hR : Rz (start fn args) := fun N hN => by
        rw [hst] at hN
        exfalso
        split at hN
        · rename_i x _; cases x <;> exact hN rfl
        · exact hN rfl
      have hsim : Sim w (fun g => g < w.heap.size ∧ lab g = none) lab (start fn args) { tmps := vs.toArray ++ Array.replicate (fn.ntmps - vs.toArray.size) undef, defers := [] } w := by
        refine ⟨by simp [start]; omega, rfl, fun N => ?_, hlt, fun g p hg hk => (by rw [hk.2] at hg; cases hg), fun g hg => hg.1, Fr.refl _ _⟩
        rw [hst]
        split
        · rename_i x hx
          have hN : N < args.length := by
            rcases Nat.lt_or_ge N args.length with q | q
            · exact q
            · rw [List.getElem?_eq_none q] at hx; cases hx
          have hN' : N < vs.length := by omega
          have := hok N x vs[N] hx (List.getElem?_eq_getElem hN')
          have hv : (vs.toArray ++ Array.replicate (fn.ntmps - vs.toArray.size) undef).getD N undef = vs[N] := by
            rw [htm N hN']; simp [List.getD_eq_getElem?_getD, hN']
          simp only
          rw [hv]
          cases x with
          | imm d => exact this
          | own t y => exact this
          | sem A => exact this
        · trivial
      have hwp := wpc_sound (K := fun g => g < w.heap.size ∧ lab g = none) (D := Cod.dsts c) hT hm c (fun _ hn => hn) (by simp) hsim hR hV
      refine calls_of_wp hf hb (wp_mono hwp ?_)
      -- a return
      have fin : ∀ (a' : Act) (w' : World) (σ' : List Slot) (lab' : Lab), allRes Γ σ' l r fn.results.toList → Sim w (fun g => g < w.heap.size ∧ lab g = none) lab' σ' a' w' → σ'.length = (start fn args).length → KD lab lab' w w' →
          a'.defers = [] ∧ ∃ v, (results fn a'.tmps).run P w' = .ok v w' ∧ ∃ v' lab', Ending.returned v = .returned v' ∧ Fr w (fun g => g < w.heap.size ∧ (lab g = none ∨ ∃ k m, lab g = some (D0, k, m))) w' ∧ (∀ g, g < w.heap.size → lab g = none → lab' g = none) ∧ (∀ g k m, lab g = some (D0, k, m) → lab' g = some (D0, k, m)) ∧
            (∀ g p, lab' g = some p → g < w'.heap.size) ∧ ResOk lab' w' 0 (compsOf l r) v' := by
        intro a' w' σ' lab' hres h' hlen' hKD
        obtain ⟨us, g1, g2, g3⟩ := allRes_gives h' hT hres
        refine ⟨h'.nd, _, results_run g1, _, retL (fn.results.toList.length == 1) ((fn.results.toList.map rvSlot).zip (l.map (·.1))) lab', rfl, ?_, ?_, ?_, ?_, ?_⟩
        · refine ⟨h'.fr.os, h'.fr.tape, h'.fr.output, h'.fr.size, fun g hg => ?_⟩
          rcases hg.2 with q | ⟨k, m, q⟩
          · exact h'.fr.keep g ⟨hg.1, q⟩
          · exact (hKD g k m q).2
        · intro g hg hn
          cases hl : lab' g with
          | none => unfold retL; rw [hl]
          | some p => exact absurd ⟨hg, hn⟩ (h'.kl g p hl)
        · intro g k m hg
          have := (hKD g k m hg).1
          unfold retL; rw [this]; simp
        · intro g p hg
          cases hl : lab' g with
          | none => unfold retL at hg; rw [hl] at hg; cases hg
          | some q => exact h'.lt g q hl
        · have hzl : ((fn.results.toList.map rvSlot).zip (l.map (·.1))).map (·.1) = fn.results.toList.map rvSlot := by
            rw [List.map_fst_zip]; simp [g2]
          have hcomp : ∀ k c u, (compsOf l r)[k]? = some c → us[k]? = some u → CompOk (retL (fn.results.toList.length == 1) ((fn.results.toList.map rvSlot).zip (l.map (·.1))) lab') w' 0 (if (fn.results.toList.length == 1) then 0 else k + 1) c u := by
            intro k c u hc hu
            obtain ⟨rv, o, t, x, q1, q2, rfl, q4⟩ := g3 k c u hc hu
            have hz : ((fn.results.toList.map rvSlot).zip (l.map (·.1)))[k]? = some (rvSlot rv, o) := by
              rw [List.getElem?_zip_eq_some]; exact ⟨by rw [List.getElem?_map, q1]; rfl, q2⟩
            have hD : rvSlot rv ≠ D0 := fun e => by
              have : D0 ∈ fn.results.toList.map rvSlot := List.mem_map.2 ⟨rv, List.mem_of_getElem? q1, e⟩
              simp only [List.contains_eq_mem, decide_eq_false_iff_not] at hD0
              exact hD0 this
            exact gives_comp (by rw [hzl]; exact hnd) hz hD h'.lt q4
          have hl2 : fn.results.toList.length = (compsOf l r).length := by rw [compsOf_len, g2]
          refine resOk_of (by rw [← hl2]; exact g1.len.symm) fun k c u hc hu => ?_
          have := hcomp k c u hc hu
          rw [hl2] at this ⊢
          exact this
      rintro e a' w' ⟨σ', lab', q1, q2, q3, q4, q5, q6, _⟩
      cases e with
      | normal => exact fin a' w' σ' lab' q1 q2 q5 q6
      | ret => exact fin a' w' σ' lab' q1 q2 q5 q6
      | _ => exact q1.elim
    · cases hV
  · cases hV
/-- Labels at a return that gives slot 0's content back. -/
def retB (one : Bool) (rs : List (Nat × Bool)) (lab : Lab) : Lab := fun g =>
  match lab g with
  | none => none
  | some (M, k, m) => if M = 0 then (if k = 0 then some (B0, 0, m) else none) else retL one rs lab g
theorem gives_compB {lab : Lab} {w : World} {one : Bool} {rs : List (Nat × Bool)} (hn : nodupB (rs.map (·.1)) = true) {k n : Nat} {o : Bool} (hk : rs[k]? = some (n, o)) (hD : n ≠ D0) (h0 : n ≠ 0) (hlt : ∀ g p, lab g = some p → g < w.heap.size) {t : Ty} {x : t.T} {v : Value} (h : Gives lab w n o t x v) :
    CompOk (retB one rs lab) w 0 (if one then 0 else k + 1) (compOf o t x) v := by
  have hown := ownerIx_at (i := 0) hn hk
  rw [Nat.zero_add] at hown
  have fz : ∀ g, Fz lab w g → Fz (retB one rs lab) w g := fun g hg => ⟨by unfold retB; rw [hg.1], hg.2⟩
  rcases h with ⟨d, hd, h⟩ | ⟨hd, h⟩
  · unfold compOf; rw [hd]
    exact h.keep fun g hg => ⟨fz g hg, rfl⟩
  cases o with
  | true =>
    have lb : ∀ i g, Lb lab n 0 i g → Lb (retB one rs lab) 0 (if one then 0 else k + 1) i g := fun i g hg => by
      have hg' : lab g = some (n, 0, i + 1) := hg
      unfold Lb retB
      rw [hg']
      simp only [h0, if_false]
      unfold retL
      rw [hg']
      simp only [hD, if_false, hown, if_true]
    simp only [compOf, hd, if_true]
    rcases h with ⟨⟨cs, h1, h2⟩, h3⟩ | ⟨cs, h1, h2⟩
    · exact ⟨cs, h2, Own.of_imm (h3 rfl) (Imm.keep (fun g hg => ⟨fz g hg, rfl⟩) h1)⟩
    · exact ⟨cs, h1, h2.keep (fun g hg => ⟨fz g hg, rfl⟩) (fun i g hg => ⟨lb i g hg, rfl⟩)⟩
  | false =>
    simp only [compOf, hd, Bool.false_eq_true, if_false]
    rcases h with ⟨h1, _⟩ | ⟨cs, h1, h2⟩
    · exact h1.keep fun g hg => ⟨fz g hg, rfl⟩
    · refine ⟨cs, h2.imm fz fun i g hg => ⟨?_, hlt _ _ hg⟩, h1⟩
      have hg' : lab g = some (n, 0, i + 1) := hg
      unfold retB
      rw [hg']
      simp only [h0, if_false]
      unfold retL
      rw [hg']
      simp only [hD, if_false, hown, Bool.false_eq_true]
/-- The rule of functions that give back. -/
theorem evB_of {P : Program} {Γ : Ctx} (hT : TyOk P Γ) (hm : P.follows .mixedOrders = true) {f : Nat} {fn : Func} (hf : P.funcs[f]? = some fn) (hname : (fn.name == "runtime.NumGoroutine") = false) {t0 : Ty} {x0 y0 : t0.T} {args0 : List Arg} (hargs0 : (Arg.own t0 x0 :: args0).length ≤ fn.ntmps) {l : List (Bool × Ty)} {r : RTup l} (hV : fnVB P Γ fn t0 x0 args0 l r y0) : EvB P f t0 x0 args0 (compsOf l r) y0 := by
  obtain ⟨args, hargsE⟩ : ∃ args, args = Arg.own t0 x0 :: args0 := ⟨_, rfl⟩
  unfold fnVB at hV
  rw [← hargsE] at hV hargs0
  split at hV
  · rename_i c hb
    have hname' : ¬ fn.name = "runtime.NumGoroutine" := by simpa using hname
    refine ⟨fun vs w => by simp [callFunc, hf, hname', hb], fun w lab v0 vs0 hlt hlen0 hok0 => ?_⟩
    obtain ⟨vs, hvsE⟩ : ∃ vs, vs = v0 :: vs0 := ⟨_, rfl⟩
    have hlen : vs.length = args.length := by rw [hvsE, hargsE]; simp [hlen0]
    have hok : ∀ j a v, args[j]? = some a → vs[j]? = some v → ArgOk lab w j a v := by rw [hargsE, hvsE]; exact hok0
    have hargs := hargs0
    rw [← hvsE]
    have hfact : allP (args.flatMap Arg.fact) := allP_flatMap fun x hx => by
      obtain ⟨j, hj, rfl⟩ := List.getElem_of_mem hx
      exact (hok j _ _ (List.getElem?_eq_getElem hj) (List.getElem?_eq_getElem (by omega))).ok
    have hV := impL_elim hV hfact
    split at hV
    · rename_i hnd
      simp only [nodupB, Bool.and_eq_true, Bool.not_eq_true', List.contains_cons, Bool.or_eq_false_iff] at hnd
      obtain ⟨⟨⟨_, _, hD0⟩, ⟨_, hB0⟩, h00, hnd⟩, hfix⟩ := hnd
      -- the start
      have hst : ∀ N, (start fn args).getD N .dead = match args[N]? with | some x => x.slot | none => .dead := by
        intro N
        unfold start
        rw [List.getD_eq_getElem?_getD]
        rcases Nat.lt_or_ge N args.length with hN | hN
        · rw [List.getElem?_append_left (by simpa using hN), List.getElem?_map, List.getElem?_eq_getElem hN]; rfl
        · rw [List.getElem?_append_right (by simpa using hN), List.getElem?_eq_none hN]
          by_cases hl : N - (args.map Arg.slot).length < fn.ntmps - args.length
          · rw [List.getElem?_replicate, if_pos hl]; rfl
          · rw [List.getElem?_replicate, if_neg hl]; rfl
      have htm : ∀ N, N < vs.length → (vs.toArray ++ Array.replicate (fn.ntmps - vs.toArray.size) undef).getD N undef = vs.getD N undef := by
        intro N hN
        have : (vs.toArray ++ Array.replicate (fn.ntmps - vs.toArray.size) undef)[N]? = vs[N]? := by
          rw [Array.getElem?_append_left (by simpa using hN)]; simp
        rw [Array.getD_eq_getD_getElem?, List.getD_eq_getElem?_getD, this]
      have hR : Rz (start fn args) := fun N hN => by
        rw [hst] at hN
        exfalso
        split at hN
        · rename_i x _; cases x <;> exact hN rfl
        · exact hN rfl
      have hsim : Sim w (fun g => g < w.heap.size ∧ lab g = none) lab (start fn args) { tmps := vs.toArray ++ Array.replicate (fn.ntmps - vs.toArray.size) undef, defers := [] } w := by
        refine ⟨by simp [start]; omega, rfl, fun N => ?_, hlt, fun g p hg hk => (by rw [hk.2] at hg; cases hg), fun g hg => hg.1, Fr.refl _ _⟩
        rw [hst]
        split
        · rename_i x hx
          have hN : N < args.length := by
            rcases Nat.lt_or_ge N args.length with q | q
            · exact q
            · rw [List.getElem?_eq_none q] at hx; cases hx
          have hN' : N < vs.length := by omega
          have := hok N x vs[N] hx (List.getElem?_eq_getElem hN')
          have hv : (vs.toArray ++ Array.replicate (fn.ntmps - vs.toArray.size) undef).getD N undef = vs[N] := by
            rw [htm N hN']; simp [List.getD_eq_getElem?_getD, hN']
          simp only
          rw [hv]
          cases x with
          | imm d => exact this
          | own t y => exact this
          | sem A => exact this
        · trivial
      have hwp := wpc_sound (K := fun g => g < w.heap.size ∧ lab g = none) (D := Cod.dsts c) hT hm c (fun _ hn => hn) (by simp) hsim hR hV
      refine calls_of_wp hf hb (wp_mono hwp ?_)
      -- a return
      have fin : ∀ (a' : Act) (w' : World) (σ' : List Slot) (lab' : Lab), allRes Γ σ' l r fn.results.toList ∧ backIs σ' t0 y0 → Sim w (fun g => g < w.heap.size ∧ lab g = none) lab' σ' a' w' → σ'.length = (start fn args).length → KD lab lab' w w' → a'.tmps.getD 0 undef = v0 →
          a'.defers = [] ∧ ∃ v, (results fn a'.tmps).run P w' = .ok v w' ∧ ∃ v' lab', Ending.returned v = .returned v' ∧ Fr w (fun g => g < w.heap.size ∧ (lab g = none ∨ ∃ k m, lab g = some (D0, k, m))) w' ∧ (∀ g, g < w.heap.size → lab g = none → lab' g = none) ∧ (∀ g k m, lab g = some (D0, k, m) → lab' g = some (D0, k, m)) ∧
            (∀ g p, lab' g = some p → g < w'.heap.size) ∧ ResOk lab' w' 0 (compsOf l r) v' ∧ ∃ cs, v0 = t0.mk cs ∧ Own w' (Fz lab' w') (Lb lab' B0 0) 0 t0 y0 cs := by
        rintro a' w' σ' lab' ⟨hres, hback⟩ h' hlen' hKD hv0
        obtain ⟨us, g1, g2, g3⟩ := allRes_gives h' hT hres
        refine ⟨h'.nd, _, results_run g1, _, retB (fn.results.toList.length == 1) ((fn.results.toList.map rvSlot).zip (l.map (·.1))) lab', rfl, ?_, ?_, ?_, ?_, ?_, ?_⟩
        · refine ⟨h'.fr.os, h'.fr.tape, h'.fr.output, h'.fr.size, fun g hg => ?_⟩
          rcases hg.2 with q | ⟨k, m, q⟩
          · exact h'.fr.keep g ⟨hg.1, q⟩
          · exact (hKD g k m q).2
        · intro g hg hn
          cases hl : lab' g with
          | none => unfold retB; rw [hl]
          | some p => exact absurd ⟨hg, hn⟩ (h'.kl g p hl)
        · intro g k m hg
          have := (hKD g k m hg).1
          unfold retB; rw [this]; simp only [show D0 ≠ 0 by decide, if_false]; unfold retL; rw [this]; simp
        · intro g p hg
          cases hl : lab' g with
          | none => unfold retB at hg; rw [hl] at hg; cases hg
          | some q => exact h'.lt g q hl
        · have hzl : ((fn.results.toList.map rvSlot).zip (l.map (·.1))).map (·.1) = fn.results.toList.map rvSlot := by
            rw [List.map_fst_zip]; simp [g2]
          have hcomp : ∀ k c u, (compsOf l r)[k]? = some c → us[k]? = some u → CompOk (retB (fn.results.toList.length == 1) ((fn.results.toList.map rvSlot).zip (l.map (·.1))) lab') w' 0 (if (fn.results.toList.length == 1) then 0 else k + 1) c u := by
            intro k c u hc hu
            obtain ⟨rv, o, t, x, q1, q2, rfl, q4⟩ := g3 k c u hc hu
            have hz : ((fn.results.toList.map rvSlot).zip (l.map (·.1)))[k]? = some (rvSlot rv, o) := by
              rw [List.getElem?_zip_eq_some]; exact ⟨by rw [List.getElem?_map, q1]; rfl, q2⟩
            have hD : rvSlot rv ≠ D0 := fun e => by
              have : D0 ∈ fn.results.toList.map rvSlot := List.mem_map.2 ⟨rv, List.mem_of_getElem? q1, e⟩
              simp only [List.contains_eq_mem, decide_eq_false_iff_not] at hD0
              exact hD0 this
            have h0 : rvSlot rv ≠ 0 := fun e => by
              have : 0 ∈ fn.results.toList.map rvSlot := List.mem_map.2 ⟨rv, List.mem_of_getElem? q1, e⟩
              simp only [List.contains_eq_mem, decide_eq_false_iff_not] at h00
              exact h00 this
            exact gives_compB (by rw [hzl]; exact hnd) hz hD h0 h'.lt q4
          have hl2 : fn.results.toList.length = (compsOf l r).length := by rw [compsOf_len, g2]
          refine resOk_of (by rw [← hl2]; exact g1.len.symm) fun k c u hc hu => ?_
          have := hcomp k c u hc hu
          rw [hl2] at this ⊢
          exact this
        · have h0 := h'.slots 0
          unfold backIs at hback
          generalize σ'.getD 0 .dead = s0 at h0 hback
          split at hback
          · rename_i u z
            split at hback
            · rename_i e; subst e
              simp only [castT] at hback
              subst hback
              obtain ⟨cs, e1, e2⟩ := h0
              rw [hv0] at e1
              refine ⟨cs, e1, e2.keep (fun g hg => ⟨⟨by unfold retB; rw [hg.1], hg.2⟩, rfl⟩) (fun i g hg => ⟨?_, rfl⟩)⟩
              have hg' : lab' g = some (0, 0, i + 1) := hg
              unfold Lb retB
              rw [hg']
              simp
            · exact hback.elim
          · exact hback.elim
      rintro e a' w' ⟨σ', lab', q1, q2, q3, q4, q5, q6, q7⟩
      have hv0 : a'.tmps.getD 0 undef = v0 := by
        rw [q7 0 (by simpa using hfix), htm 0 (by rw [hvsE]; simp), hvsE]; rfl
      cases e with
      | normal => exact fin a' w' σ' lab' q1 q2 q5 q6 hv0
      | ret => exact fin a' w' σ' lab' q1 q2 q5 q6 hv0
      | _ => exact q1.elim
    · cases hV
  · cases hV
/-- Labels at a return that gives slot b's content back. -/
def retN (b : Nat) (one : Bool) (rs : List (Nat × Bool)) (lab : Lab) : Lab := fun g =>
  match lab g with
  | none => none
  | some (M, k, m) => if M = b then (if k = 0 then some (B0, 0, m) else none) else retL one rs lab g
theorem gives_compN {b : Nat} {lab : Lab} {w : World} {one : Bool} {rs : List (Nat × Bool)} (hn : nodupB (rs.map (·.1)) = true) {k n : Nat} {o : Bool} (hk : rs[k]? = some (n, o)) (hD : n ≠ D0) (h0 : n ≠ b) (hlt : ∀ g p, lab g = some p → g < w.heap.size) {t : Ty} {x : t.T} {v : Value} (h : Gives lab w n o t x v) :
    CompOk (retN b one rs lab) w 0 (if one then 0 else k + 1) (compOf o t x) v := by
  have hown := ownerIx_at (i := 0) hn hk
  rw [Nat.zero_add] at hown
  have fz : ∀ g, Fz lab w g → Fz (retN b one rs lab) w g := fun g hg => ⟨by unfold retN; rw [hg.1], hg.2⟩
  rcases h with ⟨d, hd, h⟩ | ⟨hd, h⟩
  · unfold compOf; rw [hd]
    exact h.keep fun g hg => ⟨fz g hg, rfl⟩
  cases o with
  | true =>
    have lb : ∀ i g, Lb lab n 0 i g → Lb (retN b one rs lab) 0 (if one then 0 else k + 1) i g := fun i g hg => by
      have hg' : lab g = some (n, 0, i + 1) := hg
      unfold Lb retN
      rw [hg']
      simp only [h0, if_false]
      unfold retL
      rw [hg']
      simp only [hD, if_false, hown, if_true]
    simp only [compOf, hd, if_true]
    rcases h with ⟨⟨cs, h1, h2⟩, h3⟩ | ⟨cs, h1, h2⟩
    · exact ⟨cs, h2, Own.of_imm (h3 rfl) (Imm.keep (fun g hg => ⟨fz g hg, rfl⟩) h1)⟩
    · exact ⟨cs, h1, h2.keep (fun g hg => ⟨fz g hg, rfl⟩) (fun i g hg => ⟨lb i g hg, rfl⟩)⟩
  | false =>
    simp only [compOf, hd, Bool.false_eq_true, if_false]
    rcases h with ⟨h1, _⟩ | ⟨cs, h1, h2⟩
    · exact h1.keep fun g hg => ⟨fz g hg, rfl⟩
    · refine ⟨cs, h2.imm fz fun i g hg => ⟨?_, hlt _ _ hg⟩, h1⟩
      have hg' : lab g = some (n, 0, i + 1) := hg
      unfold retN
      rw [hg']
      simp only [h0, if_false]
      unfold retL
      rw [hg']
      simp only [hD, if_false, hown, Bool.false_eq_true]
/-- The rule of functions with things among their arguments; that of slot b is given back. -/
theorem evC_of {P : Program} {Γ : Ctx} (hT : TyOk P Γ) (hm : P.follows .mixedOrders = true) {f : Nat} {fn : Func} (hf : P.funcs[f]? = some fn) (hname : (fn.name == "runtime.NumGoroutine") = false) {args : List Arg} (hargs : args.length ≤ fn.ntmps) {l : List (Bool × Ty)} {r : RTup l} {b : Nat} (hb0 : b < args.length) {A' : Thg} {ps : List (Nat × Thg)} (hps : ∀ p ∈ ps, p.1 < args.length) (hV : fnVC P Γ fn args l r b A' ps) :
    (∀ vs w, (callFunc f vs).run P w = .ok (.enter f vs) w) ∧
    ∀ (w : World) (lab : Lab) (vs : List Value), (∀ g p, lab g = some p → g < w.heap.size) → vs.length = args.length → (∀ j a v, args[j]? = some a → vs[j]? = some v → ArgOk lab w j a v) →
    Calls P f vs.toArray w fun e w' => ∃ v lab', e = .returned v ∧ Fr w (fun g => g < w.heap.size ∧ (lab g = none ∨ ∃ k m, lab g = some (D0, k, m))) w' ∧ (∀ g, g < w.heap.size → lab g = none → lab' g = none) ∧ (∀ g k m, lab g = some (D0, k, m) → lab' g = some (D0, k, m)) ∧
      (∀ g p, lab' g = some p → g < w'.heap.size) ∧ ResOk lab' w' 0 (compsOf l r) v ∧ A'.P (Fz lab' w') (fun g => ∃ m, lab' g = some (B0, 0, m + 1)) w' (vs.getD b undef) ∧ ∀ p ∈ ps, ∃ B, p.2.P (Fz lab' w') B w' (vs.getD p.1 undef) := by
  unfold fnVC at hV
  split at hV
  · rename_i c hb
    have hname' : ¬ fn.name = "runtime.NumGoroutine" := by simpa using hname
    refine ⟨fun vs w => by simp [callFunc, hf, hname', hb], fun w lab vs hlt hlen hok => ?_⟩
    have hfact : allP (args.flatMap Arg.fact) := allP_flatMap fun x hx => by
      obtain ⟨j, hj, rfl⟩ := List.getElem_of_mem hx
      exact (hok j _ _ (List.getElem?_eq_getElem hj) (List.getElem?_eq_getElem (by omega))).ok
    have hV := impL_elim hV hfact
    split at hV
    · rename_i hnd
      simp only [nodupB, Bool.and_eq_true, Bool.not_eq_true', List.contains_cons, Bool.or_eq_false_iff] at hnd
      obtain ⟨⟨⟨⟨_, hDb, hD0⟩, ⟨_, hB0⟩, h00, hnd⟩, hfix⟩, hfixs⟩ := hnd
      have hDc : ¬ D0 = b := by simpa using hDb
      -- the start
      have hst : ∀ N, (start fn args).getD N .dead = match args[N]? with | some x => x.slot | none => .dead := by
        intro N
        unfold start
        rw [List.getD_eq_getElem?_getD]
        rcases Nat.lt_or_ge N args.length with hN | hN
        · rw [List.getElem?_append_left (by simpa using hN), List.getElem?_map, List.getElem?_eq_getElem hN]; rfl
        · rw [List.getElem?_append_right (by simpa using hN), List.getElem?_eq_none hN]
          by_cases hl : N - (args.map Arg.slot).length < fn.ntmps - args.length
          · rw [List.getElem?_replicate, if_pos hl]; rfl
          · rw [List.getElem?_replicate, if_neg hl]; rfl
      have htm : ∀ N, N < vs.length → (vs.toArray ++ Array.replicate (fn.ntmps - vs.toArray.size) undef).getD N undef = vs.getD N undef := by
        intro N hN
        have : (vs.toArray ++ Array.replicate (fn.ntmps - vs.toArray.size) undef)[N]? = vs[N]? := by
          rw [Array.getElem?_append_left (by simpa using hN)]; simp
        rw [Array.getD_eq_getD_getElem?, List.getD_eq_getElem?_getD, this]
      have hR : Rz (start fn args) := fun N hN => by
        rw [hst] at hN
        exfalso
        split at hN
        · rename_i x _; cases x <;> exact hN rfl
        · exact hN rfl
      have hsim : Sim w (fun g => g < w.heap.size ∧ lab g = none) lab (start fn args) { tmps := vs.toArray ++ Array.replicate (fn.ntmps - vs.toArray.size) undef, defers := [] } w := by
        refine ⟨by simp [start]; omega, rfl, fun N => ?_, hlt, fun g p hg hk => (by rw [hk.2] at hg; cases hg), fun g hg => hg.1, Fr.refl _ _⟩
        rw [hst]
        split
        · rename_i x hx
          have hN : N < args.length := by
            rcases Nat.lt_or_ge N args.length with q | q
            · exact q
            · rw [List.getElem?_eq_none q] at hx; cases hx
          have hN' : N < vs.length := by omega
          have := hok N x vs[N] hx (List.getElem?_eq_getElem hN')
          have hv : (vs.toArray ++ Array.replicate (fn.ntmps - vs.toArray.size) undef).getD N undef = vs[N] := by
            rw [htm N hN']; simp [List.getD_eq_getElem?_getD, hN']
          simp only
          rw [hv]
          cases x with
          | imm d => exact this
          | own t y => exact this
          | sem A => exact this
        · trivial
      have hwp := wpc_sound (K := fun g => g < w.heap.size ∧ lab g = none) (D := Cod.dsts c) hT hm c (fun _ hn => hn) (by simp) hsim hR hV
      refine calls_of_wp hf hb (wp_mono hwp ?_)
      -- a return
      have fin : ∀ (a' : Act) (w' : World) (σ' : List Slot) (lab' : Lab), allRes Γ σ' l r fn.results.toList ∧ semsIs σ' ((b, A') :: ps) → Sim w (fun g => g < w.heap.size ∧ lab g = none) lab' σ' a' w' → σ'.length = (start fn args).length → KD lab lab' w w' → (∀ N, !(Cod.dsts c).contains N → N < vs.length → a'.tmps.getD N undef = vs.getD N undef) →
          a'.defers = [] ∧ ∃ v, (results fn a'.tmps).run P w' = .ok v w' ∧ ∃ v' lab', Ending.returned v = .returned v' ∧ Fr w (fun g => g < w.heap.size ∧ (lab g = none ∨ ∃ k m, lab g = some (D0, k, m))) w' ∧ (∀ g, g < w.heap.size → lab g = none → lab' g = none) ∧ (∀ g k m, lab g = some (D0, k, m) → lab' g = some (D0, k, m)) ∧
            (∀ g p, lab' g = some p → g < w'.heap.size) ∧ ResOk lab' w' 0 (compsOf l r) v' ∧ A'.P (Fz lab' w') (fun g => ∃ m, lab' g = some (B0, 0, m + 1)) w' (vs.getD b undef) ∧ ∀ p ∈ ps, ∃ B, p.2.P (Fz lab' w') B w' (vs.getD p.1 undef) := by
        rintro a' w' σ' lab' ⟨hres, hback⟩ h' hlen' hKD hv0
        obtain ⟨us, g1, g2, g3⟩ := allRes_gives h' hT hres
        refine ⟨h'.nd, _, results_run g1, _, retN b (fn.results.toList.length == 1) ((fn.results.toList.map rvSlot).zip (l.map (·.1))) lab', rfl, ?_, ?_, ?_, ?_, ?_, ?_, ?_⟩
        · refine ⟨h'.fr.os, h'.fr.tape, h'.fr.output, h'.fr.size, fun g hg => ?_⟩
          rcases hg.2 with q | ⟨k, m, q⟩
          · exact h'.fr.keep g ⟨hg.1, q⟩
          · exact (hKD g k m q).2
        · intro g hg hn
          cases hl : lab' g with
          | none => unfold retN; rw [hl]
          | some p => exact absurd ⟨hg, hn⟩ (h'.kl g p hl)
        · intro g k m hg
          have := (hKD g k m hg).1
          unfold retN; rw [this]; simp only [hDc, if_false]; unfold retL; rw [this]; simp
        · intro g p hg
          cases hl : lab' g with
          | none => unfold retN at hg; rw [hl] at hg; cases hg
          | some q => exact h'.lt g q hl
        · have hzl : ((fn.results.toList.map rvSlot).zip (l.map (·.1))).map (·.1) = fn.results.toList.map rvSlot := by
            rw [List.map_fst_zip]; simp [g2]
          have hcomp : ∀ k c u, (compsOf l r)[k]? = some c → us[k]? = some u → CompOk (retN b (fn.results.toList.length == 1) ((fn.results.toList.map rvSlot).zip (l.map (·.1))) lab') w' 0 (if (fn.results.toList.length == 1) then 0 else k + 1) c u := by
            intro k c u hc hu
            obtain ⟨rv, o, t, x, q1, q2, rfl, q4⟩ := g3 k c u hc hu
            have hz : ((fn.results.toList.map rvSlot).zip (l.map (·.1)))[k]? = some (rvSlot rv, o) := by
              rw [List.getElem?_zip_eq_some]; exact ⟨by rw [List.getElem?_map, q1]; rfl, q2⟩
            have hD : rvSlot rv ≠ D0 := fun e => by
              have : D0 ∈ fn.results.toList.map rvSlot := List.mem_map.2 ⟨rv, List.mem_of_getElem? q1, e⟩
              simp only [List.contains_eq_mem, decide_eq_false_iff_not] at hD0
              exact hD0 this
            have h0 : rvSlot rv ≠ b := fun e => by
              have : b ∈ fn.results.toList.map rvSlot := List.mem_map.2 ⟨rv, List.mem_of_getElem? q1, e⟩
              simp only [List.contains_eq_mem, decide_eq_false_iff_not] at h00
              exact h00 this
            exact gives_compN (by rw [hzl]; exact hnd) hz hD h0 h'.lt q4
          have hl2 : fn.results.toList.length = (compsOf l r).length := by rw [compsOf_len, g2]
          refine resOk_of (by rw [← hl2]; exact g1.len.symm) fun k c u hc hu => ?_
          have := hcomp k c u hc hu
          rw [hl2] at this ⊢
          exact this
        · have h0 := h'.slots b
          rw [hback.1, hv0 b (by simpa using hfix) (by omega)] at h0
          exact A'.keep (fun g hg => ⟨⟨by unfold retN; rw [hg.1], hg.2⟩, rfl⟩) (fun g ⟨m, hg⟩ => ⟨⟨m, by unfold retN; rw [hg]; simp⟩, rfl⟩) h0
        · intro p hp
          have hsl : ∀ {qs : List (Nat × Thg)}, semsIs σ' qs → ∀ p ∈ qs, σ'.getD p.1 .dead = .sem p.2 := by
            intro qs
            induction qs with
            | nil => intro _ p hp; simp at hp
            | cons q r ih =>
              intro hq p hp
              rcases List.mem_cons.1 hp with rfl | hp
              · exact hq.1
              · exact ih hq.2 p hp
          have h0 := h'.slots p.1
          rw [hsl hback.2 p hp, hv0 p.1 (by simpa using List.all_eq_true.1 hfixs p hp) (by have := hps p hp; omega)] at h0
          exact ⟨_, p.2.keep (fun g hg => ⟨⟨by unfold retN; rw [hg.1], hg.2⟩, rfl⟩) (fun g hg => ⟨hg, rfl⟩) h0⟩
      rintro e a' w' ⟨σ', lab', q1, q2, q3, q4, q5, q6, q7⟩
      have hv0 : ∀ N, !(Cod.dsts c).contains N → N < vs.length → a'.tmps.getD N undef = vs.getD N undef := fun N hN hl => by
        rw [q7 N (by simpa using hN), htm N hl]
      cases e with
      | normal => exact fin a' w' σ' lab' q1 q2 q5 q6 hv0
      | ret => exact fin a' w' σ' lab' q1 q2 q5 q6 hv0
      | _ => exact q1.elim
    · cases hV
  · cases hV
end Go.Proofs.Ytmjijggkdbiijaa
