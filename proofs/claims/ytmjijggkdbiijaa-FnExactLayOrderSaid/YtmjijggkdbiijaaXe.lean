/- What is one's own, where nobody is to write it any more. No statement is proved here. -/
import Derived.Test.YtmjijggkdbiijaaWl
namespace Go.Proofs.Ytmjijggkdbiijaa
open Go.RowKit
set_option linter.unusedVariables false
set_option linter.unusedSimpArgs false
/-- What a slot becomes when nobody writes any more what hangs on it. -/
inductive FrzS : Slot → Slot → Prop where
  | own (t : Ty) (y : t.T) : FrzS (.own t y) (.val (.dat t y))
  | boxo (t : Ty) (y : t.T) : FrzS (.boxo t y) (.val (.ref (.dat t y)))
  | box (t : Ty) (y : t.T) : FrzS (.box (.dat t y)) (.val (.ref (.dat t y)))
section
variable {P : Program} {C R : List Nat} {o : Oper} {σ : List Slot}
theorem frz_range {w : World} {g : Nat} {cs : List Value} {ty : TypeId} (hg : w.heap[g]? = some (.cells cs.toArray ty (0, 0))) : w.rangeAt g 0 cs := by
  intro j v hv
  rw [cell_of_row w g (0 + j) cs.toArray ty (0, 0) hg]
  simpa using hv
theorem sim_frz {w0 : World} {K : Nat → Prop} {lab : Lab} {a : Act} {w : World} {M : Nat} {s' : Slot} (h : Sim w0 K lab σ a w) (hf : FrzS (σ.getD M .dead) s') :
    ∃ lab', Sim w0 K lab' (app σ [(M, s')]) a w ∧ ∀ M', M' ≠ M → ∀ g k m, lab g = some (M', k, m) → lab' g = some (M', k, m) := by
  obtain ⟨lab', hlab⟩ : ∃ lab' : Lab, lab' = fun g => match lab g with
    | some (N, k, m) => if N = M then none else some (N, k, m)
    | none => none := ⟨_, rfl⟩
  have l0 : ∀ g, lab g = none → lab' g = none := fun g hg => by rw [hlab]; simp only [hg]
  have lM : ∀ g k m, lab g = some (M, k, m) → lab' g = none := fun g k m hg => by rw [hlab]; simp only [hg]; rw [if_pos trivial]
  have lO : ∀ M', M' ≠ M → ∀ g k m, lab g = some (M', k, m) → lab' g = some (M', k, m) := fun M' hM' g k m hg => by rw [hlab]; simp only [hg]; rw [if_neg hM']
  have lS : ∀ g p, lab' g = some p → ∃ p', lab g = some p' := fun g p hg => by
    cases hl : lab g with
    | none => rw [l0 g hl] at hg; cases hg
    | some p' => exact ⟨p', rfl⟩
  have hs := h.slots M
  have hroot : s'.root = none ∧ s'.rty = (σ.getD M .dead).rty ∧ s'.vty = (σ.getD M .dead).vty := by
    generalize σ.getD M .dead = s at hf
    cases hf <;> exact ⟨rfl, rfl, rfl⟩
  have fz : ∀ g, Fz lab w g → Fz lab' w g := fun g hg => ⟨l0 g hg.1, hg.2⟩
  have hok : SlotOk lab' w [] #[] M s' (a.tmps.getD M undef) := by
    generalize σ.getD M .dead = s at hs hf
    cases hf with
    | own t y =>
      obtain ⟨cs, p1, p2⟩ := hs
      exact ⟨cs, Own.imm fz (fun i g' hg => ⟨lM g' _ _ hg, h.lt g' _ hg⟩) p2, p1⟩
    | boxo t y =>
      obtain ⟨g, ty, cs, p1, p2, p3, p4⟩ := hs
      exact ⟨[.pointer (some ⟨g, 0, none⟩)], ⟨g, 0, cs, rfl, ⟨lM g _ _ p2, h.lt g _ p2⟩, frz_range p3, Own.imm fz (fun i g' hg => ⟨lM g' _ _ hg, h.lt g' _ hg⟩) p4⟩, by rw [p1]; rfl⟩
    | box t y =>
      obtain ⟨g, ty, cs, p1, p2, p3, p4⟩ := hs
      exact ⟨[.pointer (some ⟨g, 0, none⟩)], ⟨g, 0, cs, rfl, ⟨lM g _ _ p2, h.lt g _ p2⟩, frz_range p3, Imm.keep (fun g' hg => ⟨fz g' hg, rfl⟩) p4⟩, by rw [p1]; rfl⟩
  refine ⟨lab', ?_, lO⟩
  have := h.wrT (ws := [(M, s')]) (kk := []) (lab' := lab') (w' := w) h.fr (fun g p hg => by obtain ⟨p', hp⟩ := lS g p hg; exact h.lt g _ hp) (fun g p hg => by obtain ⟨p', hp⟩ := lS g p hg; exact h.kl g _ hp)
    (fun g hg => ⟨fz g hg, rfl⟩) (fun M' hM' g k m hg => ⟨lO M' (fun e => hM' (M, s') (by simp) e.symm) g k m hg, rfl⟩) (fun x hx => by
      simp only [List.mem_singleton] at hx; subst hx
      exact ⟨hroot.1, hok, .inr (.inr (.inl ⟨hroot.2.1, hroot.2.2, fun _ _ => rfl⟩))⟩) ⟨by simp, fun x hx hxd => by
      simp only [List.mem_singleton] at hx; subst hx
      simp only at hxd
      subst hxd
      generalize σ.getD M .dead = s at hf
      cases hf⟩
  simpa using this
theorem frz_root {s s' : Slot} (hf : FrzS s s') : s'.root = none := by cases hf <;> rfl
theorem cust_ev {Γ : Ctx} (hT : TyOk P Γ) {pre fact : List Prop} {ws : Wr} (hrun : (evalOp Γ C o).run σ = some (.pure pre fact ws)) (hp : allP pre) (hh : (ws.all fun x => hangB C x) = true) (hRs : (((evalOp Γ C o).reads σ).all fun n => R.contains n) = true) : Cust P C o R σ ws := by
  intro τ hτ w0 K lab a w h hR
  obtain ⟨q1, _⟩ := run_agree (m := evalOp Γ C o) (σ := σ) (τ := τ) fun n hn => hτ n (by simpa using List.all_eq_true.1 hRs n hn)
  obtain ⟨_, v, w', lab', r1, r2, r3, r4⟩ := good_op h (fun N M hr => hR N M hr) trivial hT (q1.trans hrun) hp
  exact ⟨v, w', lab', r1, r2, fun N M hr => r3 (fun x hx => hangB_iff (List.all_eq_true.1 hh x hx)) N M hr, r4⟩
theorem cust_frzR {ws : Wr} {M : Nat} {s' : Slot} (hc : Cust P C o R σ ws) (hMR : M ∈ R) (hM : ∀ x ∈ ws, x.1 ≠ M) (hf : FrzS (σ.getD M .dead) s') : Cust P C o R σ (ws ++ [(M, s')]) := by
  intro τ hτ w0 K lab a w h hR
  obtain ⟨v, w', lab', r1, r2, r3, r4⟩ := hc τ hτ w0 K lab a w h hR
  obtain ⟨lab2, q1, q2⟩ := sim_frz (M := M) (s' := s') r2 (by rw [app_out τ ws M hM, hτ M hMR]; exact hf)
  refine ⟨v, w', lab2, r1, by rw [app_append]; exact q1, ?_, fun M' hM' g k m hg => ?_⟩
  · rw [app_append]
    have := (show Rt C (app τ ws) from fun N M hr => r3 N M hr).app (ws := [(M, s')]) fun x hx => by simp only [List.mem_singleton] at hx; subst hx; exact frz_root hf
    exact fun N M hr => this N M hr
  · obtain ⟨z1, z2⟩ := r4 M' (fun x hx => hM' x (List.mem_append_left _ hx)) g k m hg
    exact ⟨q2 M' (fun e => hM' (M, s') (by simp) e.symm) g k m z1, z2⟩
theorem cust_frzL {ws : Wr} {M : Nat} {s s' : Slot} (hc : Cust P C o R σ (ws ++ [(M, s)])) (hf : FrzS s s') : Cust P C o R σ (ws ++ [(M, s)] ++ [(M, s')]) := by
  intro τ hτ w0 K lab a w h hR
  obtain ⟨v, w', lab', r1, r2, r3, r4⟩ := hc τ hτ w0 K lab a w h hR
  have hRt : ∀ N M_1, ((app τ (ws ++ [(M, s)] ++ [(M, s')])).getD N .dead).root = some M_1 → N ∈ C ∧ Cm C M_1 N = true := by
    rw [app_append]
    have := (show Rt C (app τ (ws ++ [(M, s)])) from fun N M hr => r3 N M hr).app (ws := [(M, s')]) fun x hx => by simp only [List.mem_singleton] at hx; subst hx; exact frz_root hf
    exact fun N M hr => this N M hr
  by_cases hl : M < τ.length
  · have e : (app τ (ws ++ [(M, s)])).getD M .dead = s := by
      rw [app_append]
      show ((app τ ws).set M s).getD M .dead = s
      simp [List.getD_eq_getElem?_getD, show M < (app τ ws).length by rw [app_len]; exact hl]
    obtain ⟨lab2, q1, q2⟩ := sim_frz (M := M) (s' := s') r2 (by rw [e]; exact hf)
    refine ⟨v, w', lab2, r1, by rw [app_append]; exact q1, hRt, fun M' hM' g k m hg => ?_⟩
    obtain ⟨z1, z2⟩ := r4 M' (fun x hx => hM' x (List.mem_append_left _ hx)) g k m hg
    exact ⟨q2 M' (fun e => hM' (M, s') (by simp) e.symm) g k m z1, z2⟩
  · have e : app τ (ws ++ [(M, s)] ++ [(M, s')]) = app τ (ws ++ [(M, s)]) := by
      rw [app_append]
      show (app τ (ws ++ [(M, s)])).set M s' = _
      rw [List.set_eq_of_length_le (by rw [app_len]; omega)]
    refine ⟨v, w', lab', r1, by rw [e]; exact r2, hRt, fun M' hM' g k m hg => r4 M' (fun x hx => hM' x (List.mem_append_left _ hx)) g k m hg⟩
end
end Go.Proofs.Ytmjijggkdbiijaa
