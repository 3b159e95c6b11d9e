/- What is one's own, given to a call that shares it, as a thing. No statement is proved here. -/
import Derived.Test.YtmjijggkdbiijaaXe
namespace Go.Proofs.Ytmjijggkdbiijaa
open Go.RowKit
set_option linter.unusedVariables false
set_option linter.unusedSimpArgs false
/-- Data of one's own, as a thing. -/
def ownT (t : Ty) (x : t.T) : Thg :=
  ⟨fun S B w v => ∃ cs, v = t.mk cs ∧ Own w S (fun _ g => B g) 0 t x cs, by
    rintro S S' B B' w w' v hS hB ⟨cs, h1, h2⟩
    exact ⟨cs, h1, h2.keep hS (fun _ g hg => hB g hg)⟩⟩
def anyT : Thg := ⟨fun _ _ _ _ => True, fun _ _ _ => trivial⟩
/-- A call that only reads its first argument, where the argument is given away. -/
theorem ev_sem {P : Program} {f : Nat} {t : Ty} {x : t.T} {args : List Arg} {res : List Comp} (h : Ev P f (.imm (.dat t x) :: args) res) (ha : ∀ a ∈ args, ∃ d, a = .imm d) : EvS P (some f) (ownT t x) args res anyT := by
  intro w lab v0 vs hlt hlen hA hok
  obtain ⟨cs, rfl, ho⟩ := hA
  obtain ⟨lab2, hlab⟩ : ∃ lab2 : Lab, lab2 = fun g => match lab g with
    | some (N, k, m) => if N = 0 then none else some (N, k, m)
    | none => none := ⟨_, rfl⟩
  have l0 : ∀ g, lab g = none → lab2 g = none := fun g hg => by rw [hlab]; simp only [hg]
  have lM : ∀ g k m, lab g = some (0, k, m) → lab2 g = none := fun g k m hg => by rw [hlab]; simp only [hg]; rw [if_pos trivial]
  have lO : ∀ M', M' ≠ 0 → ∀ g k m, lab g = some (M', k, m) → lab2 g = some (M', k, m) := fun M' hM' g k m hg => by rw [hlab]; simp only [hg]; rw [if_neg hM']
  have lS : ∀ g p, lab2 g = some p → ∃ p', lab g = some p' := fun g p hg => by
    cases hl : lab g with
    | none => rw [l0 g hl] at hg; cases hg
    | some p' => exact ⟨p', rfl⟩
  have fz : ∀ g, Fz lab w g → Fz lab2 w g := fun g hg => ⟨l0 g hg.1, hg.2⟩
  refine ⟨fun w => h.1 _ w, Calls.mono (h.2 w lab2 (t.mk cs :: vs) (fun g p hg => by obtain ⟨p', hp⟩ := lS g p hg; exact hlt g _ hp) (by simp [hlen]) (fun j a v hj hv => ?_)) ?_⟩
  · match j with
    | 0 =>
      simp only [List.getElem?_cons_zero, Option.some.injEq] at hj hv
      subst hj hv
      exact ⟨cs, Own.imm fz (fun i g ⟨m, hg⟩ => ⟨lM g _ _ hg, hlt g _ hg⟩) ho, rfl⟩
    | j + 1 =>
      simp only [List.getElem?_cons_succ] at hj hv
      have := hok j a v hj hv
      obtain ⟨d, rfl⟩ := ha a (List.mem_of_getElem? hj)
      exact RepV.keep (fun g hg => ⟨fz g hg, rfl⟩) this
  · rintro e w' ⟨v, lab', rfl, f1, f2, f3, f4, f5⟩
    refine ⟨v, lab', rfl, ⟨f1.os, f1.tape, f1.output, f1.size, fun g hg => f1.keep g ⟨hg.1, ?_⟩⟩, fun g hg hl => f2 g hg (l0 g hl), fun g k m hg => f3 g k m (lO D0 (by decide) g k m hg), f4, f5, trivial⟩
    rcases hg.2 with q | ⟨k, m, q⟩
    · exact .inl (l0 g q)
    · exact .inr ⟨k, m, lO D0 (by decide) g k m q⟩
section
variable {P : Program} {C R : List Nat} {o : Oper} {σ : List Slot}
theorem sim_sem {w0 : World} {K : Nat → Prop} {lab : Lab} {a : Act} {w : World} {M : Nat} {t : Ty} {y : t.T} (h : Sim w0 K lab σ a w) (hM : σ.getD M .dead = .own t y) (hr : ∀ M', (σ.getD M' .dead).root ≠ some M) : Sim w0 K lab (app σ [(M, .sem (ownT t y))]) a w := by
  have hs := h.slots M
  rw [hM] at hs
  obtain ⟨cs, p1, p2⟩ := hs
  have := h.wrT (ws := [(M, .sem (ownT t y))]) (kk := []) (lab' := lab) (w' := w) h.fr h.lt h.kl (fun g hg => ⟨hg, rfl⟩) (fun M' hM' g k m hg => ⟨hg, rfl⟩) (fun x hx => by
      simp only [List.mem_singleton] at hx; subst hx
      exact ⟨rfl, ⟨cs, p1, p2.keep (fun g hg => ⟨hg, rfl⟩) (fun i g hg => ⟨⟨i, hg⟩, rfl⟩)⟩, .inr (.inr (.inr ⟨by rw [hM]; rfl, fun M' _ q => absurd q (hr M')⟩))⟩) ⟨by simp, fun x hx hxd => by
      simp only [List.mem_singleton] at hx; subst hx; cases hxd⟩
  simpa using this
theorem cust_sem {ws : Wr} {M : Nat} {t : Ty} {y : t.T} (hc : Cust P C o R σ ws) (hMR : M ∈ R) (hM : ∀ x ∈ ws, x.1 ≠ M ∧ x.2.root ≠ some M) (hs : σ.getD M .dead = .own t y) (hC : ∀ N ∈ C, N ∈ R ∧ ((σ.getD N .dead).root == some M) = false) : Cust P C o R σ (ws ++ [(M, .sem (ownT t y))]) := by
  intro τ hτ w0 K lab a w h hR
  obtain ⟨v, w', lab', r1, r2, r3, r4⟩ := hc τ hτ w0 K lab a w h hR
  have q1 := sim_sem (M := M) r2 (by rw [app_out τ ws M fun x hx => (hM x hx).1, hτ M hMR]; exact hs) (fun M' q => by
    by_cases hl : ∃ x ∈ ws, x.1 = M'
    · by_cases hlt : M' < τ.length
      · obtain ⟨x, hx, e1, e2⟩ := app_mem τ ws M' hlt hl
        rw [e2] at q
        exact (hM x hx).2 q
      · rw [List.getD_eq_getElem?_getD, List.getElem?_eq_none (by rw [app_len]; omega)] at q
        cases q
    · rw [app_out τ ws M' fun x hx e => hl ⟨x, hx, e⟩] at q
      obtain ⟨e1, e2⟩ := hC M' (hR M' M q).1
      rw [hτ M' e1] at q
      rw [q] at e2
      simp at e2)
  refine ⟨v, w', lab', r1, by rw [app_append]; exact q1, ?_, fun M' hM' g k m hg => r4 M' (fun x hx => hM' x (List.mem_append_left _ hx)) g k m hg⟩
  rw [app_append]
  have := (show Rt C (app τ ws) from fun N M hr => r3 N M hr).app (ws := [(M, .sem (ownT t y))]) fun x hx => by simp only [List.mem_singleton] at hx; subst hx; rfl
  exact fun N M hr => this N M hr
end
end Go.Proofs.Ytmjijggkdbiijaa
