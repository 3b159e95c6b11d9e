/- A store of one's own into a box, where nobody is to write it any more. No statement is proved here. -/
import Derived.Test.YtmjijggkdbiijaaWl
namespace Go.Proofs.Ytmjijggkdbiijaa
open Go.RowKit
set_option linter.unusedVariables false
set_option linter.unusedSimpArgs false
section
variable {P : Program} {C R : List Nat} {o : Oper} {σ : List Slot}
theorem cust_storeFz {M Y T : Nat} {t : Ty} {x y : t.T} {inf : TypeInfo} (hi : P.info? T = some inf) (hsz : inf.size = t.sz) (ho : o.op = .store T (.tmp M) (.tmp Y)) (hd : o.dst = none) (hMR : M ∈ R) (hYR : Y ∈ R) (hne : M ≠ Y) (hM : σ.getD M .dead = .box (.dat t x)) (hY : σ.getD Y .dead = .own t y)
    (hC : ∀ N ∈ C, N ∈ R ∧ ((σ.getD N .dead).root == some M) = false ∧ ((σ.getD N .dead).root == some Y) = false) : Cust P C o R σ [(Y, .dead), (M, .box (.dat t y))] := by
  intro τ hτ w0 K lab a w h hR
  have h1 := h.slots M
  have h2 := h.slots Y
  rw [hτ M hMR, hM] at h1
  rw [hτ Y hYR, hY] at h2
  obtain ⟨g, ty, cs, p1, p2, p3, p4⟩ := h1
  obtain ⟨ds, q1, q2⟩ := h2
  have hroot : ∀ N, (τ.getD N .dead).root ≠ some M ∧ (τ.getD N .dead).root ≠ some Y := fun N => by
    constructor
    · intro hr
      obtain ⟨e1, e2, _⟩ := hC N (hR N M hr).1
      rw [hτ N e1] at hr; rw [hr] at e2; simp at e2
    · intro hr
      obtain ⟨e1, _, e2⟩ := hC N (hR N Y hr).1
      rw [hτ N e1] at hr; rw [hr] at e2; simp at e2
  have hcs : cs.length = t.sz := (show Imm w (Fz lab w) t x cs from p4).len
  have hds : ds.length = t.sz := q2.len
  have hone := q2.one
  have hpx : a.eval (.tmp M) = .pointer (some ⟨g, 0, none⟩) := p1
  have hpy : a.eval (.tmp Y) = t.mk ds := q1
  have hrun := runs_store (P := P) (w := w) ho hpx (by rw [hpy]; exact mk_cells hds hone) hi (by rw [hsz, hds]) hone p3 (by omega)
  rw [splice_all (by omega)] at hrun
  obtain ⟨lab', hlab⟩ : ∃ lab' : Lab, lab' = fun g => match lab g with
    | some (N, k, m) => if N = Y then none else some (N, k, m)
    | none => none := ⟨_, rfl⟩
  have l0 : ∀ g, lab g = none → lab' g = none := fun g hg => by rw [hlab]; simp only [hg]
  have lY : ∀ g k m, lab g = some (Y, k, m) → lab' g = none := fun g k m hg => by rw [hlab]; simp only [hg]; rw [if_pos trivial]
  have lO : ∀ M', M' ≠ Y → ∀ g k m, lab g = some (M', k, m) → lab' g = some (M', k, m) := fun M' hM' g k m hg => by rw [hlab]; simp only [hg]; rw [if_neg hM']
  have lS : ∀ g p, lab' g = some p → ∃ p', lab g = some p' := fun g p hg => by
    cases hl : lab g with
    | none => rw [l0 g hl] at hg; cases hg
    | some p' => exact ⟨p', rfl⟩
  have other : ∀ {g' : Nat}, g' ≠ g → (w.setRow g ds.toArray).heap[g']? = w.heap[g']? := fun hne => setRow_other w g _ _ hne
  have keep : ∀ M', (∀ x ∈ ([(Y, .dead), (M, .box (.dat t y))] : Wr), x.1 ≠ M') → ∀ g' k m, lab g' = some (M', k, m) → lab' g' = some (M', k, m) ∧ (w.setRow g ds.toArray).heap[g']? = w.heap[g']? := fun M' hM' g' k m hg' => by
    have e1 : M' ≠ Y := fun e => hM' (Y, .dead) (by simp) e.symm
    have e2 : M' ≠ M := fun e => hM' (M, .box (.dat t y)) (by simp) e.symm
    exact ⟨lO M' e1 g' k m hg', other fun e => by rw [e, p2] at hg'; simp only [Option.some.injEq, Prod.mk.injEq] at hg'; exact e2 hg'.1.symm⟩
  have hsame : (w.setRow g ds.toArray).heap[g]? = some (.cells ds.toArray ty (0, 0)) := by
    simp [World.setRow, Array.getElem?_modify, p3]
  refine ⟨undef, w.setRow g ds.toArray, lab', hrun, ?_, ?_, keep⟩
  · rw [hd, tmps_none]
    have := h.wrT (ws := [(Y, .dead), (M, .box (.dat t y))]) (kk := []) (lab' := lab') (w' := w.setRow g ds.toArray) (fr_setRow h p2 _) (fun g' p hg => by rw [size_setRow]; obtain ⟨p', hp⟩ := lS g' p hg; exact h.lt g' _ hp) (fun g' p hg => by obtain ⟨p', hp⟩ := lS g' p hg; exact h.kl g' _ hp)
      (fun g' hg => ⟨⟨l0 g' hg.1, by rw [size_setRow]; exact hg.2⟩, other fun e => by have z := hg.1; rw [e, p2] at z; cases z⟩) keep (fun z hz => ?_) ⟨by simp, fun z hz hzd M' _ hr => by
        simp only [List.mem_cons, List.not_mem_nil, or_false] at hz
        rcases hz with rfl | rfl
        · exact absurd hr (hroot M').2
        · cases hzd⟩
    · simpa using this
    · simp only [List.mem_cons, List.not_mem_nil, or_false] at hz
      rcases hz with rfl | rfl
      · exact ⟨rfl, trivial, .inl rfl⟩
      · refine ⟨rfl, ⟨g, ty, ds, p1, lO M hne g 0 0 p2, hsame, ?_⟩, .inr (.inr (.inr ⟨by rw [hτ M hMR, hM]; rfl, fun M' _ hr => absurd hr (hroot M').1⟩))⟩
        have him : Imm w (Fz lab' w) t y ds := Own.imm (fun g' hg => ⟨l0 g' hg.1, hg.2⟩) (fun i g' hg => ⟨lY g' _ _ hg, h.lt g' _ hg⟩) q2
        refine Imm.keep (fun g' hg => ⟨⟨hg.1, by rw [size_setRow]; exact hg.2⟩, other fun e => ?_⟩) him
        have z := hg.1
        rw [e, lO M hne g 0 0 p2] at z; cases z
  · have h0 : Rt C τ := fun N M' hr => hR N M' hr
    have := h0.app (ws := [(Y, .dead), (M, .box (.dat t y))]) fun z hz => by
      simp only [List.mem_cons, List.not_mem_nil, or_false] at hz
      rcases hz with rfl | rfl <;> rfl
    exact fun N M' hr => this N M' hr
end
end Go.Proofs.Ytmjijggkdbiijaa
