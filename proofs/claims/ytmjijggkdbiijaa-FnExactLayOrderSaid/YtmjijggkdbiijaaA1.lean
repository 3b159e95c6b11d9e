/- Parts of the way from code to plain Lean, put together. No statement is proved here. -/
import Derived.Test.YtmjijggkdbiijaaA0
/- Steps by which what is of one's own goes over, or is shared. No statement is proved here. -/
namespace Go.Proofs.Ytmjijggkdbiijaa
open Go.RowKit
set_option linter.unusedVariables false
set_option linter.unusedSimpArgs false
theorem app_mem (σ : List Slot) (ws : Wr) (M : Nat) (hM : M < σ.length) (h : ∃ x ∈ ws, x.1 = M) : ∃ x ∈ ws, x.1 = M ∧ (app σ ws).getD M .dead = x.2 := by
  induction ws generalizing σ with
  | nil => obtain ⟨x, hx, _⟩ := h; cases hx
  | cons x ws ih =>
    rw [app_cons]
    by_cases h2 : ∃ y ∈ ws, y.1 = M
    · obtain ⟨y, h3, h4, h5⟩ := ih (σ.set x.1 x.2) (by simpa using hM) h2
      exact ⟨y, by simp [h3], h4, h5⟩
    · obtain ⟨y, hy, e⟩ := h
      rcases List.mem_cons.1 hy with rfl | hy
      · refine ⟨y, by simp, e, ?_⟩
        rw [app_out _ _ _ (fun z hz q => h2 ⟨z, hz, q⟩), getD_set, if_pos ⟨e, by rw [e]; exact hM⟩]
      · exact absurd ⟨y, hy, e⟩ h2
section
variable {P : Program} {Γ : Ctx} {w0 : World} {K : Nat → Prop} {lab lab' : Lab} {σ : List Slot} {a : Act} {w w' : World} {C : List Nat} {o : Oper} {pre fact : List Prop} {ws : Wr}
theorem frees_run (h : Sim w0 K lab σ a w) (hR : Rt C σ) : ∀ (ws : Wr) (kk : Wr), (frees C ws).run σ = some kk → (∀ x ∈ kk, x.2 = .dead ∧ (σ.getD x.1 .dead).root ≠ none) ∧
    ∀ x ∈ ws, x.2 = .dead → ∀ M, M ≠ x.1 → (σ.getD M .dead).root = some x.1 → ∃ y ∈ kk, y.1 = M
  | [], kk, hr => by simp only [frees, RM.run, Option.some.injEq] at hr; subst hr; simp
  | (M, s) :: ws, kk, hr => by
    cases s with
    | dead =>
      simp only [frees] at hr
      obtain ⟨r, h1, h2⟩ := bind_run hr
      obtain ⟨ks, h3, h4⟩ := bind_run h2
      simp only [RM.run, Option.some.injEq] at h4
      obtain ⟨ks', k1, k2, k3⟩ := free_run h hR M
      rw [k1] at h3
      obtain rfl := Option.some.inj h3
      obtain ⟨i1, i2⟩ := frees_run h hR ws r h1
      subst h4
      refine ⟨fun x hx => ?_, fun x hx hd M' hM hr => ?_⟩
      · rcases List.mem_append.1 hx with hx | hx
        · exact i1 x hx
        · exact ⟨(k2 x hx).1, by rw [(k2 x hx).2.2]; simp⟩
      · rcases List.mem_cons.1 hx with rfl | hx
        · obtain ⟨y, hy, e⟩ := k3 M' hM hr
          exact ⟨y, by simp [hy], e⟩
        · obtain ⟨y, hy, e⟩ := i2 x hx hd M' hM hr
          exact ⟨y, by simp [hy], e⟩
    | _ =>
      simp only [frees] at hr
      obtain ⟨i1, i2⟩ := frees_run h hR ws kk hr
      refine ⟨i1, fun x hx hd => ?_⟩
      rcases List.mem_cons.1 hx with rfl | hx
      · cases hd
      · exact i2 x hx hd
/-- The slots that a step writes are as told; the others stay; what hangs on what has gone over dies. -/
theorem Sim.putT (h : Sim w0 K lab σ a w) {N : Nat} {s : Slot} {v : Value} {ws kk ks : Wr} (hfr : Fr w0 K w') (hlt : ∀ g p, lab' g = some p → g < w'.heap.size) (hkl : ∀ g p, lab' g = some p → ¬ K g)
    (hS : ∀ g, Fz lab w g → Fz lab' w' g ∧ w'.heap[g]? = w.heap[g]?) (hkp : ∀ M, M ≠ N → (∀ x ∈ ws, x.1 ≠ M) → ∀ g k o, lab g = some (M, k, o) → lab' g = some (M, k, o) ∧ w'.heap[g]? = w.heap[g]?)
    (hN : ∀ x ∈ ws, x.1 ≠ N) (hnew : s.root = none ∧ SlotOk lab' w' [] #[] N s v)
    (hws : ∀ x ∈ ws, x.2.root = none ∧ SlotOk lab' w' [] #[] x.1 x.2 (a.tmps.getD x.1 undef) ∧ (x.2 = .dead ∨ (σ.getD x.1 .dead).root ≠ none ∨ (x.2.rty = (σ.getD x.1 .dead).rty ∧ x.2.vty = (σ.getD x.1 .dead).vty ∧ ∀ g, lab g = some (x.1, 0, 0) → w'.heap[g]? = w.heap[g]?)))
    (hkk : (∀ x ∈ kk, x.2 = .dead ∧ (σ.getD x.1 .dead).root ≠ none) ∧ ∀ x ∈ ws, x.2 = .dead → ∀ M, M ≠ x.1 → (σ.getD M .dead).root = some x.1 → ∃ y ∈ kk, y.1 = M)
    (hks : (∀ x ∈ ks, x.2 = .dead ∧ x.1 ≠ N ∧ (σ.getD x.1 .dead).root = some N) ∧ ∀ M, M ≠ N → (σ.getD M .dead).root = some N → ∃ x ∈ ks, x.1 = M) :
    Sim w0 K lab' (app σ (ws ++ kk ++ ks ++ [(N, s)])) (a.put (some N) v) w' := by
  have htm : ∀ M, M ≠ N → (a.put (some N) v).tmps.getD M undef = a.tmps.getD M undef := fun M hM => by rw [tmps_put, if_neg (fun e => hM e.1.symm)]
  have hroot : ∀ x ∈ kk ++ ks, (σ.getD x.1 .dead).root ≠ none ∧ x.2 = .dead := fun x hx => by
    rcases List.mem_append.1 hx with hx | hx
    · exact ⟨(hkk.1 x hx).2, (hkk.1 x hx).1⟩
    · exact ⟨by rw [(hks.1 x hx).2.2]; simp, (hks.1 x hx).1⟩
  -- a slot that is not N: dead, or as told, or as it was
  have hcase : ∀ M, M ≠ N → ((app σ (ws ++ kk ++ ks ++ [(N, s)])).getD M .dead = .dead) ∨ (∃ x ∈ ws, x.1 = M ∧ (app σ (ws ++ kk ++ ks ++ [(N, s)])).getD M .dead = x.2) ∨
      ((∀ x ∈ ws ++ kk ++ ks, x.1 ≠ M) ∧ (app σ (ws ++ kk ++ ks ++ [(N, s)])).getD M .dead = σ.getD M .dead) := by
    intro M hM
    have e0 : (app σ (ws ++ kk ++ ks ++ [(N, s)])).getD M .dead = (app σ (ws ++ kk ++ ks)).getD M .dead := by
      rw [app_append]; show (((app σ (ws ++ kk ++ ks)).set N s).getD M .dead) = _; rw [getD_set, if_neg (fun e => hM e.1.symm)]
    rw [e0]
    by_cases hlt : M < σ.length
    · by_cases hm : ∃ x ∈ ws ++ kk ++ ks, x.1 = M
      · by_cases hm2 : ∃ x ∈ kk ++ ks, x.1 = M
        · left
          rw [List.append_assoc, app_append]
          exact app_dead _ _ _ hm2 fun x hx _ => (hroot x hx).2
        · right; left
          have hm3 : ∃ x ∈ ws, x.1 = M := by
            obtain ⟨x, hx, e⟩ := hm
            rw [List.append_assoc] at hx
            rcases List.mem_append.1 hx with hx | hx
            · exact ⟨x, hx, e⟩
            · exact absurd ⟨x, hx, e⟩ hm2
          obtain ⟨x, h1, h2, h3⟩ := app_mem σ ws M hlt hm3
          refine ⟨x, h1, h2, ?_⟩
          rw [List.append_assoc, app_append, app_out _ _ _ (fun y hy q => hm2 ⟨y, hy, q⟩)]
          exact h3
      · right; right
        exact ⟨fun x hx e => hm ⟨x, hx, e⟩, app_out _ _ _ fun x hx e => hm ⟨x, hx, e⟩⟩
    · left; exact getD_beyond (by rw [app_len]; exact hlt)
  refine h.upd (by rw [app_len, put_size]; exact h.len) (by rw [put_defers]; exact h.nd) hfr hlt hkl fun M => ?_
  by_cases hM : M = N
  · subst hM
    refine .inr ?_
    rw [app_last]
    by_cases hl : M < σ.length
    · rw [if_pos hl, tmps_put, if_pos ⟨rfl, by rw [← h.len]; exact hl⟩]
      exact hnew.2.free hnew.1
    · rw [if_neg hl, getD_beyond (by rw [app_len]; exact hl)]
      trivial
  · rcases hcase M hM with e | ⟨x, hx, hxM, e⟩ | ⟨hout, e⟩
    · refine .inr ?_; rw [e]; trivial
    · refine .inr ?_
      rw [e, htm M hM]
      obtain ⟨q1, q2, _⟩ := hws x hx
      rw [← hxM]
      exact q2.free q1
    · refine .inl ⟨e, htm M hM, ⟨hS, fun g k o hg => hkp M hM (fun x hx => hout x (by simp [hx])) g k o hg⟩, fun R hr => ?_⟩
      have hn := not_idle (root_of (h.slots M) hr)
      have hRN : R ≠ N := fun q => by
        obtain ⟨y, hy, e⟩ := hks.2 M hM (by rw [← q]; exact hr)
        exact hout y (by simp [hy]) e
      have hMR : M ≠ R := fun q => by rw [← q] at hn; rw [hn.2] at hr; cases hr
      rcases hcase R hRN with e2 | ⟨x, hx, hxR, e2⟩ | ⟨hout2, e2⟩
      · -- R is dead now: then it was, or what hangs on it has died
        exfalso
        by_cases hw : ∃ x ∈ ws, x.1 = R ∧ x.2 = .dead
        · obtain ⟨x, hx, q1, q2⟩ := hw
          obtain ⟨y, hy, q3⟩ := hkk.2 x hx q2 M (by rw [q1]; exact hMR) (by rw [q1]; exact hr)
          exact hout y (by simp [hy]) q3
        · by_cases hl : R < σ.length
          · by_cases hm : ∃ x ∈ ws ++ kk ++ ks, x.1 = R
            · by_cases hm2 : ∃ x ∈ kk ++ ks, x.1 = R
              · obtain ⟨x, hx, q⟩ := hm2
                have := (hroot x hx).1
                rw [q, hn.2] at this
                exact this rfl
              · have hm3 : ∃ x ∈ ws, x.1 = R := by
                  obtain ⟨x, hx, e⟩ := hm
                  rw [List.append_assoc] at hx
                  rcases List.mem_append.1 hx with hx | hx
                  · exact ⟨x, hx, e⟩
                  · exact absurd ⟨x, hx, e⟩ hm2
                obtain ⟨x, h1, h2, h3⟩ := app_mem σ ws R hl hm3
                refine hw ⟨x, h1, h2, ?_⟩
                rw [← h3]
                have e0 : (app σ (ws ++ kk ++ ks ++ [(N, s)])).getD R .dead = (app σ ws).getD R .dead := by
                  rw [app_append, List.append_assoc, app_append]
                  show (((app (app σ ws) (kk ++ ks)).set N s).getD R .dead) = _
                  rw [getD_set, if_neg (fun e => hRN e.1.symm), app_out _ _ _ (fun y hy q => hm2 ⟨y, hy, q⟩)]
                rw [← e0]; exact e2
            · have : (app σ (ws ++ kk ++ ks ++ [(N, s)])).getD R .dead = σ.getD R .dead := app_out _ _ _ fun x hx q => by
                rcases List.mem_append.1 hx with hx | hx
                · exact hm ⟨x, hx, q⟩
                · simp at hx; subst hx; exact hRN q.symm
              rw [this] at e2
              rw [e2] at hn
              simp [Slot.idle] at hn
          · rw [getD_beyond hl] at hn
            simp [Slot.idle] at hn
      · obtain ⟨q1, q2, q3⟩ := hws x hx
        rcases q3 with q3 | q3 | ⟨q3, q4, q5⟩
        · exfalso
          obtain ⟨y, hy, q6⟩ := hkk.2 x hx q3 M (by rw [hxR]; exact hMR) (by rw [hxR]; exact hr)
          exact hout y (by simp [hy]) q6
        · rw [hxR, hn.2] at q3; exact absurd rfl q3
        · rw [hxR] at q3 q4 q5
          exact ⟨fun g hg => (hS g hg).2, q5, by rw [e2]; exact q3, by rw [e2]; exact q4, htm R hRN⟩
      · refine ⟨fun g hg => (hS g hg).2, fun g hg => (hkp R hRN (fun x hx => hout2 x (by simp [hx])) g 0 0 hg).2, by rw [e2], by rw [e2], htm R hRN⟩
theorem good_putT (h : Sim w0 K lab σ a w) (hR : Rt C σ) (hC : True) {s : Slot} {ws0 : Wr} {pre' fact' : List Prop} (hrun : (put C o s ws0 pre fact).run σ = some (.pure pre' fact' ws)) (hp : allP pre') {v : Value}
    (hv : allP pre → Runs P o a w v w') (hf : allP pre → allP fact) (hfr : Fr w0 K w') (hlt : ∀ g p, lab' g = some p → g < w'.heap.size) (hkl : ∀ g p, lab' g = some p → ¬ K g)
    (hS : ∀ g, Fz lab w g → Fz lab' w' g ∧ w'.heap[g]? = w.heap[g]?) (hkp : ∀ N, o.dst = some N → ∀ M, M ≠ N → (∀ x ∈ ws0, x.1 ≠ M) → ∀ g k o, lab g = some (M, k, o) → lab' g = some (M, k, o) ∧ w'.heap[g]? = w.heap[g]?)
    (hnew : ∀ N, o.dst = some N → s.root = none ∧ SlotOk lab' w' [] #[] N s v)
    (hws : ∀ N, o.dst = some N → (∀ x ∈ ws0, x.1 ≠ N) → ∀ x ∈ ws0, x.2.root = none ∧ SlotOk lab' w' [] #[] x.1 x.2 (a.tmps.getD x.1 undef) ∧ (x.2 = .dead ∨ (σ.getD x.1 .dead).root ≠ none ∨ (x.2.rty = (σ.getD x.1 .dead).rty ∧ x.2.vty = (σ.getD x.1 .dead).vty ∧ ∀ g, lab g = some (x.1, 0, 0) → w'.heap[g]? = w.heap[g]?))) :
    Good P C w0 K lab o σ a w fact' ws := by
  obtain ⟨N, kk, ks, hd, hr, hne, h0, h1, h2⟩ := put_run hrun
  simp only [Eff.pure.injEq] at h2
  obtain ⟨rfl, rfl, rfl⟩ := h2
  obtain ⟨ks', k1, k2, k3⟩ := free_run h hR N
  rw [k1] at h1
  obtain rfl := Option.some.inj h1
  have hkk := frees_run h hR ws0 kk h0
  refine ⟨hf hp, v, w', lab', hv hp, ?_, ?_, fun M hM g k m hg => hkp N hd M (fun e => hM (N, s) (by simp) e.symm) (fun x hx => hM x (by simp [hx])) g k m hg⟩
  · rw [hd]
    exact h.putT hfr hlt hkl hS (hkp N hd) hne (hnew N hd) (hws N hd hne) hkk ⟨k2, k3⟩
  · exact hR.mix
end
end Go.Proofs.Ytmjijggkdbiijaa
/- Addresses and computing operations: each is what the slots say. No statement is proved here. -/
namespace Go.Proofs.Ytmjijggkdbiijaa
open Go.RowKit
set_option linter.unusedVariables false
set_option linter.unusedSimpArgs false
section
variable {P : Program} {Γ : Ctx} {w0 : World} {K : Nat → Prop} {lab lab' : Lab} {σ : List Slot} {a : Act} {w w' : World} {C : List Nat} {o : Oper} {pre fact : List Prop} {ws : Wr}
theorem pty_of {σ : List Slot} {tmps : Array Value} {M : Nat} {p : Path} {u : Ty} {cs : List Value} (hh : Holds w σ tmps M p u cs) : (σ.getD M .dead).pty p = some u := by
  rcases hh.2 with ⟨_, _, t, _, q2, _, q4, _⟩ | ⟨rfl, _, q2, _⟩
  · unfold Slot.pty; rw [q2]; exact q4
  · generalize σ.getD M .dead = s at q2
    cases s with
    | val d => cases d <;> simp [Slot.vty] at q2; subst q2; rfl
    | own t x => simp [Slot.vty] at q2; subst q2; rfl
    | mhole k e x y => simp [Slot.vty] at q2; subst q2; rfl
    | sem A => simp [Slot.vty] at q2; subst q2; rfl
    | _ => simp [Slot.vty] at q2
theorem runs_fieldAddr (hT : TyOk P Γ) {T k : Nat} {x : Operand} {u : Ty} (ho : o.op = .fieldAddr T x k) (hu : Γ.ty T = some u) (hk : k < Γ.nf T) {g ofs : Nat} (hx : a.eval x = .pointer (some ⟨g, ofs, none⟩)) :
    ∃ v, u.at (fldPath (Γ.nf T) k) = some v ∧ u.inb (fldPath (Γ.nf T) k) ∧ Runs P o a w (.pointer (some ⟨g, ofs + u.off (fldPath (Γ.nf T) k), none⟩)) w := by
  obtain ⟨fs, f, v, h1, h2, h3, h4, h5, h6⟩ := (hT.ty T u hu).fld k hk
  obtain ⟨i, hi1, hi2, _⟩ := (hT.ty _ v h3).info
  refine ⟨v, h4, Ty.inb_flds (fldPath_no _ _), .inl ?_⟩
  have hz : ¬ i.size = 0 := by rw [hi2]; exact h6
  unfold execOp
  simp [ho, hx, Instr.fieldAt, run_underlying h1, h2, Instr.sureAddr, fieldPlace, sizeOf, typeInfo, hi1, hz, addr_add, h5]
theorem good_fieldAddr (h : Sim w0 K lab σ a w) (hR : Rt C σ) (hC : True) (hT : TyOk P Γ) {T k : Nat} {x : Operand} (ho : o.op = .fieldAddr T x k)
    (hrun : (evFieldAddr Γ C o T x k).run σ = some (.pure pre fact ws)) (hp : allP pre) : Good P C w0 K lab o σ a w fact ws := by
  obtain ⟨pl, h1, h2⟩ := bind_run hrun
  cases pl with
  | «at» M p =>
    simp only [RM.run] at h2
    split at h2
    · rename_i t ht
      split at h2
      · rename_i u hu
        split at h2
        · rename_i hc
          simp only [Bool.and_eq_true, beq_iff_eq, decide_eq_true_eq] at hc
          obtain ⟨g, ofs, hg, hin, hx⟩ := place_run h h1 ht hu
          obtain ⟨v, hv1, hv2, hv3⟩ := runs_fieldAddr (P := P) (w := w) hT ho hc.1 hc.2 hx
          refine good_put h hR hC h2 (fun _ => trivial) (fun _ => hv3) (fun _ N _ => ⟨g, ofs, t, v, hg, ht, Ty.inb_append hu hin hv2, by rw [Ty.at_append hu]; exact hv1, by rw [Ty.off_append hu, Nat.add_assoc]⟩) hp
        · simp [RM.run] at h2
      · simp [RM.run] at h2
    · simp [RM.run] at h2
  | el M p i q =>
    simp only [RM.run] at h2
    obtain ⟨te, e, u, g, ofs, len, c, hh, hi, hq, hu, hx⟩ := placeEl_run h h1
    have hpty := pty_of hh
    split at h2
    · rename_i te' e' he'
      rw [hpty] at he'
      simp only [Option.some.injEq, Ty.slice.injEq] at he'
      obtain ⟨rfl, rfl⟩ := he'
      split at h2
      · rename_i u' hu'
        rw [hu] at hu'
        obtain rfl := Option.some.inj hu'
        split at h2
        · rename_i hc
          simp only [Bool.and_eq_true, beq_iff_eq, decide_eq_true_eq] at hc
          obtain ⟨v, hv1, hv2, hv3⟩ := runs_fieldAddr (P := P) (w := w) hT ho hc.1 hc.2 hx
          refine good_put h hR hC h2 (fun _ => trivial) (fun _ => hv3) (fun _ N _ => ⟨te, e, v, g, ofs, len, c, hh, hi, Ty.inb_append hu hq hv2, by rw [Ty.at_append hu]; exact hv1, by rw [Ty.off_append hu]; simp only [Nat.add_assoc]⟩) hp
        · simp [RM.run] at h2
      · simp [RM.run] at h2
    · simp [RM.run] at h2
theorem runs_idxArr (hT : TyOk P Γ) {T n : Nat} {e : Ty} {x y : Operand} (ho : o.op = .indexAddr T x y) (hu : Γ.ty T = some (.arr n e)) {k : IntKind} {i : Int} (hy : a.eval y = .int k i) (hi : 0 ≤ i ∧ i < n) {g ofs : Nat} (hx : a.eval x = .pointer (some ⟨g, ofs, none⟩)) :
    Runs P o a w (.pointer (some ⟨g, ofs + i.toNat * e.sz, none⟩)) w := by
  obtain ⟨te, h1, h2⟩ := (hT.ty T _ hu).arr n e rfl
  obtain ⟨j, hj1, hj2, _⟩ := (hT.ty te e h2).info
  refine .inl ?_
  unfold execOp
  simp [ho, hx, hy, Instr.indexAt, asIntOf, run_underlying h1, Instr.sureAddr, sizeOf, typeInfo, hj1, hj2, addr_add, hi.1, hi.2]
theorem runs_idxSl (hT : TyOk P Γ) {T te : Nat} {e : Ty} {x y : Operand} (ho : o.op = .indexAddr T x y) (hu : Γ.ty T = some (.slice te e)) {k : IntKind} {i : Int} (hy : a.eval y = .int k i) {g ofs len c : Nat} (hi : 0 ≤ i ∧ i < len) (hx : a.eval x = .slice (some ⟨g, ofs, none⟩) len c) :
    Runs P o a w (.pointer (some ⟨g, ofs + i.toNat * e.sz, none⟩)) w := by
  obtain ⟨h1, h2, _⟩ := (hT.ty T _ hu).slice te e rfl
  obtain ⟨j, hj1, hj2, _⟩ := (hT.ty te e h2).info
  refine .inl ?_
  unfold execOp
  simp [ho, hx, hy, Instr.indexAt, asIntOf, run_underlying h1, sizeOf, typeInfo, hj1, hj2, addr_add, hi.1, hi.2]
theorem slice_head {L : Nat → Nat → Prop} {S : Nat → Prop} {j te : Nat} {e : Ty} {ys : (Ty.slice te e).T} {cs : List Value} (hs : Own w S L j (.slice te e) ys cs ∨ Imm w S (.slice te e) ys cs) (hne : 0 < ys.length) : ∃ g ofs c, cs = [.slice (some ⟨g, ofs, none⟩) ys.length c] := by
  rcases hs with hs | hs
  · simp only [Own] at hs
    obtain ⟨hl, v, flat, rfl, h2, _⟩ := hs
    rcases h2.2 with ⟨_, h3⟩ | ⟨g, cap, cur, rfl, _⟩
    · omega
    · exact ⟨g, 0, cap, rfl⟩
  · simp only [Imm] at hs
    obtain ⟨hl, a', c, flat, rfl, _, _, _, _, h5⟩ := hs
    obtain ⟨g, ofs, rfl, _⟩ := h5 (by intro q; rw [q] at hne; simp at hne)
    exact ⟨g, ofs, c, rfl⟩
theorem good_indexAddr (h : Sim w0 K lab σ a w) (hR : Rt C σ) (hC : True) (hT : TyOk P Γ) {T : Nat} {x y : Operand} (ho : o.op = .indexAddr T x y)
    (hrun : (evIndexAddr Γ C o T x y).run σ = some (.pure pre fact ws)) (hp : allP pre) : Good P C w0 K lab o σ a w fact ws := by
  obtain ⟨⟨k, i⟩, h0, h1⟩ := bind_run hrun
  obtain ⟨hy, _⟩ := rdInt_run h h0
  simp only at h1
  split at h1
  · rename_i n e hTy
    obtain ⟨pl, h2, h3⟩ := bind_run h1
    cases pl with
    | «at» M p =>
      simp only [RM.run] at h3
      split at h3
      · rename_i t ht
        split at h3
        · rename_i hc
          have hu : t.at p = some (.arr n e) := by simpa using hc
          obtain ⟨g, ofs, hg, hin, hx⟩ := place_run h h2 ht hu
          refine good_put h hR hC h3 (fun _ => trivial) (fun hq => runs_idxArr hT ho hTy hy hq.1 hx) (fun hq N _ => ⟨g, ofs, t, e, hg, ht, Ty.inb_append hu hin ⟨by have := hq.1; omega, by cases e <;> trivial⟩, by rw [Ty.at_append hu]; exact Ty.at_nil e, ?_⟩) hp
          rw [Ty.off_append hu]
          have : (Ty.arr n e).off [.ix i.toNat] = i.toNat * e.sz := by simp only [Ty.off]; cases e <;> simp [Ty.off]
          rw [this, Nat.add_assoc]
        · simp [RM.run] at h3
      · simp [RM.run] at h3
    | el M p j q =>
      simp only [RM.run] at h3
      obtain ⟨te, e0, u, g, ofs, len, c, hh, hj, hq, hu, hx⟩ := placeEl_run h h2
      have hpty := pty_of hh
      split at h3
      · rename_i te' e' he'
        rw [hpty] at he'
        simp only [Option.some.injEq, Ty.slice.injEq] at he'
        obtain ⟨rfl, rfl⟩ := he'
        split at h3
        · rename_i hc
          have hu' : e0.at q = some (.arr n e) := by simpa using hc
          rw [hu] at hu'
          obtain rfl := Option.some.inj hu'
          refine good_put h hR hC h3 (fun _ => trivial) (fun hq => runs_idxArr hT ho hTy hy hq.1 hx) (fun hq' N _ => ⟨te, e0, e, g, ofs, len, c, hh, hj, Ty.inb_append hu hq ⟨by have := hq'.1; omega, by cases e <;> trivial⟩, by rw [Ty.at_append hu]; exact Ty.at_nil e, ?_⟩) hp
          rw [Ty.off_append hu]
          have : (Ty.arr n e).off [.ix i.toNat] = i.toNat * e.sz := by simp only [Ty.off]; cases e <;> simp [Ty.off]
          rw [this]; simp only [Nat.add_assoc]
        · simp [RM.run] at h3
      · simp [RM.run] at h3
  · rename_i te e hTy
    split at h1
    · rename_i n
      simp only [RM.run] at h1
      have hn := h.slots n
      -- the slice lies in the slot itself
      have own : ∀ {ys : (Ty.slice te e).T} {cs : List Value} {L : Nat → Nat → Prop}, (σ.getD n .dead).vty = some (.slice te e) → a.tmps.getD n undef = (Ty.slice te e).mk cs → (Own w (Fz lab w) L 0 (.slice te e) ys cs ∨ Imm w (Fz lab w) (.slice te e) ys cs) →
          (put C o (.elt n [] i.toNat []) [] [0 ≤ i ∧ i < (ys.length : Int)]).run σ = some (.pure pre fact ws) → Good P C w0 K lab o σ a w fact ws := by
        intro ys cs L hv hm hs hput
        by_cases hb : 0 ≤ i ∧ i < (ys.length : Int)
        · obtain ⟨g, ofs, c, rfl⟩ := slice_head hs (by omega)
          have hx : a.eval (.tmp n) = .slice (some ⟨g, ofs, none⟩) ys.length c := hm
          refine good_put h hR hC hput (fun _ => trivial) (fun _ => runs_idxSl hT ho hTy hy hb hx) (fun _ N _ => ⟨te, e, e, g, ofs, ys.length, c, ⟨by simp [Ty.sz], .inr ⟨rfl, rfl, hv, hm⟩⟩, by omega, by cases e <;> trivial, Ty.at_nil e, ?_⟩) hp
          have : e.off [] = 0 := by cases e <;> rfl
          rw [this, Nat.add_zero]
        · obtain ⟨_, _, _, _, _, _, _, _, q⟩ := put_run hput
          simp only [Eff.pure.injEq] at q
          obtain ⟨rfl, rfl, rfl⟩ := q
          exact absurd hp.1 hb
      generalize hσ : σ.getD n .dead = s at h1 hn
      split at h1
      · rename_i t xs
        split at h1
        · rename_i ys hys
          have e1 := as_some hys
          obtain ⟨rfl, e2⟩ := D.dat.inj e1
          obtain rfl := eq_of_heq e2
          obtain ⟨cs, q1, q2⟩ := hn
          exact own (by rw [hσ]; rfl) q1 (.inl q2) h1
        · simp [RM.run] at h1
      · rename_i d
        split at h1
        · rename_i ys hys
          have e1 := as_some hys
          subst e1
          obtain ⟨cs, q1, q2⟩ := hn
          exact own (L := fun _ _ => False) (by rw [hσ]; rfl) q2 (.inr q1) h1
        · simp [RM.run] at h1
      · rename_i M p
        obtain ⟨d, h2, h3⟩ := bind_run h1
        split at h3
        · rename_i ys hys
          have e1 := as_some hys
          subst e1
          obtain ⟨t, x, hgs, hM⟩ := sliceIn_run h2
          obtain ⟨u, cs, hh, hv⟩ := hn
          obtain ⟨e1, e2⟩ := h.at' hh hgs hM
          subst e1
          by_cases hb : 0 ≤ i ∧ i < (ys.length : Int)
          · obtain ⟨g, ofs, c, rfl⟩ := slice_head e2 (by omega)
            have hx : a.eval (.tmp n) = .slice (some ⟨g, ofs, none⟩) ys.length c := by
              have : a.eval (.tmp n) = a.tmps.getD n undef := rfl
              rw [this, hv]; rfl
            refine good_put h hR hC h3 (fun _ => trivial) (fun _ => runs_idxSl hT ho hTy hy hb hx) (fun _ N _ => ⟨te, e, e, g, ofs, ys.length, c, hh, by omega, by cases e <;> trivial, Ty.at_nil e, ?_⟩) hp
            have : e.off [] = 0 := by cases e <;> rfl
            rw [this, Nat.add_zero]
          · obtain ⟨_, _, _, _, _, _, _, _, q⟩ := put_run h3
            simp only [Eff.pure.injEq] at q
            obtain ⟨rfl, rfl, rfl⟩ := q
            exact absurd hp.1 hb
        · simp [RM.run] at h3
      · simp [RM.run] at h1
    · simp [RM.run] at h1
  · simp [RM.run] at h1
end
end Go.Proofs.Ytmjijggkdbiijaa
/- Moves of values, arithmetic, tests, lengths, parts of values: each is what the slots say. No statement is proved here. -/
namespace Go.Proofs.Ytmjijggkdbiijaa
open Go.RowKit
set_option linter.unusedVariables false
set_option linter.unusedSimpArgs false
section
variable {P : Program} {Γ : Ctx} {w0 : World} {K : Nat → Prop} {lab lab' : Lab} {σ : List Slot} {a : Act} {w w' : World} {C : List Nat} {o : Oper} {pre fact : List Prop} {ws : Wr}
theorem runs_value {v : Value} (h : (execOp a.eval o).run P w = .ok (.value v) w) : Runs P o a w v w := .inl h
theorem good_un (h : Sim w0 K lab σ a w) (hR : Rt C σ) (hC : True) {op : UnOp} {T : Nat} {x : Operand} (ho : o.op = .unOp op T x)
    (hrun : (evUn C o op x).run σ = some (.pure pre fact ws)) (hp : allP pre) : Good P C w0 K lab o σ a w fact ws := by
  obtain ⟨d, h1, h2⟩ := bind_run hrun
  have h3 := rdD_run h h1
  split at h2
  · rename_i b
    have hx := rep_bool h3
    exact good_put h hR hC h2 (v := .bool !b) (fun _ => trivial) (fun _ => runs_value (by unfold execOp; simp [ho, hx, Op.unary])) (fun _ N _ => bool_rep) hp
  · rename_i k n
    obtain ⟨hx, _⟩ := rep_int h3
    refine good_put h hR hC h2 (v := .int k (-n)) (fun _ => trivial) (fun hq => runs_value ?_) (fun hq N _ => int_rep hq.1) hp
    have := wrap_in hq.1
    unfold execOp
    simp [ho, hx, Op.unary, Op.intArith, this]
  · simp [RM.run] at h2
theorem good_convert (h : Sim w0 K lab σ a w) (hR : Rt C σ) (hC : True) (hT : TyOk P Γ) {s d : Nat} {x : Operand} (ho : o.op = .convert s d x)
    (hrun : (evConvert Γ C o s d x).run σ = some (.pure pre fact ws)) (hp : allP pre) : Good P C w0 K lab o σ a w fact ws := by
  unfold evConvert at hrun
  obtain ⟨dd, h1, h2⟩ := bind_run hrun
  have h3 := rdD_run h h1
  split at h2
  · rename_i ts k k' n hs hk
    obtain ⟨hx, _⟩ := rep_int h3
    have hd := (hT.ty d _ hk).int k rfl
    obtain ⟨ds, hds, _⟩ := (hT.ty s ts hs).row
    split at h2
    · refine good_put h hR hC h2 (v := .int k (k.wrap n)) (fun _ => trivial) (fun hq => runs_value ?_) (fun hq N _ => int_rep (wrap_rng k n)) hp
      unfold execOp
      simp [ho, hx, convert, run_underlying hd, run_underlying hds, Conv.intToInt]
    · refine good_put h hR hC h2 (v := .int k n) (fun _ => trivial) (fun hq => runs_value ?_) (fun hq N _ => int_rep hq.1) hp
      have := wrap_in hq.1
      unfold execOp
      simp [ho, hx, convert, run_underlying hd, run_underlying hds, Conv.intToInt, this]
  · simp [RM.run] at h2
theorem good_len (h : Sim w0 K lab σ a w) (hR : Rt C σ) (hC : True) {x : Operand} {c : Call} {T : Nat} {t : Ty} (hT : TyOk P Γ) (ho : o.op = .call c) (hc : c.callee = .builtin .len) (ha : c.args = #[x]) (hty : c.argTypes[0]? = some T) (hTt : Γ.ty T = some t)
    (hrun : (evLen C o t x).run σ = some (.pure pre fact ws)) (hp : allP pre) : Good P C w0 K lab o σ a w fact ws := by
  unfold evLen at hrun
  obtain ⟨d, h1, h2⟩ := bind_run hrun
  have h3 := rdD_run h h1
  have hI := hT.ty T t hTt
  split at h2
  · rename_i te e xs
    split at h2
    · rename_i he
      obtain ⟨cs, hi, hx⟩ := h3
      simp only [RepC, Imm] at hi
      obtain ⟨hl, a', c', flat, rfl, q1, q2, _⟩ := hi
      subst he
      obtain ⟨hu, _⟩ := hI.slice te e rfl
      have hx' : a.eval x = .slice a' xs.length c' := hx
      refine good_put h hR hC h2 (v := .int .i64 xs.length) (fun _ => ⟨by omega, trivial⟩) (fun _ => runs_value ?_) (fun _ N _ => int_rep ⟨by simp only [loK]; omega, by simp only [hiK]; omega⟩) hp
      unfold execOp
      simp [ho, resolve, hc, ha, hty, invoke, builtin, Builtin.len_, run_underlying hu, hx', goInt]
    · simp [RM.run] at h2
  · rename_i s
    split at h2
    · rename_i he
      obtain ⟨cs, hi, hx⟩ := h3
      simp only [RepC, Imm] at hi
      obtain ⟨rfl, hl⟩ := hi
      subst he
      have hu := hI.str rfl
      have hx' : a.eval x = .string s := hx
      refine good_put h hR hC h2 (v := .int .i64 s.size) (fun _ => ⟨by omega, trivial⟩) (fun _ => runs_value ?_) (fun _ N _ => int_rep ⟨by simp only [loK]; omega, by simp only [hiK]; omega⟩) hp
      unfold execOp
      simp [ho, resolve, hc, ha, hty, invoke, builtin, Builtin.len_, run_underlying hu, hx', goInt]
    · simp [RM.run] at h2
  · simp [RM.run] at h2
theorem equal_bool {T : Nat} (hu : P.underlying T = some .bool) (b c : Bool) (w : World) : (Op.equal T (.bool b) (.bool c)).run P w = .ok (b == c) w := by
  have e : Op.equal T (.bool b) (.bool c) = Op.equalIn (9999 + 1) T (.bool b) (.bool c) := rfl
  rw [e, Op.equalIn]
  simp [run_underlying hu]
theorem equal_nil {T te : Nat} (hu : P.underlying T = some (.slice te)) (A : Option Addr) (n c n' c' : Nat) (w : World) : (Op.equal T (.slice A n c) (.slice none n' c')).run P w = .ok A.isNone w := by
  have e : Op.equal T (.slice A n c) (.slice none n' c') = Op.equalIn (9999 + 1) T (.slice A n c) (.slice none n' c') := rfl
  rw [e, Op.equalIn]
  cases A <;> simp [run_underlying hu]
theorem good_nileq (h : Sim w0 K lab σ a w) (hR : Rt C σ) (hC : True) (hT : TyOk P Γ) {T yt : Nat} {x y : Operand} (ho : o.op = .binOp .eql T x y yt) (hy : isNilC y = true)
    (hrun : (evNilEq Γ C o T x).run σ = some (.pure pre fact ws)) (hp : allP pre) : Good P C w0 K lab o σ a w fact ws := by
  unfold evNilEq at hrun
  obtain ⟨d, h1, h2⟩ := bind_run hrun
  have q1 := rdD_run h h1
  split at h2
  · rename_i te e xs
    split at h2
    · rename_i hTy
      obtain ⟨cs, c1, c2⟩ := q1
      simp only [RepC, Imm] at c1
      obtain ⟨hl, A, c, flat, rfl, _, _, _, _, h6⟩ := c1
      obtain ⟨hu, _⟩ := (hT.ty T _ hTy).slice te e rfl
      have hx : a.eval x = .slice A xs.length c := c2
      obtain ⟨n', c', hyv⟩ : ∃ n' c', a.eval y = .slice none n' c' := by
        unfold isNilC at hy
        split at hy
        · exact ⟨_, _, rfl⟩
        · cases hy
      refine good_put h hR hC h2 (v := .bool A.isNone) (fun _ => trivial) (fun _ => runs_value ?_) (fun _ N _ => ⟨A.isNone, rfl, fun hb => ?_⟩) hp
      · unfold execOp
        simp [ho, hx, hyv, eqGuard, binOp, equal_nil hu]
      · cases xs with
        | nil => rfl
        | cons q r =>
          obtain ⟨g, ofs, e9, _⟩ := h6 (by simp)
          rw [e9] at hb; cases hb
    · simp [RM.run] at h2
  · simp [RM.run] at h2
theorem bitsK_is (k : IntKind) : bitsK k = (k.bits : Int) := by cases k <;> rfl
theorem hi_bits (k : IntKind) : hiK k < 2 ^ k.bits := by cases k <;> decide
theorem ofInt_nat {k : IntKind} {a : Int} (h0 : 0 ≤ a) (h : a ≤ hiK k) : (BitVec.ofInt k.bits a).toNat = a.toNat := by
  have h2 := hi_bits k
  have e : ((2 ^ k.bits : Nat) : Int) = 2 ^ k.bits := by simp
  rw [BitVec.toNat_ofInt, Int.emod_eq_of_lt h0 (by rw [e]; omega)]
theorem bit_and {k : IntKind} {m n : Int} (hm : inR k m) (hn : inR k n) (h0 : 0 ≤ m ∧ 0 ≤ n) : ((BitVec.ofInt k.bits m &&& BitVec.ofInt k.bits n).toNat : Int) = ((m.toNat &&& n.toNat : Nat) : Int) := by
  rw [BitVec.toNat_and, ofInt_nat h0.1 hm.2, ofInt_nat h0.2 hn.2]
theorem bit_or {k : IntKind} {m n : Int} (hm : inR k m) (hn : inR k n) (h0 : 0 ≤ m ∧ 0 ≤ n) : ((BitVec.ofInt k.bits m ||| BitVec.ofInt k.bits n).toNat : Int) = ((m.toNat ||| n.toNat : Nat) : Int) := by
  rw [BitVec.toNat_or, ofInt_nat h0.1 hm.2, ofInt_nat h0.2 hn.2]
theorem good_bin (h : Sim w0 K lab σ a w) (hR : Rt C σ) (hC : True) (hT : TyOk P Γ) {op : BinOp} {T yt : Nat} {x y : Operand} (ho : o.op = .binOp op T x y yt)
    (hrun : (evBin Γ C o op T x y).run σ = some (.pure pre fact ws)) (hp : allP pre) : Good P C w0 K lab o σ a w fact ws := by
  unfold evBin at hrun
  obtain ⟨d1, h1, h2⟩ := bind_run hrun
  obtain ⟨d2, h3, h4⟩ := bind_run h2
  have q1 := rdD_run h h1
  have q2 := rdD_run h h3
  split at h4
  · rename_i k m k' n
    obtain ⟨hx, hxr⟩ := rep_int q1
    obtain ⟨hy, hyr⟩ := rep_int q2
    have num : ∀ {z : Int} {pr : List Prop}, (allP pr → loK k ≤ z ∧ z ≤ hiK k → (execOp a.eval o).run P w = .ok (.value (.int k z)) w) → (arith C k z o pr).run σ = some (.pure pre fact ws) → Good P C w0 K lab o σ a w fact ws := by
      intro z pr hz hput
      refine good_put h hR hC hput (v := .int k z) (fun _ => trivial) (fun hq => runs_value ?_) (fun hq N _ => ?_) hp
      · obtain ⟨r1, r2⟩ := allP_append.1 hq
        exact hz r1 r2.1
      · exact int_rep (allP_append.1 hq).2.1
    have tst : ∀ {b : Bool}, (execOp a.eval o).run P w = .ok (.value (.bool b)) w → (Go.Proofs.Ytmjijggkdbiijaa.bool C b o).run σ = some (.pure pre fact ws) → Good P C w0 K lab o σ a w fact ws := by
      intro b hb hput
      exact good_put h hR hC hput (v := .bool b) (fun _ => trivial) (fun _ => runs_value hb) (fun _ N _ => bool_rep) hp
    split at h4 <;> (try (split at h4)) <;> first | (simp [RM.run] at h4; done) | skip
    case h_15 =>
      refine num (fun hb hz => ?_) h4
      obtain ⟨⟨h1, h2⟩, _⟩ := hb
      rw [bitsK_is] at h2
      have h1 : @LE.le Int _ 0 n := h1
      have h2 : @LE.le Int _ n (k.bits : Int) := h2
      have hmin : min n.toNat k.bits = n.toNat := by omega
      have hnl : ¬ @LT.lt Int _ n 0 := by omega
      have e1 : m.fdiv (2 ^ n.toNat) = m / 2 ^ n.toNat := Int.fdiv_eq_ediv_of_nonneg _ (Int.le_of_lt (Int.pow_pos (by decide)))
      unfold execOp; simp [ho, hx, hy, eqGuard, binOp, Op.shift, hnl, hmin, e1]
    case h_14 =>
      refine num (fun hb hz => ?_) h4
      obtain ⟨⟨h1, h2⟩, _⟩ := hb
      rw [bitsK_is] at h2
      have h1 : @LE.le Int _ 0 n := h1
      have h2 : @LE.le Int _ n (k.bits : Int) := h2
      have hmin : min n.toNat k.bits = n.toNat := by omega
      have hnl : ¬ @LT.lt Int _ n 0 := by omega
      have := wrap_in hz
      unfold execOp; simp [ho, hx, hy, eqGuard, binOp, Op.shift, hnl, hmin, this]
    all_goals (rename_i e; subst e)
    · refine num (fun _ hz => ?_) h4; have := wrap_in hz; unfold execOp; simp [ho, hx, hy, eqGuard, binOp, Op.intArith, this]
    · refine num (fun _ hz => ?_) h4; have := wrap_in hz; unfold execOp; simp [ho, hx, hy, eqGuard, binOp, Op.intArith, this]
    · refine num (fun _ hz => ?_) h4; have := wrap_in hz; unfold execOp; simp [ho, hx, hy, eqGuard, binOp, Op.intArith, this]
    · refine num (fun hb hz => ?_) h4; have := wrap_in hz; have hb0 := hb.1; unfold execOp; simp [ho, hx, hy, eqGuard, binOp, Op.intDiv, this, hb0]
    · refine num (fun hb hz => ?_) h4; have hb0 := hb.1; unfold execOp; simp [ho, hx, hy, eqGuard, binOp, Op.intDiv, hb0]
    · exact tst (by unfold execOp; simp [ho, hx, hy, eqGuard, binOp, Op.intCmp]) h4
    · exact tst (by unfold execOp; simp [ho, hx, hy, eqGuard, binOp, Op.intCmp]) h4
    · exact tst (by unfold execOp; simp [ho, hx, hy, eqGuard, binOp, Op.intCmp]) h4
    · exact tst (by unfold execOp; simp [ho, hx, hy, eqGuard, binOp, Op.intCmp]) h4
    · have e : (m == n) = decide (m = n) := by rw [Bool.eq_iff_iff]; simp
      exact tst (by unfold execOp; simp only [ho, hx, hy, eqGuard, binOp, Op.intCmp, e]; simp) h4
    · have e : (m != n) = !decide (m = n) := by rw [Bool.eq_iff_iff]; simp
      exact tst (by unfold execOp; simp only [ho, hx, hy, eqGuard, binOp, Op.intCmp, e]; simp) h4
    · refine num (fun hb hz => ?_) h4
      have e1 := bit_and hxr hyr hb.1
      have e2 := wrap_in hz
      unfold execOp; simp only [ho, hx, hy]; simp [eqGuard, binOp, Op.intBits]
      rw [← e1] at e2 ⊢
      simpa using e2
    · refine num (fun hb hz => ?_) h4
      have e1 := bit_or hxr hyr hb.1
      have e2 := wrap_in hz
      unfold execOp; simp only [ho, hx, hy]; simp [eqGuard, binOp, Op.intBits]
      rw [← e1] at e2 ⊢
      simpa using e2
  · rename_i t m u n _
    split at h4
    · rename_i hu
      subst hu
      split at h4
      · rename_i hty
        obtain ⟨hty, heq⟩ := hty
        split at h4
        · rename_i r hr
          have hr' : eqT u m n = some r := hr
          -- the test
          have hrun : ∀ b, (op = .eql ∧ b = r ∨ op = .neq ∧ b = !r) → (execOp a.eval o).run P w = .ok (.value (.bool b)) w := by
            intro b hb
            obtain ⟨cs, c1, c2⟩ := q1
            obtain ⟨ds, c3, c4⟩ := q2
            cases hag : u.agg with
            | true =>
              obtain ⟨g1, g2⟩ := hT.eq T u hty hag (heq hag) m n r hr'
              have g3 := g2 w _ cs ds c1 c3
              have e1 : a.eval x = .agg cs.toArray := by rw [c2]; exact mk_agg hag cs
              have e2 : a.eval y = .agg ds.toArray := by rw [c4]; exact mk_agg hag ds
              rw [mk_agg hag, mk_agg hag] at g3
              rcases hb with ⟨rfl, rfl⟩ | ⟨rfl, rfl⟩
              · unfold execOp; simp [ho, e1, e2, eqGuard, g1, binOp, g3]
              · unfold execOp; simp [ho, e1, e2, eqGuard, g1, binOp, g3]
            | false =>
              cases u with
              | int k =>
                simp only [RepC, Imm] at c1 c3
                obtain ⟨rfl, _⟩ := c1
                obtain ⟨rfl, _⟩ := c3
                have e1 : a.eval x = .int k m := c2
                have e2 : a.eval y = .int k n := c4
                simp only [eqT, Option.some.injEq] at hr'
                have e3 : (m == n) = r := by rw [← hr', Bool.eq_iff_iff]; simp
                have e4 : (m != n) = !r := by rw [← hr', Bool.eq_iff_iff]; simp
                rcases hb with ⟨rfl, rfl⟩ | ⟨rfl, rfl⟩
                · unfold execOp; simp only [ho, e1, e2, eqGuard, binOp, Op.intCmp, e3]; simp
                · unfold execOp; simp only [ho, e1, e2, eqGuard, binOp, Op.intCmp, e4]; simp
              | bool =>
                simp only [RepC, Imm] at c1 c3
                subst c1 c3
                have e1 : a.eval x = .bool m := c2
                have e2 : a.eval y = .bool n := c4
                simp only [eqT, Option.some.injEq] at hr'
                obtain ⟨d, hd, _⟩ := (hT.ty T _ hty).row
                have hb' := (hT.ty T _ hty).bool rfl
                rcases hb with ⟨rfl, rfl⟩ | ⟨rfl, rfl⟩
                · unfold execOp; simp [ho, e1, e2, eqGuard, binOp, equal_bool hb', hr']
                · unfold execOp; simp [ho, e1, e2, eqGuard, binOp, equal_bool hb', hr']
              | str => simp [eqT] at hr'
              | slice te e => simp [eqT] at hr'
              | map _ _ => simp [eqT] at hr'
              | fn _ _ => simp [eqT] at hr'
              | _ => simp [Ty.agg] at hag
          split at h4
          · exact good_put h hR hC h4 (v := .bool r) (fun _ => trivial) (fun _ => runs_value (hrun r (.inl ⟨rfl, rfl⟩))) (fun _ N _ => bool_rep) hp
          · exact good_put h hR hC h4 (v := .bool !r) (fun _ => trivial) (fun _ => runs_value (hrun (!r) (.inr ⟨rfl, rfl⟩))) (fun _ N _ => bool_rep) hp
          · simp [RM.run] at h4
        · simp [RM.run] at h4
      · simp [RM.run] at h4
    · simp [RM.run] at h4
  · simp [RM.run] at h4
end
end Go.Proofs.Ytmjijggkdbiijaa
/- What of one's own goes over to another slot, or is shared from now on. No statement is proved here. -/
namespace Go.Proofs.Ytmjijggkdbiijaa
open Go.RowKit
set_option linter.unusedVariables false
set_option linter.unusedSimpArgs false
theorem Own.shift {w w' : World} {S S' : Nat → Prop} {L L' : Nat → Nat → Prop} (hS : ∀ g, S g → S' g ∧ w'.heap[g]? = w.heap[g]?) : ∀ {t : Ty} {i i' : Nat} {x : t.T} {cs : List Value},
    (∀ j g, j < t.sz → L (i + j) g → L' (i' + j) g ∧ w'.heap[g]? = w.heap[g]?) → Own w S L i t x cs → Own w' S' L' i' t x cs
  | .int _, _, _, _, _, _, h => by simp only [Own] at h ⊢; exact Imm.keep hS h
  | .bool, _, _, _, _, _, h => by simp only [Own] at h ⊢; exact Imm.keep hS h
  | .str, _, _, _, _, _, h => by simp only [Own] at h ⊢; exact Imm.keep hS h
  | .unit, _, _, _, _, _, h => by simp only [Own] at h ⊢; exact Imm.keep hS h
  | .prod a b, i, i', x, cs, hL, h => by
    simp only [Own] at h ⊢
    refine ⟨Own.shift hS (fun j g hj => hL j g (by simp only [Ty.sz]; omega)) h.1, Own.shift hS (fun j g hj hg => ?_) h.2⟩
    have := hL (a.sz + j) g (by simp only [Ty.sz]; omega) (by rw [← Nat.add_assoc]; exact hg)
    rw [← Nat.add_assoc] at this
    exact this
  | .slice te e, i, i', xs, cs, hL, h => by
    simp only [Own] at h ⊢
    obtain ⟨hl, v, flat, h1, h2, h3, h4⟩ := h
    have hL0 : ∀ g, L i g → L' i' g ∧ w'.heap[g]? = w.heap[g]? := fun g hg => hL 0 g (by simp [Ty.sz]) hg
    exact ⟨hl, v, flat, h1, ownsRow_same h2 fun g hg => (hL0 g (h3 g hg)).2, fun g hg => (hL0 g (h3 g hg)).1, fun j hj => Imm.keep hS (h4 j hj)⟩
  | .arr n e, _, _, _, _, _, h => by simp only [Own] at h ⊢; exact Imm.keep hS h
  | .map k e, i, i', m, cs, hL, h => by
    simp only [Own] at h ⊢
    rcases h with h | ⟨b, xs, es, ck, h1, h2, h3, h4, h5, h6, h8, h7⟩
    · exact .inl h
    · have hL0 := hL 0 b (by simp [Ty.sz]) h3
      refine .inr ⟨b, xs, es, ck, h1, h2, hL0.1, hL0.2.trans h4, h5, h6, h8, fun i hi => ?_⟩
      obtain ⟨en, kc, vc, q1, q2, q3, q4, q5⟩ := h7 i hi
      exact ⟨en, kc, vc, q1, q2, q3, Imm.keep hS q4, OwnE.keep hS (fun g hg => hL 0 g (by simp [Ty.sz]) hg) q5⟩
  | .fn _ _, _, _, _, _, _, h => by simp only [Own] at h ⊢; exact Imm.keep hS h
theorem Own.hole {w w' : World} {S S' : Nat → Prop} {L L' : Nat → Nat → Prop} (hS : ∀ g, S g → S' g ∧ w'.heap[g]? = w.heap[g]?) {te : Nat} {e : Ty} : ∀ {t : Ty} {i : Nat} {x x' : t.T} {p : Path} {cs : List Value},
    Own w S L i t x cs → setS t x p (.slice te e) [] = some x' → (∀ s ∈ p, ∀ k, s ≠ .ix k) → (∀ j g, j < t.sz → j ≠ t.off p → L (i + j) g → L' (i + j) g ∧ w'.heap[g]? = w.heap[g]?) → Own w' S' L' i t x' (splice cs (t.off p) [nilV])
  | t, i, x, x', [], cs, h, hs, _, _ => by
    have h' : (if h : Ty.slice te e = t then some (castT h (([] : List e.T) : (Ty.slice te e).T)) else none) = some x' := by cases t <;> simpa only [setS] using hs
    split at h'
    · rename_i e1; subst e1
      obtain rfl := Option.some.inj h'
      have hl := h.len
      have : (Ty.slice te e).off [] = 0 := rfl
      rw [this, splice_all (by rw [hl]; rfl)]
      simp only [Own, castT]
      exact ⟨by simp, nilV, [], rfl, World.ownsRow_nil w' 0 te e.sz, by simp [nilV, Value.ownBlock], by simp⟩
    · cases h'
  | .prod a b, i, x, x', .fst :: p, cs, h, hs, hx, hL => by
    simp only [setS] at hs
    split at hs
    · rename_i q hq
      obtain rfl := Option.some.inj hs
      have hl := h.len
      have h1 := Ty.off_le (set_at hq) (Ty.inb_flds fun s hs => hx s (by simp [hs]))
      simp only [Ty.sz] at hl h1
      simp only [Own, Ty.off] at h ⊢
      rw [splice_take_of (by simpa using h1) (by omega), splice_drop_of (by simpa using h1) (by omega)]
      refine ⟨Own.hole hS h.1 hq (fun s hs => hx s (by simp [hs])) (fun j g hj hne => hL j g (by simp only [Ty.sz]; omega) (by simp only [Ty.off]; exact hne)), Own.shift hS (fun j g hj hg => ?_) h.2⟩
      have := hL (a.sz + j) g (by simp only [Ty.sz]; omega) (by simp only [Ty.off]; omega) (by rw [← Nat.add_assoc]; exact hg)
      rw [← Nat.add_assoc] at this
      exact this
    · cases hs
  | .prod a b, i, x, x', .snd :: p, cs, h, hs, hx, hL => by
    simp only [setS] at hs
    split at hs
    · rename_i q hq
      obtain rfl := Option.some.inj hs
      have hl := h.len
      have h1 := Ty.off_le (set_at hq) (Ty.inb_flds fun s hs => hx s (by simp [hs]))
      simp only [Ty.sz] at hl h1
      simp only [Own, Ty.off] at h ⊢
      rw [splice_take_le (by omega) (by simp; omega), splice_drop_le (by omega) (by simp; omega), Nat.add_sub_cancel_left]
      refine ⟨Own.shift hS (fun j g hj => hL j g (by simp only [Ty.sz]; omega) (by simp only [Ty.off]; omega)) h.1, Own.hole hS h.2 hq (fun s hs => hx s (by simp [hs])) (fun j g hj hne hg => ?_)⟩
      have := hL (a.sz + j) g (by simp only [Ty.sz]; omega) (by simp only [Ty.off]; omega) (by rw [← Nat.add_assoc]; exact hg)
      rw [← Nat.add_assoc] at this
      exact this
    · cases hs
  | .arr n e', i, xs, x', .ix k :: p, cs, h, hs, hx, _ => absurd rfl (hx (.ix k) (by simp) k)
  | .int _, _, _, _, .fst :: _, _, _, h, _, _ => by simp [setS] at h
  | .int _, _, _, _, .snd :: _, _, _, h, _, _ => by simp [setS] at h
  | .int _, _, _, _, .ix _ :: _, _, _, h, _, _ => by simp [setS] at h
  | .bool, _, _, _, .fst :: _, _, _, h, _, _ => by simp [setS] at h
  | .bool, _, _, _, .snd :: _, _, _, h, _, _ => by simp [setS] at h
  | .bool, _, _, _, .ix _ :: _, _, _, h, _, _ => by simp [setS] at h
  | .str, _, _, _, .fst :: _, _, _, h, _, _ => by simp [setS] at h
  | .str, _, _, _, .snd :: _, _, _, h, _, _ => by simp [setS] at h
  | .str, _, _, _, .ix _ :: _, _, _, h, _, _ => by simp [setS] at h
  | .unit, _, _, _, .fst :: _, _, _, h, _, _ => by simp [setS] at h
  | .unit, _, _, _, .snd :: _, _, _, h, _, _ => by simp [setS] at h
  | .unit, _, _, _, .ix _ :: _, _, _, h, _, _ => by simp [setS] at h
  | .slice _ _, _, _, _, .fst :: _, _, _, h, _, _ => by simp [setS] at h
  | .map _ _, _, _, _, .fst :: _, _, _, h, _, _ => by simp [setS] at h
  | .fn _ _, _, _, _, .fst :: _, _, _, h, _, _ => by simp [setS] at h
  | .slice _ _, _, _, _, .snd :: _, _, _, h, _, _ => by simp [setS] at h
  | .map _ _, _, _, _, .snd :: _, _, _, h, _, _ => by simp [setS] at h
  | .fn _ _, _, _, _, .snd :: _, _, _, h, _, _ => by simp [setS] at h
  | .slice _ _, _, _, _, .ix _ :: _, _, _, h, _, _ => by simp [setS] at h
  | .map _ _, _, _, _, .ix _ :: _, _, _, h, _, _ => by simp [setS] at h
  | .fn _ _, _, _, _, .ix _ :: _, _, _, h, _, _ => by simp [setS] at h
  | .prod _ _, _, _, _, .ix _ :: _, _, _, h, _, _ => by simp [setS] at h
  | .arr _ _, _, _, _, .fst :: _, _, _, h, _, _ => by simp [setS] at h
  | .arr _ _, _, _, _, .snd :: _, _, _, h, _, _ => by simp [setS] at h
section
variable {P : Program} {Γ : Ctx} {w0 : World} {K : Nat → Prop} {lab lab' : Lab} {σ : List Slot} {a : Act} {w w' : World} {C : List Nat} {o : Oper} {pre fact : List Prop} {ws : Wr}
/-- Where something of one's own is taken from: slot M's cells from place off on. -/
inductive Src (lab : Lab) (σ : List Slot) (a : Act) (w : World) (x : Operand) : (t : Ty) → t.T → Wr → Wr → Prop where
  | nil {te : Nat} {e : Ty} (hx : a.eval x = nilV) : Src lab σ a w x (.slice te e) [] [] []
  | own {n : Nat} {t : Ty} {y : t.T} (hx : x = .tmp n) (hn : σ.getD n .dead = .own t y) : Src lab σ a w x t y [(n, .dead)] [(n, .val (.dat t y))]
  | frm {n M : Nat} {t : Ty} {y : t.T} (hx : x = .tmp n) (hn : σ.getD n .dead = .frm M []) (hM : σ.getD M .dead = .own t y) : Src lab σ a w x t y [(n, .dead), (M, .dead)] [(n, .val (.dat t y)), (M, .val (.dat t y))]
  | box {n M : Nat} {t : Ty} {y : t.T} (hx : x = .tmp n) (hn : σ.getD n .dead = .frm M []) (hM : σ.getD M .dead = .boxo t y) : Src lab σ a w x t y [(n, .dead), (M, .dead)] [(n, .val (.dat t y)), (M, .box (.dat t y))]
  | fld {n M : Nat} {p : Path} {t : Ty} {x0 x' : t.T} {te : Nat} {e : Ty} {ys : (Ty.slice te e).T} (hx : x = .tmp n) (hn : σ.getD n .dead = .frm M p) (hM : σ.getD M .dead = .boxo t x0) (hg : getS t x0 p = .dat (.slice te e) ys) (hs : setS t x0 p (.slice te e) [] = some x')
      (hno : ∀ s ∈ p, ∀ k, s ≠ .ix k) : Src lab σ a w x (.slice te e) ys [(n, .dead), (M, .boxh t x' p)] [(n, .val (.dat (.slice te e) ys)), (M, .box (.dat t x0))]
theorem take_run (h : Sim w0 K lab σ a w) {ty : Option Ty} {x : Operand} {k : Tk} (hr : (take ty x).run σ = some k) : RepV w (All w) k.d (a.eval x) ∧
    ((k.own = false ∧ RepV w (Fz lab w) k.d (a.eval x) ∧ k.mv = [] ∧ k.fz = []) ∨ (k.own = true ∧ ∃ t y, k.d = .dat t y ∧ Src lab σ a w x t y k.mv k.fz)) := by
  have val : ∀ {d : D}, RepV w (Fz lab w) d (a.eval x) → RepV w (All w) d (a.eval x) := fun h => RepV.keep (fun g hg => ⟨hg.all, rfl⟩) h
  have cnst : ∀ {ty : Option Ty}, (∀ n, x ≠ .tmp n) → (do match ← opv ty x with | .val d => RM.ret ⟨false, d, [], []⟩ | .own t x => RM.ret ⟨true, .dat t x, [], []⟩ | _ => RM.fail : RM Tk).run σ = some k → RepV w (All w) k.d (a.eval x) ∧
    ((k.own = false ∧ RepV w (Fz lab w) k.d (a.eval x) ∧ k.mv = [] ∧ k.fz = []) ∨ (k.own = true ∧ ∃ t y, k.d = .dat t y ∧ Src lab σ a w x t y k.mv k.fz)) := by
    intro ty hx hr
    obtain ⟨s, h1, h2⟩ := bind_run hr
    obtain ⟨N, h3⟩ := opv_run h h1
    split at h2
    · simp only [RM.run, Option.some.injEq] at h2; subst h2
      exact ⟨val h3, .inl ⟨rfl, h3, rfl, rfl⟩⟩
    · rename_i t y
      simp only [RM.run, Option.some.injEq] at h2; subst h2
      have h4 := asD_run h h3 (d := .dat t y) rfl
      refine ⟨h4, .inr ⟨rfl, t, y, rfl, ?_⟩⟩
      cases x with
      | tmp n => exact absurd rfl (hx n)
      | const v =>
        simp only [opv] at h1
        unfold constSlot at h1
        split at h1 <;> try (simp [RM.run] at h1; done)
        · split at h1 <;> simp [RM.run] at h1
        · split at h1 <;> simp [RM.run] at h1
        · split at h1
          · simp only [RM.run, Option.some.injEq, Slot.own.injEq] at h1
            obtain ⟨rfl, e⟩ := h1
            obtain rfl := eq_of_heq e
            exact .nil rfl
          · simp [RM.run] at h1
      | func f => simp [opv, RM.run] at h1
      | global g => simp [opv, RM.run] at h1
    · simp [RM.run] at h2
  cases x with
  | tmp n =>
    simp only [take, RM.run] at hr
    have hn := h.slots n
    have hev : a.eval (.tmp n) = a.tmps.getD n undef := rfl
    generalize hσ : σ.getD n .dead = s at hr hn
    cases s with
    | val d =>
      simp only [takeAt, RM.run, Option.some.injEq] at hr; subst hr
      exact ⟨val hn, .inl ⟨rfl, hn, rfl, rfl⟩⟩
    | own t y =>
      simp only [takeAt, RM.run, Option.some.injEq] at hr; subst hr
      exact ⟨asD_run h hn (d := .dat t y) rfl, .inr ⟨rfl, t, y, rfl, .own rfl hσ⟩⟩
    | frm M p =>
      have hrep : ∀ {d : D}, (asD (.frm M p)).run σ = some d → RepV w (All w) d (a.eval (.tmp n)) := fun hd => asD_run h hn hd
      have hfz : ∀ {t : Ty} {y : t.T}, (σ.getD M .dead = .val (.dat t y) ∨ σ.getD M .dead = .box (.dat t y)) → RepV w (Fz lab w) (getS t y p) (a.eval (.tmp n)) := by
        intro t y hM
        obtain ⟨u, cs, q1, q2⟩ := hn
        have hat : t.at p = some u := by
          rcases q1.2 with ⟨_, _, t', _, q2, _, q3, _⟩ | ⟨q1, _, q2, _⟩
          · rcases hM with e | e <;> rw [e] at q2 <;> simp only [Slot.rty, Option.some.injEq, reduceCtorEq] at q2 <;> subst q2 <;> exact q3
          · rcases hM with e | e <;> rw [e] at q2 <;> simp only [Slot.vty, Option.some.injEq, reduceCtorEq] at q2 <;> subst q1 q2 <;> exact Ty.at_nil _
        obtain ⟨z, hz⟩ := getS_of_at (x := y) hat
        have hM5 : σ.getD M .dead = .own t y ∨ σ.getD M .dead = .val (.dat t y) ∨ σ.getD M .dead = .boxo t y ∨ σ.getD M .dead = .box (.dat t y) ∨ σ.getD M .dead = .val (.ref (.dat t y)) := by
          rcases hM with e | e
          · exact .inr (.inl e)
          · exact .inr (.inr (.inr (.inl e)))
        have hs := h.slots M
        rw [hz, hev, q2]
        -- the cells of the place, such as nobody writes
        rcases hM with e | e
        · rw [e] at hs
          obtain ⟨ds, r1, r2⟩ := hs
          rcases q1.2 with ⟨_, _, t', _, r3, _⟩ | ⟨rfl, _, r3, r4⟩
          · rw [e] at r3; cases r3
          · rw [e] at r3
            simp only [Slot.vty, Option.some.injEq] at r3
            subst r3
            have e0 : getS t y [] = .dat t y := by cases t <;> rfl
            have e1 : D.dat t y = .dat t z := by rw [← e0]; exact hz
            obtain ⟨_, e2⟩ := D.dat.inj e1
            obtain rfl := eq_of_heq e2
            rw [r2] at r4
            rw [← r4]
            exact ⟨ds, r1, rfl⟩
        · rw [e] at hs
          obtain ⟨g, ty, ds, r1, r2, r3, r4⟩ := hs
          rcases q1.2 with ⟨g', o', t', s1, s2, s3, s4, s5⟩ | ⟨_, _, s2, _⟩
          · rw [e] at s2
            simp only [Slot.rty, Option.some.injEq] at s2
            subst s2
            rw [r1] at s1
            simp only [Value.pointer.injEq, Option.some.injEq, Addr.mk.injEq] at s1
            obtain ⟨rfl, rfl, _⟩ := s1
            obtain ⟨_, s6⟩ := Imm.get (p := p) r4 hz s3
            have hds : w.rangeAt g 0 ds := fun j v hv => by rw [Nat.zero_add, cell_of_row w g j ds.toArray ty (0, 0) r3]; simpa using hv
            have : cs = (ds.drop (t.off p)).take u.sz := by
              have hl : cs.length = ((ds.drop (t.off p)).take u.sz).length := by rw [q1.1, s6.len]
              apply List.ext_getElem hl
              intro i h1 h2
              have a1 := s5 i _ (List.getElem?_eq_getElem h1)
              have a2 := range_part hds i _ (List.getElem?_eq_getElem h2)
              rw [a1] at a2
              exact Option.some.inj a2
            rw [this]
            exact ⟨_, s6, rfl⟩
          · rw [e] at s2; cases s2
      simp only [takeAt, RM.run] at hr
      split at hr
      · rename_i t y hM
        split at hr
        · rename_i hp; subst hp
          simp only [RM.run, Option.some.injEq] at hr; subst hr
          have hget : getS t y [] = .dat t y := by cases t <;> rfl
          refine ⟨?_, .inr ⟨rfl, t, y, rfl, .frm rfl hσ hM⟩⟩
          rw [← hget]; exact hrep (by simp only [asD, RM.run]; rw [hM]; rfl)
        · simp [RM.run] at hr
      · rename_i t y hM
        simp only [RM.run, Option.some.injEq] at hr; subst hr
        exact ⟨val (hfz (.inl hM)), .inl ⟨rfl, hfz (.inl hM), rfl, rfl⟩⟩
      · rename_i t y hM
        simp only [RM.run, Option.some.injEq] at hr; subst hr
        exact ⟨val (hfz (.inr hM)), .inl ⟨rfl, hfz (.inr hM), rfl, rfl⟩⟩
      · rename_i t y hM
        split at hr
        · rename_i hp; subst hp
          simp only [RM.run, Option.some.injEq] at hr; subst hr
          have hget : getS t y [] = .dat t y := by cases t <;> rfl
          refine ⟨?_, .inr ⟨rfl, t, y, rfl, .box rfl hσ hM⟩⟩
          rw [← hget]; exact hrep (by simp only [asD, RM.run]; rw [hM]; rfl)
        · split at hr
          · rename_i te e ys hg
            split at hr
            · rename_i x' hs
              split at hr
              · rename_i hno
                simp only [RM.run, Option.some.injEq] at hr; subst hr
                refine ⟨?_, .inr ⟨rfl, _, ys, rfl, .fld rfl hσ hM hg hs ?_⟩⟩
                · rw [← hg]; exact hrep (by simp only [asD, RM.run]; rw [hM]; rfl)
                · intro s hs' k e1
                  have := List.all_eq_true.1 hno s hs'
                  subst e1; simp at this
              · simp [RM.run] at hr
            · simp [RM.run] at hr
          · simp [RM.run] at hr
      · simp [RM.run] at hr
    | _ => simp [takeAt, RM.run] at hr
  | const v => exact cnst (by simp) hr
  | func f => exact cnst (by simp) hr
  | global g => exact cnst (by simp) hr
end
end Go.Proofs.Ytmjijggkdbiijaa
/- Going over, and sharing: the labels behind it. No statement is proved here. -/
namespace Go.Proofs.Ytmjijggkdbiijaa
open Go.RowKit
set_option linter.unusedVariables false
set_option linter.unusedSimpArgs false
/-- What slot M owns from place off on goes to slot N. -/
def giveL (M N off sz d : Nat) (lab : Lab) : Lab := fun g =>
  match lab g with
  | some (M', 0, m) => if M' = M ∧ off < m ∧ m ≤ off + sz then some (N, 0, m - off + d) else some (M', 0, m)
  | x => x
/-- What the slots of F own is shared from now on; their variables stay theirs. -/
def dropL (F : List Nat) (lab : Lab) : Lab := fun g =>
  match lab g with
  | some (M, 0, m + 1) => if F.contains M then none else some (M, 0, m + 1)
  | x => x
theorem giveL_none {M N off sz d : Nat} {lab : Lab} {g : Nat} (h : lab g = none) : giveL M N off sz d lab g = none := by simp [giveL, h]
theorem giveL_none' {M N off sz d : Nat} {lab : Lab} {g : Nat} (h : giveL M N off sz d lab g = none) : lab g = none := by
  unfold giveL at h
  split at h
  · split at h <;> cases h
  · exact h
theorem giveL_box {M N off sz d : Nat} {lab : Lab} {g M' : Nat} (h : lab g = some (M', 0, 0)) : giveL M N off sz d lab g = some (M', 0, 0) := by
  simp only [giveL, h]; rw [if_neg (by omega)]
theorem dropL_none {F : List Nat} {lab : Lab} {g : Nat} (h : lab g = none) : dropL F lab g = none := by simp [dropL, h]
theorem giveL_some {M N off sz d : Nat} {lab : Lab} {g : Nat} {p : Nat × Nat × Nat} (h : giveL M N off sz d lab g = some p) : ∃ q, lab g = some q := by
  cases hl : lab g with
  | none => rw [giveL_none hl] at h; cases h
  | some q => exact ⟨q, rfl⟩
theorem dropL_some {F : List Nat} {lab : Lab} {g : Nat} {p : Nat × Nat × Nat} (h : dropL F lab g = some p) : lab g = some p := by
  unfold dropL at h
  split at h
  · split at h
    · cases h
    · rename_i h1 _; rw [h1]; exact h
  · exact h
theorem giveL_other {M N off sz d : Nat} {lab : Lab} {g M' k m : Nat} (hM : M' ≠ M) (h : lab g = some (M', k, m)) : giveL M N off sz d lab g = some (M', k, m) := by
  simp only [giveL, h]
  split
  · rename_i e
    simp only [Option.some.injEq, Prod.mk.injEq] at e
    obtain ⟨rfl, rfl, rfl⟩ := e
    rw [if_neg (fun q => hM q.1)]
  · rfl
theorem giveL_in {M N off sz d : Nat} {lab : Lab} {g m : Nat} (h : lab g = some (M, 0, m)) (h1 : off < m) (h2 : m ≤ off + sz) : giveL M N off sz d lab g = some (N, 0, m - off + d) := by
  simp only [giveL, h]; rw [if_pos ⟨trivial, h1, h2⟩]
theorem giveL_out {M N off sz d : Nat} {lab : Lab} {g m : Nat} (h : lab g = some (M, 0, m)) (h1 : ¬ (off < m ∧ m ≤ off + sz)) : giveL M N off sz d lab g = some (M, 0, m) := by
  simp only [giveL, h]; rw [if_neg (fun q => h1 q.2)]
theorem dropL_other {F : List Nat} {lab : Lab} {g M k m : Nat} (hM : M ∉ F) (h : lab g = some (M, k, m)) : dropL F lab g = some (M, k, m) := by
  simp only [dropL, h]
  split
  · rename_i e
    simp only [Option.some.injEq, Prod.mk.injEq] at e
    obtain ⟨rfl, rfl, rfl⟩ := e
    rw [if_neg (by simpa using hM)]
  · rfl
theorem dropL_in {F : List Nat} {lab : Lab} {g M m : Nat} (hM : M ∈ F) (h : lab g = some (M, 0, m + 1)) : dropL F lab g = none := by
  simp only [dropL, h]; rw [if_pos (by simpa using hM)]
theorem dropL_box {F : List Nat} {lab : Lab} {g M : Nat} (h : lab g = some (M, 0, 0)) : dropL F lab g = some (M, 0, 0) := by simp [dropL, h]
section
variable {P : Program} {Γ : Ctx} {w0 : World} {K : Nat → Prop} {lab lab' : Lab} {σ : List Slot} {a : Act} {w w' : World} {C : List Nat} {o : Oper} {pre fact : List Prop} {ws : Wr}
theorem Fz.give {M N off sz d g : Nat} (h : Fz lab w g) : Fz (giveL M N off sz d lab) w g := ⟨giveL_none h.1, h.2⟩
theorem Fz.drop {F : List Nat} {g : Nat} (h : Fz lab w g) : Fz (dropL F lab) w g := ⟨dropL_none h.1, h.2⟩
/-- Something of one's own goes over to slot N. -/
theorem Src.move (h : Sim w0 K lab σ a w) {x : Operand} {t : Ty} {y : t.T} {mv fz : Wr} (hs : Src lab σ a w x t y mv fz) {N : Nat} (hN : ∀ e ∈ mv, e.1 ≠ N) (d : Nat := 0) : ∃ lab' : Lab,
    (∀ g, lab' g = none ↔ lab g = none) ∧ (∀ g p, lab' g = some p → ∃ q, lab g = some q) ∧ (∀ M, (∀ e ∈ mv, e.1 ≠ M) → ∀ g k m, lab g = some (M, k, m) → lab' g = some (M, k, m)) ∧
    (∃ cs, a.eval x = t.mk cs ∧ Own w (Fz lab' w) (Lb lab' N 0) d t y cs) ∧ (∀ g M, lab g = some (M, 0, 0) → lab' g = some (M, 0, 0)) ∧
    ∀ e ∈ mv, e.2.root = none ∧ SlotOk lab' w [] #[] e.1 e.2 (a.tmps.getD e.1 undef) ∧ (e.2 = .dead ∨ (σ.getD e.1 .dead).root ≠ none ∨ (e.2.rty = (σ.getD e.1 .dead).rty ∧ e.2.vty = (σ.getD e.1 .dead).vty ∧ ∀ g, lab g = some (e.1, 0, 0) → w.heap[g]? = w.heap[g]?)) := by
  -- from slot M's cells
  have go : ∀ {M off : Nat} {cs : List Value}, M ∈ mv.map (·.1) → Own w (Fz lab w) (Lb lab M 0) off t y cs → Own w (Fz (giveL M N off t.sz d lab) w) (Lb (giveL M N off t.sz d lab) N 0) d t y cs := by
    intro M off cs hM ho
    refine ho.shift (fun g hg => ⟨hg.give, rfl⟩) (fun j g hj hg => ⟨?_, rfl⟩)
    have : lab g = some (M, 0, off + j + 1) := hg
    have := giveL_in (N := N) (off := off) (sz := t.sz) (d := d) this (by omega) (by omega)
    unfold Lb
    rw [this]
    congr 3
    omega
  have gen : ∀ {M off : Nat}, M ∈ mv.map (·.1) → (∀ g, giveL M N off t.sz d lab g = none ↔ lab g = none) ∧ (∀ g p, giveL M N off t.sz d lab g = some p → ∃ q, lab g = some q) ∧ (∀ M', (∀ e ∈ mv, e.1 ≠ M') → ∀ g k m, lab g = some (M', k, m) → giveL M N off t.sz d lab g = some (M', k, m)) := by
    intro M off hM
    refine ⟨fun g => ⟨fun hg => giveL_none' hg, fun hg => giveL_none hg⟩, fun g p hg => giveL_some hg, fun M' hM' g k m hg => giveL_other ?_ hg⟩
    rintro rfl
    obtain ⟨e, he, rfl⟩ := List.mem_map.1 hM
    exact hM' e he rfl
  cases hs with
  | nil hx =>
    refine ⟨lab, fun _ => Iff.rfl, fun g p h => ⟨p, h⟩, fun _ _ _ _ _ h => h, ⟨[nilV], hx, ?_⟩, fun _ _ h => h, by simp⟩
    simp only [Own]
    exact ⟨by simp, nilV, [], rfl, World.ownsRow_nil w 0 _ _, by simp [nilV, Value.ownBlock], by simp⟩
  | @own n _ _ hx hn =>
    have hs := h.slots n
    rw [hn] at hs
    obtain ⟨cs, h1, h2⟩ := hs
    have hm : n ∈ ([(n, Slot.dead)] : Wr).map (·.1) := by simp
    obtain ⟨g1, g2, g3⟩ := gen (off := 0) hm
    refine ⟨giveL n N 0 t.sz d lab, g1, g2, g3, ⟨cs, by rw [hx]; exact h1, go hm h2⟩, fun _ _ h => giveL_box h, fun e he => ?_⟩
    simp only [List.mem_singleton] at he; subst he
    exact ⟨rfl, trivial, .inl rfl⟩
  | @frm n M _ _ hx hn hM =>
    have hs := h.slots M
    rw [hM] at hs
    obtain ⟨cs, h1, h2⟩ := hs
    have hm : M ∈ ([(n, Slot.dead), (M, Slot.dead)] : Wr).map (·.1) := by simp
    obtain ⟨g1, g2, g3⟩ := gen (off := 0) hm
    have hv : a.eval x = a.tmps.getD M undef := by
      have hf := h.slots n
      rw [hn] at hf
      obtain ⟨u, ds, q1, q2⟩ := hf
      rw [hx]
      show a.tmps.getD n undef = _
      rcases q1.2 with ⟨_, _, _, _, r, _⟩ | ⟨_, _, r, r2⟩
      · rw [hM] at r; cases r
      · rw [q2, r2]
    refine ⟨giveL M N 0 t.sz d lab, g1, g2, g3, ⟨cs, by rw [hv]; exact h1, go hm h2⟩, fun _ _ h => giveL_box h, fun e he => ?_⟩
    simp only [List.mem_cons, List.not_mem_nil, or_false] at he
    rcases he with rfl | rfl
    · exact ⟨rfl, trivial, .inl rfl⟩
    · exact ⟨rfl, trivial, .inl rfl⟩
  | @box n M _ _ hx hn hM =>
    have hs := h.slots M
    rw [hM] at hs
    obtain ⟨g, ty, cs, h1, h2, h3, h4⟩ := hs
    have hm : M ∈ ([(n, Slot.dead), (M, Slot.dead)] : Wr).map (·.1) := by simp
    obtain ⟨g1, g2, g3⟩ := gen (off := 0) hm
    have hv : a.eval x = t.mk cs := by
      have hf := h.slots n
      rw [hn] at hf
      obtain ⟨u, ds, q1, q2⟩ := hf
      rw [hx]
      show a.tmps.getD n undef = _
      rcases q1.2 with ⟨g', o', t', r1, r2, r3, r4, r5⟩ | ⟨_, _, r, r2⟩
      · rw [hM] at r2
        simp only [Slot.rty, Option.some.injEq] at r2
        subst r2
        rw [h1] at r1
        simp only [Value.pointer.injEq, Option.some.injEq, Addr.mk.injEq] at r1
        obtain ⟨rfl, rfl, _⟩ := r1
        rw [Ty.at_nil] at r4
        obtain rfl := Option.some.inj r4
        have hoff : t.off [] = 0 := by cases t <;> rfl
        rw [q2]
        congr 1
        have hl : ds.length = cs.length := by rw [q1.1, h4.len]
        apply List.ext_getElem hl
        intro i i1 i2
        have a1 := r5 i _ (List.getElem?_eq_getElem i1)
        rw [hoff, Nat.add_zero, Nat.zero_add, cell_of_row w g i cs.toArray ty (0, 0) h3] at a1
        simp only [List.getElem?_toArray, List.getElem?_eq_getElem i2, Option.some.injEq] at a1
        exact a1.symm
      · rw [hM] at r; cases r
    refine ⟨giveL M N 0 t.sz d lab, g1, g2, g3, ⟨cs, hv, go hm h4⟩, fun _ _ h => giveL_box h, fun e he => ?_⟩
    simp only [List.mem_cons, List.not_mem_nil, or_false] at he
    rcases he with rfl | rfl
    · exact ⟨rfl, trivial, .inl rfl⟩
    · exact ⟨rfl, trivial, .inl rfl⟩
  | @fld n M p t0 x0 x' te e ys hx hn hM hg hs hno =>
    have hsl := h.slots M
    rw [hM] at hsl
    obtain ⟨g, ty, cs, h1, h2, h3, h4⟩ := hsl
    have hm : M ∈ ([(n, Slot.dead), (M, Slot.boxh t0 x' p)] : Wr).map (·.1) := by simp
    obtain ⟨g1, g2, g3⟩ := gen (off := t0.off p) hm
    have hin : t0.inb p := Ty.inb_flds hno
    obtain ⟨hat, hown⟩ := Own.get h4 hg hin (fun _ => hno)
    rw [Nat.zero_add] at hown
    have hle := Ty.off_le hat hin
    have hlen := h4.len
    have hv : a.eval x = (Ty.slice te e).mk ((cs.drop (t0.off p)).take (Ty.slice te e).sz) := by
      have hf := h.slots n
      rw [hn] at hf
      obtain ⟨u, ds, q1, q2⟩ := hf
      rw [hx]
      show a.tmps.getD n undef = _
      rcases q1.2 with ⟨g', o', t', r1, r2, r3, r4, r5⟩ | ⟨_, _, r, r2⟩
      · rw [hM] at r2
        simp only [Slot.rty, Option.some.injEq] at r2
        subst r2
        rw [h1] at r1
        simp only [Value.pointer.injEq, Option.some.injEq, Addr.mk.injEq] at r1
        obtain ⟨rfl, rfl, _⟩ := r1
        rw [hat] at r4
        obtain rfl := Option.some.inj r4
        rw [q2]
        congr 1
        have hl : ds.length = ((cs.drop (t0.off p)).take (Ty.slice te e).sz).length := by rw [q1.1, hown.len]
        apply List.ext_getElem hl
        intro i i1 i2
        have a1 := r5 i _ (List.getElem?_eq_getElem i1)
        rw [Nat.zero_add, cell_of_row w g _ cs.toArray ty (0, 0) h3] at a1
        have a2 : ((cs.drop (t0.off p)).take (Ty.slice te e).sz)[i]? = cs[t0.off p + i]? := by
          rw [List.getElem?_take_of_lt (by rw [q1.1] at i1; exact i1), List.getElem?_drop]
        rw [List.getElem?_eq_getElem i2] at a2
        simp only [List.getElem?_toArray] at a1
        rw [a1] at a2
        exact (Option.some.inj a2).symm
      · rw [hM] at r; cases r
    refine ⟨giveL M N (t0.off p) (Ty.slice te e).sz d lab, g1, g2, g3, ⟨_, hv, go hm hown⟩, fun _ _ h => giveL_box h, fun e' he => ?_⟩
    simp only [List.mem_cons, List.not_mem_nil, or_false] at he
    rcases he with rfl | rfl
    · exact ⟨rfl, trivial, .inl rfl⟩
    · refine ⟨rfl, ⟨g, ty, cs, h1, ?_, h3, by simp only [Ty.sz] at hle; omega, ?_⟩, .inr (.inr ⟨by rw [hM]; rfl, by rw [hM]; rfl, fun _ _ => rfl⟩)⟩
      · exact giveL_out h2 (by omega)
      · refine Own.hole (fun g hg => ⟨hg.give, rfl⟩) h4 hs hno fun j g hj hne hg => ⟨?_, rfl⟩
        have : lab g = some (M, 0, 0 + j + 1) := hg
        exact giveL_out this (by simp only [Ty.sz]; omega)
/-- Something of one's own is shared from now on. -/
theorem Src.share (h : Sim w0 K lab σ a w) {x : Operand} {t : Ty} {y : t.T} {mv fz : Wr} (hs : Src lab σ a w x t y mv fz) {F : List Nat} (hF : ∀ e ∈ fz, e.1 ∈ F) :
    RepV w (Fz (dropL F lab) w) (.dat t y) (a.eval x) ∧
    ∀ e ∈ fz, e.2.root = none ∧ SlotOk (dropL F lab) w [] #[] e.1 e.2 (a.tmps.getD e.1 undef) ∧ (e.2 = .dead ∨ (σ.getD e.1 .dead).root ≠ none ∨ (e.2.rty = (σ.getD e.1 .dead).rty ∧ e.2.vty = (σ.getD e.1 .dead).vty ∧ ∀ g, lab g = some (e.1, 0, 0) → w.heap[g]? = w.heap[g]?)) := by
  have imm : ∀ {M i : Nat} {t : Ty} {y : t.T} {cs : List Value}, M ∈ F → Own w (Fz lab w) (Lb lab M 0) i t y cs → Imm w (Fz (dropL F lab) w) t y cs := by
    intro M i t y cs hM ho
    exact ho.imm (fun g hg => hg.drop) (fun j g hg => ⟨dropL_in hM hg, h.owns hg⟩)
  cases hs with
  | nil hx =>
    refine ⟨⟨[nilV], ?_, hx⟩, by simp⟩
    simp only [RepC, Imm]
    exact ⟨by simp, none, 0, [], rfl, by simp, by simp [maxLen], by simp, by simp, by simp⟩
  | @own n _ _ hx hn =>
    have hs := h.slots n
    rw [hn] at hs
    obtain ⟨cs, h1, h2⟩ := hs
    have hr : RepV w (Fz (dropL F lab) w) (.dat t y) (a.tmps.getD n undef) := ⟨cs, imm (hF (n, .val (.dat t y)) (by simp)) h2, h1⟩
    refine ⟨by rw [hx]; exact hr, fun e he => ?_⟩
    simp only [List.mem_singleton] at he; subst he
    exact ⟨rfl, hr, .inr (.inr ⟨by rw [hn]; rfl, by rw [hn]; rfl, fun _ _ => rfl⟩)⟩
  | @frm n M _ _ hx hn hM =>
    have hs := h.slots M
    rw [hM] at hs
    obtain ⟨cs, h1, h2⟩ := hs
    have hv : a.tmps.getD n undef = a.tmps.getD M undef := by
      have hf := h.slots n
      rw [hn] at hf
      obtain ⟨u, ds, q1, q2⟩ := hf
      rcases q1.2 with ⟨_, _, _, _, r, _⟩ | ⟨_, _, r, r2⟩
      · rw [hM] at r; cases r
      · rw [q2, r2]
    have hr : RepV w (Fz (dropL F lab) w) (.dat t y) (a.tmps.getD M undef) := ⟨cs, imm (hF (M, .val (.dat t y)) (by simp)) h2, h1⟩
    refine ⟨by rw [hx]; show RepV w _ _ (a.tmps.getD n undef); rw [hv]; exact hr, fun e he => ?_⟩
    simp only [List.mem_cons, List.not_mem_nil, or_false] at he
    rcases he with rfl | rfl
    · exact ⟨rfl, by show RepV w _ _ (a.tmps.getD n undef); rw [hv]; exact hr, .inr (.inl (by rw [hn]; simp [Slot.root]))⟩
    · exact ⟨rfl, hr, .inr (.inr ⟨by rw [hM]; rfl, by rw [hM]; rfl, fun _ _ => rfl⟩)⟩
  | @box n M _ _ hx hn hM =>
    obtain ⟨lab2, _, _, _, _, _, _⟩ := Src.move h (Src.box hx hn hM) (N := n + M + 1) (by simp; omega)
    have hread := (asD_run h (h.slots n) (d := getS t y []) (by rw [hn]; simp only [asD, RM.run]; rw [hM]; rfl))
    have hs := h.slots M
    rw [hM] at hs
    obtain ⟨g, ty, cs, h1, h2, h3, h4⟩ := hs
    have hget : getS t y [] = .dat t y := by cases t <;> rfl
    have hMF : M ∈ F := hF (M, .box (.dat t y)) (by simp)
    have hv : a.tmps.getD n undef = t.mk cs := by
      have hf := h.slots n
      rw [hn] at hf
      obtain ⟨u, ds, q1, q2⟩ := hf
      rcases q1.2 with ⟨g', o', t', r1, r2, r3, r4, r5⟩ | ⟨_, _, r, r2⟩
      · rw [hM] at r2
        simp only [Slot.rty, Option.some.injEq] at r2
        subst r2
        rw [h1] at r1
        simp only [Value.pointer.injEq, Option.some.injEq, Addr.mk.injEq] at r1
        obtain ⟨rfl, rfl, _⟩ := r1
        rw [Ty.at_nil] at r4
        obtain rfl := Option.some.inj r4
        have hoff : t.off [] = 0 := by cases t <;> rfl
        rw [q2]
        congr 1
        have hl : ds.length = cs.length := by rw [q1.1, h4.len]
        apply List.ext_getElem hl
        intro i i1 i2
        have a1 := r5 i _ (List.getElem?_eq_getElem i1)
        rw [hoff, Nat.add_zero, Nat.zero_add, cell_of_row w g i cs.toArray ty (0, 0) h3] at a1
        simp only [List.getElem?_toArray, List.getElem?_eq_getElem i2, Option.some.injEq] at a1
        exact a1.symm
      · rw [hM] at r; cases r
    have hr : RepV w (Fz (dropL F lab) w) (.dat t y) (a.tmps.getD n undef) := ⟨cs, imm hMF h4, hv⟩
    refine ⟨by rw [hx]; exact hr, fun e he => ?_⟩
    simp only [List.mem_cons, List.not_mem_nil, or_false] at he
    rcases he with rfl | rfl
    · exact ⟨rfl, hr, .inr (.inl (by rw [hn]; simp [Slot.root]))⟩
    · exact ⟨rfl, ⟨g, ty, cs, h1, dropL_box h2, h3, imm hMF h4⟩, .inr (.inr ⟨by rw [hM]; rfl, by rw [hM]; rfl, fun _ _ => rfl⟩)⟩
  | @fld n M p t0 x0 x' te e ys hx hn hM hg hs hno =>
    have hsl := h.slots M
    rw [hM] at hsl
    obtain ⟨g, ty, cs, h1, h2, h3, h4⟩ := hsl
    have hMF : M ∈ F := hF (M, .box (.dat t0 x0)) (by simp)
    have hin : t0.inb p := Ty.inb_flds hno
    obtain ⟨hat, himm⟩ := Imm.get (imm hMF h4) hg hin
    have hv : a.tmps.getD n undef = (Ty.slice te e).mk ((cs.drop (t0.off p)).take (Ty.slice te e).sz) := by
      have hf := h.slots n
      rw [hn] at hf
      obtain ⟨u, ds, q1, q2⟩ := hf
      rcases q1.2 with ⟨g', o', t', r1, r2, r3, r4, r5⟩ | ⟨_, _, r, r2⟩
      · rw [hM] at r2
        simp only [Slot.rty, Option.some.injEq] at r2
        subst r2
        rw [h1] at r1
        simp only [Value.pointer.injEq, Option.some.injEq, Addr.mk.injEq] at r1
        obtain ⟨rfl, rfl, _⟩ := r1
        rw [hat] at r4
        obtain rfl := Option.some.inj r4
        rw [q2]
        congr 1
        have hl : ds.length = ((cs.drop (t0.off p)).take (Ty.slice te e).sz).length := by rw [q1.1, himm.len]
        apply List.ext_getElem hl
        intro i i1 i2
        have a1 := r5 i _ (List.getElem?_eq_getElem i1)
        rw [Nat.zero_add, cell_of_row w g _ cs.toArray ty (0, 0) h3] at a1
        have a2 : ((cs.drop (t0.off p)).take (Ty.slice te e).sz)[i]? = cs[t0.off p + i]? := by
          rw [List.getElem?_take_of_lt (by rw [q1.1] at i1; exact i1), List.getElem?_drop]
        rw [List.getElem?_eq_getElem i2] at a2
        simp only [List.getElem?_toArray] at a1
        rw [a1] at a2
        exact (Option.some.inj a2).symm
      · rw [hM] at r; cases r
    have hr : RepV w (Fz (dropL F lab) w) (.dat (.slice te e) ys) (a.tmps.getD n undef) := ⟨_, himm, hv⟩
    refine ⟨by rw [hx]; exact hr, fun e' he => ?_⟩
    simp only [List.mem_cons, List.not_mem_nil, or_false] at he
    rcases he with rfl | rfl
    · exact ⟨rfl, hr, .inr (.inl (by rw [hn]; simp [Slot.root]))⟩
    · exact ⟨rfl, ⟨g, ty, cs, h1, dropL_box h2, h3, imm hMF h4⟩, .inr (.inr ⟨by rw [hM]; rfl, by rw [hM]; rfl, fun _ _ => rfl⟩)⟩
end
end Go.Proofs.Ytmjijggkdbiijaa
/- Assignments, moves, new variables, parts of answers. No statement is proved here. -/
namespace Go.Proofs.Ytmjijggkdbiijaa
open Go.RowKit
set_option linter.unusedVariables false
set_option linter.unusedSimpArgs false
theorem zero_imm {w : World} {S : Nat → Prop} : ∀ {t : Ty}, Imm w S t t.zero (zc t)
  | .int k => by simp only [Imm, Ty.zero, zc]; exact ⟨trivial, by cases k <;> simp [inR, loK, hiK]⟩
  | .bool => by simp only [Imm, Ty.zero, zc]
  | .str => by simp only [Imm, Ty.zero, zc]; exact ⟨trivial, by simp⟩
  | .unit => by simp only [Imm, zc]
  | .prod a b => by
    have h1 := zero_imm (w := w) (S := S) (t := a)
    have h2 := zero_imm (w := w) (S := S) (t := b)
    have hl := h1.len
    simp only [Imm, Ty.zero, zc]
    rw [← hl, List.take_left, List.drop_left]
    exact ⟨h1, h2⟩
  | .map _ _ => by simp [Imm, Ty.zero, zc]
  | .fn _ _ => by simp only [Imm, zc]
  | .slice te e => by simp only [Imm, Ty.zero, zc]; exact ⟨by simp, none, 0, [], rfl, by simp, by simp [maxLen], by simp, by simp, by simp⟩
  | .arr n e => by
    have h1 := zero_imm (w := w) (S := S) (t := e)
    have hl := h1.len
    simp only [Imm, Ty.zero, zc]
    refine ⟨by simp, by simp [hl], fun i hi => ?_⟩
    have hi' : i < n := by simpa using hi
    have : ((List.replicate n (zc e)).flatten.drop (i * e.sz)).take e.sz = zc e := by
      have e1 : List.replicate n (zc e) = List.replicate i (zc e) ++ (zc e :: List.replicate (n - i - 1) (zc e)) := by
        rw [← List.replicate_succ, List.replicate_append_replicate]; congr 1; omega
      rw [e1, List.flatten_append, List.flatten_cons]
      rw [List.drop_append_of_le_length (by simp [hl]), List.drop_eq_nil_of_le (by simp [hl]), List.nil_append, List.take_append_of_le_length (by omega), List.take_of_length_le (by omega)]
    rw [this]
    simpa using h1
theorem zero_own {w : World} {S : Nat → Prop} {L : Nat → Nat → Prop} : ∀ {t : Ty} {i : Nat}, Own w S L i t t.zero (zc t)
  | .int k, _ => by simp only [Own]; exact zero_imm
  | .bool, _ => by simp only [Own]; exact zero_imm
  | .str, _ => by simp only [Own]; exact zero_imm
  | .unit, _ => by simp only [Own]; exact zero_imm
  | .arr _ _, _ => by simp only [Own]; exact zero_imm
  | .map _ _, _ => by simp [Own, Ty.zero, zc]
  | .fn _ _, _ => by simp only [Own]; exact zero_imm
  | .prod a b, i => by
    have hl := (zero_imm (w := w) (S := S) (t := a)).len
    simp only [Own, Ty.zero, zc]
    rw [← hl, List.take_left, List.drop_left]
    exact ⟨zero_own, zero_own⟩
  | .slice te e, i => by
    simp only [Own, Ty.zero, zc]
    exact ⟨by simp, nilV, [], rfl, World.ownsRow_nil w 0 te e.sz, by simp [nilV, Value.ownBlock], by simp⟩
theorem Fr.alloc {w0 w : World} {K : Nat → Prop} (h : Fr w0 K w) (hk : ∀ g, K g → g < w0.heap.size) (o : Obj) : Fr w0 K (w.alloc o) :=
  ⟨h.os, h.tape, h.output, Nat.le_trans h.size (by simp), fun g hg => (heap_alloc_old w o (Nat.lt_of_lt_of_le (hk g hg) h.size)).trans (h.keep g hg)⟩
def newL (w : World) (p : Nat × Nat × Nat) (lab : Lab) : Lab := fun g => if g = w.heap.size then some p else lab g
section
variable {P : Program} {Γ : Ctx} {w0 : World} {K : Nat → Prop} {lab lab' : Lab} {σ : List Slot} {a : Act} {w w' : World} {C : List Nat} {o : Oper} {pre fact : List Prop} {ws : Wr}
theorem run_assign {x : Operand} (ho : o.op = .assign x) : (execOp a.eval o).run P w = .ok (.value (a.eval x)) w := by unfold execOp; simp [ho]
theorem run_move {x : Operand} (ho : o.op = .move x) : (execOp a.eval o).run P w = .ok (.value (a.eval x)) w := by unfold execOp; simp [ho]
/-- What is of one's own goes over to the operation's slot. -/
theorem good_own (h : Sim w0 K lab σ a w) (hR : Rt C σ) (hC : True) {x : Operand} {t : Ty} {y : t.T} {mv fz : Wr} (hs : Src lab σ a w x t y mv fz) (hv : Runs P o a w (a.eval x) w)
    (hrun : (put C o (.own t y) mv [] []).run σ = some (.pure pre fact ws)) (hp : allP pre) : Good P C w0 K lab o σ a w fact ws := by
  obtain ⟨N, kk, ks, hd, _, hne, _⟩ := put_run hrun
  obtain ⟨lab', m1, m2, m3, m4, _, m5⟩ := hs.move h hne
  refine good_putT h hR hC hrun hp (fun _ => hv) (fun _ => trivial) h.fr (fun g p hg => ?_) (fun g p hg => ?_) (fun g hg => ⟨⟨(m1 g).2 hg.1, hg.2⟩, rfl⟩) (fun N' hd' M hM hMx g k m hg => ⟨?_, rfl⟩) (fun N' hd' => ⟨rfl, ?_⟩) (fun N' hd' hne' => m5)
  · obtain ⟨q, hq⟩ := m2 g p hg; exact h.lt g q hq
  · obtain ⟨q, hq⟩ := m2 g p hg; exact h.kl g q hq
  · rw [hd] at hd'; obtain rfl := Option.some.inj hd'; exact m3 M hMx g k m hg
  · rw [hd] at hd'; obtain rfl := Option.some.inj hd'; exact m4
theorem good_assign0 (h : Sim w0 K lab σ a w) (hR : Rt C σ) (hC : True) {x : Operand} (ho : o.op = .assign x)
    (hrun : (evAssign0 Γ C o x).run σ = some (.pure pre fact ws)) (hp : allP pre) : Good P C w0 K lab o σ a w fact ws := by
  unfold evAssign0 at hrun
  split at hrun
  · exact good_put h hR hC hrun (fun _ => trivial) (fun _ => .inl (run_assign ho)) (fun _ N _ => trivial) hp
  obtain ⟨k, h1, h2⟩ := bind_run hrun
  obtain ⟨_, h3⟩ := take_run h h1
  rcases h3 with ⟨q1, q2, q3, q4⟩ | ⟨q1, t, y, q2, q3⟩
  · rw [q1, q3] at h2
    have e : slotD false k.d = .val k.d := by cases k.d <;> rfl
    rw [e] at h2
    exact good_put h hR hC h2 (fun _ => trivial) (fun _ => .inl (run_assign ho)) (fun _ N _ => q2) hp
  · rw [q1, q2] at h2
    have e : slotD true (.dat t y) = .own t y := rfl
    rw [e] at h2
    exact good_own h hR hC q3 (.inl (run_assign ho)) h2 hp
def movL (n N : Nat) (lab : Lab) : Lab := fun g =>
  match lab g with
  | some (M, k, m) => if M = n then some (N, k, m) else some (M, k, m)
  | none => none
theorem semAt_run (h : Sim w0 K lab σ a w) {x : Operand} {q : Nat × Thg × Wr} (hr : (semAt x).run σ = some q) : σ.getD q.1 .dead = .sem q.2.1 ∧ a.eval x = a.tmps.getD q.1 undef ∧ (∀ e ∈ q.2.2, e.2 = .dead) ∧ q.1 ∈ q.2.2.map (·.1) ∧ ∀ e ∈ q.2.2, e.1 = q.1 ∨ (σ.getD e.1 .dead).root ≠ none := by
  unfold semAt at hr
  split at hr
  · rename_i n
    simp only [RM.run] at hr
    have hn := h.slots n
    have hev : a.eval (.tmp n) = a.tmps.getD n undef := rfl
    split at hr
    · rename_i A hσ
      simp only [RM.run, Option.some.injEq] at hr; subst hr
      exact ⟨hσ, hev, by simp, by simp, by simp⟩
    · rename_i M p hσ
      split at hr
      · rename_i hp; subst hp
        simp only [RM.run] at hr
        split at hr
        · rename_i A hM
          simp only [RM.run, Option.some.injEq] at hr; subst hr
          rw [hσ] at hn
          obtain ⟨u, cs, q1, q2⟩ := hn
          refine ⟨hM, ?_, by simp, by simp, fun e he => ?_⟩
          · rcases q1.2 with ⟨_, _, t, _, r2, _⟩ | ⟨_, _, _, r4⟩
            · rw [hM] at r2; cases r2
            · rw [hev, q2, r4]
          · simp only [List.mem_cons, List.not_mem_nil, or_false] at he
            rcases he with rfl | rfl
            · right; rw [hσ]; simp [Slot.root]
            · left; rfl
        · simp [RM.run] at hr
      · simp [RM.run] at hr
    · simp [RM.run] at hr
  · simp [RM.run] at hr
theorem good_assignS (h : Sim w0 K lab σ a w) (hR : Rt C σ) (hC : True) {x : Operand} (ho : o.op = .assign x)
    (hrun : (evAssignS C o x).run σ = some (.pure pre fact ws)) (hp : allP pre) : Good P C w0 K lab o σ a w fact ws := by
  unfold evAssignS at hrun
  obtain ⟨q, h1, h2⟩ := bind_run hrun
  obtain ⟨s1, s2, s3, s4, s5⟩ := semAt_run h h1
  obtain ⟨N, kk, ks, hd, _, hne, _⟩ := put_run h2
  have hsl := h.slots q.1
  rw [s1] at hsl
  have oth : ∀ {M k m g : Nat}, M ≠ q.1 → lab g = some (M, k, m) → movL q.1 N lab g = some (M, k, m) := fun hM hg => by simp only [movL, hg]; rw [if_neg hM]
  have inn : ∀ {k m g : Nat}, lab g = some (q.1, k, m) → movL q.1 N lab g = some (N, k, m) := fun hg => by simp [movL, hg]
  have non : ∀ {g : Nat}, lab g = none → movL q.1 N lab g = none := fun hg => by simp [movL, hg]
  have som : ∀ {g : Nat} {p : Nat × Nat × Nat}, movL q.1 N lab g = some p → ∃ r, lab g = some r := fun {g p} hg => by
    cases hl : lab g with
    | none => rw [non hl] at hg; cases hg
    | some r => exact ⟨r, rfl⟩
  refine good_putT h hR hC h2 hp (lab' := movL q.1 N lab) (fun _ => .inl (run_assign ho)) (fun _ => trivial) h.fr (fun g p hg => ?_) (fun g p hg => ?_) (fun g hg => ⟨⟨non hg.1, hg.2⟩, rfl⟩) (fun N' hd' M hM hMx g k m hg => ⟨oth (fun e => ?_) hg, rfl⟩) (fun N' hd' => ⟨rfl, ?_⟩) (fun N' hd' hne' e he => ?_)
  · obtain ⟨r, hr⟩ := som hg; exact h.lt g r hr
  · obtain ⟨r, hr⟩ := som hg; exact h.kl g r hr
  · obtain ⟨e', he', e2⟩ := List.mem_map.1 s4
    exact hMx e' he' (e2.trans e.symm)
  · rw [hd] at hd'; obtain rfl := Option.some.inj hd'
    rw [s2]
    exact q.2.1.keep (fun g hg => ⟨⟨non hg.1, hg.2⟩, rfl⟩) (fun g ⟨m, hg⟩ => ⟨⟨m, inn hg⟩, rfl⟩) hsl
  · have := s3 e he
    rw [this]
    exact ⟨rfl, trivial, .inl rfl⟩
theorem good_assign (h : Sim w0 K lab σ a w) (hR : Rt C σ) (hC : True) {x : Operand} (ho : o.op = .assign x)
    (hrun : (evAssign Γ C o x).run σ = some (.pure pre fact ws)) (hp : allP pre) : Good P C w0 K lab o σ a w fact ws := by
  unfold evAssign at hrun
  split at hrun
  · obtain ⟨b, _, h2⟩ := bind_run hrun
    split at h2
    · exact good_assignS h hR hC ho h2 hp
    · exact good_assign0 h hR hC ho h2 hp
  · exact good_assign0 h hR hC ho hrun hp
theorem good_mv (h : Sim w0 K lab σ a w) (hR : Rt C σ) (hC : True) {x : Operand} (hv : Runs P o a w (a.eval x) w)
    (hrun : (evMove Γ C o x).run σ = some (.pure pre fact ws)) (hp : allP pre) : Good P C w0 K lab o σ a w fact ws := by
  cases x with
  | tmp n =>
    simp only [evMove, RM.run] at hrun
    have hn := h.slots n
    have hev : a.eval (.tmp n) = a.tmps.getD n undef := rfl
    generalize hσ : σ.getD n .dead = s at hrun hn
    split at hrun
    · exact good_put h hR hC hrun (fun _ => trivial) (fun _ => hv) (fun _ N _ => hn) hp
    · rename_i t y
      split at hrun
      · rename_i hf
        exact good_put h hR hC hrun (fun _ => trivial) (fun _ => hv) (fun _ N _ => RepV.flat hf (asD_run h hn (d := .dat t y) rfl)) hp
      · rename_i hf
        obtain ⟨cs, h1, h2⟩ := hn
        exact good_put h hR hC hrun (fun _ => trivial) (fun _ => hv) (fun _ N _ => ⟨t, cs, ⟨h2.len, .inr ⟨rfl, by simpa using hf, by rw [hσ]; rfl, h1⟩⟩, h1⟩) hp
    · exact good_put h hR hC hrun (fun _ => trivial) (fun _ => hv) (fun _ N _ => hn) hp
    · exact good_put h hR hC hrun (fun _ => trivial) (fun _ => hv) (fun _ N _ => hn) hp
    · exact good_put h hR hC hrun (fun _ => trivial) (fun _ => hv) (fun _ N _ => ⟨semT, [a.tmps.getD n undef], ⟨rfl, .inr ⟨rfl, rfl, by rw [hσ]; rfl, rfl⟩⟩, rfl⟩) hp
    · exact good_put h hR hC hrun (fun _ => trivial) (fun _ => hv) (fun _ N _ => hn) hp
    · exact good_put h hR hC hrun (fun _ => trivial) (fun _ => hv) (fun _ N _ => hn) hp
    · rename_i cs
      obtain ⟨N, kk, ks, hd, _, hne, _⟩ := put_run hrun
      have hnN : n ≠ N := hne (n, .dead) (by simp)
      have oth : ∀ {M k m g : Nat}, M ≠ n → lab g = some (M, k, m) → movL n N lab g = some (M, k, m) := fun hM hg => by simp only [movL, hg]; rw [if_neg hM]
      have inn : ∀ {k m g : Nat}, lab g = some (n, k, m) → movL n N lab g = some (N, k, m) := fun hg => by simp [movL, hg]
      have non : ∀ {g : Nat}, lab g = none → movL n N lab g = none := fun hg => by simp [movL, hg]
      have som : ∀ {g : Nat} {p : Nat × Nat × Nat}, movL n N lab g = some p → ∃ q, lab g = some q := fun {g p} hg => by
        cases hl : lab g with
        | none => rw [non hl] at hg; cases hg
        | some q => exact ⟨q, rfl⟩
      refine good_putT h hR hC hrun hp (lab' := movL n N lab) (fun _ => hv) (fun _ => trivial) h.fr (fun g p hg => ?_) (fun g p hg => ?_) (fun g hg => ⟨⟨non hg.1, hg.2⟩, rfl⟩) (fun N' hd' M hM hMx g k m hg => ⟨oth (fun e => hMx (n, .dead) (by simp) e.symm) hg, rfl⟩) (fun N' hd' => ⟨rfl, ?_⟩) (fun N' hd' hne' x hx => ?_)
      · obtain ⟨q, hq⟩ := som hg; exact h.lt g q hq
      · obtain ⟨q, hq⟩ := som hg; exact h.kl g q hq
      · rw [hd] at hd'; obtain rfl := Option.some.inj hd'
        obtain ⟨vs, q1, q2, q3⟩ := hn
        refine ⟨vs, q1, q2, fun k c u hc hu => ?_⟩
        have q4 := q3 k c u hc hu
        cases c with
        | dead => trivial
        | val d => exact RepV.keep (fun g hg => ⟨⟨non hg.1, hg.2⟩, rfl⟩) q4
        | own t x =>
          obtain ⟨ds, r1, r2⟩ := q4
          exact ⟨ds, r1, r2.keep (fun g hg => ⟨⟨non hg.1, hg.2⟩, rfl⟩) (fun i g hg => ⟨inn hg, rfl⟩)⟩
      · simp only [List.mem_singleton] at hx; subst hx
        exact ⟨rfl, trivial, .inl rfl⟩
    · rename_i t y
      obtain ⟨g, ty, cs, h1, h2, h3, h4⟩ := hn
      refine good_put h hR hC hrun (fun _ => trivial) (fun _ => hv) (fun _ N _ => ⟨g, 0, t, t, h1, by rw [hσ]; rfl, by cases t <;> trivial, Ty.at_nil t, ?_⟩) hp
      have : t.off [] = 0 := by cases t <;> rfl
      rw [hev, h1, this]
    · rename_i t y
      obtain ⟨g, ty, cs, h1, h2, h3, h4⟩ := hn
      refine good_put h hR hC hrun (fun _ => trivial) (fun _ => hv) (fun _ N _ => ⟨g, 0, t, t, h1, by rw [hσ]; rfl, by cases t <;> trivial, Ty.at_nil t, ?_⟩) hp
      have : t.off [] = 0 := by cases t <;> rfl
      rw [hev, h1, this]
    · simp [RM.run] at hrun
  | const v =>
    obtain ⟨s, h1, h2⟩ := bind_run hrun
    exact good_put h hR hC h2 (fun _ => trivial) (fun _ => hv) (fun _ N _ => (constSlot_run h1).1) hp
  | func f =>
    obtain ⟨s, h1, h2⟩ := bind_run hrun
    simp only [opv, RM.run, Option.some.injEq] at h1; subst h1
    exact good_put h hR hC h2 (fun _ => trivial) (fun _ => hv) (fun _ N _ => ⟨_, ⟨[], rfl, rfl⟩, rfl⟩) hp
  | global g =>
    obtain ⟨s, h1, h2⟩ := bind_run hrun
    simp [opv, RM.run] at h1
theorem good_move (h : Sim w0 K lab σ a w) (hR : Rt C σ) (hC : True) {x : Operand} (ho : o.op = .move x)
    (hrun : (evMove Γ C o x).run σ = some (.pure pre fact ws)) (hp : allP pre) : Good P C w0 K lab o σ a w fact ws := good_mv h hR hC (.inl (run_move ho)) hrun hp
theorem good_pick (h : Sim w0 K lab σ a w) (hR : Rt C σ) (hC : True) {c x y : Operand} (ho : o.op = .pick c x y)
    (hrun : (evPick Γ C o c x y).run σ = some (.pure pre fact ws)) (hp : allP pre) : Good P C w0 K lab o σ a w fact ws := by
  obtain ⟨b, h1, h2⟩ := bind_run hrun
  have hb := rdBool_run h h1
  cases b with
  | true => exact good_mv h hR hC (.inl (by unfold execOp; simp [ho, hb, asBool])) h2 hp
  | false => exact good_mv h hR hC (.inl (by unfold execOp; simp [ho, hb, asBool])) h2 hp
/-- A new variable. -/
theorem good_new (h : Sim w0 K lab σ a w) (hR : Rt C σ) (hC : True) {s : Slot} {T : Nat} {cs : List Value} {d : D} (hs : (s = .box d ∧ RepC w (Fz lab w) d cs) ∨ ∃ t y, s = .boxo t y ∧ t.zero = y ∧ cs = zc t)
    (hv : Runs P o a w (.pointer (some ⟨w.heap.size, 0, none⟩)) (w.alloc (.cells cs.toArray T))) (hrun : (put C o s [] [] []).run σ = some (.pure pre fact ws)) (hp : allP pre) : Good P C w0 K lab o σ a w fact ws := by
  obtain ⟨N, kk, ks, hd, _, hne, _⟩ := put_run hrun
  have old : ∀ {g : Nat}, g < w.heap.size → newL w (N, 0, 0) lab g = lab g := fun hg => by simp only [newL]; rw [if_neg (by omega)]
  have som : ∀ {g : Nat} {p : Nat × Nat × Nat}, newL w (N, 0, 0) lab g = some p → g = w.heap.size ∨ lab g = some p := fun {g p} hg => by
    by_cases e : g = w.heap.size
    · exact .inl e
    · simp only [newL] at hg; rw [if_neg e] at hg; exact .inr hg
  have fz : ∀ g, Fz lab w g → Fz (newL w (N, 0, 0) lab) (w.alloc (.cells cs.toArray T)) g ∧ (w.alloc (.cells cs.toArray T)).heap[g]? = w.heap[g]? := fun g hg =>
    ⟨⟨by rw [old hg.2]; exact hg.1, by simp; have := hg.2; omega⟩, heap_alloc_old w _ hg.2⟩
  refine good_putT h hR hC hrun hp (lab' := newL w (N, 0, 0) lab) (w' := w.alloc (.cells cs.toArray T)) (fun _ => hv) (fun _ => trivial) (h.fr.alloc h.kb _) (fun g p hg => ?_) (fun g p hg => ?_) fz (fun N' hd' M hM hMx g k m hg => ?_) (fun N' hd' => ?_) (fun N' hd' hne' x hx => by cases hx)
  · rcases som hg with e | e
    · simp; omega
    · have := h.lt g p e; simp; omega
  · rcases som hg with e | e
    · intro hk; have := h.kb g hk; have := h.fr.size; omega
    · exact h.kl g p e
  · have := h.lt g _ hg
    exact ⟨by rw [old this]; exact hg, heap_alloc_old w _ this⟩
  · rw [hd] at hd'; obtain rfl := Option.some.inj hd'
    have hl : newL w (N, 0, 0) lab w.heap.size = some (N, 0, 0) := by simp [newL]
    rcases hs with ⟨rfl, hs⟩ | ⟨t, y, rfl, rfl, rfl⟩
    · exact ⟨rfl, w.heap.size, T, cs, rfl, hl, heap_alloc_new w _, RepC.keep fz hs⟩
    · exact ⟨rfl, w.heap.size, T, zc t, rfl, hl, heap_alloc_new w _, zero_own⟩
theorem good_alloc (h : Sim w0 K lab σ a w) (hR : Rt C σ) (hC : True) (hT : TyOk P Γ) {T : Nat} (ho : o.op = .alloc T)
    (hrun : (evAlloc Γ C o T).run σ = some (.pure pre fact ws)) (hp : allP pre) : Good P C w0 K lab o σ a w fact ws := by
  unfold evAlloc at hrun
  split at hrun
  · rename_i t ht
    obtain ⟨i, hi, _, _, z, hz1, hz2⟩ := (hT.ty T t ht).info
    have hv : Runs P o a w (.pointer (some ⟨w.heap.size, 0, none⟩)) (w.alloc (.cells (zc t).toArray T)) := by
      refine .inl ?_
      have : z.cells = (zc t).toArray := by rw [← hz2]
      unfold execOp
      simp [ho, Instr.alloc, zeroValue, typeInfo, hi, hz1, go_sem]
      exact congrArg (fun c => w.alloc (Obj.cells c T)) this
    split at hrun
    · exact good_new h hR hC (d := .dat t t.zero) (.inl ⟨rfl, zero_imm⟩) hv hrun hp
    · exact good_new h hR hC (d := .nl) (.inr ⟨t, t.zero, rfl, rfl, rfl⟩) hv hrun hp
  · simp [RM.run] at hrun
end
end Go.Proofs.Ytmjijggkdbiijaa
/- Boxes, parts of answers and of values, slices of slices. No statement is proved here. -/
namespace Go.Proofs.Ytmjijggkdbiijaa
open Go.RowKit
set_option linter.unusedVariables false
set_option linter.unusedSimpArgs false
theorem mk_cells {t : Ty} {cs : List Value} (h : cs.length = t.sz) (h1 : ∀ v ∈ cs, v.oneCell' = true) : (t.mk cs).cells = cs.toArray := by
  cases hg : t.agg with
  | true => rw [mk_agg hg]; rfl
  | false =>
    rw [sz_one hg] at h
    match cs, h, h1 with
    | [v], _, h1 =>
      rw [mk_one hg]
      have := h1 v (by simp)
      cases v <;> first | rfl | simp [Value.oneCell'] at this
theorem Imm.one {w : World} {S : Nat → Prop} : ∀ {t : Ty} {x : t.T} {cs : List Value}, Imm w S t x cs → ∀ v ∈ cs, v.oneCell' = true
  | .int _, _, _, h => by simp only [Imm] at h; simp [h.1, Value.oneCell']
  | .bool, _, _, h => by simp only [Imm] at h; simp [h, Value.oneCell']
  | .str, _, _, h => by simp only [Imm] at h; simp [h.1, Value.oneCell']
  | .unit, _, _, h => by simp only [Imm] at h; simp [h]
  | .prod a b, x, cs, h => by
    simp only [Imm] at h
    intro v hv
    rw [← List.take_append_drop a.sz cs] at hv
    rcases List.mem_append.1 hv with hv | hv
    · exact Imm.one h.1 v hv
    · exact Imm.one h.2 v hv
  | .slice _ e, xs, cs, h => by simp only [Imm] at h; obtain ⟨_, a, c, flat, rfl, _⟩ := h; simp [Value.oneCell']
  | .map _ _, m, cs, h => by simp only [Imm] at h; rcases h with ⟨_, rfl⟩ | ⟨b, xs, es, ck, _, rfl, _⟩ <;> simp [Value.oneCell']
  | .fn _ _, _, _, h => by simp only [Imm] at h; simp [h, Value.oneCell']
  | .arr n e, xs, cs, h => by
    simp only [Imm] at h
    obtain ⟨hn, hl, he⟩ := h
    intro v hv
    obtain ⟨i, hi, rfl⟩ := List.getElem_of_mem hv
    by_cases hz : e.sz = 0
    · rw [hz] at hl; omega
    · have hz' : 0 < e.sz := by omega
      have hq : i / e.sz < xs.length := by rw [hn]; exact (Nat.div_lt_iff_lt_mul hz').2 (by rw [← hl]; exact hi)
      refine Imm.one (he (i / e.sz) hq) _ ?_
      have e1 : i = i / e.sz * e.sz + i % e.sz := by rw [Nat.mul_comm]; exact (Nat.div_add_mod i e.sz).symm
      have e2 : ((cs.drop (i / e.sz * e.sz)).take e.sz)[i % e.sz]? = some cs[i] := by
        rw [List.getElem?_take_of_lt (Nat.mod_lt _ hz'), List.getElem?_drop, ← e1, List.getElem?_eq_getElem hi]
      exact List.mem_of_getElem? e2
theorem Own.one {w : World} {S : Nat → Prop} {L : Nat → Nat → Prop} {t : Ty} {i : Nat} {x : t.T} {cs : List Value} (h : Own w S L i t x cs) : ∀ v ∈ cs, v.oneCell' = true :=
  Imm.one (h.imm (S' := fun _ => True) (fun _ _ => trivial) (fun _ _ _ => trivial))
section
variable {P : Program} {Γ : Ctx} {w0 : World} {K : Nat → Prop} {lab lab' : Lab} {σ : List Slot} {a : Act} {w w' : World} {C : List Nat} {o : Oper} {pre fact : List Prop} {ws : Wr}
theorem runs_box {T : Nat} {x : Operand} (ho : o.op = .box T x) {cs : List Value} (hc : (a.eval x).cells = cs.toArray) : Runs P o a w (.pointer (some ⟨w.heap.size, 0, none⟩)) (w.alloc (.cells cs.toArray T)) := by
  refine .inl ?_
  rw [← hc]
  unfold execOp
  simp [ho, Instr.box, go_sem]
theorem good_box (h : Sim w0 K lab σ a w) (hR : Rt C σ) (hC : True) {T : Nat} {x : Operand} (ho : o.op = .box T x)
    (hrun : (evBox Γ C o T x).run σ = some (.pure pre fact ws)) (hp : allP pre) : Good P C w0 K lab o σ a w fact ws := by
  unfold evBox at hrun
  obtain ⟨k, h1, h2⟩ := bind_run hrun
  obtain ⟨_, h3⟩ := take_run h h1
  rcases h3 with ⟨q1, q2, q3, q4⟩ | ⟨q1, t, y, q2, q3⟩
  · obtain ⟨ow, d, mv, fz⟩ := k
    simp only at q1 q2 q3 q4 h2
    subst q1 q3
    cases d with
    | dat t y =>
      obtain ⟨cs, c1, c2⟩ := q2
      have c1' : Imm w (Fz lab w) t y cs := c1
      exact good_new h hR hC (d := .dat t y) (cs := cs) (.inl ⟨rfl, c1⟩) (runs_box ho (by rw [c2]; exact mk_cells c1'.len c1'.one)) h2 hp
    | clo f caps =>
      obtain ⟨cs, ⟨vs, rfl, c1⟩, c2⟩ := q2
      exact good_new h hR hC (d := .clo f caps) (cs := [.func (.func f) #[] vs.toArray]) (.inl ⟨rfl, ⟨vs, rfl, c1⟩⟩) (runs_box ho (by rw [c2]; rfl)) h2 hp
    | bnd _ _ => simp [RM.run] at h2
    | ref _ => simp [RM.run] at h2
    | nl => simp [RM.run] at h2
    | cn _ _ => simp [RM.run] at h2
  · obtain ⟨ow, d, mv, fz⟩ := k
    simp only at q1 q2 q3 h2
    subst q1 q2
    simp only at h2
    obtain ⟨N, kk, ks, hd, _, hne, _⟩ := put_run h2
    obtain ⟨lab1, m1, m2, m3, ⟨cs, m4, m5⟩, _, m6⟩ := q3.move h hne
    have hcells : (a.eval x).cells = cs.toArray := by rw [m4]; exact mk_cells m5.len m5.one
    have lt1 : ∀ {g : Nat} {p : Nat × Nat × Nat}, lab1 g = some p → g < w.heap.size := fun hg => by obtain ⟨q, hq⟩ := m2 _ _ hg; exact h.lt _ _ hq
    have old : ∀ {g : Nat}, g < w.heap.size → newL w (N, 0, 0) lab1 g = lab1 g := fun hg => by simp only [newL]; rw [if_neg (by omega)]
    have som : ∀ {g : Nat} {p : Nat × Nat × Nat}, newL w (N, 0, 0) lab1 g = some p → g = w.heap.size ∨ lab1 g = some p := fun {g p} hg => by
      by_cases e : g = w.heap.size
      · exact .inl e
      · simp only [newL] at hg; rw [if_neg e] at hg; exact .inr hg
    have fz1 : ∀ g, Fz lab1 w g → Fz (newL w (N, 0, 0) lab1) (w.alloc (.cells cs.toArray T)) g ∧ (w.alloc (.cells cs.toArray T)).heap[g]? = w.heap[g]? := fun g hg =>
      ⟨⟨by rw [old hg.2]; exact hg.1, by simp; have := hg.2; omega⟩, heap_alloc_old w _ hg.2⟩
    refine good_putT h hR hC h2 hp (lab' := newL w (N, 0, 0) lab1) (w' := w.alloc (.cells cs.toArray T)) (fun _ => runs_box ho hcells) (fun _ => trivial) (h.fr.alloc h.kb _) (fun g p hg => ?_) (fun g p hg => ?_) (fun g hg => fz1 g ⟨(m1 g).2 hg.1, hg.2⟩)
      (fun N' hd' M hM hMx g k m hg => ?_) (fun N' hd' => ?_) (fun N' hd' hne' e he => ?_)
    · rcases som hg with e | e
      · simp; omega
      · have := lt1 e; simp; omega
    · rcases som hg with e | e
      · intro hk; have := h.kb g hk; have := h.fr.size; omega
      · obtain ⟨q, hq⟩ := m2 g p e; exact h.kl g q hq
    · rw [hd] at hd'; obtain rfl := Option.some.inj hd'
      have := h.lt g _ hg
      exact ⟨by rw [old this]; exact m3 M hMx g k m hg, heap_alloc_old w _ this⟩
    · rw [hd] at hd'; obtain rfl := Option.some.inj hd'
      refine ⟨rfl, w.heap.size, T, cs, rfl, by simp [newL], heap_alloc_new w _, m5.keep fz1 fun i g hg => ?_⟩
      have hlt := lt1 hg
      exact ⟨by unfold Lb; rw [old hlt]; exact hg, heap_alloc_old w _ hlt⟩
    · obtain ⟨r1, r2, r3⟩ := m6 e he
      refine ⟨r1, ?_, ?_⟩
      · refine r2.keep ⟨fz1, fun g k m hg => ?_⟩ (fun M hM => by rw [r1] at hM; cases hM)
        have hlt := lt1 hg
        exact ⟨by rw [old hlt]; exact hg, heap_alloc_old w _ hlt⟩
      · rcases r3 with r3 | r3 | ⟨r3, r4, _⟩
        · exact .inl r3
        · exact .inr (.inl r3)
        · exact .inr (.inr ⟨r3, r4, fun g hg => heap_alloc_old w _ (h.lt g _ hg)⟩)
theorem good_field (h : Sim w0 K lab σ a w) (hR : Rt C σ) (hC : True) (hT : TyOk P Γ) {T k : Nat} {x : Operand} (ho : o.op = .field T x k)
    (hrun : (evField Γ C o T x k).run σ = some (.pure pre fact ws)) (hp : allP pre) : Good P C w0 K lab o σ a w fact ws := by
  unfold evField at hrun
  obtain ⟨d, h1, h2⟩ := bind_run hrun
  have h3 := rdD_run h h1
  split at h2
  · rename_i t y
    split at h2
    · rename_i hc
      simp only [Bool.and_eq_true, beq_iff_eq, decide_eq_true_eq] at hc
      obtain ⟨⟨hf, hty⟩, hk⟩ := hc
      obtain ⟨fs, f, u, f1, f2, f3, f4, f5, f6⟩ := (hT.ty T t hty).fld k hk
      obtain ⟨cs, c1, c2⟩ := h3
      obtain ⟨z, hz⟩ := getS_of_at (x := y) f4
      obtain ⟨_, himm⟩ := Imm.get (p := fldPath (Γ.nf T) k) c1 hz (Ty.inb_flds (fldPath_no _ _))
      rw [hz] at h2 hf
      have hag : t.agg = true := by
        obtain ⟨d, hd, hr⟩ := (hT.ty T t hty).row
        rw [f1] at hd; obtain rfl := Option.some.inj hd
        rw [← hr]
      have hx : a.eval x = .agg cs.toArray := by rw [c2]; exact mk_agg hag cs
      refine good_put h hR hC h2 (v := u.mk ((cs.drop (t.off (fldPath (Γ.nf T) k))).take u.sz)) (fun _ => fact_dat himm.ok) (fun _ => .inl ?_) (fun _ N _ => RepV.flat hf (rep_mk himm)) hp
      -- the part
      obtain ⟨du, hdu, hru⟩ := (hT.ty _ u f3).row
      obtain ⟨i, hi, hsz, _⟩ := (hT.ty _ u f3).info
      have hpart : (part f.type cs.toArray f.offset).run P w = .ok (u.mk ((cs.drop (t.off (fldPath (Γ.nf T) k))).take u.sz)) w := by
        unfold part
        cases hg : u.agg with
        | true =>
          rw [hg] at hru
          rw [Sem.run_bind, isAgg_yes hdu hru w, mk_agg hg, f5]
          simp [sizeOf, typeInfo, hi, hsz]
        | false =>
          rw [hg] at hru
          rw [Sem.run_bind, isAgg_no hdu hru w]
          have hl := himm.len.trans (sz_one hg)
          obtain ⟨v, hq⟩ := List.length_eq_one_iff.1 hl
          have e1 : ((cs.drop (t.off (fldPath (Γ.nf T) k))).take u.sz)[0]? = some v := by rw [hq]; rfl
          rw [List.getElem?_take_of_lt (by rw [sz_one hg]; omega), List.getElem?_drop, Nat.add_zero, f5] at e1
          rw [hq, mk_one hg]
          simp [e1]
      unfold execOp
      simp [ho, hx, Instr.field, run_underlying f1, f2, asAgg, hpart]
    · simp [RM.run] at h2
  · simp [RM.run] at h2
end
end Go.Proofs.Ytmjijggkdbiijaa
/- Parts of answers, slices of slices, appends. No statement is proved here. -/
namespace Go.Proofs.Ytmjijggkdbiijaa
open Go.RowKit
set_option linter.unusedVariables false
set_option linter.unusedSimpArgs false
/-- Part k of slot n's answer goes to slot N. -/
def extL (n k N : Nat) (lab : Lab) : Lab := fun g =>
  match lab g with
  | some (M, j, m) => if M = n ∧ j = k + 1 then some (N, 0, m) else some (M, j, m)
  | none => none
section
variable {P : Program} {Γ : Ctx} {w0 : World} {K : Nat → Prop} {lab lab' : Lab} {σ : List Slot} {a : Act} {w w' : World} {C : List Nat} {o : Oper} {pre fact : List Prop} {ws : Wr}
theorem good_extract (h : Sim w0 K lab σ a w) (hR : Rt C σ) (hC : True) {x : Operand} {k : Nat} (ho : o.op = .extract x k)
    (hrun : (evExtract C o x k).run σ = some (.pure pre fact ws)) (hp : allP pre) : Good P C w0 K lab o σ a w fact ws := by
  cases x with
  | tmp n =>
    simp only [evExtract, RM.run] at hrun
    have hn := h.slots n
    have hev : a.eval (.tmp n) = a.tmps.getD n undef := rfl
    generalize hσ : σ.getD n .dead = s at hrun hn
    split at hrun
    · rename_i cs
      obtain ⟨vs, q1, q2, q3⟩ := hn
      have hx : ∀ {v : Value}, vs[k]? = some v → Runs P o a w v w := by
        intro v hv
        refine .inl ?_
        unfold execOp
        simp [ho, hev, q1, Instr.extract, hv]
      split at hrun
      · rename_i d hd
        obtain ⟨v, hv⟩ : ∃ v, vs[k]? = some v := by
          have : k < vs.length := by rw [q2]; exact (List.getElem?_eq_some_iff.1 hd).1
          exact ⟨vs[k], List.getElem?_eq_getElem this⟩
        exact good_put h hR hC hrun (fun _ => trivial) (fun _ => hx hv) (fun _ N _ => q3 k _ v hd hv) hp
      · rename_i t y hd
        obtain ⟨v, hv⟩ : ∃ v, vs[k]? = some v := by
          have : k < vs.length := by rw [q2]; exact (List.getElem?_eq_some_iff.1 hd).1
          exact ⟨vs[k], List.getElem?_eq_getElem this⟩
        obtain ⟨N, kk, ks, hd', _, hne, _⟩ := put_run hrun
        have hnN : n ≠ N := hne (n, .tup (cs.set k .dead)) (by simp)
        have non : ∀ {g : Nat}, lab g = none → extL n k N lab g = none := fun hg => by simp [extL, hg]
        have som : ∀ {g : Nat} {p : Nat × Nat × Nat}, extL n k N lab g = some p → ∃ q, lab g = some q := fun {g p} hg => by
          cases hl : lab g with
          | none => rw [non hl] at hg; cases hg
          | some q => exact ⟨q, rfl⟩
        have oth : ∀ {M j m g : Nat}, ¬ (M = n ∧ j = k + 1) → lab g = some (M, j, m) → extL n k N lab g = some (M, j, m) := fun hM hg => by simp only [extL, hg]; rw [if_neg hM]
        have inn : ∀ {m g : Nat}, lab g = some (n, k + 1, m) → extL n k N lab g = some (N, 0, m) := fun hg => by simp [extL, hg]
        have fz : ∀ g, Fz lab w g → Fz (extL n k N lab) w g ∧ w.heap[g]? = w.heap[g]? := fun g hg => ⟨⟨non hg.1, hg.2⟩, rfl⟩
        refine good_putT h hR hC hrun hp (lab' := extL n k N lab) (fun _ => hx hv) (fun _ => trivial) h.fr (fun g p hg => ?_) (fun g p hg => ?_) fz (fun N' hd'' M hM hMx g j m hg => ⟨oth (fun e => hMx (n, .tup (cs.set k .dead)) (by simp) e.1.symm) hg, rfl⟩) (fun N' hd'' => ⟨rfl, ?_⟩) (fun N' hd'' hne' e he => ?_)
        · obtain ⟨q, hq⟩ := som hg; exact h.lt g q hq
        · obtain ⟨q, hq⟩ := som hg; exact h.kl g q hq
        · rw [hd'] at hd''; obtain rfl := Option.some.inj hd''
          obtain ⟨ds, r1, r2⟩ := q3 k _ v hd hv
          exact ⟨ds, r1, r2.keep fz fun i g hg => ⟨inn hg, rfl⟩⟩
        · simp only [List.mem_singleton] at he; subst he
          refine ⟨rfl, ⟨vs, q1, by simp [q2], fun j c u hc hu => ?_⟩, .inr (.inr ⟨by rw [hσ]; rfl, by rw [hσ]; rfl, fun _ _ => rfl⟩)⟩
          by_cases hjk : j = k
          · subst hjk
            have : c = .dead := by
              rw [List.getElem?_set] at hc
              split at hc
              · split at hc
                · exact (Option.some.inj hc).symm
                · cases hc
              · exact absurd rfl (by assumption)
            subst this; trivial
          · rw [List.getElem?_set_ne (fun e => hjk e.symm)] at hc
            have q4 := q3 j c u hc hu
            cases c with
            | dead => trivial
            | val d => exact RepV.keep fz q4
            | own t x =>
              obtain ⟨ds, r1, r2⟩ := q4
              exact ⟨ds, r1, r2.keep fz fun i g hg => ⟨oth (fun e => hjk (by omega)) hg, rfl⟩⟩
      · simp [RM.run] at hrun
    · simp [RM.run] at hrun
  | _ => simp [evExtract, RM.run] at hrun
/-- Something shared from now on gives what the operation gives. -/
theorem good_share (h : Sim w0 K lab σ a w) (hR : Rt C σ) (hC : True) {x : Operand} {t : Ty} {y : t.T} {mv fz : Wr} (hs : Src lab σ a w x t y mv fz) {d : D} {v : Value} {pre0 fact0 : List Prop} (hv : allP pre0 → Runs P o a w v w)
    (hf : allP pre0 → allP fact0) (hd : allP pre0 → ∀ S, RepV w S (.dat t y) (a.eval x) → RepV w S d v)
    (hrun : (put C o (.val d) fz pre0 fact0).run σ = some (.pure pre fact ws)) (hp : allP pre) : Good P C w0 K lab o σ a w fact ws := by
  obtain ⟨N, kk, ks, hd', _, hne, _, _, e⟩ := put_run hrun
  have hpre : pre = pre0 := by simp only [Eff.pure.injEq] at e; exact e.1
  have hp0 : allP pre0 := hpre ▸ hp
  obtain ⟨s1, s2⟩ := hs.share h (F := fz.map (·.1)) (fun e he => List.mem_map.2 ⟨e, he, rfl⟩)
  refine good_putT h hR hC hrun hp (lab' := dropL (fz.map (·.1)) lab) hv hf h.fr (fun g p hg => h.lt g p (dropL_some hg)) (fun g p hg => h.kl g p (dropL_some hg)) (fun g hg => ⟨hg.drop, rfl⟩) (fun N' hd'' M hM hMx g j m hg => ⟨dropL_other ?_ hg, rfl⟩)
    (fun N' hd'' => ⟨rfl, hd hp0 _ s1⟩) (fun N' hd'' hne' e he => s2 e he)
  intro hm
  obtain ⟨e, he, rfl⟩ := List.mem_map.1 hm
  exact hMx e he rfl
theorem run_slice (h : Sim w0 K lab σ a w) (hT : TyOk P Γ) {T te : Nat} {e : Ty} (hTy : Γ.ty T = some (.slice te e)) {x : Operand} {lo hi : Option Operand} (ho : o.op = .slice T x lo hi none) {n : Nat} {l hh : Int} (h3 : (rdOr 0 lo).run σ = some l) (h5 : (rdOr (n : Int) hi).run σ = some hh)
    {A : Option Addr} {c : Nat} (hx : a.eval x = .slice A n c) (hc : n ≤ c) (hb : 0 ≤ l ∧ l ≤ hh ∧ hh ≤ (n : Int)) :
    (execOp a.eval o).run P w = .ok (.value (.slice (if c = l.toNat then A else A.map (·.add (l.toNat * e.sz))) (hh.toNat - l.toNat) (c - l.toNat))) w := by
  obtain ⟨hu, hte, hsz⟩ := (hT.ty T _ hTy).slice te e rfl
  obtain ⟨ii, hii, hisz, _⟩ := (hT.ty te e hte).info
  have hlo : ∀ m : Nat, 0 ≤ l → l ≤ (m : Int) → (match lo.map a.eval with | some v => Instr.sliceBound v m .sliceB | none => pure 0).run P w = .ok l.toNat w := by
    intro m b1 b2
    cases lo with
    | none => simp only [rdOr, RM.run, Option.some.injEq] at h3; subst h3; simp
    | some y =>
      obtain ⟨⟨kk, n⟩, r1, r2⟩ := bind_run h3
      simp only [RM.run, Option.some.injEq] at r2; subst r2
      obtain ⟨r3, _⟩ := rdInt_run h r1
      simp [r3, Instr.sliceBound, asIntOf, b1, b2]
  have hhi : (match hi.map a.eval with | some v => Instr.sliceBound v c .sliceAcap | none => pure n).run P w = .ok hh.toNat w := by
    cases hi with
    | none => simp only [rdOr, RM.run, Option.some.injEq] at h5; subst h5; simp
    | some y =>
      obtain ⟨⟨kk, n⟩, r1, r2⟩ := bind_run h5
      simp only [RM.run, Option.some.injEq] at r2; subst r2
      obtain ⟨r3, _⟩ := rdInt_run h r1
      have b3 : n ≤ (c : Int) := by omega
      simp [r3, Instr.sliceBound, asIntOf, b3]
      intro q; omega
  have hl := hlo hh.toNat hb.1 (by omega)
  cases lo with
  | none =>
    cases hi with
    | none =>
      simp only [Option.map_none] at hl hhi
      simp only [rdOr, RM.run, Option.some.injEq] at h3 h5
      subst h3 h5
      unfold execOp
      simp [ho, hx, Instr.sliceAt, Instr.slice, run_underlying hu, Instr.sliceBounds, sizeOf, typeInfo, hii, hisz]
    | some y =>
      simp only [Option.map_none, Option.map_some] at hl hhi
      simp only [rdOr, RM.run, Option.some.injEq] at h3
      subst h3
      unfold execOp
      simp [ho, hx, Instr.sliceAt, Instr.slice, run_underlying hu, Instr.sliceBounds, hhi, sizeOf, typeInfo, hii, hisz]
  | some z =>
    cases hi with
    | none =>
      simp only [Option.map_none, Option.map_some] at hl hhi
      simp only [rdOr, RM.run, Option.some.injEq] at h5
      subst h5
      have hl' : (Instr.sliceBound (a.eval z) n .sliceB).run P w = .ok l.toNat w := by simpa using hl
      unfold execOp
      simp [ho, hx, Instr.sliceAt, Instr.slice, run_underlying hu, Instr.sliceBounds, hl', sizeOf, typeInfo, hii, hisz]
    | some y =>
      simp only [Option.map_some] at hl hhi
      unfold execOp
      simp [ho, hx, Instr.sliceAt, Instr.slice, run_underlying hu, Instr.sliceBounds, hhi, hl, sizeOf, typeInfo, hii, hisz]
theorem good_lent (h : Sim w0 K lab σ a w) (hR : Rt C σ) (hC : True) (hT : TyOk P Γ) {T te : Nat} {e : Ty} (hTy : Γ.ty T = some (.slice te e)) {x : Operand} {lo hi : Option Operand} (ho : o.op = .slice T x lo hi none)
    (hrun : (evLent C o T te e x lo hi).run σ = some (.pure pre fact ws)) (hp : allP pre) : Good P C w0 K lab o σ a w fact ws := by
  unfold evLent at hrun
  split at hrun
  · rename_i n
    simp only [RM.run] at hrun
    have hn := h.slots n
    have hev : a.eval (.tmp n) = a.tmps.getD n undef := rfl
    split at hrun
    · rename_i M p hσ
      rw [hσ] at hn
      obtain ⟨d, h1, h2⟩ := bind_run hrun
      split at h2
      · rename_i xs hxs
        have hd := as_some hxs
        obtain ⟨l, h3, h4⟩ := bind_run h2
        obtain ⟨hh, h5, h6⟩ := bind_run h4
        obtain ⟨u, cs, y, r1, r2, r3, r4⟩ := frm_run h hn h1
        obtain ⟨rfl, e2⟩ := D.dat.inj (hd.symm.trans r3)
        obtain rfl := eq_of_heq e2
        have r5 := r4
        simp only [RepC, Imm] at r5
        obtain ⟨_, A, c, flat, rfl, r6, _⟩ := r5
        have hx : a.eval (.tmp n) = .slice A xs.length c := by rw [hev, r2]; rfl
        refine good_put h hR hC h6 (fun _ => trivial) (fun hq => .inl (run_slice h hT hTy ho h3 h5 hx r6 hq.1)) (fun hq N _ => ?_) hp
        have hq1 := hq.1
        exact ⟨te, e, A, xs.length, c, r1, ⟨by omega, by omega, r6⟩, rfl⟩
      · simp [RM.run] at h2
    · simp [RM.run] at hrun
  · simp [RM.run] at hrun
theorem ownsRow_cut {w : World} {te sz : Nat} {v : Value} {n m : Nat} {xs : List Value} (h : w.ownsRow 0 te sz v n xs) (hm : m ≤ n) : ∃ A c, v = .slice A n c ∧ n ≤ c ∧ w.ownsRow 0 te sz (.slice (if c = 0 then A else A.map (·.add (0 * sz))) m c) m (xs.take (m * sz)) ∧ (Value.slice (if c = 0 then A else A.map (·.add (0 * sz))) m c).ownBlock = v.ownBlock := by
  have hle : m * sz ≤ n * sz := Nat.mul_le_mul_right _ hm
  rcases h.2 with ⟨rfl, h0⟩ | ⟨g, cap, cur, rfl, hb0, hblk, hn, hcap, hcur, htake⟩
  · obtain rfl : m = 0 := by omega
    exact ⟨none, 0, by rw [h0], by omega, ⟨by simp, .inl ⟨rfl, rfl⟩⟩, rfl⟩
  · have e1 : (if cap = 0 then some (⟨g, 0, none⟩ : Addr) else (some ⟨g, 0, none⟩ : Option Addr).map (·.add (0 * sz))) = some ⟨g, 0, none⟩ := by
      split
      · rfl
      · simp only [Option.map_some, Nat.zero_mul, addr_add]
    refine ⟨some ⟨g, 0, none⟩, cap, rfl, hn, ?_, ?_⟩
    · rw [e1]
      refine ⟨by rw [List.length_take, h.1]; omega, .inr ⟨g, cap, cur, rfl, hb0, hblk, by omega, hcap, hcur, ?_⟩⟩
      rw [← htake, List.take_take, Nat.min_eq_left hle]
    · rw [e1]; rfl
theorem good_cut (h : Sim w0 K lab σ a w) (hR : Rt C σ) (hC : True) (hT : TyOk P Γ) {T te : Nat} {e : Ty} (hTy : Γ.ty T = some (.slice te e)) {x : Operand} {lo hi : Option Operand} (ho : o.op = .slice T x lo hi none)
    (hrun : (evCut Γ C o T te e x lo hi).run σ = some (.pure pre fact ws)) (hp : allP pre) : Good P C w0 K lab o σ a w fact ws := by
  unfold evCut at hrun
  obtain ⟨k, h1, h2⟩ := bind_run hrun
  split at h2
  · rename_i xs hown hxs
    have hkd := as_some hxs
    obtain ⟨hh, h5, h6⟩ := bind_run h2
    obtain ⟨_, hk⟩ := take_run h h1
    rcases hk with ⟨q1, _⟩ | ⟨_, t, z, q2, q3⟩
    · rw [q1] at hown; cases hown
    · rw [hkd] at q2
      obtain ⟨rfl, e2⟩ := D.dat.inj q2
      obtain rfl := eq_of_heq e2
      obtain ⟨N, kk, ks, hd, _, hne, _, _, epre⟩ := put_run h6
      have hb : 0 ≤ hh ∧ hh ≤ (xs.length : Int) := by
        simp only [Eff.pure.injEq] at epre
        rw [epre.1] at hp
        exact hp.1
      obtain ⟨lab1, m1, m2, m3, ⟨cs, m4, m5⟩, m7, m6⟩ := q3.move h hne
      simp only [Own] at m5
      obtain ⟨r3, v, flat, rfl, r4, r5, r6⟩ := m5
      obtain ⟨A, c, rfl, r7, r8, r9⟩ := ownsRow_cut (m := hh.toNat) r4 (by omega)
      have hx : a.eval x = .slice A xs.length c := m4
      have hlen : (xs.take hh.toNat).length = hh.toNat := by rw [List.length_take]; omega
      have hrun' := run_slice h hT hTy ho (n := xs.length) (l := 0) (by rfl) h5 hx r7 ⟨by omega, hb.1, hb.2⟩
      simp only [Int.toNat_zero, Nat.sub_zero] at hrun'
      refine good_putT h hR hC h6 hp (lab' := lab1) (w' := w) (fun _ => .inl hrun') (fun _ => trivial) h.fr (fun g p hg => ?_) (fun g p hg => ?_) (fun g hg => ⟨⟨(m1 g).2 hg.1, hg.2⟩, rfl⟩) (fun N' hd' M hM hMx g k m hg => ⟨?_, rfl⟩) (fun N' hd' => ⟨rfl, ?_⟩) (fun N' hd' hne' => m6)
      · obtain ⟨q, hq⟩ := m2 g p hg; exact h.lt g q hq
      · obtain ⟨q, hq⟩ := m2 g p hg; exact h.kl g q hq
      · rw [hd] at hd'; obtain rfl := Option.some.inj hd'; exact m3 M hMx g k m hg
      · rw [hd] at hd'; obtain rfl := Option.some.inj hd'
        refine ⟨[_], rfl, ?_⟩
        simp only [Own]
        refine ⟨by rw [hlen]; omega, _, flat.take (hh.toNat * e.sz), rfl, by rw [hlen]; exact r8, fun g hg => r5 g (by rw [← r9]; exact hg), fun j hj => ?_⟩
        rw [hlen] at hj
        have hj2 : j < xs.length := by omega
        have e1 : (xs.take hh.toNat)[j]'(by rw [hlen]; exact hj) = xs[j] := by simp
        rw [e1]
        have e2 : ((flat.take (hh.toNat * e.sz)).drop (j * e.sz)).take e.sz = (flat.drop (j * e.sz)).take e.sz :=
          take_take_drop _ _ _ _ (by rw [← Nat.succ_mul]; exact Nat.mul_le_mul_right _ hj)
        rw [e2]; exact r6 j hj2
  · simp [RM.run] at h2
theorem good_slice (h : Sim w0 K lab σ a w) (hR : Rt C σ) (hC : True) (hT : TyOk P Γ) {T : Nat} {x : Operand} {lo hi mx : Option Operand} (ho : o.op = .slice T x lo hi mx)
    (hrun : (evSlice Γ C o T x lo hi mx).run σ = some (.pure pre fact ws)) (hp : allP pre) : Good P C w0 K lab o σ a w fact ws := by
  unfold evSlice at hrun
  split at hrun
  · rename_i te e hTy
    split at hrun
    · exact good_lent h hR hC hT hTy ho hrun hp
    split at hrun
    · exact good_cut h hR hC hT hTy ho hrun hp
    obtain ⟨k, h1, h2⟩ := bind_run hrun
    split at h2
    · rename_i xs hxs
      have hkd := as_some hxs
      obtain ⟨l, h3, h4⟩ := bind_run h2
      obtain ⟨hh, h5, h6⟩ := bind_run h4
      obtain ⟨hall, hk⟩ := take_run h h1
      rw [hkd] at hall hk
      obtain ⟨hu, hte, hsz⟩ := (hT.ty T _ hTy).slice te e rfl
      obtain ⟨ii, hii, hisz, _⟩ := (hT.ty te e hte).info
      -- the bounds as values
      have hlo : ∀ m : Nat, 0 ≤ l → l ≤ (m : Int) → (match lo.map a.eval with | some v => Instr.sliceBound v m .sliceB | none => pure 0).run P w = .ok l.toNat w := by
        intro m b1 b2
        cases lo with
        | none => simp only [rdOr, RM.run, Option.some.injEq] at h3; subst h3; simp
        | some y =>
          obtain ⟨⟨kk, n⟩, r1, r2⟩ := bind_run h3
          simp only [RM.run, Option.some.injEq] at r2; subst r2
          obtain ⟨r3, _⟩ := rdInt_run h r1
          simp [r3, Instr.sliceBound, asIntOf, b1, b2]
      -- any slice value that is as told
      have run : ∀ {A : Option Addr} {c : Nat}, a.eval x = .slice A xs.length c → xs.length ≤ c → 0 ≤ l ∧ l ≤ hh ∧ hh ≤ (xs.length : Int) →
          (execOp a.eval o).run P w = .ok (.value (.slice (if c = l.toNat then A else A.map (·.add (l.toNat * e.sz))) (hh.toNat - l.toNat) (c - l.toNat))) w := by
        intro A c hx hc hb
        have hhi : (match hi.map a.eval with | some v => Instr.sliceBound v c .sliceAcap | none => pure xs.length).run P w = .ok hh.toNat w := by
          cases hi with
          | none => simp only [rdOr, RM.run, Option.some.injEq] at h5; subst h5; simp
          | some y =>
            obtain ⟨⟨kk, n⟩, r1, r2⟩ := bind_run h5
            simp only [RM.run, Option.some.injEq] at r2; subst r2
            obtain ⟨r3, _⟩ := rdInt_run h r1
            have b3 : n ≤ (c : Int) := by omega
            simp [r3, Instr.sliceBound, asIntOf, b3]
            intro q; omega
        have hl := hlo hh.toNat hb.1 (by omega)
        cases lo with
        | none =>
          cases hi with
          | none =>
            simp only [Option.map_none] at hl hhi
            simp only [rdOr, RM.run, Option.some.injEq] at h3 h5
            subst h3 h5
            unfold execOp
            simp [ho, hx, Instr.sliceAt, Instr.slice, run_underlying hu, Instr.sliceBounds, sizeOf, typeInfo, hii, hisz]
          | some y =>
            simp only [Option.map_none, Option.map_some] at hl hhi
            simp only [rdOr, RM.run, Option.some.injEq] at h3
            subst h3
            unfold execOp
            simp [ho, hx, Instr.sliceAt, Instr.slice, run_underlying hu, Instr.sliceBounds, hhi, sizeOf, typeInfo, hii, hisz]
        | some z =>
          cases hi with
          | none =>
            simp only [Option.map_none, Option.map_some] at hl hhi
            simp only [rdOr, RM.run, Option.some.injEq] at h5
            subst h5
            have hl' : (Instr.sliceBound (a.eval z) xs.length .sliceB).run P w = .ok l.toNat w := by simpa using hl
            unfold execOp
            simp [ho, hx, Instr.sliceAt, Instr.slice, run_underlying hu, Instr.sliceBounds, hl', sizeOf, typeInfo, hii, hisz]
          | some y =>
            simp only [Option.map_some] at hl hhi
            unfold execOp
            simp [ho, hx, Instr.sliceAt, Instr.slice, run_underlying hu, Instr.sliceBounds, hhi, hl, sizeOf, typeInfo, hii, hisz]
      -- what it holds
      have rep : ∀ {S : Nat → Prop} {A : Option Addr} {c : Nat}, a.eval x = .slice A xs.length c → 0 ≤ l ∧ l ≤ hh ∧ hh ≤ (xs.length : Int) → RepV w S (.dat (.slice te e) xs) (a.eval x) →
          RepV w S (.dat (.slice te e) ((xs.take hh.toNat).drop l.toNat)) (.slice (if c = l.toNat then A else A.map (·.add (l.toNat * e.sz))) (hh.toNat - l.toNat) (c - l.toNat)) := by
        intro S A c hx hb hr
        obtain ⟨cs, r1, r2⟩ := hr
        simp only [RepC, Imm] at r1
        obtain ⟨r3, A', c', flat, rfl, r4, r5, r6, r7, r8⟩ := r1
        have hx' : Value.slice A xs.length c = Value.slice A' xs.length c' := by rw [← hx, r2]; rfl
        simp only [Value.slice.injEq, true_and] at hx'
        obtain ⟨rfl, rfl⟩ := hx'
        have hlen : ((xs.take hh.toNat).drop l.toNat).length = hh.toNat - l.toNat := by simp; omega
        have hmul : (hh.toNat - l.toNat) * e.sz + l.toNat * e.sz ≤ flat.length := by
          rw [← Nat.add_mul, r6]; exact Nat.mul_le_mul_right _ (by omega)
        refine ⟨[.slice (if c = l.toNat then A else A.map (·.add (l.toNat * e.sz))) (hh.toNat - l.toNat) (c - l.toNat)], ?_, rfl⟩
        simp only [RepC, Imm]
        refine ⟨by rw [hlen]; omega, _, _, (flat.drop (l.toNat * e.sz)).take ((hh.toNat - l.toNat) * e.sz), by rw [hlen], by rw [hlen]; omega, by omega, by rw [hlen]; simp; omega, fun i hi => ?_, fun hne => ?_⟩
        · rw [hlen] at hi
          have hi2 : l.toNat + i < xs.length := by omega
          have := r7 (l.toNat + i) hi2
          have e1 : ((xs.take hh.toNat).drop l.toNat)[i]'(by rw [hlen]; exact hi) = xs[l.toNat + i] := by simp
          rw [e1]
          have e2 : (((flat.drop (l.toNat * e.sz)).take ((hh.toNat - l.toNat) * e.sz)).drop (i * e.sz)).take e.sz = (flat.drop ((l.toNat + i) * e.sz)).take e.sz := by
            have : i * e.sz + e.sz ≤ (hh.toNat - l.toNat) * e.sz := by rw [← Nat.succ_mul]; exact Nat.mul_le_mul_right _ hi
            rw [take_take_drop _ _ _ _ this, List.drop_drop, Nat.add_mul]
          rw [e2]; exact this
        · have hxs0 : xs ≠ [] := by rintro rfl; simp at hne
          obtain ⟨g, ofs, rfl, s1, s2⟩ := r8 hxs0
          have hc : ¬ c = l.toNat := by
            intro q
            have : ((xs.take hh.toNat).drop l.toNat).length = 0 := by rw [hlen]; omega
            exact hne (List.eq_nil_of_length_eq_zero this)
          rw [if_neg hc]
          exact ⟨g, ofs + l.toNat * e.sz, by simp [addr_add], s1, range_part s2⟩
      have shape : ∃ A c, a.eval x = .slice A xs.length c ∧ xs.length ≤ c := by
        obtain ⟨cs, r1, r2⟩ := hall
        simp only [RepC, Imm] at r1
        obtain ⟨_, A, c, flat, rfl, r4, _⟩ := r1
        exact ⟨A, c, r2, r4⟩
      obtain ⟨A, c, hx, hc⟩ := shape
      rcases hk with ⟨q1, q2, q3, q4⟩ | ⟨q1, t, y, q2, q3⟩
      · rw [q4] at h6
        exact good_put h hR hC h6 (fun _ => trivial) (fun hq => .inl (run hx hc hq.1)) (fun hq N _ => rep hx hq.1 q2) hp
      · obtain ⟨rfl, e2⟩ := D.dat.inj q2
        obtain rfl := eq_of_heq e2
        exact good_share (pre0 := [0 ≤ l ∧ l ≤ hh ∧ hh ≤ (xs.length : Int)]) (fact0 := []) h hR hC q3 (fun hq => .inl (run hx hc hq.1)) (fun _ => trivial) (fun hq S hr => rep hx hq.1 hr) h6 hp
    · simp [RM.run] at h2
  · simp [RM.run] at hrun
end
end Go.Proofs.Ytmjijggkdbiijaa
/- Appends. No statement is proved here. -/
namespace Go.Proofs.Ytmjijggkdbiijaa
open Go.RowKit
set_option linter.unusedVariables false
set_option linter.unusedSimpArgs false
section
variable {P : Program} {Γ : Ctx} {w0 : World} {K : Nat → Prop} {lab lab' : Lab} {σ : List Slot} {a : Act} {w w' : World} {C : List Nat} {o : Oper} {pre fact : List Prop} {ws : Wr}
/-- A slice that is taken: its cells. -/
theorem take_slice (h : Sim w0 K lab σ a w) {ty : Option Ty} {x : Operand} {k : Tk} (hr : (take ty x).run σ = some k) {te : Nat} {e : Ty} {ys : (Ty.slice te e).T} (hd : k.d = .dat (.slice te e) ys) :
    ∃ A c flat, a.eval x = .slice A ys.length c ∧ ys.length ≤ c ∧ ys.length ≤ 9223372036854775807 ∧ flat.length = ys.length * e.sz ∧ (∀ j (hj : j < ys.length), Imm w (Fz lab w) e ys[j] ((flat.drop (j * e.sz)).take e.sz)) ∧ (ys ≠ [] → ∃ g ofs, A = some ⟨g, ofs, none⟩ ∧ w.rangeAt g ofs flat) := by
  obtain ⟨_, hk⟩ := take_run h hr
  rw [hd] at hk
  rcases hk with ⟨q1, q2, q3, q4⟩ | ⟨q1, t, y, q2, q3⟩
  · obtain ⟨cs, r1, r2⟩ := q2
    simp only [RepC, Imm] at r1
    obtain ⟨r3, A, c, flat, rfl, r4, r5, r6, r7, r8⟩ := r1
    refine ⟨A, c, flat, r2, r4, r3, r6, r7, fun hne => ?_⟩
    obtain ⟨g, ofs, s1, _, s2⟩ := r8 hne
    exact ⟨g, ofs, s1, s2⟩
  · obtain ⟨rfl, e2⟩ := D.dat.inj q2
    obtain rfl := eq_of_heq e2
    obtain ⟨N, hN⟩ : ∃ N, ∀ x ∈ k.mv, x.1 ≠ N := ⟨(k.mv.map (·.1)).foldr max 0 + 1, fun x hx e => by
      have : ∀ (l : List Nat) (n : Nat), n ∈ l → n ≤ l.foldr max 0 := by
        intro l
        induction l with
        | nil => simp
        | cons m l ih =>
          intro n hn
          simp only [List.foldr_cons]
          rcases List.mem_cons.1 hn with rfl | hn
          · omega
          · have := ih n hn; omega
      have := this (k.mv.map (·.1)) x.1 (List.mem_map.2 ⟨x, hx, rfl⟩)
      omega⟩
    obtain ⟨lab1, m1, m2, m3, ⟨cs, m4, m5⟩, _, m6⟩ := q3.move h hN
    simp only [Own] at m5
    obtain ⟨r3, v, flat, rfl, r4, r5, r6⟩ := m5
    obtain ⟨A, c, rfl, s1, s2, s3, s4⟩ := ownsRow_range r4
    refine ⟨A, c, flat, m4, s1, r3, r4.1, fun j hj => (r6 j hj).keep fun g hg => ⟨⟨(m1 g).1 hg.1, hg.2⟩, rfl⟩, fun hne => ?_⟩
    rcases r4.2 with ⟨q, hn⟩ | ⟨g, cap, cur, q, _⟩
    · exact absurd (List.eq_nil_of_length_eq_zero hn) hne
    · simp only [Value.slice.injEq] at q
      obtain ⟨rfl, _, _⟩ := q
      exact ⟨g, 0, rfl, (s4 g 0 none rfl).2.2.1⟩
theorem takeR_slice (h : Sim w0 K lab σ a w) {ty : Option Ty} {x : Operand} {k : Tk} (hr : (takeR ty x).run σ = some k) {te : Nat} {e : Ty} {ys : (Ty.slice te e).T} (hd : k.d = .dat (.slice te e) ys) :
    ∃ A c flat, a.eval x = .slice A ys.length c ∧ ys.length ≤ c ∧ ys.length ≤ 9223372036854775807 ∧ flat.length = ys.length * e.sz ∧ (∀ j (hj : j < ys.length), Imm w (Fz lab w) e ys[j] ((flat.drop (j * e.sz)).take e.sz)) ∧ (ys ≠ [] → ∃ g ofs, A = some ⟨g, ofs, none⟩ ∧ w.rangeAt g ofs flat) := by
  cases x with
  | tmp n =>
    have hn := h.slots n
    simp only [takeR, RM.run] at hr
    split at hr
    · rename_i M p l hh hσ
      rw [hσ] at hn
      obtain ⟨d, h1, h2⟩ := bind_run hr
      simp only [RM.run, Option.some.injEq] at h2; subst h2
      obtain ⟨te', e', xs, hf, e1, cs, r1, r2⟩ := sub_run h hn h1
      simp only at hd
      have e2 : D.dat (.slice te' e') xs = .dat (.slice te e) ys := e1.symm.trans hd
      obtain ⟨e3, e4⟩ := D.dat.inj e2
      simp only [Ty.slice.injEq] at e3
      obtain ⟨rfl, rfl⟩ := e3
      obtain rfl := eq_of_heq e4
      rw [e1] at r1 r2
      simp only [RepC, Imm] at r1
      obtain ⟨r3, A, c, flat, rfl, r4, r5, r6, r7, r8⟩ := r1
      refine ⟨A, c, flat, r2, r4, r3, r6, fun j hj => Imm.flat hf (r7 j hj), fun hne => ?_⟩
      obtain ⟨g, ofs, s1, _, s2⟩ := r8 hne
      exact ⟨g, ofs, s1, s2⟩
    · exact take_slice h (ty := ty) (x := .tmp n) (by simpa only [take, RM.run] using hr) hd
  | const v => exact take_slice h (ty := ty) (x := .const v) (by simpa only [takeR] using hr) hd
  | func f => exact take_slice h (ty := ty) (x := .func f) (by simpa only [takeR] using hr) hd
  | global g => exact take_slice h (ty := ty) (x := .global g) (by simpa only [takeR] using hr) hd
theorem run_append_zero {t te : TypeId} {ty : TypeId} {i : TypeInfo} (ht : P.underlying t = some (.slice te)) (hi : P.info? te = some i) {base A : Option Addr} {n cap c : Nat} (hc : n ≤ cap) (w : World) :
    (Builtin.append_ #[t, t] ty #[.slice base n cap, .slice A 0 c]).run P w = .ok (.slice base n cap) w := by
  cases base <;> cases A <;> simp [Builtin.append_, run_underlying ht, sizeOf, typeInfo, hi, Builtin.lenOf, Builtin.firstCells, loadCells, loadCellsFrom, hc, storeCells]
theorem good_append (h : Sim w0 K lab σ a w) (hR : Rt C σ) (hC : True) (hT : TyOk P Γ) {T : Nat} {x y : Operand} {c : Call} (ho : o.op = .call c) (hcal : c.callee = .builtin .append) (hargs : c.args = #[x, y]) (hty : c.argTypes = #[T, T])
    (hrun : (evAppend Γ C o T x y).run σ = some (.pure pre fact ws)) (hp : allP pre) : Good P C w0 K lab o σ a w fact ws := by
  unfold evAppend at hrun
  split at hrun
  · rename_i te e hTy
    obtain ⟨k, h1, h2⟩ := bind_run hrun
    obtain ⟨l, h3, h4⟩ := bind_run h2
    split at h4
    · rename_i xs ys hown hxs hys
      have hkd := as_some hxs
      have hld := as_some hys
      obtain ⟨_, hk⟩ := take_run h h1
      obtain ⟨A, cy, flat2, y1, y2, y3, y4, y5, y6⟩ := takeR_slice h h3 hld
      rcases hk with ⟨q1, _⟩ | ⟨_, t, z, q2, q3⟩
      · rw [q1] at hown; cases hown
      · rw [hkd] at q2
        obtain ⟨rfl, e2⟩ := D.dat.inj q2
        obtain rfl := eq_of_heq e2
        obtain ⟨N, kk, ks, hd, _, hne, _, _, epre⟩ := put_run h4
        have hlen : xs.length + ys.length ≤ 4294967296 := by
          simp only [Eff.pure.injEq] at epre
          rw [epre.1] at hp
          exact hp.1
        obtain ⟨lab1, m1, m2, m3, ⟨cs, m4, m5⟩, m7, m6⟩ := q3.move h hne
        simp only [Own] at m5
        obtain ⟨r3, v, flat, rfl, r4, r5, r6⟩ := m5
        obtain ⟨hu, hte, hsz⟩ := (hT.ty T _ hTy).slice te e rfl
        obtain ⟨ii, hii, hisz, hby, zz, hz1, hz2⟩ := (hT.ty te e hte).info
        have hzc : zz.cells.size = e.sz := by
          have := (zero_imm (w := w) (S := fun _ => True) (t := e)).len
          rw [← hz2] at this; simpa using this
        have hx : a.eval x = v := m4
        have vlt : ∀ g, v.ownBlock = some g → g < w.heap.size := fun g hg => (World.ownsRow.lt r4 g hg).2
        -- the step
        obtain ⟨v', w', s1, s2, s3, s4⟩ : ∃ v' w', (execOp a.eval o).run P w = .ok (.value v') w' ∧ w'.ownsRow 0 te e.sz v' (xs.length + ys.length) (flat ++ flat2) ∧ w.grownBy w' v.ownBlock ∧ (v'.ownBlock = v.ownBlock ∨ v'.ownBlock = some w.heap.size) := by
          by_cases hy0 : ys = []
          · subst hy0
            have hf2 : flat2 = [] := List.eq_nil_of_length_eq_zero (by simpa using y4)
            obtain ⟨B, cx, rfl, b1, _⟩ := ownsRow_range r4
            refine ⟨_, w, ?_, by rw [hf2, List.append_nil]; exact r4, ⟨rfl, rfl, rfl, Nat.le_refl _, fun _ _ _ => rfl⟩, .inl rfl⟩
            have e1 := run_append_zero (ty := o.type) hu hii (base := B) (A := A) (c := cy) b1 w
            have y1' : a.eval y = .slice A 0 cy := y1
            unfold execOp
            simp only [ho, resolve, hcal, hargs, hty, invoke, builtin, Sem.run_bind, Sem.run_pure, Result.andThen_ok, List.map_toArray, List.map_cons, List.map_nil, hx, y1', e1]
          · obtain ⟨g, ofs, rfl, hrng⟩ := y6 hy0
            obtain ⟨v', w', p1, p2, p3, _, p5⟩ := run_append_own_at (P := P) w 0 T o.type te ii zz e.sz ii.bytes hu hii hz1 hisz rfl hzc hsz v xs.length flat r4 ⟨g, ofs, none⟩ ys.length cy flat2 y4
              (fun j u hu => by rw [addr_add]; exact hrng j u hu)
              (fun u hu => by
                obtain ⟨j, hj, rfl⟩ := List.getElem_of_mem hu
                have hz' : 0 < e.sz := hsz
                have hq : j / e.sz < ys.length := (Nat.div_lt_iff_lt_mul hz').2 (by rw [← y4]; exact hj)
                refine (y5 (j / e.sz) hq).one _ ?_
                have e1 : j = j / e.sz * e.sz + j % e.sz := by rw [Nat.mul_comm]; exact (Nat.div_add_mod j e.sz).symm
                have e2 : ((flat2.drop (j / e.sz * e.sz)).take e.sz)[j % e.sz]? = some flat2[j] := by
                  rw [List.getElem?_take_of_lt (Nat.mod_lt _ hz'), List.getElem?_drop, ← e1, List.getElem?_eq_getElem hj]
                exact List.mem_of_getElem? e2)
              (by unfold maxLen; omega) (by have := Nat.mul_le_mul hlen hby; omega) (Nat.zero_le _)
            refine ⟨v', w', ?_, p2, p3, p5⟩
            have y1' : a.eval y = .slice (some ⟨g, ofs, none⟩) ys.length cy := y1
            unfold execOp
            simp only [ho, resolve, hcal, hargs, hty, invoke, builtin, Sem.run_bind, Sem.run_pure, Result.andThen_ok, List.map_toArray, List.map_cons, List.map_nil, hx, y1', p1]
        -- the labels behind it
        have lt1 : ∀ {g : Nat} {p : Nat × Nat × Nat}, lab1 g = some p → g < w.heap.size := fun hg => by obtain ⟨q, hq⟩ := m2 _ _ hg; exact h.lt _ _ hq
        have bl : ∀ g, v.ownBlock = some g → lab1 g = some (N, 0, 1) := fun g hg => r5 g hg
        have hwsz : w.heap.size ≤ w'.heap.size := s3.size
        have hlt' : ∀ g, v'.ownBlock = some g → g < w'.heap.size := fun g hg => (World.ownsRow.lt s2 g hg).2
        obtain ⟨lab2, hl2⟩ : ∃ lab2 : Lab, lab2 = fun g => if g = w.heap.size ∧ v'.ownBlock = some g then some (N, 0, 1) else lab1 g := ⟨_, rfl⟩
        have old : ∀ {g : Nat}, g < w.heap.size → lab2 g = lab1 g := fun hg => by rw [hl2]; simp only; rw [if_neg (fun q => by omega)]
        have same : ∀ {g : Nat}, g < w.heap.size → lab1 g ≠ some (N, 0, 1) → w'.heap[g]? = w.heap[g]? := fun {g} hg hne => s3.block g hg fun q => hne (bl g q.symm)
        have fz : ∀ g, Fz lab1 w g → Fz lab2 w' g ∧ w'.heap[g]? = w.heap[g]? := fun g hg => ⟨⟨by rw [old hg.2]; exact hg.1, by have := hg.2; omega⟩, same hg.2 (by rw [hg.1]; simp)⟩
        have lb2 : ∀ g, v'.ownBlock = some g → lab2 g = some (N, 0, 1) := by
          intro g hg
          rcases s4 with e1 | e1
          · rw [e1] at hg
            rw [old (vlt g hg)]; exact bl g hg
          · rw [e1] at hg
            obtain rfl := Option.some.inj hg
            rw [hl2]; simp only; rw [if_pos ⟨trivial, e1⟩]
        refine good_putT h hR hC h4 hp (lab' := lab2) (w' := w') (fun _ => .inl s1) (fun _ => trivial) ?_ (fun g p hg => ?_) (fun g p hg => ?_) (fun g hg => fz g ⟨(m1 g).2 hg.1, hg.2⟩) (fun N' hd' M hM hMx g j m hg => ?_) (fun N' hd' => ?_) (fun N' hd' hne' q hq => ?_)
        · refine ⟨s3.os.trans h.fr.os, s3.tape.trans h.fr.tape, s3.output.trans h.fr.output, Nat.le_trans h.fr.size hwsz, fun g hg => ?_⟩
          have hlt : g < w.heap.size := Nat.lt_of_lt_of_le (h.kb g hg) h.fr.size
          refine (s3.block g hlt fun q => ?_).trans (h.fr.keep g hg)
          obtain ⟨p, hp⟩ := m2 g _ (bl g q.symm)
          exact h.kl g p hp hg
        · rw [hl2] at hg
          simp only at hg
          split at hg
          · rename_i q; exact hlt' g q.2
          · have := lt1 hg; omega
        · rw [hl2] at hg
          simp only at hg
          split at hg
          · rename_i q; intro hk; have := h.kb g hk; have := h.fr.size; omega
          · obtain ⟨p', hp'⟩ := m2 g p hg; exact h.kl g p' hp'
        · rw [hd] at hd'; obtain rfl := Option.some.inj hd'
          have hlt := h.lt g _ hg
          have hg1 := m3 M hMx g j m hg
          refine ⟨by rw [old hlt]; exact hg1, same hlt (by rw [hg1]; simp; intro q; exact absurd q hM)⟩
        · rw [hd] at hd'; obtain rfl := Option.some.inj hd'
          refine ⟨rfl, [v'], rfl, ?_⟩
          simp only [Own]
          refine ⟨by rw [List.length_append]; omega, v', flat ++ flat2, rfl, by rw [List.length_append]; exact s2, lb2, fun j hj => ?_⟩
          by_cases hj1 : j < xs.length
          · rw [List.getElem_append_left hj1]
            have hle : j * e.sz + e.sz ≤ flat.length := by rw [r4.1, ← Nat.succ_mul]; exact Nat.mul_le_mul_right _ hj1
            rw [List.drop_append_of_le_length (by omega), List.take_append_of_le_length (by simp; omega)]
            exact (r6 j hj1).keep fz
          · have hj2 : j - xs.length < ys.length := by rw [List.length_append] at hj; omega
            rw [List.getElem_append_right (by omega)]
            have hge : flat.length ≤ j * e.sz := by rw [r4.1]; exact Nat.mul_le_mul_right _ (by omega)
            have e1 : (flat ++ flat2).drop (j * e.sz) = flat2.drop ((j - xs.length) * e.sz) := by
              rw [List.drop_append, List.drop_eq_nil_of_le hge, List.nil_append, r4.1, ← Nat.sub_mul]
            rw [e1]
            exact (y5 (j - xs.length) hj2).keep fun g hg => fz g ⟨(m1 g).2 hg.1, hg.2⟩
        · obtain ⟨t1, t2, t3⟩ := m6 q hq
          have hqN : q.1 ≠ N := hne q hq
          refine ⟨t1, ?_, ?_⟩
          · refine t2.keep ⟨fz, fun g j m hg => ?_⟩ (fun M hM => by rw [t1] at hM; cases hM)
            have hlt := lt1 hg
            exact ⟨by rw [old hlt]; exact hg, same hlt (by rw [hg]; simp; intro q; exact absurd q hqN)⟩
          · rcases t3 with t3 | t3 | ⟨t3, t4, _⟩
            · exact .inl t3
            · exact .inr (.inl t3)
            · refine .inr (.inr ⟨t3, t4, fun g hg => ?_⟩)
              have hlt := h.lt g _ hg
              refine s3.block g hlt fun e1 => ?_
              have hb := bl g e1.symm
              rw [m7 g _ hg] at hb
              simp at hb
    · simp [RM.run] at h4
  · simp [RM.run] at hrun
end
end Go.Proofs.Ytmjijggkdbiijaa
/- Stores. No statement is proved here. -/
namespace Go.Proofs.Ytmjijggkdbiijaa
open Go.RowKit
set_option linter.unusedVariables false
set_option linter.unusedSimpArgs false
section
variable {P : Program} {Γ : Ctx} {w0 : World} {K : Nat → Prop} {lab lab' : Lab} {σ : List Slot} {a : Act} {w w' : World} {C : List Nat} {o : Oper} {pre fact : List Prop} {ws : Wr}
/-- A step that writes no temporary: the slots ws turn, those of kk die. -/
theorem Sim.wrT (h : Sim w0 K lab σ a w) {ws kk : Wr} (hfr : Fr w0 K w') (hlt : ∀ g p, lab' g = some p → g < w'.heap.size) (hkl : ∀ g p, lab' g = some p → ¬ K g)
    (hS : ∀ g, Fz lab w g → Fz lab' w' g ∧ w'.heap[g]? = w.heap[g]?) (hkp : ∀ M, (∀ x ∈ ws, x.1 ≠ M) → ∀ g k m, lab g = some (M, k, m) → lab' g = some (M, k, m) ∧ w'.heap[g]? = w.heap[g]?)
    (hws : ∀ x ∈ ws, x.2.root = none ∧ SlotOk lab' w' [] #[] x.1 x.2 (a.tmps.getD x.1 undef) ∧ (x.2 = .dead ∨ (σ.getD x.1 .dead).root ≠ none ∨ (x.2.rty = (σ.getD x.1 .dead).rty ∧ x.2.vty = (σ.getD x.1 .dead).vty ∧ ∀ g, lab g = some (x.1, 0, 0) → w'.heap[g]? = w.heap[g]?) ∨
      (x.2.rty = (σ.getD x.1 .dead).rty ∧ ∀ M, M ≠ x.1 → (σ.getD M .dead).root = some x.1 → (∃ p, σ.getD M .dead = .adr x.1 p) ∨ ∃ y ∈ kk, y.1 = M)))
    (hkk : (∀ x ∈ kk, x.2 = .dead ∧ (σ.getD x.1 .dead).root ≠ none) ∧ ∀ x ∈ ws, x.2 = .dead → ∀ M, M ≠ x.1 → (σ.getD M .dead).root = some x.1 → ∃ y ∈ kk, y.1 = M) :
    Sim w0 K lab' (app σ (ws ++ kk)) a w' := by
  have hcase : ∀ M, ((app σ (ws ++ kk)).getD M .dead = .dead ∧ ((∃ x ∈ kk, x.1 = M) ∨ (∃ x ∈ ws, x.1 = M ∧ x.2 = .dead) ∨ ¬ M < σ.length)) ∨ (∃ x ∈ ws, x.1 = M ∧ (app σ (ws ++ kk)).getD M .dead = x.2) ∨ ((∀ x ∈ ws ++ kk, x.1 ≠ M) ∧ (app σ (ws ++ kk)).getD M .dead = σ.getD M .dead) := by
    intro M
    by_cases hl : M < σ.length
    · by_cases hm2 : ∃ x ∈ kk, x.1 = M
      · exact .inl ⟨by rw [app_append]; exact app_dead _ _ _ hm2 fun x hx _ => (hkk.1 x hx).1, .inl hm2⟩
      · by_cases hm3 : ∃ x ∈ ws, x.1 = M
        · obtain ⟨x, h1, h2, h3⟩ := app_mem σ ws M hl hm3
          refine .inr (.inl ⟨x, h1, h2, ?_⟩)
          rw [app_append, app_out _ _ _ (fun y hy q => hm2 ⟨y, hy, q⟩)]
          exact h3
        · have hno : ∀ x ∈ ws ++ kk, x.1 ≠ M := fun x hx q => by
            rcases List.mem_append.1 hx with hx | hx
            · exact hm3 ⟨x, hx, q⟩
            · exact hm2 ⟨x, hx, q⟩
          exact .inr (.inr ⟨hno, app_out _ _ _ hno⟩)
    · exact .inl ⟨getD_beyond (by rw [app_len]; exact hl), .inr (.inr hl)⟩
  refine h.upd (by rw [app_len]; exact h.len) h.nd hfr hlt hkl fun M => ?_
  rcases hcase M with ⟨e, _⟩ | ⟨x, hx, hxM, e⟩ | ⟨hout, e⟩
  · refine .inr ?_; rw [e]; trivial
  · refine .inr ?_
    rw [e]
    obtain ⟨q1, q2, _⟩ := hws x hx
    rw [← hxM]
    exact q2.free q1
  · -- as it was; what it hangs on
    by_cases hroot : ∃ R p, σ.getD M .dead = .adr R p ∧ ∃ x ∈ ws, x.1 = R ∧ x.2.rty = (σ.getD R .dead).rty
    · obtain ⟨R, p, hadr, x, hx, hxR, hrty⟩ := hroot
      refine .inr ?_
      rw [e, hadr]
      have hs := h.slots M
      rw [hadr] at hs
      obtain ⟨g, ofs, t, u, h1, h2, h3⟩ := hs
      have hnotr := not_idle (root_of (lab := lab) (w := w) (N := M) (v := a.tmps.getD M undef) (s := σ.getD M .dead) (h.slots M) (M := R) (by rw [hadr]; rfl))
      refine ⟨g, ofs, t, u, h1, ?_, h3⟩
      rcases hcase R with ⟨e2, hd⟩ | ⟨x2, hx2, hx2R, e2⟩ | ⟨_, e2⟩
      · exfalso
        rcases hd with ⟨y, hy, hyR⟩ | ⟨y, hy, hyR, hyd⟩ | hl
        · have := (hkk.1 y hy).2; rw [hyR, hnotr.2] at this; exact this rfl
        · have hMR : M ≠ y.1 := by rintro rfl; exact hout y (by simp [hy]) rfl
          obtain ⟨z, hz, hzM⟩ := hkk.2 y hy hyd M hMR (by rw [hadr, hyR]; rfl)
          exact hout z (by simp [hz]) hzM
        · rw [getD_beyond hl] at h2; cases h2
      · rw [e2]
        obtain ⟨_, _, q3⟩ := hws x2 hx2
        rcases q3 with q3 | q3 | ⟨q3, _⟩ | ⟨q3, _⟩
        · exfalso
          have hMR : M ≠ x2.1 := by rintro rfl; exact hout x2 (by simp [hx2]) rfl
          obtain ⟨z, hz, hzM⟩ := hkk.2 x2 hx2 q3 M hMR (by rw [hadr, hx2R]; rfl)
          exact hout z (by simp [hz]) hzM
        · rw [hx2R, hnotr.2] at q3; exact absurd rfl q3
        · rw [q3, hx2R]; exact h2
        · rw [q3, hx2R]; exact h2
      · rw [e2]; exact h2
    · refine .inl ⟨e, rfl, ⟨hS, fun g k m hg => hkp M (fun x hx => hout x (by simp [hx])) g k m hg⟩, fun R hr => ?_⟩
      have hn := not_idle (root_of (h.slots M) hr)
      have hMR : ∀ {y : Nat × Slot}, y ∈ ws → M ≠ y.1 := fun {y} hy q => hout y (by simp [hy]) q.symm
      rcases hcase R with ⟨e2, hd⟩ | ⟨x, hx, hxR, e2⟩ | ⟨hout2, e2⟩
      · exfalso
        rcases hd with ⟨y, hy, hyR⟩ | ⟨y, hy, hyR, hyd⟩ | hl
        · have := (hkk.1 y hy).2; rw [hyR, hn.2] at this; exact this rfl
        · obtain ⟨z, hz, hzM⟩ := hkk.2 y hy hyd M (hMR hy) (by rw [hyR]; exact hr)
          exact hout z (by simp [hz]) hzM
        · rw [getD_beyond hl] at hn; simp [Slot.idle] at hn
      · obtain ⟨_, _, q3⟩ := hws x hx
        rcases q3 with q3 | q3 | ⟨q3, q4, q5⟩ | ⟨q3, q4⟩
        · exfalso
          obtain ⟨z, hz, hzM⟩ := hkk.2 x hx q3 M (hMR hx) (by rw [hxR]; exact hr)
          exact hout z (by simp [hz]) hzM
        · rw [hxR, hn.2] at q3; exact absurd rfl q3
        · rw [hxR] at q3 q4 q5
          exact ⟨fun g hg => (hS g hg).2, q5, by rw [e2]; exact q3, by rw [e2]; exact q4, rfl⟩
        · exfalso
          rcases q4 M (hMR hx) (by rw [hxR]; exact hr) with ⟨p, hp⟩ | ⟨z, hz, hzM⟩
          · exact hroot ⟨R, p, by rw [hp, hxR], x, hx, hxR, by rw [q3, hxR]⟩
          · exact hout z (by simp [hz]) hzM
      · exact ⟨fun g hg => (hS g hg).2, fun g hg => (hkp R (fun x hx => hout2 x (by simp [hx])) g 0 0 hg).2, by rw [e2], by rw [e2], rfl⟩
theorem killFrm_run (M : Nat) : ∀ (C : List Nat), ∃ ks, (killFrm M C).run σ = some ks ∧ (∀ x ∈ ks, x.2 = .dead ∧ (σ.getD x.1 .dead).root = some M) ∧ ∀ c ∈ C, (σ.getD c .dead).root = some M → (∃ p, σ.getD c .dead = .adr M p) ∨ ∃ x ∈ ks, x.1 = c
  | [] => ⟨[], rfl, by simp, by simp⟩
  | c :: C => by
    obtain ⟨ks, h1, h2, h3⟩ := killFrm_run M C
    have tail : ∀ d ∈ C, (σ.getD d .dead).root = some M → (∃ p, σ.getD d .dead = .adr M p) ∨ ∃ x ∈ (c, Slot.dead) :: ks, x.1 = d := fun d hd hr => by
      rcases h3 d hd hr with h | ⟨x, hx, e⟩
      · exact .inl h
      · exact .inr ⟨x, by simp [hx], e⟩
    have run : (killFrm M (c :: C)).run σ = some (match σ.getD c .dead with | .frm M' _ => if M' = M then (c, .dead) :: ks else ks | .elt M' _ _ _ => if M' = M then (c, .dead) :: ks else ks | .sub M' _ _ _ => if M' = M then (c, .dead) :: ks else ks | _ => ks) := by
      show ((killFrm M C).bind _).run σ = _
      rw [bind_run' h1]; rfl
    by_cases hk : ∃ p, σ.getD c .dead = .frm M p ∨ (∃ i q, σ.getD c .dead = .elt M p i q) ∨ ∃ i q, σ.getD c .dead = .sub M p i q
    · refine ⟨(c, .dead) :: ks, ?_, ?_, ?_⟩
      · rw [run]
        obtain ⟨p, hp | ⟨i, q, hp⟩ | ⟨i, q, hp⟩⟩ := hk <;> rw [hp] <;> simp
      · intro x hx
        rcases List.mem_cons.1 hx with rfl | hx
        · refine ⟨rfl, ?_⟩
          obtain ⟨p, hp | ⟨i, q, hp⟩ | ⟨i, q, hp⟩⟩ := hk <;> rw [hp] <;> rfl
        · exact h2 x hx
      · intro d hd hr
        rcases List.mem_cons.1 hd with rfl | hd
        · exact .inr ⟨_, List.mem_cons_self .., rfl⟩
        · exact tail d hd hr
    · refine ⟨ks, ?_, h2, ?_⟩
      · rw [run]
        cases hs : σ.getD c .dead with
        | frm M' p => simp only; rw [if_neg]; rintro rfl; exact hk ⟨p, .inl hs⟩
        | elt M' p i q => simp only; rw [if_neg]; rintro rfl; exact hk ⟨p, .inr (.inl ⟨i, q, hs⟩)⟩
        | sub M' p i q => simp only; rw [if_neg]; rintro rfl; exact hk ⟨p, .inr (.inr ⟨i, q, hs⟩)⟩
        | _ => rfl
      · intro d hd hr
        rcases List.mem_cons.1 hd with rfl | hd
        · left
          cases hs : σ.getD d .dead with
          | adr M' p => rw [hs] at hr; simp only [Slot.root, Option.some.injEq] at hr; subst hr; exact ⟨p, rfl⟩
          | elt M' p i q => rw [hs] at hr; simp only [Slot.root, Option.some.injEq] at hr; subst hr; exact absurd ⟨p, .inr (.inl ⟨i, q, hs⟩)⟩ hk
          | sub M' p i q => rw [hs] at hr; simp only [Slot.root, Option.some.injEq] at hr; subst hr; exact absurd ⟨p, .inr (.inr ⟨i, q, hs⟩)⟩ hk
          | frm M' p => rw [hs] at hr; simp only [Slot.root, Option.some.injEq] at hr; subst hr; exact absurd ⟨p, .inl hs⟩ hk
          | _ => rw [hs] at hr; simp [Slot.root] at hr
        · exact h3 d hd hr
theorem lv_at : ∀ {t : Ty} {p : Path} {u : Ty}, t.at p = some u → (∀ s ∈ p, ∀ k, s ≠ .ix k) → u.lv ≤ t.lv
  | t, [], u, h, _ => by rw [Ty.at_nil] at h; obtain rfl := Option.some.inj h; exact Nat.le_refl _
  | .prod a b, .fst :: p, u, h, hx => by have := lv_at (t := a) h (fun s hs => hx s (by simp [hs])); simp only [Ty.lv]; omega
  | .prod a b, .snd :: p, u, h, hx => by have := lv_at (t := b) h (fun s hs => hx s (by simp [hs])); simp only [Ty.lv]; omega
  | .arr n e, .ix i :: p, u, h, hx => absurd rfl (hx (.ix i) (by simp) i)
  | .int _, .fst :: _, _, h, _ => by simp [Ty.at] at h
  | .int _, .snd :: _, _, h, _ => by simp [Ty.at] at h
  | .int _, .ix _ :: _, _, h, _ => by simp [Ty.at] at h
  | .bool, .fst :: _, _, h, _ => by simp [Ty.at] at h
  | .bool, .snd :: _, _, h, _ => by simp [Ty.at] at h
  | .bool, .ix _ :: _, _, h, _ => by simp [Ty.at] at h
  | .str, .fst :: _, _, h, _ => by simp [Ty.at] at h
  | .str, .snd :: _, _, h, _ => by simp [Ty.at] at h
  | .str, .ix _ :: _, _, h, _ => by simp [Ty.at] at h
  | .unit, .fst :: _, _, h, _ => by simp [Ty.at] at h
  | .unit, .snd :: _, _, h, _ => by simp [Ty.at] at h
  | .unit, .ix _ :: _, _, h, _ => by simp [Ty.at] at h
  | .slice _ _, .fst :: _, _, h, _ => by simp [Ty.at] at h
  | .map _ _, .fst :: _, _, h, _ => by simp [Ty.at] at h
  | .fn _ _, .fst :: _, _, h, _ => by simp [Ty.at] at h
  | .slice _ _, .snd :: _, _, h, _ => by simp [Ty.at] at h
  | .map _ _, .snd :: _, _, h, _ => by simp [Ty.at] at h
  | .fn _ _, .snd :: _, _, h, _ => by simp [Ty.at] at h
  | .slice _ _, .ix _ :: _, _, h, _ => by simp [Ty.at] at h
  | .map _ _, .ix _ :: _, _, h, _ => by simp [Ty.at] at h
  | .fn _ _, .ix _ :: _, _, h, _ => by simp [Ty.at] at h
  | .prod _ _, .ix _ :: _, _, h, _ => by simp [Ty.at] at h
  | .arr _ _, .fst :: _, _, h, _ => by simp [Ty.at] at h
  | .arr _ _, .snd :: _, _, h, _ => by simp [Ty.at] at h
/-- All that can be of one's own is stored: then the whole is. -/
theorem Imm.setOwn {w : World} {S : Nat → Prop} {L : Nat → Nat → Prop} : ∀ {t : Ty} {i : Nat} {x : t.T} {p : Path} {u : Ty} {y : u.T} {z : t.T} {cs ds : List Value}, Imm w S t x cs → setS t x p u y = some z → u.lv = t.lv → (∀ s ∈ p, ∀ k, s ≠ .ix k) → Own w S L (i + t.off p) u y ds →
    Own w S L i t z (splice cs (t.off p) ds)
  | t, i, x, [], u, y, z, cs, ds, h, hs, _, _, hd => by
    have h' : (if h : u = t then some (castT h y) else none) = some z := by cases t <;> simpa only [setS] using hs
    split at h'
    · rename_i e; subst e
      obtain rfl := Option.some.inj h'
      have : u.off [] = 0 := by cases u <;> rfl
      rw [this, splice_all (by rw [hd.len, h.len])]
      rw [this] at hd
      exact hd
    · cases h'
  | .prod a b, i, x, .fst :: p, u, y, z, cs, ds, h, hs, hl, hx, hd => by
    simp only [setS] at hs
    split at hs
    · rename_i q hq
      obtain rfl := Option.some.inj hs
      have hlen := h.len
      have hx' : ∀ s ∈ p, ∀ k, s ≠ .ix k := fun s hs => hx s (by simp [hs])
      have hat := set_at hq
      have h1 := Ty.off_le hat (Ty.inb_flds hx')
      have h2 := hd.len
      have h3 := lv_at hat hx'
      simp only [Ty.lv] at hl
      simp only [Ty.sz] at hlen
      simp only [Imm] at h
      simp only [Own, Ty.off] at hd ⊢
      rw [splice_take_of (by omega) (by omega), splice_drop_of (by omega) (by omega)]
      exact ⟨Imm.setOwn h.1 hq (by omega) hx' hd, Own.of_imm (by omega) h.2⟩
    · cases hs
  | .prod a b, i, x, .snd :: p, u, y, z, cs, ds, h, hs, hl, hx, hd => by
    simp only [setS] at hs
    split at hs
    · rename_i q hq
      obtain rfl := Option.some.inj hs
      have hlen := h.len
      have hx' : ∀ s ∈ p, ∀ k, s ≠ .ix k := fun s hs => hx s (by simp [hs])
      have hat := set_at hq
      have h1 := Ty.off_le hat (Ty.inb_flds hx')
      have h2 := hd.len
      have h3 := lv_at hat hx'
      simp only [Ty.lv] at hl
      simp only [Ty.sz] at hlen
      simp only [Imm] at h
      simp only [Own, Ty.off] at hd ⊢
      rw [splice_take_le (by omega) (by omega), splice_drop_le (by omega) (by omega), Nat.add_sub_cancel_left]
      rw [← Nat.add_assoc] at hd
      exact ⟨Own.of_imm (by omega) h.1, Imm.setOwn h.2 hq (by omega) hx' hd⟩
    · cases hs
  | .arr n e, i, xs, .ix k :: p, u, y, z, cs, ds, h, hs, hl, hx, hd => absurd rfl (hx (.ix k) (by simp) k)
  | .int _, _, _, .fst :: _, _, _, _, _, _, _, h, _, _, _ => by simp [setS] at h
  | .int _, _, _, .snd :: _, _, _, _, _, _, _, h, _, _, _ => by simp [setS] at h
  | .int _, _, _, .ix _ :: _, _, _, _, _, _, _, h, _, _, _ => by simp [setS] at h
  | .bool, _, _, .fst :: _, _, _, _, _, _, _, h, _, _, _ => by simp [setS] at h
  | .bool, _, _, .snd :: _, _, _, _, _, _, _, h, _, _, _ => by simp [setS] at h
  | .bool, _, _, .ix _ :: _, _, _, _, _, _, _, h, _, _, _ => by simp [setS] at h
  | .str, _, _, .fst :: _, _, _, _, _, _, _, h, _, _, _ => by simp [setS] at h
  | .str, _, _, .snd :: _, _, _, _, _, _, _, h, _, _, _ => by simp [setS] at h
  | .str, _, _, .ix _ :: _, _, _, _, _, _, _, h, _, _, _ => by simp [setS] at h
  | .unit, _, _, .fst :: _, _, _, _, _, _, _, h, _, _, _ => by simp [setS] at h
  | .unit, _, _, .snd :: _, _, _, _, _, _, _, h, _, _, _ => by simp [setS] at h
  | .unit, _, _, .ix _ :: _, _, _, _, _, _, _, h, _, _, _ => by simp [setS] at h
  | .slice _ _, _, _, .fst :: _, _, _, _, _, _, _, h, _, _, _ => by simp [setS] at h
  | .map _ _, _, _, .fst :: _, _, _, _, _, _, _, h, _, _, _ => by simp [setS] at h
  | .fn _ _, _, _, .fst :: _, _, _, _, _, _, _, h, _, _, _ => by simp [setS] at h
  | .slice _ _, _, _, .snd :: _, _, _, _, _, _, _, h, _, _, _ => by simp [setS] at h
  | .map _ _, _, _, .snd :: _, _, _, _, _, _, _, h, _, _, _ => by simp [setS] at h
  | .fn _ _, _, _, .snd :: _, _, _, _, _, _, _, h, _, _, _ => by simp [setS] at h
  | .slice _ _, _, _, .ix _ :: _, _, _, _, _, _, _, h, _, _, _ => by simp [setS] at h
  | .map _ _, _, _, .ix _ :: _, _, _, _, _, _, _, h, _, _, _ => by simp [setS] at h
  | .fn _ _, _, _, .ix _ :: _, _, _, _, _, _, _, h, _, _, _ => by simp [setS] at h
  | .prod _ _, _, _, .ix _ :: _, _, _, _, _, _, _, h, _, _, _ => by simp [setS] at h
  | .arr _ _, _, _, .fst :: _, _, _, _, _, _, _, h, _, _, _ => by simp [setS] at h
  | .arr _ _, _, _, .snd :: _, _, _, _, _, _, _, h, _, _, _ => by simp [setS] at h
theorem splice_twice {cs ds es : List Value} {o : Nat} (h : o + ds.length ≤ cs.length) (hl : ds.length = es.length) : splice (splice cs o ds) o es = splice cs o es := by
  apply List.ext_getElem?; intro j
  rw [splice_at (by rw [splice_len h]; omega), splice_at h, splice_at (by omega), hl]
  by_cases h1 : j < o
  · simp [h1]
  · by_cases h2 : j < o + es.length
    · simp [h1, h2]
    · simp [h1, h2]
end
end Go.Proofs.Ytmjijggkdbiijaa
/- Stores into variables, and into elements of slices of one's own. No statement is proved here. -/
namespace Go.Proofs.Ytmjijggkdbiijaa
open Go.RowKit
set_option linter.unusedVariables false
set_option linter.unusedSimpArgs false
section
variable {P : Program} {Γ : Ctx} {w0 : World} {K : Nat → Prop} {lab lab' : Lab} {σ : List Slot} {a : Act} {w w' : World} {C : List Nat} {o : Oper} {pre fact : List Prop} {ws : Wr}
theorem size_setRow (w : World) (g : Nat) (cs : Array Value) : (w.setRow g cs).heap.size = w.heap.size := by simp [World.setRow]
theorem runs_store {T : Nat} {x y : Operand} (ho : o.op = .store T x y) {g ofs : Nat} {ty : TypeId} {cs ds : List Value} (hx : a.eval x = .pointer (some ⟨g, ofs, none⟩)) (hy : (a.eval y).cells = ds.toArray) {i : TypeInfo} (hi : P.info? T = some i) (hsz : i.size = ds.length)
    (h1 : ∀ v ∈ ds, v.oneCell' = true) (hg : w.heap[g]? = some (.cells cs.toArray ty (0, 0))) (hfit : ofs + ds.length ≤ cs.length) : Runs P o a w undef (w.setRow g (splice cs ofs ds).toArray) := by
  refine .inr ⟨?_, rfl⟩
  have hst := run_storeCells_at P g ofs ty ds 0 cs.toArray w hg (by simpa using hfit) h1
  simp only [Nat.add_zero] at hst
  unfold execOp
  simp [ho, hx, Instr.storeAt, Instr.sureAddr, storeVar, sizeOf, typeInfo, hi, hsz, hy, hst, splice]
theorem fr_setRow (h : Sim w0 K lab σ a w) {g : Nat} {p : Nat × Nat × Nat} (hg : lab g = some p) (cs : Array Value) : Fr w0 K (w.setRow g cs) :=
  ⟨h.fr.os, h.fr.tape, h.fr.output, by rw [size_setRow]; exact h.fr.size, fun g' hk => (setRow_other w g g' cs (fun e => h.kl g p hg (e ▸ hk))).trans (h.fr.keep g' hk)⟩
/-- A store into slot M's variable. -/
theorem store_at (h : Sim w0 K lab σ a w) (hR : Rt C σ) (hd : o.dst = none) {M g : Nat} {ty : TypeId} {cs cs' : List Value} {s' : Slot} {ws0 kk ks : Wr} (hptr : a.tmps.getD M undef = .pointer (some ⟨g, 0, none⟩)) (hl : lab g = some (M, 0, 0)) (hg : w.heap[g]? = some (.cells cs.toArray ty (0, 0)))
    (A1 : ∀ g, lab g = none → lab' g = none) (A2 : ∀ g p, lab' g = some p → ∃ q, lab g = some q) (A3 : ∀ M', M' ≠ M → (∀ x ∈ ws0, x.1 ≠ M') → ∀ g k m, lab g = some (M', k, m) → lab' g = some (M', k, m)) (A4 : ∀ g M', lab g = some (M', 0, 0) → lab' g = some (M', 0, 0))
    (hws0 : ∀ e ∈ ws0, e.2.root = none ∧ SlotOk lab' w [] #[] e.1 e.2 (a.tmps.getD e.1 undef) ∧ (e.2 = .dead ∨ (σ.getD e.1 .dead).root ≠ none ∨ (e.2.rty = (σ.getD e.1 .dead).rty ∧ e.2.vty = (σ.getD e.1 .dead).vty ∧ ∀ g, lab g = some (e.1, 0, 0) → w.heap[g]? = w.heap[g]?)))
    (hM : ∀ x ∈ ws0, x.1 ≠ M) (hkk : (frees C ws0).run σ = some kk) (hks : (killFrm M (C.filter (Cm C M))).run σ = some ks) (hs' : s'.root = none) (hsd : s' ≠ .dead) (hrty : s'.rty = (σ.getD M .dead).rty)
    (hnew : SlotOk lab' (w.setRow g cs'.toArray) [] #[] M s' (.pointer (some ⟨g, 0, none⟩))) (hv : Runs P o a w undef (w.setRow g cs'.toArray)) : Good P C w0 K lab o σ a w [] (ws0 ++ [(M, s')] ++ (kk ++ ks)) := by
  have hl' := A4 g M hl
  have other : ∀ {g' : Nat}, g' ≠ g → (w.setRow g cs'.toArray).heap[g']? = w.heap[g']? := fun hne => setRow_other w g _ _ hne
  have fz' : ∀ g', Fz lab' w g' → Fz lab' (w.setRow g cs'.toArray) g' ∧ (w.setRow g cs'.toArray).heap[g']? = w.heap[g']? := fun g' hg' =>
    ⟨⟨hg'.1, by rw [size_setRow]; exact hg'.2⟩, other fun e => by have := hg'.1; rw [e, hl'] at this; cases this⟩
  have hkk' := frees_run h hR ws0 kk hkk
  obtain ⟨ks', k1, k2, k3⟩ := killFrm_run (σ := σ) M (C.filter (Cm C M))
  rw [k1] at hks
  obtain rfl := Option.some.inj hks
  refine ⟨trivial, undef, w.setRow g cs'.toArray, lab', hv, ?_, ?_, fun M' hM' g' k m hg' => ?_⟩
  rotate_left 2
  · have hne : M' ≠ M := fun e => hM' (M, s') (by simp) e.symm
    exact ⟨A3 M' hne (fun x hx => hM' x (by simp [hx])) g' k m hg', other fun e => by rw [e] at hg'; rw [hl] at hg'; simp only [Option.some.injEq, Prod.mk.injEq] at hg'; exact hne hg'.1.symm⟩
  · rw [hd, tmps_none]
    refine h.wrT (fr_setRow h hl _) (fun g p hg => ?_) (fun g p hg => ?_) (fun g' hg' => fz' g' ⟨A1 g' hg'.1, hg'.2⟩) (fun M' hM' g' k m hg' => ?_) (fun x hx => ?_) ⟨fun x hx => ?_, fun x hx hxd M' hM' hr => ?_⟩
    · rw [size_setRow]; obtain ⟨q, hq⟩ := A2 g p hg; exact h.lt g q hq
    · obtain ⟨q, hq⟩ := A2 g p hg; exact h.kl g q hq
    · have hne : M' ≠ M := fun e => hM' (M, s') (by simp) e.symm
      exact ⟨A3 M' hne (fun x hx => hM' x (by simp [hx])) g' k m hg', other fun e => by rw [e] at hg'; rw [hl] at hg'; simp only [Option.some.injEq, Prod.mk.injEq] at hg'; exact hne hg'.1.symm⟩
    · rcases List.mem_append.1 hx with hx | hx
      · obtain ⟨q1, q2, q3⟩ := hws0 x hx
        refine ⟨q1, q2.keep ⟨fz', fun g' k m hg' => ⟨hg', other fun e => ?_⟩⟩ (fun R hR => by rw [q1] at hR; cases hR), ?_⟩
        · rw [e] at hg'; rw [hl'] at hg'; simp only [Option.some.injEq, Prod.mk.injEq] at hg'; exact hM x hx hg'.1.symm
        · rcases q3 with q3 | q3 | ⟨q3, q4, _⟩
          · exact .inl q3
          · exact .inr (.inl q3)
          · refine .inr (.inr (.inl ⟨q3, q4, fun g' hg' => other fun e => ?_⟩))
            rw [e] at hg'; rw [hl] at hg'; simp only [Option.some.injEq, Prod.mk.injEq] at hg'; exact hM x hx hg'.1.symm
      · simp only [List.mem_singleton] at hx; subst hx
        refine ⟨hs', by rw [hptr]; exact hnew, .inr (.inr (.inr ⟨hrty, fun M' hM' hr => ?_⟩))⟩
        rcases k3 M' (List.mem_filter.2 (hR M' M hr)) hr with q | ⟨y, hy, e⟩
        · exact .inl q
        · exact .inr ⟨y, by simp [hy], e⟩
    · rcases List.mem_append.1 hx with hx | hx
      · exact hkk'.1 x hx
      · exact ⟨(k2 x hx).1, by rw [(k2 x hx).2]; simp⟩
    · rcases List.mem_append.1 hx with hx | hx
      · obtain ⟨y, hy, e⟩ := hkk'.2 x hx hxd M' hM' hr
        exact ⟨y, by simp [hy], e⟩
      · simp only [List.mem_singleton] at hx; subst hx
        simp only at hxd
        exact absurd hxd hsd
  · refine fun _ => hR.app fun x hx => ?_
    rcases List.mem_append.1 hx with hx | hx
    · rcases List.mem_append.1 hx with hx | hx
      · exact (hws0 x hx).1
      · simp only [List.mem_singleton] at hx; subst hx; exact hs'
    · rcases List.mem_append.1 hx with hx | hx
      · rw [(hkk'.1 x hx).1]; rfl
      · rw [(k2 x hx).1]; rfl
theorem storeVar_at (h : Sim w0 K lab σ a w) (hR : Rt C σ) (hT : TyOk P Γ) {T : Nat} {x y : Operand} (ho : o.op = .store T x y) (hd : o.dst = none) {k : Tk} (hk : (take (Γ.ty T) y).run σ = some k)
    (hty : storeOk Γ T k.d = true) {M : Nat} {p : Path} (hpl : (place x).run σ = some (.at M p)) {s' : Slot} {ws0 : Wr} (hst : storeAt p k (σ.getD M .dead) = some (s', ws0))
    (hM : ∀ x ∈ ws0, x.1 ≠ M) {kk ks : Wr} (hkk : (frees C ws0).run σ = some kk) (hks : (killFrm M (C.filter (Cm C M))).run σ = some ks) : Good P C w0 K lab o σ a w [] (ws0 ++ [(M, s')] ++ (kk ++ ks)) := by
  obtain ⟨hread, htk⟩ := take_run h hk
  have hs := h.slots M
  -- a datum of type u at the path
  have dat : ∀ {t : Ty} {x0 z : t.T} {u : Ty} {yv : u.T}, k.d = .dat u yv → (σ.getD M .dead).rty = some t → setS t x0 p u yv = some z → ∃ g ofs, a.tmps.getD M undef = .pointer (some ⟨g, ofs, none⟩) ∧ t.inb p ∧ a.eval x = .pointer (some ⟨g, ofs + t.off p, none⟩) ∧ ∃ i, P.info? T = some i ∧ i.size = u.sz := by
    intro t x0 z u yv hd hr hset
    rw [hd] at hty
    have hTu : Γ.ty T = some u := by simpa [storeOk] using hty
    obtain ⟨g, ofs, h1, h2, h3⟩ := place_run h hpl hr (set_at hset)
    obtain ⟨i, hi, hsz, _⟩ := (hT.ty T u hTu).info
    exact ⟨g, ofs, h1, h2, h3, i, hi, hsz⟩
  -- its cells
  have ycells : ∀ {u : Ty} {ds : List Value}, a.eval y = u.mk ds → ds.length = u.sz → (∀ v ∈ ds, v.oneCell' = true) → (a.eval y).cells = ds.toArray := fun he hl h1 => by rw [he]; exact mk_cells hl h1
  have setfz : ∀ {g : Nat} {cs cs' : List Value} {ty : TypeId} {lab2 : Lab}, lab2 g = some (M, 0, 0) → ∀ g', Fz lab2 w g' → Fz lab2 (w.setRow g cs'.toArray) g' ∧ (w.setRow g cs'.toArray).heap[g']? = w.heap[g']? := fun {g cs cs' ty lab2} hl g' hg' =>
    ⟨⟨hg'.1, by rw [size_setRow]; exact hg'.2⟩, setRow_other w g _ _ fun e => by have := hg'.1; rw [e, hl] at this; cases this⟩
  have setlb : ∀ {g : Nat} {cs' : List Value} {lab2 : Lab} {i : Nat}, lab2 g = some (M, 0, 0) → ∀ g', Lb lab2 M 0 i g' → Lb lab2 M 0 i g' ∧ (w.setRow g cs'.toArray).heap[g']? = w.heap[g']? := fun {g cs' lab2 i} hl g' hg' =>
    ⟨hg', setRow_other w g _ _ fun e => by unfold Lb at hg'; rw [e, hl] at hg'; simp at hg'⟩
  -- a box whose content nobody writes, or all of it one's own: the datum as it comes
  have plain : ∀ {t : Ty} {x0 z : t.T} {u : Ty} {yv : u.T} {g : Nat} {ty : TypeId} {cs : List Value} {s' : Slot} {ws0 kk ks : Wr} {lab2 : Lab} {ds : List Value}, k.d = .dat u yv → (σ.getD M .dead).rty = some t → setS t x0 p u yv = some z →
      a.tmps.getD M undef = .pointer (some ⟨g, 0, none⟩) → lab g = some (M, 0, 0) → w.heap[g]? = some (.cells cs.toArray ty (0, 0)) → cs.length = t.sz →
      (∀ g, lab g = none → lab2 g = none) → (∀ g p, lab2 g = some p → ∃ q, lab g = some q) → (∀ M', M' ≠ M → (∀ x ∈ ws0, x.1 ≠ M') → ∀ g k m, lab g = some (M', k, m) → lab2 g = some (M', k, m)) → (∀ g M', lab g = some (M', 0, 0) → lab2 g = some (M', 0, 0)) →
      (∀ e ∈ ws0, e.2.root = none ∧ SlotOk lab2 w [] #[] e.1 e.2 (a.tmps.getD e.1 undef) ∧ (e.2 = .dead ∨ (σ.getD e.1 .dead).root ≠ none ∨ (e.2.rty = (σ.getD e.1 .dead).rty ∧ e.2.vty = (σ.getD e.1 .dead).vty ∧ ∀ g, lab g = some (e.1, 0, 0) → w.heap[g]? = w.heap[g]?))) →
      (∀ x ∈ ws0, x.1 ≠ M) → (frees C ws0).run σ = some kk → (killFrm M (C.filter (Cm C M))).run σ = some ks → s'.root = none → s'.rty = (σ.getD M .dead).rty →
      a.eval y = u.mk ds → ds.length = u.sz → (∀ v ∈ ds, v.oneCell' = true) →
      (SlotOk lab2 (w.setRow g (splice cs (t.off p) ds).toArray) [] #[] M s' (.pointer (some ⟨g, 0, none⟩))) → Good P C w0 K lab o σ a w [] (ws0 ++ [(M, s')] ++ (kk ++ ks)) := by
    intro t x0 z u yv g ty cs s' ws0 kk ks lab2 ds hkd hr hset hptr hl hg hcl A1 A2 A3 A4 hws hM hkk hks hs' hrty he hdl hd1 hnew
    obtain ⟨g', ofs, p1, p2, p3, i, p4, p5⟩ := dat hkd hr hset
    rw [hptr] at p1
    simp only [Value.pointer.injEq, Option.some.injEq, Addr.mk.injEq] at p1
    obtain ⟨rfl, rfl, _⟩ := p1
    rw [Nat.zero_add] at p3
    have hle := Ty.off_le (set_at hset) p2
    exact store_at h hR hd hptr hl hg A1 A2 A3 A4 hws hM hkk hks hs' (fun e => by rw [e, hr] at hrty; simp [Slot.rty] at hrty) hrty hnew (runs_store ho p3 (ycells he hdl hd1) p4 (by rw [p5, hdl]) hd1 hg (by omega))
  have noix : (p.all (fun s => match s with | .ix _ => false | _ => true)) = true → ∀ s ∈ p, ∀ j, s ≠ .ix j := by
    intro hq s hs j e
    have := List.all_eq_true.1 hq s hs
    subst e; simp at this
  generalize hσ : σ.getD M .dead = sM at hst hs
  cases sM with
  | box d =>
    cases d with
    | dat t x0 =>
      obtain ⟨g, ty, cs, b1, b2, b3, b4⟩ := hs
      have b4' : Imm w (Fz lab w) t x0 cs := b4
      simp only [storeAt] at hst
      split at hst
      · rename_i u yv hkd
        split at hst
        · rename_i z hset
          have hin := (dat hkd (by rw [hσ]; rfl) hset)
          obtain ⟨_, _, _, hin, _⟩ := hin
          rw [hkd] at htk
          split at hst
          · rename_i hc
            simp only [Bool.and_eq_true, beq_iff_eq] at hc
            obtain ⟨⟨hown, hlv⟩, hno⟩ := hc
            simp only [Option.some.injEq, Prod.mk.injEq] at hst
            obtain ⟨rfl, rfl⟩ := hst
            rcases htk with ⟨q1, _⟩ | ⟨_, t', y', q2, q3⟩
            · rw [q1] at hown; cases hown
            · obtain ⟨rfl, e2⟩ := D.dat.inj q2
              obtain rfl := eq_of_heq e2
              obtain ⟨lab2, m1, m2, m3, ⟨ds, m4, m5⟩, m7, m6⟩ := q3.move h hM (t.off p)
              have hl2 := m7 g M b2
              refine plain hkd (by rw [hσ]; rfl) hset b1 b2 b3 b4'.len (fun g => (m1 g).2) m2 (fun M' _ h2 => m3 M' h2) m7 m6 hM hkk hks rfl (by rw [hσ]; rfl) m4 m5.len m5.one ?_
              refine ⟨g, ty, _, rfl, hl2, setRow_heap w g cs.toArray _ ty (0, 0) b3, ?_⟩
              refine Imm.setOwn (b4'.keep fun g' hg' => ?_) hset hlv (noix hno) ?_
              · exact setfz (cs := cs) (ty := ty) hl2 g' ⟨(m1 g').2 hg'.1, hg'.2⟩
              · rw [Nat.zero_add]
                exact m5.keep (setfz (cs := cs) (ty := ty) hl2) (fun i g' hg' => setlb hl2 g' hg')
          · simp only [Option.some.injEq, Prod.mk.injEq] at hst
            obtain ⟨rfl, rfl⟩ := hst
            -- the datum is shared, or was
            have fin : ∀ {lab2 : Lab} {ds : List Value}, (∀ g, lab g = none → lab2 g = none) → (∀ g p, lab2 g = some p → ∃ q, lab g = some q) → (∀ M', M' ≠ M → (∀ x ∈ k.fz, x.1 ≠ M') → ∀ g k m, lab g = some (M', k, m) → lab2 g = some (M', k, m)) → (∀ g M', lab g = some (M', 0, 0) → lab2 g = some (M', 0, 0)) →
                (∀ e ∈ k.fz, e.2.root = none ∧ SlotOk lab2 w [] #[] e.1 e.2 (a.tmps.getD e.1 undef) ∧ (e.2 = .dead ∨ (σ.getD e.1 .dead).root ≠ none ∨ (e.2.rty = (σ.getD e.1 .dead).rty ∧ e.2.vty = (σ.getD e.1 .dead).vty ∧ ∀ g, lab g = some (e.1, 0, 0) → w.heap[g]? = w.heap[g]?))) →
                a.eval y = u.mk ds → Imm w (Fz lab2 w) u yv ds → Good P C w0 K lab o σ a w [] (k.fz ++ [(M, .box (.dat t z))] ++ (kk ++ ks)) := by
              intro lab2 ds A1 A2 A3 A4 A5 he hd'
              have hl2 := A4 g M b2
              refine plain hkd (by rw [hσ]; rfl) hset b1 b2 b3 b4'.len A1 A2 A3 A4 A5 hM hkk hks rfl (by rw [hσ]; rfl) he hd'.len hd'.one ?_
              refine ⟨g, ty, _, rfl, hl2, setRow_heap w g cs.toArray _ ty (0, 0) b3, ?_⟩
              exact Imm.set (b4'.keep fun g' hg' => setfz (cs := cs) (ty := ty) hl2 g' ⟨A1 g' hg'.1, hg'.2⟩) hset hin (hd'.keep (setfz (cs := cs) (ty := ty) hl2))
            rcases htk with ⟨_, ⟨ds, q2, q2'⟩, _, q4⟩ | ⟨_, t', y', q2, q3⟩
            · exact fin (fun _ h => h) (fun _ p h => ⟨p, h⟩) (fun _ _ _ _ _ _ h => h) (fun _ _ h => h) (by rw [q4]; simp) q2' q2
            · obtain ⟨rfl, e2⟩ := D.dat.inj q2
              obtain rfl := eq_of_heq e2
              obtain ⟨⟨ds, s1, s1'⟩, s2⟩ := q3.share h (F := k.fz.map (·.1)) (fun e he => List.mem_map.2 ⟨e, he, rfl⟩)
              refine fin (fun _ h => dropL_none h) (fun g p h => ⟨p, dropL_some h⟩) (fun M' _ hM' g k m hg => dropL_other ?_ hg) (fun _ _ h => dropL_box h) s2 s1' s1
              intro hm
              obtain ⟨e, he, rfl⟩ := List.mem_map.1 hm
              exact hM' e he rfl
        · cases hst
      · cases hst
    | clo f caps =>
      obtain ⟨g, ty, cs, b1, b2, b3, vs, rfl, b4⟩ := hs
      simp only [storeAt] at hst
      split at hst
      · rename_i f' caps' hkd
        split at hst
        · rename_i hp
          subst hp
          simp only [Option.some.injEq, Prod.mk.injEq] at hst
          obtain ⟨rfl, rfl⟩ := hst
          rw [hkd] at htk hty
          obtain ⟨_, i, hi, hsz⟩ := hT.fn T (by simpa [storeOk] using hty)
          rcases htk with ⟨_, ⟨c1, ⟨us, rfl, q2⟩, q2'⟩, _, q4⟩ | ⟨_, t', y', q2, _⟩
          · have hx : a.eval x = .pointer (some ⟨g, 0, none⟩) := by
              cases x with
              | tmp n =>
                simp only [place, RM.run] at hpl
                split at hpl <;> simp only [RM.run, Option.some.injEq, Place.at.injEq, reduceCtorEq] at hpl
                · obtain ⟨rfl, _⟩ := hpl; exact b1
                · obtain ⟨rfl, _⟩ := hpl; exact b1
                · obtain ⟨rfl, _⟩ := hpl; exact b1
                · obtain ⟨rfl, _⟩ := hpl; exact b1
                · rename_i q
                  obtain ⟨rfl, rfl⟩ := hpl
                  have hn := h.slots n
                  rw [q] at hn
                  obtain ⟨_, _, t', u', _, e2, _⟩ := hn
                  rw [hσ] at e2; cases e2
              | _ => simp [place, RM.run] at hpl
            refine store_at (cs' := [.func (.func f') #[] us.toArray]) h hR hd b1 b2 b3 (fun _ h => h) (fun _ p h => ⟨p, h⟩) (fun _ _ _ _ _ _ h => h) (fun _ _ h => h) (by simp) hM hkk hks rfl (by simp) (by rw [hσ]; rfl) ?_ ?_
            · exact ⟨g, ty, _, rfl, b2, setRow_heap w g _ _ ty (0, 0) b3, us, rfl, RepC.keep (setfz (cs := []) (ty := ty) b2) q2⟩
            · have := runs_store (w := w) (P := P) (a := a) (ds := [.func (.func f') #[] us.toArray]) ho hx (by rw [q2']; rfl) hi (by rw [hsz]; rfl) (by simp [Value.oneCell']) b3 (by simp)
              simpa [splice] using this
          · cases q2
        · cases hst
      · cases hst
    | _ => simp [storeAt] at hst
  | boxo t x0 =>
    obtain ⟨g, ty, cs, b1, b2, b3, b4⟩ := hs
    simp only [storeAt] at hst
    split at hst
    · rename_i u yv hkd
      split at hst
      · rename_i z hset
        obtain ⟨_, _, _, hin, _⟩ := (dat hkd (by rw [hσ]; rfl) hset)
        rw [hkd] at htk
        split at hst
        · rename_i hc
          simp only [Bool.and_eq_true, beq_iff_eq, Bool.not_eq_true'] at hc
          obtain ⟨hlv, hown⟩ := hc
          simp only [Option.some.injEq, Prod.mk.injEq] at hst
          obtain ⟨rfl, rfl⟩ := hst
          rcases htk with ⟨_, ⟨ds, q2, q2'⟩, _, _⟩ | ⟨q1, _⟩
          · have q2 : Imm w (Fz lab w) u yv ds := q2
            refine plain hkd (by rw [hσ]; rfl) hset b1 b2 b3 b4.len (fun _ h => h) (fun _ p h => ⟨p, h⟩) (fun _ _ _ _ _ _ h => h) (fun _ _ h => h) (by simp) hM hkk hks rfl (by rw [hσ]; rfl) q2' q2.len q2.one ?_
            refine ⟨g, ty, _, rfl, b2, setRow_heap w g cs.toArray _ ty (0, 0) b3, ?_⟩
            refine Own.set (b4.keep (setfz (cs := cs) (ty := ty) b2) (fun i g' hg' => setlb b2 g' hg')) hset hin (fun hu => absurd hlv hu) (Own.of_imm hlv (q2.keep (setfz (cs := cs) (ty := ty) b2)))
          · rw [q1] at hown; cases hown
        · split at hst
          · rename_i hc
            simp only [Bool.and_eq_true] at hc
            obtain ⟨hown, hno⟩ := hc
            simp only [Option.some.injEq, Prod.mk.injEq] at hst
            obtain ⟨rfl, rfl⟩ := hst
            rcases htk with ⟨q1, _⟩ | ⟨_, t', y', q2, q3⟩
            · rw [q1] at hown; cases hown
            · obtain ⟨rfl, e2⟩ := D.dat.inj q2
              obtain rfl := eq_of_heq e2
              obtain ⟨lab2, m1, m2, m3, ⟨ds, m4, m5⟩, m7, m6⟩ := q3.move h hM (t.off p)
              have m8 : ∀ g k m, lab g = some (M, k, m) → lab2 g = some (M, k, m) := fun g k m hg => m3 M hM g k m hg
              have hl2 := m7 g M b2
              refine plain hkd (by rw [hσ]; rfl) hset b1 b2 b3 b4.len (fun g => (m1 g).2) m2 (fun M' _ h2 => m3 M' h2) m7 m6 hM hkk hks rfl (by rw [hσ]; rfl) m4 m5.len m5.one ?_
              refine ⟨g, ty, _, rfl, hl2, setRow_heap w g cs.toArray _ ty (0, 0) b3, ?_⟩
              refine Own.set (b4.keep (fun g' hg' => setfz (cs := cs) (ty := ty) hl2 g' ⟨(m1 g').2 hg'.1, hg'.2⟩) (fun i g' hg' => ?_)) hset hin (fun _ => noix hno) ?_
              · exact setlb hl2 g' (m8 g' _ _ hg')
              · rw [Nat.zero_add]
                exact m5.keep (setfz (cs := cs) (ty := ty) hl2) (fun i g' hg' => setlb hl2 g' hg')
          · split at hst
            · rename_i hc
              simp only [Option.some.injEq, Prod.mk.injEq] at hst
              obtain ⟨rfl, rfl⟩ := hst
              rcases htk with ⟨_, ⟨ds, q2, q2'⟩, _, _⟩ | ⟨q1, _⟩
              · have q2 : Imm w (Fz lab w) u yv ds := q2
                have hl2 : dropL [M] lab g = some (M, 0, 0) := dropL_box b2
                refine plain (lab2 := dropL [M] lab) hkd (by rw [hσ]; rfl) hset b1 b2 b3 b4.len (fun _ h => dropL_none h) (fun g p h => ⟨p, dropL_some h⟩) (fun M' hM' _ g k m hg => dropL_other (by simpa using hM') hg) (fun _ _ h => dropL_box h) (by simp) hM hkk hks rfl (by rw [hσ]; rfl) q2' q2.len q2.one ?_
                refine ⟨g, ty, _, rfl, hl2, setRow_heap w g cs.toArray _ ty (0, 0) b3, ?_⟩
                have himm : Imm w (Fz (dropL [M] lab) w) t x0 cs := b4.imm (fun g hg => hg.drop) (fun i g' hg' => ⟨dropL_in (by simp) hg', h.owns hg'⟩)
                exact Imm.set (himm.keep (setfz (cs := cs) (ty := ty) hl2)) hset hin ((q2.keep fun g' hg' => ⟨hg'.drop, rfl⟩).keep (setfz (cs := cs) (ty := ty) hl2))
              · rw [q1] at hc; cases hc
            · cases hst
      · cases hst
    · cases hst
  | boxh t x0 hp =>
    obtain ⟨g, ty, cs, b1, b2, b3, b5, b4⟩ := hs
    simp only [storeAt] at hst
    split at hst
    · rename_i u yv hkd
      split at hst
      · rename_i z hset
        obtain ⟨_, _, _, hin, _⟩ := (dat hkd (by rw [hσ]; rfl) hset)
        rw [hkd] at htk
        split at hst
        · rename_i hc
          obtain ⟨rfl, hown, hno, hsl⟩ := hc
          simp only [Option.some.injEq, Prod.mk.injEq] at hst
          obtain ⟨rfl, rfl⟩ := hst
          rcases htk with ⟨q1, _⟩ | ⟨_, t', y', q2, q3⟩
          · rw [q1] at hown; cases hown
          · obtain ⟨rfl, e2⟩ := D.dat.inj q2
            obtain rfl := eq_of_heq e2
            obtain ⟨lab2, m1, m2, m3, ⟨ds, m4, m5⟩, m7, m6⟩ := q3.move h hM (t.off p)
            have m8 : ∀ g k m, lab g = some (M, k, m) → lab2 g = some (M, k, m) := fun g k m hg => m3 M hM g k m hg
            have hl2 := m7 g M b2
            have husz : u.sz = 1 := hsl
            have hcl : cs.length = t.sz := by have := b4.len; rw [splice_len (by simp; omega)] at this; exact this
            refine plain hkd (by rw [hσ]; rfl) hset b1 b2 b3 hcl (fun g => (m1 g).2) m2 (fun M' _ h2 => m3 M' h2) m7 m6 hM hkk hks rfl (by rw [hσ]; rfl) m4 m5.len m5.one ?_
            refine ⟨g, ty, _, rfl, hl2, setRow_heap w g cs.toArray _ ty (0, 0) b3, ?_⟩
            have := Own.set (b4.keep (fun g' hg' => setfz (cs := cs) (cs' := splice cs (t.off p) ds) (ty := ty) hl2 g' ⟨(m1 g').2 hg'.1, hg'.2⟩) (fun i g' hg' => setlb (cs' := splice cs (t.off p) ds) hl2 g' (m8 g' _ _ hg'))) hset hin (fun _ => noix hno)
              (ds := ds) (by rw [Nat.zero_add]; exact m5.keep (setfz (cs := cs) (cs' := splice cs (t.off p) ds) (ty := ty) hl2) (fun i g' hg' => setlb hl2 g' hg'))
            rw [splice_twice (by simp; omega) (by rw [m5.len, husz]; rfl)] at this
            exact this
        · cases hst
      · cases hst
    · cases hst
  | _ => simp [storeAt] at hst
end
end Go.Proofs.Ytmjijggkdbiijaa
/- Stores into elements of slices of one's own; all stores. No statement is proved here. -/
namespace Go.Proofs.Ytmjijggkdbiijaa
open Go.RowKit
set_option linter.unusedVariables false
set_option linter.unusedSimpArgs false
theorem Own.upd {w w' : World} {S S' : Nat → Prop} {L L' : Nat → Nat → Prop} (hS : ∀ g, S g → S' g ∧ w'.heap[g]? = w.heap[g]?) {te : Nat} {e : Ty} {ys : (Ty.slice te e).T} : ∀ {t : Ty} {i : Nat} {x x' : t.T} {p : Path} {cs : List Value},
    Own w S L i t x cs → setS t x p (.slice te e) ys = some x' → (∀ s ∈ p, ∀ k, s ≠ .ix k) → (∀ j g, j < t.sz → j ≠ t.off p → L (i + j) g → L' (i + j) g ∧ w'.heap[g]? = w.heap[g]?) →
    Own w' S' L' (i + t.off p) (.slice te e) ys ((cs.drop (t.off p)).take 1) → Own w' S' L' i t x' cs
  | t, i, x, x', [], cs, h, hs, _, _, hn => by
    have h' : (if h : Ty.slice te e = t then some (castT h ys) else none) = some x' := by cases t <;> simpa only [setS] using hs
    split at h'
    · rename_i e1; subst e1
      obtain rfl := Option.some.inj h'
      have hl := h.len
      have : (Ty.slice te e).off [] = 0 := rfl
      rw [this, List.drop_zero, List.take_of_length_le (by rw [hl]; exact Nat.le_refl _)] at hn
      exact hn
    · cases h'
  | .prod a b, i, x, x', .fst :: p, cs, h, hs, hx, hL, hn => by
    simp only [setS] at hs
    split at hs
    · rename_i q hq
      obtain rfl := Option.some.inj hs
      have hl := h.len
      have h1 := Ty.off_le (set_at hq) (Ty.inb_flds fun s hs => hx s (by simp [hs]))
      have h1' : a.off p + 1 ≤ a.sz := h1
      simp only [Ty.sz] at hl h1
      simp only [Own, Ty.off] at h hn ⊢
      refine ⟨Own.upd hS h.1 hq (fun s hs => hx s (by simp [hs])) (fun j g hj hne => hL j g (by simp only [Ty.sz]; omega) (by simp only [Ty.off]; exact hne)) ?_, Own.shift hS (fun j g hj hg => ?_) h.2⟩
      · rw [take_take_drop _ _ _ _ h1']; exact hn
      · have := hL (a.sz + j) g (by simp only [Ty.sz]; omega) (by simp only [Ty.off]; omega) (by rw [← Nat.add_assoc]; exact hg)
        rw [← Nat.add_assoc] at this
        exact this
    · cases hs
  | .prod a b, i, x, x', .snd :: p, cs, h, hs, hx, hL, hn => by
    simp only [setS] at hs
    split at hs
    · rename_i q hq
      obtain rfl := Option.some.inj hs
      have hl := h.len
      simp only [Ty.sz] at hl
      simp only [Own, Ty.off] at h hn ⊢
      refine ⟨Own.shift hS (fun j g hj => hL j g (by simp only [Ty.sz]; omega) (by simp only [Ty.off]; omega)) h.1, Own.upd hS h.2 hq (fun s hs => hx s (by simp [hs])) (fun j g hj hne hg => ?_) ?_⟩
      · have := hL (a.sz + j) g (by simp only [Ty.sz]; omega) (by simp only [Ty.off]; omega) (by rw [← Nat.add_assoc]; exact hg)
        rw [← Nat.add_assoc] at this
        exact this
      · rw [List.drop_drop, Nat.add_assoc]; exact hn
    · cases hs
  | .arr n e', i, xs, x', .ix k :: p, cs, h, hs, hx, _, _ => absurd rfl (hx (.ix k) (by simp) k)
  | .int _, _, _, _, .fst :: _, _, _, h, _, _, _ => by simp [setS] at h
  | .int _, _, _, _, .snd :: _, _, _, h, _, _, _ => by simp [setS] at h
  | .int _, _, _, _, .ix _ :: _, _, _, h, _, _, _ => by simp [setS] at h
  | .bool, _, _, _, .fst :: _, _, _, h, _, _, _ => by simp [setS] at h
  | .bool, _, _, _, .snd :: _, _, _, h, _, _, _ => by simp [setS] at h
  | .bool, _, _, _, .ix _ :: _, _, _, h, _, _, _ => by simp [setS] at h
  | .str, _, _, _, .fst :: _, _, _, h, _, _, _ => by simp [setS] at h
  | .str, _, _, _, .snd :: _, _, _, h, _, _, _ => by simp [setS] at h
  | .str, _, _, _, .ix _ :: _, _, _, h, _, _, _ => by simp [setS] at h
  | .unit, _, _, _, .fst :: _, _, _, h, _, _, _ => by simp [setS] at h
  | .unit, _, _, _, .snd :: _, _, _, h, _, _, _ => by simp [setS] at h
  | .unit, _, _, _, .ix _ :: _, _, _, h, _, _, _ => by simp [setS] at h
  | .slice _ _, _, _, _, .fst :: _, _, _, h, _, _, _ => by simp [setS] at h
  | .map _ _, _, _, _, .fst :: _, _, _, h, _, _, _ => by simp [setS] at h
  | .fn _ _, _, _, _, .fst :: _, _, _, h, _, _, _ => by simp [setS] at h
  | .slice _ _, _, _, _, .snd :: _, _, _, h, _, _, _ => by simp [setS] at h
  | .map _ _, _, _, _, .snd :: _, _, _, h, _, _, _ => by simp [setS] at h
  | .fn _ _, _, _, _, .snd :: _, _, _, h, _, _, _ => by simp [setS] at h
  | .slice _ _, _, _, _, .ix _ :: _, _, _, h, _, _, _ => by simp [setS] at h
  | .map _ _, _, _, _, .ix _ :: _, _, _, h, _, _, _ => by simp [setS] at h
  | .fn _ _, _, _, _, .ix _ :: _, _, _, h, _, _, _ => by simp [setS] at h
  | .prod _ _, _, _, _, .ix _ :: _, _, _, h, _, _, _ => by simp [setS] at h
  | .arr _ _, _, _, _, .fst :: _, _, _, h, _, _, _ => by simp [setS] at h
  | .arr _ _, _, _, _, .snd :: _, _, _, h, _, _, _ => by simp [setS] at h
section
variable {P : Program} {Γ : Ctx} {w0 : World} {K : Nat → Prop} {lab lab' : Lab} {σ : List Slot} {a : Act} {w w' : World} {C : List Nat} {o : Oper} {pre fact : List Prop} {ws : Wr}
theorem Src.alive {x : Operand} {t : Ty} {y : t.T} {mv fz : Wr} (hs : Src lab σ a w x t y mv fz) : ∀ e ∈ fz, e.2 ≠ .dead := by
  intro e he
  cases hs with
  | nil _ => cases he
  | own _ _ => simp at he; subst he; simp
  | frm _ _ _ => simp at he; rcases he with rfl | rfl <;> simp
  | box _ _ _ => simp at he; rcases he with rfl | rfl <;> simp
  | fld _ _ _ _ _ _ => simp at he; rcases he with rfl | rfl <;> simp
theorem storeEl_at (h : Sim w0 K lab σ a w) (hR : Rt C σ) (hT : TyOk P Γ) {T : Nat} {x y : Operand} (ho : o.op = .store T x y) (hd : o.dst = none) {k : Tk} (hk : (take (Γ.ty T) y).run σ = some k)
    (hty : storeOk Γ T k.d = true) {M i : Nat} {p q : Path} (hpl : (place x).run σ = some (.el M p i q)) {s' : Slot} (hst : storeEl p i q k.d (σ.getD M .dead) = some s')
    (hM : ∀ x ∈ k.fz, x.1 ≠ M) : Good P C w0 K lab o σ a w [] (k.fz ++ [(M, s')]) := by
  obtain ⟨hread, htk⟩ := take_run h hk
  obtain ⟨te, e, u, g, ofs, len, c, hh, hi, hq, hu, hx⟩ := placeEl_run h hpl
  have hs := h.slots M
  -- the store into a row of one's own, labelled m
  have go : ∀ {te' : Nat} {e' : Ty} {xs : (Ty.slice te' e').T} {u' : Ty} {yv : u'.T} {z : e'.T} {flat : List Value} {m : Nat}, k.d = .dat u' yv → setS e' (xs.getD i e'.zero) q u' yv = some z → e' = e → xs.length = len →
      w.ownsRow 0 te' e'.sz (.slice (some ⟨g, ofs, none⟩) len c) xs.length flat → lab g = some (M, 0, m + 1) → (∀ j (hj : j < xs.length), Imm w (Fz lab w) e' xs[j] ((flat.drop (j * e'.sz)).take e'.sz)) →
      (∀ (w' : World) (lab2 : Lab) (flat' : List Value), (∀ g', Fz lab w g' → Fz lab2 w' g' ∧ w'.heap[g']? = w.heap[g']?) → (∀ g' j, g' ≠ g → lab g' = some (M, 0, j) → lab2 g' = some (M, 0, j) ∧ w'.heap[g']? = w.heap[g']?) → lab2 g = some (M, 0, m + 1) →
        w'.ownsRow 0 te' e'.sz (.slice (some ⟨g, ofs, none⟩) len c) xs.length flat' → (∀ j (hj : j < (xs.set i z).length), Imm w' (Fz lab2 w') e' (xs.set i z)[j] ((flat'.drop (j * e'.sz)).take e'.sz)) →
        SlotOk lab2 w' [] #[] M s' (a.tmps.getD M undef)) →
      s'.root = none → s'.rty = (σ.getD M .dead).rty → s'.vty = (σ.getD M .dead).vty → Good P C w0 K lab o σ a w [] (k.fz ++ [(M, s')]) := by
    intro te' e' xs u' yv z flat m hkd hset hee hxl hrow hlg hel hnew hroot hrty hvty
    subst hee
    rw [hkd] at htk hty
    have hTu : Γ.ty T = some u' := by simpa [storeOk] using hty
    obtain ⟨ii, hii, hisz, _⟩ := (hT.ty T u' hTu).info
    have hat := set_at hset
    rw [hu] at hat
    obtain rfl := Option.some.inj hat
    have hle := Ty.off_le hu hq
    have hilt : i < xs.length := by rw [hxl]; exact hi
    have hin : i * e'.sz + e'.sz ≤ xs.length * e'.sz := by rw [← Nat.succ_mul]; exact Nat.mul_le_mul_right _ hilt
    -- the block
    obtain ⟨cur, hcur, hofs, hcl, hct⟩ : ∃ cur : Array Value, w.heap[g]? = some (.cells cur te' (0, 0)) ∧ ofs = 0 ∧ xs.length * e'.sz ≤ cur.size ∧ cur.toList.take (xs.length * e'.sz) = flat := by
      rcases hrow.2 with ⟨q1, _⟩ | ⟨g', cap, cur, q1, _, q2, q3, q4, q5, q6⟩
      · cases q1
      · simp only [Value.slice.injEq, Option.some.injEq, Addr.mk.injEq] at q1
        obtain ⟨⟨rfl, rfl, _⟩, rfl, rfl⟩ := q1
        exact ⟨cur, q2, rfl, by rw [q5]; exact Nat.mul_le_mul_right _ q3, q6⟩
    subst hofs
    rw [Nat.zero_add] at hx
    have hcur' : w.heap[g]? = some (.cells cur.toList.toArray te' (0, 0)) := by simpa using hcur
    -- all of it, at some cells ds
    have fin : ∀ {lab2 : Lab} {ds : List Value}, (∀ g, lab g = none → lab2 g = none) → (∀ g p, lab2 g = some p → ∃ q, lab g = some q) → (∀ M', (∀ x ∈ k.fz, x.1 ≠ M') → ∀ g k m, lab g = some (M', k, m) → lab2 g = some (M', k, m)) →
        (∀ e ∈ k.fz, e.2.root = none ∧ SlotOk lab2 w [] #[] e.1 e.2 (a.tmps.getD e.1 undef) ∧ (e.2 = .dead ∨ (σ.getD e.1 .dead).root ≠ none ∨ (e.2.rty = (σ.getD e.1 .dead).rty ∧ e.2.vty = (σ.getD e.1 .dead).vty ∧ ∀ g, lab g = some (e.1, 0, 0) → w.heap[g]? = w.heap[g]?))) →
        (∀ e ∈ k.fz, e.2 ≠ .dead) → a.eval y = u.mk ds → Imm w (Fz lab2 w) u yv ds → Good P C w0 K lab o σ a w [] (k.fz ++ [(M, s')]) := by
      intro lab2 ds A1 A2 A3 A5 A6 he hds
      have hl2 := A3 M hM g 0 (m + 1) hlg
      have hdl := hds.len
      have hv := runs_store (P := P) (w := w) ho hx (by rw [he]; exact mk_cells hds.len hds.one) hii (by rw [hisz, hdl]) hds.one hcur' (by simp; omega)
      obtain ⟨w', hw'⟩ : ∃ w', w' = w.setRow g (splice cur.toList (i * e'.sz + e'.off q) ds).toArray := ⟨_, rfl⟩
      have other : ∀ {g' : Nat}, g' ≠ g → w'.heap[g']? = w.heap[g']? := fun hne => by rw [hw']; exact setRow_other w g _ _ hne
      have hsz' : w'.heap.size = w.heap.size := by rw [hw']; exact size_setRow _ _ _
      have fz2 : ∀ g', Fz lab2 w g' → Fz lab2 w' g' ∧ w'.heap[g']? = w.heap[g']? := fun g' hg' => ⟨⟨hg'.1, by rw [hsz']; exact hg'.2⟩, other fun e => by have := hg'.1; rw [e, hl2] at this; cases this⟩
      have fz1 : ∀ g', Fz lab w g' → Fz lab2 w' g' ∧ w'.heap[g']? = w.heap[g']? := fun g' hg' => fz2 g' ⟨A1 g' hg'.1, hg'.2⟩
      rw [← hw'] at hv
      refine ⟨trivial, undef, w', lab2, hv, ?_, ?_, fun M' hM' g' kq mq hg' => ?_⟩
      rotate_left 2
      · have hne : M' ≠ M := fun e => hM' (M, s') (by simp) e.symm
        exact ⟨A3 M' (fun x hx => hM' x (by simp [hx])) g' kq mq hg', other fun e => by rw [e] at hg'; rw [hlg] at hg'; simp only [Option.some.injEq, Prod.mk.injEq] at hg'; exact hne hg'.1.symm⟩
      · rw [hd, tmps_none]
        have := h.wrT (ws := k.fz ++ [(M, s')]) (kk := []) (lab' := lab2) (w' := w') (by rw [hw']; exact fr_setRow h hlg _) (fun g' p hg' => ?_) (fun g' p hg' => ?_) fz1 (fun M' hM' g' kq mq hg' => ?_) (fun e0 he0 => ?_) ⟨by simp, fun e0 he0 hdead => ?_⟩
        · rw [List.append_nil] at this; exact this
        · rw [hsz']; obtain ⟨r, hr⟩ := A2 g' p hg'; exact h.lt g' r hr
        · obtain ⟨r, hr⟩ := A2 g' p hg'; exact h.kl g' r hr
        · have hne : M' ≠ M := fun e => hM' (M, s') (by simp) e.symm
          exact ⟨A3 M' (fun x hx => hM' x (by simp [hx])) g' kq mq hg', other fun e => by rw [e] at hg'; rw [hlg] at hg'; simp only [Option.some.injEq, Prod.mk.injEq] at hg'; exact hne hg'.1.symm⟩
        · rcases List.mem_append.1 he0 with he0 | he0
          · obtain ⟨q1, q2, q3⟩ := A5 e0 he0
            refine ⟨q1, q2.keep ⟨fz2, fun g' kq mq hg' => ⟨hg', other fun e => ?_⟩⟩ (fun R hR => by rw [q1] at hR; cases hR), ?_⟩
            · rw [e] at hg'; rw [hl2] at hg'; simp only [Option.some.injEq, Prod.mk.injEq] at hg'; exact hM e0 he0 hg'.1.symm
            · rcases q3 with q3 | q3 | ⟨q3, q4, _⟩
              · exact .inl q3
              · exact .inr (.inl q3)
              · refine .inr (.inr (.inl ⟨q3, q4, fun g' hg' => other fun e => ?_⟩))
                rw [e] at hg'; rw [hlg] at hg'; simp at hg'
          · simp only [List.mem_singleton] at he0; subst he0
            refine ⟨hroot, ?_, .inr (.inr (.inl ⟨hrty, hvty, fun g' hg' => other fun e => by rw [e] at hg'; rw [hlg] at hg'; simp at hg'⟩))⟩
            refine hnew w' lab2 (splice flat (i * e'.sz + e'.off q) ds) fz1 (fun g' j hne hg' => ⟨A3 M hM g' 0 j hg', other hne⟩) hl2 ?_ fun j hj => ?_
            · refine ⟨by rw [splice_len (by rw [hrow.1]; omega)]; exact hrow.1, .inr ?_⟩
              rcases hrow.2 with ⟨q1, _⟩ | ⟨g', cap, cur2, q1, q2', q2, q3, q4, q5, q6⟩
              · cases q1
              · simp only [Value.slice.injEq, Option.some.injEq, Addr.mk.injEq] at q1
                obtain ⟨⟨rfl, _, _⟩, hlc, rfl⟩ := q1
                rw [hcur] at q2
                simp only [Option.some.injEq, Obj.cells.injEq, and_true] at q2
                subst q2
                refine ⟨g, c, _, by rw [hlc], q2', by rw [hw']; exact setRow_heap w g cur _ te' (0, 0) hcur, q3, q4, ?_, ?_⟩
                · rw [List.size_toArray, splice_len (by simp; omega)]; simpa using q5
                · rw [splice_take_of (by omega) (by simp; omega), hct]
            · have hj' : j < xs.length := by simpa using hj
              have hfl : flat.length = xs.length * e'.sz := hrow.1
              by_cases hij : i = j
              · subst hij
                rw [splice_block_same (by omega) (by omega)]
                have hx0 := hel i hilt
                rw [List.getD_eq_getElem?_getD, List.getElem?_eq_getElem hilt, Option.getD_some] at hset
                have := Imm.set (hx0.keep fz1) hset hq (hds.keep fz2)
                simpa using this
              · rw [splice_block (by omega) hij (by omega)]
                have := (hel j hj').keep fz1
                simpa [List.getElem_set_ne hij] using this
        · rcases List.mem_append.1 he0 with he0 | he0
          · exact absurd hdead (A6 e0 he0)
          · simp only [List.mem_singleton] at he0; subst he0
            exfalso
            simp only at hdead
            rw [hdead] at hrty hvty
            rcases hh.2 with ⟨_, _, t', _, r, _⟩ | ⟨_, _, r, _⟩
            · rw [← hrty] at r; cases r
            · rw [← hvty] at r; cases r
      · refine fun _ => hR.app fun e0 he0 => ?_
        rcases List.mem_append.1 he0 with he0 | he0
        · exact (A5 e0 he0).1
        · simp only [List.mem_singleton] at he0; subst he0; exact hroot
    rcases htk with ⟨_, ⟨ds, q2, q2'⟩, _, q4⟩ | ⟨_, t', y', q2, q3⟩
    · exact fin (fun _ h => h) (fun _ p h => ⟨p, h⟩) (fun _ _ _ _ _ h => h) (by rw [q4]; simp) (by rw [q4]; simp) q2' q2
    · obtain ⟨rfl, e2⟩ := D.dat.inj q2
      obtain rfl := eq_of_heq e2
      obtain ⟨⟨ds, s1, s1'⟩, s2⟩ := q3.share h (F := k.fz.map (·.1)) (fun e he => List.mem_map.2 ⟨e, he, rfl⟩)
      refine fin (fun _ h => dropL_none h) (fun g p h => ⟨p, dropL_some h⟩) (fun M' hM' g k m hg => dropL_other ?_ hg) s2 (fun e he => ?_) s1' s1
      · intro hm
        obtain ⟨e, he, rfl⟩ := List.mem_map.1 hm
        exact hM' e he rfl
      · exact q3.alive e he
  generalize hσ : σ.getD M .dead = sM at hst hs
  cases sM with
  | own t xs =>
    obtain ⟨cs, b1, b2⟩ := hs
    cases t with
    | slice te' e' =>
      simp only [storeEl] at hst
      split at hst
      · rename_i hp
        subst hp
        split at hst
        · rename_i u' yv hkd
          split at hst
          · rename_i z hset
            simp only [Option.some.injEq] at hst
            subst hst
            rcases hh.2 with ⟨_, _, t', _, r, _⟩ | ⟨_, _, r, r2⟩
            · rw [hσ] at r; cases r
            · rw [hσ] at r
              simp only [Slot.vty, Option.some.injEq, Ty.slice.injEq] at r
              obtain ⟨rfl, rfl⟩ := r
              simp only [Own] at b2
              obtain ⟨b3, v, flat, rfl, b4, b5, b6⟩ := b2
              have hv : v = .slice (some ⟨g, ofs, none⟩) len c := by rw [b1] at r2; exact r2
              subst hv
              have hxl : List.length xs = len := by
                obtain ⟨A, c', e1, _⟩ := ownsRow_range b4
                simp only [Value.slice.injEq] at e1
                exact e1.2.1.symm
              refine go hkd hset rfl hxl b4 (b5 g rfl) b6 (fun w' lab2 flat' f1 f2 f3 f4 f5 => ⟨_, b1, ?_⟩) rfl (by rw [hσ]; rfl) (by rw [hσ]; rfl)
              simp only [Own]
              refine ⟨by rw [List.length_set]; exact b3, _, flat', rfl, by rw [List.length_set]; exact f4, fun g' hg' => ?_, f5⟩
              simp only [Value.ownBlock, Option.some.injEq] at hg'
              subst hg'
              exact f3
          · cases hst
        · cases hst
      · cases hst
    | _ => simp [storeEl] at hst
  | boxo t X =>
    obtain ⟨g0, ty, cs, b1, b2, b3, b4⟩ := hs
    simp only [storeEl] at hst
    split at hst
    · rename_i hno
      have hno' : ∀ s ∈ p, ∀ j, s ≠ .ix j := by
        intro s hs j e
        have := List.all_eq_true.1 hno s hs
        subst e; simp at this
      split at hst
      · rename_i te' e' xs hgs
        split at hst
        · rename_i u' yv hkd
          split at hst
          · rename_i z hset
            split at hst
            · rename_i X' hX
              simp only [Option.some.injEq] at hst
              subst hst
              obtain ⟨hat, hown⟩ := Own.get b4 hgs (Ty.inb_flds hno') (fun _ => hno')
              rw [Nat.zero_add] at hown
              rcases hh.2 with ⟨g', o', t', r1, r2, r3, r4, r5⟩ | ⟨_, _, r, _⟩
              · rw [hσ] at r2
                simp only [Slot.rty, Option.some.injEq] at r2
                subst r2
                rw [hat] at r4
                simp only [Option.some.injEq, Ty.slice.injEq] at r4
                obtain ⟨rfl, rfl⟩ := r4
                rw [b1] at r1
                simp only [Value.pointer.injEq, Option.some.injEq, Addr.mk.injEq] at r1
                obtain ⟨rfl, rfl, _⟩ := r1
                have hle := Ty.off_le hat (Ty.inb_flds hno')
                have hcl := b4.len
                have hle' : t.off p + 1 ≤ t.sz := hle
                have hcell : cs[t.off p]? = some (.slice (some ⟨g, ofs, none⟩) len c) := by
                  have a1 := r5 0 _ rfl
                  rw [Nat.zero_add, Nat.add_zero, cell_of_row w g0 _ cs.toArray ty (0, 0) b3] at a1
                  simpa using a1
                have hpart : (cs.drop (t.off p)).take 1 = [.slice (some ⟨g, ofs, none⟩) len c] := by
                  apply List.ext_getElem?; intro j
                  rw [List.getElem?_take]
                  match j with
                  | 0 => simp [hcell]
                  | j + 1 => simp
                have hown2 := hown
                have hsz1 : (Ty.slice te' e').sz = 1 := rfl
                rw [hsz1, hpart] at hown2
                simp only [Own] at hown2
                obtain ⟨c3, v, flat, c0, c4, c5, c6⟩ := hown2
                simp only [List.cons.injEq, and_true] at c0
                subst c0
                have hxl : List.length xs = len := by
                  obtain ⟨A, c', e1, _⟩ := ownsRow_range c4
                  simp only [Value.slice.injEq] at e1
                  exact e1.2.1.symm
                have hlg := c5 g rfl
                have hg0 : g0 ≠ g := fun e => by rw [e] at b2; unfold Lb at hlg; rw [b2] at hlg; simp at hlg
                refine go hkd hset rfl hxl c4 hlg c6 (fun w' lab2 flat' f1 f2 f3 f4 f5 => ?_) rfl (by rw [hσ]; rfl) (by rw [hσ]; rfl)
                obtain ⟨f6, f7⟩ := f2 g0 0 hg0 b2
                refine ⟨g0, ty, cs, b1, f6, f7.trans b3, Own.upd f1 b4 hX hno' (fun j g' hj hne hg' => ?_) ?_⟩
                · have hg'' : lab g' = some (M, 0, 0 + j + 1) := hg'
                  have hgg : g' ≠ g := fun e => by rw [e] at hg''; unfold Lb at hlg; rw [hlg] at hg''; simp at hg''; omega
                  exact f2 g' _ hgg hg''
                · rw [hpart, Nat.zero_add]
                  simp only [Own]
                  refine ⟨by rw [List.length_set]; exact c3, _, flat', rfl, by rw [List.length_set]; exact f4, fun g' hg' => ?_, f5⟩
                  simp only [Value.ownBlock, Option.some.injEq] at hg'
                  subst hg'
                  exact f3
              · rw [hσ] at r; cases r
            · cases hst
          · cases hst
        · cases hst
      · cases hst
    · cases hst
  | _ => simp [storeEl] at hst
theorem good_store (h : Sim w0 K lab σ a w) (hR : Rt C σ) (hT : TyOk P Γ) {T : Nat} {x y : Operand} (ho : o.op = .store T x y)
    (hrun : (evStore Γ C o T x y).run σ = some (.pure pre fact ws)) (hp : allP pre) : Good P C w0 K lab o σ a w fact ws := by
  obtain ⟨k, h1, h2⟩ := bind_run hrun
  split at h2
  · simp [RM.run] at h2
  · rename_i hc
    simp only [Bool.or_eq_true, not_or, Bool.not_eq_true, Bool.not_eq_false'] at hc
    obtain ⟨hd, hty⟩ := hc
    have hd' : o.dst = none := by cases hq : o.dst with | none => rfl | some n => rw [hq] at hd; cases hd
    obtain ⟨pl, h3, h4⟩ := bind_run h2
    cases pl with
    | «at» M p =>
      simp only [RM.run] at h4
      split at h4
      · rename_i s' ws0 hst
        split at h4
        · simp [RM.run] at h4
        · rename_i hM
          obtain ⟨kk, h5, h6⟩ := bind_run h4
          obtain ⟨ks, h7, h8⟩ := bind_run h6
          simp only [RM.run, Option.some.injEq, Eff.pure.injEq] at h8
          obtain ⟨rfl, rfl, rfl⟩ := h8
          exact storeVar_at h hR hT ho hd' h1 hty h3 hst (fun x hx e => hM (List.any_eq_true.2 ⟨x, hx, by simp [e]⟩)) h5 h7
      · simp [RM.run] at h4
    | el M p i q =>
      simp only [RM.run] at h4
      split at h4
      · rename_i s' hst
        split at h4
        · simp [RM.run] at h4
        · rename_i hM
          simp only [RM.run, Option.some.injEq, Eff.pure.injEq] at h4
          obtain ⟨rfl, rfl, rfl⟩ := h4
          exact storeEl_at h hR hT ho hd' h1 hty h3 hst (fun x hx e => hM (List.any_eq_true.2 ⟨x, hx, by simp [e]⟩))
      · simp [RM.run] at h4
end
end Go.Proofs.Ytmjijggkdbiijaa
