/- A closure that remembers what it found, as a thing told by a predicate; the operations on it. No statement is proved here. -/
import Derived.Test.YtmjijggkdbiijaaVe
import Derived.Maps.Keyed
namespace Go.Proofs.Ytmjijggkdbiijaa
open Go.RowKit
set_option linter.unusedVariables false
set_option linter.unusedSimpArgs false
/-- A call with several such things; one of them is owned. -/
def EvC (P : Program) (f : Nat) (args : List Arg) (res : List Comp) (b : Nat) (A' : Thg) (ps : List (Nat × Thg)) : Prop :=
  (∀ vs w, (callFunc f vs).run P w = .ok (.enter f vs) w) ∧
  ∀ (w : World) (lab : Lab) (vs : List Value), (∀ g p, lab g = some p → g < w.heap.size) → vs.length = args.length → (∀ j a v, args[j]? = some a → vs[j]? = some v → ArgOk lab w j a v) →
    Calls P f vs.toArray w fun e w' => ∃ v lab', e = .returned v ∧ Fr w (fun g => g < w.heap.size ∧ (lab g = none ∨ ∃ k m, lab g = some (D0, k, m))) w' ∧ (∀ g, g < w.heap.size → lab g = none → lab' g = none) ∧ (∀ g k m, lab g = some (D0, k, m) → lab' g = some (D0, k, m)) ∧
      (∀ g p, lab' g = some p → g < w'.heap.size) ∧ ResOk lab' w' 0 res v ∧ A'.P (Fz lab' w') (fun g => ∃ m, lab' g = some (B0, 0, m + 1)) w' (vs.getD b undef) ∧ ∀ p ∈ ps, ∃ B, p.2.P (Fz lab' w') B w' (vs.getD p.1 undef)
/-- A value that is known. -/
def isV (c : Value) : Thg := ⟨fun _ _ _ v => v = c, fun _ _ h => h⟩
abbrev kvT : Ty := .map (.int .i64) (.int .i64)
abbrev KV := List (Int × Int)
/-- A variable of one's own that holds a map of one's own. -/
def mapT (gk gm : Nat) (xs : KV) : Thg :=
  ⟨fun S B w v => v = .pointer (some ⟨gk, 0, none⟩) ∧ (B gk ∧ ∃ ty, w.heap[gk]? = some (.cells #[.map (some gm)] ty (0, 0))) ∧ Own w S (fun _ g => B g) 0 kvT (some xs) [.map (some gm)], by
    rintro S S' B B' w w' v hS hB ⟨h1, ⟨h2, ty, h3⟩, h4⟩
    exact ⟨h1, ⟨(hB _ h2).1, ty, (hB _ h2).2.trans h3⟩, h4.keep hS (fun _ g hg => hB g hg)⟩⟩
/-- What it holds is right. -/
def mapF (F : Int → Int) (gk gm : Nat) : Thg :=
  ⟨fun S B w v => ∃ xs : KV, (∀ p ∈ xs, p.2 = F p.1) ∧ (mapT gk gm xs).P S B w v, by
    rintro S S' B B' w w' v hS hB ⟨xs, h1, h2⟩
    exact ⟨xs, h1, (mapT gk gm xs).keep hS hB h2⟩⟩
def cloM (f : Nat) (pl : Value) (gk gf : Nat) : Value := .func (.func f) #[] #[pl, .pointer (some ⟨gk, 0, none⟩), .pointer (some ⟨gf, 0, none⟩)]
/-- A variable that nobody writes, which holds the closure. -/
def selfT (f : Nat) (d : D) (pl : Value) (gk gf : Nat) : Thg :=
  ⟨fun S _ w v => v = .pointer (some ⟨gf, 0, none⟩) ∧ (S gf ∧ ∃ ty, w.heap[gf]? = some (.cells #[cloM f pl gk gf] ty (0, 0))) ∧ RepV w S d pl, by
    rintro S S' B B' w w' v hS hB ⟨h1, ⟨h2, ty, h3⟩, h4⟩
    exact ⟨h1, ⟨(hS _ h2).1, ty, (hS _ h2).2.trans h3⟩, h4.keep hS⟩⟩
/-- The closure, at told places. -/
def memoAt (f : Nat) (d : D) (F : Int → Int) (pl : Value) (gk gm gf : Nat) : Thg :=
  ⟨fun S B w v => v = cloM f pl gk gf ∧ (mapF F gk gm).P S B w (.pointer (some ⟨gk, 0, none⟩)) ∧ (selfT f d pl gk gf).P S B w (.pointer (some ⟨gf, 0, none⟩)), by
    rintro S S' B B' w w' v hS hB ⟨h1, h2, h3⟩
    exact ⟨h1, (mapF F gk gm).keep hS hB h2, (selfT f d pl gk gf).keep hS hB h3⟩⟩
/-- The closure. -/
def memo (f : Nat) (d : D) (F : Int → Int) : Thg :=
  ⟨fun S B w v => ∃ pl gk gm gf, (memoAt f d F pl gk gm gf).P S B w v, by
    rintro S S' B B' w w' v hS hB ⟨pl, gk, gm, gf, h⟩
    exact ⟨pl, gk, gm, gf, (memoAt f d F pl gk gm gf).keep hS hB h⟩⟩
section
variable {P : Program} {C R : List Nat} {o : Oper} {σ : List Slot}
theorem cust_put {ws0 : Wr} {N : Nat} {s : Slot} (hd : o.dst = some N) (hNR : N ∈ R) (hN : (σ.getD N .dead).rty = none ∧ ∀ u, (σ.getD N .dead).vty = some u → u.flat = true) (hs : s.root = none)
    (hws0 : ∀ x ∈ ws0, x.1 ≠ N ∧ x.1 ∈ R ∧ x.2.root = none ∧ x.2 ≠ .dead ∧ x.2.rty = (σ.getD x.1 .dead).rty ∧ x.2.vty = (σ.getD x.1 .dead).vty)
    (H : ∀ (τ : List Slot), (∀ n ∈ R, τ.getD n .dead = σ.getD n .dead) → ∀ (w0 : World) (K : Nat → Prop) (lab : Lab) (a : Act) (w : World), Sim w0 K lab τ a w → ∃ v lab', Runs P o a w v w ∧ (∀ g, lab g = none → lab' g = none) ∧ (∀ g p, lab' g = some p → ∃ p', lab g = some p') ∧
      (∀ M, M ≠ N → (∀ x ∈ ws0, x.1 ≠ M) → ∀ g k m, lab g = some (M, k, m) → lab' g = some (M, k, m)) ∧ SlotOk lab' w [] #[] N s v ∧ ∀ x ∈ ws0, SlotOk lab' w [] #[] x.1 x.2 (a.tmps.getD x.1 undef)) :
    Cust P C o R σ (ws0 ++ [(N, s)]) := by
  intro τ hτ w0 K lab a w h hR
  obtain ⟨v, lab', r1, r2, r3, r4, r5, r6⟩ := H τ hτ w0 K lab a w h
  refine ⟨v, w, lab', r1, ?_, ?_, fun M hM g k m hg => ⟨r4 M (fun e => hM (N, s) (by simp) e.symm) (fun x hx => hM x (by simp [hx])) g k m hg, rfl⟩⟩
  · rw [hd]
    have := h.putT (N := N) (s := s) (v := v) (ws := ws0) (kk := []) (ks := []) (lab' := lab') (w' := w) h.fr (fun g p hg => by obtain ⟨p', hp⟩ := r3 g p hg; exact h.lt g _ hp) (fun g p hg => by obtain ⟨p', hp⟩ := r3 g p hg; exact h.kl g _ hp)
      (fun g hg => ⟨⟨r2 g hg.1, hg.2⟩, rfl⟩) (fun M hM hMx g k m hg => ⟨r4 M hM hMx g k m hg, rfl⟩) (fun x hx => (hws0 x hx).1) ⟨hs, r5⟩
      (fun x hx => ⟨(hws0 x hx).2.2.1, r6 x hx, .inr (.inr ⟨by rw [hτ _ (hws0 x hx).2.1]; exact (hws0 x hx).2.2.2.2.1, by rw [hτ _ (hws0 x hx).2.1]; exact (hws0 x hx).2.2.2.2.2, fun _ _ => rfl⟩)⟩)
      ⟨by simp, fun x hx hxd => absurd hxd (hws0 x hx).2.2.2.1⟩ ⟨by simp, fun M hM hr => by
        exfalso
        rcases root_of (h.slots M) hr with q | ⟨u, q1, q2⟩
        · rw [hτ N hNR] at q; exact q hN.1
        · rw [hτ N hNR] at q1; rw [hN.2 u q1] at q2; cases q2⟩
    simpa using this
  · have h0 : Rt C τ := fun N M hr => hR N M hr
    have := h0.app (ws := ws0 ++ [(N, s)]) fun x hx => by
      rcases List.mem_append.1 hx with hx | hx
      · exact (hws0 x hx).2.2.1
      · simp only [List.mem_singleton] at hx; subst hx; exact hs
    exact fun N M hr => this N M hr
theorem run_load1 {P : Program} {T : Nat} {d : TypeDesc} (hu : P.underlying T = some d) (hr : d.isRow = false) {w : World} {g : Nat} {v : Value} {ty : TypeId} (hg : w.heap[g]? = some (.cells #[v] ty (0, 0))) : (loadVar T ⟨g, 0, none⟩).run P w = .ok v w := by
  have hagg := isAgg_no hu hr w
  have hcell : w.cell? ⟨g, 0, none⟩ = some v := by rw [cell_of_row w g 0 #[v] ty (0, 0) hg]; rfl
  simp [loadVar, Sem.run_bind, hagg, load, Sem.run, hcell]
/-- A variable that holds a map is read. -/
theorem cust_loadMap {N M T gk gm : Nat} {A : Thg} {dd : TypeDesc} (hu : P.underlying T = some dd) (hur : dd.isRow = false) (ho : o.op = .load T (.tmp M)) (hd : o.dst = some N) (hMR : M ∈ R) (hNR : N ∈ R) (hM : σ.getD M .dead = .sem A) (hN : σ.getD N .dead = .dead)
    (hA : ∀ S B w v, A.P S B w v → v = .pointer (some ⟨gk, 0, none⟩) ∧ ∃ ty, w.heap[gk]? = some (.cells #[.map (some gm)] ty (0, 0))) :
    Cust P C o R σ [(N, .sem (isV (.map (some gm))))] := by
  refine cust_put (ws0 := []) hd hNR (by rw [hN]; exact ⟨rfl, fun u q => by cases q⟩) rfl (by simp) fun τ hτ w0 K lab a w h => ?_
  have hs := h.slots M
  rw [hτ M hMR, hM] at hs
  obtain ⟨e, ty, hg⟩ := hA _ _ _ _ hs
  exact ⟨_, lab, runs_load ho (g := gk) (ofs := 0) e (run_load1 hu hur hg), fun _ h => h, fun _ p h => ⟨p, h⟩, fun _ _ _ _ _ _ h => h, rfl, by simp⟩
theorem movS {N n : Nat} {lab : Lab} : (∀ g, lab g = none → movL n N lab g = none) ∧ (∀ g p, movL n N lab g = some p → ∃ p', lab g = some p') ∧ (∀ M, M ≠ n → ∀ g k m, lab g = some (M, k, m) → movL n N lab g = some (M, k, m)) ∧ ∀ g k m, lab g = some (n, k, m) → movL n N lab g = some (N, k, m) := by
  refine ⟨fun g hg => by simp [movL, hg], fun g p hg => ?_, fun M hM g k m hg => by simp only [movL, hg]; rw [if_neg hM], fun g k m hg => by simp [movL, hg]⟩
  cases hl : lab g with
  | none => simp [movL, hl] at hg
  | some r => exact ⟨r, rfl⟩
variable {f : Nat} {d : D} {F : Int → Int} {pl : Value} {gk gm gf : Nat}
/-- The closure is read out of its variable; the map goes over to it. -/
theorem cust_self {N M1 M2 T : Nat} {dd : TypeDesc} (hu : P.underlying T = some dd) (hur : dd.isRow = false) (ho : o.op = .load T (.tmp M2)) (hd : o.dst = some N) (h1R : M1 ∈ R) (h2R : M2 ∈ R) (hNR : N ∈ R) (h1 : σ.getD M1 .dead = .sem (mapF F gk gm)) (h2 : σ.getD M2 .dead = .sem (selfT f d pl gk gf)) (hN : σ.getD N .dead = .dead) (hne : M1 ≠ N) :
    Cust P C o R σ [(M1, .sem (isV (.pointer (some ⟨gk, 0, none⟩)))), (N, .sem (memoAt f d F pl gk gm gf))] := by
  refine cust_put (ws0 := [(M1, .sem (isV (.pointer (some ⟨gk, 0, none⟩))))]) hd hNR (by rw [hN]; exact ⟨rfl, fun u q => by cases q⟩) rfl (fun x hx => ?_) fun τ hτ w0 K lab a w h => ?_
  · simp only [List.mem_singleton] at hx; subst hx
    exact ⟨hne, h1R, rfl, by simp, by rw [h1]; rfl, by rw [h1]; rfl⟩
  have hs1 := h.slots M1
  have hs2 := h.slots M2
  rw [hτ M1 h1R, h1] at hs1
  rw [hτ M2 h2R, h2] at hs2
  obtain ⟨m1, m2, m3, m4⟩ := movS (N := N) (n := M1) (lab := lab)
  have e1 : a.tmps.getD M1 undef = .pointer (some ⟨gk, 0, none⟩) := by obtain ⟨xs, _, q, _⟩ := hs1; exact q
  have e2 : a.tmps.getD M2 undef = .pointer (some ⟨gf, 0, none⟩) := hs2.1
  obtain ⟨_, ⟨_, ty, hg⟩, _⟩ := id hs2
  refine ⟨_, movL M1 N lab, runs_load ho (g := gf) (ofs := 0) e2 (run_load1 hu hur hg), m1, m2, fun M hM hMx => m3 M fun e => hMx (M1, .sem (isV (.pointer (some ⟨gk, 0, none⟩)))) (by simp) e.symm, (?_ : (memoAt f d F pl gk gm gf).P _ _ _ _), ?_⟩
  refine ⟨rfl, ?_, ?_⟩
  · rw [e1] at hs1
    exact (mapF F gk gm).keep (fun g hg => ⟨⟨m1 g hg.1, hg.2⟩, rfl⟩) (fun g ⟨m, hg⟩ => ⟨⟨m, m4 g _ _ hg⟩, rfl⟩) hs1
  · rw [e2] at hs2
    exact (selfT f d pl gk gf).keep (S' := Fz (movL M1 N lab) w) (B' := fun g => ∃ m, lab g = some (M2, 0, m + 1)) (fun g hg => ⟨⟨m1 g hg.1, hg.2⟩, rfl⟩) (fun g hg => ⟨hg, rfl⟩) hs2
  · intro x hx
    simp only [List.mem_singleton] at hx; subst hx
    exact e1
/-- A sum; and the map goes back. -/
theorem cust_back {N M1 M2 A1 A2 T T' : Nat} {a1 a2 : Int} (ho : o.op = .binOp .add T (.tmp A1) (.tmp A2) T') (hd : o.dst = some N) (h1R : M1 ∈ R) (h2R : M2 ∈ R) (h3R : A1 ∈ R) (h4R : A2 ∈ R) (hNR : N ∈ R)
    (h1 : σ.getD M1 .dead = .sem (isV (.pointer (some ⟨gk, 0, none⟩)))) (h2 : σ.getD M2 .dead = .sem (memoAt f d F pl gk gm gf)) (h3 : σ.getD A1 .dead = .val (.dat (.int .i64) a1)) (h4 : σ.getD A2 .dead = .val (.dat (.int .i64) a2)) (hN : σ.getD N .dead = .dead) (hn1 : M1 ≠ N) (hn2 : M2 ≠ N) (hn3 : M1 ≠ M2)
    (hr : -9223372036854775808 ≤ a1 + a2 ∧ a1 + a2 ≤ 9223372036854775807) :
    Cust P C o R σ [(M2, .sem (isV (cloM f pl gk gf))), (M1, .sem (mapF F gk gm)), (N, .val (.dat (.int .i64) (a1 + a2)))] := by
  refine cust_put (ws0 := [(M2, .sem (isV (cloM f pl gk gf))), (M1, .sem (mapF F gk gm))]) hd hNR (by rw [hN]; exact ⟨rfl, fun u q => by cases q⟩) rfl (fun x hx => ?_) fun τ hτ w0 K lab a w h => ?_
  · simp only [List.mem_cons, List.not_mem_nil, or_false] at hx
    rcases hx with rfl | rfl
    · exact ⟨hn2, h2R, rfl, by simp, by rw [h2]; rfl, by rw [h2]; rfl⟩
    · exact ⟨hn1, h1R, rfl, by simp, by rw [h1]; rfl, by rw [h1]; rfl⟩
  have hs1 := h.slots M1
  have hs2 := h.slots M2
  have hs3 := h.slots A1
  have hs4 := h.slots A2
  rw [hτ M1 h1R, h1] at hs1
  rw [hτ M2 h2R, h2] at hs2
  rw [hτ A1 h3R, h3] at hs3
  rw [hτ A2 h4R, h4] at hs4
  obtain ⟨m1, m2, m3, m4⟩ := movS (N := M1) (n := M2) (lab := lab)
  have e1 : a.tmps.getD M1 undef = .pointer (some ⟨gk, 0, none⟩) := hs1
  have e2 : a.tmps.getD M2 undef = cloM f pl gk gf := hs2.1
  have hx : a.eval (.tmp A1) = .int .i64 a1 := (rep_int hs3).1
  have hy : a.eval (.tmp A2) = .int .i64 a2 := (rep_int hs4).1
  have hw := wrap_in (k := .i64) (z := a1 + a2) ⟨by simp only [loK]; omega, by simp only [hiK]; omega⟩
  refine ⟨.int .i64 (a1 + a2), movL M2 M1 lab, .inl (by unfold execOp; simp [ho, hx, hy, eqGuard, binOp, Op.intArith, hw]), m1, m2, fun M hM hMx => m3 M fun e => hMx (M2, .sem (isV (cloM f pl gk gf))) (by simp) e.symm, int_rep ⟨by simp only [loK]; omega, by simp only [hiK]; omega⟩, ?_⟩
  intro x hx
  simp only [List.mem_cons, List.not_mem_nil, or_false] at hx
  rcases hx with rfl | rfl
  · exact e2
  · have := hs2.2.1
    show (mapF F gk gm).P _ _ _ _
    rw [e1]
    exact (mapF F gk gm).keep (fun g hg => ⟨⟨m1 g hg.1, hg.2⟩, rfl⟩) (fun g ⟨m, hg⟩ => ⟨⟨m, m4 g _ _ hg⟩, rfl⟩) this
/-- What the map holds is right, and no more is told of it. -/
theorem cust_weak {N M : Nat} {v : Value} {s : Slot} (ho : o.op = .assign (.const v)) (hd : o.dst = some N) {xs : KV} (hMR : M ∈ R) (hNR : N ∈ R) (hM : σ.getD M .dead = .sem (mapT gk gm xs)) (hN : (σ.getD N .dead).rty = none ∧ ∀ u, (σ.getD N .dead).vty = some u → u.flat = true) (hne : M ≠ N) (hF : ∀ p ∈ xs, p.2 = F p.1)
    (hs : s.root = none) (hv : ∀ (lab : Lab) (w : World), SlotOk lab w [] #[] N s v) : Cust P C o R σ [(M, .sem (mapF F gk gm)), (N, s)] := by
  refine cust_put (ws0 := [(M, .sem (mapF F gk gm))]) hd hNR hN hs (fun x hx => ?_) fun τ hτ w0 K lab a w h => ?_
  · simp only [List.mem_singleton] at hx; subst hx
    exact ⟨hne, hMR, rfl, by simp, by rw [hM]; rfl, by rw [hM]; rfl⟩
  have hs1 := h.slots M
  rw [hτ M hMR, hM] at hs1
  refine ⟨v, lab, .inl (by rw [run_assign ho]; rfl), fun _ h => h, fun _ p h => ⟨p, h⟩, fun _ _ _ _ _ _ h => h, hv _ _, ?_⟩
  intro x hx
  simp only [List.mem_singleton] at hx; subst hx
  exact ⟨xs, hF, hs1⟩
theorem keyI {kt : TypeId} (hk : P.underlying kt = some (.int .i64)) : Maps.Keyed P kt ∧ ∀ (w : World) (S : Nat → Prop) (y : Int) (cs : List Value), Imm w S (.int .i64) y cs → ∃ l, keyOf P kt ((Ty.int .i64).mk cs) = some l :=
  ⟨Maps.int_keyed hk, fun w S y cs h => by
    simp only [Imm] at h
    obtain ⟨rfl, q⟩ := h
    exact ⟨_, Maps.keyOf_int_mk hk (by simp only [Lit.wf, Bool.and_eq_true, decide_eq_true_eq]; exact q)⟩⟩
theorem own_kv {w : World} {S : Nat → Prop} {L : Nat → Nat → Prop} {xs : KV} {gm : Nat} (h : Own w S L 0 kvT (some xs) [.map (some gm)]) : ∃ (es : Array MapEntry) (ck : Nat), L 0 gm ∧ w.heap[gm]? = some (.map es ck) ∧ es.size = xs.length ∧ xs.Pairwise (fun p q => p.1 ≠ q.1) ∧
    ∀ i (h : i < xs.length), ∃ en : MapEntry, es[i]? = some en ∧ en.key = .int .i64 xs[i].1 ∧ inR .i64 xs[i].1 ∧ en.val = .int .i64 xs[i].2 ∧ inR .i64 xs[i].2 := by
  simp only [kvT, Own] at h
  rcases h with ⟨q, _⟩ | ⟨b, ys, es, ck, q1, q2, q3, q4, q5, q6, _, q7⟩
  · cases q
  · obtain rfl := Option.some.inj q1
    simp only [List.cons.injEq, Value.map.injEq, Option.some.injEq, and_true] at q2
    subst q2
    refine ⟨es, ck, q3, q4, q5, q6, fun i hi => ?_⟩
    obtain ⟨en, kc, vc, r1, r2, r3, r4, r5⟩ := q7 i hi
    simp only [Imm] at r4
    simp only [OwnE, Imm] at r5
    obtain ⟨rfl, r4⟩ := r4
    obtain ⟨rfl, r5⟩ := r5
    exact ⟨en, r1, r2, r4, r3, r5⟩
theorem imm_i {w : World} {S : Nat → Prop} {x : Int} (h : inR .i64 x) : Imm w S (.int .i64) x [.int .i64 x] := by simp only [Imm]; exact ⟨trivial, h⟩
/-- What the map holds at a key. -/
theorem cust_find {Γ : Ctx} (hT : TyOk P Γ) {N M A1 A2 T kt et : Nat} (hu : P.underlying T = some (.map kt et)) (hkt : P.underlying kt = some (.int .i64)) (het : Γ.ty et = some (.int .i64)) (ho : o.op = .lookup T (.tmp A1) (.tmp A2) true) (hd : o.dst = some N) {xs : KV} {y : Int}
    (hMR : M ∈ R) (h1R : A1 ∈ R) (h2R : A2 ∈ R) (hNR : N ∈ R) (hM : σ.getD M .dead = .sem (mapT gk gm xs)) (h1 : σ.getD A1 .dead = .sem (isV (.map (some gm)))) (h2 : σ.getD A2 .dead = .val (.dat (.int .i64) y)) (hN : σ.getD N .dead = .dead) (hne : M ≠ N) (hF : ∀ p ∈ xs, p.2 = F p.1) :
    Cust P C o R σ [(M, .sem (mapF F gk gm)), (N, .tup [.val (.dat (.int .i64) ((mget (.int .i64) (.int .i64) (some xs) y).getD 0)), .val (.dat .bool (mget (.int .i64) (.int .i64) (some xs) y).isSome)])] := by
  refine cust_put (ws0 := [(M, .sem (mapF F gk gm))]) hd hNR (by rw [hN]; exact ⟨rfl, fun u q => by cases q⟩) rfl (fun x hx => ?_) fun τ hτ w0 K lab a w h => ?_
  · simp only [List.mem_singleton] at hx; subst hx
    exact ⟨hne, hMR, rfl, by simp, by rw [hM]; rfl, by rw [hM]; rfl⟩
  have hs1 := h.slots M
  have hs2 := h.slots A1
  have hs3 := h.slots A2
  rw [hτ M hMR, hM] at hs1
  rw [hτ A1 h1R, h1] at hs2
  rw [hτ A2 h2R, h2] at hs3
  have hxv : a.eval (.tmp A1) = .map (some gm) := hs2
  obtain ⟨hy, hyr⟩ := rep_int hs3
  have hiy : a.eval (.tmp A2) = .int .i64 y := hy
  obtain ⟨es, ck, _, hhp, hsz, hpw, hent⟩ := own_kv hs1.2.2
  obtain ⟨hK, hkey⟩ := keyI (P := P) hkt
  obtain ⟨i, hi, _, _, z, hz1, hz2⟩ := (hT.ty et _ het).info
  have hzero : (zeroValue et).run P w = .ok z w := by simp [zeroValue, typeInfo, hi, hz1, go_sem]
  have hzv : z = .int .i64 0 := (hT.ty et _ het).zv i z hi hz1
  obtain ⟨ly, hly⟩ := hkey w (fun _ => True) y _ (imm_i hyr)
  have hchk : (Instr.checkKey es.isEmpty 10000 kt (.int .i64 y)).run P w = .ok () w := hK.check w es.isEmpty hly
  have fin : ∀ v : Int, inR .i64 v → (mget (.int .i64) (.int .i64) (some xs) y).getD 0 = v → (execOp a.eval o).run P w = .ok (.value (.tuple #[.int .i64 v, .bool (mget (.int .i64) (.int .i64) (some xs) y).isSome])) w →
      ∃ v lab', Runs P o a w v w ∧ (∀ g, lab g = none → lab' g = none) ∧ (∀ g p, lab' g = some p → ∃ p', lab g = some p') ∧ (∀ M', M' ≠ N → (∀ x ∈ [(M, Slot.sem (mapF F gk gm))], x.1 ≠ M') → ∀ g k m, lab g = some (M', k, m) → lab' g = some (M', k, m)) ∧
      SlotOk lab' w [] #[] N (.tup [.val (.dat (.int .i64) ((mget (.int .i64) (.int .i64) (some xs) y).getD 0)), .val (.dat .bool (mget (.int .i64) (.int .i64) (some xs) y).isSome)]) v ∧ ∀ x ∈ [(M, Slot.sem (mapF F gk gm))], SlotOk lab' w [] #[] x.1 x.2 (a.tmps.getD x.1 undef) := by
    intro v hvr hv hrun
    refine ⟨_, lab, .inl hrun, fun _ h => h, fun _ p h => ⟨p, h⟩, fun _ _ _ _ _ _ h => h, ⟨[.int .i64 v, .bool _], rfl, rfl, fun k c u hc hu => ?_⟩, fun x hx => ?_⟩
    · match k with
      | 0 => simp only [List.getElem?_cons_zero, Option.some.injEq] at hc hu; subst hc hu; rw [hv]; exact int_rep hvr
      | 1 => simp only [List.getElem?_cons_succ, List.getElem?_cons_zero, Option.some.injEq] at hc hu; subst hc hu; exact bool_rep
      | k + 2 => simp at hc
    · simp only [List.mem_singleton] at hx; subst hx
      exact ⟨xs, hF, hs1⟩
  rcases find_map (P := P) (w := w) (w1 := w) (w2 := w) (S := fun _ => True) (S' := fun _ => True) (k := .int .i64) (e := .int .i64) hK hkey rfl hsz hpw (fun i hi => by obtain ⟨en, r1, r2, r3, _⟩ := hent i hi; exact ⟨en, [.int .i64 xs[i].1], r1, r2, imm_i r3⟩) (imm_i hyr) with ⟨_, q2, q3⟩ | ⟨j, hj, _, q2, en, q3, _, q4⟩
  · have q3' : (Instr.findKey kt (.int .i64 y) es.toList).run P w = .ok none w := q3
    refine fin 0 ⟨by simp only [loK]; omega, by simp only [hiK]; omega⟩ (by rw [q2]; rfl) ?_
    unfold execOp
    rw [q2]
    simp [ho, hxv, hiy, Instr.lookup, run_underlying hu, MapKept.run_getObj_map hhp, hchk, q3', hzero, hzv]
  · have q4' : (Instr.findKey kt (.int .i64 y) es.toList).run P w = .ok (some (j, en.val)) w := q4
    obtain ⟨en', r1, r2, r3, r4, r5⟩ := hent j hj
    rw [q3] at r1
    obtain rfl := Option.some.inj r1
    refine fin xs[j].2 r5 (by rw [q2]; rfl) ?_
    unfold execOp
    rw [q2]
    simp [ho, hxv, hiy, Instr.lookup, run_underlying hu, MapKept.run_getObj_map hhp, hchk, q4', r4]
/-- A store into the map. -/
theorem cust_update {M A1 A2 A3 T kt et : Nat} (hu : P.underlying T = some (.map kt et)) (hkt : P.underlying kt = some (.int .i64)) (ho : o.op = .mapUpdate T (.tmp A1) (.tmp A2) (.tmp A3)) (hd : o.dst = none) {y v : Int}
    (hMR : M ∈ R) (h1R : A1 ∈ R) (h2R : A2 ∈ R) (h3R : A3 ∈ R) (hM : σ.getD M .dead = .sem (mapF F gk gm)) (h1 : σ.getD A1 .dead = .sem (isV (.map (some gm)))) (h2 : σ.getD A2 .dead = .val (.dat (.int .i64) y)) (h3 : σ.getD A3 .dead = .val (.dat (.int .i64) v)) (hF : v = F y) :
    Cust P C o R σ [(M, .sem (mapF F gk gm))] := by
  intro τ hτ w0 K lab a w h hR
  have hs1 := h.slots M
  have hs2 := h.slots A1
  have hs3 := h.slots A2
  have hs4 := h.slots A3
  rw [hτ M hMR, hM] at hs1
  rw [hτ A1 h1R, h1] at hs2
  rw [hτ A2 h2R, h2] at hs3
  rw [hτ A3 h3R, h3] at hs4
  have hxv : a.eval (.tmp A1) = .map (some gm) := hs2
  obtain ⟨hy, hyr⟩ := rep_int hs3
  have hiy : a.eval (.tmp A2) = .int .i64 y := hy
  obtain ⟨hv, hvr⟩ := rep_int hs4
  have hiv : a.eval (.tmp A3) = .int .i64 v := hv
  obtain ⟨xs, hxF, hp0, ⟨⟨mk, hlk⟩, tyk, hgk⟩, hown⟩ := hs1
  obtain ⟨es, ck, ⟨mm, hlm⟩, hhp, hsz, hpw, hent⟩ := own_kv hown
  obtain ⟨hK, hkey⟩ := keyI (P := P) hkt
  obtain ⟨es', ck', u1, u2, u3, u4, u5⟩ := run_update (P := P) (w := w) (T := T) (k := .int .i64) (e := .int .i64) hu hK hkey rfl (S := fun _ => True) (b := gm) (ck := ck) (xs := xs) (es := es) hhp hsz hpw (fun i hi => by obtain ⟨en, r1, r2, r3, _⟩ := hent i hi; exact ⟨en, [.int .i64 xs[i].1], r1, r2, imm_i r3⟩)
    (y := y) (yc := [.int .i64 y]) (imm_i hyr) (v := v) (nv := .int .i64 v) (E := fun z u => u = .int .i64 z ∧ inR .i64 z) ⟨rfl, hvr⟩ (fun i hi en he hne => by obtain ⟨en', r1, r2, r3, r4, r5⟩ := hent i hi; rw [he] at r1; obtain rfl := Option.some.inj r1; exact ⟨r4, r5⟩)
    (fun i i' hi hi' en en' g _ _ he _ hg _ => by obtain ⟨en2, r1, r2, r3, r4, r5⟩ := hent i hi; rw [he] at r1; obtain rfl := Option.some.inj r1; rw [r4] at hg; cases hg) (fun i hi en g _ he _ hg => by cases hg)
  have u1' : (Instr.mapUpdate T (.map (some gm)) (.int .i64 y) (.int .i64 v)).run P w = .ok () (ChangeMaps.setBlock w gm (.map es' ck')) := u1
  obtain ⟨w', hw'⟩ : ∃ w', w' = ChangeMaps.setBlock w gm (.map es' ck') := ⟨_, rfl⟩
  have other : ∀ {g : Nat}, g ≠ gm → w'.heap[g]? = w.heap[g]? := fun hne => by rw [hw']; exact ChangeMaps.heap_setBlock_other hhp _ hne
  have same : w'.heap[gm]? = some (.map es' ck') := by rw [hw']; exact ChangeMaps.heap_setBlock_same hhp _
  have hsize : w'.heap.size = w.heap.size := by rw [hw']; simp [ChangeMaps.setBlock]
  have hrunU : Runs P o a w undef w' := by
    refine .inr ⟨?_, rfl⟩
    unfold execOp
    simp [ho, hxv, hiy, hiv, u1', hw']
  have fz : ∀ g, Fz lab w g → Fz lab w' g ∧ w'.heap[g]? = w.heap[g]? := fun g hg => ⟨⟨hg.1, by rw [hsize]; exact hg.2⟩, other fun e => by rw [e] at hg; rw [hg.1] at hlm; cases hlm⟩
  have hfr : Fr w0 K w' := by
    refine ⟨?_, ?_, ?_, by rw [hsize]; exact h.fr.size, fun g hg => (other fun e => h.kl gm _ hlm (e ▸ hg)).trans (h.fr.keep g hg)⟩
    · rw [hw']; exact h.fr.os
    · rw [hw']; exact h.fr.tape
    · rw [hw']; exact h.fr.output
  have hgkm : gk ≠ gm := fun e => by rw [e, hhp] at hgk; cases hgk
  refine ⟨undef, w', lab, hrunU, ?_, ?_, fun N' hN' g k m hg => ⟨hg, other fun e => by rw [e, hlm] at hg; simp only [Option.some.injEq, Prod.mk.injEq] at hg; exact hN' (M, .sem (mapF F gk gm)) (by simp) hg.1⟩⟩
  · rw [hd, tmps_none]
    have := h.wrT (ws := [(M, .sem (mapF F gk gm))]) (kk := []) (lab' := lab) (w' := w') hfr (fun g p hg => by rw [hsize]; exact h.lt g p hg) (fun g p hg => h.kl g p hg) fz
      (fun N' hN' g k m hg => ⟨hg, other fun e => by rw [e, hlm] at hg; simp only [Option.some.injEq, Prod.mk.injEq] at hg; exact hN' (M, .sem (mapF F gk gm)) (by simp) hg.1⟩)
      (fun x hx => ?_) ⟨by simp, fun x hx hxd => by simp only [List.mem_singleton] at hx; subst hx; cases hxd⟩
    · simpa using this
    · simp only [List.mem_singleton] at hx; subst hx
      refine ⟨rfl, ?_, .inr (.inr (.inl ⟨by rw [hτ M hMR, hM], by rw [hτ M hMR, hM], fun g hg => other fun e => by rw [e, hlm] at hg; simp at hg⟩))⟩
      refine ⟨mput (.int .i64) (.int .i64) xs y v, ?_, hp0, ⟨⟨mk, hlk⟩, tyk, (other hgkm).trans hgk⟩, ?_⟩
      · intro p hp
        unfold mput at hp
        split at hp
        · obtain ⟨q, hq, rfl⟩ := List.mem_map.1 hp
          split
          · rename_i hk; rw [keyEq_iff rfl] at hk; rw [hF, hk]
          · exact hxF q hq
        · rcases List.mem_append.1 hp with hp | hp
          · exact hxF p hp
          · simp only [List.mem_singleton] at hp; subst hp; exact hF
      · simp only [kvT, Own]
        refine .inr ⟨gm, _, es', ck', rfl, rfl, ⟨mm, hlm⟩, same, u2, u3, u4, fun i hi => ?_⟩
        obtain ⟨en, kc, r1, r2, r3, r4, r5⟩ := u5 i hi
        refine ⟨en, kc, [en.val], r1, r2, by rw [r4]; rfl, (show Imm w (Fz lab w) (.int .i64) _ kc from Imm.flat rfl r3).keep fz, ?_⟩
        · simp only [OwnE, Imm]; exact ⟨by rw [r4], r5⟩
  · have h0 : Rt C τ := fun N M hr => hR N M hr
    have := h0.app (ws := [(M, .sem (mapF F gk gm))]) fun x hx => by simp only [List.mem_singleton] at hx; subst hx; rfl
    exact fun N M hr => this N M hr
end
end Go.Proofs.Ytmjijggkdbiijaa
