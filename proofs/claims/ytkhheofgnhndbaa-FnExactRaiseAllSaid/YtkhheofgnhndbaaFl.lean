/- The points beside a point, by the walk of the library's DeleteFunc. No statement is proved here. -/
import Derived.Test.YtkhheofgnhndbaaFk
import Derived.Test.YtkhheofgnhndbaaA3
namespace Go.Proofs.Ytkhheofgnhndbaa
open Go.RowKit
set_option linter.unusedVariables false
set_option linter.unusedSimpArgs false
/-- A function that hands back a new row. -/
theorem ev_own {P : Program} {f : Nat} {args : List Arg} {te : Nat} {e : Ty} {xs : List e.T} (he : e.flat = true) (hent : ∀ vs w, (callFunc f vs).run P w = .ok (.enter f vs) w)
    (h : ∀ (w : World) (lab : Lab) (vs : List Value), (∀ g p, lab g = some p → g < w.heap.size) → vs.length = args.length → (∀ j a v, args[j]? = some a → vs[j]? = some v → ArgOk lab w j a v) →
      Calls P f vs.toArray w fun en w' => ∃ v flat, en = .returned v ∧ Below w.heap.size w w' ∧ xs.length ≤ 9223372036854775807 ∧ w'.ownsRow w.heap.size te e.sz v xs.length flat ∧ ∀ (S : Nat → Prop) j (h : j < xs.length), Imm w' S e xs[j] ((flat.drop (j * e.sz)).take e.sz)) :
    Ev P f args (compsOf [(true, .slice te e)] xs) := by
  refine ⟨hent, fun w lab vs hlt hlen hok => (h w lab vs hlt hlen hok).mono ?_⟩
  rintro en w' ⟨v, flat, rfl, hb, hl, hrow, hel⟩
  have hown : ∀ g, v.ownBlock = some g → w.heap.size ≤ g ∧ g < w'.heap.size := fun g hg => World.ownsRow.lt hrow g hg
  refine ⟨v, fun g => if g < w.heap.size then lab g else if v.ownBlock = some g then some (0, 0, 1) else none, rfl, ⟨hb.os, hb.tape, hb.output, hb.size, fun g hg => hb.block g hg.1⟩, fun g hg hn => by simp only; rw [if_pos hg]; exact hn, fun g k m hg => by simp only; rw [if_pos (hlt g _ hg)]; exact hg, fun g p hg => ?_, ?_⟩
  · simp only at hg
    split at hg
    · rename_i q; have := hb.size; omega
    · split at hg
      · rename_i q; exact (hown g q).2
      · cases hg
  · refine ⟨[v], rfl, ?_⟩
    simp only [Own]
    refine ⟨hl, v, flat, rfl, ⟨hrow.1, ?_⟩, fun g hg => ?_, fun j hj => hel _ j hj⟩
    · rcases hrow.2 with q | ⟨g, cap, cur, e1, e2, e3⟩
      · exact .inl q
      · exact .inr ⟨g, cap, cur, e1, Nat.zero_le _, e3⟩
    · unfold Lb
      have := (hown g hg).1
      simp only
      rw [if_neg (by omega), if_pos hg]
theorem imm_ints {w : World} {S : Nat → Prop} {k : IntKind} {n : Nat} {xs : List Int} {cs : List Value} (h : Imm w S (.arr n (.int k)) xs cs) : cs = xs.map (.int k) ∧ ∀ x ∈ xs, inR k x := by
  simp only [Imm, Ty.sz, Nat.mul_one] at h
  obtain ⟨h1, h2, h3⟩ := h
  refine ⟨?_, fun x hx => ?_⟩
  · apply List.ext_getElem (by simp [h1, h2])
    intro i i1 i2
    have := (h3 i (by omega)).1
    have e : ((cs.drop i).take 1) = [cs[i]] := by rw [List.drop_eq_getElem_cons i1]; rfl
    rw [e] at this
    simpa using this
  · obtain ⟨i, hi, rfl⟩ := List.getElem_of_mem hx
    exact (h3 i hi).2
theorem imm_rows {w : World} {S : Nat → Prop} {k : IntKind} {m : Nat} : ∀ {n : Nat} {xs : List (List Int)} {cs : List Value}, Imm w S (.arr n (.arr m (.int k))) xs cs → cs = (xs.flatten).map (.int k) ∧ ∀ x ∈ xs.flatten, inR k x := by
  intro n
  induction n with
  | zero =>
    intro xs cs h
    simp only [Imm, Ty.sz] at h
    obtain ⟨h1, h2, _⟩ := h
    have e1 : xs = [] := List.eq_nil_of_length_eq_zero h1
    have e2 : cs = [] := List.eq_nil_of_length_eq_zero (by omega)
    subst e1 e2; simp
  | succ n ih =>
    intro xs cs h
    have h' := h
    simp only [Imm, Ty.sz, Nat.mul_one] at h
    obtain ⟨h1, h2, h3⟩ := h
    cases xs with
    | nil => simp at h1
    | cons x xs =>
      have h0 : Imm w S (.arr m (.int k)) x (cs.take m) := by
        have := h3 0 (by simp)
        simp only [Imm, Ty.sz, Nat.mul_one]
        simpa using this
      have hr : Imm w S (.arr n (.arr m (.int k))) xs (cs.drop m) := by
        simp only [Imm, Ty.sz, Nat.mul_one]
        refine ⟨by simpa using h1, by rw [List.length_drop, h2, Nat.succ_mul]; omega, fun i hi => ?_⟩
        have := h3 (i + 1) (by simp; omega)
        rw [List.drop_drop]
        rw [Nat.succ_mul, Nat.add_comm (i * m) m] at this
        simpa using this
      obtain ⟨a1, a2⟩ := imm_ints h0
      obtain ⟨b1, b2⟩ := ih hr
      refine ⟨?_, fun y hy => ?_⟩
      · rw [← List.take_append_drop m cs, a1, b1]; simp
      · simp only [List.flatten_cons, List.mem_append] at hy
        rcases hy with hy | hy
        · exact a2 y hy
        · exact b2 y hy
theorem imm_ground {w : World} {S : Nat → Prop} {g : G} {cs : List Value} (h : Imm w S (groundT 40) g cs) : ∃ (hs : List Int) (gl : Value), cs.toArray = gc ⟨g.1, g.2.1, hs, g.2.2.2⟩ gl ∧ GdOk ⟨g.1, g.2.1, hs, g.2.2.2⟩ := by
  have hlen := h.len
  have hok := h.ok
  simp only [groundT, Imm, Ty.sz, Nat.reduceAdd, Nat.reduceMul, Nat.mul_one] at h hlen
  obtain ⟨⟨a1, a2⟩, ⟨b1, b2⟩, h3, h4⟩ := h
  obtain ⟨c1, c2⟩ := imm_rows (w := w) (S := S) (k := .i16) (m := 9) (n := 9) (xs := g.2.2.1) (cs := (List.take 81 (List.drop 1 (List.drop 1 cs)))) (by simp only [Imm, Ty.sz, Nat.reduceMul, Nat.mul_one]; exact h3)
  obtain ⟨_, a, c, flat, d1, _⟩ := h4
  refine ⟨g.2.2.1.flatten, .slice a g.2.2.2.length c, ?_, ⟨a2, b2, ?_, c2, fun p hp => ?_⟩⟩
  · unfold gc
    congr 1
    rw [← List.take_append_drop 1 cs, a1, ← List.take_append_drop 1 (List.drop 1 cs), b1, ← List.take_append_drop 81 (List.drop 1 (List.drop 1 cs)), c1, d1]
    rfl
  · have := congrArg List.length c1
    simp only [List.length_take, List.length_drop, List.length_map] at this
    simp only
    omega
  · have := hok.2.2.2.2 p hp
    exact ⟨this.1, this.2⟩
theorem imm_cell40 {w : World} {S : Nat → Prop} {p : Int × Int} {cs : List Value} (h : Imm w S cellT p cs) : cs = [.int .i8 p.1, .int .i8 p.2] := imm_cell h
theorem pc_part (xs : List (Int × Int)) (j : Nat) (hj : j < xs.length) : ((pc xs).drop (j * 2)).take 2 = [.int .i8 xs[j].1, .int .i8 xs[j].2] := by
  induction xs generalizing j with
  | nil => simp at hj
  | cons q xs ih =>
    cases j with
    | zero => simp [pc]
    | succ j =>
      have := ih j (by simpa using hj)
      have e : (j + 1) * 2 = j * 2 + 1 + 1 := by omega
      simp only [pc, List.flatMap_cons, List.cons_append, List.nil_append] at this ⊢
      rw [e]
      simpa using this
theorem bes_is (g : G) (hs : List Int) (p : Int × Int) : besOf ⟨g.1, g.2.1, hs, g.2.2.2⟩ p.1 p.2 = besC g p := by
  unfold besOf besC
  have e1 : fourOf p.1 p.2 = four p := rfl
  rw [e1]
  apply List.filter_congr
  intro q _
  unfold inG
  rw [Bool.eq_iff_iff, decide_eq_true_eq, isIn_iff]
  simp only [isPt]
  omega
theorem around_ev (g : G) (p : Int × Int) (h1 : 0 ≤ p.1 ∧ p.1 < 9) (h2 : 0 ≤ p.2 ∧ p.2 < 9) : Ev Try.prog 59 [aG g, aC p] (compsOf [oC] (besC g p)) := by
  refine ev_own rfl (by go_simp) fun w lab vs hlt hlen hok => ?_
  match vs, hlen with
  | [v0, v1], _ =>
    obtain ⟨cs, himm, rfl⟩ := hok 0 _ _ rfl rfl
    obtain ⟨ds, hcell, rfl⟩ := hok 1 _ _ rfl rfl
    obtain ⟨hs, gl, e1, hG⟩ := imm_ground himm
    have e2 := imm_cell40 hcell
    have a0 : D.mk (.dat (groundT 40) g) cs = .agg (gc ⟨g.1, g.2.1, hs, g.2.2.2⟩ gl) := by rw [← e1]; rfl
    have a1 : D.mk (.dat cellT p) ds = .agg #[.int .i8 p.1, .int .i8 p.2] := by rw [e2]; rfl
    rw [a0, a1]
    refine (around_is _ gl hG p.1 p.2 h1 h2 w).mono ?_
    rintro en w' ⟨v, rfl, hO, hb⟩
    rw [bes_is] at hO
    have hl : (besC g p).length ≤ 4 := List.length_filter_le _ _
    refine ⟨v, _, rfl, hb, by omega, hO, fun S j hj => ?_⟩
    rw [show Ty.sz cellT = 2 from rfl, pc_part _ _ hj]
    have hq := List.getElem_mem hj
    obtain ⟨q1, q2⟩ := isIn_iff.1 (besC_in hq)
    have hw : -128 ≤ g.1 ∧ g.1 ≤ 127 := hG.W
    have hh : -128 ≤ g.2.1 ∧ g.2.1 ≤ 127 := hG.H
    simp only [cellT, Imm, Ty.sz]
    refine ⟨⟨rfl, ?_⟩, rfl, ?_⟩
    · simp only [inR, loK, hiK]; omega
    · simp only [inR, loK, hiK]; omega
end Go.Proofs.Ytkhheofgnhndbaa
