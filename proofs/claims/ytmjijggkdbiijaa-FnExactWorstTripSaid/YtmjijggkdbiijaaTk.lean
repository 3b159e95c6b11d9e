/- Slabs beside each other have cells with a side in common. No statement is proved here. -/
import Derived.Test.YtmjijggkdbiijaaTa
namespace Go.Proofs.Ytmjijggkdbiijaa
open Go.RowKit
set_option linter.unusedVariables false
set_option linter.unusedSimpArgs false
set_option maxRecDepth 100000
set_option maxHeartbeats 4000000
theorem idxP_at {α : Type} {p : α → Bool} {d : α} : ∀ {l : List α}, 0 ≤ idxP p l → idxP p l < l.length ∧ p (l.getD (idxP p l).toNat d) = true
  | [], h => by simp [idxP] at h
  | b :: l, h => by
    by_cases hb : p b = true
    · have e : idxP p (b :: l) = 0 := by simp [idxP, hb]
      rw [e]
      refine ⟨by simp only [List.length_cons]; omega, by simpa using hb⟩
    · have hb' : p b = false := by simpa using hb
      rw [idxP_no hb'] at h ⊢
      by_cases h2 : idxP p l < 0
      · rw [if_pos h2] at h; omega
      · rw [if_neg h2] at h ⊢
        obtain ⟨r1, r2⟩ := idxP_at (p := p) (d := d) (l := l) (by omega)
        refine ⟨by simp only [List.length_cons]; omega, ?_⟩
        rw [show (idxP p l + 1).toNat = (idxP p l).toNat + 1 by omega]
        simpa using r2
theorem cov_apart {q : Sq} (k : OkQ q) {i j : Nat} (hi : i < j) (hj : j < q.2.2.length) {x y : Int} (h1 : covB x y (sAt q.2.2 i) = true) (h2 : covB x y (sAt q.2.2 j) = true) : False := by
  have hm : sAt q.2.2 i ∈ q.2.2.take j := by
    have : sAt q.2.2 i = (q.2.2.take j)[i]'(by rw [List.length_take]; omega) := by simp [List.getD_eq_getElem?_getD, show i < q.2.2.length by omega]
    rw [this]; exact List.getElem_mem _
  have := List.any_eq_false.1 (k.sl j hj).apart _ hm
  exact this ((meets_iff (k.sl j hj).inn (k.sl i (by omega)).inn).2 ⟨x, y, h2, h1⟩)
theorem cov_same {q : Sq} (k : OkQ q) {i j : Nat} (hi : i < q.2.2.length) (hj : j < q.2.2.length) {x y : Int} (h1 : covB x y (sAt q.2.2 i) = true) (h2 : covB x y (sAt q.2.2 j) = true) : i = j := by
  rcases Nat.lt_trichotomy i j with h | h | h
  · exact (cov_apart k h hj h1 h2).elim
  · exact h
  · exact (cov_apart k h hi h2 h1).elim
theorem cov_at {q : Sq} (k : OkQ q) {i : Nat} (hi : i < q.2.2.length) {x y : Int} : covI q.2.2 x y = (i : Int) + 1 ↔ covB x y (sAt q.2.2 i) = true := by
  unfold covI
  constructor
  · intro h
    have := (idxP_at (p := covB x y) (d := ((0, 0, 0, 0) : Sl)) (l := q.2.2) (by omega)).2
    rwa [show (idxP (covB x y) q.2.2).toNat = i by omega] at this
  · intro h
    have hm : sAt q.2.2 i ∈ q.2.2 := by
      have : sAt q.2.2 i = q.2.2[i] := by simp [List.getD_eq_getElem?_getD, hi]
      rw [this]; exact List.getElem_mem _
    have h0 : covI q.2.2 x y ≠ 0 := covI_iff.2 (List.any_eq_true.2 ⟨_, hm, h⟩)
    have hn := cov_nn q.2.2 x y
    unfold covI at h0 hn
    obtain ⟨r1, r2⟩ := idxP_at (p := covB x y) (d := ((0, 0, 0, 0) : Sl)) (l := q.2.2) (by omega)
    have := cov_same k hi (by omega) h r2
    omega
/-- The grid's number at a place. -/
abbrev gqq (q : Sq) (x y : Int) : Int := gget (layV q).1 x y
/-- Two cells of the grid that have a side in common: one of slab i, the other with a number. -/
def con (q : Sq) (i x y m : Int) : Prop :=
  ((0 < x ∧ gqq q x y = i + 1) ∧ m = gqq q (x - 1) y) ∨ ((0 < x ∧ gqq q (x - 1) y = i + 1) ∧ m = gqq q x y) ∨ ((0 < y ∧ gqq q x y = i + 1) ∧ m = gqq q x (y - 1)) ∨ ((0 < y ∧ gqq q x (y - 1) = i + 1) ∧ m = gqq q x y)
theorem grid_at {q : Sq} (k : OkQ q) {i : Nat} (hi : i < q.2.2.length) {x y : Int} (hx : 0 ≤ x) (hy : 0 ≤ y) : gqq q x y = (i : Int) + 1 ↔ covB x y (sAt q.2.2 i) = true := by
  rw [show gqq q x y = covI q.2.2 x y from (layV_is q).2 k x y hx hy]
  exact cov_at k hi
theorem meetsB_iff (s t : Sl) : meetsB s t = true ↔ ((s.1 < t.1 + t.2.2.1 ∧ t.1 < s.1 + s.2.2.1) ∧ s.2.1 < t.2.1 + t.2.2.2) ∧ t.2.1 < s.2.1 + s.2.2.2 := by
  simp only [meetsB, Bool.and_eq_true, decide_eq_true_eq]
theorem areB_self (a : Sl) : areB a a = false := by simp [areB, sameS]
theorem areB_adj {q : Sq} (k : OkQ q) {i j : Nat} (hi : i < q.2.2.length) (hj : j < q.2.2.length) (hne : i ≠ j) :
    areB (sAt q.2.2 i) (sAt q.2.2 j) = true ↔ ∃ x y : Int, (0 ≤ x ∧ x < q.1 ∧ 0 ≤ y ∧ y < q.2.1) ∧ con q i x y ((j : Int) + 1) := by
  have ba := slabIn_b (k.sl i hi).inn
  have bb := slabIn_b (k.sl j hj).inn
  have hno : ∀ x y, covB x y (sAt q.2.2 i) = true → covB x y (sAt q.2.2 j) = true → False := fun x y h1 h2 => hne (cov_same k hi hj h1 h2)
  have hmeet : ¬ (meetsB (sAt q.2.2 i) (sAt q.2.2 j) = true) := fun h => by
    obtain ⟨x, y, h1, h2⟩ := (meets_iff (k.sl i hi).inn (k.sl j hj).inn).1 h
    exact hno x y h1 h2
  have hi' : ∀ {x y : Int}, 0 ≤ x → 0 ≤ y → (gqq q x y = (i : Int) + 1 ↔ covB x y (sAt q.2.2 i) = true) := fun hx hy => grid_at k hi hx hy
  have hj' : ∀ {x y : Int}, 0 ≤ x → 0 ≤ y → (gqq q x y = (j : Int) + 1 ↔ covB x y (sAt q.2.2 j) = true) := fun hx hy => grid_at k hj hx hy
  generalize sAt q.2.2 i = a at *
  generalize sAt q.2.2 j = b at *
  have hs : sameS a b = false := by
    cases h : sameS a b with
    | false => rfl
    | true =>
      simp only [sameS, Bool.and_eq_true, decide_eq_true_eq] at h
      exact (hno a.1 a.2.1 (covB_iff.2 (by omega)) (covB_iff.2 (by omega))).elim
  have e : areB a b = true ↔ (meetsB (wider a) b = true ∨ meetsB (higher a) b = true) := by simp [areB, hs]
  rw [e]
  simp only [meetsB_iff, wider, higher] at hmeet ⊢
  clear hs e hno
  constructor
  · rintro (h | h)
    · by_cases c : b.1 + b.2.2.1 = a.1
      · refine ⟨a.1, max a.2.1 b.2.1, by omega, .inl ⟨⟨by omega, (hi' (by omega) (by omega)).2 (covB_iff.2 (by omega))⟩, ((hj' (by omega) (by omega)).2 (covB_iff.2 (by omega))).symm⟩⟩
      · refine ⟨b.1, max a.2.1 b.2.1, by omega, .inr (.inl ⟨⟨by omega, (hi' (by omega) (by omega)).2 (covB_iff.2 (by omega))⟩, ((hj' (by omega) (by omega)).2 (covB_iff.2 (by omega))).symm⟩)⟩
    · by_cases c : b.2.1 + b.2.2.2 = a.2.1
      · refine ⟨max a.1 b.1, a.2.1, by omega, .inr (.inr (.inl ⟨⟨by omega, (hi' (by omega) (by omega)).2 (covB_iff.2 (by omega))⟩, ((hj' (by omega) (by omega)).2 (covB_iff.2 (by omega))).symm⟩))⟩
      · refine ⟨max a.1 b.1, b.2.1, by omega, .inr (.inr (.inr ⟨⟨by omega, (hi' (by omega) (by omega)).2 (covB_iff.2 (by omega))⟩, ((hj' (by omega) (by omega)).2 (covB_iff.2 (by omega))).symm⟩))⟩
  · rintro ⟨x, y, hb, h | h | h | h⟩ <;> obtain ⟨⟨h0, h1⟩, h2⟩ := h <;> have h1 := covB_iff.1 ((hi' (by omega) (by omega)).1 h1) <;> have h2 := covB_iff.1 ((hj' (by omega) (by omega)).1 h2.symm) <;> omega
structure InP (n : Nat) (l : List Bool) (P : Int → Prop) : Prop where
  len : l.length = n + 1
  iff : ∀ m : Nat, m ≤ n → (l.getD m false = true ↔ P m)
def upTo (q : Sq) (i y x m : Int) : Prop := ∃ x' y' : Int, (0 ≤ x' ∧ x' < q.1 ∧ 0 ≤ y') ∧ (y' < y ∨ (y' = y ∧ x' < x)) ∧ con q i x' y' m
def besI (l : List Bool) (i : Int) (n : Nat) : List Int := ((List.range n).filter fun k => l.getD (k + 1) false && !decide ((k : Int) = i)).map fun (k : Nat) => (k : Int)
theorem besI_succ (l : List Bool) (i : Int) (n : Nat) : besI l i (n + 1) = besI l i n ++ (if l.getD (n + 1) false = true ∧ (n : Int) ≠ i then [(n : Int)] else []) := by
  unfold besI
  rw [List.range_succ, List.filter_append, List.map_append]
  congr 1
  by_cases h : l.getD (n + 1) false = true <;> by_cases h2 : (n : Int) = i <;> simp only [List.filter_cons, List.filter_nil, h, h2, decide_true, decide_false, Bool.not_true, Bool.not_false, Bool.and_true, Bool.and_false, Bool.false_and, Bool.true_and, if_true, if_false, ne_eq, not_true, not_false_iff, and_true, and_false, true_and, false_and, Bool.false_eq_true, List.map_cons, List.map_nil]
theorem besI_len (l : List Bool) (i : Int) (n : Nat) : (besI l i n).length ≤ n := by
  unfold besI
  rw [List.length_map]
  exact Nat.le_trans (List.length_filter_le _ _) (by simp)
theorem besI_is {q : Sq} (k : OkQ q) {i : Nat} (hi : i < q.2.2.length) {l : List Bool} (h : InP q.2.2.length l (upTo q i q.2.1 0)) : besI l i q.2.2.length = besL q i q.2.2.length := by
  unfold besI besL
  congr 1
  refine List.filter_congr fun j hj => ?_
  have hj := List.mem_range.1 hj
  by_cases e : i = j
  · subst e
    rw [areB_self]; simp
  · rw [Bool.eq_iff_iff, areB_adj k hi hj e]
    have h2 := h.iff (j + 1) (by omega)
    simp only [Bool.and_eq_true, h2]
    simp only [Bool.not_eq_true', decide_eq_false_iff_not]
    constructor
    · rintro ⟨⟨x, y, h3, h4, h5⟩, _⟩
      exact ⟨x, y, by omega, by simpa using h5⟩
    · rintro ⟨x, y, h3, h5⟩
      exact ⟨⟨x, y, by omega, by omega, by simpa using h5⟩, by omega⟩
def setIf (c : Prop) [Decidable c] (l : List Bool) (v : Int) : List Bool := if c then l.set v.toNat true else l
theorem setIf_in {n : Nat} {l : List Bool} {P : Int → Prop} {c : Prop} [Decidable c] {v : Int} (hv : c → 0 ≤ v ∧ v ≤ n) (h : InP n l P) : InP n (setIf c l v) (fun m => P m ∨ (c ∧ m = v)) := by
  unfold setIf
  by_cases hc : c
  · rw [if_pos hc]
    have hv := hv hc
    refine ⟨by simp [h.len], fun m hm => ?_⟩
    rw [List.getD_eq_getElem?_getD, List.getElem?_set]
    have hl := h.len
    by_cases e : v.toNat = m
    · subst e
      simp only [if_true]
      rw [if_pos (by omega)]
      simp [hc]; right; omega
    · rw [if_neg e, ← List.getD_eq_getElem?_getD, h.iff m hm]
      have : ¬ ((m : Int) = v) := by omega
      simp [this]
  · rw [if_neg hc]
    exact ⟨h.len, fun m hm => by rw [h.iff m hm]; simp [hc]⟩
theorem InP.to {n : Nat} {l : List Bool} {P P' : Int → Prop} (h : InP n l P) (e : ∀ m, P m ↔ P' m) : InP n l P' := ⟨h.len, fun m hm => by rw [h.iff m hm, e]⟩
theorem cov_le {q : Sq} (x y : Int) : covI q.2.2 x y ≤ q.2.2.length := by
  unfold covI
  by_cases h : 0 ≤ idxP (covB x y) q.2.2
  · have := (idxP_at (p := covB x y) (d := ((0, 0, 0, 0) : Sl)) (l := q.2.2) h).1; omega
  · omega
theorem grid_b {q : Sq} (k : OkQ q) {x y : Int} (hx : 0 ≤ x) (hy : 0 ≤ y) : 0 ≤ gqq q x y ∧ gqq q x y ≤ q.2.2.length := by
  rw [show gqq q x y = covI q.2.2 x y from (layV_is q).2 k x y hx hy]
  exact ⟨cov_nn _ _ _, cov_le _ _⟩
/-- One cell more. -/
abbrev stepL (q : Sq) (i x y : Int) (l : List Bool) : List Bool :=
  setIf (0 < y ∧ gqq q x (y - 1) = i + 1) (setIf (0 < y ∧ gqq q x y = i + 1) (setIf (0 < x ∧ gqq q (x - 1) y = i + 1) (setIf (0 < x ∧ gqq q x y = i + 1) l (gqq q (x - 1) y)) (gqq q x y)) (gqq q x (y - 1))) (gqq q x y)
theorem step_in {q : Sq} (k : OkQ q) {i x y : Int} {l : List Bool} (hx : 0 ≤ x ∧ x < q.1) (hy : 0 ≤ y) (h : InP q.2.2.length l (upTo q i y x)) : InP q.2.2.length (stepL q i x y l) (upTo q i y (x + 1)) := by
  have b0 := grid_b k hx.1 hy
  have s1 := setIf_in (c := 0 < x ∧ gqq q x y = i + 1) (fun c => grid_b k (x := x - 1) (by omega) hy) h
  have s2 := setIf_in (c := 0 < x ∧ gqq q (x - 1) y = i + 1) (fun _ => b0) s1
  have s3 := setIf_in (c := 0 < y ∧ gqq q x y = i + 1) (fun c => grid_b k (y := y - 1) hx.1 (by omega)) s2
  have s4 := setIf_in (c := 0 < y ∧ gqq q x (y - 1) = i + 1) (fun _ => b0) s3
  refine s4.to fun m => ?_
  constructor
  · rintro ((((⟨x', y', h1, h2, h3⟩ | h3) | h3) | h3) | h3)
    · exact ⟨x', y', h1, by omega, h3⟩
    · exact ⟨x, y, by omega, by omega, .inl h3⟩
    · exact ⟨x, y, by omega, by omega, .inr (.inl h3)⟩
    · exact ⟨x, y, by omega, by omega, .inr (.inr (.inl h3))⟩
    · exact ⟨x, y, by omega, by omega, .inr (.inr (.inr h3))⟩
  · rintro ⟨x', y', h1, h2, h3⟩
    by_cases e : x' = x ∧ y' = y
    · obtain ⟨rfl, rfl⟩ := e
      rcases h3 with h3 | h3 | h3 | h3
      · exact .inl (.inl (.inl (.inr h3)))
      · exact .inl (.inl (.inr h3))
      · exact .inl (.inr h3)
      · exact .inr h3
    · exact .inl (.inl (.inl (.inl ⟨x', y', h1, by omega, h3⟩)))
theorem row_in {q : Sq} {i x y : Int} {l : List Bool} (hx : q.1 ≤ x) (h : InP q.2.2.length l (upTo q i y x)) : InP q.2.2.length l (upTo q i (y + 1) 0) := by
  refine h.to fun m => ⟨?_, ?_⟩
  · rintro ⟨x', y', h1, h2, h3⟩; exact ⟨x', y', h1, by omega, h3⟩
  · rintro ⟨x', y', h1, h2, h3⟩; exact ⟨x', y', h1, by omega, h3⟩
theorem none_in (q : Sq) (i : Int) : InP q.2.2.length (List.replicate (q.2.2.length + 1) false) (upTo q i 0 0) := by
  refine ⟨by simp, fun m hm => ?_⟩
  have : (List.replicate (q.2.2.length + 1) false).getD m false = false := by (simp only [List.getD_eq_getElem?_getD, List.getElem?_replicate]; split <;> rfl)
  rw [this]
  refine ⟨fun h => by simp at h, fun ⟨x', y', h1, h2, h3⟩ => by omega⟩
end Go.Proofs.Ytmjijggkdbiijaa
