/- Squares: what laying gives. No statement is proved here. -/
import Derived.Test.YtmjijggkdbiijaaSd
namespace Go.Proofs.Ytmjijggkdbiijaa
open Go.RowKit
set_option linter.unusedVariables false
set_option linter.unusedSimpArgs false
structure Shape (g : Gr) : Prop where
  len : g.length = 12
  row : ∀ y : Nat, y < 12 → (g.getD y (List.replicate 12 0)).length = 12
theorem getD_set' {α : Type} {l : List α} {i j : Nat} {a d : α} (hi : i < l.length) : (l.set i a).getD j d = if i = j then a else l.getD j d := by
  simp only [List.getD_eq_getElem?_getD, List.getElem?_set]
  by_cases h : i = j
  · subst h; simp [hi]
  · simp [h]
theorem shape0 : Shape grid0 := by
  refine ⟨rfl, fun y hy => ?_⟩
  show ((List.replicate 12 (List.replicate 12 (0 : Int))).getD y (List.replicate 12 0)).length = 12
  rw [List.getD_eq_getElem?_getD, List.getElem?_replicate, if_pos hy]; rfl
theorem gget0 (x y : Int) : gget grid0 x y = 0 := by
  unfold gget grid0
  simp only [List.getD_eq_getElem?_getD, List.getElem?_replicate]
  split
  · simp only [Option.getD_some, List.getElem?_replicate]; split <;> simp
  · simp only [Option.getD_none, List.getElem?_replicate]; split <;> simp
theorem Shape.set {g : Gr} (h : Shape g) {x y v : Int} (hy : 0 ≤ y ∧ y < 12) : Shape (gset g x y v) := by
  refine ⟨by simp [gset, h.len], fun y' hy' => ?_⟩
  unfold gset
  rw [getD_set' (by rw [h.len]; omega)]
  split
  · rw [List.length_set]; exact h.row _ (by omega)
  · exact h.row _ hy'
theorem gget_set {g : Gr} (h : Shape g) {x y v x' y' : Int} (hx : 0 ≤ x ∧ x < 12) (hy : 0 ≤ y ∧ y < 12) (hx' : 0 ≤ x') (hy' : 0 ≤ y') : gget (gset g x y v) x' y' = if x' = x ∧ y' = y then v else gget g x' y' := by
  unfold gget gset
  rw [getD_set' (by rw [h.len]; omega)]
  by_cases e : y' = y
  · subst e
    rw [if_pos rfl, getD_set' (by rw [h.row _ (by omega)]; omega)]
    by_cases e2 : x' = x
    · subst e2; simp
    · rw [if_neg (by omega), if_neg (by omega)]
  · rw [if_neg (by omega), if_neg (by omega)]
/-- What is laid: where p holds there is v, else what was. -/
structure Laid (g g' : Gr) (v : Int) (p : Int → Int → Prop) : Prop where
  shape : Shape g'
  yes : ∀ x y, 0 ≤ x → 0 ≤ y → p x y → gget g' x y = v
  no : ∀ x y, 0 ≤ x → 0 ≤ y → ¬ p x y → gget g' x y = gget g x y
theorem layRow_is {v y : Int} (hy : 0 ≤ y ∧ y < 12) : ∀ (n : Nat) (x : Int) (g : Gr), Shape g → 0 ≤ x → x + n ≤ 12 →
    ((layRow v y n x g).2 = true ↔ ∀ x', x ≤ x' → x' < x + n → gget g x' y = 0) ∧ ((layRow v y n x g).2 = true → Laid g (layRow v y n x g).1 v fun x' y' => y' = y ∧ x ≤ x' ∧ x' < x + n)
  | 0, x, g, h, hx, hn => by
    refine ⟨⟨fun _ x' h1 h2 => absurd h2 (by omega), fun _ => rfl⟩, fun _ => ⟨h, fun x' y' _ _ q => absurd q.2 (by omega), fun _ _ _ _ _ => rfl⟩⟩
  | n + 1, x, g, h, hx, hn => by
    by_cases h0 : gget g x y = 0
    · have e : layRow v y (n + 1) x g = layRow v y n (x + 1) (gset g x y v) := layRow_go rfl h0
      obtain ⟨i1, i2⟩ := layRow_is (v := v) hy n (x + 1) (gset g x y v) (h.set hy) (by omega) (by omega)
      rw [e]
      have hs : ∀ x', 0 ≤ x' → ∀ y', 0 ≤ y' → gget (gset g x y v) x' y' = if x' = x ∧ y' = y then v else gget g x' y' := fun x' q y' q2 => gget_set h ⟨hx, by omega⟩ hy q q2
      refine ⟨⟨fun q x' h1 h2 => ?_, fun q => i1.2 fun x' h1 h2 => ?_⟩, fun q => ?_⟩
      · by_cases e2 : x' = x
        · rw [e2]; exact h0
        · have := i1.1 q x' (by omega) (by omega)
          rwa [hs x' (by omega) y hy.1, if_neg (by omega)] at this
      · rw [hs x' (by omega) y hy.1, if_neg (by omega)]
        exact q x' (by omega) (by omega)
      · have L := i2 q
        refine ⟨L.shape, fun x' y' a1 a2 r => ?_, fun x' y' a1 a2 r => ?_⟩
        · by_cases e2 : x' = x
          · rw [L.no x' y' a1 a2 (by omega), hs x' a1 y' a2, if_pos ⟨e2, r.1⟩]
          · exact L.yes x' y' a1 a2 (by omega)
        · rw [L.no x' y' a1 a2 (by omega), hs x' a1 y' a2, if_neg (by omega)]
    · have e : layRow v y (n + 1) x g = (g, false) := layRow_stop rfl h0
      rw [e]
      exact ⟨⟨fun q => by simp at q, fun q => absurd (q x (by omega) (by omega)) h0⟩, fun q => by simp at q⟩
theorem layBox_is {v x w : Int} (hx : 0 ≤ x) (hw : 0 ≤ w) (hxw : x + w ≤ 12) : ∀ (n : Nat) (y : Int) (g : Gr), Shape g → 0 ≤ y → y + n ≤ 12 →
    ((layBox v x w n y g).2 = true ↔ ∀ x' y', x ≤ x' → x' < x + w → y ≤ y' → y' < y + n → gget g x' y' = 0) ∧ ((layBox v x w n y g).2 = true → Laid g (layBox v x w n y g).1 v fun x' y' => (x ≤ x' ∧ x' < x + w) ∧ y ≤ y' ∧ y' < y + n)
  | 0, y, g, h, hy, hn => by
    refine ⟨⟨fun _ x' y' _ _ h1 h2 => absurd h2 (by omega), fun _ => rfl⟩, fun _ => ⟨h, fun x' y' _ _ q => absurd q.2 (by omega), fun _ _ _ _ _ => rfl⟩⟩
  | n + 1, y, g, h, hy, hn => by
    have ew : x + (w.toNat : Int) = x + w := by omega
    obtain ⟨r1, r2⟩ := layRow_is (v := v) (y := y) ⟨hy, by omega⟩ w.toNat x g h hx (by omega)
    rw [ew] at r1 r2
    cases hr : (layRow v y w.toNat x g).2 with
    | true =>
      have L := r2 hr
      have hz := r1.1 hr
      have e : layBox v x w (n + 1) y g = layBox v x w n (y + 1) (layRow v y w.toNat x g).1 := by simp only [layBox, hr, if_true]
      obtain ⟨i1, i2⟩ := layBox_is (v := v) hx hw hxw n (y + 1) (layRow v y w.toNat x g).1 L.shape (by omega) (by omega)
      rw [e]
      refine ⟨⟨fun q x' y' a1 a2 a3 a4 => ?_, fun q => i1.2 fun x' y' a1 a2 a3 a4 => ?_⟩, fun q => ?_⟩
      · by_cases e2 : y' = y
        · rw [e2]; exact hz x' a1 a2
        · have := i1.1 q x' y' a1 a2 (by omega) (by omega)
          rwa [L.no x' y' (by omega) (by omega) (by omega)] at this
      · rw [L.no x' y' (by omega) (by omega) (by omega)]
        exact q x' y' a1 a2 (by omega) (by omega)
      · have M := i2 q
        refine ⟨M.shape, fun x' y' a1 a2 r => ?_, fun x' y' a1 a2 r => ?_⟩
        · by_cases e2 : y' = y
          · rw [M.no x' y' a1 a2 (by omega), L.yes x' y' a1 a2 ⟨e2, r.1⟩]
          · exact M.yes x' y' a1 a2 ⟨r.1, by omega, by omega⟩
        · rw [M.no x' y' a1 a2 (by omega), L.no x' y' a1 a2 (by omega)]
    | false =>
      have e : layBox v x w (n + 1) y g = ((layRow v y w.toNat x g).1, false) := by simp only [layBox, hr]; simp
      rw [e]
      refine ⟨⟨fun q => by simp at q, fun q => ?_⟩, fun q => by simp at q⟩
      have := r1.2 fun x' a1 a2 => q x' y a1 a2 (by omega) (by omega)
      rw [hr] at this; cases this
def covB (x y : Int) (s : Sl) : Bool := decide (s.1 ≤ x) && decide (x < s.1 + s.2.2.1) && decide (s.2.1 ≤ y) && decide (y < s.2.1 + s.2.2.2)
theorem covB_iff {x y : Int} {s : Sl} : covB x y s = true ↔ (s.1 ≤ x ∧ x < s.1 + s.2.2.1) ∧ s.2.1 ≤ y ∧ y < s.2.1 + s.2.2.2 := by
  simp only [covB, Bool.and_eq_true, decide_eq_true_eq]; omega
/-- The slab that covers a place, plus 1. -/
def covI (l : List Sl) (x y : Int) : Int := idxP (covB x y) l + 1
theorem idxP_no {α : Type} {p : α → Bool} {b : α} {l : List α} (h : p b = false) : idxP p (b :: l) = if idxP p l < 0 then -1 else idxP p l + 1 := by simp [idxP, h]
theorem idxP_snoc {α : Type} {p : α → Bool} {a : α} : ∀ {l : List α}, idxP p (l ++ [a]) = if l.any p then idxP p l else if p a then (l.length : Int) else -1
  | [] => by simp [idxP]
  | b :: l => by
    have ih := idxP_snoc (p := p) (a := a) (l := l)
    have hi := idxP_iff (p := p) (l := l)
    by_cases h : p b = true
    · simp [idxP, h]
    · have h' : p b = false := by simpa using h
      have ea : (b :: l).any p = l.any p := by simp [h']
      show idxP p (b :: (l ++ [a])) = _
      rw [idxP_no h', idxP_no h', ih]
      by_cases c : l.any p = true
      · rw [if_pos c, if_pos (ea.trans c)]
      · rw [if_neg c, if_neg (fun r => c (ea.symm.trans r))]
        by_cases d : p a = true
        · rw [if_pos d, if_pos d, if_neg (by omega)]; simp
        · rw [if_neg d, if_neg d]; simp
theorem meets_iff {w h w' h' : Int} {s t : Sl} (hs : slabIn w h s = true) (ht : slabIn w' h' t = true) : meetsB s t = true ↔ ∃ x y, covB x y s = true ∧ covB x y t = true := by
  have b := slabIn_b hs
  have c := slabIn_b ht
  simp only [meetsB, Bool.and_eq_true, decide_eq_true_eq, covB_iff]
  constructor
  · rintro ⟨⟨⟨h1, h2⟩, h3⟩, h4⟩
    exact ⟨max s.1 t.1, max s.2.1 t.2.1, by omega, by omega⟩
  · rintro ⟨x, y, h1, h2⟩
    omega
structure LayOk (q : Sq) (i : Nat) : Prop where
  step : stepOk q i = true
  apart : (q.2.2.take i).any (meetsB (sAt q.2.2 i)) = false
theorem take_next' {α : Type} {l : List α} {i : Nat} {d : α} (h : i < l.length) : l.take (i + 1) = l.take i ++ [l.getD i d] := by
  rw [List.take_add_one, List.getElem?_eq_getElem h, List.getD_eq_getElem?_getD, List.getElem?_eq_getElem h]; rfl
theorem stepOk_in {q : Sq} {i : Nat} (h : stepOk q i = true) : slabIn q.1 q.2.1 (sAt q.2.2 i) = true := by
  simp only [stepOk, Bool.and_eq_true] at h; exact h.1
theorem take_mem {q : Sq} {i : Nat} {t : Sl} (h : ∀ j, j < i → LayOk q j) (hi : i ≤ q.2.2.length) (ht : t ∈ q.2.2.take i) : slabIn q.1 q.2.1 t = true := by
  obtain ⟨j, hj, rfl⟩ := List.getElem_of_mem ht
  simp only [List.length_take] at hj
  have := stepOk_in (h j (by omega)).step
  simp only [List.getElem_take]
  rwa [show sAt q.2.2 j = q.2.2[j]'(by omega) by simp [List.getD_eq_getElem?_getD, show j < q.2.2.length by omega]] at this
theorem layAll_is {q : Sq} (hw : q.1 ≤ 12) (hh : q.2.1 ≤ 12) : ∀ (n i : Nat) (g : Gr), i + n = q.2.2.length → Shape g → (∀ j, j < i → LayOk q j) → (∀ x y, 0 ≤ x → 0 ≤ y → gget g x y = covI (q.2.2.take i) x y) →
    ((layAll q n i g).2 = true ↔ ∀ j, i ≤ j → j < q.2.2.length → LayOk q j) ∧ ((layAll q n i g).2 = true → ∀ x y, 0 ≤ x → 0 ≤ y → gget (layAll q n i g).1 x y = covI q.2.2 x y)
  | 0, i, g, hn, h, hk, hg => by
    refine ⟨⟨fun _ j h1 h2 => by omega, fun _ => rfl⟩, fun _ x y a1 a2 => ?_⟩
    have := hg x y a1 a2
    rwa [List.take_of_length_le (by omega)] at this
  | n + 1, i, g, hn, h, hk, hg => by
    cases hst : stepOk q i with
    | false =>
      rw [layAll_bad rfl hst]
      exact ⟨⟨fun r => by simp at r, fun r => by have := (r i (Nat.le_refl _) (by omega)).step; rw [hst] at this; cases this⟩, fun r => by simp at r⟩
    | true =>
      have hin := stepOk_in hst
      have b := slabIn_b hin
      have eH : (sAt q.2.2 i).2.1 + (((sAt q.2.2 i).2.2.2.toNat : Nat) : Int) = (sAt q.2.2 i).2.1 + (sAt q.2.2 i).2.2.2 := by omega
      obtain ⟨r1, r2⟩ := layBox_is (v := (i : Int) + 1) (x := (sAt q.2.2 i).1) (w := (sAt q.2.2 i).2.2.1) (by omega) (by omega) (by omega) (sAt q.2.2 i).2.2.2.toNat (sAt q.2.2 i).2.1 g h (by omega) (by omega)
      rw [eH] at r1 r2
      have eS : layBox ((i : Int) + 1) (sAt q.2.2 i).1 (sAt q.2.2 i).2.2.1 (sAt q.2.2 i).2.2.2.toNat (sAt q.2.2 i).2.1 g = layS i (sAt q.2.2 i) g := rfl
      rw [eS] at r1 r2
      have hap : (layS i (sAt q.2.2 i) g).2 = true ↔ (q.2.2.take i).any (meetsB (sAt q.2.2 i)) = false := by
        rw [r1, List.any_eq_false]
        constructor
        · intro r t ht hm
          obtain ⟨x, y, c1, c2⟩ := (meets_iff hin (take_mem hk (by omega) ht)).1 hm
          have c1' := covB_iff.1 c1
          have z := r x y c1'.1.1 c1'.1.2 c1'.2.1 c1'.2.2
          rw [hg x y (by omega) (by omega)] at z
          have := (idxP_iff (p := covB x y) (l := q.2.2.take i)).1.2 (List.any_eq_true.2 ⟨t, ht, c2⟩)
          unfold covI at z; omega
        · intro r x y a1 a2 a3 a4
          rw [hg x y (by omega) (by omega)]
          have hn0 : ¬ 0 ≤ idxP (covB x y) (q.2.2.take i) := fun z => by
            obtain ⟨t, ht, c2⟩ := List.any_eq_true.1 (idxP_iff.1.1 z)
            exact r t ht ((meets_iff hin (take_mem hk (by omega) ht)).2 ⟨x, y, covB_iff.2 ⟨⟨a1, a2⟩, a3, a4⟩, c2⟩)
          have := (idxP_iff (p := covB x y) (l := q.2.2.take i)).2
          unfold covI; omega
      cases hl : (layS i (sAt q.2.2 i) g).2 with
      | false =>
        rw [layAll_stop rfl hst (g2 := (layS i (sAt q.2.2 i) g).1) (by rw [← hl])]
        refine ⟨⟨fun r => by simp at r, fun r => ?_⟩, fun r => by simp at r⟩
        have := hap.2 (r i (Nat.le_refl _) (by omega)).apart
        rw [hl] at this; cases this
      | true =>
        rw [layAll_go rfl hst (g2 := (layS i (sAt q.2.2 i) g).1) (by rw [← hl])]
        have L := r2 hl
        have hki : LayOk q i := ⟨hst, hap.1 hl⟩
        have hk' : ∀ j, j < i + 1 → LayOk q j := upto_step hk hki
        have hz := r1.1 hl
        have hg' : ∀ x y, 0 ≤ x → 0 ≤ y → gget (layS i (sAt q.2.2 i) g).1 x y = covI (q.2.2.take (i + 1)) x y := by
          intro x y a1 a2
          have hlen : ((q.2.2.take i).length : Int) = i := by rw [List.length_take]; omega
          rw [take_next' (d := (0, 0, 0, 0)) (by omega)]
          unfold covI
          rw [idxP_snoc]
          cases hc : covB x y (sAt q.2.2 i) with
          | true =>
            have c := covB_iff.1 hc
            have z := hz x y c.1.1 c.1.2 c.2.1 c.2.2
            rw [hg x y a1 a2] at z
            have hno : (q.2.2.take i).any (covB x y) = false := by
              cases hq : (q.2.2.take i).any (covB x y) with
              | false => rfl
              | true => have := (idxP_iff (p := covB x y) (l := q.2.2.take i)).1.2 hq; unfold covI at z; omega
            rw [L.yes x y a1 a2 c, hno]
            simp only [Bool.false_eq_true, if_false, hc, if_true, hlen]
          | false =>
            have c : ¬ (((sAt q.2.2 i).1 ≤ x ∧ x < (sAt q.2.2 i).1 + (sAt q.2.2 i).2.2.1) ∧ (sAt q.2.2 i).2.1 ≤ y ∧ y < (sAt q.2.2 i).2.1 + (sAt q.2.2 i).2.2.2) := fun r => by rw [covB_iff.2 r] at hc; cases hc
            rw [L.no x y a1 a2 c, hg x y a1 a2]
            unfold covI
            cases hq : (q.2.2.take i).any (covB x y) with
            | true => simp
            | false =>
              have i1 := (idxP_iff (p := covB x y) (l := q.2.2.take i))
              have : ¬ 0 ≤ idxP (covB x y) (q.2.2.take i) := fun r => by rw [i1.1.1 r] at hq; cases hq
              simp only [Bool.false_eq_true, if_false, hc]
              omega
        obtain ⟨i1, i2⟩ := layAll_is hw hh n (i + 1) (layS i (sAt q.2.2 i) g).1 (by omega) L.shape hk' hg'
        refine ⟨⟨fun r j h1 h2 => ?_, fun r => i1.2 fun j h1 h2 => r j (by omega) h2⟩, i2⟩
        rcases Nat.lt_or_ge j (i + 1) with q1 | q1
        · exact hk' j q1
        · exact i1.1 r j q1 h2
theorem ordS_iff {a b : Sl} : ordS a b ≤ 0 ↔ befS a b = true ∨ (a.2.1 = b.2.1 ∧ a.1 = b.1) := by
  unfold ordS firstNZ firstNZ firstNZ cmp8 befS
  simp only [Bool.or_eq_true, Bool.and_eq_true, decide_eq_true_eq]
  by_cases h1 : a.2.1 < b.2.1
  · simp [h1]
  · by_cases h2 : b.2.1 < a.2.1
    · simp [h1, h2]; omega
    · by_cases h3 : a.1 < b.1
      · simp [h1, h2, h3]; omega
      · by_cases h4 : b.1 < a.1
        · simp [h1, h2, h3, h4]; omega
        · simp [h1, h2, h3, h4]; omega
theorem lay_ok {q : Sq} (hi : ∀ j, j < q.2.2.length → LayOk q j) (i : Nat) (h : i < q.2.2.length) : SlOk q i := by
  refine ⟨stepOk_in (hi i h).step, (hi i h).apart, fun h0 => ordS_iff.2 (.inl ?_)⟩
  have := (hi i h).step
  simp only [stepOk, Bool.and_eq_true, Bool.or_eq_true, decide_eq_true_eq] at this
  rcases this.2 with q | q
  · omega
  · exact q
theorem ok_lay {q : Sq} (k : ∀ j, j < q.2.2.length → SlOk q j) (i : Nat) (h : i < q.2.2.length) : LayOk q i := by
  refine ⟨?_, (k i h).apart⟩
  simp only [stepOk, Bool.and_eq_true, Bool.or_eq_true, decide_eq_true_eq]
  refine ⟨(k i h).inn, ?_⟩
  rcases Nat.eq_zero_or_pos i with h0 | h0
  · exact .inl h0
  · right
    rcases ordS_iff.1 ((k i h).ord h0) with r | ⟨r1, r2⟩
    · exact r
    · exfalso
      have m : meetsB (sAt q.2.2 i) (sAt q.2.2 (i - 1)) = true := by
        have b := slabIn_b (k i h).inn
        have c := slabIn_b (k (i - 1) (by omega)).inn
        simp only [meetsB, Bool.and_eq_true, decide_eq_true_eq]
        omega
      have hm : sAt q.2.2 (i - 1) ∈ q.2.2.take i := by
        have : sAt q.2.2 (i - 1) = (q.2.2.take i)[i - 1]'(by rw [List.length_take]; omega) := by simp [List.getD_eq_getElem?_getD, show i - 1 < q.2.2.length by omega]
        rw [this]; exact List.getElem_mem _
      have := List.any_eq_false.1 (k i h).apart _ hm
      exact this m
theorem layV_is (q : Sq) : (layV q).2 = okQ q ∧ (OkQ q → ∀ x y, 0 ≤ x → 0 ≤ y → gget (layV q).1 x y = covI q.2.2 x y) := by
  by_cases h : (edgeB q.1 && edgeB q.2.1 && decide (q.2.2.length ≤ 60)) = true
  · have e : layV q = layAll q q.2.2.length 0 grid0 := by simp only [layV, h, if_true]
    simp only [Bool.and_eq_true, decide_eq_true_eq] at h
    have b1 := edge_b h.1.1
    have b2 := edge_b h.1.2
    obtain ⟨r1, r2⟩ := layAll_is (q := q) b1.2 b2.2 q.2.2.length 0 grid0 (by omega) shape0 (fun j hj => absurd hj (Nat.not_lt_zero _)) (fun x y _ _ => by rw [gget0]; simp [covI, idxP])
    rw [e]
    have hiff : (layAll q q.2.2.length 0 grid0).2 = true ↔ OkQ q := by
      rw [r1]
      exact ⟨fun r => ⟨h.1.1, h.1.2, h.2, lay_ok fun j hj => r j (Nat.zero_le _) hj⟩, fun k j _ hj => ok_lay k.sl j hj⟩
    refine ⟨?_, fun k => r2 (hiff.2 k)⟩
    rw [Bool.eq_iff_iff, hiff, okQ_iff]
  · have e : layV q = (grid0, false) := by simp only [layV, if_neg h]
    have : ¬ OkQ q := fun k => h (by simp [k.w, k.h, k.n])
    rw [e]
    exact ⟨okF this, fun k => absurd k this⟩
end Go.Proofs.Ytmjijggkdbiijaa
