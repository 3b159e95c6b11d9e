/- Lists that have each number once, sorted and not. No statement is proved here. -/
import Derived.Test.YtmjijggkdbiijaaKn
namespace Go.Proofs.Ytmjijggkdbiijaa
open Go.RowKit
set_option linter.unusedVariables false
set_option linter.unusedSimpArgs false
def eachB (l : List Int) : Bool := decide ((Lib.compact (sortI l)).length = l.length)
theorem sortI_pair (l : List Int) : (sortI l).Pairwise (fun a b => a ≤ b) := by
  have := List.pairwise_mergeSort (le := fun x y : Int => decide (x ≤ y)) (fun a b c h1 h2 => by simp at *; omega) (fun a b => by simp; omega) l
  exact this.imp fun h => by simpa using h
theorem adj_lt {s : List Int} (hs : s.Pairwise (fun a b => a ≤ b)) (hk : ∀ j, j < s.length → Lib.keeps s.toArray j = true) : ∀ (d i : Nat) (h1 : i + d + 1 < s.length), s[i] < s[i + d + 1] := by
  have step : ∀ i (h : i + 1 < s.length), s[i] < s[i + 1] := fun i h => by
    have h1 := List.pairwise_iff_getElem.1 hs i (i + 1) (by omega) h (by omega)
    have h2 := hk (i + 1) h
    unfold Lib.keeps at h2
    simp only [Nat.add_eq_zero_iff, Nat.one_ne_zero, and_false, false_or, Nat.add_sub_cancel, decide_eq_true_eq] at h2
    rw [getElem!_pos s.toArray (i + 1) (by simpa using h), getElem!_pos s.toArray i (by simp; omega)] at h2
    simp only [List.getElem_toArray] at h2
    omega
  intro d
  induction d with
  | zero => intro i h; exact step i h
  | succ d ih =>
    intro i h
    have h1 := ih i (by omega)
    have h2 := step (i + d + 1) (by omega)
    exact Int.lt_trans h1 h2
theorem each_iff {l : List Int} : eachB l = true ↔ l.Nodup := by
  have hp := sortI_perm l
  have hl := sortI_len l
  have hs := sortI_pair l
  unfold eachB Lib.compact Lib.compactUpTo
  rw [decide_eq_true_eq, List.length_map, ← hl, ← hp.nodup_iff]
  generalize sortI l = s at *
  have e1 : ((List.range s.length).filter (Lib.keeps s.toArray)).length = s.length ↔ ∀ j, j < s.length → Lib.keeps s.toArray j = true := by
    have := List.length_filter_eq_length_iff (p := Lib.keeps s.toArray) (l := List.range s.length)
    rw [List.length_range] at this
    rw [this]
    exact ⟨fun h j hj => h j (List.mem_range.2 hj), fun h j hj => h j (List.mem_range.1 hj)⟩
  rw [e1]
  unfold List.Nodup
  rw [List.pairwise_iff_getElem]
  constructor
  · intro hk i j hi hj hij
    have := adj_lt hs hk (j - i - 1) i (by omega)
    have e : s[i + (j - i - 1) + 1]'(by omega) = s[j] := by congr 1; omega
    rw [e] at this; omega
  · intro hn j hj
    unfold Lib.keeps
    rw [decide_eq_true_eq]
    by_cases h0 : j = 0
    · exact .inl h0
    · refine .inr ?_
      rw [getElem!_pos s.toArray j (by simpa using hj), getElem!_pos s.toArray (j - 1) (by simp; omega)]
      simp only [List.getElem_toArray]
      exact (hn (j - 1) j (by omega) hj (by omega)).symm
theorem sort_eq_iff {x y : List Int} : sortI x = sortI y ↔ x.Perm y := by
  constructor
  · intro h
    exact (sortI_perm x).symm.trans ((h ▸ List.Perm.refl _ : (sortI x).Perm (sortI y)).trans (sortI_perm y))
  · intro h
    exact List.Perm.eq_of_pairwise (le := fun a b => a ≤ b) (fun a b _ _ h1 h2 => by omega) (sortI_pair x) (sortI_pair y) (((sortI_perm x).trans h).trans (sortI_perm y).symm)
theorem subset_perm : ∀ {l m : List Int}, l.Nodup → l.length = m.length → (∀ a ∈ l, a ∈ m) → l.Perm m
  | [], m, _, hl, _ => by
    obtain rfl : m = [] := List.eq_nil_of_length_eq_zero hl.symm
    exact List.Perm.refl _
  | a :: l, m, hn, hl, hm => by
    have ha : a ∈ m := hm a (List.mem_cons_self ..)
    rw [List.nodup_cons] at hn
    have hlen := List.length_erase_of_mem ha
    rw [List.length_cons] at hl
    have ih := subset_perm (l := l) (m := m.erase a) hn.2 (by omega) fun b hb => by
      have hne : b ≠ a := fun e => hn.1 (e ▸ hb)
      exact (List.mem_erase_of_ne hne).2 (hm b (List.mem_cons_of_mem _ hb))
    exact (ih.cons a).trans (List.perm_cons_erase ha).symm
theorem both_iff {x y : List Int} : (x.Nodup ∧ sortI x = sortI y) ↔ x.Nodup ∧ y.Nodup ∧ x.length = y.length ∧ ∀ a ∈ x, a ∈ y := by
  rw [sort_eq_iff]
  constructor
  · rintro ⟨h1, h2⟩
    exact ⟨h1, h2.nodup_iff.1 h1, h2.length_eq, fun a ha => h2.mem_iff.1 ha⟩
  · rintro ⟨h1, _, h3, h4⟩
    exact ⟨h1, subset_perm h1 h3 h4⟩
end Go.Proofs.Ytmjijggkdbiijaa
