/- Slabs in their order. No statement is proved here. -/
import Derived.Test.YtmjijggkdbiijaaKt
import Derived.Test.YtmjijggkdbiijaaTd
import Derived.Test.YtmjijggkdbiijaaKo
namespace Go.Proofs.Ytmjijggkdbiijaa
open Go.RowKit
set_option linter.unusedVariables false
set_option linter.unusedSimpArgs false
def ltS (a b : Sl) : Prop := a.2.1 < b.2.1 ∨ (a.2.1 = b.2.1 ∧ a.1 < b.1)
theorem ltS_trans {a b c : Sl} (h : ltS a b) (k : ltS b c) : ltS a c := by unfold ltS at *; omega
theorem ltS_of {a b : Sl} (ha : R8 a) (hb : R8 b) : (Go.Proofs.ltOf cfS a b = true) ↔ ltS a b := by
  rw [cfS_lt, w8_in ha.a, w8_in ha.b, w8_in hb.a, w8_in hb.b, decide_eq_true_eq]; rfl
theorem sorted_pair (xs : List Sl) : (sortSl xs).Pairwise (fun a b => Go.Proofs.ltOf cfS b a = false) := by
  have hl := sortSl_len xs
  have hs := (sortSl_is xs).2
  refine List.pairwise_iff_getElem.2 fun i j hi hj hij => ?_
  have h := hs i j (Nat.zero_le _) hij (by simpa [← hl] using hj)
  rw [getElem!_pos _ j (by simpa using hj), getElem!_pos _ i (by simpa using hi)] at h
  simpa using h
theorem pair_parts {xs : List Sl} (hp : xs.Pairwise ltS) {a b : Sl} (ha : a ∈ xs) (hb : b ∈ xs) (h1 : ¬ ltS a b) (h2 : ¬ ltS b a) : a = b := by
  obtain ⟨i, hi, rfl⟩ := List.getElem_of_mem ha
  obtain ⟨j, hj, rfl⟩ := List.getElem_of_mem hb
  rcases Nat.lt_trichotomy i j with q | q | q
  · exact absurd (List.pairwise_iff_getElem.1 hp i j hi hj q) h1
  · subst q; rfl
  · exact absurd (List.pairwise_iff_getElem.1 hp j i hj hi q) h2
/-- The one order of slabs with different first cells. -/
theorem sortSl_uniq {xs ys : List Sl} (hx : ∀ x ∈ ys, R8 x) (hq : ys.Pairwise ltS) (hp : xs.Perm ys) : sortSl xs = ys := by
  have hp' : (sortSl xs).Perm ys := (sortSl_perm xs).trans hp
  refine List.Perm.eq_of_pairwise (le := fun a b => Go.Proofs.ltOf cfS b a = false) (fun a b ha hb h1 h2 => ?_) (sorted_pair xs) (hq.imp_of_mem fun {a b} ha hb h => ?_) hp'
  · have ha' := hp'.mem_iff.1 ha
    exact pair_parts hq ha' hb (fun r => by rw [(ltS_of (hx a ha') (hx b hb)).2 r] at h2; cases h2) (fun r => by rw [(ltS_of (hx b hb) (hx a ha')).2 r] at h1; cases h1)
  · cases q : Go.Proofs.ltOf cfS b a with
    | false => rfl
    | true =>
      have := (ltS_of (hx b hb) (hx a ha)).1 q
      unfold ltS at h this; omega
theorem ok_r8 {q : Sq} (k : OkQ q) {s : Sl} (hs : s ∈ q.2.2) : R8 s := by
  have b := slabIn_b (ok_mem k hs)
  have e1 := edge_b k.w
  have e2 := edge_b k.h
  exact ⟨by simp only [inR, loK, hiK]; omega, by simp only [inR, loK, hiK]; omega, by simp only [inR, loK, hiK]; omega, by simp only [inR, loK, hiK]; omega⟩
theorem sAt_mem {l : List Sl} {i : Nat} (h : i < l.length) : sAt l i ∈ l := getD_in h
theorem ok_next {q : Sq} (k : OkQ q) {i : Nat} (hi : i + 1 < q.2.2.length) : ltS (sAt q.2.2 i) (sAt q.2.2 (i + 1)) := by
  have ho := (k.sl (i + 1) hi).ord (by omega)
  rw [Nat.add_sub_cancel] at ho
  have ha := (k.sl (i + 1) hi).apart
  have b1 := slabIn_b (k.sl i (by omega)).inn
  have b2 := slabIn_b (k.sl (i + 1) hi).inn
  have hm : ¬ meetsB (sAt q.2.2 (i + 1)) (sAt q.2.2 i) = true := by
    have hmem : sAt q.2.2 i ∈ q.2.2.take (i + 1) := by
      rw [show sAt q.2.2 i = q.2.2[i]'(by omega) by simp [List.getD_eq_getElem?_getD, show i < q.2.2.length by omega]]
      exact List.mem_iff_getElem.2 ⟨i, by simp; omega, by simp⟩
    exact List.any_eq_false.1 ha _ hmem
  have hn : ¬ 0 < ordS (sAt q.2.2 i) (sAt q.2.2 (i + 1)) := by omega
  unfold ordS at hn
  rw [cmp_pos] at hn
  simp only [meetsB, Bool.and_eq_true, decide_eq_true_eq] at hm
  unfold ltS
  omega
theorem ok_lt {q : Sq} (k : OkQ q) : ∀ (d i : Nat), i + d + 1 < q.2.2.length → ltS (sAt q.2.2 i) (sAt q.2.2 (i + d + 1))
  | 0, i, h => ok_next k h
  | d + 1, i, h => ltS_trans (ok_lt k d i (by omega)) (ok_next k (by omega))
theorem ok_pair {q : Sq} (k : OkQ q) {i j : Nat} (hij : i < j) (hj : j < q.2.2.length) : ltS (sAt q.2.2 i) (sAt q.2.2 j) := by
  have := ok_lt k (j - i - 1) i (by omega)
  rwa [show i + (j - i - 1) + 1 = j by omega] at this
end Go.Proofs.Ytmjijggkdbiijaa
