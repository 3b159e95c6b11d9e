/- A square with a further slab. No statement is proved here. -/
import Derived.Test.YtmjijggkdbiijaaVa
namespace Go.Proofs.Ytmjijggkdbiijaa
open Go.RowKit
set_option linter.unusedVariables false
set_option linter.unusedSimpArgs false
theorem bef_iff {a b : Sl} : befS a b = true ↔ ltS a b := by simp [befS, ltS]
theorem sAt_get {l : List Sl} {i : Nat} (h : i < l.length) : sAt l i = l[i] := by simp [List.getD_eq_getElem?_getD, h]
theorem meets_symm {a b : Sl} : meetsB a b = meetsB b a := by
  rw [Bool.eq_iff_iff]
  simp only [meetsB, Bool.and_eq_true, decide_eq_true_eq]
  constructor <;> (intro h; omega)
theorem posS_stop (x : Sl) (l : List Sl) : ∀ k, 0 < posS x l k → befS x (sAt l (posS x l k - 1)) = false
  | 0, h => by simp [posS] at h
  | k + 1, h => by
    unfold posS at h ⊢
    split
    · rename_i q; rw [if_pos q] at h; exact posS_stop x l k h
    · rename_i q; simpa using q
theorem posS_go (x : Sl) (l : List Sl) : ∀ k j, posS x l k ≤ j → j < k → befS x (sAt l j) = true
  | 0, j, _, h => by omega
  | k + 1, j, h1, h2 => by
    unfold posS at h1
    split at h1
    · rename_i q
      by_cases e : j = k
      · subst e; exact q
      · exact posS_go x l k j h1 (by omega)
    · omega
theorem insS_perm (x : Sl) (l : List Sl) : (insS x l).Perm (x :: l) := by
  unfold insS
  rw [List.append_assoc]
  have := List.perm_middle (a := x) (l₁ := l.take (posS x l l.length)) (l₂ := l.drop (posS x l l.length))
  rw [List.take_append_drop] at this
  exact this
theorem insS_mem {x y : Sl} {l : List Sl} : y ∈ insS x l ↔ y = x ∨ y ∈ l := by rw [(insS_perm x l).mem_iff, List.mem_cons]
theorem insS_pair {x : Sl} {l : List Sl} (hp : l.Pairwise ltS) (ht : ∀ y ∈ l, ltS y x ∨ ltS x y) : (insS x l).Pairwise ltS := by
  have hle := posS_le x l l.length
  have lo : ∀ y ∈ l.take (posS x l l.length), ltS y x := fun y hy => by
    obtain ⟨j, hj, rfl⟩ := List.getElem_of_mem hy
    rw [List.length_take] at hj
    rw [List.getElem_take]
    have hs := posS_stop x l l.length (by omega)
    rw [sAt_get (by omega)] at hs
    have h1 : ¬ ltS x (l[posS x l l.length - 1]'(by omega)) := fun q => by rw [bef_iff.2 q] at hs; cases hs
    have h2 := (ht _ (List.getElem_mem (by omega : posS x l l.length - 1 < l.length))).resolve_right h1
    by_cases e : j = posS x l l.length - 1
    · subst e; exact h2
    · exact ltS_trans (List.pairwise_iff_getElem.1 hp j _ (by omega) (by omega) (by omega)) h2
  have hi : ∀ y ∈ l.drop (posS x l l.length), ltS x y := fun y hy => by
    obtain ⟨j, hj, rfl⟩ := List.getElem_of_mem hy
    rw [List.length_drop] at hj
    rw [List.getElem_drop]
    have := posS_go x l l.length (posS x l l.length + j) (by omega) (by omega)
    rw [sAt_get (by omega)] at this
    exact bef_iff.1 this
  unfold insS
  rw [List.append_assoc, List.pairwise_append]
  refine ⟨hp.take, ?_, fun a ha b hb => ?_⟩
  · rw [List.singleton_append, List.pairwise_cons]
    exact ⟨hi, hp.drop⟩
  · rw [List.singleton_append] at hb
    rcases List.mem_cons.1 hb with rfl | hb
    · exact lo a ha
    · exact ltS_trans (lo a ha) (hi b hb)
theorem insS_last {x : Sl} {l : List Sl} (h : ∀ y ∈ l, ltS y x) : insS x l = l ++ [x] := by
  have : posS x l l.length = l.length := by
    cases hl : l.length with
    | zero => rfl
    | succ n =>
      unfold posS
      rw [if_neg]
      intro q
      have h1 := h (sAt l n) (sAt_mem (by omega))
      have h2 := bef_iff.1 q
      unfold ltS at h1 h2; omega
  unfold insS
  rw [this]; simp
theorem isortN_self {l : List Sl} (hp : l.Pairwise ltS) : ∀ i, i ≤ l.length → isortN l i = l.take i
  | 0, _ => by simp [isortN]
  | i + 1, h => by
    rw [isortN, isortN_self hp i (by omega), insS_last, take_next' (d := ((0, 0, 0, 0) : Sl)) (by omega)]
    intro y hy
    obtain ⟨j, hj, rfl⟩ := List.getElem_of_mem hy
    rw [List.length_take] at hj
    rw [List.getElem_take, sAt_get (by omega)]
    exact List.pairwise_iff_getElem.1 hp j i (by omega) (by omega) (by omega)
theorem isortN_congr {l r : List Sl} : ∀ i, i ≤ l.length → isortN (l ++ r) i = isortN l i
  | 0, _ => rfl
  | i + 1, h => by
    rw [isortN, isortN, isortN_congr i (by omega)]
    congr 1
    rw [sAt_get (by rw [List.length_append]; omega), sAt_get (by omega), List.getElem_append_left (by omega)]
theorem isortN_snoc {l : List Sl} {s : Sl} (hp : l.Pairwise ltS) : isortN (l ++ [s]) (l ++ [s]).length = insS s l := by
  rw [List.length_append, List.length_singleton, isortN, isortN_congr _ (Nat.le_refl _), isortN_self hp _ (Nat.le_refl _), List.take_length]
  congr 1
  rw [sAt_get (by simp)]; simp
theorem sortSl_snoc {l : List Sl} {s : Sl} (h8 : ∀ x ∈ l, R8 x) (hs : R8 s) (hp : l.Pairwise ltS) (ht : ∀ y ∈ l, ltS y s ∨ ltS s y) : sortSl (l ++ [s]) = insS s l :=
  sortSl_uniq (fun x hx => by rcases insS_mem.1 hx with rfl | hx; exact hs; exact h8 x hx) (insS_pair hp ht) ((List.perm_append_comm (l₁ := l) (l₂ := [s])).trans (insS_perm s l).symm)
theorem ok_pairs {q : Sq} (k : OkQ q) : q.2.2.Pairwise ltS := List.pairwise_iff_getElem.2 fun i j hi hj hij => by
  have := ok_pair k hij hj
  rwa [sAt_get hi, sAt_get hj] at this
theorem ok_aparts {q : Sq} (k : OkQ q) : q.2.2.Pairwise fun a b => meetsB a b = false := List.pairwise_iff_getElem.2 fun i j hi hj hij => by
  have h := (k.sl j hj).apart
  rw [List.any_eq_false] at h
  have := h q.2.2[i] (List.mem_iff_getElem.2 ⟨i, by rw [List.length_take]; omega, by simp⟩)
  rw [sAt_get hj, meets_symm] at this
  simpa using this
theorem okQ_mk {q : Sq} (hw : edgeB q.1 = true) (hh : edgeB q.2.1 = true) (hn : q.2.2.length ≤ 60) (hin : ∀ x ∈ q.2.2, slabIn q.1 q.2.1 x = true) (hp : q.2.2.Pairwise ltS) (ha : q.2.2.Pairwise fun a b => meetsB a b = false) : OkQ q :=
  ⟨hw, hh, hn, fun i hi => ⟨hin _ (sAt_mem hi), by
    rw [List.any_eq_false]
    intro x hx
    obtain ⟨j, hj, rfl⟩ := List.getElem_of_mem hx
    rw [List.length_take] at hj
    rw [List.getElem_take, sAt_get hi, meets_symm]
    have := List.pairwise_iff_getElem.1 ha j i (by omega) hi (by omega)
    simpa using this, fun h0 => ordS_iff.2 (.inl (bef_iff.2 (by
      rw [sAt_get (by omega), sAt_get hi]
      exact List.pairwise_iff_getElem.1 hp (i - 1) i (by omega) hi (by omega))))⟩⟩
/-- A square with a further slab. -/
def putV (q : Sq) (s : Sl) : Sq := (q.1, q.2.1, insS s q.2.2)
theorem canPut_parts {q : Sq} {s : Sl} (h : canPutB q s = true) : slabIn q.1 q.2.1 s = true ∧ ∀ x ∈ q.2.2, meetsB x s = false := by
  simp only [canPutB, Bool.and_eq_true, Bool.not_eq_true'] at h
  refine ⟨h.1, fun x hx => ?_⟩
  have := List.any_eq_false.1 h.2 x hx
  rw [meets_symm]; simpa using this
theorem put_total {q : Sq} (k : OkQ q) {s : Sl} (h : canPutB q s = true) : ∀ y ∈ q.2.2, ltS y s ∨ ltS s y := fun y hy => by
  obtain ⟨h1, h2⟩ := canPut_parts h
  have b1 := slabIn_b h1
  have b2 := slabIn_b (ok_mem k hy)
  have h3 := h2 y hy
  have : ¬ (meetsB y s = true) := by rw [h3]; simp
  simp only [meetsB, Bool.and_eq_true, decide_eq_true_eq] at this
  unfold ltS; omega
theorem put_r8 {q : Sq} (k : OkQ q) {s : Sl} (h : canPutB q s = true) : R8 s := by
  have b := slabIn_b (canPut_parts h).1
  have e1 := edge_b k.w
  have e2 := edge_b k.h
  exact ⟨by simp only [inR, loK, hiK]; omega, by simp only [inR, loK, hiK]; omega, by simp only [inR, loK, hiK]; omega, by simp only [inR, loK, hiK]; omega⟩
theorem putV_len (q : Sq) (s : Sl) : (putV q s).2.2.length = q.2.2.length + 1 := insS_len s q.2.2
theorem put_ok {q : Sq} (k : OkQ q) {s : Sl} (h : canPutB q s = true) (hn : q.2.2.length < 60) : OkQ (putV q s) := by
  obtain ⟨h1, h2⟩ := canPut_parts h
  refine okQ_mk k.w k.h (by rw [putV_len]; omega) (fun x hx => ?_) (insS_pair (ok_pairs k) (put_total k h)) ?_
  · rcases insS_mem.1 hx with rfl | hx
    · exact h1
    · exact ok_mem k hx
  · refine (List.Perm.pairwise_iff (fun {x y} h => by rw [meets_symm]; exact h) (insS_perm s q.2.2)).2 ?_
    exact List.pairwise_cons.2 ⟨fun y hy => by rw [meets_symm]; exact h2 y hy, ok_aparts k⟩
theorem with_put {q : Sq} (k : OkQ q) {s : Sl} (h : canPutB q s = true) : withV q (q.2.2 ++ [s]) = putV q s := by
  unfold withV putV
  rw [sortSl_snoc (fun x hx => ok_r8 k hx) (put_r8 k h) (ok_pairs k) (put_total k h)]
theorem with_self {q : Sq} (k : OkQ q) : withV q q.2.2 = q := by
  unfold withV
  rw [sortSl_uniq (fun x hx => ok_r8 k hx) (ok_pairs k) (List.Perm.refl _)]
theorem isort_put {q : Sq} (k : OkQ q) (s : Sl) : isortN (q.2.2 ++ [s]) (q.2.2 ++ [s]).length = (putV q s).2.2 := isortN_snoc (ok_pairs k)
end Go.Proofs.Ytmjijggkdbiijaa
