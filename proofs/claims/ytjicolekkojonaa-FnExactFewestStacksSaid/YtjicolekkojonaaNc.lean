/- Orders of the same numbers, as the reference tells them. No statement is proved here. -/
import Derived.Test.YtjicolekkojonaaNa
namespace Go.Proofs.Ytjicolekkojonaa
open Go.RowKit
set_option linter.unusedVariables false
set_option linter.unusedSimpArgs false
set_option maxRecDepth 100000
set_option maxHeartbeats 4000000
noncomputable abbrev hasInv (l : List Int) (x : Int) (n : Nat) (σ : List Slot) : Option LoopInv := match n with
  | 2 => some ⟨hvAt Try.f56 2, Nat, fun i => [(5, .val (.dat iT (i : Int)))], fun i => i ≤ l.length ∧ ∀ j : Nat, j < i → decide (l.getD j 0 = x) = false, fun i => l.length - i⟩
  | _ => none
def hasB (l : List Int) (x : Int) : Bool := l.any fun y => decide (y = x)
theorem any_at {α : Type} {l : List α} {p : α → Bool} {d : α} {i : Nat} (hi : i < l.length) (h : p (l.getD i d) = true) : l.any p = true := by
  rw [show l.getD i d = l[i] by simp [List.getD_eq_getElem?_getD, hi]] at h
  exact List.any_eq_true.2 ⟨_, List.getElem_mem _, h⟩
theorem any_no {α : Type} {l : List α} {p : α → Bool} {d : α} (h : ∀ j : Nat, j < l.length → p (l.getD j d) = false) : l.any p = false := by
  rw [List.any_eq_false]
  intro x hx
  obtain ⟨j, hj, rfl⟩ := List.getElem_of_mem hx
  have := h j hj
  rw [show l.getD j d = l[j] by simp [List.getD_eq_getElem?_getD, hj]] at this
  simp [this]
theorem l00Has_ev (l : List Int) (x : Int) : Ev Try.prog 56 [aIs l, aI x] (compsOf [rB] (hasB l x)) := by
  refine ev_of (l := [rB]) (r := (hasB l x)) (types (resT) [] (hasInv l x)) follows Try.func56 (by kernel_rfl) (by rw [Try.ntmps56]; exact Nat.le_of_ble_eq_true rfl) ?_
  have key : ((l.length ≤ 9223372036854775807 ∧ ∀ (x : Int), List.Mem x l → inR IntKind.i64 x) → inR IntKind.i64 x → (∃ (x0 : Nat), Slot.val (D.dat (Ty.int IntKind.i64) 0) = Slot.val (D.dat iT ((x0 : Nat) : Int))
      ∧ x0 ≤ l.length ∧ ∀ (j : Nat), j < x0 → decide (l.getD j 0 = x) = false) ∧ ∀ (x_1 : Nat), (x_1 ≤ l.length ∧ ∀ (j : Nat), j < x_1 → decide (l.getD j 0 = x) = false) → inR IntKind.i64 ((x_1 : Nat) :
      Int) → ((l.length : Nat) : Int) ≤ 9223372036854775807 → split (decide (((x_1 : Nat) : Int) < ((l.length : Nat) : Int))) ((0 ≤ ((x_1 : Nat) : Int) ∧ ((x_1 : Nat) : Int) < ((l.length : Nat) : Int)) ∧
      (inR IntKind.i64 (l.getD (((x_1 : Nat) : Int)).toNat 0) → split (decide (l.getD (((x_1 : Nat) : Int)).toNat 0 = x)) (true = hasB l x) ((-9223372036854775808 ≤ ((x_1 : Nat) : Int) + 1 ∧ ((x_1 : Nat) :
      Int) + 1 ≤ 9223372036854775807) ∧ ∃ (x' : Nat), Slot.val (D.dat (Ty.int IntKind.i64) (((x_1 : Nat) : Int) + 1)) = Slot.val (D.dat iT ((x' : Nat) : Int)) ∧ (x' ≤ l.length ∧ ∀ (j : Nat), j < x' →
      decide (l.getD j 0 = x) = false) ∧ l.length - x' < l.length - x_1))) (false = hasB l x)) := by
    intros
    refine ⟨⟨0, rfl, by omega, fun j hj => absurd hj (Nat.not_lt_zero _)⟩, fun i ⟨hi, hn⟩ _ _ => split_of (fun h => ?_) (fun h => ?_)⟩
    · have h := of_decide_eq_true h
      rw [Int.toNat_natCast]
      refine ⟨by omega, fun _ => split_of (fun h2 => ?_) (fun h2 => ⟨by omega, i + 1, rfl, ⟨by omega, upto_step hn h2⟩, by omega⟩)⟩
      exact (any_at (p := fun y => decide (y = x)) (by omega) h2).symm
    · have h := of_decide_eq_false h
      exact (any_no (p := fun y => decide (y = x)) fun j hj => hn j (by omega)).symm
  refine @Eq.mpr _ _ (?_) key
  kernel_rfl
def whereI (l : List Int) (x : Int) : Int := idxP (fun y => decide (y = x)) l
noncomputable abbrev whereInv (l : List Int) (x : Int) (n : Nat) (σ : List Slot) : Option LoopInv := match n with
  | 2 => some ⟨hvAt Try.f31 2, Nat, fun i => [(5, .val (.dat iT (i : Int)))], fun i => i ≤ l.length ∧ ∀ j : Nat, j < i → decide (l.getD j 0 = x) = false, fun i => l.length - i⟩
  | _ => none
theorem l05Where_ev (l : List Int) (x : Int) : Ev Try.prog 31 [aIs l, aI x] (compsOf [rI] (whereI l x)) := by
  refine ev_of (l := [rI]) (r := (whereI l x)) (types (resT) [] (whereInv l x)) follows Try.func31 (by kernel_rfl) (by rw [Try.ntmps31]; exact Nat.le_of_ble_eq_true rfl) ?_
  have key : ((l.length ≤ 9223372036854775807 ∧ ∀ (x : Int), List.Mem x l → inR IntKind.i64 x) → inR IntKind.i64 x → (∃ (x0 : Nat), Slot.val (D.dat (Ty.int IntKind.i64) 0) = Slot.val (D.dat iT ((x0 : Nat) : Int))
      ∧ x0 ≤ l.length ∧ ∀ (j : Nat), j < x0 → decide (l.getD j 0 = x) = false) ∧ ∀ (x_1 : Nat), (x_1 ≤ l.length ∧ ∀ (j : Nat), j < x_1 → decide (l.getD j 0 = x) = false) → inR IntKind.i64 ((x_1 : Nat) :
      Int) → ((l.length : Nat) : Int) ≤ 9223372036854775807 → split (decide (((x_1 : Nat) : Int) < ((l.length : Nat) : Int))) ((0 ≤ ((x_1 : Nat) : Int) ∧ ((x_1 : Nat) : Int) < ((l.length : Nat) : Int)) ∧
      (inR IntKind.i64 (l.getD (((x_1 : Nat) : Int)).toNat 0) → split (decide (l.getD (((x_1 : Nat) : Int)).toNat 0 = x)) (((x_1 : Nat) : Int) = whereI l x) ((-9223372036854775808 ≤ ((x_1 : Nat) : Int) + 1
      ∧ ((x_1 : Nat) : Int) + 1 ≤ 9223372036854775807) ∧ ∃ (x' : Nat), Slot.val (D.dat (Ty.int IntKind.i64) (((x_1 : Nat) : Int) + 1)) = Slot.val (D.dat iT ((x' : Nat) : Int)) ∧ (x' ≤ l.length ∧ ∀ (j :
      Nat), j < x' → decide (l.getD j 0 = x) = false) ∧ l.length - x' < l.length - x_1))) (-1 = whereI l x)) := by
    intros
    refine ⟨⟨0, rfl, by omega, fun j hj => absurd hj (Nat.not_lt_zero _)⟩, fun i ⟨hi, hn⟩ _ _ => split_of (fun h => ?_) (fun h => ?_)⟩
    · have h := of_decide_eq_true h
      rw [Int.toNat_natCast]
      exact ⟨by omega, fun _ => split_of (fun h2 => idxP_found (p := fun y => decide (y = x)) (d := 0) (by omega) h2 hn) (fun h2 => ⟨by omega, i + 1, rfl, ⟨by omega, upto_step hn h2⟩, by omega⟩)⟩
    · have h := of_decide_eq_false h
      exact idxP_none (p := fun y => decide (y = x)) (d := 0) fun j hj => hn j (by omega)
  refine @Eq.mpr _ _ (?_) key
  kernel_rfl
theorem has_iff {l : List Int} {x : Int} : hasB l x = true ↔ x ∈ l := by
  unfold hasB
  rw [List.any_eq_true]
  constructor
  · rintro ⟨y, hy, h⟩
    have := of_decide_eq_true h
    rwa [← this]
  · intro h
    exact ⟨x, h, decide_eq_true rfl⟩
theorem has_twice {l : List Int} {i : Nat} (hi : i < l.length) (h : hasB (l.take i) (l.getD i 0) = true) : ¬ l.Nodup := by
  intro hn
  obtain ⟨j, hj, e⟩ := List.getElem_of_mem (has_iff.1 h)
  simp only [List.length_take] at hj
  rw [show l.getD i 0 = l[i] by simp [List.getD_eq_getElem?_getD, hi], List.getElem_take] at e
  exact List.pairwise_iff_getElem.1 hn j i (by omega) hi (by omega) e
theorem nodup_of {l : List Int} (h : ∀ j : Nat, j < l.length → hasB (l.take j) (l.getD j 0) = false) : l.Nodup := by
  refine List.pairwise_iff_getElem.2 fun i j hi hj hij e => ?_
  have h1 := h j hj
  have : hasB (l.take j) (l.getD j 0) = true := by
    rw [has_iff, show l.getD j 0 = l[j] by simp [List.getD_eq_getElem?_getD, hj], ← e]
    exact List.mem_iff_getElem.2 ⟨i, by simp; omega, by simp⟩
  rw [this] at h1; cases h1
theorem where_iff {l : List Int} {x : Int} : 0 ≤ whereI l x ↔ x ∈ l := by
  rw [← has_iff]
  exact (idxP_iff (p := fun y => decide (y = x)) (l := l)).1
theorem where_mem {l : List Int} {x : Int} (h : ¬ whereI l x < 0) : x ∈ l := where_iff.1 (by omega)
theorem where_no {l : List Int} {x : Int} (h : whereI l x < 0) : x ∉ l := fun q => by have := where_iff.2 q; omega
theorem stack4 {x y : List Int} (h10 : ¬ 10 < x.length) (h : ¬ (x.Nodup ∧ y.Nodup ∧ x.length = y.length ∧ ∀ a ∈ x, a ∈ y)) : 4 = stackI x y := by
  rw [← both_iff] at h
  rw [stackI, if_neg h10, if_neg]
  rw [Bool.and_eq_true, decide_eq_true_eq, each_iff]
  exact h
theorem stack0 {x y : List Int} (h10 : ¬ 10 < x.length) (h : x.Nodup ∧ y.Nodup ∧ x.length = y.length ∧ ∀ a ∈ x, a ∈ y) : 0 = stackI x y := by
  rw [← both_iff] at h
  rw [stackI, if_neg h10, if_pos]
  rw [Bool.and_eq_true, decide_eq_true_eq, each_iff]
  exact h
noncomputable abbrev twiceInv (l : List Int) (n : Nat) (σ : List Slot) : Option LoopInv := match n with
  | 2 => some ⟨hvAt Try.f37 2, Nat, fun i => [(3, .val (.dat iT (i : Int)))], fun i => i ≤ l.length ∧ ∀ j : Nat, j < i → hasB (l.take j) (l.getD j 0) = false, fun i => l.length - i⟩
  | _ => none
theorem l05Twice_ev (l : List Int) : Ev Try.prog 37 [aIs l] (compsOf [rB] (!(decide l.Nodup))) := by
  refine ev_of (l := [rB]) (r := (!(decide l.Nodup))) (types (resT) [] (twiceInv l)) follows Try.func37 (by kernel_rfl) (by rw [Try.ntmps37]; exact Nat.le_of_ble_eq_true rfl) ?_
  have key : ((l.length ≤ 9223372036854775807 ∧ ∀ (x : Int), List.Mem x l → inR IntKind.i64 x) → (∃ (x0 : Nat), Slot.val (D.dat (Ty.int IntKind.i64) 0) = Slot.val (D.dat iT ((x0 : Nat) : Int)) ∧ x0 ≤ l.length ∧ ∀
      (j : Nat), j < x0 → hasB (List.take j l) (l.getD j 0) = false) ∧ ∀ (x : Nat), (x ≤ l.length ∧ ∀ (j : Nat), j < x → hasB (List.take j l) (l.getD j 0) = false) → inR IntKind.i64 ((x : Nat) : Int) →
      ((l.length : Nat) : Int) ≤ 9223372036854775807 → split (decide (((x : Nat) : Int) < ((l.length : Nat) : Int))) (((0 : Int) ≤ 0 ∧ 0 ≤ ((x : Nat) : Int) ∧ ((x : Nat) : Int) ≤ ((l.length : Nat) : Int))
      ∧ (0 ≤ ((x : Nat) : Int) ∧ ((x : Nat) : Int) < ((l.length : Nat) : Int)) ∧ (inR IntKind.i64 (l.getD (((x : Nat) : Int)).toNat 0) → ∃ (r : Bool), Ev Try.prog 56 [Arg.imm (D.dat (Ty.slice 2 (Ty.int
      IntKind.i64)) (List.drop (Int.toNat 0) (List.take (((x : Nat) : Int)).toNat l))), Arg.imm (D.dat (Ty.int IntKind.i64) (l.getD (((x : Nat) : Int)).toNat 0))] (compsOf [(false, Ty.bool)] r) ∧ split r
      (true = !decide l.Nodup) ((-9223372036854775808 ≤ ((x : Nat) : Int) + 1 ∧ ((x : Nat) : Int) + 1 ≤ 9223372036854775807) ∧ ∃ (x' : Nat), Slot.val (D.dat (Ty.int IntKind.i64) (((x : Nat) : Int) + 1)) =
      Slot.val (D.dat iT ((x' : Nat) : Int)) ∧ (x' ≤ l.length ∧ ∀ (j : Nat), j < x' → hasB (List.take j l) (l.getD j 0) = false) ∧ l.length - x' < l.length - x))) (false = !decide l.Nodup)) := by
    intros
    refine ⟨⟨0, rfl, by omega, fun j hj => absurd hj (Nat.not_lt_zero _)⟩, fun i ⟨hi, hn⟩ _ _ => split_of (fun h => ?_) (fun h => ?_)⟩
    · have h := of_decide_eq_true h
      simp only [Int.toNat_natCast, Int.toNat_zero, List.drop_zero]
      refine ⟨by omega, by omega, fun _ => ⟨_, l00Has_ev _ _, split_of (fun h2 => ?_) (fun h2 => ⟨by omega, i + 1, rfl, ⟨by omega, upto_step hn h2⟩, by omega⟩)⟩⟩
      rw [decide_eq_false (has_twice (by omega) h2)]; rfl
    · have h := of_decide_eq_false h
      rw [decide_eq_true (nodup_of fun j hj => hn j (by omega))]; rfl
  refine @Eq.mpr _ _ (?_) key
  kernel_rfl
noncomputable abbrev bothInv (x y : List Int) (n : Nat) (σ : List Slot) : Option LoopInv := match n with
  | 6 => some ⟨hvAt Try.f29 6, Nat, fun i => [(5, .val (.dat iT (i : Int)))], fun i => i ≤ x.length ∧ ∀ j : Nat, j < i → x.getD j 0 ∈ y, fun i => x.length - i⟩
  | _ => none
theorem l05Both_ev (x y : List Int) : Ev Try.prog 29 [aIs x, aIs y] (compsOf [rI] (stackI x y)) := by
  refine ev_of (l := [rI]) (r := (stackI x y)) (types (resT) [] (bothInv x y)) follows Try.func29 (by kernel_rfl) (by rw [Try.ntmps29]; exact Nat.le_of_ble_eq_true rfl) ?_
  have key : ((x.length ≤ 9223372036854775807 ∧ ∀ (x_1 : Int), List.Mem x_1 x → inR IntKind.i64 x_1) → (y.length ≤ 9223372036854775807 ∧ ∀ (x : Int), List.Mem x y → inR IntKind.i64 x) → ((x.length : Nat) : Int) ≤
      9223372036854775807 → split (decide (10 < ((x.length : Nat) : Int))) (3 = stackI x y) (∃ (r : Bool), Ev Try.prog 37 [Arg.imm (D.dat (Ty.slice 2 (Ty.int IntKind.i64)) x)] (compsOf [(false, Ty.bool)]
      r) ∧ split (!r) (∃ (r : Bool), Ev Try.prog 37 [Arg.imm (D.dat (Ty.slice 2 (Ty.int IntKind.i64)) y)] (compsOf [(false, Ty.bool)] r) ∧ split (!r) (((x.length : Nat) : Int) ≤ 9223372036854775807 →
      ((y.length : Nat) : Int) ≤ 9223372036854775807 → split (!decide (((x.length : Nat) : Int) = ((y.length : Nat) : Int))) (4 = stackI x y) ((∃ (x0 : Nat), Slot.val (D.dat (Ty.int IntKind.i64) 0) =
      Slot.val (D.dat iT ((x0 : Nat) : Int)) ∧ x0 ≤ x.length ∧ ∀ (j : Nat), j < x0 → List.Mem (x.getD j 0) y) ∧ ∀ (x_1 : Nat), (x_1 ≤ x.length ∧ ∀ (j : Nat), j < x_1 → List.Mem (x.getD j 0) y) → inR
      IntKind.i64 ((x_1 : Nat) : Int) → ((x.length : Nat) : Int) ≤ 9223372036854775807 → split (decide (((x_1 : Nat) : Int) < ((x.length : Nat) : Int))) ((0 ≤ ((x_1 : Nat) : Int) ∧ ((x_1 : Nat) : Int) <
      ((x.length : Nat) : Int)) ∧ (inR IntKind.i64 (x.getD (((x_1 : Nat) : Int)).toNat 0) → ∃ (r : Int), Ev Try.prog 31 [Arg.imm (D.dat (Ty.slice 2 (Ty.int IntKind.i64)) y), Arg.imm (D.dat (Ty.int
      IntKind.i64) (x.getD (((x_1 : Nat) : Int)).toNat 0))] (compsOf [(false, Ty.int IntKind.i64)] r) ∧ (inR IntKind.i64 r → split (decide (r < 0)) (4 = stackI x y) ((-9223372036854775808 ≤ ((x_1 : Nat) :
      Int) + 1 ∧ ((x_1 : Nat) : Int) + 1 ≤ 9223372036854775807) ∧ ∃ (x' : Nat), Slot.val (D.dat (Ty.int IntKind.i64) (((x_1 : Nat) : Int) + 1)) = Slot.val (D.dat iT ((x' : Nat) : Int)) ∧ (x' ≤ x.length ∧ ∀
      (j : Nat), j < x' → List.Mem (x.getD j 0) y) ∧ x.length - x' < x.length - x_1)))) (0 = stackI x y))) (4 = stackI x y)) (4 = stackI x y))) := by
    intros
    refine split_of (fun h => ?_) (fun h => ?_)
    · have h := of_decide_eq_true h
      rw [stackI, if_pos (by omega)]
    have h := of_decide_eq_false h
    have h10 : ¬ 10 < x.length := by omega
    refine ⟨_, l05Twice_ev x, split_of (fun h1 => ⟨_, l05Twice_ev y, split_of (fun h2 => fun _ _ => split_of (fun h3 => ?_) (fun h3 => ?_)) (fun h2 => ?_)⟩) (fun h1 => ?_)⟩
    · have h3 : ¬ (x.length : Int) = (y.length : Int) := fun e => by simp [e] at h3
      refine stack4 h10 fun r => h3 ?_
      have := r.2.2.1; omega
    · have h1 : x.Nodup := by simpa using h1
      have h2 : y.Nodup := by simpa using h2
      have h3 : (x.length : Int) = (y.length : Int) := Decidable.byContradiction fun q => by simp [q] at h3
      refine ⟨⟨0, rfl, by omega, fun j hj => absurd hj (Nat.not_lt_zero _)⟩, fun i ⟨hi, hn⟩ _ _ => split_of (fun h4 => ?_) (fun h4 => ?_)⟩
      · have h4 := of_decide_eq_true h4
        rw [Int.toNat_natCast]
        refine ⟨by omega, fun _ => ⟨_, l05Where_ev _ _, fun _ => split_of (fun h5 => ?_) (fun h5 => ⟨by omega, i + 1, rfl, ⟨by omega, upto_step hn (where_mem (of_decide_eq_false h5))⟩, by omega⟩)⟩⟩
        refine stack4 h10 fun r => where_no (of_decide_eq_true h5) (r.2.2.2 _ ?_)
        rw [show x.getD i 0 = x[i] by simp [List.getD_eq_getElem?_getD, show i < x.length by omega]]
        exact List.getElem_mem _
      · have h4 := of_decide_eq_false h4
        refine stack0 h10 ⟨h1, h2, by omega, fun a ha => ?_⟩
        obtain ⟨j, hj, rfl⟩ := List.getElem_of_mem ha
        have : x.getD j 0 ∈ y := hn j (by omega)
        rwa [show x.getD j 0 = x[j] by simp [List.getD_eq_getElem?_getD, hj]] at this
    · exact stack4 h10 fun r => by have := r.2.1; simp [this] at h2
    · exact stack4 h10 fun r => by have := r.1; simp [this] at h1
  refine @Eq.mpr _ _ (?_) key
  kernel_rfl
end Go.Proofs.Ytjicolekkojonaa
