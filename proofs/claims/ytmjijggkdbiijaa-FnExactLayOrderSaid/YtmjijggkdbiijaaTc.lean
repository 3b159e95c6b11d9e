/- Rows of cells: copies and marks; slabs that a way lifts. No statement is proved here. -/
import Derived.Test.YtmjijggkdbiijaaSv
namespace Go.Proofs.Ytmjijggkdbiijaa
open Go.RowKit
set_option linter.unusedVariables false
set_option linter.unusedSimpArgs false
set_option maxRecDepth 100000
set_option maxHeartbeats 4000000
noncomputable abbrev hasInv (l : List Int) (x : Int) (n : Nat) (σ : List Slot) : Option LoopInv := match n with
  | 2 => some ⟨hvAt Try.f98 2, Nat, fun i => [(5, .val (.dat iT (i : Int)))], fun i => i ≤ l.length ∧ ∀ j : Nat, j < i → decide (l.getD j 0 = x) = false, fun i => l.length - i⟩
  | _ => none
def hasB (l : List Int) (x : Int) : Bool := l.any fun y => decide (y = x)
theorem any_at {α : Type} {l : List α} {p : α → Bool} {d : α} {i : Nat} (hi : i < l.length) (h : p (l.getD i d) = true) : l.any p = true := by
  rw [show l.getD i d = l[i] by simp [List.getD_eq_getElem?_getD, hi]] at h
  exact List.any_eq_true.2 ⟨_, List.getElem_mem _, h⟩
theorem any_no {α : Type} {l : List α} {p : α → Bool} {d : α} (h : ∀ j : Nat, j < l.length → p (l.getD j d) = false) : l.any p = false := by
  rw [List.any_eq_false]
  intro x hx
  obtain ⟨j, hj, rfl⟩ := List.getElem_of_mem hx
  have := h j hj
  rw [show l.getD j d = l[j] by simp [List.getD_eq_getElem?_getD, hj]] at this
  simp [this]
theorem l00Has_ev (l : List Int) (x : Int) : Ev Try.prog 98 [aIs l, aI x] (compsOf [rB] (hasB l x)) := by
  refine ev_of (l := [rB]) (r := (hasB l x)) (types (resT) [] (hasInv l x)) follows Try.func98 (by kernel_rfl) (by rw [Try.ntmps98]; exact Nat.le_of_ble_eq_true rfl) ?_
  have key : ((l.length ≤ 9223372036854775807 ∧ ∀ (x : Int), List.Mem x l → inR IntKind.i64 x) → inR IntKind.i64 x → (∃ (x0 : Nat), Slot.val (D.dat (Ty.int IntKind.i64) 0) = Slot.val (D.dat iT ((x0 : Nat) : Int))
      ∧ x0 ≤ l.length ∧ ∀ (j : Nat), j < x0 → decide (l.getD j 0 = x) = false) ∧ ∀ (x_1 : Nat), (x_1 ≤ l.length ∧ ∀ (j : Nat), j < x_1 → decide (l.getD j 0 = x) = false) → inR IntKind.i64 ((x_1 : Nat) :
      Int) → ((l.length : Nat) : Int) ≤ 9223372036854775807 → split (decide (((x_1 : Nat) : Int) < ((l.length : Nat) : Int))) ((0 ≤ ((x_1 : Nat) : Int) ∧ ((x_1 : Nat) : Int) < ((l.length : Nat) : Int)) ∧
      (inR IntKind.i64 (l.getD (((x_1 : Nat) : Int)).toNat 0) → split (decide (l.getD (((x_1 : Nat) : Int)).toNat 0 = x)) (true = hasB l x) ((-9223372036854775808 ≤ ((x_1 : Nat) : Int) + 1 ∧ ((x_1 : Nat) :
      Int) + 1 ≤ 9223372036854775807) ∧ ∃ (x' : Nat), Slot.val (D.dat (Ty.int IntKind.i64) (((x_1 : Nat) : Int) + 1)) = Slot.val (D.dat iT ((x' : Nat) : Int)) ∧ (x' ≤ l.length ∧ ∀ (j : Nat), j < x' →
      decide (l.getD j 0 = x) = false) ∧ l.length - x' < l.length - x_1))) (false = hasB l x)) := by
    intros
    refine ⟨⟨0, rfl, by omega, fun j hj => absurd hj (Nat.not_lt_zero _)⟩, fun i ⟨hi, hn⟩ _ _ => split_of (fun h => ?_) (fun h => ?_)⟩
    · have h := of_decide_eq_true h
      rw [Int.toNat_natCast]
      refine ⟨by omega, fun _ => split_of (fun h2 => ?_) (fun h2 => ⟨by omega, i + 1, rfl, ⟨by omega, upto_step hn h2⟩, by omega⟩)⟩
      exact (any_at (p := fun y => decide (y = x)) (by omega) h2).symm
    · have h := of_decide_eq_false h
      exact (any_no (p := fun y => decide (y = x)) fun j hj => hn j (by omega)).symm
  refine @Eq.mpr _ _ (?_) key
  kernel_rfl
end Go.Proofs.Ytmjijggkdbiijaa
