/- Lists that have each number once; orders of the same numbers. No statement is proved here. -/
import Derived.Test.YtjicolekkojonaaMc
import Derived.Test.YtjicolekkojonaaKo
namespace Go.Proofs.Ytjicolekkojonaa
open Go.RowKit
set_option linter.unusedVariables false
set_option linter.unusedSimpArgs false
set_option maxRecDepth 100000
set_option maxHeartbeats 4000000
theorem isEach_ev (l : List Int) (hl : l.length ≤ 1048576) : Ev Try.prog 53 [aIs l] (compsOf [rB] (eachB l)) := by
  refine ev_of (l := [rB]) (r := (eachB l)) (types (resT) [] (fun _ _ => none)) follows Try.func53 (by kernel_rfl) (by rw [Try.ntmps53]; exact Nat.le_of_ble_eq_true rfl) ?_
  have key : ((l.length ≤ 9223372036854775807 ∧ ∀ (x : Int), List.Mem x l → inR IntKind.i64 x) → ∃ (r : List Int), Ev Try.prog 50 [Arg.imm (D.dat (Ty.slice 2 (Ty.int IntKind.i64)) l)] (compsOf [(true, Ty.slice 2
      (Ty.int IntKind.i64))] r) ∧ ((r.length ≤ 9223372036854775807 ∧ ∀ (x : Int), List.Mem x r → inR IntKind.i64 x) → ∃ (r_1 : Unit), ∃ (y : List Int), EvB Try.prog 51 (Ty.slice 2 (Ty.int IntKind.i64)) r
      [] (compsOf [] r_1) y ∧ ((y.length ≤ 9223372036854775807 ∧ ∀ (x : Int), List.Mem x y → inR IntKind.i64 x) → ∃ (r : List Int), Ev Try.prog 63 [Arg.own (Ty.slice 2 (Ty.int IntKind.i64)) y] (compsOf
      [(true, Ty.slice 2 (Ty.int IntKind.i64))] r) ∧ ((r.length ≤ 9223372036854775807 ∧ ∀ (x : Int), List.Mem x r → inR IntKind.i64 x) → ((r.length : Nat) : Int) ≤ 9223372036854775807 → ((l.length : Nat) :
      Int) ≤ 9223372036854775807 → decide (((r.length : Nat) : Int) = ((l.length : Nat) : Int)) = eachB l)))) := by
    intros
    refine ⟨_, clone_ev l (by omega), fun _ => ⟨(), _, sort_ev l (by omega), fun _ => ⟨_, compact_ev _ (by rw [sortI_len]; omega), ?_⟩⟩⟩
    intros
    exact decide_eq_decide.2 (by omega)
  refine @Eq.mpr _ _ (?_) key
  kernel_rfl
noncomputable abbrev equalInv (x y : List Int) (n : Nat) (σ : List Slot) : Option LoopInv := match n with
  | 4 => some ⟨hvAt Try.f54 4, Nat, fun i => [(13, .val (.dat iT (i : Int)))], fun i => i ≤ x.length ∧ ∀ j : Nat, j < i → x.getD j 0 = y.getD j 0, fun i => x.length - i⟩
  | _ => none
theorem equal_ev (x y : List Int) : Ev Try.prog 54 [aIs x, aIs y] (compsOf [rB] (decide (x = y))) := by
  refine ev_of (l := [rB]) (r := (decide (x = y))) (types (resT) [] (equalInv x y)) follows Try.func54 (by kernel_rfl) (by rw [Try.ntmps54]; exact Nat.le_of_ble_eq_true rfl) ?_
  have key : ((x.length ≤ 9223372036854775807 ∧ ∀ (x_1 : Int), List.Mem x_1 x → inR IntKind.i64 x_1) → (y.length ≤ 9223372036854775807 ∧ ∀ (x : Int), List.Mem x y → inR IntKind.i64 x) → ((x.length : Nat) : Int) ≤
      9223372036854775807 → ((y.length : Nat) : Int) ≤ 9223372036854775807 → split (!decide (((x.length : Nat) : Int) = ((y.length : Nat) : Int))) (false = decide (x = y)) (((x.length : Nat) : Int) ≤
      9223372036854775807 → (∃ (x0 : Nat), Slot.val (D.dat (Ty.int IntKind.i64) 0) = Slot.val (D.dat iT ((x0 : Nat) : Int)) ∧ x0 ≤ x.length ∧ ∀ (j : Nat), j < x0 → x.getD j 0 = y.getD j 0) ∧ ∀ (x_1 : Nat),
      (x_1 ≤ x.length ∧ ∀ (j : Nat), j < x_1 → x.getD j 0 = y.getD j 0) → inR IntKind.i64 ((x_1 : Nat) : Int) → split (decide (((x_1 : Nat) : Int) < ((x.length : Nat) : Int))) ((0 ≤ ((x_1 : Nat) : Int) ∧
      ((x_1 : Nat) : Int) < ((x.length : Nat) : Int)) ∧ (inR IntKind.i64 (x.getD (((x_1 : Nat) : Int)).toNat 0) → (0 ≤ ((x_1 : Nat) : Int) ∧ ((x_1 : Nat) : Int) < ((y.length : Nat) : Int)) ∧ (inR
      IntKind.i64 (y.getD (((x_1 : Nat) : Int)).toNat 0) → split (!decide (x.getD (((x_1 : Nat) : Int)).toNat 0 = y.getD (((x_1 : Nat) : Int)).toNat 0)) (false = decide (x = y)) ((-9223372036854775808 ≤
      ((x_1 : Nat) : Int) + 1 ∧ ((x_1 : Nat) : Int) + 1 ≤ 9223372036854775807) ∧ ∃ (x' : Nat), Slot.val (D.dat (Ty.int IntKind.i64) (((x_1 : Nat) : Int) + 1)) = Slot.val (D.dat iT ((x' : Nat) : Int)) ∧ (x'
      ≤ x.length ∧ ∀ (j : Nat), j < x' → x.getD j 0 = y.getD j 0) ∧ x.length - x' < x.length - x_1)))) (true = decide (x = y)))) := by
    intros
    refine split_of (fun h => ?_) (fun h => ?_)
    · have h : ¬ (x.length : Int) = (y.length : Int) := of_decide_eq_false (by simpa using h)
      exact (decide_eq_false fun e => h (by rw [e])).symm
    have h : (x.length : Int) = (y.length : Int) := Decidable.byContradiction fun q => by simp [q] at h
    refine fun _ => ⟨⟨0, rfl, by omega, fun j hj => absurd hj (Nat.not_lt_zero _)⟩, fun i ⟨hi, hn⟩ _ => split_of (fun h1 => ?_) (fun h1 => ?_)⟩
    · have h1 := of_decide_eq_true h1
      simp only [Int.toNat_natCast]
      refine ⟨by omega, fun _ => ⟨by omega, fun _ => split_of (fun h2 => ?_) (fun h2 => ⟨by omega, i + 1, rfl, ⟨by omega, upto_step hn (Decidable.byContradiction fun q => by rw [decide_eq_false q] at h2; cases h2)⟩, by omega⟩)⟩⟩
      refine (decide_eq_false fun e => ?_).symm
      rw [e] at h2
      simp at h2
    · have h1 := of_decide_eq_false h1
      refine (decide_eq_true ?_).symm
      apply List.ext_getElem (by omega)
      intro j j1 j2
      have := hn j (by omega)
      simpa [List.getD_eq_getElem?_getD, j1, j2] using this
  refine @Eq.mpr _ _ (?_) key
  kernel_rfl
def stackI (x y : List Int) : Int := if 10 < x.length then 3 else if eachB x && decide (sortI x = sortI y) then 0 else 4
theorem stackCode_ev (x y : List Int) (hx : x.length ≤ 1048576) (hy : y.length ≤ 1048576) : Ev Try.prog 32 [aIs x, aIs y] (compsOf [rI] (stackI x y)) := by
  refine ev_of (l := [rI]) (r := (stackI x y)) (types (resT) [] (fun _ _ => none)) follows Try.func32 (by kernel_rfl) (by rw [Try.ntmps32]; exact Nat.le_of_ble_eq_true rfl) ?_
  have key : ((x.length ≤ 9223372036854775807 ∧ ∀ (x_1 : Int), List.Mem x_1 x → inR IntKind.i64 x_1) → (y.length ≤ 9223372036854775807 ∧ ∀ (x : Int), List.Mem x y → inR IntKind.i64 x) → ((x.length : Nat) : Int) ≤
      9223372036854775807 → split (decide (10 < ((x.length : Nat) : Int))) (3 = stackI x y) (∃ (r : List Int), Ev Try.prog 50 [Arg.imm (D.dat (Ty.slice 2 (Ty.int IntKind.i64)) x)] (compsOf [(true, Ty.slice
      2 (Ty.int IntKind.i64))] r) ∧ ((r.length ≤ 9223372036854775807 ∧ ∀ (x : Int), List.Mem x r → inR IntKind.i64 x) → ∃ (r_1 : List Int), Ev Try.prog 50 [Arg.imm (D.dat (Ty.slice 2 (Ty.int IntKind.i64))
      y)] (compsOf [(true, Ty.slice 2 (Ty.int IntKind.i64))] r_1) ∧ ((r_1.length ≤ 9223372036854775807 ∧ ∀ (x : Int), List.Mem x r_1 → inR IntKind.i64 x) → ∃ (r_2 : Unit), ∃ (y_1 : List Int), EvB Try.prog
      51 (Ty.slice 2 (Ty.int IntKind.i64)) r [] (compsOf [] r_2) y_1 ∧ ((y_1.length ≤ 9223372036854775807 ∧ ∀ (x : Int), List.Mem x y_1 → inR IntKind.i64 x) → ∃ (r : Unit), ∃ (y_2 : List Int), EvB Try.prog
      51 (Ty.slice 2 (Ty.int IntKind.i64)) r_1 [] (compsOf [] r) y_2 ∧ ((y_2.length ≤ 9223372036854775807 ∧ ∀ (x : Int), List.Mem x y_2 → inR IntKind.i64 x) → ∃ (r : Bool), Ev Try.prog 53 [Arg.imm (D.dat
      (Ty.slice 2 (Ty.int IntKind.i64)) x)] (compsOf [(false, Ty.bool)] r) ∧ split r (∃ (r : Bool), Ev Try.prog 54 [Arg.imm (D.dat (Ty.slice 2 (Ty.int IntKind.i64)) y_1), Arg.imm (D.dat (Ty.slice 2 (Ty.int
      IntKind.i64)) y_2)] (compsOf [(false, Ty.bool)] r) ∧ ∃ (r_3 : Int), Ev Try.prog 52 [Arg.imm (D.dat Ty.bool r), Arg.imm (D.dat (Ty.int IntKind.i64) 4)] (compsOf [(false, Ty.int IntKind.i64)] r_3) ∧
      (inR IntKind.i64 r_3 → r_3 = stackI x y)) (∃ (r : Int), Ev Try.prog 52 [Arg.imm (D.dat Ty.bool false), Arg.imm (D.dat (Ty.int IntKind.i64) 4)] (compsOf [(false, Ty.int IntKind.i64)] r) ∧ (inR
      IntKind.i64 r → r = stackI x y)))))))) := by
    intros
    refine split_of (fun h => ?_) (fun h => ?_)
    · have h := of_decide_eq_true h
      rw [stackI, if_pos (by omega)]
    have h := of_decide_eq_false h
    have e : stackI x y = unlessI (eachB x && decide (sortI x = sortI y)) 4 := by
      rw [stackI, if_neg (by omega)]; rfl
    rw [e]
    refine ⟨_, clone_ev x (by omega), fun _ => ⟨_, clone_ev y (by omega), fun _ => ⟨(), _, sort_ev x (by omega), fun _ => ⟨(), _, sort_ev y (by omega), fun _ => ⟨_, isEach_ev x hx, split_of (fun h1 => ?_) (fun h1 => ?_)⟩⟩⟩⟩⟩
    · exact ⟨_, equal_ev _ _, _, unless_ev _ _, fun _ => by rw [h1, Bool.true_and]⟩
    · exact ⟨_, unless_ev _ _, fun _ => by rw [h1, Bool.false_and]⟩
  refine @Eq.mpr _ _ (?_) key
  kernel_rfl
end Go.Proofs.Ytjicolekkojonaa
