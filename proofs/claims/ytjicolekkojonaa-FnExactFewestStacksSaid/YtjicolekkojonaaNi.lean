/- The law on the fewest stacks. No statement is proved here. -/
import Derived.Test.YtjicolekkojonaaNh
namespace Go.Proofs.Ytjicolekkojonaa
open Go.RowKit
set_option linter.unusedVariables false
set_option linter.unusedSimpArgs false
set_option maxRecDepth 100000
set_option maxHeartbeats 4000000
theorem fewS_len (x y : List Int) : (fewS x y).1.length ≤ 10 := by
  unfold fewS
  split
  · rename_i h
    have k := (stackOk h).few
    have := (stS_len (x := x) (y := y) x.length (Nat.le_refl _)).1
    simp only; omega
  · simp
theorem skip3 {x y : Int} {X : Prop} (h : X) : split (!!true) (split (!!decide (x = x)) (split (!decide (y = y)) (false = true) X) (false = true)) (false = true) :=
  split_of (fun _ => split_of (fun _ => split_of (fun h => by simp at h) (fun _ => h)) (fun h => by simp at h)) (fun h => by simp at h)
theorem lawFewS_ev (x y : List Int) : Ev Try.prog 6 [aIs x, aIs y] (compsOf [rB] (true)) := by
  refine ev_of (l := [rB]) (r := (true)) (types (resT) [] (fun _ _ => none)) follows Try.func6 (by kernel_rfl) (by rw [Try.ntmps6]; exact Nat.le_of_ble_eq_true rfl) ?_
  have key : ((x.length ≤ 9223372036854775807 ∧ ∀ (x_1 : Int), List.Mem x_1 x → inR IntKind.i64 x_1) → (y.length ≤ 9223372036854775807 ∧ ∀ (x : Int), List.Mem x y → inR IntKind.i64 x) → ((x.length : Nat) : Int) ≤
      9223372036854775807 → split (decide (1048576 < ((x.length : Nat) : Int))) (true = true) (((y.length : Nat) : Int) ≤ 9223372036854775807 → split (decide (1048576 < ((y.length : Nat) : Int))) (true =
      true) (∃ (r : List Int), Ev Try.prog 17 [Arg.imm (D.dat (Ty.slice 2 (Ty.int IntKind.i64)) x)] (compsOf [(true, Ty.slice 2 (Ty.int IntKind.i64))] r) ∧ ((r.length ≤ 9223372036854775807 ∧ ∀ (x : Int),
      List.Mem x r → inR IntKind.i64 x) → ∃ (r_1 : List Int), Ev Try.prog 17 [Arg.imm (D.dat (Ty.slice 2 (Ty.int IntKind.i64)) y)] (compsOf [(true, Ty.slice 2 (Ty.int IntKind.i64))] r_1) ∧ ((r_1.length ≤
      9223372036854775807 ∧ ∀ (x : Int), List.Mem x r_1 → inR IntKind.i64 x) → ∃ (r_2 : List Int × Int × Int), Ev Try.prog 21 [Arg.imm (D.dat (Ty.slice 2 (Ty.int IntKind.i64)) r), Arg.imm (D.dat (Ty.slice
      2 (Ty.int IntKind.i64)) r_1)] (compsOf [(true, Ty.slice 2 (Ty.int IntKind.i64)), (false, Ty.int IntKind.i64), (false, Ty.int IntKind.i64)] r_2) ∧ ((r_2.fst.length ≤ 9223372036854775807 ∧ ∀ (x : Int),
      List.Mem x r_2.fst → inR IntKind.i64 x) → inR IntKind.i64 r_2.snd.fst → inR IntKind.i64 r_2.snd.snd → ∃ (r : List Int), Ev Try.prog 17 [Arg.imm (D.dat (Ty.slice 2 (Ty.int IntKind.i64)) x)] (compsOf
      [(true, Ty.slice 2 (Ty.int IntKind.i64))] r) ∧ ((r.length ≤ 9223372036854775807 ∧ ∀ (x : Int), List.Mem x r → inR IntKind.i64 x) → ∃ (r_3 : List Int), Ev Try.prog 17 [Arg.imm (D.dat (Ty.slice 2
      (Ty.int IntKind.i64)) y)] (compsOf [(true, Ty.slice 2 (Ty.int IntKind.i64))] r_3) ∧ ((r_3.length ≤ 9223372036854775807 ∧ ∀ (x : Int), List.Mem x r_3 → inR IntKind.i64 x) → ∃ (r_4 : List Int × Int ×
      Int), Ev Try.prog 22 [Arg.imm (D.dat (Ty.slice 2 (Ty.int IntKind.i64)) r), Arg.imm (D.dat (Ty.slice 2 (Ty.int IntKind.i64)) r_3)] (compsOf [(true, Ty.slice 2 (Ty.int IntKind.i64)), (false, Ty.int
      IntKind.i64), (false, Ty.int IntKind.i64)] r_4) ∧ ((r_4.fst.length ≤ 9223372036854775807 ∧ ∀ (x : Int), List.Mem x r_4.fst → inR IntKind.i64 x) → inR IntKind.i64 r_4.snd.fst → inR IntKind.i64
      r_4.snd.snd → ∃ (r_5 : Bool), Ev Try.prog 11 [Arg.imm (D.dat (Ty.slice 2 (Ty.int IntKind.i64)) r_4.fst), Arg.imm (D.dat (Ty.slice 2 (Ty.int IntKind.i64)) r_2.fst)] (compsOf [(false, Ty.bool)] r_5) ∧
      split (!!r_5) (split (!!decide (r_4.snd.fst = r_2.snd.fst)) (split (!decide (r_4.snd.snd = r_2.snd.snd)) (false = true) (∃ (r_6 : List Int), Ev Try.prog 17 [Arg.imm (D.dat (Ty.slice 2 (Ty.int
      IntKind.i64)) x)] (compsOf [(true, Ty.slice 2 (Ty.int IntKind.i64))] r_6) ∧ ((r_6.length ≤ 9223372036854775807 ∧ ∀ (x : Int), List.Mem x r_6 → inR IntKind.i64 x) → ∃ (r_7 : Bool), Ev Try.prog 11
      [Arg.imm (D.dat (Ty.slice 2 (Ty.int IntKind.i64)) r), Arg.imm (D.dat (Ty.slice 2 (Ty.int IntKind.i64)) r_6)] (compsOf [(false, Ty.bool)] r_7) ∧ split (!r_7) (false = true) (∃ (r_8 : List Int), Ev
      Try.prog 17 [Arg.imm (D.dat (Ty.slice 2 (Ty.int IntKind.i64)) y)] (compsOf [(true, Ty.slice 2 (Ty.int IntKind.i64))] r_8) ∧ ((r_8.length ≤ 9223372036854775807 ∧ ∀ (x : Int), List.Mem x r_8 → inR
      IntKind.i64 x) → ∃ (r_9 : Bool), Ev Try.prog 11 [Arg.imm (D.dat (Ty.slice 2 (Ty.int IntKind.i64)) r_3), Arg.imm (D.dat (Ty.slice 2 (Ty.int IntKind.i64)) r_8)] (compsOf [(false, Ty.bool)] r_9) ∧ split
      (!r_9) (false = true) (∃ (r_10 : Int), ∃ (y_1 : List Int), EvB Try.prog 14 (Ty.slice 2 (Ty.int IntKind.i64)) r [Arg.imm (D.dat (Ty.int IntKind.i64) 1)] (compsOf [(false, Ty.int IntKind.i64)] r_10)
      y_1 ∧ (inR IntKind.i64 r_10 → (y_1.length ≤ 9223372036854775807 ∧ ∀ (x : Int), List.Mem x y_1 → inR IntKind.i64 x) → ∃ (r : Int), ∃ (y_2 : List Int), EvB Try.prog 14 (Ty.slice 2 (Ty.int IntKind.i64))
      r_3 [Arg.imm (D.dat (Ty.int IntKind.i64) r_10)] (compsOf [(false, Ty.int IntKind.i64)] r) y_2 ∧ (inR IntKind.i64 r → (y_2.length ≤ 9223372036854775807 ∧ ∀ (x : Int), List.Mem x y_2 → inR IntKind.i64
      x) → split (!decide (r < 0)) (∃ (r : Bool), Ev Try.prog 11 [Arg.imm (D.dat (Ty.slice 2 (Ty.int IntKind.i64)) r_4.fst), Arg.imm (D.dat (Ty.slice 2 (Ty.int IntKind.i64)) r_2.fst)] (compsOf [(false,
      Ty.bool)] r) ∧ split (!!r) (split (!!decide (r_4.snd.fst = r_2.snd.fst)) (split (!decide (r_4.snd.snd = r_2.snd.snd)) (false = true) (∃ (r : Int), ∃ (y_3 : List Int), EvB Try.prog 14 (Ty.slice 2
      (Ty.int IntKind.i64)) r_4.fst [Arg.imm (D.dat (Ty.int IntKind.i64) 1)] (compsOf [(false, Ty.int IntKind.i64)] r) y_3 ∧ (inR IntKind.i64 r → (y_3.length ≤ 9223372036854775807 ∧ ∀ (x : Int), List.Mem x
      y_3 → inR IntKind.i64 x) → ∃ (r_11 : Int), Ev Try.prog 15 [Arg.imm (D.dat (Ty.slice 2 (Ty.int IntKind.i64)) y_3), Arg.imm (D.dat (Ty.int IntKind.i64) 1)] (compsOf [(false, Ty.int IntKind.i64)] r_11)
      ∧ (inR IntKind.i64 r_11 → split (decide (r_11 < 0)) (false = true) (split (!decide (r_11 = r)) (false = true) (∃ (r_12 : List Int), Ev Try.prog 17 [Arg.imm (D.dat (Ty.slice 2 (Ty.int IntKind.i64))
      x)] (compsOf [(true, Ty.slice 2 (Ty.int IntKind.i64))] r_12) ∧ ((r_12.length ≤ 9223372036854775807 ∧ ∀ (x : Int), List.Mem x r_12 → inR IntKind.i64 x) → ∃ (r_13 : List Int), Ev Try.prog 17 [Arg.imm
      (D.dat (Ty.slice 2 (Ty.int IntKind.i64)) y)] (compsOf [(true, Ty.slice 2 (Ty.int IntKind.i64))] r_13) ∧ ((r_13.length ≤ 9223372036854775807 ∧ ∀ (x : Int), List.Mem x r_13 → inR IntKind.i64 x) → ∃
      (r_14 : List Int × Int × Int), Ev Try.prog 22 [Arg.imm (D.dat (Ty.slice 2 (Ty.int IntKind.i64)) r_12), Arg.imm (D.dat (Ty.slice 2 (Ty.int IntKind.i64)) r_13)] (compsOf [(true, Ty.slice 2 (Ty.int
      IntKind.i64)), (false, Ty.int IntKind.i64), (false, Ty.int IntKind.i64)] r_14) ∧ ((r_14.fst.length ≤ 9223372036854775807 ∧ ∀ (x : Int), List.Mem x r_14.fst → inR IntKind.i64 x) → inR IntKind.i64
      r_14.snd.fst → inR IntKind.i64 r_14.snd.snd → ∃ (r_15 : Bool), Ev Try.prog 11 [Arg.imm (D.dat (Ty.slice 2 (Ty.int IntKind.i64)) r_14.fst), Arg.imm (D.dat (Ty.slice 2 (Ty.int IntKind.i64)) r_2.fst)]
      (compsOf [(false, Ty.bool)] r_15) ∧ split (!!r_15) (split (!!decide (r_14.snd.fst = r_2.snd.fst)) (split (!decide (r_14.snd.snd = r_2.snd.snd)) (false = true) (∃ (r_16 : Int), Ev Try.prog 15 [Arg.imm
      (D.dat (Ty.slice 2 (Ty.int IntKind.i64)) y_3), Arg.imm (D.dat (Ty.int IntKind.i64) 1)] (compsOf [(false, Ty.int IntKind.i64)] r_16) ∧ (inR IntKind.i64 r_16 → split (decide (r_16 < 0)) (false = true)
      (split (!decide (r_16 = r)) (false = true) (true = true))))) (false = true)) (false = true)))))))))) (false = true)) (false = true)) (false = true))))))))) (false = true)) (false = true)))))))))) := by
    intros
    refine split_of (fun _ => rfl) (fun h1 => ?_)
    intros
    refine split_of (fun _ => rfl) (fun h2 => ?_)
    have h1 := of_decide_eq_false h1
    have h2 := of_decide_eq_false h2
    have n1 : x.length ≤ 1048576 := by omega
    have n2 : y.length ≤ 1048576 := by omega
    have hk := fewS_len x y
    intros
    refine ⟨_, toInts_ev x n1, ?_⟩
    intros
    refine ⟨_, toInts_ev y n2, ?_⟩
    intros
    refine ⟨_, specFewS_ev _ _, ?_⟩
    intros
    refine ⟨_, toInts_ev x n1, ?_⟩
    intros
    refine ⟨_, toInts_ev y n2, ?_⟩
    intros
    refine ⟨_, implFewS_ev _ _ n1 n2, ?_⟩
    intros
    refine ⟨_, eqInts_ev _, ?_⟩
    intros
    refine skip3 ?_
    intros
    refine ⟨_, toInts_ev x n1, ?_⟩
    intros
    refine ⟨_, eqInts_ev _, ?_⟩
    refine split_of (fun h => by simp at h) (fun _ => ?_)
    intros
    refine ⟨_, toInts_ev y n2, ?_⟩
    intros
    refine ⟨_, eqInts_ev _, ?_⟩
    refine split_of (fun h => by simp at h) (fun _ => ?_)
    intros
    refine ⟨_, _, markInts_ev _ 1 (by omega) (by omega), ?_⟩
    intros
    refine ⟨_, _, markInts_ev _ _ (by omega) (by omega), ?_⟩
    intros
    refine split_of (fun _ => ?_) (fun h => absurd (of_decide_eq_true (by simpa using h)) (by omega))
    intros
    refine ⟨_, eqInts_ev _, ?_⟩
    refine skip3 ?_
    intros
    refine ⟨_, _, markInts_ev _ 1 (by omega) (by omega), ?_⟩
    intros
    refine ⟨_, heldInts_ev _ 1 (by omega) (by omega), ?_⟩
    intros
    refine split_of (fun h => absurd (of_decide_eq_true h) (by omega)) (fun _ => split_of (fun h => by simp at h) (fun _ => ?_))
    intros
    refine ⟨_, toInts_ev x n1, ?_⟩
    intros
    refine ⟨_, toInts_ev y n2, ?_⟩
    intros
    refine ⟨_, implFewS_ev _ _ n1 n2, ?_⟩
    intros
    refine ⟨_, eqInts_ev _, ?_⟩
    refine skip3 ?_
    intros
    refine ⟨_, heldInts_ev _ 1 (by omega) (by omega), ?_⟩
    intros
    exact split_of (fun h => absurd (of_decide_eq_true h) (by omega)) (fun _ => split_of (fun h => by simp at h) (fun _ => rfl))
  refine @Eq.mpr _ _ (?_) key
  kernel_rfl
end Go.Proofs.Ytjicolekkojonaa
