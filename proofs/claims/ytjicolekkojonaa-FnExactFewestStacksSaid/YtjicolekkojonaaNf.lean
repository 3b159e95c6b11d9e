/- The law on stacks that are told. No statement is proved here. -/
import Derived.Test.YtjicolekkojonaaNd
namespace Go.Proofs.Ytjicolekkojonaa
open Go.RowKit
set_option linter.unusedVariables false
set_option linter.unusedSimpArgs false
set_option maxRecDepth 100000
set_option maxHeartbeats 4000000
noncomputable abbrev toIntsInv (x : List Int) (n : Nat) (σ : List Slot) : Option LoopInv := match n with
  | 3 => some ⟨3 :: hvAt Try.f17 3, List Int × Nat, fun s => [(3, .own (.slice 2 (.int .i64)) s.1), (4, .val (.dat (.int .i64) s.2))], fun s => Upto 0 x s.1 s.2, fun s => x.length - s.2⟩
  | _ => none
theorem toInts_ev (x : List Int) (hx : x.length ≤ 1048576) : Ev Try.prog 17 [aIs x] (compsOf [oIs] (x)) := by
  refine ev_of (l := [oIs]) (r := (x)) (types (resT) [] (toIntsInv x)) follows Try.func17 (by kernel_rfl) (by rw [Try.ntmps17]; exact Nat.le_of_ble_eq_true rfl) ?_
  have key : ((x.length ≤ 9223372036854775807 ∧ ∀ (x_1 : Int), List.Mem x_1 x → inR IntKind.i64 x_1) → ((x.length : Nat) : Int) ≤ 9223372036854775807 → (0 ≤ ((x.length : Nat) : Int) ∧ ((x.length : Nat) : Int) =
      ((x.length : Nat) : Int) ∧ ((x.length : Nat) : Int) ≤ 4294967296) ∧ (∃ (x0 : List Int × Nat), (Slot.own (Ty.slice 2 (Ty.int IntKind.i64)) (List.replicate (((x.length : Nat) : Int)).toNat 0) =
      Slot.own (Ty.slice 2 (Ty.int IntKind.i64)) x0.fst ∧ Slot.val (D.dat (Ty.int IntKind.i64) 0) = Slot.val (D.dat (Ty.int IntKind.i64) ((x0.snd : Nat) : Int))) ∧ Upto 0 x x0.fst x0.snd) ∧ ∀ (x_1 : List
      Int × Nat), Upto 0 x x_1.fst x_1.snd → (x_1.fst.length ≤ 9223372036854775807 ∧ ∀ (x : Int), List.Mem x x_1.fst → inR IntKind.i64 x) → inR IntKind.i64 ((x_1.snd : Nat) : Int) → ((x.length : Nat) :
      Int) ≤ 9223372036854775807 → split (decide (((x_1.snd : Nat) : Int) < ((x.length : Nat) : Int))) ((0 ≤ ((x_1.snd : Nat) : Int) ∧ ((x_1.snd : Nat) : Int) < ((x.length : Nat) : Int)) ∧ (inR IntKind.i64
      (x.getD (((x_1.snd : Nat) : Int)).toNat 0) → (0 ≤ ((x_1.snd : Nat) : Int) ∧ ((x_1.snd : Nat) : Int) < ((x_1.fst.length : Nat) : Int)) ∧ (-9223372036854775808 ≤ ((x_1.snd : Nat) : Int) + 1 ∧ ((x_1.snd
      : Nat) : Int) + 1 ≤ 9223372036854775807) ∧ ∃ (x' : List Int × Nat), (Slot.own (Ty.slice 2 (Ty.int IntKind.i64)) (x_1.fst.set (((x_1.snd : Nat) : Int)).toNat (x.getD (((x_1.snd : Nat) : Int)).toNat
      0)) = Slot.own (Ty.slice 2 (Ty.int IntKind.i64)) x'.fst ∧ Slot.val (D.dat (Ty.int IntKind.i64) (((x_1.snd : Nat) : Int) + 1)) = Slot.val (D.dat (Ty.int IntKind.i64) ((x'.snd : Nat) : Int))) ∧ Upto 0
      x x'.fst x'.snd ∧ x.length - x'.snd < x.length - x_1.snd)) (x_1.fst = x)) := by
    intro _ _
    simp only [Int.toNat_natCast]
    refine ⟨⟨by omega, trivial, by omega⟩, ⟨(List.replicate x.length 0, 0), ⟨rfl, rfl⟩, ⟨Nat.zero_le _, by simp, fun j hj => absurd hj (Nat.not_lt_zero _)⟩⟩, fun ⟨y, i⟩ hu _ _ _ => split_of (fun h => ?_) (fun h => ?_)⟩
    · have h : ((i : Nat) : Int) < x.length := of_decide_eq_true h
      have hl := hu.len
      simp only at hl
      refine ⟨by omega, ?_⟩
      intros
      exact ⟨by simp only; omega, by simp only; omega, (y.set i (x.getD i 0), i + 1), ⟨rfl, rfl⟩, hu.next (by omega), by show x.length - (i + 1) < x.length - i; omega⟩
    · have h : ¬ ((i : Nat) : Int) < x.length := of_decide_eq_false h
      exact hu.done (by omega)
  refine @Eq.mpr _ _ (?_) key
  kernel_rfl
theorem lawCheck_ev (x y s : List Int) : Ev Try.prog 4 [aIs x, aIs y, aIs s] (compsOf [rB] (true)) := by
  refine ev_of (l := [rB]) (r := (true)) (types (resT) [] (fun _ _ => none)) follows Try.func4 (by kernel_rfl) (by rw [Try.ntmps4]; exact Nat.le_of_ble_eq_true rfl) ?_
  have key : ((x.length ≤ 9223372036854775807 ∧ ∀ (x_1 : Int), List.Mem x_1 x → inR IntKind.i64 x_1) → (y.length ≤ 9223372036854775807 ∧ ∀ (x : Int), List.Mem x y → inR IntKind.i64 x) → (s.length ≤
      9223372036854775807 ∧ ∀ (x : Int), List.Mem x s → inR IntKind.i64 x) → ((x.length : Nat) : Int) ≤ 9223372036854775807 → split (decide (1048576 < ((x.length : Nat) : Int))) (true = true) (((y.length :
      Nat) : Int) ≤ 9223372036854775807 → split (decide (1048576 < ((y.length : Nat) : Int))) (true = true) (((s.length : Nat) : Int) ≤ 9223372036854775807 → split (decide (1048576 < ((s.length : Nat) :
      Int))) (true = true) (∃ (r : List Int), Ev Try.prog 17 [Arg.imm (D.dat (Ty.slice 2 (Ty.int IntKind.i64)) x)] (compsOf [(true, Ty.slice 2 (Ty.int IntKind.i64))] r) ∧ ((r.length ≤ 9223372036854775807 ∧
      ∀ (x : Int), List.Mem x r → inR IntKind.i64 x) → ∃ (r_1 : List Int), Ev Try.prog 17 [Arg.imm (D.dat (Ty.slice 2 (Ty.int IntKind.i64)) y)] (compsOf [(true, Ty.slice 2 (Ty.int IntKind.i64))] r_1) ∧
      ((r_1.length ≤ 9223372036854775807 ∧ ∀ (x : Int), List.Mem x r_1 → inR IntKind.i64 x) → ∃ (r_2 : List Int), Ev Try.prog 17 [Arg.imm (D.dat (Ty.slice 2 (Ty.int IntKind.i64)) s)] (compsOf [(true,
      Ty.slice 2 (Ty.int IntKind.i64))] r_2) ∧ ((r_2.length ≤ 9223372036854775807 ∧ ∀ (x : Int), List.Mem x r_2 → inR IntKind.i64 x) → ∃ (r_3 : Bool × Int), Ev Try.prog 16 [Arg.imm (D.dat (Ty.slice 2
      (Ty.int IntKind.i64)) r), Arg.imm (D.dat (Ty.slice 2 (Ty.int IntKind.i64)) r_1), Arg.imm (D.dat (Ty.slice 2 (Ty.int IntKind.i64)) r_2)] (compsOf [(false, Ty.bool), (false, Ty.int IntKind.i64)] r_3) ∧
      (inR IntKind.i64 r_3.snd → ∃ (r : List Int), Ev Try.prog 17 [Arg.imm (D.dat (Ty.slice 2 (Ty.int IntKind.i64)) x)] (compsOf [(true, Ty.slice 2 (Ty.int IntKind.i64))] r) ∧ ((r.length ≤
      9223372036854775807 ∧ ∀ (x : Int), List.Mem x r → inR IntKind.i64 x) → ∃ (r_4 : List Int), Ev Try.prog 17 [Arg.imm (D.dat (Ty.slice 2 (Ty.int IntKind.i64)) y)] (compsOf [(true, Ty.slice 2 (Ty.int
      IntKind.i64))] r_4) ∧ ((r_4.length ≤ 9223372036854775807 ∧ ∀ (x : Int), List.Mem x r_4 → inR IntKind.i64 x) → ∃ (r_5 : List Int), Ev Try.prog 17 [Arg.imm (D.dat (Ty.slice 2 (Ty.int IntKind.i64)) s)]
      (compsOf [(true, Ty.slice 2 (Ty.int IntKind.i64))] r_5) ∧ ((r_5.length ≤ 9223372036854775807 ∧ ∀ (x : Int), List.Mem x r_5 → inR IntKind.i64 x) → ∃ (r_6 : Bool × Int), Ev Try.prog 18 [Arg.imm (D.dat
      (Ty.slice 2 (Ty.int IntKind.i64)) r), Arg.imm (D.dat (Ty.slice 2 (Ty.int IntKind.i64)) r_4), Arg.imm (D.dat (Ty.slice 2 (Ty.int IntKind.i64)) r_5)] (compsOf [(false, Ty.bool), (false, Ty.int
      IntKind.i64)] r_6) ∧ (inR IntKind.i64 r_6.snd → split (!!r_6.fst == r_3.fst) (split (!decide (r_6.snd = r_3.snd)) (false = true) (∃ (r_7 : List Int), Ev Try.prog 17 [Arg.imm (D.dat (Ty.slice 2
      (Ty.int IntKind.i64)) x)] (compsOf [(true, Ty.slice 2 (Ty.int IntKind.i64))] r_7) ∧ ((r_7.length ≤ 9223372036854775807 ∧ ∀ (x : Int), List.Mem x r_7 → inR IntKind.i64 x) → ∃ (r_8 : Bool), Ev Try.prog
      11 [Arg.imm (D.dat (Ty.slice 2 (Ty.int IntKind.i64)) r), Arg.imm (D.dat (Ty.slice 2 (Ty.int IntKind.i64)) r_7)] (compsOf [(false, Ty.bool)] r_8) ∧ split (!r_8) (false = true) (∃ (r : List Int), Ev
      Try.prog 17 [Arg.imm (D.dat (Ty.slice 2 (Ty.int IntKind.i64)) y)] (compsOf [(true, Ty.slice 2 (Ty.int IntKind.i64))] r) ∧ ((r.length ≤ 9223372036854775807 ∧ ∀ (x : Int), List.Mem x r → inR
      IntKind.i64 x) → ∃ (r_9 : Bool), Ev Try.prog 11 [Arg.imm (D.dat (Ty.slice 2 (Ty.int IntKind.i64)) r_4), Arg.imm (D.dat (Ty.slice 2 (Ty.int IntKind.i64)) r)] (compsOf [(false, Ty.bool)] r_9) ∧ split
      (!r_9) (false = true) (∃ (r : List Int), Ev Try.prog 17 [Arg.imm (D.dat (Ty.slice 2 (Ty.int IntKind.i64)) s)] (compsOf [(true, Ty.slice 2 (Ty.int IntKind.i64))] r) ∧ ((r.length ≤ 9223372036854775807
      ∧ ∀ (x : Int), List.Mem x r → inR IntKind.i64 x) → ∃ (r_10 : Bool), Ev Try.prog 11 [Arg.imm (D.dat (Ty.slice 2 (Ty.int IntKind.i64)) r_5), Arg.imm (D.dat (Ty.slice 2 (Ty.int IntKind.i64)) r)]
      (compsOf [(false, Ty.bool)] r_10) ∧ split (!r_10) (false = true) (true = true)))))))) (false = true))))))))))))) := by
    intros
    refine split_of (fun _ => rfl) (fun h1 => ?_)
    intros
    refine split_of (fun _ => rfl) (fun h2 => ?_)
    intros
    refine split_of (fun _ => rfl) (fun h3 => ?_)
    have h1 := of_decide_eq_false h1
    have h2 := of_decide_eq_false h2
    have h3 := of_decide_eq_false h3
    have n1 : x.length ≤ 1048576 := by omega
    have n2 : y.length ≤ 1048576 := by omega
    have n3 : s.length ≤ 1048576 := by omega
    intros
    refine ⟨_, toInts_ev x n1, ?_⟩
    intros
    refine ⟨_, toInts_ev y n2, ?_⟩
    intros
    refine ⟨_, toInts_ev s n3, ?_⟩
    intros
    refine ⟨_, specCheck_ev _ _ _, ?_⟩
    intros
    refine ⟨_, toInts_ev x n1, ?_⟩
    intros
    refine ⟨_, toInts_ev y n2, ?_⟩
    intros
    refine ⟨_, toInts_ev s n3, ?_⟩
    intros
    refine ⟨_, implCheck_ev _ _ _ n1 n2, ?_⟩
    intros
    refine split_of (fun _ => split_of (fun h => by simp at h) (fun _ => ?_)) (fun h => by simp at h)
    intros
    refine ⟨_, toInts_ev x n1, ?_⟩
    intros
    refine ⟨_, eqInts_ev _, ?_⟩
    refine split_of (fun h => by simp at h) (fun _ => ?_)
    intros
    refine ⟨_, toInts_ev y n2, ?_⟩
    intros
    refine ⟨_, eqInts_ev _, ?_⟩
    refine split_of (fun h => by simp at h) (fun _ => ?_)
    intros
    refine ⟨_, toInts_ev s n3, ?_⟩
    intros
    refine ⟨_, eqInts_ev _, ?_⟩
    exact split_of (fun h => by simp at h) (fun _ => rfl)
  refine @Eq.mpr _ _ (?_) key
  kernel_rfl
end Go.Proofs.Ytjicolekkojonaa
