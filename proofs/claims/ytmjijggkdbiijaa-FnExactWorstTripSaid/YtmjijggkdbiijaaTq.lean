/- The law on the worst trip. No statement is proved here. -/
import Derived.Test.YtmjijggkdbiijaaTo
namespace Go.Proofs.Ytmjijggkdbiijaa
open Go.RowKit
set_option linter.unusedVariables false
set_option linter.unusedSimpArgs false
set_option maxRecDepth 100000
set_option maxHeartbeats 4000000
noncomputable abbrev eqA2Inv (n : Nat) (σ : List Slot) : Option LoopInv := match n with
  | 2 => some ⟨5 :: hvAt Try.f36 2, Nat, fun k => [(5, .val (.dat iT (k : Int)))], fun k => k ≤ 2, fun k => 2 - k⟩
  | _ => none
theorem eqA2_ev (p : List Int) : Ev Try.prog 36 [.imm (.dat pT p), .imm (.dat pT p)] (compsOf [rB] (true)) := by
  refine ev_of (l := [rB]) (r := (true)) (types (resT) [] (eqA2Inv)) follows Try.func36 (by kernel_rfl) (by rw [Try.ntmps36]; exact Nat.le_of_ble_eq_true rfl) ?_
  have key : ((p.length = 2 ∧ ∀ (x : Int), List.Mem x p → inR IntKind.i64 x) → (p.length = 2 ∧ ∀ (x : Int), List.Mem x p → inR IntKind.i64 x) → (∃ (x0 : Nat), Slot.val (D.dat (Ty.int IntKind.i64) 0) = Slot.val
      (D.dat iT ((x0 : Nat) : Int)) ∧ x0 ≤ 2) ∧ ∀ (x : Nat), x ≤ 2 → inR IntKind.i64 ((x : Nat) : Int) → split (decide (((x : Nat) : Int) < 2)) ((0 ≤ ((x : Nat) : Int) ∧ ((x : Nat) : Int) < ((2 : Nat) :
      Int)) ∧ (inR IntKind.i64 (p.getD (((x : Nat) : Int)).toNat 0) → (0 ≤ ((x : Nat) : Int) ∧ ((x : Nat) : Int) < ((2 : Nat) : Int)) ∧ (inR IntKind.i64 (p.getD (((x : Nat) : Int)).toNat 0) → split
      (!decide (p.getD (((x : Nat) : Int)).toNat 0 = p.getD (((x : Nat) : Int)).toNat 0)) (false = true) ((-9223372036854775808 ≤ ((x : Nat) : Int) + 1 ∧ ((x : Nat) : Int) + 1 ≤ 9223372036854775807) ∧ ∃
      (x' : Nat), Slot.val (D.dat (Ty.int IntKind.i64) (((x : Nat) : Int) + 1)) = Slot.val (D.dat iT ((x' : Nat) : Int)) ∧ x' ≤ 2 ∧ 2 - x' < 2 - x)))) (true = true)) := by
    intros
    refine ⟨⟨0, rfl, Nat.zero_le _⟩, fun n hn _ => split_of (fun h => ?_) (fun h => rfl)⟩
    have h := of_decide_eq_true h
    refine ⟨by omega, fun _ => ⟨by omega, fun _ => split_of (fun h2 => ?_) (fun h2 => ⟨by omega, n + 1, by simp, by omega, by omega⟩)⟩⟩
    simp at h2
  refine @Eq.mpr _ _ (?_) key
  kernel_rfl
theorem lawWorst_ev (q : Sq) (l : List Int) : Ev Try.prog 8 [aQ0 q, aIs l] (compsOf [rB] (true)) := by
  refine ev_of (l := [rB]) (r := (true)) (types (resT) [] (fun _ _ => none)) follows Try.func8 (by kernel_rfl) (by rw [Try.ntmps8]; exact Nat.le_of_ble_eq_true rfl) ?_
  have key : (inR IntKind.i8 q.fst → inR IntKind.i8 q.snd.fst → (q.snd.snd.length ≤ 9223372036854775807 ∧ ∀ (x : Int × Int × Int × Int), List.Mem x q.snd.snd → inR IntKind.i8 x.fst ∧ inR IntKind.i8 x.snd.fst ∧ inR
      IntKind.i8 x.snd.snd.fst ∧ inR IntKind.i8 x.snd.snd.snd) → (l.length ≤ 9223372036854775807 ∧ ∀ (x : Int), List.Mem x l → inR IntKind.i64 x) → ((l.length : Nat) : Int) ≤ 9223372036854775807 → split
      (decide (1048576 < ((l.length : Nat) : Int))) (true = true) (inR IntKind.i8 q.fst → inR IntKind.i8 q.snd.fst → (q.snd.snd.length ≤ 9223372036854775807 ∧ ∀ (x : Int × Int × Int × Int), List.Mem x
      q.snd.snd → inR IntKind.i8 x.fst ∧ inR IntKind.i8 x.snd.fst ∧ inR IntKind.i8 x.snd.snd.fst ∧ inR IntKind.i8 x.snd.snd.snd) → ∃ (r : Int), Ev Try.prog 14 [Arg.imm (D.dat (sqT 38) q), Arg.imm (D.dat
      (Ty.int IntKind.i64) 1048576)] (compsOf [(false, Ty.int IntKind.i64)] r) ∧ (inR IntKind.i64 r → split (decide (r < 0)) (true = true) (inR IntKind.i8 q.fst → inR IntKind.i8 q.snd.fst →
      (q.snd.snd.length ≤ 9223372036854775807 ∧ ∀ (x : Int × Int × Int × Int), List.Mem x q.snd.snd → inR IntKind.i8 x.fst ∧ inR IntKind.i8 x.snd.fst ∧ inR IntKind.i8 x.snd.snd.fst ∧ inR IntKind.i8
      x.snd.snd.snd) → ∃ (r : Int × Int × List (Int × Int × Int × Int)), Ev Try.prog 16 [Arg.imm (D.dat (sqT 38) q)] (compsOf [(true, (Ty.int IntKind.i8).prod ((Ty.int IntKind.i8).prod (Ty.slice 41
      ((Ty.int IntKind.i8).prod ((Ty.int IntKind.i8).prod ((Ty.int IntKind.i8).prod (Ty.int IntKind.i8)))))))] r) ∧ (inR IntKind.i8 r.fst → inR IntKind.i8 r.snd.fst → (r.snd.snd.length ≤
      9223372036854775807 ∧ ∀ (x : Int × Int × Int × Int), List.Mem x r.snd.snd → inR IntKind.i8 x.fst ∧ inR IntKind.i8 x.snd.fst ∧ inR IntKind.i8 x.snd.snd.fst ∧ inR IntKind.i8 x.snd.snd.snd) → ∃ (r_1 :
      List Int), Ev Try.prog 17 [Arg.imm (D.dat (Ty.slice 2 (Ty.int IntKind.i64)) l)] (compsOf [(true, Ty.slice 2 (Ty.int IntKind.i64))] r_1) ∧ ((r_1.length ≤ 9223372036854775807 ∧ ∀ (x : Int), List.Mem x
      r_1 → inR IntKind.i64 x) → ∃ (r_2 : List Int × Int × Int), Ev Try.prog 34 [Arg.imm (D.dat (sqT 41) r), Arg.imm (D.dat (Ty.slice 2 (Ty.int IntKind.i64)) r_1)] (compsOf [(false, Ty.arr 2 (Ty.int
      IntKind.i64)), (false, Ty.int IntKind.i64), (false, Ty.int IntKind.i64)] r_2) ∧ ((r_2.fst.length = 2 ∧ ∀ (x : Int), List.Mem x r_2.fst → inR IntKind.i64 x) → inR IntKind.i64 r_2.snd.fst → inR
      IntKind.i64 r_2.snd.snd → inR IntKind.i8 q.fst → inR IntKind.i8 q.snd.fst → (q.snd.snd.length ≤ 9223372036854775807 ∧ ∀ (x : Int × Int × Int × Int), List.Mem x q.snd.snd → inR IntKind.i8 x.fst ∧ inR
      IntKind.i8 x.snd.fst ∧ inR IntKind.i8 x.snd.snd.fst ∧ inR IntKind.i8 x.snd.snd.snd) → ∃ (r : Int × Int × List (Int × Int × Int × Int)), Ev Try.prog 16 [Arg.imm (D.dat (sqT 38) q)] (compsOf [(true,
      (Ty.int IntKind.i8).prod ((Ty.int IntKind.i8).prod (Ty.slice 41 ((Ty.int IntKind.i8).prod ((Ty.int IntKind.i8).prod ((Ty.int IntKind.i8).prod (Ty.int IntKind.i8)))))))] r) ∧ (inR IntKind.i8 r.fst →
      inR IntKind.i8 r.snd.fst → (r.snd.snd.length ≤ 9223372036854775807 ∧ ∀ (x : Int × Int × Int × Int), List.Mem x r.snd.snd → inR IntKind.i8 x.fst ∧ inR IntKind.i8 x.snd.fst ∧ inR IntKind.i8
      x.snd.snd.fst ∧ inR IntKind.i8 x.snd.snd.snd) → ∃ (r_3 : List Int), Ev Try.prog 17 [Arg.imm (D.dat (Ty.slice 2 (Ty.int IntKind.i64)) l)] (compsOf [(true, Ty.slice 2 (Ty.int IntKind.i64))] r_3) ∧
      ((r_3.length ≤ 9223372036854775807 ∧ ∀ (x : Int), List.Mem x r_3 → inR IntKind.i64 x) → inR IntKind.i8 r.fst → inR IntKind.i8 r.snd.fst → (r.snd.snd.length ≤ 9223372036854775807 ∧ ∀ (x : Int × Int ×
      Int × Int), List.Mem x r.snd.snd → inR IntKind.i8 x.fst ∧ inR IntKind.i8 x.snd.fst ∧ inR IntKind.i8 x.snd.snd.fst ∧ inR IntKind.i8 x.snd.snd.snd) → ∃ (r_4 : List Int × Int × Int), Ev Try.prog 35
      [Arg.imm (D.dat (sqT 41) r), Arg.imm (D.dat (Ty.slice 2 (Ty.int IntKind.i64)) r_3)] (compsOf [(false, Ty.arr 2 (Ty.int IntKind.i64)), (false, Ty.int IntKind.i64), (false, Ty.int IntKind.i64)] r_4) ∧
      ((r_4.fst.length = 2 ∧ ∀ (x : Int), List.Mem x r_4.fst → inR IntKind.i64 x) → inR IntKind.i64 r_4.snd.fst → inR IntKind.i64 r_4.snd.snd → (r_4.fst.length = 2 ∧ ∀ (x : Int), List.Mem x r_4.fst → inR
      IntKind.i64 x) → (r_2.fst.length = 2 ∧ ∀ (x : Int), List.Mem x r_2.fst → inR IntKind.i64 x) → ∃ (r_5 : Bool), Ev Try.prog 36 [Arg.imm (D.dat (Ty.arr 2 (Ty.int IntKind.i64)) r_4.fst), Arg.imm (D.dat
      (Ty.arr 2 (Ty.int IntKind.i64)) r_2.fst)] (compsOf [(false, Ty.bool)] r_5) ∧ split (!!r_5) (split (!!decide (r_4.snd.fst = r_2.snd.fst)) (split (!decide (r_4.snd.snd = r_2.snd.snd)) (false = true)
      (inR IntKind.i8 r.fst → inR IntKind.i8 r.snd.fst → (r.snd.snd.length ≤ 9223372036854775807 ∧ ∀ (x : Int × Int × Int × Int), List.Mem x r.snd.snd → inR IntKind.i8 x.fst ∧ inR IntKind.i8 x.snd.fst ∧
      inR IntKind.i8 x.snd.snd.fst ∧ inR IntKind.i8 x.snd.snd.snd) → inR IntKind.i8 q.fst → inR IntKind.i8 q.snd.fst → (q.snd.snd.length ≤ 9223372036854775807 ∧ ∀ (x : Int × Int × Int × Int), List.Mem x
      q.snd.snd → inR IntKind.i8 x.fst ∧ inR IntKind.i8 x.snd.fst ∧ inR IntKind.i8 x.snd.snd.fst ∧ inR IntKind.i8 x.snd.snd.snd) → ∃ (r_6 : Int × Int × List (Int × Int × Int × Int)), Ev Try.prog 16
      [Arg.imm (D.dat (sqT 38) q)] (compsOf [(true, (Ty.int IntKind.i8).prod ((Ty.int IntKind.i8).prod (Ty.slice 41 ((Ty.int IntKind.i8).prod ((Ty.int IntKind.i8).prod ((Ty.int IntKind.i8).prod (Ty.int
      IntKind.i8)))))))] r_6) ∧ (inR IntKind.i8 r_6.fst → inR IntKind.i8 r_6.snd.fst → (r_6.snd.snd.length ≤ 9223372036854775807 ∧ ∀ (x : Int × Int × Int × Int), List.Mem x r_6.snd.snd → inR IntKind.i8
      x.fst ∧ inR IntKind.i8 x.snd.fst ∧ inR IntKind.i8 x.snd.snd.fst ∧ inR IntKind.i8 x.snd.snd.snd) → ∃ (r_7 : Bool), Ev Try.prog 19 [Arg.imm (D.dat (sqT 41) r), Arg.imm (D.dat (sqT 41) r_6)] (compsOf
      [(false, Ty.bool)] r_7) ∧ split (!r_7) (false = true) (∃ (r : List Int), Ev Try.prog 17 [Arg.imm (D.dat (Ty.slice 2 (Ty.int IntKind.i64)) l)] (compsOf [(true, Ty.slice 2 (Ty.int IntKind.i64))] r) ∧
      ((r.length ≤ 9223372036854775807 ∧ ∀ (x : Int), List.Mem x r → inR IntKind.i64 x) → ∃ (r_8 : Bool), Ev Try.prog 20 [Arg.imm (D.dat (Ty.slice 2 (Ty.int IntKind.i64)) r_3), Arg.imm (D.dat (Ty.slice 2
      (Ty.int IntKind.i64)) r)] (compsOf [(false, Ty.bool)] r_8) ∧ split (!r_8) (false = true) (true = true)))))) (false = true)) (false = true))))))))))) := by
    intros
    refine split_of (fun _ => rfl) (fun h0 => ?_)
    have hl0 : l.length ≤ 1048576 := by have := of_decide_eq_false h0; omega
    intros
    refine ⟨_, szSquare_ev q, fun _ => split_of (fun _ => rfl) (fun h => ?_)⟩
    have hl := sz_pos (of_decide_eq_false h)
    intros
    refine ⟨_, toSquare_ev q hl, ?_⟩
    intros
    refine ⟨_, toInts_ev l hl0, ?_⟩
    intros
    refine ⟨_, specWorst_ev _ _, ?_⟩
    intros
    refine ⟨_, toSquare_ev q hl, ?_⟩
    intros
    refine ⟨_, toInts_ev l hl0, ?_⟩
    intros
    refine ⟨_, implWorst_ev _ _, ?_⟩
    intros
    refine ⟨_, eqA2_ev _, ?_⟩
    refine split_of (fun _ => ?_) (fun h => by simp at h)
    refine split_of (fun _ => ?_) (fun h => by simp at h)
    refine split_of (fun h => by simp at h) (fun _ => ?_)
    intros
    refine ⟨_, toSquare_ev q hl, ?_⟩
    intros
    refine ⟨_, eqSquare_ev _, ?_⟩
    refine split_of (fun h => by simp at h) (fun _ => ?_)
    intros
    refine ⟨_, toInts_ev l hl0, ?_⟩
    intros
    refine ⟨_, eqInts_ev _, ?_⟩
    exact split_of (fun h => by simp at h) (fun _ => rfl)
  refine @Eq.mpr _ _ (?_) key
  kernel_rfl
end Go.Proofs.Ytmjijggkdbiijaa
