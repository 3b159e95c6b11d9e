/- The law on valid levels. No statement is proved here. -/
import Derived.Test.YtmjijggkdbiijaaSf
namespace Go.Proofs.Ytmjijggkdbiijaa
open Go.RowKit
set_option linter.unusedVariables false
set_option linter.unusedSimpArgs false
set_option maxRecDepth 100000
set_option maxHeartbeats 4000000
theorem lawValidLevels_ev (q : Sq) (l : List Int) : Ev Try.prog 3 [aQ0 q, aIs l] (compsOf [rB] (true)) := by
  refine ev_of (l := [rB]) (r := (true)) (types (resT) [] (fun _ _ => none)) follows Try.func3 (by kernel_rfl) (by rw [Try.ntmps3]; exact Nat.le_of_ble_eq_true rfl) ?_
  have key : (inR IntKind.i8 q.fst → inR IntKind.i8 q.snd.fst → (q.snd.snd.length ≤ 9223372036854775807 ∧ ∀ (x : Int × Int × Int × Int), List.Mem x q.snd.snd → inR IntKind.i8 x.fst ∧ inR IntKind.i8 x.snd.fst ∧ inR
      IntKind.i8 x.snd.snd.fst ∧ inR IntKind.i8 x.snd.snd.snd) → (l.length ≤ 9223372036854775807 ∧ ∀ (x : Int), List.Mem x l → inR IntKind.i64 x) → ((l.length : Nat) : Int) ≤ 9223372036854775807 → split
      (decide (1048576 < ((l.length : Nat) : Int))) (true = true) (inR IntKind.i8 q.fst → inR IntKind.i8 q.snd.fst → (q.snd.snd.length ≤ 9223372036854775807 ∧ ∀ (x : Int × Int × Int × Int), List.Mem x
      q.snd.snd → inR IntKind.i8 x.fst ∧ inR IntKind.i8 x.snd.fst ∧ inR IntKind.i8 x.snd.snd.fst ∧ inR IntKind.i8 x.snd.snd.snd) → ∃ (r : Int), Ev Try.prog 14 [Arg.imm (D.dat (sqT 38) q), Arg.imm (D.dat
      (Ty.int IntKind.i64) 1048576)] (compsOf [(false, Ty.int IntKind.i64)] r) ∧ (inR IntKind.i64 r → split (decide (r < 0)) (true = true) (inR IntKind.i8 q.fst → inR IntKind.i8 q.snd.fst →
      (q.snd.snd.length ≤ 9223372036854775807 ∧ ∀ (x : Int × Int × Int × Int), List.Mem x q.snd.snd → inR IntKind.i8 x.fst ∧ inR IntKind.i8 x.snd.fst ∧ inR IntKind.i8 x.snd.snd.fst ∧ inR IntKind.i8
      x.snd.snd.snd) → ∃ (r : Int × Int × List (Int × Int × Int × Int)), Ev Try.prog 16 [Arg.imm (D.dat (sqT 38) q)] (compsOf [(true, (Ty.int IntKind.i8).prod ((Ty.int IntKind.i8).prod (Ty.slice 41
      ((Ty.int IntKind.i8).prod ((Ty.int IntKind.i8).prod ((Ty.int IntKind.i8).prod (Ty.int IntKind.i8)))))))] r) ∧ (inR IntKind.i8 r.fst → inR IntKind.i8 r.snd.fst → (r.snd.snd.length ≤
      9223372036854775807 ∧ ∀ (x : Int × Int × Int × Int), List.Mem x r.snd.snd → inR IntKind.i8 x.fst ∧ inR IntKind.i8 x.snd.fst ∧ inR IntKind.i8 x.snd.snd.fst ∧ inR IntKind.i8 x.snd.snd.snd) → ∃ (r_1 :
      List Int), Ev Try.prog 17 [Arg.imm (D.dat (Ty.slice 2 (Ty.int IntKind.i64)) l)] (compsOf [(true, Ty.slice 2 (Ty.int IntKind.i64))] r_1) ∧ ((r_1.length ≤ 9223372036854775807 ∧ ∀ (x : Int), List.Mem x
      r_1 → inR IntKind.i64 x) → ∃ (r_2 : Bool), Ev Try.prog 15 [Arg.imm (D.dat (sqT 41) r), Arg.imm (D.dat (Ty.slice 2 (Ty.int IntKind.i64)) r_1)] (compsOf [(false, Ty.bool)] r_2) ∧ (inR IntKind.i8 q.fst
      → inR IntKind.i8 q.snd.fst → (q.snd.snd.length ≤ 9223372036854775807 ∧ ∀ (x : Int × Int × Int × Int), List.Mem x q.snd.snd → inR IntKind.i8 x.fst ∧ inR IntKind.i8 x.snd.fst ∧ inR IntKind.i8
      x.snd.snd.fst ∧ inR IntKind.i8 x.snd.snd.snd) → ∃ (r : Int × Int × List (Int × Int × Int × Int)), Ev Try.prog 16 [Arg.imm (D.dat (sqT 38) q)] (compsOf [(true, (Ty.int IntKind.i8).prod ((Ty.int
      IntKind.i8).prod (Ty.slice 41 ((Ty.int IntKind.i8).prod ((Ty.int IntKind.i8).prod ((Ty.int IntKind.i8).prod (Ty.int IntKind.i8)))))))] r) ∧ (inR IntKind.i8 r.fst → inR IntKind.i8 r.snd.fst →
      (r.snd.snd.length ≤ 9223372036854775807 ∧ ∀ (x : Int × Int × Int × Int), List.Mem x r.snd.snd → inR IntKind.i8 x.fst ∧ inR IntKind.i8 x.snd.fst ∧ inR IntKind.i8 x.snd.snd.fst ∧ inR IntKind.i8
      x.snd.snd.snd) → ∃ (r_3 : List Int), Ev Try.prog 17 [Arg.imm (D.dat (Ty.slice 2 (Ty.int IntKind.i64)) l)] (compsOf [(true, Ty.slice 2 (Ty.int IntKind.i64))] r_3) ∧ ((r_3.length ≤ 9223372036854775807
      ∧ ∀ (x : Int), List.Mem x r_3 → inR IntKind.i64 x) → inR IntKind.i8 r.fst → inR IntKind.i8 r.snd.fst → (r.snd.snd.length ≤ 9223372036854775807 ∧ ∀ (x : Int × Int × Int × Int), List.Mem x r.snd.snd →
      inR IntKind.i8 x.fst ∧ inR IntKind.i8 x.snd.fst ∧ inR IntKind.i8 x.snd.snd.fst ∧ inR IntKind.i8 x.snd.snd.snd) → ∃ (r_4 : Bool), Ev Try.prog 18 [Arg.imm (D.dat (sqT 41) r), Arg.imm (D.dat (Ty.slice 2
      (Ty.int IntKind.i64)) r_3)] (compsOf [(false, Ty.bool)] r_4) ∧ split (!r_4 == r_2) (false = true) (inR IntKind.i8 r.fst → inR IntKind.i8 r.snd.fst → (r.snd.snd.length ≤ 9223372036854775807 ∧ ∀ (x :
      Int × Int × Int × Int), List.Mem x r.snd.snd → inR IntKind.i8 x.fst ∧ inR IntKind.i8 x.snd.fst ∧ inR IntKind.i8 x.snd.snd.fst ∧ inR IntKind.i8 x.snd.snd.snd) → inR IntKind.i8 q.fst → inR IntKind.i8
      q.snd.fst → (q.snd.snd.length ≤ 9223372036854775807 ∧ ∀ (x : Int × Int × Int × Int), List.Mem x q.snd.snd → inR IntKind.i8 x.fst ∧ inR IntKind.i8 x.snd.fst ∧ inR IntKind.i8 x.snd.snd.fst ∧ inR
      IntKind.i8 x.snd.snd.snd) → ∃ (r_5 : Int × Int × List (Int × Int × Int × Int)), Ev Try.prog 16 [Arg.imm (D.dat (sqT 38) q)] (compsOf [(true, (Ty.int IntKind.i8).prod ((Ty.int IntKind.i8).prod
      (Ty.slice 41 ((Ty.int IntKind.i8).prod ((Ty.int IntKind.i8).prod ((Ty.int IntKind.i8).prod (Ty.int IntKind.i8)))))))] r_5) ∧ (inR IntKind.i8 r_5.fst → inR IntKind.i8 r_5.snd.fst → (r_5.snd.snd.length
      ≤ 9223372036854775807 ∧ ∀ (x : Int × Int × Int × Int), List.Mem x r_5.snd.snd → inR IntKind.i8 x.fst ∧ inR IntKind.i8 x.snd.fst ∧ inR IntKind.i8 x.snd.snd.fst ∧ inR IntKind.i8 x.snd.snd.snd) → ∃ (r_6
      : Bool), Ev Try.prog 19 [Arg.imm (D.dat (sqT 41) r), Arg.imm (D.dat (sqT 41) r_5)] (compsOf [(false, Ty.bool)] r_6) ∧ split (!r_6) (false = true) (∃ (r : List Int), Ev Try.prog 17 [Arg.imm (D.dat
      (Ty.slice 2 (Ty.int IntKind.i64)) l)] (compsOf [(true, Ty.slice 2 (Ty.int IntKind.i64))] r) ∧ ((r.length ≤ 9223372036854775807 ∧ ∀ (x : Int), List.Mem x r → inR IntKind.i64 x) → ∃ (r_7 : Bool), Ev
      Try.prog 20 [Arg.imm (D.dat (Ty.slice 2 (Ty.int IntKind.i64)) r_3), Arg.imm (D.dat (Ty.slice 2 (Ty.int IntKind.i64)) r)] (compsOf [(false, Ty.bool)] r_7) ∧ split (!r_7) (false = true) (true =
      true)))))))))))))) := by
    intros
    refine split_of (fun _ => rfl) (fun h0 => ?_)
    have hl0 : l.length ≤ 1048576 := by have := of_decide_eq_false h0; omega
    intros
    refine ⟨_, szSquare_ev q, fun _ => split_of (fun _ => rfl) (fun h => ?_)⟩
    have hl := sz_pos (of_decide_eq_false h)
    intros
    refine ⟨_, toSquare_ev q hl, ?_⟩
    intros
    refine ⟨_, toInts_ev l hl0, ?_⟩
    intros
    refine ⟨_, specValidLevels_ev _ _, ?_⟩
    intros
    refine ⟨_, toSquare_ev q hl, ?_⟩
    intros
    refine ⟨_, toInts_ev l hl0, ?_⟩
    intros
    refine ⟨_, implValidLevels_ev _ _, ?_⟩
    intros
    refine split_of (fun h => by simp at h) (fun _ => ?_)
    intros
    refine ⟨_, toSquare_ev q hl, ?_⟩
    intros
    refine ⟨_, eqSquare_ev _, ?_⟩
    refine split_of (fun h => by simp at h) (fun _ => ?_)
    intros
    refine ⟨_, toInts_ev l hl0, ?_⟩
    intros
    refine ⟨_, eqInts_ev _, ?_⟩
    exact split_of (fun h => by simp at h) (fun _ => rfl)
  refine @Eq.mpr _ _ (?_) key
  kernel_rfl
end Go.Proofs.Ytmjijggkdbiijaa
