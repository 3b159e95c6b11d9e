/- The law on slabs that are lifted. No statement is proved here. -/
import Derived.Test.YtmjijggkdbiijaaUc
namespace Go.Proofs.Ytmjijggkdbiijaa
open Go.RowKit
set_option linter.unusedVariables false
set_option linter.unusedSimpArgs false
set_option maxRecDepth 100000
set_option maxHeartbeats 4000000
theorem liftAllV_len (q : Sq) (l : List Int) : (liftAllV q l).1.2.2.length ≤ q.2.2.length ∧ (liftAllV q l).2.1.length ≤ l.length := by
  unfold liftAllV
  split
  · have := leftL_len q l q.2.2.length
    exact ⟨this, by simp⟩
  · simp
theorem skip2 {y : Int} {X : Prop} (h : X) : split (!!true) (split (!decide (y = y)) (false = true) X) (false = true) :=
  split_of (fun _ => split_of (fun h => by simp at h) (fun _ => h)) (fun h => by simp at h)
theorem lawLiftAll_ev (q : Sq) (l : List Int) : Ev Try.prog 12 [aQ0 q, aIs l] (compsOf [rB] (true)) := by
  refine ev_of (l := [rB]) (r := (true)) (types (resT) [] (fun _ _ => none)) follows Try.func12 (by kernel_rfl) (by rw [Try.ntmps12]; exact Nat.le_of_ble_eq_true rfl) ?_
  have key : (inR IntKind.i8 q.fst → inR IntKind.i8 q.snd.fst → (q.snd.snd.length ≤ 9223372036854775807 ∧ ∀ (x : Int × Int × Int × Int), List.Mem x q.snd.snd → inR IntKind.i8 x.fst ∧ inR IntKind.i8 x.snd.fst ∧ inR
      IntKind.i8 x.snd.snd.fst ∧ inR IntKind.i8 x.snd.snd.snd) → (l.length ≤ 9223372036854775807 ∧ ∀ (x : Int), List.Mem x l → inR IntKind.i64 x) → ((l.length : Nat) : Int) ≤ 9223372036854775807 → split
      (decide (1048576 < ((l.length : Nat) : Int))) (true = true) (inR IntKind.i8 q.fst → inR IntKind.i8 q.snd.fst → (q.snd.snd.length ≤ 9223372036854775807 ∧ ∀ (x : Int × Int × Int × Int), List.Mem x
      q.snd.snd → inR IntKind.i8 x.fst ∧ inR IntKind.i8 x.snd.fst ∧ inR IntKind.i8 x.snd.snd.fst ∧ inR IntKind.i8 x.snd.snd.snd) → ∃ (r : Int), Ev Try.prog 14 [Arg.imm (D.dat (sqT 38) q), Arg.imm (D.dat
      (Ty.int IntKind.i64) 1048576)] (compsOf [(false, Ty.int IntKind.i64)] r) ∧ (inR IntKind.i64 r → split (decide (r < 0)) (true = true) (inR IntKind.i8 q.fst → inR IntKind.i8 q.snd.fst →
      (q.snd.snd.length ≤ 9223372036854775807 ∧ ∀ (x : Int × Int × Int × Int), List.Mem x q.snd.snd → inR IntKind.i8 x.fst ∧ inR IntKind.i8 x.snd.fst ∧ inR IntKind.i8 x.snd.snd.fst ∧ inR IntKind.i8
      x.snd.snd.snd) → ∃ (r : Int × Int × List (Int × Int × Int × Int)), Ev Try.prog 16 [Arg.imm (D.dat (sqT 38) q)] (compsOf [(true, (Ty.int IntKind.i8).prod ((Ty.int IntKind.i8).prod (Ty.slice 41
      ((Ty.int IntKind.i8).prod ((Ty.int IntKind.i8).prod ((Ty.int IntKind.i8).prod (Ty.int IntKind.i8)))))))] r) ∧ (inR IntKind.i8 r.fst → inR IntKind.i8 r.snd.fst → (r.snd.snd.length ≤
      9223372036854775807 ∧ ∀ (x : Int × Int × Int × Int), List.Mem x r.snd.snd → inR IntKind.i8 x.fst ∧ inR IntKind.i8 x.snd.fst ∧ inR IntKind.i8 x.snd.snd.fst ∧ inR IntKind.i8 x.snd.snd.snd) → ∃ (r_1 :
      List Int), Ev Try.prog 17 [Arg.imm (D.dat (Ty.slice 2 (Ty.int IntKind.i64)) l)] (compsOf [(true, Ty.slice 2 (Ty.int IntKind.i64))] r_1) ∧ ((r_1.length ≤ 9223372036854775807 ∧ ∀ (x : Int), List.Mem x
      r_1 → inR IntKind.i64 x) → ∃ (r_2 : (Int × Int × List (Int × Int × Int × Int)) × List (Int × Int × Int × Int) × Int), Ev Try.prog 51 [Arg.imm (D.dat (sqT 41) r), Arg.imm (D.dat (Ty.slice 2 (Ty.int
      IntKind.i64)) r_1)] (compsOf [(true, (Ty.int IntKind.i8).prod ((Ty.int IntKind.i8).prod (Ty.slice 41 ((Ty.int IntKind.i8).prod ((Ty.int IntKind.i8).prod ((Ty.int IntKind.i8).prod (Ty.int
      IntKind.i8))))))), (true, Ty.slice 41 ((Ty.int IntKind.i8).prod ((Ty.int IntKind.i8).prod ((Ty.int IntKind.i8).prod (Ty.int IntKind.i8))))), (false, Ty.int IntKind.i64)] r_2) ∧ (inR IntKind.i8
      r_2.fst.fst → inR IntKind.i8 r_2.fst.snd.fst → (r_2.fst.snd.snd.length ≤ 9223372036854775807 ∧ ∀ (x : Int × Int × Int × Int), List.Mem x r_2.fst.snd.snd → inR IntKind.i8 x.fst ∧ inR IntKind.i8
      x.snd.fst ∧ inR IntKind.i8 x.snd.snd.fst ∧ inR IntKind.i8 x.snd.snd.snd) → (r_2.snd.fst.length ≤ 9223372036854775807 ∧ ∀ (x : Int × Int × Int × Int), List.Mem x r_2.snd.fst → inR IntKind.i8 x.fst ∧
      inR IntKind.i8 x.snd.fst ∧ inR IntKind.i8 x.snd.snd.fst ∧ inR IntKind.i8 x.snd.snd.snd) → inR IntKind.i64 r_2.snd.snd → inR IntKind.i8 q.fst → inR IntKind.i8 q.snd.fst → (q.snd.snd.length ≤
      9223372036854775807 ∧ ∀ (x : Int × Int × Int × Int), List.Mem x q.snd.snd → inR IntKind.i8 x.fst ∧ inR IntKind.i8 x.snd.fst ∧ inR IntKind.i8 x.snd.snd.fst ∧ inR IntKind.i8 x.snd.snd.snd) → ∃ (r : Int
      × Int × List (Int × Int × Int × Int)), Ev Try.prog 16 [Arg.imm (D.dat (sqT 38) q)] (compsOf [(true, (Ty.int IntKind.i8).prod ((Ty.int IntKind.i8).prod (Ty.slice 41 ((Ty.int IntKind.i8).prod ((Ty.int
      IntKind.i8).prod ((Ty.int IntKind.i8).prod (Ty.int IntKind.i8)))))))] r) ∧ (inR IntKind.i8 r.fst → inR IntKind.i8 r.snd.fst → (r.snd.snd.length ≤ 9223372036854775807 ∧ ∀ (x : Int × Int × Int × Int),
      List.Mem x r.snd.snd → inR IntKind.i8 x.fst ∧ inR IntKind.i8 x.snd.fst ∧ inR IntKind.i8 x.snd.snd.fst ∧ inR IntKind.i8 x.snd.snd.snd) → ∃ (r_3 : List Int), Ev Try.prog 17 [Arg.imm (D.dat (Ty.slice 2
      (Ty.int IntKind.i64)) l)] (compsOf [(true, Ty.slice 2 (Ty.int IntKind.i64))] r_3) ∧ ((r_3.length ≤ 9223372036854775807 ∧ ∀ (x : Int), List.Mem x r_3 → inR IntKind.i64 x) → inR IntKind.i8 r.fst → inR
      IntKind.i8 r.snd.fst → (r.snd.snd.length ≤ 9223372036854775807 ∧ ∀ (x : Int × Int × Int × Int), List.Mem x r.snd.snd → inR IntKind.i8 x.fst ∧ inR IntKind.i8 x.snd.fst ∧ inR IntKind.i8 x.snd.snd.fst ∧
      inR IntKind.i8 x.snd.snd.snd) → ∃ (r_4 : (Int × Int × List (Int × Int × Int × Int)) × List (Int × Int × Int × Int) × Int), Ev Try.prog 52 [Arg.imm (D.dat (sqT 41) r), Arg.imm (D.dat (Ty.slice 2
      (Ty.int IntKind.i64)) r_3)] (compsOf [(true, (Ty.int IntKind.i8).prod ((Ty.int IntKind.i8).prod (Ty.slice 41 ((Ty.int IntKind.i8).prod ((Ty.int IntKind.i8).prod ((Ty.int IntKind.i8).prod (Ty.int
      IntKind.i8))))))), (true, Ty.slice 41 ((Ty.int IntKind.i8).prod ((Ty.int IntKind.i8).prod ((Ty.int IntKind.i8).prod (Ty.int IntKind.i8))))), (false, Ty.int IntKind.i64)] r_4) ∧ (inR IntKind.i8
      r_4.fst.fst → inR IntKind.i8 r_4.fst.snd.fst → (r_4.fst.snd.snd.length ≤ 9223372036854775807 ∧ ∀ (x : Int × Int × Int × Int), List.Mem x r_4.fst.snd.snd → inR IntKind.i8 x.fst ∧ inR IntKind.i8
      x.snd.fst ∧ inR IntKind.i8 x.snd.snd.fst ∧ inR IntKind.i8 x.snd.snd.snd) → (r_4.snd.fst.length ≤ 9223372036854775807 ∧ ∀ (x : Int × Int × Int × Int), List.Mem x r_4.snd.fst → inR IntKind.i8 x.fst ∧
      inR IntKind.i8 x.snd.fst ∧ inR IntKind.i8 x.snd.snd.fst ∧ inR IntKind.i8 x.snd.snd.snd) → inR IntKind.i64 r_4.snd.snd → inR IntKind.i8 r_4.fst.fst → inR IntKind.i8 r_4.fst.snd.fst →
      (r_4.fst.snd.snd.length ≤ 9223372036854775807 ∧ ∀ (x : Int × Int × Int × Int), List.Mem x r_4.fst.snd.snd → inR IntKind.i8 x.fst ∧ inR IntKind.i8 x.snd.fst ∧ inR IntKind.i8 x.snd.snd.fst ∧ inR
      IntKind.i8 x.snd.snd.snd) → inR IntKind.i8 r_2.fst.fst → inR IntKind.i8 r_2.fst.snd.fst → (r_2.fst.snd.snd.length ≤ 9223372036854775807 ∧ ∀ (x : Int × Int × Int × Int), List.Mem x r_2.fst.snd.snd →
      inR IntKind.i8 x.fst ∧ inR IntKind.i8 x.snd.fst ∧ inR IntKind.i8 x.snd.snd.fst ∧ inR IntKind.i8 x.snd.snd.snd) → ∃ (r_5 : Bool), Ev Try.prog 19 [Arg.imm (D.dat (sqT 41) r_4.fst), Arg.imm (D.dat (sqT
      41) r_2.fst)] (compsOf [(false, Ty.bool)] r_5) ∧ split (!!r_5) (∃ (r_6 : Bool), Ev Try.prog 47 [Arg.imm (D.dat (Ty.slice 41 slabT) r_4.snd.fst), Arg.imm (D.dat (Ty.slice 41 slabT) r_2.snd.fst)]
      (compsOf [(false, Ty.bool)] r_6) ∧ split (!!r_6) (split (!decide (r_4.snd.snd = r_2.snd.snd)) (false = true) (inR IntKind.i8 r.fst → inR IntKind.i8 r.snd.fst → (r.snd.snd.length ≤ 9223372036854775807
      ∧ ∀ (x : Int × Int × Int × Int), List.Mem x r.snd.snd → inR IntKind.i8 x.fst ∧ inR IntKind.i8 x.snd.fst ∧ inR IntKind.i8 x.snd.snd.fst ∧ inR IntKind.i8 x.snd.snd.snd) → inR IntKind.i8 q.fst → inR
      IntKind.i8 q.snd.fst → (q.snd.snd.length ≤ 9223372036854775807 ∧ ∀ (x : Int × Int × Int × Int), List.Mem x q.snd.snd → inR IntKind.i8 x.fst ∧ inR IntKind.i8 x.snd.fst ∧ inR IntKind.i8 x.snd.snd.fst ∧
      inR IntKind.i8 x.snd.snd.snd) → ∃ (r_7 : Int × Int × List (Int × Int × Int × Int)), Ev Try.prog 16 [Arg.imm (D.dat (sqT 38) q)] (compsOf [(true, (Ty.int IntKind.i8).prod ((Ty.int IntKind.i8).prod
      (Ty.slice 41 ((Ty.int IntKind.i8).prod ((Ty.int IntKind.i8).prod ((Ty.int IntKind.i8).prod (Ty.int IntKind.i8)))))))] r_7) ∧ (inR IntKind.i8 r_7.fst → inR IntKind.i8 r_7.snd.fst → (r_7.snd.snd.length
      ≤ 9223372036854775807 ∧ ∀ (x : Int × Int × Int × Int), List.Mem x r_7.snd.snd → inR IntKind.i8 x.fst ∧ inR IntKind.i8 x.snd.fst ∧ inR IntKind.i8 x.snd.snd.fst ∧ inR IntKind.i8 x.snd.snd.snd) → ∃ (r_8
      : Bool), Ev Try.prog 19 [Arg.imm (D.dat (sqT 41) r), Arg.imm (D.dat (sqT 41) r_7)] (compsOf [(false, Ty.bool)] r_8) ∧ split (!r_8) (false = true) (∃ (r_9 : List Int), Ev Try.prog 17 [Arg.imm (D.dat
      (Ty.slice 2 (Ty.int IntKind.i64)) l)] (compsOf [(true, Ty.slice 2 (Ty.int IntKind.i64))] r_9) ∧ ((r_9.length ≤ 9223372036854775807 ∧ ∀ (x : Int), List.Mem x r_9 → inR IntKind.i64 x) → ∃ (r_10 :
      Bool), Ev Try.prog 20 [Arg.imm (D.dat (Ty.slice 2 (Ty.int IntKind.i64)) r_3), Arg.imm (D.dat (Ty.slice 2 (Ty.int IntKind.i64)) r_9)] (compsOf [(false, Ty.bool)] r_10) ∧ split (!r_10) (false = true)
      (inR IntKind.i8 r.fst → inR IntKind.i8 r.snd.fst → (r.snd.snd.length ≤ 9223372036854775807 ∧ ∀ (x : Int × Int × Int × Int), List.Mem x r.snd.snd → inR IntKind.i8 x.fst ∧ inR IntKind.i8 x.snd.fst ∧
      inR IntKind.i8 x.snd.snd.fst ∧ inR IntKind.i8 x.snd.snd.snd) → ∃ (r_11 : Int), ∃ (y : Int × Int × List (Int × Int × Int × Int)), EvB Try.prog 26 ((Ty.int IntKind.i8).prod ((Ty.int IntKind.i8).prod
      (Ty.slice 41 ((Ty.int IntKind.i8).prod ((Ty.int IntKind.i8).prod ((Ty.int IntKind.i8).prod (Ty.int IntKind.i8))))))) r [Arg.imm (D.dat (Ty.int IntKind.i64) 1)] (compsOf [(false, Ty.int IntKind.i64)]
      r_11) y ∧ (inR IntKind.i64 r_11 → inR IntKind.i8 y.fst → inR IntKind.i8 y.snd.fst → (y.snd.snd.length ≤ 9223372036854775807 ∧ ∀ (x : Int × Int × Int × Int), List.Mem x y.snd.snd → inR IntKind.i8
      x.fst ∧ inR IntKind.i8 x.snd.fst ∧ inR IntKind.i8 x.snd.snd.fst ∧ inR IntKind.i8 x.snd.snd.snd) → ∃ (r : Int), ∃ (y : List Int), EvB Try.prog 27 (Ty.slice 2 (Ty.int IntKind.i64)) r_3 [Arg.imm (D.dat
      (Ty.int IntKind.i64) r_11)] (compsOf [(false, Ty.int IntKind.i64)] r) y ∧ (inR IntKind.i64 r → (y.length ≤ 9223372036854775807 ∧ ∀ (x : Int), List.Mem x y → inR IntKind.i64 x) → split (!decide (r <
      0)) (inR IntKind.i8 r_4.fst.fst → inR IntKind.i8 r_4.fst.snd.fst → (r_4.fst.snd.snd.length ≤ 9223372036854775807 ∧ ∀ (x : Int × Int × Int × Int), List.Mem x r_4.fst.snd.snd → inR IntKind.i8 x.fst ∧
      inR IntKind.i8 x.snd.fst ∧ inR IntKind.i8 x.snd.snd.fst ∧ inR IntKind.i8 x.snd.snd.snd) → inR IntKind.i8 r_2.fst.fst → inR IntKind.i8 r_2.fst.snd.fst → (r_2.fst.snd.snd.length ≤ 9223372036854775807 ∧
      ∀ (x : Int × Int × Int × Int), List.Mem x r_2.fst.snd.snd → inR IntKind.i8 x.fst ∧ inR IntKind.i8 x.snd.fst ∧ inR IntKind.i8 x.snd.snd.fst ∧ inR IntKind.i8 x.snd.snd.snd) → ∃ (r : Bool), Ev Try.prog
      19 [Arg.imm (D.dat (sqT 41) r_4.fst), Arg.imm (D.dat (sqT 41) r_2.fst)] (compsOf [(false, Ty.bool)] r) ∧ split (!!r) (∃ (r : Bool), Ev Try.prog 47 [Arg.imm (D.dat (Ty.slice 41 slabT) r_4.snd.fst),
      Arg.imm (D.dat (Ty.slice 41 slabT) r_2.snd.fst)] (compsOf [(false, Ty.bool)] r) ∧ split (!!r) (split (!decide (r_4.snd.snd = r_2.snd.snd)) (false = true) (inR IntKind.i8 r_4.fst.fst → inR IntKind.i8
      r_4.fst.snd.fst → (r_4.fst.snd.snd.length ≤ 9223372036854775807 ∧ ∀ (x : Int × Int × Int × Int), List.Mem x r_4.fst.snd.snd → inR IntKind.i8 x.fst ∧ inR IntKind.i8 x.snd.fst ∧ inR IntKind.i8
      x.snd.snd.fst ∧ inR IntKind.i8 x.snd.snd.snd) → ∃ (r : Int), ∃ (y : Int × Int × List (Int × Int × Int × Int)), EvB Try.prog 26 ((Ty.int IntKind.i8).prod ((Ty.int IntKind.i8).prod (Ty.slice 41
      ((Ty.int IntKind.i8).prod ((Ty.int IntKind.i8).prod ((Ty.int IntKind.i8).prod (Ty.int IntKind.i8))))))) r_4.fst [Arg.imm (D.dat (Ty.int IntKind.i64) 1)] (compsOf [(false, Ty.int IntKind.i64)] r) y ∧
      (inR IntKind.i64 r → inR IntKind.i8 y.fst → inR IntKind.i8 y.snd.fst → (y.snd.snd.length ≤ 9223372036854775807 ∧ ∀ (x : Int × Int × Int × Int), List.Mem x y.snd.snd → inR IntKind.i8 x.fst ∧ inR
      IntKind.i8 x.snd.fst ∧ inR IntKind.i8 x.snd.snd.fst ∧ inR IntKind.i8 x.snd.snd.snd) → ∃ (r_12 : Int), ∃ (y_1 : List (Int × Int × Int × Int)), EvB Try.prog 50 (Ty.slice 41 ((Ty.int IntKind.i8).prod
      ((Ty.int IntKind.i8).prod ((Ty.int IntKind.i8).prod (Ty.int IntKind.i8))))) r_4.snd.fst [Arg.imm (D.dat (Ty.int IntKind.i64) r)] (compsOf [(false, Ty.int IntKind.i64)] r_12) y_1 ∧ (inR IntKind.i64
      r_12 → (y_1.length ≤ 9223372036854775807 ∧ ∀ (x : Int × Int × Int × Int), List.Mem x y_1 → inR IntKind.i8 x.fst ∧ inR IntKind.i8 x.snd.fst ∧ inR IntKind.i8 x.snd.snd.fst ∧ inR IntKind.i8
      x.snd.snd.snd) → inR IntKind.i8 y.fst → inR IntKind.i8 y.snd.fst → (y.snd.snd.length ≤ 9223372036854775807 ∧ ∀ (x : Int × Int × Int × Int), List.Mem x y.snd.snd → inR IntKind.i8 x.fst ∧ inR
      IntKind.i8 x.snd.fst ∧ inR IntKind.i8 x.snd.snd.fst ∧ inR IntKind.i8 x.snd.snd.snd) → ∃ (r : Int), Ev Try.prog 53 [Arg.imm (D.dat (sqT 41) y), Arg.imm (D.dat (Ty.int IntKind.i64) 1)] (compsOf
      [(false, Ty.int IntKind.i64)] r) ∧ (inR IntKind.i64 r → split (decide (r < 0)) (false = true) (∃ (r_13 : Int), Ev Try.prog 54 [Arg.imm (D.dat (Ty.slice 41 slabT) y_1), Arg.imm (D.dat (Ty.int
      IntKind.i64) r)] (compsOf [(false, Ty.int IntKind.i64)] r_13) ∧ (inR IntKind.i64 r_13 → split (decide (r_13 < 0)) (false = true) (split (!decide (r_13 = r_12)) (false = true) (inR IntKind.i8 q.fst →
      inR IntKind.i8 q.snd.fst → (q.snd.snd.length ≤ 9223372036854775807 ∧ ∀ (x : Int × Int × Int × Int), List.Mem x q.snd.snd → inR IntKind.i8 x.fst ∧ inR IntKind.i8 x.snd.fst ∧ inR IntKind.i8
      x.snd.snd.fst ∧ inR IntKind.i8 x.snd.snd.snd) → ∃ (r : Int × Int × List (Int × Int × Int × Int)), Ev Try.prog 16 [Arg.imm (D.dat (sqT 38) q)] (compsOf [(true, (Ty.int IntKind.i8).prod ((Ty.int
      IntKind.i8).prod (Ty.slice 41 ((Ty.int IntKind.i8).prod ((Ty.int IntKind.i8).prod ((Ty.int IntKind.i8).prod (Ty.int IntKind.i8)))))))] r) ∧ (inR IntKind.i8 r.fst → inR IntKind.i8 r.snd.fst →
      (r.snd.snd.length ≤ 9223372036854775807 ∧ ∀ (x : Int × Int × Int × Int), List.Mem x r.snd.snd → inR IntKind.i8 x.fst ∧ inR IntKind.i8 x.snd.fst ∧ inR IntKind.i8 x.snd.snd.fst ∧ inR IntKind.i8
      x.snd.snd.snd) → ∃ (r_14 : List Int), Ev Try.prog 17 [Arg.imm (D.dat (Ty.slice 2 (Ty.int IntKind.i64)) l)] (compsOf [(true, Ty.slice 2 (Ty.int IntKind.i64))] r_14) ∧ ((r_14.length ≤
      9223372036854775807 ∧ ∀ (x : Int), List.Mem x r_14 → inR IntKind.i64 x) → ∃ (r_15 : (Int × Int × List (Int × Int × Int × Int)) × List (Int × Int × Int × Int) × Int), Ev Try.prog 52 [Arg.imm (D.dat
      (sqT 41) r), Arg.imm (D.dat (Ty.slice 2 (Ty.int IntKind.i64)) r_14)] (compsOf [(true, (Ty.int IntKind.i8).prod ((Ty.int IntKind.i8).prod (Ty.slice 41 ((Ty.int IntKind.i8).prod ((Ty.int
      IntKind.i8).prod ((Ty.int IntKind.i8).prod (Ty.int IntKind.i8))))))), (true, Ty.slice 41 ((Ty.int IntKind.i8).prod ((Ty.int IntKind.i8).prod ((Ty.int IntKind.i8).prod (Ty.int IntKind.i8))))), (false,
      Ty.int IntKind.i64)] r_15) ∧ (inR IntKind.i8 r_15.fst.fst → inR IntKind.i8 r_15.fst.snd.fst → (r_15.fst.snd.snd.length ≤ 9223372036854775807 ∧ ∀ (x : Int × Int × Int × Int), List.Mem x
      r_15.fst.snd.snd → inR IntKind.i8 x.fst ∧ inR IntKind.i8 x.snd.fst ∧ inR IntKind.i8 x.snd.snd.fst ∧ inR IntKind.i8 x.snd.snd.snd) → (r_15.snd.fst.length ≤ 9223372036854775807 ∧ ∀ (x : Int × Int × Int
      × Int), List.Mem x r_15.snd.fst → inR IntKind.i8 x.fst ∧ inR IntKind.i8 x.snd.fst ∧ inR IntKind.i8 x.snd.snd.fst ∧ inR IntKind.i8 x.snd.snd.snd) → inR IntKind.i64 r_15.snd.snd → inR IntKind.i8
      r_15.fst.fst → inR IntKind.i8 r_15.fst.snd.fst → (r_15.fst.snd.snd.length ≤ 9223372036854775807 ∧ ∀ (x : Int × Int × Int × Int), List.Mem x r_15.fst.snd.snd → inR IntKind.i8 x.fst ∧ inR IntKind.i8
      x.snd.fst ∧ inR IntKind.i8 x.snd.snd.fst ∧ inR IntKind.i8 x.snd.snd.snd) → inR IntKind.i8 r_2.fst.fst → inR IntKind.i8 r_2.fst.snd.fst → (r_2.fst.snd.snd.length ≤ 9223372036854775807 ∧ ∀ (x : Int ×
      Int × Int × Int), List.Mem x r_2.fst.snd.snd → inR IntKind.i8 x.fst ∧ inR IntKind.i8 x.snd.fst ∧ inR IntKind.i8 x.snd.snd.fst ∧ inR IntKind.i8 x.snd.snd.snd) → ∃ (r : Bool), Ev Try.prog 19 [Arg.imm
      (D.dat (sqT 41) r_15.fst), Arg.imm (D.dat (sqT 41) r_2.fst)] (compsOf [(false, Ty.bool)] r) ∧ split (!!r) (∃ (r : Bool), Ev Try.prog 47 [Arg.imm (D.dat (Ty.slice 41 slabT) r_15.snd.fst), Arg.imm
      (D.dat (Ty.slice 41 slabT) r_2.snd.fst)] (compsOf [(false, Ty.bool)] r) ∧ split (!!r) (split (!decide (r_15.snd.snd = r_2.snd.snd)) (false = true) (inR IntKind.i8 y.fst → inR IntKind.i8 y.snd.fst →
      (y.snd.snd.length ≤ 9223372036854775807 ∧ ∀ (x : Int × Int × Int × Int), List.Mem x y.snd.snd → inR IntKind.i8 x.fst ∧ inR IntKind.i8 x.snd.fst ∧ inR IntKind.i8 x.snd.snd.fst ∧ inR IntKind.i8
      x.snd.snd.snd) → ∃ (r : Int), Ev Try.prog 53 [Arg.imm (D.dat (sqT 41) y), Arg.imm (D.dat (Ty.int IntKind.i64) 1)] (compsOf [(false, Ty.int IntKind.i64)] r) ∧ (inR IntKind.i64 r → split (decide (r <
      0)) (false = true) (∃ (r_16 : Int), Ev Try.prog 54 [Arg.imm (D.dat (Ty.slice 41 slabT) y_1), Arg.imm (D.dat (Ty.int IntKind.i64) r)] (compsOf [(false, Ty.int IntKind.i64)] r_16) ∧ (inR IntKind.i64
      r_16 → split (decide (r_16 < 0)) (false = true) (split (!decide (r_16 = r_12)) (false = true) (true = true))))))) (false = true)) (false = true))))))))))))) (false = true)) (false = true)) (false =
      true))))))))) (false = true)) (false = true))))))))))) := by
    intros
    refine split_of (fun _ => rfl) (fun h1 => ?_)
    have h1 := of_decide_eq_false h1
    have n1 : l.length ≤ 1048576 := by omega
    intros
    refine ⟨_, szSquare_ev q, fun _ => split_of (fun _ => rfl) (fun h => ?_)⟩
    have hl := sz_pos (of_decide_eq_false h)
    obtain ⟨hk1, hk2⟩ := liftAllV_len (toSquareV q) l
    have hq : (toSquareV q).2.2.length ≤ 1048576 := hl
    intros
    refine ⟨_, toSquare_ev q hl, ?_⟩
    intros
    refine ⟨_, toInts_ev l n1, ?_⟩
    intros
    refine ⟨_, specLiftAll_ev _ _ n1, ?_⟩
    intros
    refine ⟨_, toSquare_ev q hl, ?_⟩
    intros
    refine ⟨_, toInts_ev l n1, ?_⟩
    intros
    refine ⟨_, implLiftAll_ev _ _ n1, ?_⟩
    intros
    refine ⟨_, eqSquare_ev _, ?_⟩
    refine split_of (fun _ => ?_) (fun h => by simp at h)
    intros
    refine ⟨_, eqSlabS_ev _, ?_⟩
    refine skip2 ?_
    intros
    refine ⟨_, toSquare_ev q hl, ?_⟩
    intros
    refine ⟨_, eqSquare_ev _, ?_⟩
    refine split_of (fun h => by simp at h) (fun _ => ?_)
    intros
    refine ⟨_, toInts_ev l n1, ?_⟩
    intros
    refine ⟨_, eqInts_ev _, ?_⟩
    refine split_of (fun h => by simp at h) (fun _ => ?_)
    intros
    refine ⟨_, _, markSquare_ev _ 1 (by omega) (by omega), ?_⟩
    intros
    refine ⟨_, _, markInts_ev _ _ (by omega) (by omega), ?_⟩
    intros
    refine split_of (fun _ => ?_) (fun h => absurd (of_decide_eq_true (by simpa using h)) (by omega))
    intros
    refine ⟨_, eqSquare_ev _, ?_⟩
    refine split_of (fun _ => ?_) (fun h => by simp at h)
    intros
    refine ⟨_, eqSlabS_ev _, ?_⟩
    refine skip2 ?_
    intros
    refine ⟨_, _, markSquare_ev _ 1 (by omega) (by omega), ?_⟩
    intros
    refine ⟨_, _, markSlabs_ev _ _ (by omega) (by omega), ?_⟩
    intros
    refine ⟨_, heldSquare_ev _ _ _ 1 (by omega) (by omega), ?_⟩
    intros
    refine split_of (fun h => absurd (of_decide_eq_true h) (by omega)) (fun _ => ?_)
    intros
    refine ⟨_, heldSlabs_ev _ _ (by omega) (by omega), ?_⟩
    intros
    refine split_of (fun h => absurd (of_decide_eq_true h) (by omega)) (fun _ => split_of (fun h => by simp at h) (fun _ => ?_))
    intros
    refine ⟨_, toSquare_ev q hl, ?_⟩
    intros
    refine ⟨_, toInts_ev l n1, ?_⟩
    intros
    refine ⟨_, implLiftAll_ev _ _ n1, ?_⟩
    intros
    refine ⟨_, eqSquare_ev _, ?_⟩
    refine split_of (fun _ => ?_) (fun h => by simp at h)
    intros
    refine ⟨_, eqSlabS_ev _, ?_⟩
    refine skip2 ?_
    intros
    refine ⟨_, heldSquare_ev _ _ _ 1 (by omega) (by omega), ?_⟩
    intros
    refine split_of (fun h => absurd (of_decide_eq_true h) (by omega)) (fun _ => ?_)
    intros
    refine ⟨_, heldSlabs_ev _ _ (by omega) (by omega), ?_⟩
    intros
    exact split_of (fun h => absurd (of_decide_eq_true h) (by omega)) (fun _ => split_of (fun h => by simp at h) (fun _ => rfl))
  refine @Eq.mpr _ _ (?_) key
  kernel_rfl
end Go.Proofs.Ytmjijggkdbiijaa
