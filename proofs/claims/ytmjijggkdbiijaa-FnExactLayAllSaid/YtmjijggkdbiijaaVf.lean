/- The law on slabs that are laid in an order. No statement is proved here. -/
import Derived.Test.YtmjijggkdbiijaaVe
namespace Go.Proofs.Ytmjijggkdbiijaa
open Go.RowKit
set_option linter.unusedVariables false
set_option linter.unusedSimpArgs false
set_option maxRecDepth 100000
set_option maxHeartbeats 4000000
theorem layS2_len (list : List Sl) : ∀ (l : List Int) (q : Sq), (layS2 list q l).1.2.2.length ≤ q.2.2.length + l.length
  | [], q => by simp [layS2]
  | i :: r, q => by
    unfold layS2
    split
    · simp [zQ]
    · split
      · have := layS2_len list r (putV q (sAt list i.toNat))
        rw [putV_len] at this
        simp only [List.length_cons]; omega
      · simp [zQ]
theorem layAllV_len (q : Sq) (list : List Sl) (order : List Int) : (layAllV q list order).1.2.2.length ≤ q.2.2.length + order.length := by
  unfold layAllV
  split
  · split
    · simp [zQ]
    · split
      · exact layS2_len _ _ _
      · simp [zQ]
  · simp [zQ]
theorem lawLayAll_ev (q : Sq) (list : List Sl) (order : List Int) : Ev Try.prog 13 [aQ0 q, aSs0 list, aIs order] (compsOf [rB] (true)) := by
  refine ev_of (l := [rB]) (r := (true)) (types (resT) [] (fun _ _ => none)) follows Try.func13 (by kernel_rfl) (by rw [Try.ntmps13]; exact Nat.le_of_ble_eq_true rfl) ?_
  have key : (inR IntKind.i8 q.fst → inR IntKind.i8 q.snd.fst → (q.snd.snd.length ≤ 9223372036854775807 ∧ ∀ (x : Int × Int × Int × Int), List.Mem x q.snd.snd → inR IntKind.i8 x.fst ∧ inR IntKind.i8 x.snd.fst ∧ inR
      IntKind.i8 x.snd.snd.fst ∧ inR IntKind.i8 x.snd.snd.snd) → (list.length ≤ 9223372036854775807 ∧ ∀ (x : Int × Int × Int × Int), List.Mem x list → inR IntKind.i8 x.fst ∧ inR IntKind.i8 x.snd.fst ∧ inR
      IntKind.i8 x.snd.snd.fst ∧ inR IntKind.i8 x.snd.snd.snd) → (order.length ≤ 9223372036854775807 ∧ ∀ (x : Int), List.Mem x order → inR IntKind.i64 x) → ((order.length : Nat) : Int) ≤
      9223372036854775807 → split (decide (1048576 < ((order.length : Nat) : Int))) (true = true) (inR IntKind.i8 q.fst → inR IntKind.i8 q.snd.fst → (q.snd.snd.length ≤ 9223372036854775807 ∧ ∀ (x : Int ×
      Int × Int × Int), List.Mem x q.snd.snd → inR IntKind.i8 x.fst ∧ inR IntKind.i8 x.snd.fst ∧ inR IntKind.i8 x.snd.snd.fst ∧ inR IntKind.i8 x.snd.snd.snd) → ∃ (r : Int), Ev Try.prog 14 [Arg.imm (D.dat
      (sqT 38) q), Arg.imm (D.dat (Ty.int IntKind.i64) 1048576)] (compsOf [(false, Ty.int IntKind.i64)] r) ∧ (inR IntKind.i64 r → split (decide (r < 0)) (true = true) (∃ (r_1 : Int), Ev Try.prog 43
      [Arg.imm (D.dat (Ty.slice 38 slabT) list), Arg.imm (D.dat (Ty.int IntKind.i64) r)] (compsOf [(false, Ty.int IntKind.i64)] r_1) ∧ (inR IntKind.i64 r_1 → split (decide (r_1 < 0)) (true = true) (inR
      IntKind.i8 q.fst → inR IntKind.i8 q.snd.fst → (q.snd.snd.length ≤ 9223372036854775807 ∧ ∀ (x : Int × Int × Int × Int), List.Mem x q.snd.snd → inR IntKind.i8 x.fst ∧ inR IntKind.i8 x.snd.fst ∧ inR
      IntKind.i8 x.snd.snd.fst ∧ inR IntKind.i8 x.snd.snd.snd) → ∃ (r : Int × Int × List (Int × Int × Int × Int)), Ev Try.prog 16 [Arg.imm (D.dat (sqT 38) q)] (compsOf [(true, (Ty.int IntKind.i8).prod
      ((Ty.int IntKind.i8).prod (Ty.slice 41 ((Ty.int IntKind.i8).prod ((Ty.int IntKind.i8).prod ((Ty.int IntKind.i8).prod (Ty.int IntKind.i8)))))))] r) ∧ (inR IntKind.i8 r.fst → inR IntKind.i8 r.snd.fst →
      (r.snd.snd.length ≤ 9223372036854775807 ∧ ∀ (x : Int × Int × Int × Int), List.Mem x r.snd.snd → inR IntKind.i8 x.fst ∧ inR IntKind.i8 x.snd.fst ∧ inR IntKind.i8 x.snd.snd.fst ∧ inR IntKind.i8
      x.snd.snd.snd) → ∃ (r_2 : List (Int × Int × Int × Int)), Ev Try.prog 45 [Arg.imm (D.dat (Ty.slice 38 slabT) list)] (compsOf [(true, Ty.slice 41 ((Ty.int IntKind.i8).prod ((Ty.int IntKind.i8).prod
      ((Ty.int IntKind.i8).prod (Ty.int IntKind.i8)))))] r_2) ∧ ((r_2.length ≤ 9223372036854775807 ∧ ∀ (x : Int × Int × Int × Int), List.Mem x r_2 → inR IntKind.i8 x.fst ∧ inR IntKind.i8 x.snd.fst ∧ inR
      IntKind.i8 x.snd.snd.fst ∧ inR IntKind.i8 x.snd.snd.snd) → ∃ (r_3 : List Int), Ev Try.prog 17 [Arg.imm (D.dat (Ty.slice 2 (Ty.int IntKind.i64)) order)] (compsOf [(true, Ty.slice 2 (Ty.int
      IntKind.i64))] r_3) ∧ ((r_3.length ≤ 9223372036854775807 ∧ ∀ (x : Int), List.Mem x r_3 → inR IntKind.i64 x) → ∃ (r_4 : (Int × Int × List (Int × Int × Int × Int)) × Int), Ev Try.prog 55 [Arg.imm
      (D.dat (sqT 41) r), Arg.imm (D.dat (Ty.slice 41 slabT) r_2), Arg.imm (D.dat (Ty.slice 2 (Ty.int IntKind.i64)) r_3)] (compsOf [(true, (Ty.int IntKind.i8).prod ((Ty.int IntKind.i8).prod (Ty.slice 41
      ((Ty.int IntKind.i8).prod ((Ty.int IntKind.i8).prod ((Ty.int IntKind.i8).prod (Ty.int IntKind.i8))))))), (false, Ty.int IntKind.i64)] r_4) ∧ (inR IntKind.i8 r_4.fst.fst → inR IntKind.i8
      r_4.fst.snd.fst → (r_4.fst.snd.snd.length ≤ 9223372036854775807 ∧ ∀ (x : Int × Int × Int × Int), List.Mem x r_4.fst.snd.snd → inR IntKind.i8 x.fst ∧ inR IntKind.i8 x.snd.fst ∧ inR IntKind.i8
      x.snd.snd.fst ∧ inR IntKind.i8 x.snd.snd.snd) → inR IntKind.i64 r_4.snd → inR IntKind.i8 q.fst → inR IntKind.i8 q.snd.fst → (q.snd.snd.length ≤ 9223372036854775807 ∧ ∀ (x : Int × Int × Int × Int),
      List.Mem x q.snd.snd → inR IntKind.i8 x.fst ∧ inR IntKind.i8 x.snd.fst ∧ inR IntKind.i8 x.snd.snd.fst ∧ inR IntKind.i8 x.snd.snd.snd) → ∃ (r : Int × Int × List (Int × Int × Int × Int)), Ev Try.prog
      16 [Arg.imm (D.dat (sqT 38) q)] (compsOf [(true, (Ty.int IntKind.i8).prod ((Ty.int IntKind.i8).prod (Ty.slice 41 ((Ty.int IntKind.i8).prod ((Ty.int IntKind.i8).prod ((Ty.int IntKind.i8).prod (Ty.int
      IntKind.i8)))))))] r) ∧ (inR IntKind.i8 r.fst → inR IntKind.i8 r.snd.fst → (r.snd.snd.length ≤ 9223372036854775807 ∧ ∀ (x : Int × Int × Int × Int), List.Mem x r.snd.snd → inR IntKind.i8 x.fst ∧ inR
      IntKind.i8 x.snd.fst ∧ inR IntKind.i8 x.snd.snd.fst ∧ inR IntKind.i8 x.snd.snd.snd) → ∃ (r_5 : List (Int × Int × Int × Int)), Ev Try.prog 45 [Arg.imm (D.dat (Ty.slice 38 slabT) list)] (compsOf
      [(true, Ty.slice 41 ((Ty.int IntKind.i8).prod ((Ty.int IntKind.i8).prod ((Ty.int IntKind.i8).prod (Ty.int IntKind.i8)))))] r_5) ∧ ((r_5.length ≤ 9223372036854775807 ∧ ∀ (x : Int × Int × Int × Int),
      List.Mem x r_5 → inR IntKind.i8 x.fst ∧ inR IntKind.i8 x.snd.fst ∧ inR IntKind.i8 x.snd.snd.fst ∧ inR IntKind.i8 x.snd.snd.snd) → ∃ (r_6 : List Int), Ev Try.prog 17 [Arg.imm (D.dat (Ty.slice 2
      (Ty.int IntKind.i64)) order)] (compsOf [(true, Ty.slice 2 (Ty.int IntKind.i64))] r_6) ∧ ((r_6.length ≤ 9223372036854775807 ∧ ∀ (x : Int), List.Mem x r_6 → inR IntKind.i64 x) → inR IntKind.i8 r.fst →
      inR IntKind.i8 r.snd.fst → (r.snd.snd.length ≤ 9223372036854775807 ∧ ∀ (x : Int × Int × Int × Int), List.Mem x r.snd.snd → inR IntKind.i8 x.fst ∧ inR IntKind.i8 x.snd.fst ∧ inR IntKind.i8
      x.snd.snd.fst ∧ inR IntKind.i8 x.snd.snd.snd) → ∃ (r_7 : (Int × Int × List (Int × Int × Int × Int)) × Int), Ev Try.prog 56 [Arg.imm (D.dat (sqT 41) r), Arg.imm (D.dat (Ty.slice 41 slabT) r_5),
      Arg.imm (D.dat (Ty.slice 2 (Ty.int IntKind.i64)) r_6)] (compsOf [(true, (Ty.int IntKind.i8).prod ((Ty.int IntKind.i8).prod (Ty.slice 41 ((Ty.int IntKind.i8).prod ((Ty.int IntKind.i8).prod ((Ty.int
      IntKind.i8).prod (Ty.int IntKind.i8))))))), (false, Ty.int IntKind.i64)] r_7) ∧ (inR IntKind.i8 r_7.fst.fst → inR IntKind.i8 r_7.fst.snd.fst → (r_7.fst.snd.snd.length ≤ 9223372036854775807 ∧ ∀ (x :
      Int × Int × Int × Int), List.Mem x r_7.fst.snd.snd → inR IntKind.i8 x.fst ∧ inR IntKind.i8 x.snd.fst ∧ inR IntKind.i8 x.snd.snd.fst ∧ inR IntKind.i8 x.snd.snd.snd) → inR IntKind.i64 r_7.snd → inR
      IntKind.i8 r_7.fst.fst → inR IntKind.i8 r_7.fst.snd.fst → (r_7.fst.snd.snd.length ≤ 9223372036854775807 ∧ ∀ (x : Int × Int × Int × Int), List.Mem x r_7.fst.snd.snd → inR IntKind.i8 x.fst ∧ inR
      IntKind.i8 x.snd.fst ∧ inR IntKind.i8 x.snd.snd.fst ∧ inR IntKind.i8 x.snd.snd.snd) → inR IntKind.i8 r_4.fst.fst → inR IntKind.i8 r_4.fst.snd.fst → (r_4.fst.snd.snd.length ≤ 9223372036854775807 ∧ ∀
      (x : Int × Int × Int × Int), List.Mem x r_4.fst.snd.snd → inR IntKind.i8 x.fst ∧ inR IntKind.i8 x.snd.fst ∧ inR IntKind.i8 x.snd.snd.fst ∧ inR IntKind.i8 x.snd.snd.snd) → ∃ (r_8 : Bool), Ev Try.prog
      19 [Arg.imm (D.dat (sqT 41) r_7.fst), Arg.imm (D.dat (sqT 41) r_4.fst)] (compsOf [(false, Ty.bool)] r_8) ∧ split (!!r_8) (split (!decide (r_7.snd = r_4.snd)) (false = true) (inR IntKind.i8 r.fst →
      inR IntKind.i8 r.snd.fst → (r.snd.snd.length ≤ 9223372036854775807 ∧ ∀ (x : Int × Int × Int × Int), List.Mem x r.snd.snd → inR IntKind.i8 x.fst ∧ inR IntKind.i8 x.snd.fst ∧ inR IntKind.i8
      x.snd.snd.fst ∧ inR IntKind.i8 x.snd.snd.snd) → inR IntKind.i8 q.fst → inR IntKind.i8 q.snd.fst → (q.snd.snd.length ≤ 9223372036854775807 ∧ ∀ (x : Int × Int × Int × Int), List.Mem x q.snd.snd → inR
      IntKind.i8 x.fst ∧ inR IntKind.i8 x.snd.fst ∧ inR IntKind.i8 x.snd.snd.fst ∧ inR IntKind.i8 x.snd.snd.snd) → ∃ (r_9 : Int × Int × List (Int × Int × Int × Int)), Ev Try.prog 16 [Arg.imm (D.dat (sqT
      38) q)] (compsOf [(true, (Ty.int IntKind.i8).prod ((Ty.int IntKind.i8).prod (Ty.slice 41 ((Ty.int IntKind.i8).prod ((Ty.int IntKind.i8).prod ((Ty.int IntKind.i8).prod (Ty.int IntKind.i8)))))))] r_9)
      ∧ (inR IntKind.i8 r_9.fst → inR IntKind.i8 r_9.snd.fst → (r_9.snd.snd.length ≤ 9223372036854775807 ∧ ∀ (x : Int × Int × Int × Int), List.Mem x r_9.snd.snd → inR IntKind.i8 x.fst ∧ inR IntKind.i8
      x.snd.fst ∧ inR IntKind.i8 x.snd.snd.fst ∧ inR IntKind.i8 x.snd.snd.snd) → ∃ (r_10 : Bool), Ev Try.prog 19 [Arg.imm (D.dat (sqT 41) r), Arg.imm (D.dat (sqT 41) r_9)] (compsOf [(false, Ty.bool)] r_10)
      ∧ split (!r_10) (false = true) (∃ (r_11 : List (Int × Int × Int × Int)), Ev Try.prog 45 [Arg.imm (D.dat (Ty.slice 38 slabT) list)] (compsOf [(true, Ty.slice 41 ((Ty.int IntKind.i8).prod ((Ty.int
      IntKind.i8).prod ((Ty.int IntKind.i8).prod (Ty.int IntKind.i8)))))] r_11) ∧ ((r_11.length ≤ 9223372036854775807 ∧ ∀ (x : Int × Int × Int × Int), List.Mem x r_11 → inR IntKind.i8 x.fst ∧ inR
      IntKind.i8 x.snd.fst ∧ inR IntKind.i8 x.snd.snd.fst ∧ inR IntKind.i8 x.snd.snd.snd) → ∃ (r_12 : Bool), Ev Try.prog 47 [Arg.imm (D.dat (Ty.slice 41 slabT) r_5), Arg.imm (D.dat (Ty.slice 41 slabT)
      r_11)] (compsOf [(false, Ty.bool)] r_12) ∧ split (!r_12) (false = true) (∃ (r_13 : List Int), Ev Try.prog 17 [Arg.imm (D.dat (Ty.slice 2 (Ty.int IntKind.i64)) order)] (compsOf [(true, Ty.slice 2
      (Ty.int IntKind.i64))] r_13) ∧ ((r_13.length ≤ 9223372036854775807 ∧ ∀ (x : Int), List.Mem x r_13 → inR IntKind.i64 x) → ∃ (r_14 : Bool), Ev Try.prog 20 [Arg.imm (D.dat (Ty.slice 2 (Ty.int
      IntKind.i64)) r_6), Arg.imm (D.dat (Ty.slice 2 (Ty.int IntKind.i64)) r_13)] (compsOf [(false, Ty.bool)] r_14) ∧ split (!r_14) (false = true) (inR IntKind.i8 r.fst → inR IntKind.i8 r.snd.fst →
      (r.snd.snd.length ≤ 9223372036854775807 ∧ ∀ (x : Int × Int × Int × Int), List.Mem x r.snd.snd → inR IntKind.i8 x.fst ∧ inR IntKind.i8 x.snd.fst ∧ inR IntKind.i8 x.snd.snd.fst ∧ inR IntKind.i8
      x.snd.snd.snd) → ∃ (r_15 : Int), ∃ (y : Int × Int × List (Int × Int × Int × Int)), EvB Try.prog 26 ((Ty.int IntKind.i8).prod ((Ty.int IntKind.i8).prod (Ty.slice 41 ((Ty.int IntKind.i8).prod ((Ty.int
      IntKind.i8).prod ((Ty.int IntKind.i8).prod (Ty.int IntKind.i8))))))) r [Arg.imm (D.dat (Ty.int IntKind.i64) 1)] (compsOf [(false, Ty.int IntKind.i64)] r_15) y ∧ (inR IntKind.i64 r_15 → inR IntKind.i8
      y.fst → inR IntKind.i8 y.snd.fst → (y.snd.snd.length ≤ 9223372036854775807 ∧ ∀ (x : Int × Int × Int × Int), List.Mem x y.snd.snd → inR IntKind.i8 x.fst ∧ inR IntKind.i8 x.snd.fst ∧ inR IntKind.i8
      x.snd.snd.fst ∧ inR IntKind.i8 x.snd.snd.snd) → ∃ (r : Int), ∃ (y : List (Int × Int × Int × Int)), EvB Try.prog 50 (Ty.slice 41 ((Ty.int IntKind.i8).prod ((Ty.int IntKind.i8).prod ((Ty.int
      IntKind.i8).prod (Ty.int IntKind.i8))))) r_5 [Arg.imm (D.dat (Ty.int IntKind.i64) r_15)] (compsOf [(false, Ty.int IntKind.i64)] r) y ∧ (inR IntKind.i64 r → (y.length ≤ 9223372036854775807 ∧ ∀ (x :
      Int × Int × Int × Int), List.Mem x y → inR IntKind.i8 x.fst ∧ inR IntKind.i8 x.snd.fst ∧ inR IntKind.i8 x.snd.snd.fst ∧ inR IntKind.i8 x.snd.snd.snd) → ∃ (r_16 : Int), ∃ (y : List Int), EvB Try.prog
      27 (Ty.slice 2 (Ty.int IntKind.i64)) r_6 [Arg.imm (D.dat (Ty.int IntKind.i64) r)] (compsOf [(false, Ty.int IntKind.i64)] r_16) y ∧ (inR IntKind.i64 r_16 → (y.length ≤ 9223372036854775807 ∧ ∀ (x :
      Int), List.Mem x y → inR IntKind.i64 x) → split (!decide (r_16 < 0)) (inR IntKind.i8 r_7.fst.fst → inR IntKind.i8 r_7.fst.snd.fst → (r_7.fst.snd.snd.length ≤ 9223372036854775807 ∧ ∀ (x : Int × Int ×
      Int × Int), List.Mem x r_7.fst.snd.snd → inR IntKind.i8 x.fst ∧ inR IntKind.i8 x.snd.fst ∧ inR IntKind.i8 x.snd.snd.fst ∧ inR IntKind.i8 x.snd.snd.snd) → inR IntKind.i8 r_4.fst.fst → inR IntKind.i8
      r_4.fst.snd.fst → (r_4.fst.snd.snd.length ≤ 9223372036854775807 ∧ ∀ (x : Int × Int × Int × Int), List.Mem x r_4.fst.snd.snd → inR IntKind.i8 x.fst ∧ inR IntKind.i8 x.snd.fst ∧ inR IntKind.i8
      x.snd.snd.fst ∧ inR IntKind.i8 x.snd.snd.snd) → ∃ (r : Bool), Ev Try.prog 19 [Arg.imm (D.dat (sqT 41) r_7.fst), Arg.imm (D.dat (sqT 41) r_4.fst)] (compsOf [(false, Ty.bool)] r) ∧ split (!!r) (split
      (!decide (r_7.snd = r_4.snd)) (false = true) (inR IntKind.i8 r_7.fst.fst → inR IntKind.i8 r_7.fst.snd.fst → (r_7.fst.snd.snd.length ≤ 9223372036854775807 ∧ ∀ (x : Int × Int × Int × Int), List.Mem x
      r_7.fst.snd.snd → inR IntKind.i8 x.fst ∧ inR IntKind.i8 x.snd.fst ∧ inR IntKind.i8 x.snd.snd.fst ∧ inR IntKind.i8 x.snd.snd.snd) → ∃ (r : Int), ∃ (y : Int × Int × List (Int × Int × Int × Int)), EvB
      Try.prog 26 ((Ty.int IntKind.i8).prod ((Ty.int IntKind.i8).prod (Ty.slice 41 ((Ty.int IntKind.i8).prod ((Ty.int IntKind.i8).prod ((Ty.int IntKind.i8).prod (Ty.int IntKind.i8))))))) r_7.fst [Arg.imm
      (D.dat (Ty.int IntKind.i64) 1)] (compsOf [(false, Ty.int IntKind.i64)] r) y ∧ (inR IntKind.i64 r → inR IntKind.i8 y.fst → inR IntKind.i8 y.snd.fst → (y.snd.snd.length ≤ 9223372036854775807 ∧ ∀ (x :
      Int × Int × Int × Int), List.Mem x y.snd.snd → inR IntKind.i8 x.fst ∧ inR IntKind.i8 x.snd.fst ∧ inR IntKind.i8 x.snd.snd.fst ∧ inR IntKind.i8 x.snd.snd.snd) → inR IntKind.i8 y.fst → inR IntKind.i8
      y.snd.fst → (y.snd.snd.length ≤ 9223372036854775807 ∧ ∀ (x : Int × Int × Int × Int), List.Mem x y.snd.snd → inR IntKind.i8 x.fst ∧ inR IntKind.i8 x.snd.fst ∧ inR IntKind.i8 x.snd.snd.fst ∧ inR
      IntKind.i8 x.snd.snd.snd) → ∃ (r_17 : Int), Ev Try.prog 53 [Arg.imm (D.dat (sqT 41) y), Arg.imm (D.dat (Ty.int IntKind.i64) 1)] (compsOf [(false, Ty.int IntKind.i64)] r_17) ∧ (inR IntKind.i64 r_17 →
      split (decide (r_17 < 0)) (false = true) (split (!decide (r_17 = r)) (false = true) (inR IntKind.i8 q.fst → inR IntKind.i8 q.snd.fst → (q.snd.snd.length ≤ 9223372036854775807 ∧ ∀ (x : Int × Int × Int
      × Int), List.Mem x q.snd.snd → inR IntKind.i8 x.fst ∧ inR IntKind.i8 x.snd.fst ∧ inR IntKind.i8 x.snd.snd.fst ∧ inR IntKind.i8 x.snd.snd.snd) → ∃ (r_18 : Int × Int × List (Int × Int × Int × Int)), Ev
      Try.prog 16 [Arg.imm (D.dat (sqT 38) q)] (compsOf [(true, (Ty.int IntKind.i8).prod ((Ty.int IntKind.i8).prod (Ty.slice 41 ((Ty.int IntKind.i8).prod ((Ty.int IntKind.i8).prod ((Ty.int IntKind.i8).prod
      (Ty.int IntKind.i8)))))))] r_18) ∧ (inR IntKind.i8 r_18.fst → inR IntKind.i8 r_18.snd.fst → (r_18.snd.snd.length ≤ 9223372036854775807 ∧ ∀ (x : Int × Int × Int × Int), List.Mem x r_18.snd.snd → inR
      IntKind.i8 x.fst ∧ inR IntKind.i8 x.snd.fst ∧ inR IntKind.i8 x.snd.snd.fst ∧ inR IntKind.i8 x.snd.snd.snd) → ∃ (r_19 : List (Int × Int × Int × Int)), Ev Try.prog 45 [Arg.imm (D.dat (Ty.slice 38
      slabT) list)] (compsOf [(true, Ty.slice 41 ((Ty.int IntKind.i8).prod ((Ty.int IntKind.i8).prod ((Ty.int IntKind.i8).prod (Ty.int IntKind.i8)))))] r_19) ∧ ((r_19.length ≤ 9223372036854775807 ∧ ∀ (x :
      Int × Int × Int × Int), List.Mem x r_19 → inR IntKind.i8 x.fst ∧ inR IntKind.i8 x.snd.fst ∧ inR IntKind.i8 x.snd.snd.fst ∧ inR IntKind.i8 x.snd.snd.snd) → ∃ (r_20 : List Int), Ev Try.prog 17 [Arg.imm
      (D.dat (Ty.slice 2 (Ty.int IntKind.i64)) order)] (compsOf [(true, Ty.slice 2 (Ty.int IntKind.i64))] r_20) ∧ ((r_20.length ≤ 9223372036854775807 ∧ ∀ (x : Int), List.Mem x r_20 → inR IntKind.i64 x) → ∃
      (r_21 : (Int × Int × List (Int × Int × Int × Int)) × Int), Ev Try.prog 56 [Arg.imm (D.dat (sqT 41) r_18), Arg.imm (D.dat (Ty.slice 41 slabT) r_19), Arg.imm (D.dat (Ty.slice 2 (Ty.int IntKind.i64))
      r_20)] (compsOf [(true, (Ty.int IntKind.i8).prod ((Ty.int IntKind.i8).prod (Ty.slice 41 ((Ty.int IntKind.i8).prod ((Ty.int IntKind.i8).prod ((Ty.int IntKind.i8).prod (Ty.int IntKind.i8))))))),
      (false, Ty.int IntKind.i64)] r_21) ∧ (inR IntKind.i8 r_21.fst.fst → inR IntKind.i8 r_21.fst.snd.fst → (r_21.fst.snd.snd.length ≤ 9223372036854775807 ∧ ∀ (x : Int × Int × Int × Int), List.Mem x
      r_21.fst.snd.snd → inR IntKind.i8 x.fst ∧ inR IntKind.i8 x.snd.fst ∧ inR IntKind.i8 x.snd.snd.fst ∧ inR IntKind.i8 x.snd.snd.snd) → inR IntKind.i64 r_21.snd → inR IntKind.i8 r_21.fst.fst → inR
      IntKind.i8 r_21.fst.snd.fst → (r_21.fst.snd.snd.length ≤ 9223372036854775807 ∧ ∀ (x : Int × Int × Int × Int), List.Mem x r_21.fst.snd.snd → inR IntKind.i8 x.fst ∧ inR IntKind.i8 x.snd.fst ∧ inR
      IntKind.i8 x.snd.snd.fst ∧ inR IntKind.i8 x.snd.snd.snd) → inR IntKind.i8 r_4.fst.fst → inR IntKind.i8 r_4.fst.snd.fst → (r_4.fst.snd.snd.length ≤ 9223372036854775807 ∧ ∀ (x : Int × Int × Int × Int),
      List.Mem x r_4.fst.snd.snd → inR IntKind.i8 x.fst ∧ inR IntKind.i8 x.snd.fst ∧ inR IntKind.i8 x.snd.snd.fst ∧ inR IntKind.i8 x.snd.snd.snd) → ∃ (r_22 : Bool), Ev Try.prog 19 [Arg.imm (D.dat (sqT 41)
      r_21.fst), Arg.imm (D.dat (sqT 41) r_4.fst)] (compsOf [(false, Ty.bool)] r_22) ∧ split (!!r_22) (split (!decide (r_21.snd = r_4.snd)) (false = true) (inR IntKind.i8 y.fst → inR IntKind.i8 y.snd.fst →
      (y.snd.snd.length ≤ 9223372036854775807 ∧ ∀ (x : Int × Int × Int × Int), List.Mem x y.snd.snd → inR IntKind.i8 x.fst ∧ inR IntKind.i8 x.snd.fst ∧ inR IntKind.i8 x.snd.snd.fst ∧ inR IntKind.i8
      x.snd.snd.snd) → ∃ (r_23 : Int), Ev Try.prog 53 [Arg.imm (D.dat (sqT 41) y), Arg.imm (D.dat (Ty.int IntKind.i64) 1)] (compsOf [(false, Ty.int IntKind.i64)] r_23) ∧ (inR IntKind.i64 r_23 → split
      (decide (r_23 < 0)) (false = true) (split (!decide (r_23 = r)) (false = true) (true = true))))) (false = true))))))))))) (false = true)) (false = true)))))))))))) (false = true))))))))))))))) := by
    intros
    refine split_of (fun _ => rfl) (fun h1 => ?_)
    have h1 := of_decide_eq_false h1
    have n1 : order.length ≤ 1048576 := by omega
    intros
    refine ⟨_, szSquare_ev q, fun _ => split_of (fun _ => rfl) (fun h => ?_)⟩
    have hl := sz_pos (of_decide_eq_false h)
    have hz : szI q.2.2.length 1048576 = 1048576 - (q.2.2.length : Int) := by unfold szI; split <;> omega
    refine ⟨_, szSlabS_ev list _ (by omega), fun _ => split_of (fun _ => rfl) (fun h2 => ?_)⟩
    have h2 := of_decide_eq_false h2
    have n2 : list.length ≤ 1048576 := by
      rw [hz] at h2
      unfold szI at h2
      split at h2 <;> omega
    have hk := layAllV_len (toSquareV q) list order
    have hq : (toSquareV q).2.2.length ≤ 1048576 := hl
    intros
    refine ⟨_, toSquare_ev q hl, ?_⟩
    intros
    refine ⟨_, toSlabS_ev list n2, ?_⟩
    intros
    refine ⟨_, toInts_ev order n1, ?_⟩
    intros
    refine ⟨_, specLayAll_ev _ _ _, ?_⟩
    intros
    refine ⟨_, toSquare_ev q hl, ?_⟩
    intros
    refine ⟨_, toSlabS_ev list n2, ?_⟩
    intros
    refine ⟨_, toInts_ev order n1, ?_⟩
    intros
    refine ⟨_, implLayAll_ev _ _ _, ?_⟩
    intros
    refine ⟨_, eqSquare_ev _, ?_⟩
    refine skip2 ?_
    intros
    refine ⟨_, toSquare_ev q hl, ?_⟩
    intros
    refine ⟨_, eqSquare_ev _, ?_⟩
    refine split_of (fun h => by simp at h) (fun _ => ?_)
    intros
    refine ⟨_, toSlabS_ev list n2, ?_⟩
    intros
    refine ⟨_, eqSlabS_ev _, ?_⟩
    refine split_of (fun h => by simp at h) (fun _ => ?_)
    intros
    refine ⟨_, toInts_ev order n1, ?_⟩
    intros
    refine ⟨_, eqInts_ev _, ?_⟩
    refine split_of (fun h => by simp at h) (fun _ => ?_)
    intros
    refine ⟨_, _, markSquare_ev _ 1 (by omega) (by omega), ?_⟩
    intros
    refine ⟨_, _, markSlabs_ev _ _ (by omega) (by omega), ?_⟩
    intros
    refine ⟨_, _, markInts_ev _ _ (by omega) (by omega), ?_⟩
    intros
    refine split_of (fun _ => ?_) (fun h => absurd (of_decide_eq_true (by simpa using h)) (by omega))
    intros
    refine ⟨_, eqSquare_ev _, ?_⟩
    refine skip2 ?_
    intros
    refine ⟨_, _, markSquare_ev _ 1 (by omega) (by omega), ?_⟩
    intros
    refine ⟨_, heldSquare_ev _ _ _ 1 (by omega) (by omega), ?_⟩
    intros
    refine split_of (fun h => absurd (of_decide_eq_true h) (by omega)) (fun _ => split_of (fun h => by simp at h) (fun _ => ?_))
    intros
    refine ⟨_, toSquare_ev q hl, ?_⟩
    intros
    refine ⟨_, toSlabS_ev list n2, ?_⟩
    intros
    refine ⟨_, toInts_ev order n1, ?_⟩
    intros
    refine ⟨_, implLayAll_ev _ _ _, ?_⟩
    intros
    refine ⟨_, eqSquare_ev _, ?_⟩
    refine skip2 ?_
    intros
    refine ⟨_, heldSquare_ev _ _ _ 1 (by omega) (by omega), ?_⟩
    intros
    exact split_of (fun h => absurd (of_decide_eq_true h) (by omega)) (fun _ => split_of (fun h => by simp at h) (fun _ => rfl))
  refine @Eq.mpr _ _ (?_) key
  kernel_rfl
end Go.Proofs.Ytmjijggkdbiijaa
