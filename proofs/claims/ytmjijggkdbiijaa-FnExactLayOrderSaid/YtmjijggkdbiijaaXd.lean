/- The law on the first order. No statement is proved here. -/
import Derived.Test.YtmjijggkdbiijaaXc
import Derived.Test.YtmjijggkdbiijaaXf
import Derived.Test.YtmjijggkdbiijaaWn
namespace Go.Proofs.Ytmjijggkdbiijaa
open Go.RowKit
set_option linter.unusedVariables false
set_option linter.unusedSimpArgs false
set_option maxRecDepth 100000
set_option maxHeartbeats 4000000
theorem firstV_len (q : Sq) (list : List Sl) : (firstV q list).1.length ≤ 10 := by
  unfold firstV
  split
  · rename_i h
    obtain ⟨_, hn, _⟩ := layC_ok h
    split
    · rename_i h2
      have hp : 0 < 2 ^ list.length := Nat.pow_pos (by omega)
      have := ord_len (q := q) (list := list) _ 0 (Nat.le_refl _) hp h2
      simp only
      omega
    · simp
  · simp
noncomputable abbrev lawOInv (list : List Sl) (r : Nat) (σ : List Slot) : Option LoopInv := match r with
  | 70000030 => some ⟨[1, 27, 28, 29, 30, 50000048, 70000030], Sq, fun z => [(30, .val (.dat (.slice 38 slabT) list)), (29, .sem (ownT (sqT 41) z))], fun _ => True, fun _ => 0⟩
  | _ => none
theorem lawLayOrder_ev (q : Sq) (list : List Sl) : Ev Try.prog 11 [aQ0 q, aSs0 list] (compsOf [rB] (true)) := by
  refine ev_of (l := [rB]) (r := (true)) (types (resW) [50000048, 70000030] (lawOInv list)) follows Try.func11 (by kernel_rfl) (by rw [Try.ntmps11]; exact Nat.le_of_ble_eq_true rfl) ?_
  have key : (inR IntKind.i8 q.fst → inR IntKind.i8 q.snd.fst → (q.snd.snd.length ≤ 9223372036854775807 ∧ ∀ (x : Int × Int × Int × Int), List.Mem x q.snd.snd → inR IntKind.i8 x.fst ∧ inR IntKind.i8
      x.snd.fst ∧ inR IntKind.i8 x.snd.snd.fst ∧ inR IntKind.i8 x.snd.snd.snd) → (list.length ≤ 9223372036854775807 ∧ ∀ (x : Int × Int × Int × Int), List.Mem x list → inR IntKind.i8 x.fst ∧ inR
      IntKind.i8 x.snd.fst ∧ inR IntKind.i8 x.snd.snd.fst ∧ inR IntKind.i8 x.snd.snd.snd) → inR IntKind.i8 q.fst → inR IntKind.i8 q.snd.fst → (q.snd.snd.length ≤ 9223372036854775807 ∧ ∀ (x : Int ×
      Int × Int × Int), List.Mem x q.snd.snd → inR IntKind.i8 x.fst ∧ inR IntKind.i8 x.snd.fst ∧ inR IntKind.i8 x.snd.snd.fst ∧ inR IntKind.i8 x.snd.snd.snd) → ∃ (r : Int), Ev Try.prog 14 [Arg.imm
      (D.dat (sqT 38) q), Arg.imm (D.dat (Ty.int IntKind.i64) 1048576)] (compsOf [(false, Ty.int IntKind.i64)] r) ∧ (inR IntKind.i64 r → split (decide (r < 0)) (true = true) (∃ (r_1 : Int), Ev
      Try.prog 43 [Arg.imm (D.dat (Ty.slice 38 slabT) list), Arg.imm (D.dat (Ty.int IntKind.i64) r)] (compsOf [(false, Ty.int IntKind.i64)] r_1) ∧ (inR IntKind.i64 r_1 → split (decide (r_1 < 0))
      (true = true) (inR IntKind.i8 q.fst → inR IntKind.i8 q.snd.fst → (q.snd.snd.length ≤ 9223372036854775807 ∧ ∀ (x : Int × Int × Int × Int), List.Mem x q.snd.snd → inR IntKind.i8 x.fst ∧ inR
      IntKind.i8 x.snd.fst ∧ inR IntKind.i8 x.snd.snd.fst ∧ inR IntKind.i8 x.snd.snd.snd) → ∃ (r_2 : Int × Int × List (Int × Int × Int × Int)), Ev Try.prog 16 [Arg.imm (D.dat (sqT 38) q)] (compsOf
      [(true, (Ty.int IntKind.i8).prod ((Ty.int IntKind.i8).prod (Ty.slice 41 ((Ty.int IntKind.i8).prod ((Ty.int IntKind.i8).prod ((Ty.int IntKind.i8).prod (Ty.int IntKind.i8)))))))] r_2) ∧ (inR
      IntKind.i8 r_2.fst → inR IntKind.i8 r_2.snd.fst → (r_2.snd.snd.length ≤ 9223372036854775807 ∧ ∀ (x : Int × Int × Int × Int), List.Mem x r_2.snd.snd → inR IntKind.i8 x.fst ∧ inR IntKind.i8
      x.snd.fst ∧ inR IntKind.i8 x.snd.snd.fst ∧ inR IntKind.i8 x.snd.snd.snd) → ∃ (x : Int × Int × List (Int × Int × Int × Int)), True ∧ Cust Try.prog [28, 30, 27, 50000048, 70000030] { dst := some 30, op := Op.move (Operand.tmp 1), type := 23, pos := "exact.go:3814", after := #[], guard := none }
      [1, 27, 28, 29, 30, 50000048, 70000030] [Slot.val (D.dat (sqT 38) q), Slot.val (D.dat (Ty.slice 38 slabT) list), Slot.box (D.dat (sqT 38) q), Slot.dead, Slot.val (D.dat Ty.bool false),
      Slot.val (D.dat (Ty.int IntKind.i64) r_1), Slot.dead, Slot.dead, Slot.dead, Slot.dead, Slot.dead, Slot.dead, Slot.dead, Slot.dead, Slot.dead, Slot.dead, Slot.dead, Slot.val (D.dat (sqT 38)
      q), Slot.val (D.dat (Ty.int IntKind.i64) 1048576), Slot.val (D.dat (Ty.int IntKind.i64) r), Slot.val (D.dat (Ty.int IntKind.i64) r), Slot.val (D.dat Ty.bool false), Slot.val (D.dat (Ty.slice
      38 slabT) list), Slot.val (D.dat (Ty.int IntKind.i64) r), Slot.val (D.dat (Ty.int IntKind.i64) r_1), Slot.val (D.dat (Ty.int IntKind.i64) r_1), Slot.val (D.dat Ty.bool false), Slot.dead,
      Slot.val (D.dat (sqT 38) q), Slot.own (sqT 41) r_2, Slot.dead, Slot.dead, Slot.dead, Slot.dead, Slot.dead, Slot.dead, Slot.dead, Slot.dead, Slot.dead, Slot.dead, Slot.dead, Slot.dead,
      Slot.dead, Slot.dead, Slot.dead, Slot.dead, Slot.dead, Slot.dead, Slot.dead, Slot.dead, Slot.dead, Slot.dead, Slot.dead, Slot.dead, Slot.dead, Slot.dead, Slot.dead, Slot.dead, Slot.dead,
      Slot.dead, Slot.dead, Slot.dead, Slot.dead, Slot.dead, Slot.dead, Slot.dead, Slot.dead, Slot.dead, Slot.dead, Slot.dead, Slot.dead, Slot.dead, Slot.dead, Slot.dead, Slot.dead, Slot.dead,
      Slot.dead, Slot.dead, Slot.dead, Slot.dead, Slot.dead, Slot.dead, Slot.dead, Slot.dead, Slot.dead, Slot.dead, Slot.dead, Slot.dead, Slot.dead, Slot.dead, Slot.dead, Slot.dead, Slot.dead,
      Slot.dead, Slot.dead, Slot.dead, Slot.dead, Slot.dead, Slot.dead, Slot.dead, Slot.dead, Slot.dead, Slot.dead, Slot.dead, Slot.dead, Slot.dead, Slot.dead, Slot.dead, Slot.dead, Slot.dead,
      Slot.dead, Slot.dead, Slot.dead, Slot.dead, Slot.dead, Slot.dead, Slot.dead, Slot.dead, Slot.dead] [(30, Slot.val (D.dat (Ty.slice 38 slabT) list)), (29, Slot.sem (ownT ((Ty.int
      IntKind.i8).prod ((Ty.int IntKind.i8).prod (Ty.slice 41 ((Ty.int IntKind.i8).prod ((Ty.int IntKind.i8).prod ((Ty.int IntKind.i8).prod (Ty.int IntKind.i8))))))) x))] ∧ ∃ (r : List (Int × Int ×
      Int × Int)), Ev Try.prog 45 [Arg.imm (D.dat (Ty.slice 38 slabT) list)] (compsOf [(true, Ty.slice 41 ((Ty.int IntKind.i8).prod ((Ty.int IntKind.i8).prod ((Ty.int IntKind.i8).prod (Ty.int
      IntKind.i8)))))] r) ∧ ((r.length ≤ 9223372036854775807 ∧ ∀ (x : Int × Int × Int × Int), List.Mem x r → inR IntKind.i8 x.fst ∧ inR IntKind.i8 x.snd.fst ∧ inR IntKind.i8 x.snd.snd.fst ∧ inR
      IntKind.i8 x.snd.snd.snd) → ∃ (r_3 : List Int × Int), ∃ (A' : Thg), EvS Try.prog (some 48) (ownT ((Ty.int IntKind.i8).prod ((Ty.int IntKind.i8).prod (Ty.slice 41 ((Ty.int IntKind.i8).prod
      ((Ty.int IntKind.i8).prod ((Ty.int IntKind.i8).prod (Ty.int IntKind.i8))))))) x) [Arg.imm (D.dat (Ty.slice 41 slabT) r)] (compsOf [(false, Ty.slice 2 (Ty.int IntKind.i64)), (false, Ty.int
      IntKind.i64)] r_3) A' ∧ ((r_3.fst.length ≤ 9223372036854775807 ∧ ∀ (x : Int), List.Mem x r_3.fst → inR IntKind.i64 x) → inR IntKind.i64 r_3.snd → inR IntKind.i8 q.fst → inR IntKind.i8
      q.snd.fst → (q.snd.snd.length ≤ 9223372036854775807 ∧ ∀ (x : Int × Int × Int × Int), List.Mem x q.snd.snd → inR IntKind.i8 x.fst ∧ inR IntKind.i8 x.snd.fst ∧ inR IntKind.i8 x.snd.snd.fst ∧
      inR IntKind.i8 x.snd.snd.snd) → ∃ (r : Int × Int × List (Int × Int × Int × Int)), Ev Try.prog 16 [Arg.imm (D.dat (sqT 38) q)] (compsOf [(true, (Ty.int IntKind.i8).prod ((Ty.int
      IntKind.i8).prod (Ty.slice 41 ((Ty.int IntKind.i8).prod ((Ty.int IntKind.i8).prod ((Ty.int IntKind.i8).prod (Ty.int IntKind.i8)))))))] r) ∧ (inR IntKind.i8 r.fst → inR IntKind.i8 r.snd.fst →
      (r.snd.snd.length ≤ 9223372036854775807 ∧ ∀ (x : Int × Int × Int × Int), List.Mem x r.snd.snd → inR IntKind.i8 x.fst ∧ inR IntKind.i8 x.snd.fst ∧ inR IntKind.i8 x.snd.snd.fst ∧ inR IntKind.i8
      x.snd.snd.snd) → ∃ (r_4 : List (Int × Int × Int × Int)), Ev Try.prog 45 [Arg.imm (D.dat (Ty.slice 38 slabT) list)] (compsOf [(true, Ty.slice 41 ((Ty.int IntKind.i8).prod ((Ty.int
      IntKind.i8).prod ((Ty.int IntKind.i8).prod (Ty.int IntKind.i8)))))] r_4) ∧ ((r_4.length ≤ 9223372036854775807 ∧ ∀ (x : Int × Int × Int × Int), List.Mem x r_4 → inR IntKind.i8 x.fst ∧ inR
      IntKind.i8 x.snd.fst ∧ inR IntKind.i8 x.snd.snd.fst ∧ inR IntKind.i8 x.snd.snd.snd) → inR IntKind.i8 r.fst → inR IntKind.i8 r.snd.fst → (r.snd.snd.length ≤ 9223372036854775807 ∧ ∀ (x : Int ×
      Int × Int × Int), List.Mem x r.snd.snd → inR IntKind.i8 x.fst ∧ inR IntKind.i8 x.snd.fst ∧ inR IntKind.i8 x.snd.snd.fst ∧ inR IntKind.i8 x.snd.snd.snd) → ∃ (r_5 : List Int × Int), Ev Try.prog
      49 [Arg.imm (D.dat (sqT 41) r), Arg.imm (D.dat (Ty.slice 41 slabT) r_4)] (compsOf [(true, Ty.slice 2 (Ty.int IntKind.i64)), (false, Ty.int IntKind.i64)] r_5) ∧ ((r_5.fst.length ≤
      9223372036854775807 ∧ ∀ (x : Int), List.Mem x r_5.fst → inR IntKind.i64 x) → inR IntKind.i64 r_5.snd → ∃ (r_6 : Bool), Ev Try.prog 20 [Arg.imm (D.dat (Ty.slice 2 (Ty.int IntKind.i64))
      r_5.fst), Arg.imm (D.dat (Ty.slice 2 (Ty.int IntKind.i64)) r_3.fst)] (compsOf [(false, Ty.bool)] r_6) ∧ split (!!r_6) (split (!decide (r_5.snd = r_3.snd)) (false = true) (inR IntKind.i8 r.fst
      → inR IntKind.i8 r.snd.fst → (r.snd.snd.length ≤ 9223372036854775807 ∧ ∀ (x : Int × Int × Int × Int), List.Mem x r.snd.snd → inR IntKind.i8 x.fst ∧ inR IntKind.i8 x.snd.fst ∧ inR IntKind.i8
      x.snd.snd.fst ∧ inR IntKind.i8 x.snd.snd.snd) → inR IntKind.i8 q.fst → inR IntKind.i8 q.snd.fst → (q.snd.snd.length ≤ 9223372036854775807 ∧ ∀ (x : Int × Int × Int × Int), List.Mem x q.snd.snd
      → inR IntKind.i8 x.fst ∧ inR IntKind.i8 x.snd.fst ∧ inR IntKind.i8 x.snd.snd.fst ∧ inR IntKind.i8 x.snd.snd.snd) → ∃ (r_7 : Int × Int × List (Int × Int × Int × Int)), Ev Try.prog 16 [Arg.imm
      (D.dat (sqT 38) q)] (compsOf [(true, (Ty.int IntKind.i8).prod ((Ty.int IntKind.i8).prod (Ty.slice 41 ((Ty.int IntKind.i8).prod ((Ty.int IntKind.i8).prod ((Ty.int IntKind.i8).prod (Ty.int
      IntKind.i8)))))))] r_7) ∧ (inR IntKind.i8 r_7.fst → inR IntKind.i8 r_7.snd.fst → (r_7.snd.snd.length ≤ 9223372036854775807 ∧ ∀ (x : Int × Int × Int × Int), List.Mem x r_7.snd.snd → inR
      IntKind.i8 x.fst ∧ inR IntKind.i8 x.snd.fst ∧ inR IntKind.i8 x.snd.snd.fst ∧ inR IntKind.i8 x.snd.snd.snd) → ∃ (r_8 : Bool), Ev Try.prog 19 [Arg.imm (D.dat (sqT 41) r), Arg.imm (D.dat (sqT
      41) r_7)] (compsOf [(false, Ty.bool)] r_8) ∧ split (!r_8) (false = true) (∃ (r_9 : List (Int × Int × Int × Int)), Ev Try.prog 45 [Arg.imm (D.dat (Ty.slice 38 slabT) list)] (compsOf [(true,
      Ty.slice 41 ((Ty.int IntKind.i8).prod ((Ty.int IntKind.i8).prod ((Ty.int IntKind.i8).prod (Ty.int IntKind.i8)))))] r_9) ∧ ((r_9.length ≤ 9223372036854775807 ∧ ∀ (x : Int × Int × Int × Int),
      List.Mem x r_9 → inR IntKind.i8 x.fst ∧ inR IntKind.i8 x.snd.fst ∧ inR IntKind.i8 x.snd.snd.fst ∧ inR IntKind.i8 x.snd.snd.snd) → ∃ (r_10 : Bool), Ev Try.prog 47 [Arg.imm (D.dat (Ty.slice 41
      slabT) r_4), Arg.imm (D.dat (Ty.slice 41 slabT) r_9)] (compsOf [(false, Ty.bool)] r_10) ∧ split (!r_10) (false = true) (inR IntKind.i8 r.fst → inR IntKind.i8 r.snd.fst → (r.snd.snd.length ≤
      9223372036854775807 ∧ ∀ (x : Int × Int × Int × Int), List.Mem x r.snd.snd → inR IntKind.i8 x.fst ∧ inR IntKind.i8 x.snd.fst ∧ inR IntKind.i8 x.snd.snd.fst ∧ inR IntKind.i8 x.snd.snd.snd) → ∃
      (r_11 : Int), ∃ (y : Int × Int × List (Int × Int × Int × Int)), EvB Try.prog 26 ((Ty.int IntKind.i8).prod ((Ty.int IntKind.i8).prod (Ty.slice 41 ((Ty.int IntKind.i8).prod ((Ty.int
      IntKind.i8).prod ((Ty.int IntKind.i8).prod (Ty.int IntKind.i8))))))) r [Arg.imm (D.dat (Ty.int IntKind.i64) 1)] (compsOf [(false, Ty.int IntKind.i64)] r_11) y ∧ (inR IntKind.i64 r_11 → inR
      IntKind.i8 y.fst → inR IntKind.i8 y.snd.fst → (y.snd.snd.length ≤ 9223372036854775807 ∧ ∀ (x : Int × Int × Int × Int), List.Mem x y.snd.snd → inR IntKind.i8 x.fst ∧ inR IntKind.i8 x.snd.fst ∧
      inR IntKind.i8 x.snd.snd.fst ∧ inR IntKind.i8 x.snd.snd.snd) → ∃ (r : Int), ∃ (y : List (Int × Int × Int × Int)), EvB Try.prog 50 (Ty.slice 41 ((Ty.int IntKind.i8).prod ((Ty.int
      IntKind.i8).prod ((Ty.int IntKind.i8).prod (Ty.int IntKind.i8))))) r_4 [Arg.imm (D.dat (Ty.int IntKind.i64) r_11)] (compsOf [(false, Ty.int IntKind.i64)] r) y ∧ (inR IntKind.i64 r → (y.length
      ≤ 9223372036854775807 ∧ ∀ (x : Int × Int × Int × Int), List.Mem x y → inR IntKind.i8 x.fst ∧ inR IntKind.i8 x.snd.fst ∧ inR IntKind.i8 x.snd.snd.fst ∧ inR IntKind.i8 x.snd.snd.snd) → split
      (!decide (r < 0)) (∃ (r : Bool), Ev Try.prog 20 [Arg.imm (D.dat (Ty.slice 2 (Ty.int IntKind.i64)) r_5.fst), Arg.imm (D.dat (Ty.slice 2 (Ty.int IntKind.i64)) r_3.fst)] (compsOf [(false,
      Ty.bool)] r) ∧ split (!!r) (split (!decide (r_5.snd = r_3.snd)) (false = true) (∃ (r : Int), ∃ (y : List Int), EvB Try.prog 27 (Ty.slice 2 (Ty.int IntKind.i64)) r_5.fst [Arg.imm (D.dat
      (Ty.int IntKind.i64) 1)] (compsOf [(false, Ty.int IntKind.i64)] r) y ∧ (inR IntKind.i64 r → (y.length ≤ 9223372036854775807 ∧ ∀ (x : Int), List.Mem x y → inR IntKind.i64 x) → ∃ (r_12 : Int),
      Ev Try.prog 28 [Arg.imm (D.dat (Ty.slice 2 (Ty.int IntKind.i64)) y), Arg.imm (D.dat (Ty.int IntKind.i64) 1)] (compsOf [(false, Ty.int IntKind.i64)] r_12) ∧ (inR IntKind.i64 r_12 → split
      (decide (r_12 < 0)) (false = true) (split (!decide (r_12 = r)) (false = true) (inR IntKind.i8 q.fst → inR IntKind.i8 q.snd.fst → (q.snd.snd.length ≤ 9223372036854775807 ∧ ∀ (x : Int × Int ×
      Int × Int), List.Mem x q.snd.snd → inR IntKind.i8 x.fst ∧ inR IntKind.i8 x.snd.fst ∧ inR IntKind.i8 x.snd.snd.fst ∧ inR IntKind.i8 x.snd.snd.snd) → ∃ (r_13 : Int × Int × List (Int × Int × Int
      × Int)), Ev Try.prog 16 [Arg.imm (D.dat (sqT 38) q)] (compsOf [(true, (Ty.int IntKind.i8).prod ((Ty.int IntKind.i8).prod (Ty.slice 41 ((Ty.int IntKind.i8).prod ((Ty.int IntKind.i8).prod
      ((Ty.int IntKind.i8).prod (Ty.int IntKind.i8)))))))] r_13) ∧ (inR IntKind.i8 r_13.fst → inR IntKind.i8 r_13.snd.fst → (r_13.snd.snd.length ≤ 9223372036854775807 ∧ ∀ (x : Int × Int × Int ×
      Int), List.Mem x r_13.snd.snd → inR IntKind.i8 x.fst ∧ inR IntKind.i8 x.snd.fst ∧ inR IntKind.i8 x.snd.snd.fst ∧ inR IntKind.i8 x.snd.snd.snd) → ∃ (r_14 : List (Int × Int × Int × Int)), Ev
      Try.prog 45 [Arg.imm (D.dat (Ty.slice 38 slabT) list)] (compsOf [(true, Ty.slice 41 ((Ty.int IntKind.i8).prod ((Ty.int IntKind.i8).prod ((Ty.int IntKind.i8).prod (Ty.int IntKind.i8)))))]
      r_14) ∧ ((r_14.length ≤ 9223372036854775807 ∧ ∀ (x : Int × Int × Int × Int), List.Mem x r_14 → inR IntKind.i8 x.fst ∧ inR IntKind.i8 x.snd.fst ∧ inR IntKind.i8 x.snd.snd.fst ∧ inR IntKind.i8
      x.snd.snd.snd) → ∃ (r_15 : List Int × Int), Ev Try.prog 49 [Arg.imm (D.dat (sqT 41) r_13), Arg.imm (D.dat (Ty.slice 41 slabT) r_14)] (compsOf [(true, Ty.slice 2 (Ty.int IntKind.i64)), (false,
      Ty.int IntKind.i64)] r_15) ∧ ((r_15.fst.length ≤ 9223372036854775807 ∧ ∀ (x : Int), List.Mem x r_15.fst → inR IntKind.i64 x) → inR IntKind.i64 r_15.snd → ∃ (r_16 : Bool), Ev Try.prog 20
      [Arg.imm (D.dat (Ty.slice 2 (Ty.int IntKind.i64)) r_15.fst), Arg.imm (D.dat (Ty.slice 2 (Ty.int IntKind.i64)) r_3.fst)] (compsOf [(false, Ty.bool)] r_16) ∧ split (!!r_16) (split (!decide
      (r_15.snd = r_3.snd)) (false = true) (∃ (r_17 : Int), Ev Try.prog 28 [Arg.imm (D.dat (Ty.slice 2 (Ty.int IntKind.i64)) y), Arg.imm (D.dat (Ty.int IntKind.i64) 1)] (compsOf [(false, Ty.int
      IntKind.i64)] r_17) ∧ (inR IntKind.i64 r_17 → split (decide (r_17 < 0)) (false = true) (split (!decide (r_17 = r)) (false = true) (true = true))))) (false = true)))))))))) (false = true))
      (false = true))))))))) (false = true)))))))))))) := by
    intros
    refine ⟨_, szSquare_ev q, fun _ => split_of (fun _ => rfl) (fun h => ?_)⟩
    have hl := sz_pos (of_decide_eq_false h)
    have hz : szI q.2.2.length 1048576 = 1048576 - (q.2.2.length : Int) := by unfold szI; split <;> omega
    refine ⟨_, szSlabS_ev list _ (by omega), fun _ => split_of (fun _ => rfl) (fun h2 => ?_)⟩
    have h2 := of_decide_eq_false h2
    have n2 : list.length ≤ 1048576 := by
      rw [hz] at h2
      unfold szI at h2
      split at h2 <;> omega
    have hk := firstV_len (toSquareV q) list
    have hq : (toSquareV q).2.2.length ≤ 1048576 := hl
    intros
    refine ⟨_, toSquare_ev q hl, ?_⟩
    intros
    refine ⟨toSquareV q, trivial, cust_sem (ws := [(30, _)]) (cust_ev (types resW [50000048, 70000030] (lawOInv list)) (pre := []) (fact := []) rfl trivial rfl rfl) (by decide) (fun x hx => by
      simp only [List.mem_singleton] at hx; subst hx; exact ⟨by simp, by simp [Slot.root]⟩) rfl (fun N hN => by
      simp only [List.mem_cons, List.not_mem_nil, or_false] at hN
      repeat' (rcases hN with rfl | hN)
      all_goals (try subst hN)
      all_goals exact ⟨by decide, rfl⟩), ?_⟩
    intros
    refine ⟨_, toSlabS_ev list n2, ?_⟩
    intros
    refine ⟨_, _, ev_sem (specOrder_ev _ _) (fun a ha => by simp only [List.mem_singleton] at ha; subst ha; exact ⟨_, rfl⟩), ?_⟩
    intros
    refine ⟨_, toSquare_ev q hl, ?_⟩
    intros
    refine ⟨_, toSlabS_ev list n2, ?_⟩
    intros
    refine ⟨_, implOrder_ev _ _, ?_⟩
    intros
    refine ⟨_, eqInts_ev _, ?_⟩
    refine skip2 ?_
    intros
    refine ⟨_, toSquare_ev q hl, ?_⟩
    intros
    refine ⟨_, eqSquare_ev _, ?_⟩
    refine split_of (fun h => by simp at h) (fun _ => ?_)
    intros
    refine ⟨_, toSlabS_ev list n2, ?_⟩
    intros
    refine ⟨_, eqSlabS_ev _, ?_⟩
    refine split_of (fun h => by simp at h) (fun _ => ?_)
    intros
    refine ⟨_, _, markSquare_ev _ 1 (by omega) (by omega), ?_⟩
    intros
    refine ⟨_, _, markSlabs_ev _ _ (by omega) (by omega), ?_⟩
    intros
    refine split_of (fun _ => ?_) (fun h => absurd (of_decide_eq_true (by simpa using h)) (by omega))
    intros
    refine ⟨_, eqInts_ev _, ?_⟩
    refine skip2 ?_
    intros
    refine ⟨_, _, markInts_ev _ 1 (by omega) (by omega), ?_⟩
    intros
    refine ⟨_, heldInts_ev _ 1 (by omega) (by omega), ?_⟩
    intros
    refine split_of (fun h => absurd (of_decide_eq_true h) (by omega)) (fun _ => split_of (fun h => by simp at h) (fun _ => ?_))
    intros
    refine ⟨_, toSquare_ev q hl, ?_⟩
    intros
    refine ⟨_, toSlabS_ev list n2, ?_⟩
    intros
    refine ⟨_, implOrder_ev _ _, ?_⟩
    intros
    refine ⟨_, eqInts_ev _, ?_⟩
    refine skip2 ?_
    intros
    refine ⟨_, heldInts_ev _ 1 (by omega) (by omega), ?_⟩
    intros
    exact split_of (fun h => absurd (of_decide_eq_true h) (by omega)) (fun _ => split_of (fun h => by simp at h) (fun _ => rfl))
  refine @Eq.mpr _ _ (?_) key
  kernel_rfl
end Go.Proofs.Ytmjijggkdbiijaa
