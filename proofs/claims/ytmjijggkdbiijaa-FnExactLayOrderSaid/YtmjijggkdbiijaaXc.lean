/- Orders of laying: the program's first one. No statement is proved here. -/
import Derived.Test.YtmjijggkdbiijaaXb
namespace Go.Proofs.Ytmjijggkdbiijaa
open Go.RowKit
set_option linter.unusedVariables false
set_option linter.unusedSimpArgs false
set_option maxRecDepth 100000
set_option maxHeartbeats 4000000
abbrev resPF (n : Nat) : Option (List (Bool × Ty)) := if n = 60000000 then some [rI] else if n = 96 then some [(false, sqT 41)] else resT n
/-- An order that is begun: slabs m are laid, out tells in which order. -/
def ordO (q : Sq) (list : List Sl) (m : Nat) (out : List Int) : Prop := m < 2 ^ list.length ∧ OkQ (sqM q list m) ∧ 0 < nWays q list m ∧ out.length = (bitsL list.length m).length ∧ out ++ ordV q list m = ordV q list 0
def ordP (q : Sq) (list : List Sl) (m : Nat) (out : List Int) (i : Nat) : Prop := i ≤ list.length ∧ ordO q list m out ∧ m ≠ 2 ^ list.length - 1 ∧ ∀ j, j < i → goB q list m j = false
noncomputable abbrev layOInv (q : Sq) (list : List Sl) (r : Nat) (σ : List Slot) : Option LoopInv := match r with
  | 8 => some ⟨2 :: 7 :: hvAt Try.f49 8, Nat × List Int, fun s => [(2, .box (.dat (sqT 41) (sqM q list s.1))), (7, .sem (memo 137 (dL list) (wF q list))), (8, .own (.slice 2 (.int .i64)) s.2), (9, .val (.dat iT (s.1 : Int)))], fun s => ordO q list s.1 s.2, fun s => 2 ^ list.length - s.1⟩
  | 10 => some ⟨2 :: 7 :: hvAt Try.f49 10, Nat × List Int, fun s => [(2, .box (.dat (sqT 41) (sqM q list (iAt σ 9).toNat))), (7, .sem (memo 137 (dL list) (wF q list))), (8, .own (.slice 2 (.int .i64)) s.2), (9, .val (.dat iT (((iAt σ 9).toNat : Nat) : Int))), (33, .val (.dat iT (s.1 : Int)))], fun s => ordP q list (iAt σ 9).toNat s.2 s.1, fun s => list.length - s.1⟩
  | _ => none
theorem implOrder_ev (q : Sq) (list : List Sl) : Ev Try.prog 49 [aQ q, aSs list] (compsOf [rIs, rI] (firstV q list)) := by
  refine ev_of (l := [rIs, rI]) (r := (firstV q list)) (types (resPF) [60000000, 40000093, 80000000, 10008068] (layOInv q list)) follows Try.func49 (by kernel_rfl) (by rw [Try.ntmps49]; exact Nat.le_of_ble_eq_true rfl) ?_
  have key : (inR IntKind.i8 q.fst → inR IntKind.i8 q.snd.fst → (q.snd.snd.length ≤ 9223372036854775807 ∧ ∀ (x : Int × Int × Int × Int), List.Mem x q.snd.snd → inR IntKind.i8 x.fst ∧ inR IntKind.i8
      x.snd.fst ∧ inR IntKind.i8 x.snd.snd.fst ∧ inR IntKind.i8 x.snd.snd.snd) → (list.length ≤ 9223372036854775807 ∧ ∀ (x : Int × Int × Int × Int), List.Mem x list → inR IntKind.i8 x.fst ∧ inR
      IntKind.i8 x.snd.fst ∧ inR IntKind.i8 x.snd.snd.fst ∧ inR IntKind.i8 x.snd.snd.snd) → inR IntKind.i8 q.fst → inR IntKind.i8 q.snd.fst → (q.snd.snd.length ≤ 9223372036854775807 ∧ ∀ (x : Int ×
      Int × Int × Int), List.Mem x q.snd.snd → inR IntKind.i8 x.fst ∧ inR IntKind.i8 x.snd.fst ∧ inR IntKind.i8 x.snd.snd.fst ∧ inR IntKind.i8 x.snd.snd.snd) → ∃ (r : Int), Ev Try.prog 92 [Arg.imm
      (D.dat (sqT 41) q), Arg.imm (D.dat (Ty.slice 41 slabT) list)] (compsOf [(false, Ty.int IntKind.i64)] r) ∧ (inR IntKind.i64 r → split (!decide (r = 0)) ([] = (firstV q list).fst ∧ r = (firstV
      q list).snd) (inR IntKind.i8 q.fst → inR IntKind.i8 q.snd.fst → (q.snd.snd.length ≤ 9223372036854775807 ∧ ∀ (x : Int × Int × Int × Int), List.Mem x q.snd.snd → inR IntKind.i8 x.fst ∧ inR
      IntKind.i8 x.snd.fst ∧ inR IntKind.i8 x.snd.snd.fst ∧ inR IntKind.i8 x.snd.snd.snd) → ∃ (A' : Thg), EvR Try.prog 93 [Arg.imm (D.dat (sqT 41) q), Arg.imm (D.dat (Ty.slice 41 slabT) list)] A' ∧
      (inR IntKind.i8 q.fst → inR IntKind.i8 q.snd.fst → (q.snd.snd.length ≤ 9223372036854775807 ∧ ∀ (x : Int × Int × Int × Int), List.Mem x q.snd.snd → inR IntKind.i8 x.fst ∧ inR IntKind.i8
      x.snd.fst ∧ inR IntKind.i8 x.snd.snd.fst ∧ inR IntKind.i8 x.snd.snd.snd) → ∃ (r : Int), ∃ (A'_1 : Thg), EvS Try.prog none A' [Arg.imm (D.dat (sqT 41) q), Arg.imm (D.dat (Ty.int IntKind.i64)
      0)] (compsOf [(false, Ty.int IntKind.i64)] r) A'_1 ∧ (inR IntKind.i64 r → split (decide (r = 0)) ([] = (firstV q list).fst ∧ 6 = (firstV q list).snd) ((∃ (x0 : Nat × List Int), (Slot.box
      (D.dat (sqT 41) q) = Slot.box (D.dat (sqT 41) (sqM q list x0.fst)) ∧ Slot.sem A'_1 = Slot.sem (memo 137 (D.dat (Ty.slice 41 ((Ty.int IntKind.i8).prod ((Ty.int IntKind.i8).prod ((Ty.int
      IntKind.i8).prod (Ty.int IntKind.i8))))) list).ref fun (y : Int) => nWays q list y.toNat) ∧ Slot.own (Ty.slice 2 (Ty.int IntKind.i64)) [] = Slot.own (Ty.slice 2 (Ty.int IntKind.i64)) x0.snd ∧
      Slot.val (D.dat (Ty.int IntKind.i64) 0) = Slot.val (D.dat iT ((x0.fst : Nat) : Int))) ∧ ordO q list x0.fst x0.snd) ∧ ∀ (x : Nat × List Int), ordO q list x.fst x.snd → inR IntKind.i8 (sqM q
      list x.fst).fst → inR IntKind.i8 (sqM q list x.fst).snd.fst → ((sqM q list x.fst).snd.snd.length ≤ 9223372036854775807 ∧ ∀ (x_1 : Int × Int × Int × Int), List.Mem x_1 (sqM q list
      x.fst).snd.snd → inR IntKind.i8 x_1.fst ∧ inR IntKind.i8 x_1.snd.fst ∧ inR IntKind.i8 x_1.snd.snd.fst ∧ inR IntKind.i8 x_1.snd.snd.snd) → (x.snd.length ≤ 9223372036854775807 ∧ ∀ (x_1 : Int),
      List.Mem x_1 x.snd → inR IntKind.i64 x_1) → inR IntKind.i64 ((x.fst : Nat) : Int) → ((x.snd.length : Nat) : Int) ≤ 9223372036854775807 → ((list.length : Nat) : Int) ≤ 9223372036854775807 →
      split (decide (((x.snd.length : Nat) : Int) < ((list.length : Nat) : Int))) (((list.length : Nat) : Int) ≤ 9223372036854775807 → (∃ (x0 : Nat × List Int), (Slot.box (D.dat (sqT 41) (sqM q
      list x.fst)) = Slot.box (D.dat (sqT 41) (sqM q list (((x.fst : Nat) : Int)).toNat)) ∧ Slot.sem (memo 137 (D.dat (Ty.slice 41 ((Ty.int IntKind.i8).prod ((Ty.int IntKind.i8).prod ((Ty.int
      IntKind.i8).prod (Ty.int IntKind.i8))))) list).ref fun (y : Int) => nWays q list y.toNat) = Slot.sem (memo 137 (D.dat (Ty.slice 41 ((Ty.int IntKind.i8).prod ((Ty.int IntKind.i8).prod ((Ty.int
      IntKind.i8).prod (Ty.int IntKind.i8))))) list).ref fun (y : Int) => nWays q list y.toNat) ∧ Slot.own (Ty.slice 2 (Ty.int IntKind.i64)) x.snd = Slot.own (Ty.slice 2 (Ty.int IntKind.i64))
      x0.snd ∧ Slot.val (D.dat iT ((x.fst : Nat) : Int)) = Slot.val (D.dat iT (((((x.fst : Nat) : Int)).toNat : Nat) : Int)) ∧ Slot.val (D.dat (Ty.int IntKind.i64) 0) = Slot.val (D.dat iT ((x0.fst
      : Nat) : Int))) ∧ ordP q list (((x.fst : Nat) : Int)).toNat x0.snd x0.fst) ∧ ∀ (x_1 : Nat × List Int), ordP q list (((x.fst : Nat) : Int)).toNat x_1.snd x_1.fst → inR IntKind.i8 (sqM q list
      (((x.fst : Nat) : Int)).toNat).fst → inR IntKind.i8 (sqM q list (((x.fst : Nat) : Int)).toNat).snd.fst → ((sqM q list (((x.fst : Nat) : Int)).toNat).snd.snd.length ≤ 9223372036854775807 ∧ ∀
      (x_2 : Int × Int × Int × Int), List.Mem x_2 (sqM q list (((x.fst : Nat) : Int)).toNat).snd.snd → inR IntKind.i8 x_2.fst ∧ inR IntKind.i8 x_2.snd.fst ∧ inR IntKind.i8 x_2.snd.snd.fst ∧ inR
      IntKind.i8 x_2.snd.snd.snd) → (x_1.snd.length ≤ 9223372036854775807 ∧ ∀ (x : Int), List.Mem x x_1.snd → inR IntKind.i64 x) → inR IntKind.i64 (((((x.fst : Nat) : Int)).toNat : Nat) : Int) →
      inR IntKind.i64 ((x_1.fst : Nat) : Int) → split (decide (((x_1.fst : Nat) : Int) < ((list.length : Nat) : Int))) ((0 ≤ ((x_1.fst : Nat) : Int) ∧ ((x_1.fst : Nat) : Int) < ((list.length : Nat)
      : Int)) ∧ (inR IntKind.i8 (list.getD (((x_1.fst : Nat) : Int)).toNat (0, 0, 0, 0)).fst → inR IntKind.i8 (list.getD (((x_1.fst : Nat) : Int)).toNat (0, 0, 0, 0)).snd.fst → inR IntKind.i8
      (list.getD (((x_1.fst : Nat) : Int)).toNat (0, 0, 0, 0)).snd.snd.fst → inR IntKind.i8 (list.getD (((x_1.fst : Nat) : Int)).toNat (0, 0, 0, 0)).snd.snd.snd → (0 ≤ ((x_1.fst : Nat) : Int) ∧
      ((x_1.fst : Nat) : Int) ≤ 64) ∧ (-9223372036854775808 ≤ (((((x.fst : Nat) : Int)).toNat : Nat) : Int) / 2 ^ (((x_1.fst : Nat) : Int)).toNat ∧ (((((x.fst : Nat) : Int)).toNat : Nat) : Int) / 2
      ^ (((x_1.fst : Nat) : Int)).toNat ≤ 9223372036854775807) ∧ (0 ≤ (((((x.fst : Nat) : Int)).toNat : Nat) : Int) / 2 ^ (((x_1.fst : Nat) : Int)).toNat ∧ (0 : Int) ≤ 1) ∧ (-9223372036854775808 ≤
      (((((((((x.fst : Nat) : Int)).toNat : Nat) : Int) / 2 ^ (((x_1.fst : Nat) : Int)).toNat).toNat &&& Int.toNat 1) : Nat) : Int) ∧ (((((((((x.fst : Nat) : Int)).toNat : Nat) : Int) / 2 ^
      (((x_1.fst : Nat) : Int)).toNat).toNat &&& Int.toNat 1) : Nat) : Int) ≤ 9223372036854775807) ∧ split (decide ((((((((((x.fst : Nat) : Int)).toNat : Nat) : Int) / 2 ^ (((x_1.fst : Nat) :
      Int)).toNat).toNat &&& Int.toNat 1) : Nat) : Int) = 0)) (inR IntKind.i8 (sqM q list (((x.fst : Nat) : Int)).toNat).fst → inR IntKind.i8 (sqM q list (((x.fst : Nat) : Int)).toNat).snd.fst →
      ((sqM q list (((x.fst : Nat) : Int)).toNat).snd.snd.length ≤ 9223372036854775807 ∧ ∀ (x_2 : Int × Int × Int × Int), List.Mem x_2 (sqM q list (((x.fst : Nat) : Int)).toNat).snd.snd → inR
      IntKind.i8 x_2.fst ∧ inR IntKind.i8 x_2.snd.fst ∧ inR IntKind.i8 x_2.snd.snd.fst ∧ inR IntKind.i8 x_2.snd.snd.snd) → inR IntKind.i8 (list.getD (((x_1.fst : Nat) : Int)).toNat (0, 0, 0,
      0)).fst → inR IntKind.i8 (list.getD (((x_1.fst : Nat) : Int)).toNat (0, 0, 0, 0)).snd.fst → inR IntKind.i8 (list.getD (((x_1.fst : Nat) : Int)).toNat (0, 0, 0, 0)).snd.snd.fst → inR
      IntKind.i8 (list.getD (((x_1.fst : Nat) : Int)).toNat (0, 0, 0, 0)).snd.snd.snd → ∃ (r : Bool), Ev Try.prog 62 [Arg.imm (D.dat (sqT 41) (sqM q list (((x.fst : Nat) : Int)).toNat)), Arg.imm
      (D.dat slabT (list.getD (((x_1.fst : Nat) : Int)).toNat (0, 0, 0, 0)))] (compsOf [(false, Ty.bool)] r) ∧ split r (inR IntKind.i8 (sqM q list (((x.fst : Nat) : Int)).toNat).fst → inR
      IntKind.i8 (sqM q list (((x.fst : Nat) : Int)).toNat).snd.fst → ((sqM q list (((x.fst : Nat) : Int)).toNat).snd.snd.length ≤ 9223372036854775807 ∧ ∀ (x_2 : Int × Int × Int × Int), List.Mem
      x_2 (sqM q list (((x.fst : Nat) : Int)).toNat).snd.snd → inR IntKind.i8 x_2.fst ∧ inR IntKind.i8 x_2.snd.fst ∧ inR IntKind.i8 x_2.snd.snd.fst ∧ inR IntKind.i8 x_2.snd.snd.snd) → inR
      IntKind.i8 (list.getD (((x_1.fst : Nat) : Int)).toNat (0, 0, 0, 0)).fst → inR IntKind.i8 (list.getD (((x_1.fst : Nat) : Int)).toNat (0, 0, 0, 0)).snd.fst → inR IntKind.i8 (list.getD
      (((x_1.fst : Nat) : Int)).toNat (0, 0, 0, 0)).snd.snd.fst → inR IntKind.i8 (list.getD (((x_1.fst : Nat) : Int)).toNat (0, 0, 0, 0)).snd.snd.snd → ∃ (r : Int × Int × List (Int × Int × Int ×
      Int)), Ev Try.prog 96 [Arg.imm (D.dat (sqT 41) (sqM q list (((x.fst : Nat) : Int)).toNat)), Arg.imm (D.dat slabT (list.getD (((x_1.fst : Nat) : Int)).toNat (0, 0, 0, 0)))] (compsOf [(false,
      (Ty.int IntKind.i8).prod ((Ty.int IntKind.i8).prod (Ty.slice 41 ((Ty.int IntKind.i8).prod ((Ty.int IntKind.i8).prod ((Ty.int IntKind.i8).prod (Ty.int IntKind.i8)))))))] r) ∧ (inR IntKind.i8
      r.fst → inR IntKind.i8 r.snd.fst → (r.snd.snd.length ≤ 9223372036854775807 ∧ ∀ (x : Int × Int × Int × Int), List.Mem x r.snd.snd → inR IntKind.i8 x.fst ∧ inR IntKind.i8 x.snd.fst ∧ inR
      IntKind.i8 x.snd.snd.fst ∧ inR IntKind.i8 x.snd.snd.snd) → (0 ≤ ((x_1.fst : Nat) : Int) ∧ ((x_1.fst : Nat) : Int) ≤ 64) ∧ (-9223372036854775808 ≤ (1 : Int) * 2 ^ (((x_1.fst : Nat) :
      Int)).toNat ∧ (1 : Int) * 2 ^ (((x_1.fst : Nat) : Int)).toNat ≤ 9223372036854775807) ∧ (0 ≤ (((((x.fst : Nat) : Int)).toNat : Nat) : Int) ∧ 0 ≤ (1 : Int) * 2 ^ (((x_1.fst : Nat) :
      Int)).toNat) ∧ (-9223372036854775808 ≤ (((((((((x.fst : Nat) : Int)).toNat : Nat) : Int)).toNat ||| ((1 : Int) * 2 ^ (((x_1.fst : Nat) : Int)).toNat).toNat) : Nat) : Int) ∧ (((((((((x.fst :
      Nat) : Int)).toNat : Nat) : Int)).toNat ||| ((1 : Int) * 2 ^ (((x_1.fst : Nat) : Int)).toNat).toNat) : Nat) : Int) ≤ 9223372036854775807) ∧ ∃ (r_1 : Int), ∃ (A' : Thg), EvS Try.prog none
      (memo 137 (D.dat (Ty.slice 41 ((Ty.int IntKind.i8).prod ((Ty.int IntKind.i8).prod ((Ty.int IntKind.i8).prod (Ty.int IntKind.i8))))) list).ref fun (y : Int) => nWays q list y.toNat) [Arg.imm
      (D.dat (sqT 41) r), Arg.imm (D.dat (Ty.int IntKind.i64) (((((((((x.fst : Nat) : Int)).toNat : Nat) : Int)).toNat ||| ((1 : Int) * 2 ^ (((x_1.fst : Nat) : Int)).toNat).toNat) : Nat) : Int))]
      (compsOf [(false, Ty.int IntKind.i64)] r_1) A' ∧ (inR IntKind.i64 r_1 → split (decide (0 < r_1)) (x_1.snd.length + [((x_1.fst : Nat) : Int)].length ≤ 4294967296 ∧ (0 ≤ ((x_1.fst : Nat) : Int)
      ∧ ((x_1.fst : Nat) : Int) ≤ 64) ∧ (-9223372036854775808 ≤ (1 : Int) * 2 ^ (((x_1.fst : Nat) : Int)).toNat ∧ (1 : Int) * 2 ^ (((x_1.fst : Nat) : Int)).toNat ≤ 9223372036854775807) ∧ (0 ≤
      (((((x.fst : Nat) : Int)).toNat : Nat) : Int) ∧ 0 ≤ (1 : Int) * 2 ^ (((x_1.fst : Nat) : Int)).toNat) ∧ (-9223372036854775808 ≤ (((((((((x.fst : Nat) : Int)).toNat : Nat) : Int)).toNat ||| ((1
      : Int) * 2 ^ (((x_1.fst : Nat) : Int)).toNat).toNat) : Nat) : Int) ∧ (((((((((x.fst : Nat) : Int)).toNat : Nat) : Int)).toNat ||| ((1 : Int) * 2 ^ (((x_1.fst : Nat) : Int)).toNat).toNat) :
      Nat) : Int) ≤ 9223372036854775807) ∧ (inR IntKind.i8 (sqM q list (((x.fst : Nat) : Int)).toNat).fst → inR IntKind.i8 (sqM q list (((x.fst : Nat) : Int)).toNat).snd.fst → ((sqM q list (((x.fst
      : Nat) : Int)).toNat).snd.snd.length ≤ 9223372036854775807 ∧ ∀ (x_2 : Int × Int × Int × Int), List.Mem x_2 (sqM q list (((x.fst : Nat) : Int)).toNat).snd.snd → inR IntKind.i8 x_2.fst ∧ inR
      IntKind.i8 x_2.snd.fst ∧ inR IntKind.i8 x_2.snd.snd.fst ∧ inR IntKind.i8 x_2.snd.snd.snd) → inR IntKind.i8 (list.getD (((x_1.fst : Nat) : Int)).toNat (0, 0, 0, 0)).fst → inR IntKind.i8
      (list.getD (((x_1.fst : Nat) : Int)).toNat (0, 0, 0, 0)).snd.fst → inR IntKind.i8 (list.getD (((x_1.fst : Nat) : Int)).toNat (0, 0, 0, 0)).snd.snd.fst → inR IntKind.i8 (list.getD (((x_1.fst :
      Nat) : Int)).toNat (0, 0, 0, 0)).snd.snd.snd → ∃ (r : Int × Int × List (Int × Int × Int × Int)), Ev Try.prog 96 [Arg.imm (D.dat (sqT 41) (sqM q list (((x.fst : Nat) : Int)).toNat)), Arg.imm
      (D.dat slabT (list.getD (((x_1.fst : Nat) : Int)).toNat (0, 0, 0, 0)))] (compsOf [(false, (Ty.int IntKind.i8).prod ((Ty.int IntKind.i8).prod (Ty.slice 41 ((Ty.int IntKind.i8).prod ((Ty.int
      IntKind.i8).prod ((Ty.int IntKind.i8).prod (Ty.int IntKind.i8)))))))] r) ∧ (inR IntKind.i8 r.fst → inR IntKind.i8 r.snd.fst → (r.snd.snd.length ≤ 9223372036854775807 ∧ ∀ (x : Int × Int × Int
      × Int), List.Mem x r.snd.snd → inR IntKind.i8 x.fst ∧ inR IntKind.i8 x.snd.fst ∧ inR IntKind.i8 x.snd.snd.fst ∧ inR IntKind.i8 x.snd.snd.snd) → ∃ (x' : Nat × List Int), (Slot.box (D.dat (sqT
      41) r) = Slot.box (D.dat (sqT 41) (sqM q list x'.fst)) ∧ Slot.sem A' = Slot.sem (memo 137 (D.dat (Ty.slice 41 ((Ty.int IntKind.i8).prod ((Ty.int IntKind.i8).prod ((Ty.int IntKind.i8).prod
      (Ty.int IntKind.i8))))) list).ref fun (y : Int) => nWays q list y.toNat) ∧ Slot.own (Ty.slice 2 (Ty.int IntKind.i64)) (x_1.snd ++ [((x_1.fst : Nat) : Int)]) = Slot.own (Ty.slice 2 (Ty.int
      IntKind.i64)) x'.snd ∧ Slot.val (D.dat (Ty.int IntKind.i64) (((((((((x.fst : Nat) : Int)).toNat : Nat) : Int)).toNat ||| ((1 : Int) * 2 ^ (((x_1.fst : Nat) : Int)).toNat).toNat) : Nat) :
      Int)) = Slot.val (D.dat iT ((x'.fst : Nat) : Int))) ∧ ordO q list x'.fst x'.snd ∧ 2 ^ list.length - x'.fst < 2 ^ list.length - x.fst))) ((-9223372036854775808 ≤ ((x_1.fst : Nat) : Int) + 1 ∧
      ((x_1.fst : Nat) : Int) + 1 ≤ 9223372036854775807) ∧ ∃ (x' : Nat × List Int), (Slot.box (D.dat (sqT 41) (sqM q list (((x.fst : Nat) : Int)).toNat)) = Slot.box (D.dat (sqT 41) (sqM q list
      (((x.fst : Nat) : Int)).toNat)) ∧ Slot.sem A' = Slot.sem (memo 137 (D.dat (Ty.slice 41 ((Ty.int IntKind.i8).prod ((Ty.int IntKind.i8).prod ((Ty.int IntKind.i8).prod (Ty.int IntKind.i8)))))
      list).ref fun (y : Int) => nWays q list y.toNat) ∧ Slot.own (Ty.slice 2 (Ty.int IntKind.i64)) x_1.snd = Slot.own (Ty.slice 2 (Ty.int IntKind.i64)) x'.snd ∧ Slot.val (D.dat iT (((((x.fst :
      Nat) : Int)).toNat : Nat) : Int)) = Slot.val (D.dat iT (((((x.fst : Nat) : Int)).toNat : Nat) : Int)) ∧ Slot.val (D.dat (Ty.int IntKind.i64) (((x_1.fst : Nat) : Int) + 1)) = Slot.val (D.dat
      iT ((x'.fst : Nat) : Int))) ∧ ordP q list (((x.fst : Nat) : Int)).toNat x'.snd x'.fst ∧ list.length - x'.fst < list.length - x_1.fst)))) ((-9223372036854775808 ≤ ((x_1.fst : Nat) : Int) + 1 ∧
      ((x_1.fst : Nat) : Int) + 1 ≤ 9223372036854775807) ∧ ∃ (x' : Nat × List Int), (Slot.box (D.dat (sqT 41) (sqM q list (((x.fst : Nat) : Int)).toNat)) = Slot.box (D.dat (sqT 41) (sqM q list
      (((x.fst : Nat) : Int)).toNat)) ∧ Slot.sem (memo 137 (D.dat (Ty.slice 41 ((Ty.int IntKind.i8).prod ((Ty.int IntKind.i8).prod ((Ty.int IntKind.i8).prod (Ty.int IntKind.i8))))) list).ref fun (y
      : Int) => nWays q list y.toNat) = Slot.sem (memo 137 (D.dat (Ty.slice 41 ((Ty.int IntKind.i8).prod ((Ty.int IntKind.i8).prod ((Ty.int IntKind.i8).prod (Ty.int IntKind.i8))))) list).ref fun (y
      : Int) => nWays q list y.toNat) ∧ Slot.own (Ty.slice 2 (Ty.int IntKind.i64)) x_1.snd = Slot.own (Ty.slice 2 (Ty.int IntKind.i64)) x'.snd ∧ Slot.val (D.dat iT (((((x.fst : Nat) : Int)).toNat :
      Nat) : Int)) = Slot.val (D.dat iT (((((x.fst : Nat) : Int)).toNat : Nat) : Int)) ∧ Slot.val (D.dat (Ty.int IntKind.i64) (((x_1.fst : Nat) : Int) + 1)) = Slot.val (D.dat iT ((x'.fst : Nat) :
      Int))) ∧ ordP q list (((x.fst : Nat) : Int)).toNat x'.snd x'.fst ∧ list.length - x'.fst < list.length - x_1.fst)) ((-9223372036854775808 ≤ ((x_1.fst : Nat) : Int) + 1 ∧ ((x_1.fst : Nat) :
      Int) + 1 ≤ 9223372036854775807) ∧ ∃ (x' : Nat × List Int), (Slot.box (D.dat (sqT 41) (sqM q list (((x.fst : Nat) : Int)).toNat)) = Slot.box (D.dat (sqT 41) (sqM q list (((x.fst : Nat) :
      Int)).toNat)) ∧ Slot.sem (memo 137 (D.dat (Ty.slice 41 ((Ty.int IntKind.i8).prod ((Ty.int IntKind.i8).prod ((Ty.int IntKind.i8).prod (Ty.int IntKind.i8))))) list).ref fun (y : Int) => nWays q
      list y.toNat) = Slot.sem (memo 137 (D.dat (Ty.slice 41 ((Ty.int IntKind.i8).prod ((Ty.int IntKind.i8).prod ((Ty.int IntKind.i8).prod (Ty.int IntKind.i8))))) list).ref fun (y : Int) => nWays q
      list y.toNat) ∧ Slot.own (Ty.slice 2 (Ty.int IntKind.i64)) x_1.snd = Slot.own (Ty.slice 2 (Ty.int IntKind.i64)) x'.snd ∧ Slot.val (D.dat iT (((((x.fst : Nat) : Int)).toNat : Nat) : Int)) =
      Slot.val (D.dat iT (((((x.fst : Nat) : Int)).toNat : Nat) : Int)) ∧ Slot.val (D.dat (Ty.int IntKind.i64) (((x_1.fst : Nat) : Int) + 1)) = Slot.val (D.dat iT ((x'.fst : Nat) : Int))) ∧ ordP q
      list (((x.fst : Nat) : Int)).toNat x'.snd x'.fst ∧ list.length - x'.fst < list.length - x_1.fst))) (∃ (x' : Nat × List Int), (Slot.box (D.dat (sqT 41) (sqM q list (((x.fst : Nat) :
      Int)).toNat)) = Slot.box (D.dat (sqT 41) (sqM q list x'.fst)) ∧ Slot.sem (memo 137 (D.dat (Ty.slice 41 ((Ty.int IntKind.i8).prod ((Ty.int IntKind.i8).prod ((Ty.int IntKind.i8).prod (Ty.int
      IntKind.i8))))) list).ref fun (y : Int) => nWays q list y.toNat) = Slot.sem (memo 137 (D.dat (Ty.slice 41 ((Ty.int IntKind.i8).prod ((Ty.int IntKind.i8).prod ((Ty.int IntKind.i8).prod (Ty.int
      IntKind.i8))))) list).ref fun (y : Int) => nWays q list y.toNat) ∧ Slot.own (Ty.slice 2 (Ty.int IntKind.i64)) x_1.snd = Slot.own (Ty.slice 2 (Ty.int IntKind.i64)) x'.snd ∧ Slot.val (D.dat iT
      (((((x.fst : Nat) : Int)).toNat : Nat) : Int)) = Slot.val (D.dat iT ((x'.fst : Nat) : Int))) ∧ ordO q list x'.fst x'.snd ∧ 2 ^ list.length - x'.fst < 2 ^ list.length - x.fst)) (x.snd =
      (firstV q list).fst ∧ 0 = (firstV q list).snd))))))) := by
    intros
    refine ⟨_, layCode_ev q list, ?_⟩
    intros
    refine split_of (fun h => ?_) (fun h => ?_)
    · have h : layC q list ≠ 0 := by simpa using h
      unfold firstV; rw [if_neg h]; exact ⟨rfl, rfl⟩
    · have h : layC q list = 0 := by simpa using h
      obtain ⟨k, hn, h60⟩ := layC_ok h
      have h2 : 2 ^ list.length ≤ 1024 := Nat.le_trans (Nat.pow_le_pow_right (by omega) hn) (by decide : 2 ^ 10 ≤ 1024)
      have h2p : 0 < 2 ^ list.length := Nat.pow_pos (by omega)
      intros
      refine ⟨_, layOrders_ev q list, ?_⟩
      intros
      have hm := memo_0 (m := 0) k hn h60 h2p (by rw [sqM_0 k]; exact k)
      rw [sqM_0 k] at hm
      refine ⟨_, _, hm, ?_⟩
      intros
      have h0 := nWays_0 (q := q) (list := list) h2p
      have hV : firstV q list = if 0 < nWays q list 0 then (ordV q list 0, 0) else ([], 6) := by unfold firstV; rw [if_pos h]
      refine split_of (fun hz => ?_) (fun hz => ?_)
      · have hz : nWays q list 0 = 0 := of_decide_eq_true hz
        rw [hV, if_neg (by omega)]; exact ⟨rfl, rfl⟩
      · have hz : nWays q list 0 ≠ 0 := of_decide_eq_false hz
        have hp : 0 < nWays q list 0 := by omega
        rw [hV, if_pos hp]
        refine ⟨⟨(0, []), ⟨by rw [sqM_0 k], rfl, rfl, rfl⟩, h2p, by rw [sqM_0 k]; exact k, hp, by rw [bits_len_0]; rfl, rfl⟩, fun s hs => ?_⟩
        obtain ⟨m, out⟩ := s
        obtain ⟨hm1, km, hpm, hlm, hom⟩ := hs
        simp only at hm1 km hpm hlm hom
        simp only [Int.toNat_natCast]
        intros
        have hb := bits_le list.length m
        refine split_of (fun h3 => ?_) (fun h3 => ?_)
        · have g3 : out.length < list.length := by have := of_decide_eq_true h3; omega
          have hf : m ≠ 2 ^ list.length - 1 := fun e => by rw [e, bits_len_full] at hlm; omega
          intros
          refine ⟨⟨(0, out), ⟨trivial, trivial, rfl, trivial, rfl⟩, Nat.zero_le _, ⟨hm1, km, hpm, hlm, hom⟩, hf, fun j hj => absurd hj (Nat.not_lt_zero _)⟩, fun s hs => ?_⟩
          obtain ⟨i, out'⟩ := s
          obtain ⟨hi, hO, _, hzi⟩ := hs
          have hO' := hO
          obtain ⟨_, _, _, hl', ho'⟩ := hO'
          simp only at hi hl' ho' hzi
          simp only
          intros
          refine split_of (fun h4 => ?_) (fun h4 => ?_)
          · have g4 : i < list.length := by have := of_decide_eq_true h4; omega
            refine ⟨⟨by omega, by omega⟩, ?_⟩
            have go : goB q list m i = false → ordP q list m out' (i + 1) := fun z => ⟨by omega, hO, hf, fun j hj => by
              by_cases e : j = i
              · subst e; exact z
              · exact hzi j (by omega)⟩
            have b1 := bit_nat m i
            have d1 := div_in m i (by omega)
            have d2 := div_0 m i
            have a1 := and_in m i (by omega)
            have s1 := sh_nat i
            have o1 := or_nat m i
            simp only [Int.toNat_natCast] at b1 d1 d2 a1 s1 o1
            intros
            refine ⟨⟨by omega, by omega⟩, d1, ⟨d2, by omega⟩, a1, ?_⟩
            refine split_of (fun h5 => ?_) (fun h5 => ?_)
            · have hbit : m.testBit i = false := by rw [b1] at h5; simpa using h5
              intros
              refine ⟨_, canLay_ev _ _, ?_⟩
              refine split_of (fun h6 => ?_) (fun h6 => ?_)
              · obtain ⟨e1, e2⟩ := sqM_ok km h60 h6 g4 hbit
                have hrm := sqM_room h60 g4 hbit
                have hlt := or_lt hm1 g4
                have hpw : 2 ^ i ≤ 1024 := Nat.le_trans (Nat.pow_le_pow_right (by omega) (by omega : i ≤ 10)) (by decide : 2 ^ 10 ≤ 1024)
                have hpw0 : (0 : Int) ≤ ((2 ^ i : Nat) : Int) := Int.natCast_nonneg _
                have hput := ev_freeze (t := sqT 41) (x := withV (sqM q list m) ((sqM q list m).2.2 ++ [sAt list i])) (put_ev (sqM q list m) (sAt list i) (by omega))
                rw [e1] at hput
                intros
                refine ⟨sqM q list (m ||| 2 ^ i), hput, ?_⟩
                intros
                refine ⟨⟨by omega, by omega⟩, ⟨by rw [s1]; omega, by rw [s1]; omega⟩, ⟨by omega, by rw [s1]; omega⟩, ⟨by rw [o1]; omega, by rw [o1]; omega⟩, ?_⟩
                rw [o1]
                refine ⟨_, _, memo_0 k hn h60 hlt e2, ?_⟩
                intros
                refine split_of (fun h7 => ?_) (fun h7 => ?_)
                · have h7 : 0 < nWays q list (m ||| 2 ^ i) := of_decide_eq_true h7
                  have hg : goB q list m i = true := goB_iff.2 ⟨hbit, h6, h7⟩
                  refine ⟨by simp only [List.length_cons, List.length_nil]; omega, ⟨by omega, by omega⟩, ⟨by rw [s1]; omega, by rw [s1]; omega⟩, ⟨by omega, by rw [s1]; omega⟩, ⟨by omega, by omega⟩, ?_⟩
                  intros
                  refine ⟨sqM q list (m ||| 2 ^ i), hput, ?_⟩
                  intros
                  refine ⟨(m ||| 2 ^ i, out' ++ [(i : Int)]), ⟨rfl, rfl, rfl, rfl⟩, ⟨hlt, e2, h7, ?_, ?_⟩, ?_⟩
                  · simp only
                    rw [bits_len_or g4 hbit, List.length_append, hl']; rfl
                  · simp only
                    rw [← ho', ord_step hm1 hf g4 hg hzi]
                    simp
                  · have := or_gt hbit
                    simp only; omega
                · have h7 : ¬ 0 < nWays q list (m ||| 2 ^ i) := of_decide_eq_false h7
                  exact ⟨by omega, (i + 1, out'), ⟨by first | trivial | rfl, by first | trivial | rfl, by first | trivial | rfl, by first | trivial | rfl, by simp⟩, go (by simp [goB, h7]), by simp only; omega⟩
              · have h6 : mayB q list m i = false := h6
                exact ⟨by omega, (i + 1, out'), ⟨by first | trivial | rfl, by first | trivial | rfl, by first | trivial | rfl, by first | trivial | rfl, by simp⟩, go (by simp [goB, h6]), by simp only; omega⟩
            · have hbit : m.testBit i = true := by rw [b1] at h5; simpa using h5
              exact ⟨by omega, (i + 1, out'), ⟨by first | trivial | rfl, by first | trivial | rfl, by first | trivial | rfl, by first | trivial | rfl, by simp⟩, go (by simp [goB, hbit]), by simp only; omega⟩
          · have g4 : ¬ i < list.length := by have := of_decide_eq_false h4; omega
            exact absurd hpm (nWays_none hm1 hf fun j hj => hzi j (by omega))
        · have g3 : ¬ out.length < list.length := by have := of_decide_eq_false h3; omega
          have e : m = 2 ^ list.length - 1 := full_of hm1 (by omega)
          rw [e, ord_full, List.append_nil] at hom
          exact ⟨hom, trivial⟩
  refine @Eq.mpr _ _ (?_) key
  kernel_rfl
end Go.Proofs.Ytmjijggkdbiijaa
