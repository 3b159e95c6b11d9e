/- Slabs beside each other, as the reference tells them. No statement is proved here. -/
import Derived.Test.YtmjijggkdbiijaaTk
namespace Go.Proofs.Ytmjijggkdbiijaa
open Go.RowKit
set_option linter.unusedVariables false
set_option linter.unusedSimpArgs false
set_option maxRecDepth 100000
set_option maxHeartbeats 4000000
abbrev slotL (σ : List Slot) (n : Nat) : List Bool := match σ.getD n .dead with
  | .own (.slice _ .bool) x => x
  | _ => []
theorem setIf_pos {c : Prop} [Decidable c] {l : List Bool} {v : Int} (h : c) : setIf c l v = l.set v.toNat true := if_pos h
theorem setIf_neg {c : Prop} [Decidable c] {l : List Bool} {v : Int} (h : ¬ c) : setIf c l v = l := if_neg h
noncomputable abbrev l01BesideInv (q : Sq) (i : Int) (n : Nat) (σ : List Slot) : Option LoopInv := match n with
  | 4 => some ⟨7 :: hvAt Try.f130 4, List Bool × Int, fun s => [(7, .own (.slice 4 .bool) s.1), (8, .val (.dat (.int .i8) s.2))], fun s => (0 ≤ s.2 ∧ s.2 ≤ q.2.1) ∧ InP q.2.2.length s.1 (upTo q i s.2 0), fun s => (q.2.1 - s.2).toNat⟩
  | 7 => some ⟨7 :: hvAt Try.f130 7, List Bool × Int, fun s => [(7, .own (.slice 4 .bool) s.1), (9, .val (.dat (.int .i8) s.2))], fun s => (0 ≤ s.2 ∧ s.2 ≤ q.1) ∧ InP q.2.2.length s.1 (upTo q i (iAt σ 8) s.2), fun s => (q.1 - s.2).toNat⟩
  | 19 => some ⟨10 :: hvAt Try.f130 19, Nat, fun k => [(10, .own (.slice 2 iT) (besI (slotL σ 7) i k)), (11, .val (.dat iT (k : Int)))], fun k => k ≤ q.2.2.length, fun k => q.2.2.length - k⟩
  | _ => none
theorem l01Beside_ev (q : Sq) (k : OkQ q) (i : Nat) (hi : i < q.2.2.length) : Ev Try.prog 130 [aQp q, aI (i : Int)] (compsOf [oIs] (besL q i q.2.2.length)) := by
  refine ev_of (l := [oIs]) (r := (besL q i q.2.2.length)) (types (resT) [] (l01BesideInv q i)) follows Try.func130 (by kernel_rfl) (by rw [Try.ntmps130]; exact Nat.le_of_ble_eq_true rfl) ?_
  have key : (inR IntKind.i64 ((i : Nat) : Int) → ∃ (r : List (List Int) × Bool), Ev Try.prog 108 [Arg.imm (D.dat (sqT 41) q).ref] (compsOf [(false, Ty.arr 12 (Ty.arr 12 (Ty.int IntKind.i64))), (false, Ty.bool)]
      r) ∧ ((r.fst.length = 12 ∧ ∀ (x : List Int), List.Mem x r.fst → x.length = 12 ∧ ∀ (x_1 : Int), List.Mem x_1 x → inR IntKind.i64 x_1) → (q.snd.snd.length ≤ 9223372036854775807 ∧ ∀ (x : Int × Int × Int
      × Int), List.Mem x q.snd.snd → inR IntKind.i8 x.fst ∧ inR IntKind.i8 x.snd.fst ∧ inR IntKind.i8 x.snd.snd.fst ∧ inR IntKind.i8 x.snd.snd.snd) → ((q.snd.snd.length : Nat) : Int) ≤ 9223372036854775807
      → (-9223372036854775808 ≤ ((q.snd.snd.length : Nat) : Int) + 1 ∧ ((q.snd.snd.length : Nat) : Int) + 1 ≤ 9223372036854775807) ∧ (0 ≤ ((q.snd.snd.length : Nat) : Int) + 1 ∧ ((q.snd.snd.length : Nat) :
      Int) + 1 = ((q.snd.snd.length : Nat) : Int) + 1 ∧ ((q.snd.snd.length : Nat) : Int) + 1 ≤ 4294967296) ∧ (∃ (x0 : List Bool × Int), (Slot.own (Ty.slice 4 Ty.bool) (List.replicate (((q.snd.snd.length :
      Nat) : Int) + 1).toNat false) = Slot.own (Ty.slice 4 Ty.bool) x0.fst ∧ Slot.val (D.dat (Ty.int IntKind.i8) 0) = Slot.val (D.dat (Ty.int IntKind.i8) x0.snd)) ∧ (0 ≤ x0.snd ∧ x0.snd ≤ q.snd.fst) ∧ InP
      q.snd.snd.length x0.fst (upTo q (((i : Nat) : Int)) x0.snd 0)) ∧ ∀ (x : List Bool × Int), (0 ≤ x.snd ∧ x.snd ≤ q.snd.fst) ∧ InP q.snd.snd.length x.fst (upTo q (((i : Nat) : Int)) x.snd 0) →
      (x.fst.length ≤ 9223372036854775807 ∧ ∀ (x_1 : Bool), List.Mem x_1 x.fst → True) → inR IntKind.i8 x.snd → inR IntKind.i8 q.snd.fst → split (decide (x.snd < q.snd.fst)) ((∃ (x0 : List Bool × Int),
      (Slot.own (Ty.slice 4 Ty.bool) x.fst = Slot.own (Ty.slice 4 Ty.bool) x0.fst ∧ Slot.val (D.dat (Ty.int IntKind.i8) 0) = Slot.val (D.dat (Ty.int IntKind.i8) x0.snd)) ∧ (0 ≤ x0.snd ∧ x0.snd ≤ q.fst) ∧
      InP q.snd.snd.length x0.fst (upTo q (((i : Nat) : Int)) x.snd x0.snd)) ∧ ∀ (x_1 : List Bool × Int), (0 ≤ x_1.snd ∧ x_1.snd ≤ q.fst) ∧ InP q.snd.snd.length x_1.fst (upTo q (((i : Nat) : Int)) x.snd
      x_1.snd) → (x_1.fst.length ≤ 9223372036854775807 ∧ ∀ (x : Bool), List.Mem x x_1.fst → True) → inR IntKind.i8 x_1.snd → inR IntKind.i8 q.fst → split (decide (x_1.snd < q.fst)) (split (decide (0 <
      x_1.snd)) ((0 ≤ x.snd ∧ x.snd < ((12 : Nat) : Int)) ∧ (0 ≤ x_1.snd ∧ x_1.snd < ((12 : Nat) : Int)) ∧ (inR IntKind.i64 ((r.fst.getD x.snd.toNat (List.replicate 12 0)).getD x_1.snd.toNat 0) →
      (-9223372036854775808 ≤ ((i : Nat) : Int) + 1 ∧ ((i : Nat) : Int) + 1 ≤ 9223372036854775807) ∧ split (decide ((r.fst.getD x.snd.toNat (List.replicate 12 0)).getD x_1.snd.toNat 0 = ((i : Nat) : Int) +
      1)) ((-128 ≤ x_1.snd - 1 ∧ x_1.snd - 1 ≤ 127) ∧ (0 ≤ x.snd ∧ x.snd < ((12 : Nat) : Int)) ∧ (0 ≤ x_1.snd - 1 ∧ x_1.snd - 1 < ((12 : Nat) : Int)) ∧ (inR IntKind.i64 ((r.fst.getD x.snd.toNat
      (List.replicate 12 0)).getD (x_1.snd - 1).toNat 0) → (0 ≤ (r.fst.getD x.snd.toNat (List.replicate 12 0)).getD (x_1.snd - 1).toNat 0 ∧ (r.fst.getD x.snd.toNat (List.replicate 12 0)).getD (x_1.snd -
      1).toNat 0 < ((x_1.fst.length : Nat) : Int)) ∧ split (decide (0 < x_1.snd)) ((-128 ≤ x_1.snd - 1 ∧ x_1.snd - 1 ≤ 127) ∧ (0 ≤ x.snd ∧ x.snd < ((12 : Nat) : Int)) ∧ (0 ≤ x_1.snd - 1 ∧ x_1.snd - 1 <
      ((12 : Nat) : Int)) ∧ (inR IntKind.i64 ((r.fst.getD x.snd.toNat (List.replicate 12 0)).getD (x_1.snd - 1).toNat 0) → (-9223372036854775808 ≤ ((i : Nat) : Int) + 1 ∧ ((i : Nat) : Int) + 1 ≤
      9223372036854775807) ∧ split (decide ((r.fst.getD x.snd.toNat (List.replicate 12 0)).getD (x_1.snd - 1).toNat 0 = ((i : Nat) : Int) + 1)) ((0 ≤ x.snd ∧ x.snd < ((12 : Nat) : Int)) ∧ (0 ≤ x_1.snd ∧
      x_1.snd < ((12 : Nat) : Int)) ∧ (inR IntKind.i64 ((r.fst.getD x.snd.toNat (List.replicate 12 0)).getD x_1.snd.toNat 0) → (0 ≤ (r.fst.getD x.snd.toNat (List.replicate 12 0)).getD x_1.snd.toNat 0 ∧
      (r.fst.getD x.snd.toNat (List.replicate 12 0)).getD x_1.snd.toNat 0 < (((x_1.fst.set ((r.fst.getD x.snd.toNat (List.replicate 12 0)).getD (x_1.snd - 1).toNat 0).toNat true).length : Nat) : Int)) ∧
      split (decide (0 < x.snd)) ((0 ≤ x.snd ∧ x.snd < ((12 : Nat) : Int)) ∧ (0 ≤ x_1.snd ∧ x_1.snd < ((12 : Nat) : Int)) ∧ (inR IntKind.i64 ((r.fst.getD x.snd.toNat (List.replicate 12 0)).getD
      x_1.snd.toNat 0) → (-9223372036854775808 ≤ ((i : Nat) : Int) + 1 ∧ ((i : Nat) : Int) + 1 ≤ 9223372036854775807) ∧ split (decide ((r.fst.getD x.snd.toNat (List.replicate 12 0)).getD x_1.snd.toNat 0 =
      ((i : Nat) : Int) + 1)) ((-128 ≤ x.snd - 1 ∧ x.snd - 1 ≤ 127) ∧ (0 ≤ x.snd - 1 ∧ x.snd - 1 < ((12 : Nat) : Int)) ∧ (0 ≤ x_1.snd ∧ x_1.snd < ((12 : Nat) : Int)) ∧ (inR IntKind.i64 ((r.fst.getD (x.snd
      - 1).toNat (List.replicate 12 0)).getD x_1.snd.toNat 0) → (0 ≤ (r.fst.getD (x.snd - 1).toNat (List.replicate 12 0)).getD x_1.snd.toNat 0 ∧ (r.fst.getD (x.snd - 1).toNat (List.replicate 12 0)).getD
      x_1.snd.toNat 0 < ((((x_1.fst.set ((r.fst.getD x.snd.toNat (List.replicate 12 0)).getD (x_1.snd - 1).toNat 0).toNat true).set ((r.fst.getD x.snd.toNat (List.replicate 12 0)).getD x_1.snd.toNat
      0).toNat true).length : Nat) : Int)) ∧ split (decide (0 < x.snd)) ((-128 ≤ x.snd - 1 ∧ x.snd - 1 ≤ 127) ∧ (0 ≤ x.snd - 1 ∧ x.snd - 1 < ((12 : Nat) : Int)) ∧ (0 ≤ x_1.snd ∧ x_1.snd < ((12 : Nat) :
      Int)) ∧ (inR IntKind.i64 ((r.fst.getD (x.snd - 1).toNat (List.replicate 12 0)).getD x_1.snd.toNat 0) → (-9223372036854775808 ≤ ((i : Nat) : Int) + 1 ∧ ((i : Nat) : Int) + 1 ≤ 9223372036854775807) ∧
      split (decide ((r.fst.getD (x.snd - 1).toNat (List.replicate 12 0)).getD x_1.snd.toNat 0 = ((i : Nat) : Int) + 1)) ((0 ≤ x.snd ∧ x.snd < ((12 : Nat) : Int)) ∧ (0 ≤ x_1.snd ∧ x_1.snd < ((12 : Nat) :
      Int)) ∧ (inR IntKind.i64 ((r.fst.getD x.snd.toNat (List.replicate 12 0)).getD x_1.snd.toNat 0) → (0 ≤ (r.fst.getD x.snd.toNat (List.replicate 12 0)).getD x_1.snd.toNat 0 ∧ (r.fst.getD x.snd.toNat
      (List.replicate 12 0)).getD x_1.snd.toNat 0 < (((((x_1.fst.set ((r.fst.getD x.snd.toNat (List.replicate 12 0)).getD (x_1.snd - 1).toNat 0).toNat true).set ((r.fst.getD x.snd.toNat (List.replicate 12
      0)).getD x_1.snd.toNat 0).toNat true).set ((r.fst.getD (x.snd - 1).toNat (List.replicate 12 0)).getD x_1.snd.toNat 0).toNat true).length : Nat) : Int)) ∧ (-128 ≤ x_1.snd + 1 ∧ x_1.snd + 1 ≤ 127) ∧ ∃
      (x' : List Bool × Int), (Slot.own (Ty.slice 4 Ty.bool) ((((x_1.fst.set ((r.fst.getD x.snd.toNat (List.replicate 12 0)).getD (x_1.snd - 1).toNat 0).toNat true).set ((r.fst.getD x.snd.toNat
      (List.replicate 12 0)).getD x_1.snd.toNat 0).toNat true).set ((r.fst.getD (x.snd - 1).toNat (List.replicate 12 0)).getD x_1.snd.toNat 0).toNat true).set ((r.fst.getD x.snd.toNat (List.replicate 12
      0)).getD x_1.snd.toNat 0).toNat true) = Slot.own (Ty.slice 4 Ty.bool) x'.fst ∧ Slot.val (D.dat (Ty.int IntKind.i8) (x_1.snd + 1)) = Slot.val (D.dat (Ty.int IntKind.i8) x'.snd)) ∧ ((0 ≤ x'.snd ∧
      x'.snd ≤ q.fst) ∧ InP q.snd.snd.length x'.fst (upTo q (((i : Nat) : Int)) x.snd x'.snd)) ∧ (q.fst - x'.snd).toNat < (q.fst - x_1.snd).toNat)) ((-128 ≤ x_1.snd + 1 ∧ x_1.snd + 1 ≤ 127) ∧ ∃ (x' : List
      Bool × Int), (Slot.own (Ty.slice 4 Ty.bool) (((x_1.fst.set ((r.fst.getD x.snd.toNat (List.replicate 12 0)).getD (x_1.snd - 1).toNat 0).toNat true).set ((r.fst.getD x.snd.toNat (List.replicate 12
      0)).getD x_1.snd.toNat 0).toNat true).set ((r.fst.getD (x.snd - 1).toNat (List.replicate 12 0)).getD x_1.snd.toNat 0).toNat true) = Slot.own (Ty.slice 4 Ty.bool) x'.fst ∧ Slot.val (D.dat (Ty.int
      IntKind.i8) (x_1.snd + 1)) = Slot.val (D.dat (Ty.int IntKind.i8) x'.snd)) ∧ ((0 ≤ x'.snd ∧ x'.snd ≤ q.fst) ∧ InP q.snd.snd.length x'.fst (upTo q (((i : Nat) : Int)) x.snd x'.snd)) ∧ (q.fst -
      x'.snd).toNat < (q.fst - x_1.snd).toNat))) ((-128 ≤ x_1.snd + 1 ∧ x_1.snd + 1 ≤ 127) ∧ ∃ (x' : List Bool × Int), (Slot.own (Ty.slice 4 Ty.bool) (((x_1.fst.set ((r.fst.getD x.snd.toNat (List.replicate
      12 0)).getD (x_1.snd - 1).toNat 0).toNat true).set ((r.fst.getD x.snd.toNat (List.replicate 12 0)).getD x_1.snd.toNat 0).toNat true).set ((r.fst.getD (x.snd - 1).toNat (List.replicate 12 0)).getD
      x_1.snd.toNat 0).toNat true) = Slot.own (Ty.slice 4 Ty.bool) x'.fst ∧ Slot.val (D.dat (Ty.int IntKind.i8) (x_1.snd + 1)) = Slot.val (D.dat (Ty.int IntKind.i8) x'.snd)) ∧ ((0 ≤ x'.snd ∧ x'.snd ≤
      q.fst) ∧ InP q.snd.snd.length x'.fst (upTo q (((i : Nat) : Int)) x.snd x'.snd)) ∧ (q.fst - x'.snd).toNat < (q.fst - x_1.snd).toNat))) (split (decide (0 < x.snd)) ((-128 ≤ x.snd - 1 ∧ x.snd - 1 ≤ 127)
      ∧ (0 ≤ x.snd - 1 ∧ x.snd - 1 < ((12 : Nat) : Int)) ∧ (0 ≤ x_1.snd ∧ x_1.snd < ((12 : Nat) : Int)) ∧ (inR IntKind.i64 ((r.fst.getD (x.snd - 1).toNat (List.replicate 12 0)).getD x_1.snd.toNat 0) →
      (-9223372036854775808 ≤ ((i : Nat) : Int) + 1 ∧ ((i : Nat) : Int) + 1 ≤ 9223372036854775807) ∧ split (decide ((r.fst.getD (x.snd - 1).toNat (List.replicate 12 0)).getD x_1.snd.toNat 0 = ((i : Nat) :
      Int) + 1)) ((0 ≤ x.snd ∧ x.snd < ((12 : Nat) : Int)) ∧ (0 ≤ x_1.snd ∧ x_1.snd < ((12 : Nat) : Int)) ∧ (inR IntKind.i64 ((r.fst.getD x.snd.toNat (List.replicate 12 0)).getD x_1.snd.toNat 0) → (0 ≤
      (r.fst.getD x.snd.toNat (List.replicate 12 0)).getD x_1.snd.toNat 0 ∧ (r.fst.getD x.snd.toNat (List.replicate 12 0)).getD x_1.snd.toNat 0 < ((((x_1.fst.set ((r.fst.getD x.snd.toNat (List.replicate 12
      0)).getD (x_1.snd - 1).toNat 0).toNat true).set ((r.fst.getD x.snd.toNat (List.replicate 12 0)).getD x_1.snd.toNat 0).toNat true).length : Nat) : Int)) ∧ (-128 ≤ x_1.snd + 1 ∧ x_1.snd + 1 ≤ 127) ∧ ∃
      (x' : List Bool × Int), (Slot.own (Ty.slice 4 Ty.bool) (((x_1.fst.set ((r.fst.getD x.snd.toNat (List.replicate 12 0)).getD (x_1.snd - 1).toNat 0).toNat true).set ((r.fst.getD x.snd.toNat
      (List.replicate 12 0)).getD x_1.snd.toNat 0).toNat true).set ((r.fst.getD x.snd.toNat (List.replicate 12 0)).getD x_1.snd.toNat 0).toNat true) = Slot.own (Ty.slice 4 Ty.bool) x'.fst ∧ Slot.val (D.dat
      (Ty.int IntKind.i8) (x_1.snd + 1)) = Slot.val (D.dat (Ty.int IntKind.i8) x'.snd)) ∧ ((0 ≤ x'.snd ∧ x'.snd ≤ q.fst) ∧ InP q.snd.snd.length x'.fst (upTo q (((i : Nat) : Int)) x.snd x'.snd)) ∧ (q.fst -
      x'.snd).toNat < (q.fst - x_1.snd).toNat)) ((-128 ≤ x_1.snd + 1 ∧ x_1.snd + 1 ≤ 127) ∧ ∃ (x' : List Bool × Int), (Slot.own (Ty.slice 4 Ty.bool) ((x_1.fst.set ((r.fst.getD x.snd.toNat (List.replicate
      12 0)).getD (x_1.snd - 1).toNat 0).toNat true).set ((r.fst.getD x.snd.toNat (List.replicate 12 0)).getD x_1.snd.toNat 0).toNat true) = Slot.own (Ty.slice 4 Ty.bool) x'.fst ∧ Slot.val (D.dat (Ty.int
      IntKind.i8) (x_1.snd + 1)) = Slot.val (D.dat (Ty.int IntKind.i8) x'.snd)) ∧ ((0 ≤ x'.snd ∧ x'.snd ≤ q.fst) ∧ InP q.snd.snd.length x'.fst (upTo q (((i : Nat) : Int)) x.snd x'.snd)) ∧ (q.fst -
      x'.snd).toNat < (q.fst - x_1.snd).toNat))) ((-128 ≤ x_1.snd + 1 ∧ x_1.snd + 1 ≤ 127) ∧ ∃ (x' : List Bool × Int), (Slot.own (Ty.slice 4 Ty.bool) ((x_1.fst.set ((r.fst.getD x.snd.toNat (List.replicate
      12 0)).getD (x_1.snd - 1).toNat 0).toNat true).set ((r.fst.getD x.snd.toNat (List.replicate 12 0)).getD x_1.snd.toNat 0).toNat true) = Slot.own (Ty.slice 4 Ty.bool) x'.fst ∧ Slot.val (D.dat (Ty.int
      IntKind.i8) (x_1.snd + 1)) = Slot.val (D.dat (Ty.int IntKind.i8) x'.snd)) ∧ ((0 ≤ x'.snd ∧ x'.snd ≤ q.fst) ∧ InP q.snd.snd.length x'.fst (upTo q (((i : Nat) : Int)) x.snd x'.snd)) ∧ (q.fst -
      x'.snd).toNat < (q.fst - x_1.snd).toNat)))) (split (decide (0 < x.snd)) ((-128 ≤ x.snd - 1 ∧ x.snd - 1 ≤ 127) ∧ (0 ≤ x.snd - 1 ∧ x.snd - 1 < ((12 : Nat) : Int)) ∧ (0 ≤ x_1.snd ∧ x_1.snd < ((12 : Nat)
      : Int)) ∧ (inR IntKind.i64 ((r.fst.getD (x.snd - 1).toNat (List.replicate 12 0)).getD x_1.snd.toNat 0) → (-9223372036854775808 ≤ ((i : Nat) : Int) + 1 ∧ ((i : Nat) : Int) + 1 ≤ 9223372036854775807) ∧
      split (decide ((r.fst.getD (x.snd - 1).toNat (List.replicate 12 0)).getD x_1.snd.toNat 0 = ((i : Nat) : Int) + 1)) ((0 ≤ x.snd ∧ x.snd < ((12 : Nat) : Int)) ∧ (0 ≤ x_1.snd ∧ x_1.snd < ((12 : Nat) :
      Int)) ∧ (inR IntKind.i64 ((r.fst.getD x.snd.toNat (List.replicate 12 0)).getD x_1.snd.toNat 0) → (0 ≤ (r.fst.getD x.snd.toNat (List.replicate 12 0)).getD x_1.snd.toNat 0 ∧ (r.fst.getD x.snd.toNat
      (List.replicate 12 0)).getD x_1.snd.toNat 0 < ((((x_1.fst.set ((r.fst.getD x.snd.toNat (List.replicate 12 0)).getD (x_1.snd - 1).toNat 0).toNat true).set ((r.fst.getD x.snd.toNat (List.replicate 12
      0)).getD x_1.snd.toNat 0).toNat true).length : Nat) : Int)) ∧ (-128 ≤ x_1.snd + 1 ∧ x_1.snd + 1 ≤ 127) ∧ ∃ (x' : List Bool × Int), (Slot.own (Ty.slice 4 Ty.bool) (((x_1.fst.set ((r.fst.getD
      x.snd.toNat (List.replicate 12 0)).getD (x_1.snd - 1).toNat 0).toNat true).set ((r.fst.getD x.snd.toNat (List.replicate 12 0)).getD x_1.snd.toNat 0).toNat true).set ((r.fst.getD x.snd.toNat
      (List.replicate 12 0)).getD x_1.snd.toNat 0).toNat true) = Slot.own (Ty.slice 4 Ty.bool) x'.fst ∧ Slot.val (D.dat (Ty.int IntKind.i8) (x_1.snd + 1)) = Slot.val (D.dat (Ty.int IntKind.i8) x'.snd)) ∧
      ((0 ≤ x'.snd ∧ x'.snd ≤ q.fst) ∧ InP q.snd.snd.length x'.fst (upTo q (((i : Nat) : Int)) x.snd x'.snd)) ∧ (q.fst - x'.snd).toNat < (q.fst - x_1.snd).toNat)) ((-128 ≤ x_1.snd + 1 ∧ x_1.snd + 1 ≤ 127)
      ∧ ∃ (x' : List Bool × Int), (Slot.own (Ty.slice 4 Ty.bool) ((x_1.fst.set ((r.fst.getD x.snd.toNat (List.replicate 12 0)).getD (x_1.snd - 1).toNat 0).toNat true).set ((r.fst.getD x.snd.toNat
      (List.replicate 12 0)).getD x_1.snd.toNat 0).toNat true) = Slot.own (Ty.slice 4 Ty.bool) x'.fst ∧ Slot.val (D.dat (Ty.int IntKind.i8) (x_1.snd + 1)) = Slot.val (D.dat (Ty.int IntKind.i8) x'.snd)) ∧
      ((0 ≤ x'.snd ∧ x'.snd ≤ q.fst) ∧ InP q.snd.snd.length x'.fst (upTo q (((i : Nat) : Int)) x.snd x'.snd)) ∧ (q.fst - x'.snd).toNat < (q.fst - x_1.snd).toNat))) ((-128 ≤ x_1.snd + 1 ∧ x_1.snd + 1 ≤ 127)
      ∧ ∃ (x' : List Bool × Int), (Slot.own (Ty.slice 4 Ty.bool) ((x_1.fst.set ((r.fst.getD x.snd.toNat (List.replicate 12 0)).getD (x_1.snd - 1).toNat 0).toNat true).set ((r.fst.getD x.snd.toNat
      (List.replicate 12 0)).getD x_1.snd.toNat 0).toNat true) = Slot.own (Ty.slice 4 Ty.bool) x'.fst ∧ Slot.val (D.dat (Ty.int IntKind.i8) (x_1.snd + 1)) = Slot.val (D.dat (Ty.int IntKind.i8) x'.snd)) ∧
      ((0 ≤ x'.snd ∧ x'.snd ≤ q.fst) ∧ InP q.snd.snd.length x'.fst (upTo q (((i : Nat) : Int)) x.snd x'.snd)) ∧ (q.fst - x'.snd).toNat < (q.fst - x_1.snd).toNat)))) (split (decide (0 < x.snd)) ((0 ≤ x.snd
      ∧ x.snd < ((12 : Nat) : Int)) ∧ (0 ≤ x_1.snd ∧ x_1.snd < ((12 : Nat) : Int)) ∧ (inR IntKind.i64 ((r.fst.getD x.snd.toNat (List.replicate 12 0)).getD x_1.snd.toNat 0) → (-9223372036854775808 ≤ ((i :
      Nat) : Int) + 1 ∧ ((i : Nat) : Int) + 1 ≤ 9223372036854775807) ∧ split (decide ((r.fst.getD x.snd.toNat (List.replicate 12 0)).getD x_1.snd.toNat 0 = ((i : Nat) : Int) + 1)) ((-128 ≤ x.snd - 1 ∧
      x.snd - 1 ≤ 127) ∧ (0 ≤ x.snd - 1 ∧ x.snd - 1 < ((12 : Nat) : Int)) ∧ (0 ≤ x_1.snd ∧ x_1.snd < ((12 : Nat) : Int)) ∧ (inR IntKind.i64 ((r.fst.getD (x.snd - 1).toNat (List.replicate 12 0)).getD
      x_1.snd.toNat 0) → (0 ≤ (r.fst.getD (x.snd - 1).toNat (List.replicate 12 0)).getD x_1.snd.toNat 0 ∧ (r.fst.getD (x.snd - 1).toNat (List.replicate 12 0)).getD x_1.snd.toNat 0 < (((x_1.fst.set
      ((r.fst.getD x.snd.toNat (List.replicate 12 0)).getD (x_1.snd - 1).toNat 0).toNat true).length : Nat) : Int)) ∧ split (decide (0 < x.snd)) ((-128 ≤ x.snd - 1 ∧ x.snd - 1 ≤ 127) ∧ (0 ≤ x.snd - 1 ∧
      x.snd - 1 < ((12 : Nat) : Int)) ∧ (0 ≤ x_1.snd ∧ x_1.snd < ((12 : Nat) : Int)) ∧ (inR IntKind.i64 ((r.fst.getD (x.snd - 1).toNat (List.replicate 12 0)).getD x_1.snd.toNat 0) → (-9223372036854775808 ≤
      ((i : Nat) : Int) + 1 ∧ ((i : Nat) : Int) + 1 ≤ 9223372036854775807) ∧ split (decide ((r.fst.getD (x.snd - 1).toNat (List.replicate 12 0)).getD x_1.snd.toNat 0 = ((i : Nat) : Int) + 1)) ((0 ≤ x.snd ∧
      x.snd < ((12 : Nat) : Int)) ∧ (0 ≤ x_1.snd ∧ x_1.snd < ((12 : Nat) : Int)) ∧ (inR IntKind.i64 ((r.fst.getD x.snd.toNat (List.replicate 12 0)).getD x_1.snd.toNat 0) → (0 ≤ (r.fst.getD x.snd.toNat
      (List.replicate 12 0)).getD x_1.snd.toNat 0 ∧ (r.fst.getD x.snd.toNat (List.replicate 12 0)).getD x_1.snd.toNat 0 < ((((x_1.fst.set ((r.fst.getD x.snd.toNat (List.replicate 12 0)).getD (x_1.snd -
      1).toNat 0).toNat true).set ((r.fst.getD (x.snd - 1).toNat (List.replicate 12 0)).getD x_1.snd.toNat 0).toNat true).length : Nat) : Int)) ∧ (-128 ≤ x_1.snd + 1 ∧ x_1.snd + 1 ≤ 127) ∧ ∃ (x' : List
      Bool × Int), (Slot.own (Ty.slice 4 Ty.bool) (((x_1.fst.set ((r.fst.getD x.snd.toNat (List.replicate 12 0)).getD (x_1.snd - 1).toNat 0).toNat true).set ((r.fst.getD (x.snd - 1).toNat (List.replicate
      12 0)).getD x_1.snd.toNat 0).toNat true).set ((r.fst.getD x.snd.toNat (List.replicate 12 0)).getD x_1.snd.toNat 0).toNat true) = Slot.own (Ty.slice 4 Ty.bool) x'.fst ∧ Slot.val (D.dat (Ty.int
      IntKind.i8) (x_1.snd + 1)) = Slot.val (D.dat (Ty.int IntKind.i8) x'.snd)) ∧ ((0 ≤ x'.snd ∧ x'.snd ≤ q.fst) ∧ InP q.snd.snd.length x'.fst (upTo q (((i : Nat) : Int)) x.snd x'.snd)) ∧ (q.fst -
      x'.snd).toNat < (q.fst - x_1.snd).toNat)) ((-128 ≤ x_1.snd + 1 ∧ x_1.snd + 1 ≤ 127) ∧ ∃ (x' : List Bool × Int), (Slot.own (Ty.slice 4 Ty.bool) ((x_1.fst.set ((r.fst.getD x.snd.toNat (List.replicate
      12 0)).getD (x_1.snd - 1).toNat 0).toNat true).set ((r.fst.getD (x.snd - 1).toNat (List.replicate 12 0)).getD x_1.snd.toNat 0).toNat true) = Slot.own (Ty.slice 4 Ty.bool) x'.fst ∧ Slot.val (D.dat
      (Ty.int IntKind.i8) (x_1.snd + 1)) = Slot.val (D.dat (Ty.int IntKind.i8) x'.snd)) ∧ ((0 ≤ x'.snd ∧ x'.snd ≤ q.fst) ∧ InP q.snd.snd.length x'.fst (upTo q (((i : Nat) : Int)) x.snd x'.snd)) ∧ (q.fst -
      x'.snd).toNat < (q.fst - x_1.snd).toNat))) ((-128 ≤ x_1.snd + 1 ∧ x_1.snd + 1 ≤ 127) ∧ ∃ (x' : List Bool × Int), (Slot.own (Ty.slice 4 Ty.bool) ((x_1.fst.set ((r.fst.getD x.snd.toNat (List.replicate
      12 0)).getD (x_1.snd - 1).toNat 0).toNat true).set ((r.fst.getD (x.snd - 1).toNat (List.replicate 12 0)).getD x_1.snd.toNat 0).toNat true) = Slot.own (Ty.slice 4 Ty.bool) x'.fst ∧ Slot.val (D.dat
      (Ty.int IntKind.i8) (x_1.snd + 1)) = Slot.val (D.dat (Ty.int IntKind.i8) x'.snd)) ∧ ((0 ≤ x'.snd ∧ x'.snd ≤ q.fst) ∧ InP q.snd.snd.length x'.fst (upTo q (((i : Nat) : Int)) x.snd x'.snd)) ∧ (q.fst -
      x'.snd).toNat < (q.fst - x_1.snd).toNat))) (split (decide (0 < x.snd)) ((-128 ≤ x.snd - 1 ∧ x.snd - 1 ≤ 127) ∧ (0 ≤ x.snd - 1 ∧ x.snd - 1 < ((12 : Nat) : Int)) ∧ (0 ≤ x_1.snd ∧ x_1.snd < ((12 : Nat)
      : Int)) ∧ (inR IntKind.i64 ((r.fst.getD (x.snd - 1).toNat (List.replicate 12 0)).getD x_1.snd.toNat 0) → (-9223372036854775808 ≤ ((i : Nat) : Int) + 1 ∧ ((i : Nat) : Int) + 1 ≤ 9223372036854775807) ∧
      split (decide ((r.fst.getD (x.snd - 1).toNat (List.replicate 12 0)).getD x_1.snd.toNat 0 = ((i : Nat) : Int) + 1)) ((0 ≤ x.snd ∧ x.snd < ((12 : Nat) : Int)) ∧ (0 ≤ x_1.snd ∧ x_1.snd < ((12 : Nat) :
      Int)) ∧ (inR IntKind.i64 ((r.fst.getD x.snd.toNat (List.replicate 12 0)).getD x_1.snd.toNat 0) → (0 ≤ (r.fst.getD x.snd.toNat (List.replicate 12 0)).getD x_1.snd.toNat 0 ∧ (r.fst.getD x.snd.toNat
      (List.replicate 12 0)).getD x_1.snd.toNat 0 < (((x_1.fst.set ((r.fst.getD x.snd.toNat (List.replicate 12 0)).getD (x_1.snd - 1).toNat 0).toNat true).length : Nat) : Int)) ∧ (-128 ≤ x_1.snd + 1 ∧
      x_1.snd + 1 ≤ 127) ∧ ∃ (x' : List Bool × Int), (Slot.own (Ty.slice 4 Ty.bool) ((x_1.fst.set ((r.fst.getD x.snd.toNat (List.replicate 12 0)).getD (x_1.snd - 1).toNat 0).toNat true).set ((r.fst.getD
      x.snd.toNat (List.replicate 12 0)).getD x_1.snd.toNat 0).toNat true) = Slot.own (Ty.slice 4 Ty.bool) x'.fst ∧ Slot.val (D.dat (Ty.int IntKind.i8) (x_1.snd + 1)) = Slot.val (D.dat (Ty.int IntKind.i8)
      x'.snd)) ∧ ((0 ≤ x'.snd ∧ x'.snd ≤ q.fst) ∧ InP q.snd.snd.length x'.fst (upTo q (((i : Nat) : Int)) x.snd x'.snd)) ∧ (q.fst - x'.snd).toNat < (q.fst - x_1.snd).toNat)) ((-128 ≤ x_1.snd + 1 ∧ x_1.snd
      + 1 ≤ 127) ∧ ∃ (x' : List Bool × Int), (Slot.own (Ty.slice 4 Ty.bool) (x_1.fst.set ((r.fst.getD x.snd.toNat (List.replicate 12 0)).getD (x_1.snd - 1).toNat 0).toNat true) = Slot.own (Ty.slice 4
      Ty.bool) x'.fst ∧ Slot.val (D.dat (Ty.int IntKind.i8) (x_1.snd + 1)) = Slot.val (D.dat (Ty.int IntKind.i8) x'.snd)) ∧ ((0 ≤ x'.snd ∧ x'.snd ≤ q.fst) ∧ InP q.snd.snd.length x'.fst (upTo q (((i : Nat)
      : Int)) x.snd x'.snd)) ∧ (q.fst - x'.snd).toNat < (q.fst - x_1.snd).toNat))) ((-128 ≤ x_1.snd + 1 ∧ x_1.snd + 1 ≤ 127) ∧ ∃ (x' : List Bool × Int), (Slot.own (Ty.slice 4 Ty.bool) (x_1.fst.set
      ((r.fst.getD x.snd.toNat (List.replicate 12 0)).getD (x_1.snd - 1).toNat 0).toNat true) = Slot.own (Ty.slice 4 Ty.bool) x'.fst ∧ Slot.val (D.dat (Ty.int IntKind.i8) (x_1.snd + 1)) = Slot.val (D.dat
      (Ty.int IntKind.i8) x'.snd)) ∧ ((0 ≤ x'.snd ∧ x'.snd ≤ q.fst) ∧ InP q.snd.snd.length x'.fst (upTo q (((i : Nat) : Int)) x.snd x'.snd)) ∧ (q.fst - x'.snd).toNat < (q.fst - x_1.snd).toNat)))) (split
      (decide (0 < x.snd)) ((-128 ≤ x.snd - 1 ∧ x.snd - 1 ≤ 127) ∧ (0 ≤ x.snd - 1 ∧ x.snd - 1 < ((12 : Nat) : Int)) ∧ (0 ≤ x_1.snd ∧ x_1.snd < ((12 : Nat) : Int)) ∧ (inR IntKind.i64 ((r.fst.getD (x.snd -
      1).toNat (List.replicate 12 0)).getD x_1.snd.toNat 0) → (-9223372036854775808 ≤ ((i : Nat) : Int) + 1 ∧ ((i : Nat) : Int) + 1 ≤ 9223372036854775807) ∧ split (decide ((r.fst.getD (x.snd - 1).toNat
      (List.replicate 12 0)).getD x_1.snd.toNat 0 = ((i : Nat) : Int) + 1)) ((0 ≤ x.snd ∧ x.snd < ((12 : Nat) : Int)) ∧ (0 ≤ x_1.snd ∧ x_1.snd < ((12 : Nat) : Int)) ∧ (inR IntKind.i64 ((r.fst.getD
      x.snd.toNat (List.replicate 12 0)).getD x_1.snd.toNat 0) → (0 ≤ (r.fst.getD x.snd.toNat (List.replicate 12 0)).getD x_1.snd.toNat 0 ∧ (r.fst.getD x.snd.toNat (List.replicate 12 0)).getD x_1.snd.toNat
      0 < (((x_1.fst.set ((r.fst.getD x.snd.toNat (List.replicate 12 0)).getD (x_1.snd - 1).toNat 0).toNat true).length : Nat) : Int)) ∧ (-128 ≤ x_1.snd + 1 ∧ x_1.snd + 1 ≤ 127) ∧ ∃ (x' : List Bool × Int),
      (Slot.own (Ty.slice 4 Ty.bool) ((x_1.fst.set ((r.fst.getD x.snd.toNat (List.replicate 12 0)).getD (x_1.snd - 1).toNat 0).toNat true).set ((r.fst.getD x.snd.toNat (List.replicate 12 0)).getD
      x_1.snd.toNat 0).toNat true) = Slot.own (Ty.slice 4 Ty.bool) x'.fst ∧ Slot.val (D.dat (Ty.int IntKind.i8) (x_1.snd + 1)) = Slot.val (D.dat (Ty.int IntKind.i8) x'.snd)) ∧ ((0 ≤ x'.snd ∧ x'.snd ≤
      q.fst) ∧ InP q.snd.snd.length x'.fst (upTo q (((i : Nat) : Int)) x.snd x'.snd)) ∧ (q.fst - x'.snd).toNat < (q.fst - x_1.snd).toNat)) ((-128 ≤ x_1.snd + 1 ∧ x_1.snd + 1 ≤ 127) ∧ ∃ (x' : List Bool ×
      Int), (Slot.own (Ty.slice 4 Ty.bool) (x_1.fst.set ((r.fst.getD x.snd.toNat (List.replicate 12 0)).getD (x_1.snd - 1).toNat 0).toNat true) = Slot.own (Ty.slice 4 Ty.bool) x'.fst ∧ Slot.val (D.dat
      (Ty.int IntKind.i8) (x_1.snd + 1)) = Slot.val (D.dat (Ty.int IntKind.i8) x'.snd)) ∧ ((0 ≤ x'.snd ∧ x'.snd ≤ q.fst) ∧ InP q.snd.snd.length x'.fst (upTo q (((i : Nat) : Int)) x.snd x'.snd)) ∧ (q.fst -
      x'.snd).toNat < (q.fst - x_1.snd).toNat))) ((-128 ≤ x_1.snd + 1 ∧ x_1.snd + 1 ≤ 127) ∧ ∃ (x' : List Bool × Int), (Slot.own (Ty.slice 4 Ty.bool) (x_1.fst.set ((r.fst.getD x.snd.toNat (List.replicate
      12 0)).getD (x_1.snd - 1).toNat 0).toNat true) = Slot.own (Ty.slice 4 Ty.bool) x'.fst ∧ Slot.val (D.dat (Ty.int IntKind.i8) (x_1.snd + 1)) = Slot.val (D.dat (Ty.int IntKind.i8) x'.snd)) ∧ ((0 ≤
      x'.snd ∧ x'.snd ≤ q.fst) ∧ InP q.snd.snd.length x'.fst (upTo q (((i : Nat) : Int)) x.snd x'.snd)) ∧ (q.fst - x'.snd).toNat < (q.fst - x_1.snd).toNat))))) (split (decide (0 < x.snd)) ((0 ≤ x.snd ∧
      x.snd < ((12 : Nat) : Int)) ∧ (0 ≤ x_1.snd ∧ x_1.snd < ((12 : Nat) : Int)) ∧ (inR IntKind.i64 ((r.fst.getD x.snd.toNat (List.replicate 12 0)).getD x_1.snd.toNat 0) → (-9223372036854775808 ≤ ((i :
      Nat) : Int) + 1 ∧ ((i : Nat) : Int) + 1 ≤ 9223372036854775807) ∧ split (decide ((r.fst.getD x.snd.toNat (List.replicate 12 0)).getD x_1.snd.toNat 0 = ((i : Nat) : Int) + 1)) ((-128 ≤ x.snd - 1 ∧
      x.snd - 1 ≤ 127) ∧ (0 ≤ x.snd - 1 ∧ x.snd - 1 < ((12 : Nat) : Int)) ∧ (0 ≤ x_1.snd ∧ x_1.snd < ((12 : Nat) : Int)) ∧ (inR IntKind.i64 ((r.fst.getD (x.snd - 1).toNat (List.replicate 12 0)).getD
      x_1.snd.toNat 0) → (0 ≤ (r.fst.getD (x.snd - 1).toNat (List.replicate 12 0)).getD x_1.snd.toNat 0 ∧ (r.fst.getD (x.snd - 1).toNat (List.replicate 12 0)).getD x_1.snd.toNat 0 < (((x_1.fst.set
      ((r.fst.getD x.snd.toNat (List.replicate 12 0)).getD (x_1.snd - 1).toNat 0).toNat true).length : Nat) : Int)) ∧ split (decide (0 < x.snd)) ((-128 ≤ x.snd - 1 ∧ x.snd - 1 ≤ 127) ∧ (0 ≤ x.snd - 1 ∧
      x.snd - 1 < ((12 : Nat) : Int)) ∧ (0 ≤ x_1.snd ∧ x_1.snd < ((12 : Nat) : Int)) ∧ (inR IntKind.i64 ((r.fst.getD (x.snd - 1).toNat (List.replicate 12 0)).getD x_1.snd.toNat 0) → (-9223372036854775808 ≤
      ((i : Nat) : Int) + 1 ∧ ((i : Nat) : Int) + 1 ≤ 9223372036854775807) ∧ split (decide ((r.fst.getD (x.snd - 1).toNat (List.replicate 12 0)).getD x_1.snd.toNat 0 = ((i : Nat) : Int) + 1)) ((0 ≤ x.snd ∧
      x.snd < ((12 : Nat) : Int)) ∧ (0 ≤ x_1.snd ∧ x_1.snd < ((12 : Nat) : Int)) ∧ (inR IntKind.i64 ((r.fst.getD x.snd.toNat (List.replicate 12 0)).getD x_1.snd.toNat 0) → (0 ≤ (r.fst.getD x.snd.toNat
      (List.replicate 12 0)).getD x_1.snd.toNat 0 ∧ (r.fst.getD x.snd.toNat (List.replicate 12 0)).getD x_1.snd.toNat 0 < ((((x_1.fst.set ((r.fst.getD x.snd.toNat (List.replicate 12 0)).getD (x_1.snd -
      1).toNat 0).toNat true).set ((r.fst.getD (x.snd - 1).toNat (List.replicate 12 0)).getD x_1.snd.toNat 0).toNat true).length : Nat) : Int)) ∧ (-128 ≤ x_1.snd + 1 ∧ x_1.snd + 1 ≤ 127) ∧ ∃ (x' : List
      Bool × Int), (Slot.own (Ty.slice 4 Ty.bool) (((x_1.fst.set ((r.fst.getD x.snd.toNat (List.replicate 12 0)).getD (x_1.snd - 1).toNat 0).toNat true).set ((r.fst.getD (x.snd - 1).toNat (List.replicate
      12 0)).getD x_1.snd.toNat 0).toNat true).set ((r.fst.getD x.snd.toNat (List.replicate 12 0)).getD x_1.snd.toNat 0).toNat true) = Slot.own (Ty.slice 4 Ty.bool) x'.fst ∧ Slot.val (D.dat (Ty.int
      IntKind.i8) (x_1.snd + 1)) = Slot.val (D.dat (Ty.int IntKind.i8) x'.snd)) ∧ ((0 ≤ x'.snd ∧ x'.snd ≤ q.fst) ∧ InP q.snd.snd.length x'.fst (upTo q (((i : Nat) : Int)) x.snd x'.snd)) ∧ (q.fst -
      x'.snd).toNat < (q.fst - x_1.snd).toNat)) ((-128 ≤ x_1.snd + 1 ∧ x_1.snd + 1 ≤ 127) ∧ ∃ (x' : List Bool × Int), (Slot.own (Ty.slice 4 Ty.bool) ((x_1.fst.set ((r.fst.getD x.snd.toNat (List.replicate
      12 0)).getD (x_1.snd - 1).toNat 0).toNat true).set ((r.fst.getD (x.snd - 1).toNat (List.replicate 12 0)).getD x_1.snd.toNat 0).toNat true) = Slot.own (Ty.slice 4 Ty.bool) x'.fst ∧ Slot.val (D.dat
      (Ty.int IntKind.i8) (x_1.snd + 1)) = Slot.val (D.dat (Ty.int IntKind.i8) x'.snd)) ∧ ((0 ≤ x'.snd ∧ x'.snd ≤ q.fst) ∧ InP q.snd.snd.length x'.fst (upTo q (((i : Nat) : Int)) x.snd x'.snd)) ∧ (q.fst -
      x'.snd).toNat < (q.fst - x_1.snd).toNat))) ((-128 ≤ x_1.snd + 1 ∧ x_1.snd + 1 ≤ 127) ∧ ∃ (x' : List Bool × Int), (Slot.own (Ty.slice 4 Ty.bool) ((x_1.fst.set ((r.fst.getD x.snd.toNat (List.replicate
      12 0)).getD (x_1.snd - 1).toNat 0).toNat true).set ((r.fst.getD (x.snd - 1).toNat (List.replicate 12 0)).getD x_1.snd.toNat 0).toNat true) = Slot.own (Ty.slice 4 Ty.bool) x'.fst ∧ Slot.val (D.dat
      (Ty.int IntKind.i8) (x_1.snd + 1)) = Slot.val (D.dat (Ty.int IntKind.i8) x'.snd)) ∧ ((0 ≤ x'.snd ∧ x'.snd ≤ q.fst) ∧ InP q.snd.snd.length x'.fst (upTo q (((i : Nat) : Int)) x.snd x'.snd)) ∧ (q.fst -
      x'.snd).toNat < (q.fst - x_1.snd).toNat))) (split (decide (0 < x.snd)) ((-128 ≤ x.snd - 1 ∧ x.snd - 1 ≤ 127) ∧ (0 ≤ x.snd - 1 ∧ x.snd - 1 < ((12 : Nat) : Int)) ∧ (0 ≤ x_1.snd ∧ x_1.snd < ((12 : Nat)
      : Int)) ∧ (inR IntKind.i64 ((r.fst.getD (x.snd - 1).toNat (List.replicate 12 0)).getD x_1.snd.toNat 0) → (-9223372036854775808 ≤ ((i : Nat) : Int) + 1 ∧ ((i : Nat) : Int) + 1 ≤ 9223372036854775807) ∧
      split (decide ((r.fst.getD (x.snd - 1).toNat (List.replicate 12 0)).getD x_1.snd.toNat 0 = ((i : Nat) : Int) + 1)) ((0 ≤ x.snd ∧ x.snd < ((12 : Nat) : Int)) ∧ (0 ≤ x_1.snd ∧ x_1.snd < ((12 : Nat) :
      Int)) ∧ (inR IntKind.i64 ((r.fst.getD x.snd.toNat (List.replicate 12 0)).getD x_1.snd.toNat 0) → (0 ≤ (r.fst.getD x.snd.toNat (List.replicate 12 0)).getD x_1.snd.toNat 0 ∧ (r.fst.getD x.snd.toNat
      (List.replicate 12 0)).getD x_1.snd.toNat 0 < (((x_1.fst.set ((r.fst.getD x.snd.toNat (List.replicate 12 0)).getD (x_1.snd - 1).toNat 0).toNat true).length : Nat) : Int)) ∧ (-128 ≤ x_1.snd + 1 ∧
      x_1.snd + 1 ≤ 127) ∧ ∃ (x' : List Bool × Int), (Slot.own (Ty.slice 4 Ty.bool) ((x_1.fst.set ((r.fst.getD x.snd.toNat (List.replicate 12 0)).getD (x_1.snd - 1).toNat 0).toNat true).set ((r.fst.getD
      x.snd.toNat (List.replicate 12 0)).getD x_1.snd.toNat 0).toNat true) = Slot.own (Ty.slice 4 Ty.bool) x'.fst ∧ Slot.val (D.dat (Ty.int IntKind.i8) (x_1.snd + 1)) = Slot.val (D.dat (Ty.int IntKind.i8)
      x'.snd)) ∧ ((0 ≤ x'.snd ∧ x'.snd ≤ q.fst) ∧ InP q.snd.snd.length x'.fst (upTo q (((i : Nat) : Int)) x.snd x'.snd)) ∧ (q.fst - x'.snd).toNat < (q.fst - x_1.snd).toNat)) ((-128 ≤ x_1.snd + 1 ∧ x_1.snd
      + 1 ≤ 127) ∧ ∃ (x' : List Bool × Int), (Slot.own (Ty.slice 4 Ty.bool) (x_1.fst.set ((r.fst.getD x.snd.toNat (List.replicate 12 0)).getD (x_1.snd - 1).toNat 0).toNat true) = Slot.own (Ty.slice 4
      Ty.bool) x'.fst ∧ Slot.val (D.dat (Ty.int IntKind.i8) (x_1.snd + 1)) = Slot.val (D.dat (Ty.int IntKind.i8) x'.snd)) ∧ ((0 ≤ x'.snd ∧ x'.snd ≤ q.fst) ∧ InP q.snd.snd.length x'.fst (upTo q (((i : Nat)
      : Int)) x.snd x'.snd)) ∧ (q.fst - x'.snd).toNat < (q.fst - x_1.snd).toNat))) ((-128 ≤ x_1.snd + 1 ∧ x_1.snd + 1 ≤ 127) ∧ ∃ (x' : List Bool × Int), (Slot.own (Ty.slice 4 Ty.bool) (x_1.fst.set
      ((r.fst.getD x.snd.toNat (List.replicate 12 0)).getD (x_1.snd - 1).toNat 0).toNat true) = Slot.own (Ty.slice 4 Ty.bool) x'.fst ∧ Slot.val (D.dat (Ty.int IntKind.i8) (x_1.snd + 1)) = Slot.val (D.dat
      (Ty.int IntKind.i8) x'.snd)) ∧ ((0 ≤ x'.snd ∧ x'.snd ≤ q.fst) ∧ InP q.snd.snd.length x'.fst (upTo q (((i : Nat) : Int)) x.snd x'.snd)) ∧ (q.fst - x'.snd).toNat < (q.fst - x_1.snd).toNat)))) (split
      (decide (0 < x.snd)) ((-128 ≤ x.snd - 1 ∧ x.snd - 1 ≤ 127) ∧ (0 ≤ x.snd - 1 ∧ x.snd - 1 < ((12 : Nat) : Int)) ∧ (0 ≤ x_1.snd ∧ x_1.snd < ((12 : Nat) : Int)) ∧ (inR IntKind.i64 ((r.fst.getD (x.snd -
      1).toNat (List.replicate 12 0)).getD x_1.snd.toNat 0) → (-9223372036854775808 ≤ ((i : Nat) : Int) + 1 ∧ ((i : Nat) : Int) + 1 ≤ 9223372036854775807) ∧ split (decide ((r.fst.getD (x.snd - 1).toNat
      (List.replicate 12 0)).getD x_1.snd.toNat 0 = ((i : Nat) : Int) + 1)) ((0 ≤ x.snd ∧ x.snd < ((12 : Nat) : Int)) ∧ (0 ≤ x_1.snd ∧ x_1.snd < ((12 : Nat) : Int)) ∧ (inR IntKind.i64 ((r.fst.getD
      x.snd.toNat (List.replicate 12 0)).getD x_1.snd.toNat 0) → (0 ≤ (r.fst.getD x.snd.toNat (List.replicate 12 0)).getD x_1.snd.toNat 0 ∧ (r.fst.getD x.snd.toNat (List.replicate 12 0)).getD x_1.snd.toNat
      0 < (((x_1.fst.set ((r.fst.getD x.snd.toNat (List.replicate 12 0)).getD (x_1.snd - 1).toNat 0).toNat true).length : Nat) : Int)) ∧ (-128 ≤ x_1.snd + 1 ∧ x_1.snd + 1 ≤ 127) ∧ ∃ (x' : List Bool × Int),
      (Slot.own (Ty.slice 4 Ty.bool) ((x_1.fst.set ((r.fst.getD x.snd.toNat (List.replicate 12 0)).getD (x_1.snd - 1).toNat 0).toNat true).set ((r.fst.getD x.snd.toNat (List.replicate 12 0)).getD
      x_1.snd.toNat 0).toNat true) = Slot.own (Ty.slice 4 Ty.bool) x'.fst ∧ Slot.val (D.dat (Ty.int IntKind.i8) (x_1.snd + 1)) = Slot.val (D.dat (Ty.int IntKind.i8) x'.snd)) ∧ ((0 ≤ x'.snd ∧ x'.snd ≤
      q.fst) ∧ InP q.snd.snd.length x'.fst (upTo q (((i : Nat) : Int)) x.snd x'.snd)) ∧ (q.fst - x'.snd).toNat < (q.fst - x_1.snd).toNat)) ((-128 ≤ x_1.snd + 1 ∧ x_1.snd + 1 ≤ 127) ∧ ∃ (x' : List Bool ×
      Int), (Slot.own (Ty.slice 4 Ty.bool) (x_1.fst.set ((r.fst.getD x.snd.toNat (List.replicate 12 0)).getD (x_1.snd - 1).toNat 0).toNat true) = Slot.own (Ty.slice 4 Ty.bool) x'.fst ∧ Slot.val (D.dat
      (Ty.int IntKind.i8) (x_1.snd + 1)) = Slot.val (D.dat (Ty.int IntKind.i8) x'.snd)) ∧ ((0 ≤ x'.snd ∧ x'.snd ≤ q.fst) ∧ InP q.snd.snd.length x'.fst (upTo q (((i : Nat) : Int)) x.snd x'.snd)) ∧ (q.fst -
      x'.snd).toNat < (q.fst - x_1.snd).toNat))) ((-128 ≤ x_1.snd + 1 ∧ x_1.snd + 1 ≤ 127) ∧ ∃ (x' : List Bool × Int), (Slot.own (Ty.slice 4 Ty.bool) (x_1.fst.set ((r.fst.getD x.snd.toNat (List.replicate
      12 0)).getD (x_1.snd - 1).toNat 0).toNat true) = Slot.own (Ty.slice 4 Ty.bool) x'.fst ∧ Slot.val (D.dat (Ty.int IntKind.i8) (x_1.snd + 1)) = Slot.val (D.dat (Ty.int IntKind.i8) x'.snd)) ∧ ((0 ≤
      x'.snd ∧ x'.snd ≤ q.fst) ∧ InP q.snd.snd.length x'.fst (upTo q (((i : Nat) : Int)) x.snd x'.snd)) ∧ (q.fst - x'.snd).toNat < (q.fst - x_1.snd).toNat))))) (split (decide (0 < x_1.snd)) ((-128 ≤
      x_1.snd - 1 ∧ x_1.snd - 1 ≤ 127) ∧ (0 ≤ x.snd ∧ x.snd < ((12 : Nat) : Int)) ∧ (0 ≤ x_1.snd - 1 ∧ x_1.snd - 1 < ((12 : Nat) : Int)) ∧ (inR IntKind.i64 ((r.fst.getD x.snd.toNat (List.replicate 12
      0)).getD (x_1.snd - 1).toNat 0) → (-9223372036854775808 ≤ ((i : Nat) : Int) + 1 ∧ ((i : Nat) : Int) + 1 ≤ 9223372036854775807) ∧ split (decide ((r.fst.getD x.snd.toNat (List.replicate 12 0)).getD
      (x_1.snd - 1).toNat 0 = ((i : Nat) : Int) + 1)) ((0 ≤ x.snd ∧ x.snd < ((12 : Nat) : Int)) ∧ (0 ≤ x_1.snd ∧ x_1.snd < ((12 : Nat) : Int)) ∧ (inR IntKind.i64 ((r.fst.getD x.snd.toNat (List.replicate 12
      0)).getD x_1.snd.toNat 0) → (0 ≤ (r.fst.getD x.snd.toNat (List.replicate 12 0)).getD x_1.snd.toNat 0 ∧ (r.fst.getD x.snd.toNat (List.replicate 12 0)).getD x_1.snd.toNat 0 < ((x_1.fst.length : Nat) :
      Int)) ∧ split (decide (0 < x.snd)) ((0 ≤ x.snd ∧ x.snd < ((12 : Nat) : Int)) ∧ (0 ≤ x_1.snd ∧ x_1.snd < ((12 : Nat) : Int)) ∧ (inR IntKind.i64 ((r.fst.getD x.snd.toNat (List.replicate 12 0)).getD
      x_1.snd.toNat 0) → (-9223372036854775808 ≤ ((i : Nat) : Int) + 1 ∧ ((i : Nat) : Int) + 1 ≤ 9223372036854775807) ∧ split (decide ((r.fst.getD x.snd.toNat (List.replicate 12 0)).getD x_1.snd.toNat 0 =
      ((i : Nat) : Int) + 1)) ((-128 ≤ x.snd - 1 ∧ x.snd - 1 ≤ 127) ∧ (0 ≤ x.snd - 1 ∧ x.snd - 1 < ((12 : Nat) : Int)) ∧ (0 ≤ x_1.snd ∧ x_1.snd < ((12 : Nat) : Int)) ∧ (inR IntKind.i64 ((r.fst.getD (x.snd
      - 1).toNat (List.replicate 12 0)).getD x_1.snd.toNat 0) → (0 ≤ (r.fst.getD (x.snd - 1).toNat (List.replicate 12 0)).getD x_1.snd.toNat 0 ∧ (r.fst.getD (x.snd - 1).toNat (List.replicate 12 0)).getD
      x_1.snd.toNat 0 < (((x_1.fst.set ((r.fst.getD x.snd.toNat (List.replicate 12 0)).getD x_1.snd.toNat 0).toNat true).length : Nat) : Int)) ∧ split (decide (0 < x.snd)) ((-128 ≤ x.snd - 1 ∧ x.snd - 1 ≤
      127) ∧ (0 ≤ x.snd - 1 ∧ x.snd - 1 < ((12 : Nat) : Int)) ∧ (0 ≤ x_1.snd ∧ x_1.snd < ((12 : Nat) : Int)) ∧ (inR IntKind.i64 ((r.fst.getD (x.snd - 1).toNat (List.replicate 12 0)).getD x_1.snd.toNat 0) →
      (-9223372036854775808 ≤ ((i : Nat) : Int) + 1 ∧ ((i : Nat) : Int) + 1 ≤ 9223372036854775807) ∧ split (decide ((r.fst.getD (x.snd - 1).toNat (List.replicate 12 0)).getD x_1.snd.toNat 0 = ((i : Nat) :
      Int) + 1)) ((0 ≤ x.snd ∧ x.snd < ((12 : Nat) : Int)) ∧ (0 ≤ x_1.snd ∧ x_1.snd < ((12 : Nat) : Int)) ∧ (inR IntKind.i64 ((r.fst.getD x.snd.toNat (List.replicate 12 0)).getD x_1.snd.toNat 0) → (0 ≤
      (r.fst.getD x.snd.toNat (List.replicate 12 0)).getD x_1.snd.toNat 0 ∧ (r.fst.getD x.snd.toNat (List.replicate 12 0)).getD x_1.snd.toNat 0 < ((((x_1.fst.set ((r.fst.getD x.snd.toNat (List.replicate 12
      0)).getD x_1.snd.toNat 0).toNat true).set ((r.fst.getD (x.snd - 1).toNat (List.replicate 12 0)).getD x_1.snd.toNat 0).toNat true).length : Nat) : Int)) ∧ (-128 ≤ x_1.snd + 1 ∧ x_1.snd + 1 ≤ 127) ∧ ∃
      (x' : List Bool × Int), (Slot.own (Ty.slice 4 Ty.bool) (((x_1.fst.set ((r.fst.getD x.snd.toNat (List.replicate 12 0)).getD x_1.snd.toNat 0).toNat true).set ((r.fst.getD (x.snd - 1).toNat
      (List.replicate 12 0)).getD x_1.snd.toNat 0).toNat true).set ((r.fst.getD x.snd.toNat (List.replicate 12 0)).getD x_1.snd.toNat 0).toNat true) = Slot.own (Ty.slice 4 Ty.bool) x'.fst ∧ Slot.val (D.dat
      (Ty.int IntKind.i8) (x_1.snd + 1)) = Slot.val (D.dat (Ty.int IntKind.i8) x'.snd)) ∧ ((0 ≤ x'.snd ∧ x'.snd ≤ q.fst) ∧ InP q.snd.snd.length x'.fst (upTo q (((i : Nat) : Int)) x.snd x'.snd)) ∧ (q.fst -
      x'.snd).toNat < (q.fst - x_1.snd).toNat)) ((-128 ≤ x_1.snd + 1 ∧ x_1.snd + 1 ≤ 127) ∧ ∃ (x' : List Bool × Int), (Slot.own (Ty.slice 4 Ty.bool) ((x_1.fst.set ((r.fst.getD x.snd.toNat (List.replicate
      12 0)).getD x_1.snd.toNat 0).toNat true).set ((r.fst.getD (x.snd - 1).toNat (List.replicate 12 0)).getD x_1.snd.toNat 0).toNat true) = Slot.own (Ty.slice 4 Ty.bool) x'.fst ∧ Slot.val (D.dat (Ty.int
      IntKind.i8) (x_1.snd + 1)) = Slot.val (D.dat (Ty.int IntKind.i8) x'.snd)) ∧ ((0 ≤ x'.snd ∧ x'.snd ≤ q.fst) ∧ InP q.snd.snd.length x'.fst (upTo q (((i : Nat) : Int)) x.snd x'.snd)) ∧ (q.fst -
      x'.snd).toNat < (q.fst - x_1.snd).toNat))) ((-128 ≤ x_1.snd + 1 ∧ x_1.snd + 1 ≤ 127) ∧ ∃ (x' : List Bool × Int), (Slot.own (Ty.slice 4 Ty.bool) ((x_1.fst.set ((r.fst.getD x.snd.toNat (List.replicate
      12 0)).getD x_1.snd.toNat 0).toNat true).set ((r.fst.getD (x.snd - 1).toNat (List.replicate 12 0)).getD x_1.snd.toNat 0).toNat true) = Slot.own (Ty.slice 4 Ty.bool) x'.fst ∧ Slot.val (D.dat (Ty.int
      IntKind.i8) (x_1.snd + 1)) = Slot.val (D.dat (Ty.int IntKind.i8) x'.snd)) ∧ ((0 ≤ x'.snd ∧ x'.snd ≤ q.fst) ∧ InP q.snd.snd.length x'.fst (upTo q (((i : Nat) : Int)) x.snd x'.snd)) ∧ (q.fst -
      x'.snd).toNat < (q.fst - x_1.snd).toNat))) (split (decide (0 < x.snd)) ((-128 ≤ x.snd - 1 ∧ x.snd - 1 ≤ 127) ∧ (0 ≤ x.snd - 1 ∧ x.snd - 1 < ((12 : Nat) : Int)) ∧ (0 ≤ x_1.snd ∧ x_1.snd < ((12 : Nat)
      : Int)) ∧ (inR IntKind.i64 ((r.fst.getD (x.snd - 1).toNat (List.replicate 12 0)).getD x_1.snd.toNat 0) → (-9223372036854775808 ≤ ((i : Nat) : Int) + 1 ∧ ((i : Nat) : Int) + 1 ≤ 9223372036854775807) ∧
      split (decide ((r.fst.getD (x.snd - 1).toNat (List.replicate 12 0)).getD x_1.snd.toNat 0 = ((i : Nat) : Int) + 1)) ((0 ≤ x.snd ∧ x.snd < ((12 : Nat) : Int)) ∧ (0 ≤ x_1.snd ∧ x_1.snd < ((12 : Nat) :
      Int)) ∧ (inR IntKind.i64 ((r.fst.getD x.snd.toNat (List.replicate 12 0)).getD x_1.snd.toNat 0) → (0 ≤ (r.fst.getD x.snd.toNat (List.replicate 12 0)).getD x_1.snd.toNat 0 ∧ (r.fst.getD x.snd.toNat
      (List.replicate 12 0)).getD x_1.snd.toNat 0 < (((x_1.fst.set ((r.fst.getD x.snd.toNat (List.replicate 12 0)).getD x_1.snd.toNat 0).toNat true).length : Nat) : Int)) ∧ (-128 ≤ x_1.snd + 1 ∧ x_1.snd +
      1 ≤ 127) ∧ ∃ (x' : List Bool × Int), (Slot.own (Ty.slice 4 Ty.bool) ((x_1.fst.set ((r.fst.getD x.snd.toNat (List.replicate 12 0)).getD x_1.snd.toNat 0).toNat true).set ((r.fst.getD x.snd.toNat
      (List.replicate 12 0)).getD x_1.snd.toNat 0).toNat true) = Slot.own (Ty.slice 4 Ty.bool) x'.fst ∧ Slot.val (D.dat (Ty.int IntKind.i8) (x_1.snd + 1)) = Slot.val (D.dat (Ty.int IntKind.i8) x'.snd)) ∧
      ((0 ≤ x'.snd ∧ x'.snd ≤ q.fst) ∧ InP q.snd.snd.length x'.fst (upTo q (((i : Nat) : Int)) x.snd x'.snd)) ∧ (q.fst - x'.snd).toNat < (q.fst - x_1.snd).toNat)) ((-128 ≤ x_1.snd + 1 ∧ x_1.snd + 1 ≤ 127)
      ∧ ∃ (x' : List Bool × Int), (Slot.own (Ty.slice 4 Ty.bool) (x_1.fst.set ((r.fst.getD x.snd.toNat (List.replicate 12 0)).getD x_1.snd.toNat 0).toNat true) = Slot.own (Ty.slice 4 Ty.bool) x'.fst ∧
      Slot.val (D.dat (Ty.int IntKind.i8) (x_1.snd + 1)) = Slot.val (D.dat (Ty.int IntKind.i8) x'.snd)) ∧ ((0 ≤ x'.snd ∧ x'.snd ≤ q.fst) ∧ InP q.snd.snd.length x'.fst (upTo q (((i : Nat) : Int)) x.snd
      x'.snd)) ∧ (q.fst - x'.snd).toNat < (q.fst - x_1.snd).toNat))) ((-128 ≤ x_1.snd + 1 ∧ x_1.snd + 1 ≤ 127) ∧ ∃ (x' : List Bool × Int), (Slot.own (Ty.slice 4 Ty.bool) (x_1.fst.set ((r.fst.getD
      x.snd.toNat (List.replicate 12 0)).getD x_1.snd.toNat 0).toNat true) = Slot.own (Ty.slice 4 Ty.bool) x'.fst ∧ Slot.val (D.dat (Ty.int IntKind.i8) (x_1.snd + 1)) = Slot.val (D.dat (Ty.int IntKind.i8)
      x'.snd)) ∧ ((0 ≤ x'.snd ∧ x'.snd ≤ q.fst) ∧ InP q.snd.snd.length x'.fst (upTo q (((i : Nat) : Int)) x.snd x'.snd)) ∧ (q.fst - x'.snd).toNat < (q.fst - x_1.snd).toNat)))) (split (decide (0 < x.snd))
      ((-128 ≤ x.snd - 1 ∧ x.snd - 1 ≤ 127) ∧ (0 ≤ x.snd - 1 ∧ x.snd - 1 < ((12 : Nat) : Int)) ∧ (0 ≤ x_1.snd ∧ x_1.snd < ((12 : Nat) : Int)) ∧ (inR IntKind.i64 ((r.fst.getD (x.snd - 1).toNat
      (List.replicate 12 0)).getD x_1.snd.toNat 0) → (-9223372036854775808 ≤ ((i : Nat) : Int) + 1 ∧ ((i : Nat) : Int) + 1 ≤ 9223372036854775807) ∧ split (decide ((r.fst.getD (x.snd - 1).toNat
      (List.replicate 12 0)).getD x_1.snd.toNat 0 = ((i : Nat) : Int) + 1)) ((0 ≤ x.snd ∧ x.snd < ((12 : Nat) : Int)) ∧ (0 ≤ x_1.snd ∧ x_1.snd < ((12 : Nat) : Int)) ∧ (inR IntKind.i64 ((r.fst.getD
      x.snd.toNat (List.replicate 12 0)).getD x_1.snd.toNat 0) → (0 ≤ (r.fst.getD x.snd.toNat (List.replicate 12 0)).getD x_1.snd.toNat 0 ∧ (r.fst.getD x.snd.toNat (List.replicate 12 0)).getD x_1.snd.toNat
      0 < (((x_1.fst.set ((r.fst.getD x.snd.toNat (List.replicate 12 0)).getD x_1.snd.toNat 0).toNat true).length : Nat) : Int)) ∧ (-128 ≤ x_1.snd + 1 ∧ x_1.snd + 1 ≤ 127) ∧ ∃ (x' : List Bool × Int),
      (Slot.own (Ty.slice 4 Ty.bool) ((x_1.fst.set ((r.fst.getD x.snd.toNat (List.replicate 12 0)).getD x_1.snd.toNat 0).toNat true).set ((r.fst.getD x.snd.toNat (List.replicate 12 0)).getD x_1.snd.toNat
      0).toNat true) = Slot.own (Ty.slice 4 Ty.bool) x'.fst ∧ Slot.val (D.dat (Ty.int IntKind.i8) (x_1.snd + 1)) = Slot.val (D.dat (Ty.int IntKind.i8) x'.snd)) ∧ ((0 ≤ x'.snd ∧ x'.snd ≤ q.fst) ∧ InP
      q.snd.snd.length x'.fst (upTo q (((i : Nat) : Int)) x.snd x'.snd)) ∧ (q.fst - x'.snd).toNat < (q.fst - x_1.snd).toNat)) ((-128 ≤ x_1.snd + 1 ∧ x_1.snd + 1 ≤ 127) ∧ ∃ (x' : List Bool × Int), (Slot.own
      (Ty.slice 4 Ty.bool) (x_1.fst.set ((r.fst.getD x.snd.toNat (List.replicate 12 0)).getD x_1.snd.toNat 0).toNat true) = Slot.own (Ty.slice 4 Ty.bool) x'.fst ∧ Slot.val (D.dat (Ty.int IntKind.i8)
      (x_1.snd + 1)) = Slot.val (D.dat (Ty.int IntKind.i8) x'.snd)) ∧ ((0 ≤ x'.snd ∧ x'.snd ≤ q.fst) ∧ InP q.snd.snd.length x'.fst (upTo q (((i : Nat) : Int)) x.snd x'.snd)) ∧ (q.fst - x'.snd).toNat <
      (q.fst - x_1.snd).toNat))) ((-128 ≤ x_1.snd + 1 ∧ x_1.snd + 1 ≤ 127) ∧ ∃ (x' : List Bool × Int), (Slot.own (Ty.slice 4 Ty.bool) (x_1.fst.set ((r.fst.getD x.snd.toNat (List.replicate 12 0)).getD
      x_1.snd.toNat 0).toNat true) = Slot.own (Ty.slice 4 Ty.bool) x'.fst ∧ Slot.val (D.dat (Ty.int IntKind.i8) (x_1.snd + 1)) = Slot.val (D.dat (Ty.int IntKind.i8) x'.snd)) ∧ ((0 ≤ x'.snd ∧ x'.snd ≤
      q.fst) ∧ InP q.snd.snd.length x'.fst (upTo q (((i : Nat) : Int)) x.snd x'.snd)) ∧ (q.fst - x'.snd).toNat < (q.fst - x_1.snd).toNat)))) (split (decide (0 < x.snd)) ((0 ≤ x.snd ∧ x.snd < ((12 : Nat) :
      Int)) ∧ (0 ≤ x_1.snd ∧ x_1.snd < ((12 : Nat) : Int)) ∧ (inR IntKind.i64 ((r.fst.getD x.snd.toNat (List.replicate 12 0)).getD x_1.snd.toNat 0) → (-9223372036854775808 ≤ ((i : Nat) : Int) + 1 ∧ ((i :
      Nat) : Int) + 1 ≤ 9223372036854775807) ∧ split (decide ((r.fst.getD x.snd.toNat (List.replicate 12 0)).getD x_1.snd.toNat 0 = ((i : Nat) : Int) + 1)) ((-128 ≤ x.snd - 1 ∧ x.snd - 1 ≤ 127) ∧ (0 ≤
      x.snd - 1 ∧ x.snd - 1 < ((12 : Nat) : Int)) ∧ (0 ≤ x_1.snd ∧ x_1.snd < ((12 : Nat) : Int)) ∧ (inR IntKind.i64 ((r.fst.getD (x.snd - 1).toNat (List.replicate 12 0)).getD x_1.snd.toNat 0) → (0 ≤
      (r.fst.getD (x.snd - 1).toNat (List.replicate 12 0)).getD x_1.snd.toNat 0 ∧ (r.fst.getD (x.snd - 1).toNat (List.replicate 12 0)).getD x_1.snd.toNat 0 < ((x_1.fst.length : Nat) : Int)) ∧ split (decide
      (0 < x.snd)) ((-128 ≤ x.snd - 1 ∧ x.snd - 1 ≤ 127) ∧ (0 ≤ x.snd - 1 ∧ x.snd - 1 < ((12 : Nat) : Int)) ∧ (0 ≤ x_1.snd ∧ x_1.snd < ((12 : Nat) : Int)) ∧ (inR IntKind.i64 ((r.fst.getD (x.snd - 1).toNat
      (List.replicate 12 0)).getD x_1.snd.toNat 0) → (-9223372036854775808 ≤ ((i : Nat) : Int) + 1 ∧ ((i : Nat) : Int) + 1 ≤ 9223372036854775807) ∧ split (decide ((r.fst.getD (x.snd - 1).toNat
      (List.replicate 12 0)).getD x_1.snd.toNat 0 = ((i : Nat) : Int) + 1)) ((0 ≤ x.snd ∧ x.snd < ((12 : Nat) : Int)) ∧ (0 ≤ x_1.snd ∧ x_1.snd < ((12 : Nat) : Int)) ∧ (inR IntKind.i64 ((r.fst.getD
      x.snd.toNat (List.replicate 12 0)).getD x_1.snd.toNat 0) → (0 ≤ (r.fst.getD x.snd.toNat (List.replicate 12 0)).getD x_1.snd.toNat 0 ∧ (r.fst.getD x.snd.toNat (List.replicate 12 0)).getD x_1.snd.toNat
      0 < (((x_1.fst.set ((r.fst.getD (x.snd - 1).toNat (List.replicate 12 0)).getD x_1.snd.toNat 0).toNat true).length : Nat) : Int)) ∧ (-128 ≤ x_1.snd + 1 ∧ x_1.snd + 1 ≤ 127) ∧ ∃ (x' : List Bool × Int),
      (Slot.own (Ty.slice 4 Ty.bool) ((x_1.fst.set ((r.fst.getD (x.snd - 1).toNat (List.replicate 12 0)).getD x_1.snd.toNat 0).toNat true).set ((r.fst.getD x.snd.toNat (List.replicate 12 0)).getD
      x_1.snd.toNat 0).toNat true) = Slot.own (Ty.slice 4 Ty.bool) x'.fst ∧ Slot.val (D.dat (Ty.int IntKind.i8) (x_1.snd + 1)) = Slot.val (D.dat (Ty.int IntKind.i8) x'.snd)) ∧ ((0 ≤ x'.snd ∧ x'.snd ≤
      q.fst) ∧ InP q.snd.snd.length x'.fst (upTo q (((i : Nat) : Int)) x.snd x'.snd)) ∧ (q.fst - x'.snd).toNat < (q.fst - x_1.snd).toNat)) ((-128 ≤ x_1.snd + 1 ∧ x_1.snd + 1 ≤ 127) ∧ ∃ (x' : List Bool ×
      Int), (Slot.own (Ty.slice 4 Ty.bool) (x_1.fst.set ((r.fst.getD (x.snd - 1).toNat (List.replicate 12 0)).getD x_1.snd.toNat 0).toNat true) = Slot.own (Ty.slice 4 Ty.bool) x'.fst ∧ Slot.val (D.dat
      (Ty.int IntKind.i8) (x_1.snd + 1)) = Slot.val (D.dat (Ty.int IntKind.i8) x'.snd)) ∧ ((0 ≤ x'.snd ∧ x'.snd ≤ q.fst) ∧ InP q.snd.snd.length x'.fst (upTo q (((i : Nat) : Int)) x.snd x'.snd)) ∧ (q.fst -
      x'.snd).toNat < (q.fst - x_1.snd).toNat))) ((-128 ≤ x_1.snd + 1 ∧ x_1.snd + 1 ≤ 127) ∧ ∃ (x' : List Bool × Int), (Slot.own (Ty.slice 4 Ty.bool) (x_1.fst.set ((r.fst.getD (x.snd - 1).toNat
      (List.replicate 12 0)).getD x_1.snd.toNat 0).toNat true) = Slot.own (Ty.slice 4 Ty.bool) x'.fst ∧ Slot.val (D.dat (Ty.int IntKind.i8) (x_1.snd + 1)) = Slot.val (D.dat (Ty.int IntKind.i8) x'.snd)) ∧
      ((0 ≤ x'.snd ∧ x'.snd ≤ q.fst) ∧ InP q.snd.snd.length x'.fst (upTo q (((i : Nat) : Int)) x.snd x'.snd)) ∧ (q.fst - x'.snd).toNat < (q.fst - x_1.snd).toNat))) (split (decide (0 < x.snd)) ((-128 ≤
      x.snd - 1 ∧ x.snd - 1 ≤ 127) ∧ (0 ≤ x.snd - 1 ∧ x.snd - 1 < ((12 : Nat) : Int)) ∧ (0 ≤ x_1.snd ∧ x_1.snd < ((12 : Nat) : Int)) ∧ (inR IntKind.i64 ((r.fst.getD (x.snd - 1).toNat (List.replicate 12
      0)).getD x_1.snd.toNat 0) → (-9223372036854775808 ≤ ((i : Nat) : Int) + 1 ∧ ((i : Nat) : Int) + 1 ≤ 9223372036854775807) ∧ split (decide ((r.fst.getD (x.snd - 1).toNat (List.replicate 12 0)).getD
      x_1.snd.toNat 0 = ((i : Nat) : Int) + 1)) ((0 ≤ x.snd ∧ x.snd < ((12 : Nat) : Int)) ∧ (0 ≤ x_1.snd ∧ x_1.snd < ((12 : Nat) : Int)) ∧ (inR IntKind.i64 ((r.fst.getD x.snd.toNat (List.replicate 12
      0)).getD x_1.snd.toNat 0) → (0 ≤ (r.fst.getD x.snd.toNat (List.replicate 12 0)).getD x_1.snd.toNat 0 ∧ (r.fst.getD x.snd.toNat (List.replicate 12 0)).getD x_1.snd.toNat 0 < ((x_1.fst.length : Nat) :
      Int)) ∧ (-128 ≤ x_1.snd + 1 ∧ x_1.snd + 1 ≤ 127) ∧ ∃ (x' : List Bool × Int), (Slot.own (Ty.slice 4 Ty.bool) (x_1.fst.set ((r.fst.getD x.snd.toNat (List.replicate 12 0)).getD x_1.snd.toNat 0).toNat
      true) = Slot.own (Ty.slice 4 Ty.bool) x'.fst ∧ Slot.val (D.dat (Ty.int IntKind.i8) (x_1.snd + 1)) = Slot.val (D.dat (Ty.int IntKind.i8) x'.snd)) ∧ ((0 ≤ x'.snd ∧ x'.snd ≤ q.fst) ∧ InP
      q.snd.snd.length x'.fst (upTo q (((i : Nat) : Int)) x.snd x'.snd)) ∧ (q.fst - x'.snd).toNat < (q.fst - x_1.snd).toNat)) ((-128 ≤ x_1.snd + 1 ∧ x_1.snd + 1 ≤ 127) ∧ ∃ (x' : List Bool × Int), (Slot.own
      (Ty.slice 4 Ty.bool) x_1.fst = Slot.own (Ty.slice 4 Ty.bool) x'.fst ∧ Slot.val (D.dat (Ty.int IntKind.i8) (x_1.snd + 1)) = Slot.val (D.dat (Ty.int IntKind.i8) x'.snd)) ∧ ((0 ≤ x'.snd ∧ x'.snd ≤
      q.fst) ∧ InP q.snd.snd.length x'.fst (upTo q (((i : Nat) : Int)) x.snd x'.snd)) ∧ (q.fst - x'.snd).toNat < (q.fst - x_1.snd).toNat))) ((-128 ≤ x_1.snd + 1 ∧ x_1.snd + 1 ≤ 127) ∧ ∃ (x' : List Bool ×
      Int), (Slot.own (Ty.slice 4 Ty.bool) x_1.fst = Slot.own (Ty.slice 4 Ty.bool) x'.fst ∧ Slot.val (D.dat (Ty.int IntKind.i8) (x_1.snd + 1)) = Slot.val (D.dat (Ty.int IntKind.i8) x'.snd)) ∧ ((0 ≤ x'.snd
      ∧ x'.snd ≤ q.fst) ∧ InP q.snd.snd.length x'.fst (upTo q (((i : Nat) : Int)) x.snd x'.snd)) ∧ (q.fst - x'.snd).toNat < (q.fst - x_1.snd).toNat)))) (split (decide (0 < x.snd)) ((-128 ≤ x.snd - 1 ∧
      x.snd - 1 ≤ 127) ∧ (0 ≤ x.snd - 1 ∧ x.snd - 1 < ((12 : Nat) : Int)) ∧ (0 ≤ x_1.snd ∧ x_1.snd < ((12 : Nat) : Int)) ∧ (inR IntKind.i64 ((r.fst.getD (x.snd - 1).toNat (List.replicate 12 0)).getD
      x_1.snd.toNat 0) → (-9223372036854775808 ≤ ((i : Nat) : Int) + 1 ∧ ((i : Nat) : Int) + 1 ≤ 9223372036854775807) ∧ split (decide ((r.fst.getD (x.snd - 1).toNat (List.replicate 12 0)).getD
      x_1.snd.toNat 0 = ((i : Nat) : Int) + 1)) ((0 ≤ x.snd ∧ x.snd < ((12 : Nat) : Int)) ∧ (0 ≤ x_1.snd ∧ x_1.snd < ((12 : Nat) : Int)) ∧ (inR IntKind.i64 ((r.fst.getD x.snd.toNat (List.replicate 12
      0)).getD x_1.snd.toNat 0) → (0 ≤ (r.fst.getD x.snd.toNat (List.replicate 12 0)).getD x_1.snd.toNat 0 ∧ (r.fst.getD x.snd.toNat (List.replicate 12 0)).getD x_1.snd.toNat 0 < ((x_1.fst.length : Nat) :
      Int)) ∧ (-128 ≤ x_1.snd + 1 ∧ x_1.snd + 1 ≤ 127) ∧ ∃ (x' : List Bool × Int), (Slot.own (Ty.slice 4 Ty.bool) (x_1.fst.set ((r.fst.getD x.snd.toNat (List.replicate 12 0)).getD x_1.snd.toNat 0).toNat
      true) = Slot.own (Ty.slice 4 Ty.bool) x'.fst ∧ Slot.val (D.dat (Ty.int IntKind.i8) (x_1.snd + 1)) = Slot.val (D.dat (Ty.int IntKind.i8) x'.snd)) ∧ ((0 ≤ x'.snd ∧ x'.snd ≤ q.fst) ∧ InP
      q.snd.snd.length x'.fst (upTo q (((i : Nat) : Int)) x.snd x'.snd)) ∧ (q.fst - x'.snd).toNat < (q.fst - x_1.snd).toNat)) ((-128 ≤ x_1.snd + 1 ∧ x_1.snd + 1 ≤ 127) ∧ ∃ (x' : List Bool × Int), (Slot.own
      (Ty.slice 4 Ty.bool) x_1.fst = Slot.own (Ty.slice 4 Ty.bool) x'.fst ∧ Slot.val (D.dat (Ty.int IntKind.i8) (x_1.snd + 1)) = Slot.val (D.dat (Ty.int IntKind.i8) x'.snd)) ∧ ((0 ≤ x'.snd ∧ x'.snd ≤
      q.fst) ∧ InP q.snd.snd.length x'.fst (upTo q (((i : Nat) : Int)) x.snd x'.snd)) ∧ (q.fst - x'.snd).toNat < (q.fst - x_1.snd).toNat))) ((-128 ≤ x_1.snd + 1 ∧ x_1.snd + 1 ≤ 127) ∧ ∃ (x' : List Bool ×
      Int), (Slot.own (Ty.slice 4 Ty.bool) x_1.fst = Slot.own (Ty.slice 4 Ty.bool) x'.fst ∧ Slot.val (D.dat (Ty.int IntKind.i8) (x_1.snd + 1)) = Slot.val (D.dat (Ty.int IntKind.i8) x'.snd)) ∧ ((0 ≤ x'.snd
      ∧ x'.snd ≤ q.fst) ∧ InP q.snd.snd.length x'.fst (upTo q (((i : Nat) : Int)) x.snd x'.snd)) ∧ (q.fst - x'.snd).toNat < (q.fst - x_1.snd).toNat))))) (split (decide (0 < x.snd)) ((0 ≤ x.snd ∧ x.snd <
      ((12 : Nat) : Int)) ∧ (0 ≤ x_1.snd ∧ x_1.snd < ((12 : Nat) : Int)) ∧ (inR IntKind.i64 ((r.fst.getD x.snd.toNat (List.replicate 12 0)).getD x_1.snd.toNat 0) → (-9223372036854775808 ≤ ((i : Nat) : Int)
      + 1 ∧ ((i : Nat) : Int) + 1 ≤ 9223372036854775807) ∧ split (decide ((r.fst.getD x.snd.toNat (List.replicate 12 0)).getD x_1.snd.toNat 0 = ((i : Nat) : Int) + 1)) ((-128 ≤ x.snd - 1 ∧ x.snd - 1 ≤ 127)
      ∧ (0 ≤ x.snd - 1 ∧ x.snd - 1 < ((12 : Nat) : Int)) ∧ (0 ≤ x_1.snd ∧ x_1.snd < ((12 : Nat) : Int)) ∧ (inR IntKind.i64 ((r.fst.getD (x.snd - 1).toNat (List.replicate 12 0)).getD x_1.snd.toNat 0) → (0 ≤
      (r.fst.getD (x.snd - 1).toNat (List.replicate 12 0)).getD x_1.snd.toNat 0 ∧ (r.fst.getD (x.snd - 1).toNat (List.replicate 12 0)).getD x_1.snd.toNat 0 < ((x_1.fst.length : Nat) : Int)) ∧ split (decide
      (0 < x.snd)) ((-128 ≤ x.snd - 1 ∧ x.snd - 1 ≤ 127) ∧ (0 ≤ x.snd - 1 ∧ x.snd - 1 < ((12 : Nat) : Int)) ∧ (0 ≤ x_1.snd ∧ x_1.snd < ((12 : Nat) : Int)) ∧ (inR IntKind.i64 ((r.fst.getD (x.snd - 1).toNat
      (List.replicate 12 0)).getD x_1.snd.toNat 0) → (-9223372036854775808 ≤ ((i : Nat) : Int) + 1 ∧ ((i : Nat) : Int) + 1 ≤ 9223372036854775807) ∧ split (decide ((r.fst.getD (x.snd - 1).toNat
      (List.replicate 12 0)).getD x_1.snd.toNat 0 = ((i : Nat) : Int) + 1)) ((0 ≤ x.snd ∧ x.snd < ((12 : Nat) : Int)) ∧ (0 ≤ x_1.snd ∧ x_1.snd < ((12 : Nat) : Int)) ∧ (inR IntKind.i64 ((r.fst.getD
      x.snd.toNat (List.replicate 12 0)).getD x_1.snd.toNat 0) → (0 ≤ (r.fst.getD x.snd.toNat (List.replicate 12 0)).getD x_1.snd.toNat 0 ∧ (r.fst.getD x.snd.toNat (List.replicate 12 0)).getD x_1.snd.toNat
      0 < (((x_1.fst.set ((r.fst.getD (x.snd - 1).toNat (List.replicate 12 0)).getD x_1.snd.toNat 0).toNat true).length : Nat) : Int)) ∧ (-128 ≤ x_1.snd + 1 ∧ x_1.snd + 1 ≤ 127) ∧ ∃ (x' : List Bool × Int),
      (Slot.own (Ty.slice 4 Ty.bool) ((x_1.fst.set ((r.fst.getD (x.snd - 1).toNat (List.replicate 12 0)).getD x_1.snd.toNat 0).toNat true).set ((r.fst.getD x.snd.toNat (List.replicate 12 0)).getD
      x_1.snd.toNat 0).toNat true) = Slot.own (Ty.slice 4 Ty.bool) x'.fst ∧ Slot.val (D.dat (Ty.int IntKind.i8) (x_1.snd + 1)) = Slot.val (D.dat (Ty.int IntKind.i8) x'.snd)) ∧ ((0 ≤ x'.snd ∧ x'.snd ≤
      q.fst) ∧ InP q.snd.snd.length x'.fst (upTo q (((i : Nat) : Int)) x.snd x'.snd)) ∧ (q.fst - x'.snd).toNat < (q.fst - x_1.snd).toNat)) ((-128 ≤ x_1.snd + 1 ∧ x_1.snd + 1 ≤ 127) ∧ ∃ (x' : List Bool ×
      Int), (Slot.own (Ty.slice 4 Ty.bool) (x_1.fst.set ((r.fst.getD (x.snd - 1).toNat (List.replicate 12 0)).getD x_1.snd.toNat 0).toNat true) = Slot.own (Ty.slice 4 Ty.bool) x'.fst ∧ Slot.val (D.dat
      (Ty.int IntKind.i8) (x_1.snd + 1)) = Slot.val (D.dat (Ty.int IntKind.i8) x'.snd)) ∧ ((0 ≤ x'.snd ∧ x'.snd ≤ q.fst) ∧ InP q.snd.snd.length x'.fst (upTo q (((i : Nat) : Int)) x.snd x'.snd)) ∧ (q.fst -
      x'.snd).toNat < (q.fst - x_1.snd).toNat))) ((-128 ≤ x_1.snd + 1 ∧ x_1.snd + 1 ≤ 127) ∧ ∃ (x' : List Bool × Int), (Slot.own (Ty.slice 4 Ty.bool) (x_1.fst.set ((r.fst.getD (x.snd - 1).toNat
      (List.replicate 12 0)).getD x_1.snd.toNat 0).toNat true) = Slot.own (Ty.slice 4 Ty.bool) x'.fst ∧ Slot.val (D.dat (Ty.int IntKind.i8) (x_1.snd + 1)) = Slot.val (D.dat (Ty.int IntKind.i8) x'.snd)) ∧
      ((0 ≤ x'.snd ∧ x'.snd ≤ q.fst) ∧ InP q.snd.snd.length x'.fst (upTo q (((i : Nat) : Int)) x.snd x'.snd)) ∧ (q.fst - x'.snd).toNat < (q.fst - x_1.snd).toNat))) (split (decide (0 < x.snd)) ((-128 ≤
      x.snd - 1 ∧ x.snd - 1 ≤ 127) ∧ (0 ≤ x.snd - 1 ∧ x.snd - 1 < ((12 : Nat) : Int)) ∧ (0 ≤ x_1.snd ∧ x_1.snd < ((12 : Nat) : Int)) ∧ (inR IntKind.i64 ((r.fst.getD (x.snd - 1).toNat (List.replicate 12
      0)).getD x_1.snd.toNat 0) → (-9223372036854775808 ≤ ((i : Nat) : Int) + 1 ∧ ((i : Nat) : Int) + 1 ≤ 9223372036854775807) ∧ split (decide ((r.fst.getD (x.snd - 1).toNat (List.replicate 12 0)).getD
      x_1.snd.toNat 0 = ((i : Nat) : Int) + 1)) ((0 ≤ x.snd ∧ x.snd < ((12 : Nat) : Int)) ∧ (0 ≤ x_1.snd ∧ x_1.snd < ((12 : Nat) : Int)) ∧ (inR IntKind.i64 ((r.fst.getD x.snd.toNat (List.replicate 12
      0)).getD x_1.snd.toNat 0) → (0 ≤ (r.fst.getD x.snd.toNat (List.replicate 12 0)).getD x_1.snd.toNat 0 ∧ (r.fst.getD x.snd.toNat (List.replicate 12 0)).getD x_1.snd.toNat 0 < ((x_1.fst.length : Nat) :
      Int)) ∧ (-128 ≤ x_1.snd + 1 ∧ x_1.snd + 1 ≤ 127) ∧ ∃ (x' : List Bool × Int), (Slot.own (Ty.slice 4 Ty.bool) (x_1.fst.set ((r.fst.getD x.snd.toNat (List.replicate 12 0)).getD x_1.snd.toNat 0).toNat
      true) = Slot.own (Ty.slice 4 Ty.bool) x'.fst ∧ Slot.val (D.dat (Ty.int IntKind.i8) (x_1.snd + 1)) = Slot.val (D.dat (Ty.int IntKind.i8) x'.snd)) ∧ ((0 ≤ x'.snd ∧ x'.snd ≤ q.fst) ∧ InP
      q.snd.snd.length x'.fst (upTo q (((i : Nat) : Int)) x.snd x'.snd)) ∧ (q.fst - x'.snd).toNat < (q.fst - x_1.snd).toNat)) ((-128 ≤ x_1.snd + 1 ∧ x_1.snd + 1 ≤ 127) ∧ ∃ (x' : List Bool × Int), (Slot.own
      (Ty.slice 4 Ty.bool) x_1.fst = Slot.own (Ty.slice 4 Ty.bool) x'.fst ∧ Slot.val (D.dat (Ty.int IntKind.i8) (x_1.snd + 1)) = Slot.val (D.dat (Ty.int IntKind.i8) x'.snd)) ∧ ((0 ≤ x'.snd ∧ x'.snd ≤
      q.fst) ∧ InP q.snd.snd.length x'.fst (upTo q (((i : Nat) : Int)) x.snd x'.snd)) ∧ (q.fst - x'.snd).toNat < (q.fst - x_1.snd).toNat))) ((-128 ≤ x_1.snd + 1 ∧ x_1.snd + 1 ≤ 127) ∧ ∃ (x' : List Bool ×
      Int), (Slot.own (Ty.slice 4 Ty.bool) x_1.fst = Slot.own (Ty.slice 4 Ty.bool) x'.fst ∧ Slot.val (D.dat (Ty.int IntKind.i8) (x_1.snd + 1)) = Slot.val (D.dat (Ty.int IntKind.i8) x'.snd)) ∧ ((0 ≤ x'.snd
      ∧ x'.snd ≤ q.fst) ∧ InP q.snd.snd.length x'.fst (upTo q (((i : Nat) : Int)) x.snd x'.snd)) ∧ (q.fst - x'.snd).toNat < (q.fst - x_1.snd).toNat)))) (split (decide (0 < x.snd)) ((-128 ≤ x.snd - 1 ∧
      x.snd - 1 ≤ 127) ∧ (0 ≤ x.snd - 1 ∧ x.snd - 1 < ((12 : Nat) : Int)) ∧ (0 ≤ x_1.snd ∧ x_1.snd < ((12 : Nat) : Int)) ∧ (inR IntKind.i64 ((r.fst.getD (x.snd - 1).toNat (List.replicate 12 0)).getD
      x_1.snd.toNat 0) → (-9223372036854775808 ≤ ((i : Nat) : Int) + 1 ∧ ((i : Nat) : Int) + 1 ≤ 9223372036854775807) ∧ split (decide ((r.fst.getD (x.snd - 1).toNat (List.replicate 12 0)).getD
      x_1.snd.toNat 0 = ((i : Nat) : Int) + 1)) ((0 ≤ x.snd ∧ x.snd < ((12 : Nat) : Int)) ∧ (0 ≤ x_1.snd ∧ x_1.snd < ((12 : Nat) : Int)) ∧ (inR IntKind.i64 ((r.fst.getD x.snd.toNat (List.replicate 12
      0)).getD x_1.snd.toNat 0) → (0 ≤ (r.fst.getD x.snd.toNat (List.replicate 12 0)).getD x_1.snd.toNat 0 ∧ (r.fst.getD x.snd.toNat (List.replicate 12 0)).getD x_1.snd.toNat 0 < ((x_1.fst.length : Nat) :
      Int)) ∧ (-128 ≤ x_1.snd + 1 ∧ x_1.snd + 1 ≤ 127) ∧ ∃ (x' : List Bool × Int), (Slot.own (Ty.slice 4 Ty.bool) (x_1.fst.set ((r.fst.getD x.snd.toNat (List.replicate 12 0)).getD x_1.snd.toNat 0).toNat
      true) = Slot.own (Ty.slice 4 Ty.bool) x'.fst ∧ Slot.val (D.dat (Ty.int IntKind.i8) (x_1.snd + 1)) = Slot.val (D.dat (Ty.int IntKind.i8) x'.snd)) ∧ ((0 ≤ x'.snd ∧ x'.snd ≤ q.fst) ∧ InP
      q.snd.snd.length x'.fst (upTo q (((i : Nat) : Int)) x.snd x'.snd)) ∧ (q.fst - x'.snd).toNat < (q.fst - x_1.snd).toNat)) ((-128 ≤ x_1.snd + 1 ∧ x_1.snd + 1 ≤ 127) ∧ ∃ (x' : List Bool × Int), (Slot.own
      (Ty.slice 4 Ty.bool) x_1.fst = Slot.own (Ty.slice 4 Ty.bool) x'.fst ∧ Slot.val (D.dat (Ty.int IntKind.i8) (x_1.snd + 1)) = Slot.val (D.dat (Ty.int IntKind.i8) x'.snd)) ∧ ((0 ≤ x'.snd ∧ x'.snd ≤
      q.fst) ∧ InP q.snd.snd.length x'.fst (upTo q (((i : Nat) : Int)) x.snd x'.snd)) ∧ (q.fst - x'.snd).toNat < (q.fst - x_1.snd).toNat))) ((-128 ≤ x_1.snd + 1 ∧ x_1.snd + 1 ≤ 127) ∧ ∃ (x' : List Bool ×
      Int), (Slot.own (Ty.slice 4 Ty.bool) x_1.fst = Slot.own (Ty.slice 4 Ty.bool) x'.fst ∧ Slot.val (D.dat (Ty.int IntKind.i8) (x_1.snd + 1)) = Slot.val (D.dat (Ty.int IntKind.i8) x'.snd)) ∧ ((0 ≤ x'.snd
      ∧ x'.snd ≤ q.fst) ∧ InP q.snd.snd.length x'.fst (upTo q (((i : Nat) : Int)) x.snd x'.snd)) ∧ (q.fst - x'.snd).toNat < (q.fst - x_1.snd).toNat)))))) (split (decide (0 < x_1.snd)) ((-128 ≤ x_1.snd - 1
      ∧ x_1.snd - 1 ≤ 127) ∧ (0 ≤ x.snd ∧ x.snd < ((12 : Nat) : Int)) ∧ (0 ≤ x_1.snd - 1 ∧ x_1.snd - 1 < ((12 : Nat) : Int)) ∧ (inR IntKind.i64 ((r.fst.getD x.snd.toNat (List.replicate 12 0)).getD (x_1.snd
      - 1).toNat 0) → (-9223372036854775808 ≤ ((i : Nat) : Int) + 1 ∧ ((i : Nat) : Int) + 1 ≤ 9223372036854775807) ∧ split (decide ((r.fst.getD x.snd.toNat (List.replicate 12 0)).getD (x_1.snd - 1).toNat 0
      = ((i : Nat) : Int) + 1)) ((0 ≤ x.snd ∧ x.snd < ((12 : Nat) : Int)) ∧ (0 ≤ x_1.snd ∧ x_1.snd < ((12 : Nat) : Int)) ∧ (inR IntKind.i64 ((r.fst.getD x.snd.toNat (List.replicate 12 0)).getD
      x_1.snd.toNat 0) → (0 ≤ (r.fst.getD x.snd.toNat (List.replicate 12 0)).getD x_1.snd.toNat 0 ∧ (r.fst.getD x.snd.toNat (List.replicate 12 0)).getD x_1.snd.toNat 0 < ((x_1.fst.length : Nat) : Int)) ∧
      split (decide (0 < x.snd)) ((0 ≤ x.snd ∧ x.snd < ((12 : Nat) : Int)) ∧ (0 ≤ x_1.snd ∧ x_1.snd < ((12 : Nat) : Int)) ∧ (inR IntKind.i64 ((r.fst.getD x.snd.toNat (List.replicate 12 0)).getD
      x_1.snd.toNat 0) → (-9223372036854775808 ≤ ((i : Nat) : Int) + 1 ∧ ((i : Nat) : Int) + 1 ≤ 9223372036854775807) ∧ split (decide ((r.fst.getD x.snd.toNat (List.replicate 12 0)).getD x_1.snd.toNat 0 =
      ((i : Nat) : Int) + 1)) ((-128 ≤ x.snd - 1 ∧ x.snd - 1 ≤ 127) ∧ (0 ≤ x.snd - 1 ∧ x.snd - 1 < ((12 : Nat) : Int)) ∧ (0 ≤ x_1.snd ∧ x_1.snd < ((12 : Nat) : Int)) ∧ (inR IntKind.i64 ((r.fst.getD (x.snd
      - 1).toNat (List.replicate 12 0)).getD x_1.snd.toNat 0) → (0 ≤ (r.fst.getD (x.snd - 1).toNat (List.replicate 12 0)).getD x_1.snd.toNat 0 ∧ (r.fst.getD (x.snd - 1).toNat (List.replicate 12 0)).getD
      x_1.snd.toNat 0 < (((x_1.fst.set ((r.fst.getD x.snd.toNat (List.replicate 12 0)).getD x_1.snd.toNat 0).toNat true).length : Nat) : Int)) ∧ split (decide (0 < x.snd)) ((-128 ≤ x.snd - 1 ∧ x.snd - 1 ≤
      127) ∧ (0 ≤ x.snd - 1 ∧ x.snd - 1 < ((12 : Nat) : Int)) ∧ (0 ≤ x_1.snd ∧ x_1.snd < ((12 : Nat) : Int)) ∧ (inR IntKind.i64 ((r.fst.getD (x.snd - 1).toNat (List.replicate 12 0)).getD x_1.snd.toNat 0) →
      (-9223372036854775808 ≤ ((i : Nat) : Int) + 1 ∧ ((i : Nat) : Int) + 1 ≤ 9223372036854775807) ∧ split (decide ((r.fst.getD (x.snd - 1).toNat (List.replicate 12 0)).getD x_1.snd.toNat 0 = ((i : Nat) :
      Int) + 1)) ((0 ≤ x.snd ∧ x.snd < ((12 : Nat) : Int)) ∧ (0 ≤ x_1.snd ∧ x_1.snd < ((12 : Nat) : Int)) ∧ (inR IntKind.i64 ((r.fst.getD x.snd.toNat (List.replicate 12 0)).getD x_1.snd.toNat 0) → (0 ≤
      (r.fst.getD x.snd.toNat (List.replicate 12 0)).getD x_1.snd.toNat 0 ∧ (r.fst.getD x.snd.toNat (List.replicate 12 0)).getD x_1.snd.toNat 0 < ((((x_1.fst.set ((r.fst.getD x.snd.toNat (List.replicate 12
      0)).getD x_1.snd.toNat 0).toNat true).set ((r.fst.getD (x.snd - 1).toNat (List.replicate 12 0)).getD x_1.snd.toNat 0).toNat true).length : Nat) : Int)) ∧ (-128 ≤ x_1.snd + 1 ∧ x_1.snd + 1 ≤ 127) ∧ ∃
      (x' : List Bool × Int), (Slot.own (Ty.slice 4 Ty.bool) (((x_1.fst.set ((r.fst.getD x.snd.toNat (List.replicate 12 0)).getD x_1.snd.toNat 0).toNat true).set ((r.fst.getD (x.snd - 1).toNat
      (List.replicate 12 0)).getD x_1.snd.toNat 0).toNat true).set ((r.fst.getD x.snd.toNat (List.replicate 12 0)).getD x_1.snd.toNat 0).toNat true) = Slot.own (Ty.slice 4 Ty.bool) x'.fst ∧ Slot.val (D.dat
      (Ty.int IntKind.i8) (x_1.snd + 1)) = Slot.val (D.dat (Ty.int IntKind.i8) x'.snd)) ∧ ((0 ≤ x'.snd ∧ x'.snd ≤ q.fst) ∧ InP q.snd.snd.length x'.fst (upTo q (((i : Nat) : Int)) x.snd x'.snd)) ∧ (q.fst -
      x'.snd).toNat < (q.fst - x_1.snd).toNat)) ((-128 ≤ x_1.snd + 1 ∧ x_1.snd + 1 ≤ 127) ∧ ∃ (x' : List Bool × Int), (Slot.own (Ty.slice 4 Ty.bool) ((x_1.fst.set ((r.fst.getD x.snd.toNat (List.replicate
      12 0)).getD x_1.snd.toNat 0).toNat true).set ((r.fst.getD (x.snd - 1).toNat (List.replicate 12 0)).getD x_1.snd.toNat 0).toNat true) = Slot.own (Ty.slice 4 Ty.bool) x'.fst ∧ Slot.val (D.dat (Ty.int
      IntKind.i8) (x_1.snd + 1)) = Slot.val (D.dat (Ty.int IntKind.i8) x'.snd)) ∧ ((0 ≤ x'.snd ∧ x'.snd ≤ q.fst) ∧ InP q.snd.snd.length x'.fst (upTo q (((i : Nat) : Int)) x.snd x'.snd)) ∧ (q.fst -
      x'.snd).toNat < (q.fst - x_1.snd).toNat))) ((-128 ≤ x_1.snd + 1 ∧ x_1.snd + 1 ≤ 127) ∧ ∃ (x' : List Bool × Int), (Slot.own (Ty.slice 4 Ty.bool) ((x_1.fst.set ((r.fst.getD x.snd.toNat (List.replicate
      12 0)).getD x_1.snd.toNat 0).toNat true).set ((r.fst.getD (x.snd - 1).toNat (List.replicate 12 0)).getD x_1.snd.toNat 0).toNat true) = Slot.own (Ty.slice 4 Ty.bool) x'.fst ∧ Slot.val (D.dat (Ty.int
      IntKind.i8) (x_1.snd + 1)) = Slot.val (D.dat (Ty.int IntKind.i8) x'.snd)) ∧ ((0 ≤ x'.snd ∧ x'.snd ≤ q.fst) ∧ InP q.snd.snd.length x'.fst (upTo q (((i : Nat) : Int)) x.snd x'.snd)) ∧ (q.fst -
      x'.snd).toNat < (q.fst - x_1.snd).toNat))) (split (decide (0 < x.snd)) ((-128 ≤ x.snd - 1 ∧ x.snd - 1 ≤ 127) ∧ (0 ≤ x.snd - 1 ∧ x.snd - 1 < ((12 : Nat) : Int)) ∧ (0 ≤ x_1.snd ∧ x_1.snd < ((12 : Nat)
      : Int)) ∧ (inR IntKind.i64 ((r.fst.getD (x.snd - 1).toNat (List.replicate 12 0)).getD x_1.snd.toNat 0) → (-9223372036854775808 ≤ ((i : Nat) : Int) + 1 ∧ ((i : Nat) : Int) + 1 ≤ 9223372036854775807) ∧
      split (decide ((r.fst.getD (x.snd - 1).toNat (List.replicate 12 0)).getD x_1.snd.toNat 0 = ((i : Nat) : Int) + 1)) ((0 ≤ x.snd ∧ x.snd < ((12 : Nat) : Int)) ∧ (0 ≤ x_1.snd ∧ x_1.snd < ((12 : Nat) :
      Int)) ∧ (inR IntKind.i64 ((r.fst.getD x.snd.toNat (List.replicate 12 0)).getD x_1.snd.toNat 0) → (0 ≤ (r.fst.getD x.snd.toNat (List.replicate 12 0)).getD x_1.snd.toNat 0 ∧ (r.fst.getD x.snd.toNat
      (List.replicate 12 0)).getD x_1.snd.toNat 0 < (((x_1.fst.set ((r.fst.getD x.snd.toNat (List.replicate 12 0)).getD x_1.snd.toNat 0).toNat true).length : Nat) : Int)) ∧ (-128 ≤ x_1.snd + 1 ∧ x_1.snd +
      1 ≤ 127) ∧ ∃ (x' : List Bool × Int), (Slot.own (Ty.slice 4 Ty.bool) ((x_1.fst.set ((r.fst.getD x.snd.toNat (List.replicate 12 0)).getD x_1.snd.toNat 0).toNat true).set ((r.fst.getD x.snd.toNat
      (List.replicate 12 0)).getD x_1.snd.toNat 0).toNat true) = Slot.own (Ty.slice 4 Ty.bool) x'.fst ∧ Slot.val (D.dat (Ty.int IntKind.i8) (x_1.snd + 1)) = Slot.val (D.dat (Ty.int IntKind.i8) x'.snd)) ∧
      ((0 ≤ x'.snd ∧ x'.snd ≤ q.fst) ∧ InP q.snd.snd.length x'.fst (upTo q (((i : Nat) : Int)) x.snd x'.snd)) ∧ (q.fst - x'.snd).toNat < (q.fst - x_1.snd).toNat)) ((-128 ≤ x_1.snd + 1 ∧ x_1.snd + 1 ≤ 127)
      ∧ ∃ (x' : List Bool × Int), (Slot.own (Ty.slice 4 Ty.bool) (x_1.fst.set ((r.fst.getD x.snd.toNat (List.replicate 12 0)).getD x_1.snd.toNat 0).toNat true) = Slot.own (Ty.slice 4 Ty.bool) x'.fst ∧
      Slot.val (D.dat (Ty.int IntKind.i8) (x_1.snd + 1)) = Slot.val (D.dat (Ty.int IntKind.i8) x'.snd)) ∧ ((0 ≤ x'.snd ∧ x'.snd ≤ q.fst) ∧ InP q.snd.snd.length x'.fst (upTo q (((i : Nat) : Int)) x.snd
      x'.snd)) ∧ (q.fst - x'.snd).toNat < (q.fst - x_1.snd).toNat))) ((-128 ≤ x_1.snd + 1 ∧ x_1.snd + 1 ≤ 127) ∧ ∃ (x' : List Bool × Int), (Slot.own (Ty.slice 4 Ty.bool) (x_1.fst.set ((r.fst.getD
      x.snd.toNat (List.replicate 12 0)).getD x_1.snd.toNat 0).toNat true) = Slot.own (Ty.slice 4 Ty.bool) x'.fst ∧ Slot.val (D.dat (Ty.int IntKind.i8) (x_1.snd + 1)) = Slot.val (D.dat (Ty.int IntKind.i8)
      x'.snd)) ∧ ((0 ≤ x'.snd ∧ x'.snd ≤ q.fst) ∧ InP q.snd.snd.length x'.fst (upTo q (((i : Nat) : Int)) x.snd x'.snd)) ∧ (q.fst - x'.snd).toNat < (q.fst - x_1.snd).toNat)))) (split (decide (0 < x.snd))
      ((-128 ≤ x.snd - 1 ∧ x.snd - 1 ≤ 127) ∧ (0 ≤ x.snd - 1 ∧ x.snd - 1 < ((12 : Nat) : Int)) ∧ (0 ≤ x_1.snd ∧ x_1.snd < ((12 : Nat) : Int)) ∧ (inR IntKind.i64 ((r.fst.getD (x.snd - 1).toNat
      (List.replicate 12 0)).getD x_1.snd.toNat 0) → (-9223372036854775808 ≤ ((i : Nat) : Int) + 1 ∧ ((i : Nat) : Int) + 1 ≤ 9223372036854775807) ∧ split (decide ((r.fst.getD (x.snd - 1).toNat
      (List.replicate 12 0)).getD x_1.snd.toNat 0 = ((i : Nat) : Int) + 1)) ((0 ≤ x.snd ∧ x.snd < ((12 : Nat) : Int)) ∧ (0 ≤ x_1.snd ∧ x_1.snd < ((12 : Nat) : Int)) ∧ (inR IntKind.i64 ((r.fst.getD
      x.snd.toNat (List.replicate 12 0)).getD x_1.snd.toNat 0) → (0 ≤ (r.fst.getD x.snd.toNat (List.replicate 12 0)).getD x_1.snd.toNat 0 ∧ (r.fst.getD x.snd.toNat (List.replicate 12 0)).getD x_1.snd.toNat
      0 < (((x_1.fst.set ((r.fst.getD x.snd.toNat (List.replicate 12 0)).getD x_1.snd.toNat 0).toNat true).length : Nat) : Int)) ∧ (-128 ≤ x_1.snd + 1 ∧ x_1.snd + 1 ≤ 127) ∧ ∃ (x' : List Bool × Int),
      (Slot.own (Ty.slice 4 Ty.bool) ((x_1.fst.set ((r.fst.getD x.snd.toNat (List.replicate 12 0)).getD x_1.snd.toNat 0).toNat true).set ((r.fst.getD x.snd.toNat (List.replicate 12 0)).getD x_1.snd.toNat
      0).toNat true) = Slot.own (Ty.slice 4 Ty.bool) x'.fst ∧ Slot.val (D.dat (Ty.int IntKind.i8) (x_1.snd + 1)) = Slot.val (D.dat (Ty.int IntKind.i8) x'.snd)) ∧ ((0 ≤ x'.snd ∧ x'.snd ≤ q.fst) ∧ InP
      q.snd.snd.length x'.fst (upTo q (((i : Nat) : Int)) x.snd x'.snd)) ∧ (q.fst - x'.snd).toNat < (q.fst - x_1.snd).toNat)) ((-128 ≤ x_1.snd + 1 ∧ x_1.snd + 1 ≤ 127) ∧ ∃ (x' : List Bool × Int), (Slot.own
      (Ty.slice 4 Ty.bool) (x_1.fst.set ((r.fst.getD x.snd.toNat (List.replicate 12 0)).getD x_1.snd.toNat 0).toNat true) = Slot.own (Ty.slice 4 Ty.bool) x'.fst ∧ Slot.val (D.dat (Ty.int IntKind.i8)
      (x_1.snd + 1)) = Slot.val (D.dat (Ty.int IntKind.i8) x'.snd)) ∧ ((0 ≤ x'.snd ∧ x'.snd ≤ q.fst) ∧ InP q.snd.snd.length x'.fst (upTo q (((i : Nat) : Int)) x.snd x'.snd)) ∧ (q.fst - x'.snd).toNat <
      (q.fst - x_1.snd).toNat))) ((-128 ≤ x_1.snd + 1 ∧ x_1.snd + 1 ≤ 127) ∧ ∃ (x' : List Bool × Int), (Slot.own (Ty.slice 4 Ty.bool) (x_1.fst.set ((r.fst.getD x.snd.toNat (List.replicate 12 0)).getD
      x_1.snd.toNat 0).toNat true) = Slot.own (Ty.slice 4 Ty.bool) x'.fst ∧ Slot.val (D.dat (Ty.int IntKind.i8) (x_1.snd + 1)) = Slot.val (D.dat (Ty.int IntKind.i8) x'.snd)) ∧ ((0 ≤ x'.snd ∧ x'.snd ≤
      q.fst) ∧ InP q.snd.snd.length x'.fst (upTo q (((i : Nat) : Int)) x.snd x'.snd)) ∧ (q.fst - x'.snd).toNat < (q.fst - x_1.snd).toNat)))) (split (decide (0 < x.snd)) ((0 ≤ x.snd ∧ x.snd < ((12 : Nat) :
      Int)) ∧ (0 ≤ x_1.snd ∧ x_1.snd < ((12 : Nat) : Int)) ∧ (inR IntKind.i64 ((r.fst.getD x.snd.toNat (List.replicate 12 0)).getD x_1.snd.toNat 0) → (-9223372036854775808 ≤ ((i : Nat) : Int) + 1 ∧ ((i :
      Nat) : Int) + 1 ≤ 9223372036854775807) ∧ split (decide ((r.fst.getD x.snd.toNat (List.replicate 12 0)).getD x_1.snd.toNat 0 = ((i : Nat) : Int) + 1)) ((-128 ≤ x.snd - 1 ∧ x.snd - 1 ≤ 127) ∧ (0 ≤
      x.snd - 1 ∧ x.snd - 1 < ((12 : Nat) : Int)) ∧ (0 ≤ x_1.snd ∧ x_1.snd < ((12 : Nat) : Int)) ∧ (inR IntKind.i64 ((r.fst.getD (x.snd - 1).toNat (List.replicate 12 0)).getD x_1.snd.toNat 0) → (0 ≤
      (r.fst.getD (x.snd - 1).toNat (List.replicate 12 0)).getD x_1.snd.toNat 0 ∧ (r.fst.getD (x.snd - 1).toNat (List.replicate 12 0)).getD x_1.snd.toNat 0 < ((x_1.fst.length : Nat) : Int)) ∧ split (decide
      (0 < x.snd)) ((-128 ≤ x.snd - 1 ∧ x.snd - 1 ≤ 127) ∧ (0 ≤ x.snd - 1 ∧ x.snd - 1 < ((12 : Nat) : Int)) ∧ (0 ≤ x_1.snd ∧ x_1.snd < ((12 : Nat) : Int)) ∧ (inR IntKind.i64 ((r.fst.getD (x.snd - 1).toNat
      (List.replicate 12 0)).getD x_1.snd.toNat 0) → (-9223372036854775808 ≤ ((i : Nat) : Int) + 1 ∧ ((i : Nat) : Int) + 1 ≤ 9223372036854775807) ∧ split (decide ((r.fst.getD (x.snd - 1).toNat
      (List.replicate 12 0)).getD x_1.snd.toNat 0 = ((i : Nat) : Int) + 1)) ((0 ≤ x.snd ∧ x.snd < ((12 : Nat) : Int)) ∧ (0 ≤ x_1.snd ∧ x_1.snd < ((12 : Nat) : Int)) ∧ (inR IntKind.i64 ((r.fst.getD
      x.snd.toNat (List.replicate 12 0)).getD x_1.snd.toNat 0) → (0 ≤ (r.fst.getD x.snd.toNat (List.replicate 12 0)).getD x_1.snd.toNat 0 ∧ (r.fst.getD x.snd.toNat (List.replicate 12 0)).getD x_1.snd.toNat
      0 < (((x_1.fst.set ((r.fst.getD (x.snd - 1).toNat (List.replicate 12 0)).getD x_1.snd.toNat 0).toNat true).length : Nat) : Int)) ∧ (-128 ≤ x_1.snd + 1 ∧ x_1.snd + 1 ≤ 127) ∧ ∃ (x' : List Bool × Int),
      (Slot.own (Ty.slice 4 Ty.bool) ((x_1.fst.set ((r.fst.getD (x.snd - 1).toNat (List.replicate 12 0)).getD x_1.snd.toNat 0).toNat true).set ((r.fst.getD x.snd.toNat (List.replicate 12 0)).getD
      x_1.snd.toNat 0).toNat true) = Slot.own (Ty.slice 4 Ty.bool) x'.fst ∧ Slot.val (D.dat (Ty.int IntKind.i8) (x_1.snd + 1)) = Slot.val (D.dat (Ty.int IntKind.i8) x'.snd)) ∧ ((0 ≤ x'.snd ∧ x'.snd ≤
      q.fst) ∧ InP q.snd.snd.length x'.fst (upTo q (((i : Nat) : Int)) x.snd x'.snd)) ∧ (q.fst - x'.snd).toNat < (q.fst - x_1.snd).toNat)) ((-128 ≤ x_1.snd + 1 ∧ x_1.snd + 1 ≤ 127) ∧ ∃ (x' : List Bool ×
      Int), (Slot.own (Ty.slice 4 Ty.bool) (x_1.fst.set ((r.fst.getD (x.snd - 1).toNat (List.replicate 12 0)).getD x_1.snd.toNat 0).toNat true) = Slot.own (Ty.slice 4 Ty.bool) x'.fst ∧ Slot.val (D.dat
      (Ty.int IntKind.i8) (x_1.snd + 1)) = Slot.val (D.dat (Ty.int IntKind.i8) x'.snd)) ∧ ((0 ≤ x'.snd ∧ x'.snd ≤ q.fst) ∧ InP q.snd.snd.length x'.fst (upTo q (((i : Nat) : Int)) x.snd x'.snd)) ∧ (q.fst -
      x'.snd).toNat < (q.fst - x_1.snd).toNat))) ((-128 ≤ x_1.snd + 1 ∧ x_1.snd + 1 ≤ 127) ∧ ∃ (x' : List Bool × Int), (Slot.own (Ty.slice 4 Ty.bool) (x_1.fst.set ((r.fst.getD (x.snd - 1).toNat
      (List.replicate 12 0)).getD x_1.snd.toNat 0).toNat true) = Slot.own (Ty.slice 4 Ty.bool) x'.fst ∧ Slot.val (D.dat (Ty.int IntKind.i8) (x_1.snd + 1)) = Slot.val (D.dat (Ty.int IntKind.i8) x'.snd)) ∧
      ((0 ≤ x'.snd ∧ x'.snd ≤ q.fst) ∧ InP q.snd.snd.length x'.fst (upTo q (((i : Nat) : Int)) x.snd x'.snd)) ∧ (q.fst - x'.snd).toNat < (q.fst - x_1.snd).toNat))) (split (decide (0 < x.snd)) ((-128 ≤
      x.snd - 1 ∧ x.snd - 1 ≤ 127) ∧ (0 ≤ x.snd - 1 ∧ x.snd - 1 < ((12 : Nat) : Int)) ∧ (0 ≤ x_1.snd ∧ x_1.snd < ((12 : Nat) : Int)) ∧ (inR IntKind.i64 ((r.fst.getD (x.snd - 1).toNat (List.replicate 12
      0)).getD x_1.snd.toNat 0) → (-9223372036854775808 ≤ ((i : Nat) : Int) + 1 ∧ ((i : Nat) : Int) + 1 ≤ 9223372036854775807) ∧ split (decide ((r.fst.getD (x.snd - 1).toNat (List.replicate 12 0)).getD
      x_1.snd.toNat 0 = ((i : Nat) : Int) + 1)) ((0 ≤ x.snd ∧ x.snd < ((12 : Nat) : Int)) ∧ (0 ≤ x_1.snd ∧ x_1.snd < ((12 : Nat) : Int)) ∧ (inR IntKind.i64 ((r.fst.getD x.snd.toNat (List.replicate 12
      0)).getD x_1.snd.toNat 0) → (0 ≤ (r.fst.getD x.snd.toNat (List.replicate 12 0)).getD x_1.snd.toNat 0 ∧ (r.fst.getD x.snd.toNat (List.replicate 12 0)).getD x_1.snd.toNat 0 < ((x_1.fst.length : Nat) :
      Int)) ∧ (-128 ≤ x_1.snd + 1 ∧ x_1.snd + 1 ≤ 127) ∧ ∃ (x' : List Bool × Int), (Slot.own (Ty.slice 4 Ty.bool) (x_1.fst.set ((r.fst.getD x.snd.toNat (List.replicate 12 0)).getD x_1.snd.toNat 0).toNat
      true) = Slot.own (Ty.slice 4 Ty.bool) x'.fst ∧ Slot.val (D.dat (Ty.int IntKind.i8) (x_1.snd + 1)) = Slot.val (D.dat (Ty.int IntKind.i8) x'.snd)) ∧ ((0 ≤ x'.snd ∧ x'.snd ≤ q.fst) ∧ InP
      q.snd.snd.length x'.fst (upTo q (((i : Nat) : Int)) x.snd x'.snd)) ∧ (q.fst - x'.snd).toNat < (q.fst - x_1.snd).toNat)) ((-128 ≤ x_1.snd + 1 ∧ x_1.snd + 1 ≤ 127) ∧ ∃ (x' : List Bool × Int), (Slot.own
      (Ty.slice 4 Ty.bool) x_1.fst = Slot.own (Ty.slice 4 Ty.bool) x'.fst ∧ Slot.val (D.dat (Ty.int IntKind.i8) (x_1.snd + 1)) = Slot.val (D.dat (Ty.int IntKind.i8) x'.snd)) ∧ ((0 ≤ x'.snd ∧ x'.snd ≤
      q.fst) ∧ InP q.snd.snd.length x'.fst (upTo q (((i : Nat) : Int)) x.snd x'.snd)) ∧ (q.fst - x'.snd).toNat < (q.fst - x_1.snd).toNat))) ((-128 ≤ x_1.snd + 1 ∧ x_1.snd + 1 ≤ 127) ∧ ∃ (x' : List Bool ×
      Int), (Slot.own (Ty.slice 4 Ty.bool) x_1.fst = Slot.own (Ty.slice 4 Ty.bool) x'.fst ∧ Slot.val (D.dat (Ty.int IntKind.i8) (x_1.snd + 1)) = Slot.val (D.dat (Ty.int IntKind.i8) x'.snd)) ∧ ((0 ≤ x'.snd
      ∧ x'.snd ≤ q.fst) ∧ InP q.snd.snd.length x'.fst (upTo q (((i : Nat) : Int)) x.snd x'.snd)) ∧ (q.fst - x'.snd).toNat < (q.fst - x_1.snd).toNat)))) (split (decide (0 < x.snd)) ((-128 ≤ x.snd - 1 ∧
      x.snd - 1 ≤ 127) ∧ (0 ≤ x.snd - 1 ∧ x.snd - 1 < ((12 : Nat) : Int)) ∧ (0 ≤ x_1.snd ∧ x_1.snd < ((12 : Nat) : Int)) ∧ (inR IntKind.i64 ((r.fst.getD (x.snd - 1).toNat (List.replicate 12 0)).getD
      x_1.snd.toNat 0) → (-9223372036854775808 ≤ ((i : Nat) : Int) + 1 ∧ ((i : Nat) : Int) + 1 ≤ 9223372036854775807) ∧ split (decide ((r.fst.getD (x.snd - 1).toNat (List.replicate 12 0)).getD
      x_1.snd.toNat 0 = ((i : Nat) : Int) + 1)) ((0 ≤ x.snd ∧ x.snd < ((12 : Nat) : Int)) ∧ (0 ≤ x_1.snd ∧ x_1.snd < ((12 : Nat) : Int)) ∧ (inR IntKind.i64 ((r.fst.getD x.snd.toNat (List.replicate 12
      0)).getD x_1.snd.toNat 0) → (0 ≤ (r.fst.getD x.snd.toNat (List.replicate 12 0)).getD x_1.snd.toNat 0 ∧ (r.fst.getD x.snd.toNat (List.replicate 12 0)).getD x_1.snd.toNat 0 < ((x_1.fst.length : Nat) :
      Int)) ∧ (-128 ≤ x_1.snd + 1 ∧ x_1.snd + 1 ≤ 127) ∧ ∃ (x' : List Bool × Int), (Slot.own (Ty.slice 4 Ty.bool) (x_1.fst.set ((r.fst.getD x.snd.toNat (List.replicate 12 0)).getD x_1.snd.toNat 0).toNat
      true) = Slot.own (Ty.slice 4 Ty.bool) x'.fst ∧ Slot.val (D.dat (Ty.int IntKind.i8) (x_1.snd + 1)) = Slot.val (D.dat (Ty.int IntKind.i8) x'.snd)) ∧ ((0 ≤ x'.snd ∧ x'.snd ≤ q.fst) ∧ InP
      q.snd.snd.length x'.fst (upTo q (((i : Nat) : Int)) x.snd x'.snd)) ∧ (q.fst - x'.snd).toNat < (q.fst - x_1.snd).toNat)) ((-128 ≤ x_1.snd + 1 ∧ x_1.snd + 1 ≤ 127) ∧ ∃ (x' : List Bool × Int), (Slot.own
      (Ty.slice 4 Ty.bool) x_1.fst = Slot.own (Ty.slice 4 Ty.bool) x'.fst ∧ Slot.val (D.dat (Ty.int IntKind.i8) (x_1.snd + 1)) = Slot.val (D.dat (Ty.int IntKind.i8) x'.snd)) ∧ ((0 ≤ x'.snd ∧ x'.snd ≤
      q.fst) ∧ InP q.snd.snd.length x'.fst (upTo q (((i : Nat) : Int)) x.snd x'.snd)) ∧ (q.fst - x'.snd).toNat < (q.fst - x_1.snd).toNat))) ((-128 ≤ x_1.snd + 1 ∧ x_1.snd + 1 ≤ 127) ∧ ∃ (x' : List Bool ×
      Int), (Slot.own (Ty.slice 4 Ty.bool) x_1.fst = Slot.own (Ty.slice 4 Ty.bool) x'.fst ∧ Slot.val (D.dat (Ty.int IntKind.i8) (x_1.snd + 1)) = Slot.val (D.dat (Ty.int IntKind.i8) x'.snd)) ∧ ((0 ≤ x'.snd
      ∧ x'.snd ≤ q.fst) ∧ InP q.snd.snd.length x'.fst (upTo q (((i : Nat) : Int)) x.snd x'.snd)) ∧ (q.fst - x'.snd).toNat < (q.fst - x_1.snd).toNat))))) (split (decide (0 < x.snd)) ((0 ≤ x.snd ∧ x.snd <
      ((12 : Nat) : Int)) ∧ (0 ≤ x_1.snd ∧ x_1.snd < ((12 : Nat) : Int)) ∧ (inR IntKind.i64 ((r.fst.getD x.snd.toNat (List.replicate 12 0)).getD x_1.snd.toNat 0) → (-9223372036854775808 ≤ ((i : Nat) : Int)
      + 1 ∧ ((i : Nat) : Int) + 1 ≤ 9223372036854775807) ∧ split (decide ((r.fst.getD x.snd.toNat (List.replicate 12 0)).getD x_1.snd.toNat 0 = ((i : Nat) : Int) + 1)) ((-128 ≤ x.snd - 1 ∧ x.snd - 1 ≤ 127)
      ∧ (0 ≤ x.snd - 1 ∧ x.snd - 1 < ((12 : Nat) : Int)) ∧ (0 ≤ x_1.snd ∧ x_1.snd < ((12 : Nat) : Int)) ∧ (inR IntKind.i64 ((r.fst.getD (x.snd - 1).toNat (List.replicate 12 0)).getD x_1.snd.toNat 0) → (0 ≤
      (r.fst.getD (x.snd - 1).toNat (List.replicate 12 0)).getD x_1.snd.toNat 0 ∧ (r.fst.getD (x.snd - 1).toNat (List.replicate 12 0)).getD x_1.snd.toNat 0 < ((x_1.fst.length : Nat) : Int)) ∧ split (decide
      (0 < x.snd)) ((-128 ≤ x.snd - 1 ∧ x.snd - 1 ≤ 127) ∧ (0 ≤ x.snd - 1 ∧ x.snd - 1 < ((12 : Nat) : Int)) ∧ (0 ≤ x_1.snd ∧ x_1.snd < ((12 : Nat) : Int)) ∧ (inR IntKind.i64 ((r.fst.getD (x.snd - 1).toNat
      (List.replicate 12 0)).getD x_1.snd.toNat 0) → (-9223372036854775808 ≤ ((i : Nat) : Int) + 1 ∧ ((i : Nat) : Int) + 1 ≤ 9223372036854775807) ∧ split (decide ((r.fst.getD (x.snd - 1).toNat
      (List.replicate 12 0)).getD x_1.snd.toNat 0 = ((i : Nat) : Int) + 1)) ((0 ≤ x.snd ∧ x.snd < ((12 : Nat) : Int)) ∧ (0 ≤ x_1.snd ∧ x_1.snd < ((12 : Nat) : Int)) ∧ (inR IntKind.i64 ((r.fst.getD
      x.snd.toNat (List.replicate 12 0)).getD x_1.snd.toNat 0) → (0 ≤ (r.fst.getD x.snd.toNat (List.replicate 12 0)).getD x_1.snd.toNat 0 ∧ (r.fst.getD x.snd.toNat (List.replicate 12 0)).getD x_1.snd.toNat
      0 < (((x_1.fst.set ((r.fst.getD (x.snd - 1).toNat (List.replicate 12 0)).getD x_1.snd.toNat 0).toNat true).length : Nat) : Int)) ∧ (-128 ≤ x_1.snd + 1 ∧ x_1.snd + 1 ≤ 127) ∧ ∃ (x' : List Bool × Int),
      (Slot.own (Ty.slice 4 Ty.bool) ((x_1.fst.set ((r.fst.getD (x.snd - 1).toNat (List.replicate 12 0)).getD x_1.snd.toNat 0).toNat true).set ((r.fst.getD x.snd.toNat (List.replicate 12 0)).getD
      x_1.snd.toNat 0).toNat true) = Slot.own (Ty.slice 4 Ty.bool) x'.fst ∧ Slot.val (D.dat (Ty.int IntKind.i8) (x_1.snd + 1)) = Slot.val (D.dat (Ty.int IntKind.i8) x'.snd)) ∧ ((0 ≤ x'.snd ∧ x'.snd ≤
      q.fst) ∧ InP q.snd.snd.length x'.fst (upTo q (((i : Nat) : Int)) x.snd x'.snd)) ∧ (q.fst - x'.snd).toNat < (q.fst - x_1.snd).toNat)) ((-128 ≤ x_1.snd + 1 ∧ x_1.snd + 1 ≤ 127) ∧ ∃ (x' : List Bool ×
      Int), (Slot.own (Ty.slice 4 Ty.bool) (x_1.fst.set ((r.fst.getD (x.snd - 1).toNat (List.replicate 12 0)).getD x_1.snd.toNat 0).toNat true) = Slot.own (Ty.slice 4 Ty.bool) x'.fst ∧ Slot.val (D.dat
      (Ty.int IntKind.i8) (x_1.snd + 1)) = Slot.val (D.dat (Ty.int IntKind.i8) x'.snd)) ∧ ((0 ≤ x'.snd ∧ x'.snd ≤ q.fst) ∧ InP q.snd.snd.length x'.fst (upTo q (((i : Nat) : Int)) x.snd x'.snd)) ∧ (q.fst -
      x'.snd).toNat < (q.fst - x_1.snd).toNat))) ((-128 ≤ x_1.snd + 1 ∧ x_1.snd + 1 ≤ 127) ∧ ∃ (x' : List Bool × Int), (Slot.own (Ty.slice 4 Ty.bool) (x_1.fst.set ((r.fst.getD (x.snd - 1).toNat
      (List.replicate 12 0)).getD x_1.snd.toNat 0).toNat true) = Slot.own (Ty.slice 4 Ty.bool) x'.fst ∧ Slot.val (D.dat (Ty.int IntKind.i8) (x_1.snd + 1)) = Slot.val (D.dat (Ty.int IntKind.i8) x'.snd)) ∧
      ((0 ≤ x'.snd ∧ x'.snd ≤ q.fst) ∧ InP q.snd.snd.length x'.fst (upTo q (((i : Nat) : Int)) x.snd x'.snd)) ∧ (q.fst - x'.snd).toNat < (q.fst - x_1.snd).toNat))) (split (decide (0 < x.snd)) ((-128 ≤
      x.snd - 1 ∧ x.snd - 1 ≤ 127) ∧ (0 ≤ x.snd - 1 ∧ x.snd - 1 < ((12 : Nat) : Int)) ∧ (0 ≤ x_1.snd ∧ x_1.snd < ((12 : Nat) : Int)) ∧ (inR IntKind.i64 ((r.fst.getD (x.snd - 1).toNat (List.replicate 12
      0)).getD x_1.snd.toNat 0) → (-9223372036854775808 ≤ ((i : Nat) : Int) + 1 ∧ ((i : Nat) : Int) + 1 ≤ 9223372036854775807) ∧ split (decide ((r.fst.getD (x.snd - 1).toNat (List.replicate 12 0)).getD
      x_1.snd.toNat 0 = ((i : Nat) : Int) + 1)) ((0 ≤ x.snd ∧ x.snd < ((12 : Nat) : Int)) ∧ (0 ≤ x_1.snd ∧ x_1.snd < ((12 : Nat) : Int)) ∧ (inR IntKind.i64 ((r.fst.getD x.snd.toNat (List.replicate 12
      0)).getD x_1.snd.toNat 0) → (0 ≤ (r.fst.getD x.snd.toNat (List.replicate 12 0)).getD x_1.snd.toNat 0 ∧ (r.fst.getD x.snd.toNat (List.replicate 12 0)).getD x_1.snd.toNat 0 < ((x_1.fst.length : Nat) :
      Int)) ∧ (-128 ≤ x_1.snd + 1 ∧ x_1.snd + 1 ≤ 127) ∧ ∃ (x' : List Bool × Int), (Slot.own (Ty.slice 4 Ty.bool) (x_1.fst.set ((r.fst.getD x.snd.toNat (List.replicate 12 0)).getD x_1.snd.toNat 0).toNat
      true) = Slot.own (Ty.slice 4 Ty.bool) x'.fst ∧ Slot.val (D.dat (Ty.int IntKind.i8) (x_1.snd + 1)) = Slot.val (D.dat (Ty.int IntKind.i8) x'.snd)) ∧ ((0 ≤ x'.snd ∧ x'.snd ≤ q.fst) ∧ InP
      q.snd.snd.length x'.fst (upTo q (((i : Nat) : Int)) x.snd x'.snd)) ∧ (q.fst - x'.snd).toNat < (q.fst - x_1.snd).toNat)) ((-128 ≤ x_1.snd + 1 ∧ x_1.snd + 1 ≤ 127) ∧ ∃ (x' : List Bool × Int), (Slot.own
      (Ty.slice 4 Ty.bool) x_1.fst = Slot.own (Ty.slice 4 Ty.bool) x'.fst ∧ Slot.val (D.dat (Ty.int IntKind.i8) (x_1.snd + 1)) = Slot.val (D.dat (Ty.int IntKind.i8) x'.snd)) ∧ ((0 ≤ x'.snd ∧ x'.snd ≤
      q.fst) ∧ InP q.snd.snd.length x'.fst (upTo q (((i : Nat) : Int)) x.snd x'.snd)) ∧ (q.fst - x'.snd).toNat < (q.fst - x_1.snd).toNat))) ((-128 ≤ x_1.snd + 1 ∧ x_1.snd + 1 ≤ 127) ∧ ∃ (x' : List Bool ×
      Int), (Slot.own (Ty.slice 4 Ty.bool) x_1.fst = Slot.own (Ty.slice 4 Ty.bool) x'.fst ∧ Slot.val (D.dat (Ty.int IntKind.i8) (x_1.snd + 1)) = Slot.val (D.dat (Ty.int IntKind.i8) x'.snd)) ∧ ((0 ≤ x'.snd
      ∧ x'.snd ≤ q.fst) ∧ InP q.snd.snd.length x'.fst (upTo q (((i : Nat) : Int)) x.snd x'.snd)) ∧ (q.fst - x'.snd).toNat < (q.fst - x_1.snd).toNat)))) (split (decide (0 < x.snd)) ((-128 ≤ x.snd - 1 ∧
      x.snd - 1 ≤ 127) ∧ (0 ≤ x.snd - 1 ∧ x.snd - 1 < ((12 : Nat) : Int)) ∧ (0 ≤ x_1.snd ∧ x_1.snd < ((12 : Nat) : Int)) ∧ (inR IntKind.i64 ((r.fst.getD (x.snd - 1).toNat (List.replicate 12 0)).getD
      x_1.snd.toNat 0) → (-9223372036854775808 ≤ ((i : Nat) : Int) + 1 ∧ ((i : Nat) : Int) + 1 ≤ 9223372036854775807) ∧ split (decide ((r.fst.getD (x.snd - 1).toNat (List.replicate 12 0)).getD
      x_1.snd.toNat 0 = ((i : Nat) : Int) + 1)) ((0 ≤ x.snd ∧ x.snd < ((12 : Nat) : Int)) ∧ (0 ≤ x_1.snd ∧ x_1.snd < ((12 : Nat) : Int)) ∧ (inR IntKind.i64 ((r.fst.getD x.snd.toNat (List.replicate 12
      0)).getD x_1.snd.toNat 0) → (0 ≤ (r.fst.getD x.snd.toNat (List.replicate 12 0)).getD x_1.snd.toNat 0 ∧ (r.fst.getD x.snd.toNat (List.replicate 12 0)).getD x_1.snd.toNat 0 < ((x_1.fst.length : Nat) :
      Int)) ∧ (-128 ≤ x_1.snd + 1 ∧ x_1.snd + 1 ≤ 127) ∧ ∃ (x' : List Bool × Int), (Slot.own (Ty.slice 4 Ty.bool) (x_1.fst.set ((r.fst.getD x.snd.toNat (List.replicate 12 0)).getD x_1.snd.toNat 0).toNat
      true) = Slot.own (Ty.slice 4 Ty.bool) x'.fst ∧ Slot.val (D.dat (Ty.int IntKind.i8) (x_1.snd + 1)) = Slot.val (D.dat (Ty.int IntKind.i8) x'.snd)) ∧ ((0 ≤ x'.snd ∧ x'.snd ≤ q.fst) ∧ InP
      q.snd.snd.length x'.fst (upTo q (((i : Nat) : Int)) x.snd x'.snd)) ∧ (q.fst - x'.snd).toNat < (q.fst - x_1.snd).toNat)) ((-128 ≤ x_1.snd + 1 ∧ x_1.snd + 1 ≤ 127) ∧ ∃ (x' : List Bool × Int), (Slot.own
      (Ty.slice 4 Ty.bool) x_1.fst = Slot.own (Ty.slice 4 Ty.bool) x'.fst ∧ Slot.val (D.dat (Ty.int IntKind.i8) (x_1.snd + 1)) = Slot.val (D.dat (Ty.int IntKind.i8) x'.snd)) ∧ ((0 ≤ x'.snd ∧ x'.snd ≤
      q.fst) ∧ InP q.snd.snd.length x'.fst (upTo q (((i : Nat) : Int)) x.snd x'.snd)) ∧ (q.fst - x'.snd).toNat < (q.fst - x_1.snd).toNat))) ((-128 ≤ x_1.snd + 1 ∧ x_1.snd + 1 ≤ 127) ∧ ∃ (x' : List Bool ×
      Int), (Slot.own (Ty.slice 4 Ty.bool) x_1.fst = Slot.own (Ty.slice 4 Ty.bool) x'.fst ∧ Slot.val (D.dat (Ty.int IntKind.i8) (x_1.snd + 1)) = Slot.val (D.dat (Ty.int IntKind.i8) x'.snd)) ∧ ((0 ≤ x'.snd
      ∧ x'.snd ≤ q.fst) ∧ InP q.snd.snd.length x'.fst (upTo q (((i : Nat) : Int)) x.snd x'.snd)) ∧ (q.fst - x'.snd).toNat < (q.fst - x_1.snd).toNat))))) ((-128 ≤ x.snd + 1 ∧ x.snd + 1 ≤ 127) ∧ ∃ (x' : List
      Bool × Int), (Slot.own (Ty.slice 4 Ty.bool) x_1.fst = Slot.own (Ty.slice 4 Ty.bool) x'.fst ∧ Slot.val (D.dat (Ty.int IntKind.i8) (x.snd + 1)) = Slot.val (D.dat (Ty.int IntKind.i8) x'.snd)) ∧ ((0 ≤
      x'.snd ∧ x'.snd ≤ q.snd.fst) ∧ InP q.snd.snd.length x'.fst (upTo q (((i : Nat) : Int)) x'.snd 0)) ∧ (q.snd.fst - x'.snd).toNat < (q.snd.fst - x.snd).toNat)) ((∃ (x0 : Nat), (Slot.own (Ty.slice 2
      (Ty.int IntKind.i64)) [] = Slot.own (Ty.slice 2 iT) (besI x.fst (((i : Nat) : Int)) x0) ∧ Slot.val (D.dat (Ty.int IntKind.i64) 0) = Slot.val (D.dat iT ((x0 : Nat) : Int))) ∧ x0 ≤ q.snd.snd.length) ∧
      ∀ (x_1 : Nat), x_1 ≤ q.snd.snd.length → ((besI x.fst (((i : Nat) : Int)) x_1).length ≤ 9223372036854775807 ∧ ∀ (x_2 : Int), List.Mem x_2 (besI x.fst (((i : Nat) : Int)) x_1) → inR IntKind.i64 x_2) →
      inR IntKind.i64 ((x_1 : Nat) : Int) → (q.snd.snd.length ≤ 9223372036854775807 ∧ ∀ (x : Int × Int × Int × Int), List.Mem x q.snd.snd → inR IntKind.i8 x.fst ∧ inR IntKind.i8 x.snd.fst ∧ inR IntKind.i8
      x.snd.snd.fst ∧ inR IntKind.i8 x.snd.snd.snd) → ((q.snd.snd.length : Nat) : Int) ≤ 9223372036854775807 → split (decide (((x_1 : Nat) : Int) < ((q.snd.snd.length : Nat) : Int))) ((-9223372036854775808
      ≤ ((x_1 : Nat) : Int) + 1 ∧ ((x_1 : Nat) : Int) + 1 ≤ 9223372036854775807) ∧ (0 ≤ ((x_1 : Nat) : Int) + 1 ∧ ((x_1 : Nat) : Int) + 1 < ((x.fst.length : Nat) : Int)) ∧ split (x.fst.getD (((x_1 : Nat) :
      Int) + 1).toNat false) (split (!decide (((x_1 : Nat) : Int) = ((i : Nat) : Int))) ((besI x.fst (((i : Nat) : Int)) x_1).length + [((x_1 : Nat) : Int)].length ≤ 4294967296 ∧ (-9223372036854775808 ≤
      ((x_1 : Nat) : Int) + 1 ∧ ((x_1 : Nat) : Int) + 1 ≤ 9223372036854775807) ∧ ∃ (x' : Nat), (Slot.own (Ty.slice 2 (Ty.int IntKind.i64)) (besI x.fst (((i : Nat) : Int)) x_1 ++ [((x_1 : Nat) : Int)]) =
      Slot.own (Ty.slice 2 iT) (besI x.fst (((i : Nat) : Int)) x') ∧ Slot.val (D.dat (Ty.int IntKind.i64) (((x_1 : Nat) : Int) + 1)) = Slot.val (D.dat iT ((x' : Nat) : Int))) ∧ x' ≤ q.snd.snd.length ∧
      q.snd.snd.length - x' < q.snd.snd.length - x_1) ((-9223372036854775808 ≤ ((x_1 : Nat) : Int) + 1 ∧ ((x_1 : Nat) : Int) + 1 ≤ 9223372036854775807) ∧ ∃ (x' : Nat), (Slot.own (Ty.slice 2 iT) (besI x.fst
      (((i : Nat) : Int)) x_1) = Slot.own (Ty.slice 2 iT) (besI x.fst (((i : Nat) : Int)) x') ∧ Slot.val (D.dat (Ty.int IntKind.i64) (((x_1 : Nat) : Int) + 1)) = Slot.val (D.dat iT ((x' : Nat) : Int))) ∧
      x' ≤ q.snd.snd.length ∧ q.snd.snd.length - x' < q.snd.snd.length - x_1)) ((-9223372036854775808 ≤ ((x_1 : Nat) : Int) + 1 ∧ ((x_1 : Nat) : Int) + 1 ≤ 9223372036854775807) ∧ ∃ (x' : Nat), (Slot.own
      (Ty.slice 2 iT) (besI x.fst (((i : Nat) : Int)) x_1) = Slot.own (Ty.slice 2 iT) (besI x.fst (((i : Nat) : Int)) x') ∧ Slot.val (D.dat (Ty.int IntKind.i64) (((x_1 : Nat) : Int) + 1)) = Slot.val (D.dat
      iT ((x' : Nat) : Int))) ∧ x' ≤ q.snd.snd.length ∧ q.snd.snd.length - x' < q.snd.snd.length - x_1)) (besI x.fst (((i : Nat) : Int)) x_1 = besL q i q.snd.snd.length)))) := by
    intro _
    refine ⟨layV q, lay_ev q, ?_⟩
    intros
    have hn2 := k.n
    have hw := edge_b k.w
    have hh := edge_b k.h
    refine ⟨by omega, by omega, ⟨(List.replicate ((q.2.2.length : Int) + 1).toNat false, 0), ⟨rfl, rfl⟩, by omega, ?_⟩, fun s hs _ _ _ => split_of (fun h => ?_) (fun h => ?_)⟩
    · have := none_in q i; rwa [show ((q.2.2.length : Int) + 1).toNat = q.2.2.length + 1 by omega]
    · have h := of_decide_eq_true h
      refine ⟨⟨(s.1, 0), ⟨rfl, rfl⟩, by omega, hs.2⟩, fun t ht _ _ _ => split_of (fun h2 => ?_) (fun h2 => ?_)⟩
      · have h2 := of_decide_eq_true h2
        have hl := ht.2.len
        have st := step_in k (i := (i : Int)) (x := t.2) (y := s.2) ⟨by omega, h2⟩ (by omega) ht.2
        have b0 := grid_b k (x := t.2) (y := s.2) (by omega) (by omega)
        have b1 : 0 < t.2 → 0 ≤ gqq q (t.2 - 1) s.2 ∧ gqq q (t.2 - 1) s.2 ≤ q.2.2.length := fun c => grid_b k (by omega) (by omega)
        have b2 : 0 < s.2 → 0 ≤ gqq q t.2 (s.2 - 1) ∧ gqq q t.2 (s.2 - 1) ≤ q.2.2.length := fun c => grid_b k (by omega) (by omega)
        simp only [stepL, gqq, gget] at st b0 b1 b2
        simp only [List.length_set]
        obtain ⟨ga, ea⟩ : ∃ a, ((layV q).1.getD s.2.toNat (List.replicate 12 0)).getD t.2.toNat 0 = a := ⟨_, rfl⟩
        obtain ⟨gb, eb⟩ : ∃ a, ((layV q).1.getD s.2.toNat (List.replicate 12 0)).getD (t.2 - 1).toNat 0 = a := ⟨_, rfl⟩
        obtain ⟨gc, ec⟩ : ∃ a, ((layV q).1.getD (s.2 - 1).toNat (List.replicate 12 0)).getD t.2.toNat 0 = a := ⟨_, rfl⟩
        simp only [ea, eb, ec] at st b0 b1 b2 ⊢
        clear ea eb ec
        obtain ⟨ht1, ht2⟩ := ht
        obtain ⟨l, x⟩ := t
        obtain ⟨l0, y⟩ := s
        obtain ⟨hs1, hs2⟩ := hs
        simp only at *
        repeat' (first
          | (intro hh; try simp only [inR, loK, hiK] at hh)
          | exact trivial
          | (refine And.intro ?_ ?_)
          | (refine split_of (fun hh => ?_) (fun hh => ?_) <;> (try (first | replace hh := not_t hh | replace hh := not_f hh)) <;> (try (first | replace hh := of_decide_eq_true hh | replace hh := of_decide_eq_false hh))))
        all_goals first
          | omega
          | (refine ⟨(_, x + 1), ⟨rfl, rfl⟩, ⟨by omega, ?_⟩, by omega⟩
             first
               | rw [setIf_pos (c := 0 < y ∧ gc = (i : Int) + 1) (by omega)] at st
               | rw [setIf_neg (c := 0 < y ∧ gc = (i : Int) + 1) (by omega)] at st
             first
               | rw [setIf_pos (c := 0 < y ∧ ga = (i : Int) + 1) (by omega)] at st
               | rw [setIf_neg (c := 0 < y ∧ ga = (i : Int) + 1) (by omega)] at st
             first
               | rw [setIf_pos (c := 0 < x ∧ gb = (i : Int) + 1) (by omega)] at st
               | rw [setIf_neg (c := 0 < x ∧ gb = (i : Int) + 1) (by omega)] at st
             first
               | rw [setIf_pos (c := 0 < x ∧ ga = (i : Int) + 1) (by omega)] at st
               | rw [setIf_neg (c := 0 < x ∧ ga = (i : Int) + 1) (by omega)] at st
             exact st)
      · have h2 := of_decide_eq_false h2
        refine ⟨by omega, (t.1, s.2 + 1), ⟨rfl, rfl⟩, ⟨by omega, row_in (by omega) ht.2⟩, by omega⟩
    · have h := of_decide_eq_false h
      have hf : InP q.2.2.length s.1 (upTo q i q.2.1 0) := by
        have := hs.2; rwa [show s.2 = q.2.1 by omega] at this
      refine ⟨⟨0, ⟨rfl, rfl⟩, Nat.zero_le _⟩, fun n hn _ _ _ _ => split_of (fun h2 => ?_) (fun h2 => ?_)⟩
      · have h2 := of_decide_eq_true h2
        have hl := hs.2.len
        have hb := besI_len s.1 i n
        have e1 : ((n : Int) + 1).toNat = n + 1 := by omega
        refine ⟨by omega, by omega, ?_⟩
        rw [e1]
        refine split_of (fun h3 => split_of (fun h4 => ?_) (fun h4 => ?_)) (fun h3 => ?_)
        · refine ⟨?_, by omega, n + 1, ⟨?_, by simp⟩, by omega, by omega⟩
          · simp only [List.length_cons, List.length_nil]; omega
          · rw [besI_succ, if_pos ⟨h3, by simpa using h4⟩]
        · refine ⟨by omega, n + 1, ⟨?_, by simp⟩, by omega, by omega⟩
          rw [besI_succ, if_neg (fun q => q.2 (by simpa using h4)), List.append_nil]
        · refine ⟨by omega, n + 1, ⟨?_, by simp⟩, by omega, by omega⟩
          rw [besI_succ, if_neg (fun q => by rw [h3] at q; exact Bool.noConfusion q.1), List.append_nil]
      · have h2 := of_decide_eq_false h2
        rw [show n = q.2.2.length by omega]
        exact besI_is k hi hf
  refine @Eq.mpr _ _ (?_) key
  kernel_rfl
end Go.Proofs.Ytmjijggkdbiijaa
