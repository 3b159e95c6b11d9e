/- Orders of laying: the reference counts. No statement is proved here. -/
import Derived.Test.YtmjijggkdbiijaaWo
namespace Go.Proofs.Ytmjijggkdbiijaa
open Go.RowKit
set_option linter.unusedVariables false
set_option linter.unusedSimpArgs false
set_option maxRecDepth 100000
set_option maxHeartbeats 4000000
theorem pow_nat (i : Nat) : ((1 : Int) * 2 ^ i).toNat = 2 ^ i := by
  have h := sh_nat i
  rw [Int.toNat_natCast] at h
  rw [h, Int.toNat_natCast]
theorem tmod2 (x : Nat) : ((x : Int)).tmod 2 = ((x % 2 : Nat) : Int) := by
  rw [Int.tmod_eq_emod_of_nonneg (by omega)]; omega
theorem bit_1 {t j : Nat} (h : (((t / 2 ^ j : Nat) : Int)).tmod 2 = 1) : t.testBit j = true := by
  rw [tmod2] at h
  rw [Nat.testBit_eq_decide_div_mod_eq]
  exact decide_eq_true (by omega)
theorem bit_0 {t j : Nat} (h : ¬ (((t / 2 ^ j : Nat) : Int)).tmod 2 = 1) : t.testBit j = false := by
  rw [tmod2] at h
  rw [Nat.testBit_eq_decide_div_mod_eq]
  exact decide_eq_false (by omega)
noncomputable abbrev stInv (N n : Nat) (P1 : Nat → List Int → Prop) (S : Nat → Nat → Sq) (P3 : Nat → Nat → List Int → Prop) (r : Nat) (σ : List Slot) : Option LoopInv := match r with
  | 70000012 => some ⟨[11, 12], Int, fun z => [(12, .val (.dat (.int .u64) z))], fun _ => True, fun _ => 0⟩
  | 70000039 => some ⟨[38, 39], Int, fun z => [(39, .val (.dat (.int .u64) z))], fun _ => True, fun _ => 0⟩
  | 70000056 => some ⟨[55, 56], Int, fun z => [(56, .val (.dat (.int .u64) z))], fun _ => True, fun _ => 0⟩
  | 70000070 => some ⟨[69, 70], Int, fun z => [(70, .val (.dat (.int .u64) z))], fun _ => True, fun _ => 0⟩
  | 70999999 => match σ.getD 47 .dead with
    | .own _ _ => some ⟨[7, 47, 43, 44, 45, 46, 70000012, 70000013, 70000039, 70000056, 70000070, 70999999], Sq, fun z => [(47, .dead), (7, .box (.dat (sqT 41) z))], fun _ => True, fun _ => 0⟩
    | _ => none
  | 70000013 => some ⟨[12, 13], Unit, fun _ => [(13, .val (.dat iT (N : Int)))], fun _ => True, fun _ => 0⟩
  | 4 => some ⟨5 :: hvAt Try.f91 4, Nat × List Int, fun s => [(5, .own (.slice 2 (.int .i64)) s.2), (6, .val (.dat iT (s.1 : Int)))], fun s => P1 s.1 s.2, fun s => N - s.1⟩
  | 9 => some ⟨7 :: hvAt Try.f91 9, Nat, fun j => [(7, .box (.dat (sqT 41) (S (iAt σ 6).toNat j))), (8, .val (.dat iT (j : Int)))], fun j => j ≤ n, fun j => n - j⟩
  | 14 => some ⟨5 :: hvAt Try.f91 14, Nat × List Int, fun s => [(5, .own (.slice 2 (.int .i64)) s.2), (9, .val (.dat iT (s.1 : Int)))], fun s => P3 (iAt σ 6).toNat s.1 s.2, fun s => n - s.1⟩
  | _ => none
theorem l05Sets_ev (q : Sq) (list : List Sl) (N : Nat) (P1 : Nat → List Int → Prop) (S : Nat → Nat → Sq) (P3 : Nat → Nat → List Int → Prop) (outV : List Int) (hN : N = 2 ^ list.length) (hP1 : P1 = fun t out => t ≤ N ∧ out = dpT q list t) (hS : S = fun t j => sqM q list (t % 2 ^ j)) (hP3 : P3 = fun t i out => i ≤ list.length ∧ t < N ∧ (dpT q list t).getD t 0 ≠ 0 ∧ out = in3 q list t (dpT q list t) i) (hO : outV = dpT q list N) (k : OkQ q) (hn : list.length ≤ 10) (h60 : q.2.2.length + list.length ≤ 60) : Ev Try.prog 91 [aQp q, aSs list] (compsOf [(true, .slice 2 (.int .i64))] (outV)) := by
  refine ev_of (l := [(true, .slice 2 (.int .i64))]) (r := (outV)) (types (resT) [70000012, 70000013, 70000039, 70000056, 70000070, 70999999] (stInv N list.length P1 S P3)) follows Try.func91 (by kernel_rfl) (by rw [Try.ntmps91]; exact Nat.le_of_ble_eq_true rfl) ?_
  have key : ((list.length ≤ 9223372036854775807 ∧ ∀ (x : Int × Int × Int × Int), List.Mem x list → inR IntKind.i8 x.fst ∧ inR IntKind.i8 x.snd.fst ∧ inR IntKind.i8 x.snd.snd.fst ∧ inR IntKind.i8
      x.snd.snd.snd) → ((list.length : Nat) : Int) ≤ 9223372036854775807 → ∃ (x : Int), True ∧ Cust Try.prog [10, 70000012, 70000013, 70000039, 70000056, 70000070, 70999999] { dst := some 12, op := Op.convert 3 154 (Operand.tmp 11), type := 154, pos := "l05_lifting.go:305", after := #[{ on := 1, ground := Ground.data }], guard := none }
      [11, 12] [Slot.val (D.dat (sqT 41) q).ref, Slot.val (D.dat (Ty.slice 41 slabT) list), Slot.dead, Slot.dead, Slot.own (Ty.slice 2 (Ty.int IntKind.i64)) [], Slot.dead, Slot.dead, Slot.dead,
      Slot.dead, Slot.dead, Slot.val (D.dat (Ty.slice 41 slabT) list), Slot.val (D.dat (Ty.int IntKind.i64) ((list.length : Nat) : Int)), Slot.dead, Slot.dead, Slot.dead, Slot.dead, Slot.dead,
      Slot.dead, Slot.dead, Slot.dead, Slot.dead, Slot.dead, Slot.dead, Slot.dead, Slot.dead, Slot.dead, Slot.dead, Slot.dead, Slot.dead, Slot.dead, Slot.dead, Slot.dead, Slot.dead, Slot.dead,
      Slot.dead, Slot.dead, Slot.dead, Slot.dead, Slot.dead, Slot.dead, Slot.dead, Slot.dead, Slot.dead, Slot.dead, Slot.dead, Slot.dead, Slot.dead, Slot.dead, Slot.dead, Slot.dead, Slot.dead,
      Slot.dead, Slot.dead, Slot.dead, Slot.dead, Slot.dead, Slot.dead, Slot.dead, Slot.dead, Slot.dead, Slot.dead, Slot.dead, Slot.dead, Slot.dead, Slot.dead, Slot.dead, Slot.dead, Slot.dead,
      Slot.dead, Slot.dead, Slot.dead, Slot.dead, Slot.dead, Slot.dead, Slot.dead, Slot.dead, Slot.dead, Slot.dead, Slot.dead, Slot.dead, Slot.dead, Slot.dead] [(12, Slot.val (D.dat (Ty.int
      IntKind.u64) x))] ∧ ∃ (x_1 : Unit), True ∧ Cust Try.prog [10, 70000012, 70000013, 70000039, 70000056, 70000070, 70999999] { dst := some 13, op := Op.binOp BinOp.shl 3 (Operand.const (Value.int IntKind.i64 1)) (Operand.tmp 12) 154, type := 3, pos := "l05_lifting.go:305", after := #[{ on := 2, ground := Ground.data }], guard := none }
      [12, 13] [Slot.val (D.dat (sqT 41) q).ref, Slot.val (D.dat (Ty.slice 41 slabT) list), Slot.dead, Slot.dead, Slot.own (Ty.slice 2 (Ty.int IntKind.i64)) [], Slot.dead, Slot.dead, Slot.dead,
      Slot.dead, Slot.dead, Slot.val (D.dat (Ty.slice 41 slabT) list), Slot.val (D.dat (Ty.int IntKind.i64) ((list.length : Nat) : Int)), Slot.val (D.dat (Ty.int IntKind.u64) x), Slot.dead,
      Slot.dead, Slot.dead, Slot.dead, Slot.dead, Slot.dead, Slot.dead, Slot.dead, Slot.dead, Slot.dead, Slot.dead, Slot.dead, Slot.dead, Slot.dead, Slot.dead, Slot.dead, Slot.dead, Slot.dead,
      Slot.dead, Slot.dead, Slot.dead, Slot.dead, Slot.dead, Slot.dead, Slot.dead, Slot.dead, Slot.dead, Slot.dead, Slot.dead, Slot.dead, Slot.dead, Slot.dead, Slot.dead, Slot.dead, Slot.dead,
      Slot.dead, Slot.dead, Slot.dead, Slot.dead, Slot.dead, Slot.dead, Slot.dead, Slot.dead, Slot.dead, Slot.dead, Slot.dead, Slot.dead, Slot.dead, Slot.dead, Slot.dead, Slot.dead, Slot.dead,
      Slot.dead, Slot.dead, Slot.dead, Slot.dead, Slot.dead, Slot.dead, Slot.dead, Slot.dead, Slot.dead, Slot.dead, Slot.dead, Slot.dead, Slot.dead, Slot.dead, Slot.dead, Slot.dead, Slot.dead]
      [(13, Slot.val (D.dat iT ((N : Nat) : Int)))] ∧ (0 ≤ ((N : Nat) : Int) ∧ ((N : Nat) : Int) = ((N : Nat) : Int) ∧ ((N : Nat) : Int) ≤ 4294967296) ∧ ((0 : Int) ≤ 0 ∧ 0 < (((List.replicate (((N
      : Nat) : Int)).toNat (0 : Int)).length : Nat) : Int)) ∧ (∃ (x0 : Nat × List Int), (Slot.own (Ty.slice 2 (Ty.int IntKind.i64)) ((List.replicate (((N : Nat) : Int)).toNat 0).set (Int.toNat 0)
      1) = Slot.own (Ty.slice 2 (Ty.int IntKind.i64)) x0.snd ∧ Slot.val (D.dat (Ty.int IntKind.i64) 0) = Slot.val (D.dat iT ((x0.fst : Nat) : Int))) ∧ P1 x0.fst x0.snd) ∧ ∀ (x_2 : Nat × List Int),
      P1 x_2.fst x_2.snd → (x_2.snd.length ≤ 9223372036854775807 ∧ ∀ (x : Int), List.Mem x x_2.snd → inR IntKind.i64 x) → inR IntKind.i64 ((x_2.fst : Nat) : Int) → ((x_2.snd.length : Nat) : Int) ≤
      9223372036854775807 → split (decide (((x_2.fst : Nat) : Int) < ((x_2.snd.length : Nat) : Int))) ((0 ≤ ((x_2.fst : Nat) : Int) ∧ ((x_2.fst : Nat) : Int) < ((x_2.snd.length : Nat) : Int)) ∧
      (inR IntKind.i64 (x_2.snd.getD (((x_2.fst : Nat) : Int)).toNat 0) → split (decide (x_2.snd.getD (((x_2.fst : Nat) : Int)).toNat (0 : Int) = 0)) ((-9223372036854775808 ≤ ((x_2.fst : Nat) :
      Int) + 1 ∧ ((x_2.fst : Nat) : Int) + 1 ≤ 9223372036854775807) ∧ ∃ (x' : Nat × List Int), (Slot.own (Ty.slice 2 (Ty.int IntKind.i64)) x_2.snd = Slot.own (Ty.slice 2 (Ty.int IntKind.i64))
      x'.snd ∧ Slot.val (D.dat (Ty.int IntKind.i64) (((x_2.fst : Nat) : Int) + 1)) = Slot.val (D.dat iT ((x'.fst : Nat) : Int))) ∧ P1 x'.fst x'.snd ∧ N - x'.fst < N - x_2.fst) (inR IntKind.i8 q.fst
      → inR IntKind.i8 q.snd.fst → (q.snd.snd.length ≤ 9223372036854775807 ∧ ∀ (x : Int × Int × Int × Int), List.Mem x q.snd.snd → inR IntKind.i8 x.fst ∧ inR IntKind.i8 x.snd.fst ∧ inR IntKind.i8
      x.snd.snd.fst ∧ inR IntKind.i8 x.snd.snd.snd) → (∃ (x0 : Nat), (Slot.box (D.dat (sqT 41) q) = Slot.box (D.dat (sqT 41) (S (((x_2.fst : Nat) : Int)).toNat x0)) ∧ Slot.val (D.dat (Ty.int
      IntKind.i64) 0) = Slot.val (D.dat iT ((x0 : Nat) : Int))) ∧ x0 ≤ list.length) ∧ ∀ (x_3 : Nat), x_3 ≤ list.length → inR IntKind.i8 (S (((x_2.fst : Nat) : Int)).toNat x_3).fst → inR IntKind.i8
      (S (((x_2.fst : Nat) : Int)).toNat x_3).snd.fst → ((S (((x_2.fst : Nat) : Int)).toNat x_3).snd.snd.length ≤ 9223372036854775807 ∧ ∀ (x : Int × Int × Int × Int), List.Mem x (S (((x_2.fst :
      Nat) : Int)).toNat x_3).snd.snd → inR IntKind.i8 x.fst ∧ inR IntKind.i8 x.snd.fst ∧ inR IntKind.i8 x.snd.snd.fst ∧ inR IntKind.i8 x.snd.snd.snd) → inR IntKind.i64 ((x_3 : Nat) : Int) →
      ((list.length : Nat) : Int) ≤ 9223372036854775807 → split (decide (((x_3 : Nat) : Int) < ((list.length : Nat) : Int))) (∃ (x_4 : Int), True ∧ Cust Try.prog [37, 38, 70000012, 70000013,
      70000039, 70000056, 70000070, 70999999] { dst := some 39, op := Op.convert 3 154 (Operand.tmp 38), type := 154, pos := "l05_lifting.go:313", after := #[{ on := 1, ground := Ground.data }], guard := none }
      [38, 39] [Slot.val (D.dat (sqT 41) q).ref, Slot.val (D.dat (Ty.slice 41 slabT) list), Slot.dead, Slot.dead, Slot.own (Ty.slice 2 (Ty.int IntKind.i64)) [], Slot.own (Ty.slice 2 (Ty.int
      IntKind.i64)) x_2.snd, Slot.val (D.dat iT ((x_2.fst : Nat) : Int)), Slot.box (D.dat (sqT 41) (S (((x_2.fst : Nat) : Int)).toNat x_3)), Slot.val (D.dat iT ((x_3 : Nat) : Int)), Slot.dead,
      Slot.val (D.dat (Ty.slice 41 slabT) list), Slot.val (D.dat (Ty.int IntKind.i64) ((list.length : Nat) : Int)), Slot.val (D.dat (Ty.int IntKind.u64) x), Slot.val (D.dat iT ((N : Nat) : Int)),
      Slot.dead, Slot.dead, Slot.dead, Slot.val (D.dat iT ((x_2.fst : Nat) : Int)), Slot.dead, Slot.val (D.dat (Ty.int IntKind.i64) ((x_2.snd.length : Nat) : Int)), Slot.val (D.dat Ty.bool true),
      Slot.dead, Slot.dead, Slot.dead, Slot.val (D.dat iT ((x_2.fst : Nat) : Int)), Slot.dead, Slot.val (D.dat (Ty.int IntKind.i64) (x_2.snd.getD (((x_2.fst : Nat) : Int)).toNat 0)), Slot.val
      (D.dat Ty.bool false), Slot.val (D.dat (sqT 41) q).ref, Slot.val (D.dat (sqT 41) q).ref, Slot.val (D.dat (sqT 41) q), Slot.val (D.dat iT ((x_3 : Nat) : Int)), Slot.val (D.dat (Ty.slice 41
      slabT) list), Slot.val (D.dat (Ty.int IntKind.i64) ((list.length : Nat) : Int)), Slot.val (D.dat Ty.bool true), Slot.dead, Slot.dead, Slot.val (D.dat iT ((x_2.fst : Nat) : Int)), Slot.val
      (D.dat iT ((x_3 : Nat) : Int)), Slot.dead, Slot.dead, Slot.dead, Slot.dead, Slot.dead, Slot.dead, Slot.dead, Slot.dead, Slot.dead, Slot.dead, Slot.dead, Slot.dead, Slot.dead, Slot.dead,
      Slot.dead, Slot.dead, Slot.dead, Slot.dead, Slot.dead, Slot.dead, Slot.dead, Slot.dead, Slot.dead, Slot.dead, Slot.dead, Slot.dead, Slot.dead, Slot.dead, Slot.dead, Slot.dead, Slot.dead,
      Slot.dead, Slot.dead, Slot.dead, Slot.dead, Slot.dead, Slot.dead, Slot.dead, Slot.dead, Slot.dead, Slot.dead, Slot.dead, Slot.dead] [(39, Slot.val (D.dat (Ty.int IntKind.u64) x_4))] ∧ (0 ≤
      x_4 ∧ x_4 ≤ 64) ∧ (-9223372036854775808 ≤ ((x_2.fst : Nat) : Int) / 2 ^ x_4.toNat ∧ ((x_2.fst : Nat) : Int) / 2 ^ x_4.toNat ≤ 9223372036854775807) ∧ (2 : Int) ≠ 0 ∧ (-9223372036854775808 ≤
      (((x_2.fst : Nat) : Int) / 2 ^ x_4.toNat).tmod 2 ∧ (((x_2.fst : Nat) : Int) / 2 ^ x_4.toNat).tmod 2 ≤ 9223372036854775807) ∧ split (decide ((((x_2.fst : Nat) : Int) / 2 ^ x_4.toNat).tmod 2 =
      1)) ((0 ≤ ((x_3 : Nat) : Int) ∧ ((x_3 : Nat) : Int) < ((list.length : Nat) : Int)) ∧ (inR IntKind.i8 (list.getD (((x_3 : Nat) : Int)).toNat (0, 0, 0, 0)).fst → inR IntKind.i8 (list.getD
      (((x_3 : Nat) : Int)).toNat (0, 0, 0, 0)).snd.fst → inR IntKind.i8 (list.getD (((x_3 : Nat) : Int)).toNat (0, 0, 0, 0)).snd.snd.fst → inR IntKind.i8 (list.getD (((x_3 : Nat) : Int)).toNat (0,
      0, 0, 0)).snd.snd.snd → ∃ (r : Int × Int × List (Int × Int × Int × Int)), Ev Try.prog 103 [Arg.imm (D.dat (sqT 41) (S (((x_2.fst : Nat) : Int)).toNat x_3)).ref, Arg.imm (D.dat slabT
      (list.getD (((x_3 : Nat) : Int)).toNat (0, 0, 0, 0)))] (compsOf [(true, (Ty.int IntKind.i8).prod ((Ty.int IntKind.i8).prod (Ty.slice 41 ((Ty.int IntKind.i8).prod ((Ty.int IntKind.i8).prod
      ((Ty.int IntKind.i8).prod (Ty.int IntKind.i8)))))))] r) ∧ (inR IntKind.i8 r.fst → inR IntKind.i8 r.snd.fst → (r.snd.snd.length ≤ 9223372036854775807 ∧ ∀ (x : Int × Int × Int × Int), List.Mem
      x r.snd.snd → inR IntKind.i8 x.fst ∧ inR IntKind.i8 x.snd.fst ∧ inR IntKind.i8 x.snd.snd.fst ∧ inR IntKind.i8 x.snd.snd.snd) → ∃ (x_5 : Int × Int × List (Int × Int × Int × Int)), True ∧ Cust
      Try.prog [43, 44, 45, 70000012, 70000013, 70000039, 70000056, 70000070, 70999999] { dst := none, op := Op.store 31 (Operand.tmp 7) (Operand.tmp 47), type := 0, pos := "l05_lifting.go:314", after := #[{ on := 4, ground := Ground.data }, { on := 4, ground := Ground.chain }, { on := 0, ground := Ground.phase }, { on := 1, ground := Ground.phase }, { on := 2, ground := Ground.phase }, { on := 3, ground := Ground.phase }, { on := 4, ground := Ground.phase }], guard := none }
      [7, 47, 43, 44, 45, 46, 70000012, 70000013, 70000039, 70000056, 70000070, 70999999] [Slot.val (D.dat (sqT 41) q).ref, Slot.val (D.dat (Ty.slice 41 slabT) list), Slot.dead, Slot.dead, Slot.own
      (Ty.slice 2 (Ty.int IntKind.i64)) [], Slot.own (Ty.slice 2 (Ty.int IntKind.i64)) x_2.snd, Slot.val (D.dat iT ((x_2.fst : Nat) : Int)), Slot.box (D.dat (sqT 41) (S (((x_2.fst : Nat) :
      Int)).toNat x_3)), Slot.val (D.dat iT ((x_3 : Nat) : Int)), Slot.dead, Slot.val (D.dat (Ty.slice 41 slabT) list), Slot.val (D.dat (Ty.int IntKind.i64) ((list.length : Nat) : Int)), Slot.val
      (D.dat (Ty.int IntKind.u64) x), Slot.val (D.dat iT ((N : Nat) : Int)), Slot.dead, Slot.dead, Slot.dead, Slot.val (D.dat iT ((x_2.fst : Nat) : Int)), Slot.dead, Slot.val (D.dat (Ty.int
      IntKind.i64) ((x_2.snd.length : Nat) : Int)), Slot.val (D.dat Ty.bool true), Slot.dead, Slot.dead, Slot.dead, Slot.val (D.dat iT ((x_2.fst : Nat) : Int)), Slot.dead, Slot.val (D.dat (Ty.int
      IntKind.i64) (x_2.snd.getD (((x_2.fst : Nat) : Int)).toNat 0)), Slot.val (D.dat Ty.bool false), Slot.val (D.dat (sqT 41) q).ref, Slot.val (D.dat (sqT 41) q).ref, Slot.val (D.dat (sqT 41) q),
      Slot.val (D.dat iT ((x_3 : Nat) : Int)), Slot.val (D.dat (Ty.slice 41 slabT) list), Slot.val (D.dat (Ty.int IntKind.i64) ((list.length : Nat) : Int)), Slot.val (D.dat Ty.bool true),
      Slot.dead, Slot.dead, Slot.val (D.dat iT ((x_2.fst : Nat) : Int)), Slot.val (D.dat iT ((x_3 : Nat) : Int)), Slot.val (D.dat (Ty.int IntKind.u64) x_4), Slot.val (D.dat (Ty.int IntKind.i64)
      (((x_2.fst : Nat) : Int) / 2 ^ x_4.toNat)), Slot.val (D.dat (Ty.int IntKind.i64) ((((x_2.fst : Nat) : Int) / 2 ^ x_4.toNat).tmod 2)), Slot.val (D.dat Ty.bool true), Slot.val (D.dat (Ty.slice
      41 slabT) list), Slot.val (D.dat iT ((x_3 : Nat) : Int)), Slot.elt 43 [] (((x_3 : Nat) : Int)).toNat [], Slot.val (D.dat slabT (list.getD (((x_3 : Nat) : Int)).toNat (0, 0, 0, 0))), Slot.own
      (sqT 41) r, Slot.dead, Slot.dead, Slot.dead, Slot.dead, Slot.dead, Slot.dead, Slot.dead, Slot.dead, Slot.dead, Slot.dead, Slot.dead, Slot.dead, Slot.dead, Slot.dead, Slot.dead, Slot.dead,
      Slot.dead, Slot.dead, Slot.dead, Slot.dead, Slot.dead, Slot.dead, Slot.dead, Slot.dead, Slot.dead, Slot.dead, Slot.dead, Slot.dead, Slot.dead, Slot.dead, Slot.dead, Slot.dead, Slot.dead,
      Slot.dead] [(47, Slot.dead), (7, Slot.box (D.dat (sqT 41) x_5))] ∧ (-9223372036854775808 ≤ ((x_3 : Nat) : Int) + 1 ∧ ((x_3 : Nat) : Int) + 1 ≤ 9223372036854775807) ∧ ∃ (x' : Nat), (Slot.box
      (D.dat (sqT 41) x_5) = Slot.box (D.dat (sqT 41) (S (((x_2.fst : Nat) : Int)).toNat x')) ∧ Slot.val (D.dat (Ty.int IntKind.i64) (((x_3 : Nat) : Int) + 1)) = Slot.val (D.dat iT ((x' : Nat) :
      Int))) ∧ x' ≤ list.length ∧ list.length - x' < list.length - x_3))) ((-9223372036854775808 ≤ ((x_3 : Nat) : Int) + 1 ∧ ((x_3 : Nat) : Int) + 1 ≤ 9223372036854775807) ∧ ∃ (x' : Nat), (Slot.box
      (D.dat (sqT 41) (S (((x_2.fst : Nat) : Int)).toNat x_3)) = Slot.box (D.dat (sqT 41) (S (((x_2.fst : Nat) : Int)).toNat x')) ∧ Slot.val (D.dat (Ty.int IntKind.i64) (((x_3 : Nat) : Int) + 1)) =
      Slot.val (D.dat iT ((x' : Nat) : Int))) ∧ x' ≤ list.length ∧ list.length - x' < list.length - x_3)) ((∃ (x0 : Nat × List Int), (Slot.own (Ty.slice 2 (Ty.int IntKind.i64)) x_2.snd = Slot.own
      (Ty.slice 2 (Ty.int IntKind.i64)) x0.snd ∧ Slot.val (D.dat (Ty.int IntKind.i64) 0) = Slot.val (D.dat iT ((x0.fst : Nat) : Int))) ∧ P3 (iAt [Slot.val (D.dat (sqT 41) q).ref, Slot.val (D.dat
      (Ty.slice 41 slabT) list), Slot.dead, Slot.dead, Slot.own (Ty.slice 2 (Ty.int IntKind.i64)) [], Slot.own (Ty.slice 2 (Ty.int IntKind.i64)) x_2.snd, Slot.val (D.dat iT ((x_2.fst : Nat) :
      Int)), Slot.box (D.dat (sqT 41) (S (((x_2.fst : Nat) : Int)).toNat x_3)), Slot.val (D.dat iT ((x_3 : Nat) : Int)), Slot.val (D.dat (Ty.int IntKind.i64) 0), Slot.val (D.dat (Ty.slice 41 slabT)
      list), Slot.val (D.dat (Ty.int IntKind.i64) ((list.length : Nat) : Int)), Slot.val (D.dat (Ty.int IntKind.u64) x), Slot.val (D.dat iT ((N : Nat) : Int)), Slot.dead, Slot.dead, Slot.dead,
      Slot.val (D.dat iT ((x_2.fst : Nat) : Int)), Slot.dead, Slot.val (D.dat (Ty.int IntKind.i64) ((x_2.snd.length : Nat) : Int)), Slot.val (D.dat Ty.bool true), Slot.dead, Slot.dead, Slot.dead,
      Slot.val (D.dat iT ((x_2.fst : Nat) : Int)), Slot.dead, Slot.val (D.dat (Ty.int IntKind.i64) (x_2.snd.getD (((x_2.fst : Nat) : Int)).toNat 0)), Slot.val (D.dat Ty.bool false), Slot.val (D.dat
      (sqT 41) q).ref, Slot.val (D.dat (sqT 41) q).ref, Slot.val (D.dat (sqT 41) q), Slot.val (D.dat iT ((x_3 : Nat) : Int)), Slot.val (D.dat (Ty.slice 41 slabT) list), Slot.val (D.dat (Ty.int
      IntKind.i64) ((list.length : Nat) : Int)), Slot.val (D.dat Ty.bool false), Slot.dead, Slot.dead, Slot.dead, Slot.dead, Slot.dead, Slot.dead, Slot.dead, Slot.dead, Slot.dead, Slot.dead,
      Slot.dead, Slot.dead, Slot.dead, Slot.dead, Slot.dead, Slot.dead, Slot.dead, Slot.dead, Slot.dead, Slot.dead, Slot.dead, Slot.dead, Slot.dead, Slot.dead, Slot.dead, Slot.dead, Slot.dead,
      Slot.dead, Slot.dead, Slot.dead, Slot.dead, Slot.dead, Slot.dead, Slot.dead, Slot.dead, Slot.dead, Slot.dead, Slot.dead, Slot.dead, Slot.dead, Slot.dead, Slot.dead, Slot.dead, Slot.dead,
      Slot.dead, Slot.dead, Slot.dead] 6).toNat x0.fst x0.snd) ∧ ∀ (x_4 : Nat × List Int), P3 (iAt [Slot.val (D.dat (sqT 41) q).ref, Slot.val (D.dat (Ty.slice 41 slabT) list), Slot.dead, Slot.dead,
      Slot.own (Ty.slice 2 (Ty.int IntKind.i64)) [], Slot.own (Ty.slice 2 (Ty.int IntKind.i64)) x_2.snd, Slot.val (D.dat iT ((x_2.fst : Nat) : Int)), Slot.box (D.dat (sqT 41) (S (((x_2.fst : Nat) :
      Int)).toNat x_3)), Slot.val (D.dat iT ((x_3 : Nat) : Int)), Slot.val (D.dat (Ty.int IntKind.i64) 0), Slot.val (D.dat (Ty.slice 41 slabT) list), Slot.val (D.dat (Ty.int IntKind.i64)
      ((list.length : Nat) : Int)), Slot.val (D.dat (Ty.int IntKind.u64) x), Slot.val (D.dat iT ((N : Nat) : Int)), Slot.dead, Slot.dead, Slot.dead, Slot.val (D.dat iT ((x_2.fst : Nat) : Int)),
      Slot.dead, Slot.val (D.dat (Ty.int IntKind.i64) ((x_2.snd.length : Nat) : Int)), Slot.val (D.dat Ty.bool true), Slot.dead, Slot.dead, Slot.dead, Slot.val (D.dat iT ((x_2.fst : Nat) : Int)),
      Slot.dead, Slot.val (D.dat (Ty.int IntKind.i64) (x_2.snd.getD (((x_2.fst : Nat) : Int)).toNat 0)), Slot.val (D.dat Ty.bool false), Slot.val (D.dat (sqT 41) q).ref, Slot.val (D.dat (sqT 41)
      q).ref, Slot.val (D.dat (sqT 41) q), Slot.val (D.dat iT ((x_3 : Nat) : Int)), Slot.val (D.dat (Ty.slice 41 slabT) list), Slot.val (D.dat (Ty.int IntKind.i64) ((list.length : Nat) : Int)),
      Slot.val (D.dat Ty.bool false), Slot.dead, Slot.dead, Slot.dead, Slot.dead, Slot.dead, Slot.dead, Slot.dead, Slot.dead, Slot.dead, Slot.dead, Slot.dead, Slot.dead, Slot.dead, Slot.dead,
      Slot.dead, Slot.dead, Slot.dead, Slot.dead, Slot.dead, Slot.dead, Slot.dead, Slot.dead, Slot.dead, Slot.dead, Slot.dead, Slot.dead, Slot.dead, Slot.dead, Slot.dead, Slot.dead, Slot.dead,
      Slot.dead, Slot.dead, Slot.dead, Slot.dead, Slot.dead, Slot.dead, Slot.dead, Slot.dead, Slot.dead, Slot.dead, Slot.dead, Slot.dead, Slot.dead, Slot.dead, Slot.dead, Slot.dead] 6).toNat
      x_4.fst x_4.snd → (x_4.snd.length ≤ 9223372036854775807 ∧ ∀ (x : Int), List.Mem x x_4.snd → inR IntKind.i64 x) → inR IntKind.i64 ((x_4.fst : Nat) : Int) → ((list.length : Nat) : Int) ≤
      9223372036854775807 → split (decide (((x_4.fst : Nat) : Int) < ((list.length : Nat) : Int))) (∃ (x_5 : Int), True ∧ Cust Try.prog [54, 55, 60, 61, 62, 63, 66, 70000012, 70000013, 70000039,
      70000056, 70000070, 70999999] { dst := some 56, op := Op.convert 3 154 (Operand.tmp 55), type := 154, pos := "l05_lifting.go:318", after := #[{ on := 1, ground := Ground.data }], guard := none }
      [55, 56] [Slot.val (D.dat (sqT 41) q).ref, Slot.val (D.dat (Ty.slice 41 slabT) list), Slot.dead, Slot.dead, Slot.own (Ty.slice 2 (Ty.int IntKind.i64)) [], Slot.own (Ty.slice 2 (Ty.int
      IntKind.i64)) x_4.snd, Slot.val (D.dat iT ((x_2.fst : Nat) : Int)), Slot.box (D.dat (sqT 41) (S (((x_2.fst : Nat) : Int)).toNat x_3)), Slot.val (D.dat iT ((x_3 : Nat) : Int)), Slot.val (D.dat
      iT ((x_4.fst : Nat) : Int)), Slot.val (D.dat (Ty.slice 41 slabT) list), Slot.val (D.dat (Ty.int IntKind.i64) ((list.length : Nat) : Int)), Slot.val (D.dat (Ty.int IntKind.u64) x), Slot.val
      (D.dat iT ((N : Nat) : Int)), Slot.dead, Slot.dead, Slot.dead, Slot.val (D.dat iT ((x_2.fst : Nat) : Int)), Slot.dead, Slot.val (D.dat (Ty.int IntKind.i64) ((x_2.snd.length : Nat) : Int)),
      Slot.val (D.dat Ty.bool true), Slot.dead, Slot.dead, Slot.dead, Slot.val (D.dat iT ((x_2.fst : Nat) : Int)), Slot.dead, Slot.val (D.dat (Ty.int IntKind.i64) (x_2.snd.getD (((x_2.fst : Nat) :
      Int)).toNat 0)), Slot.val (D.dat Ty.bool false), Slot.val (D.dat (sqT 41) q).ref, Slot.val (D.dat (sqT 41) q).ref, Slot.val (D.dat (sqT 41) q), Slot.val (D.dat iT ((x_3 : Nat) : Int)),
      Slot.val (D.dat (Ty.slice 41 slabT) list), Slot.val (D.dat (Ty.int IntKind.i64) ((list.length : Nat) : Int)), Slot.val (D.dat Ty.bool false), Slot.dead, Slot.dead, Slot.dead, Slot.dead,
      Slot.dead, Slot.dead, Slot.dead, Slot.dead, Slot.dead, Slot.dead, Slot.dead, Slot.dead, Slot.dead, Slot.val (D.dat iT ((x_4.fst : Nat) : Int)), Slot.val (D.dat (Ty.slice 41 slabT) list),
      Slot.val (D.dat (Ty.int IntKind.i64) ((list.length : Nat) : Int)), Slot.val (D.dat Ty.bool true), Slot.dead, Slot.dead, Slot.val (D.dat iT ((x_2.fst : Nat) : Int)), Slot.val (D.dat iT
      ((x_4.fst : Nat) : Int)), Slot.dead, Slot.dead, Slot.dead, Slot.dead, Slot.dead, Slot.dead, Slot.dead, Slot.dead, Slot.dead, Slot.dead, Slot.dead, Slot.dead, Slot.dead, Slot.dead, Slot.dead,
      Slot.dead, Slot.dead, Slot.dead, Slot.dead, Slot.dead, Slot.dead, Slot.dead, Slot.dead, Slot.dead, Slot.dead, Slot.dead] [(56, Slot.val (D.dat (Ty.int IntKind.u64) x_5))] ∧ (0 ≤ x_5 ∧ x_5 ≤
      64) ∧ (-9223372036854775808 ≤ ((x_2.fst : Nat) : Int) / 2 ^ x_5.toNat ∧ ((x_2.fst : Nat) : Int) / 2 ^ x_5.toNat ≤ 9223372036854775807) ∧ (2 : Int) ≠ 0 ∧ (-9223372036854775808 ≤ (((x_2.fst :
      Nat) : Int) / 2 ^ x_5.toNat).tmod 2 ∧ (((x_2.fst : Nat) : Int) / 2 ^ x_5.toNat).tmod 2 ≤ 9223372036854775807) ∧ split (decide ((((x_2.fst : Nat) : Int) / 2 ^ x_5.toNat).tmod 2 = 0)) ((0 ≤
      ((x_4.fst : Nat) : Int) ∧ ((x_4.fst : Nat) : Int) < ((list.length : Nat) : Int)) ∧ (inR IntKind.i8 (list.getD (((x_4.fst : Nat) : Int)).toNat (0, 0, 0, 0)).fst → inR IntKind.i8 (list.getD
      (((x_4.fst : Nat) : Int)).toNat (0, 0, 0, 0)).snd.fst → inR IntKind.i8 (list.getD (((x_4.fst : Nat) : Int)).toNat (0, 0, 0, 0)).snd.snd.fst → inR IntKind.i8 (list.getD (((x_4.fst : Nat) :
      Int)).toNat (0, 0, 0, 0)).snd.snd.snd → ∃ (r : Bool), Ev Try.prog 60 [Arg.imm (D.dat (sqT 41) (S (((x_2.fst : Nat) : Int)).toNat x_3)).ref, Arg.imm (D.dat slabT (list.getD (((x_4.fst : Nat) :
      Int)).toNat (0, 0, 0, 0)))] (compsOf [(false, Ty.bool)] r) ∧ split r (∃ (x_6 : Int), True ∧ Cust Try.prog [67, 68, 69, 73, 75, 76, 77, 80, 70000012, 70000013, 70000039, 70000056, 70000070,
      70999999] { dst := some 70, op := Op.convert 3 154 (Operand.tmp 69), type := 154, pos := "l05_lifting.go:319", after := #[{ on := 2, ground := Ground.data }], guard := none } [69, 70]
      [Slot.val (D.dat (sqT 41) q).ref, Slot.val (D.dat (Ty.slice 41 slabT) list), Slot.dead, Slot.dead, Slot.own (Ty.slice 2 (Ty.int IntKind.i64)) [], Slot.own (Ty.slice 2 (Ty.int IntKind.i64))
      x_4.snd, Slot.val (D.dat iT ((x_2.fst : Nat) : Int)), Slot.box (D.dat (sqT 41) (S (((x_2.fst : Nat) : Int)).toNat x_3)), Slot.val (D.dat iT ((x_3 : Nat) : Int)), Slot.val (D.dat iT ((x_4.fst
      : Nat) : Int)), Slot.val (D.dat (Ty.slice 41 slabT) list), Slot.val (D.dat (Ty.int IntKind.i64) ((list.length : Nat) : Int)), Slot.val (D.dat (Ty.int IntKind.u64) x), Slot.val (D.dat iT ((N :
      Nat) : Int)), Slot.dead, Slot.dead, Slot.dead, Slot.val (D.dat iT ((x_2.fst : Nat) : Int)), Slot.dead, Slot.val (D.dat (Ty.int IntKind.i64) ((x_2.snd.length : Nat) : Int)), Slot.val (D.dat
      Ty.bool true), Slot.dead, Slot.dead, Slot.dead, Slot.val (D.dat iT ((x_2.fst : Nat) : Int)), Slot.dead, Slot.val (D.dat (Ty.int IntKind.i64) (x_2.snd.getD (((x_2.fst : Nat) : Int)).toNat 0)),
      Slot.val (D.dat Ty.bool false), Slot.val (D.dat (sqT 41) q).ref, Slot.val (D.dat (sqT 41) q).ref, Slot.val (D.dat (sqT 41) q), Slot.val (D.dat iT ((x_3 : Nat) : Int)), Slot.val (D.dat
      (Ty.slice 41 slabT) list), Slot.val (D.dat (Ty.int IntKind.i64) ((list.length : Nat) : Int)), Slot.val (D.dat Ty.bool false), Slot.dead, Slot.dead, Slot.dead, Slot.dead, Slot.dead, Slot.dead,
      Slot.dead, Slot.dead, Slot.dead, Slot.dead, Slot.dead, Slot.dead, Slot.dead, Slot.val (D.dat iT ((x_4.fst : Nat) : Int)), Slot.val (D.dat (Ty.slice 41 slabT) list), Slot.val (D.dat (Ty.int
      IntKind.i64) ((list.length : Nat) : Int)), Slot.val (D.dat Ty.bool true), Slot.dead, Slot.dead, Slot.val (D.dat iT ((x_2.fst : Nat) : Int)), Slot.val (D.dat iT ((x_4.fst : Nat) : Int)),
      Slot.val (D.dat (Ty.int IntKind.u64) x_5), Slot.val (D.dat (Ty.int IntKind.i64) (((x_2.fst : Nat) : Int) / 2 ^ x_5.toNat)), Slot.val (D.dat (Ty.int IntKind.i64) ((((x_2.fst : Nat) : Int) / 2
      ^ x_5.toNat).tmod 2)), Slot.val (D.dat Ty.bool (decide ((((x_2.fst : Nat) : Int) / 2 ^ x_5.toNat).tmod 2 = 0))), Slot.val (D.dat Ty.bool true), Slot.val (D.dat (Ty.slice 41 slabT) list),
      Slot.val (D.dat iT ((x_4.fst : Nat) : Int)), Slot.dead, Slot.val (D.dat slabT (list.getD (((x_4.fst : Nat) : Int)).toNat (0, 0, 0, 0))), Slot.val (D.dat Ty.bool r), Slot.val (D.dat Ty.bool
      true), Slot.frm 5 [], Slot.val (D.dat iT ((x_2.fst : Nat) : Int)), Slot.val (D.dat iT ((x_4.fst : Nat) : Int)), Slot.dead, Slot.dead, Slot.dead, Slot.dead, Slot.dead, Slot.dead, Slot.dead,
      Slot.dead, Slot.dead, Slot.dead, Slot.dead, Slot.dead] [(70, Slot.val (D.dat (Ty.int IntKind.u64) x_6))] ∧ (0 ≤ x_6 ∧ x_6 ≤ 64) ∧ (-9223372036854775808 ≤ (1 : Int) * 2 ^ x_6.toNat ∧ (1 : Int)
      * 2 ^ x_6.toNat ≤ 9223372036854775807) ∧ (0 ≤ ((x_2.fst : Nat) : Int) ∧ 0 ≤ (1 : Int) * 2 ^ x_6.toNat) ∧ (-9223372036854775808 ≤ ((((((x_2.fst : Nat) : Int)).toNat ||| ((1 : Int) * 2 ^
      x_6.toNat).toNat) : Nat) : Int) ∧ ((((((x_2.fst : Nat) : Int)).toNat ||| ((1 : Int) * 2 ^ x_6.toNat).toNat) : Nat) : Int) ≤ 9223372036854775807) ∧ (0 ≤ ((((((x_2.fst : Nat) : Int)).toNat |||
      ((1 : Int) * 2 ^ x_6.toNat).toNat) : Nat) : Int) ∧ ((((((x_2.fst : Nat) : Int)).toNat ||| ((1 : Int) * 2 ^ x_6.toNat).toNat) : Nat) : Int) < ((x_4.snd.length : Nat) : Int)) ∧ (inR IntKind.i64
      (x_4.snd.getD (((((((x_2.fst : Nat) : Int)).toNat ||| ((1 : Int) * 2 ^ x_6.toNat).toNat) : Nat) : Int)).toNat 0) → (0 ≤ ((x_2.fst : Nat) : Int) ∧ ((x_2.fst : Nat) : Int) < ((x_4.snd.length :
      Nat) : Int)) ∧ (inR IntKind.i64 (x_4.snd.getD (((x_2.fst : Nat) : Int)).toNat 0) → (-9223372036854775808 ≤ x_4.snd.getD (((((((x_2.fst : Nat) : Int)).toNat ||| ((1 : Int) * 2 ^
      x_6.toNat).toNat) : Nat) : Int)).toNat 0 + x_4.snd.getD (((x_2.fst : Nat) : Int)).toNat 0 ∧ x_4.snd.getD (((((((x_2.fst : Nat) : Int)).toNat ||| ((1 : Int) * 2 ^ x_6.toNat).toNat) : Nat) :
      Int)).toNat 0 + x_4.snd.getD (((x_2.fst : Nat) : Int)).toNat 0 ≤ 9223372036854775807) ∧ (0 ≤ ((((((x_2.fst : Nat) : Int)).toNat ||| ((1 : Int) * 2 ^ x_6.toNat).toNat) : Nat) : Int) ∧
      ((((((x_2.fst : Nat) : Int)).toNat ||| ((1 : Int) * 2 ^ x_6.toNat).toNat) : Nat) : Int) < ((x_4.snd.length : Nat) : Int)) ∧ (-9223372036854775808 ≤ ((x_4.fst : Nat) : Int) + 1 ∧ ((x_4.fst :
      Nat) : Int) + 1 ≤ 9223372036854775807) ∧ ∃ (x' : Nat × List Int), (Slot.own (Ty.slice 2 (Ty.int IntKind.i64)) (x_4.snd.set (((((((x_2.fst : Nat) : Int)).toNat ||| ((1 : Int) * 2 ^
      x_6.toNat).toNat) : Nat) : Int)).toNat (x_4.snd.getD (((((((x_2.fst : Nat) : Int)).toNat ||| ((1 : Int) * 2 ^ x_6.toNat).toNat) : Nat) : Int)).toNat 0 + x_4.snd.getD (((x_2.fst : Nat) :
      Int)).toNat 0)) = Slot.own (Ty.slice 2 (Ty.int IntKind.i64)) x'.snd ∧ Slot.val (D.dat (Ty.int IntKind.i64) (((x_4.fst : Nat) : Int) + 1)) = Slot.val (D.dat iT ((x'.fst : Nat) : Int))) ∧ P3
      (iAt [Slot.val (D.dat (sqT 41) q).ref, Slot.val (D.dat (Ty.slice 41 slabT) list), Slot.dead, Slot.dead, Slot.own (Ty.slice 2 (Ty.int IntKind.i64)) [], Slot.own (Ty.slice 2 (Ty.int
      IntKind.i64)) x_2.snd, Slot.val (D.dat iT ((x_2.fst : Nat) : Int)), Slot.box (D.dat (sqT 41) (S (((x_2.fst : Nat) : Int)).toNat x_3)), Slot.val (D.dat iT ((x_3 : Nat) : Int)), Slot.val (D.dat
      (Ty.int IntKind.i64) 0), Slot.val (D.dat (Ty.slice 41 slabT) list), Slot.val (D.dat (Ty.int IntKind.i64) ((list.length : Nat) : Int)), Slot.val (D.dat (Ty.int IntKind.u64) x), Slot.val (D.dat
      iT ((N : Nat) : Int)), Slot.dead, Slot.dead, Slot.dead, Slot.val (D.dat iT ((x_2.fst : Nat) : Int)), Slot.dead, Slot.val (D.dat (Ty.int IntKind.i64) ((x_2.snd.length : Nat) : Int)), Slot.val
      (D.dat Ty.bool true), Slot.dead, Slot.dead, Slot.dead, Slot.val (D.dat iT ((x_2.fst : Nat) : Int)), Slot.dead, Slot.val (D.dat (Ty.int IntKind.i64) (x_2.snd.getD (((x_2.fst : Nat) :
      Int)).toNat 0)), Slot.val (D.dat Ty.bool false), Slot.val (D.dat (sqT 41) q).ref, Slot.val (D.dat (sqT 41) q).ref, Slot.val (D.dat (sqT 41) q), Slot.val (D.dat iT ((x_3 : Nat) : Int)),
      Slot.val (D.dat (Ty.slice 41 slabT) list), Slot.val (D.dat (Ty.int IntKind.i64) ((list.length : Nat) : Int)), Slot.val (D.dat Ty.bool false), Slot.dead, Slot.dead, Slot.dead, Slot.dead,
      Slot.dead, Slot.dead, Slot.dead, Slot.dead, Slot.dead, Slot.dead, Slot.dead, Slot.dead, Slot.dead, Slot.dead, Slot.dead, Slot.dead, Slot.dead, Slot.dead, Slot.dead, Slot.dead, Slot.dead,
      Slot.dead, Slot.dead, Slot.dead, Slot.dead, Slot.dead, Slot.dead, Slot.dead, Slot.dead, Slot.dead, Slot.dead, Slot.dead, Slot.dead, Slot.dead, Slot.dead, Slot.dead, Slot.dead, Slot.dead,
      Slot.dead, Slot.dead, Slot.dead, Slot.dead, Slot.dead, Slot.dead, Slot.dead, Slot.dead, Slot.dead] 6).toNat x'.fst x'.snd ∧ list.length - x'.fst < list.length - x_4.fst)))
      ((-9223372036854775808 ≤ ((x_4.fst : Nat) : Int) + 1 ∧ ((x_4.fst : Nat) : Int) + 1 ≤ 9223372036854775807) ∧ ∃ (x' : Nat × List Int), (Slot.own (Ty.slice 2 (Ty.int IntKind.i64)) x_4.snd =
      Slot.own (Ty.slice 2 (Ty.int IntKind.i64)) x'.snd ∧ Slot.val (D.dat (Ty.int IntKind.i64) (((x_4.fst : Nat) : Int) + 1)) = Slot.val (D.dat iT ((x'.fst : Nat) : Int))) ∧ P3 (iAt [Slot.val
      (D.dat (sqT 41) q).ref, Slot.val (D.dat (Ty.slice 41 slabT) list), Slot.dead, Slot.dead, Slot.own (Ty.slice 2 (Ty.int IntKind.i64)) [], Slot.own (Ty.slice 2 (Ty.int IntKind.i64)) x_2.snd,
      Slot.val (D.dat iT ((x_2.fst : Nat) : Int)), Slot.box (D.dat (sqT 41) (S (((x_2.fst : Nat) : Int)).toNat x_3)), Slot.val (D.dat iT ((x_3 : Nat) : Int)), Slot.val (D.dat (Ty.int IntKind.i64)
      0), Slot.val (D.dat (Ty.slice 41 slabT) list), Slot.val (D.dat (Ty.int IntKind.i64) ((list.length : Nat) : Int)), Slot.val (D.dat (Ty.int IntKind.u64) x), Slot.val (D.dat iT ((N : Nat) :
      Int)), Slot.dead, Slot.dead, Slot.dead, Slot.val (D.dat iT ((x_2.fst : Nat) : Int)), Slot.dead, Slot.val (D.dat (Ty.int IntKind.i64) ((x_2.snd.length : Nat) : Int)), Slot.val (D.dat Ty.bool
      true), Slot.dead, Slot.dead, Slot.dead, Slot.val (D.dat iT ((x_2.fst : Nat) : Int)), Slot.dead, Slot.val (D.dat (Ty.int IntKind.i64) (x_2.snd.getD (((x_2.fst : Nat) : Int)).toNat 0)),
      Slot.val (D.dat Ty.bool false), Slot.val (D.dat (sqT 41) q).ref, Slot.val (D.dat (sqT 41) q).ref, Slot.val (D.dat (sqT 41) q), Slot.val (D.dat iT ((x_3 : Nat) : Int)), Slot.val (D.dat
      (Ty.slice 41 slabT) list), Slot.val (D.dat (Ty.int IntKind.i64) ((list.length : Nat) : Int)), Slot.val (D.dat Ty.bool false), Slot.dead, Slot.dead, Slot.dead, Slot.dead, Slot.dead, Slot.dead,
      Slot.dead, Slot.dead, Slot.dead, Slot.dead, Slot.dead, Slot.dead, Slot.dead, Slot.dead, Slot.dead, Slot.dead, Slot.dead, Slot.dead, Slot.dead, Slot.dead, Slot.dead, Slot.dead, Slot.dead,
      Slot.dead, Slot.dead, Slot.dead, Slot.dead, Slot.dead, Slot.dead, Slot.dead, Slot.dead, Slot.dead, Slot.dead, Slot.dead, Slot.dead, Slot.dead, Slot.dead, Slot.dead, Slot.dead, Slot.dead,
      Slot.dead, Slot.dead, Slot.dead, Slot.dead, Slot.dead, Slot.dead, Slot.dead] 6).toNat x'.fst x'.snd ∧ list.length - x'.fst < list.length - x_4.fst))) ((-9223372036854775808 ≤ ((x_4.fst : Nat)
      : Int) + 1 ∧ ((x_4.fst : Nat) : Int) + 1 ≤ 9223372036854775807) ∧ ∃ (x' : Nat × List Int), (Slot.own (Ty.slice 2 (Ty.int IntKind.i64)) x_4.snd = Slot.own (Ty.slice 2 (Ty.int IntKind.i64))
      x'.snd ∧ Slot.val (D.dat (Ty.int IntKind.i64) (((x_4.fst : Nat) : Int) + 1)) = Slot.val (D.dat iT ((x'.fst : Nat) : Int))) ∧ P3 (iAt [Slot.val (D.dat (sqT 41) q).ref, Slot.val (D.dat
      (Ty.slice 41 slabT) list), Slot.dead, Slot.dead, Slot.own (Ty.slice 2 (Ty.int IntKind.i64)) [], Slot.own (Ty.slice 2 (Ty.int IntKind.i64)) x_2.snd, Slot.val (D.dat iT ((x_2.fst : Nat) :
      Int)), Slot.box (D.dat (sqT 41) (S (((x_2.fst : Nat) : Int)).toNat x_3)), Slot.val (D.dat iT ((x_3 : Nat) : Int)), Slot.val (D.dat (Ty.int IntKind.i64) 0), Slot.val (D.dat (Ty.slice 41 slabT)
      list), Slot.val (D.dat (Ty.int IntKind.i64) ((list.length : Nat) : Int)), Slot.val (D.dat (Ty.int IntKind.u64) x), Slot.val (D.dat iT ((N : Nat) : Int)), Slot.dead, Slot.dead, Slot.dead,
      Slot.val (D.dat iT ((x_2.fst : Nat) : Int)), Slot.dead, Slot.val (D.dat (Ty.int IntKind.i64) ((x_2.snd.length : Nat) : Int)), Slot.val (D.dat Ty.bool true), Slot.dead, Slot.dead, Slot.dead,
      Slot.val (D.dat iT ((x_2.fst : Nat) : Int)), Slot.dead, Slot.val (D.dat (Ty.int IntKind.i64) (x_2.snd.getD (((x_2.fst : Nat) : Int)).toNat 0)), Slot.val (D.dat Ty.bool false), Slot.val (D.dat
      (sqT 41) q).ref, Slot.val (D.dat (sqT 41) q).ref, Slot.val (D.dat (sqT 41) q), Slot.val (D.dat iT ((x_3 : Nat) : Int)), Slot.val (D.dat (Ty.slice 41 slabT) list), Slot.val (D.dat (Ty.int
      IntKind.i64) ((list.length : Nat) : Int)), Slot.val (D.dat Ty.bool false), Slot.dead, Slot.dead, Slot.dead, Slot.dead, Slot.dead, Slot.dead, Slot.dead, Slot.dead, Slot.dead, Slot.dead,
      Slot.dead, Slot.dead, Slot.dead, Slot.dead, Slot.dead, Slot.dead, Slot.dead, Slot.dead, Slot.dead, Slot.dead, Slot.dead, Slot.dead, Slot.dead, Slot.dead, Slot.dead, Slot.dead, Slot.dead,
      Slot.dead, Slot.dead, Slot.dead, Slot.dead, Slot.dead, Slot.dead, Slot.dead, Slot.dead, Slot.dead, Slot.dead, Slot.dead, Slot.dead, Slot.dead, Slot.dead, Slot.dead, Slot.dead, Slot.dead,
      Slot.dead, Slot.dead, Slot.dead] 6).toNat x'.fst x'.snd ∧ list.length - x'.fst < list.length - x_4.fst)) ((-9223372036854775808 ≤ ((x_2.fst : Nat) : Int) + 1 ∧ ((x_2.fst : Nat) : Int) + 1 ≤
      9223372036854775807) ∧ ∃ (x' : Nat × List Int), (Slot.own (Ty.slice 2 (Ty.int IntKind.i64)) x_4.snd = Slot.own (Ty.slice 2 (Ty.int IntKind.i64)) x'.snd ∧ Slot.val (D.dat (Ty.int IntKind.i64)
      (((x_2.fst : Nat) : Int) + 1)) = Slot.val (D.dat iT ((x'.fst : Nat) : Int))) ∧ P1 x'.fst x'.snd ∧ N - x'.fst < N - x_2.fst))))) (x_2.snd = outV)) := by
    subst hP1 hS hP3 hO
    intros
    have h2 : 2 ^ list.length ≤ 1024 := Nat.le_trans (Nat.pow_le_pow_right (by omega) hn) (by decide : 2 ^ 10 ≤ 1024)
    obtain ⟨inf, hinf, hinf2, _⟩ := ((types resT [] (fun _ _ => none)).ty 31 (sqT 41) rfl).info
    have hNp : 0 < N := by rw [hN]; exact Nat.pow_pos (by omega)
    refine ⟨(list.length : Int), trivial, cust_conv (A := 11) (N := 12) Try.underlying3 Try.underlying154 rfl rfl (by decide) (by decide) rfl ⟨rfl, fun u q => by cases q⟩ (by omega), (), trivial,
      cust_shl (A := 12) (N := 13) rfl rfl (by decide) (by decide) rfl ⟨rfl, fun u q => by cases q⟩ (by omega) (by omega) (by rw [sh_nat, hN]) (by omega), ⟨by omega, rfl, by omega⟩, ⟨by omega, by simp; omega⟩, ⟨(0, (List.replicate N 0).set 0 1), ⟨rfl, rfl⟩, Nat.zero_le _, by rw [hN]; rfl⟩, fun s hs => ?_⟩
    obtain ⟨t, out⟩ := s
    obtain ⟨ht, ho⟩ := hs
    simp only at ht ho
    subst ho
    have I := dp_at k h60 t (by rw [← hN]; exact ht)
    have hlen := I.dp.len
    simp only
    intros
    refine split_of (fun h => ?_) (fun h => ?_)
    · have h := of_decide_eq_true h
      have ht2 : t < 2 ^ list.length := by omega
      refine ⟨by omega, fun _ => split_of (fun h0 => ?_) (fun h0 => ?_)⟩
      · have h0 : (dpT q list t).getD t 0 = 0 := of_decide_eq_true h0
        refine ⟨by omega, (t + 1, dpT q list (t + 1)), ⟨?_, rfl⟩, ⟨by simp only; omega, rfl⟩, by simp only; omega⟩
        simp only [dpT, h0, if_true]
      · have h0 : (dpT q list t).getD t 0 ≠ 0 := of_decide_eq_false h0
        have kt := I.dp.ok t ht2 h0
        intros
        refine ⟨⟨0, ⟨?_, rfl⟩, Nat.zero_le _⟩, fun j hj => ?_⟩
        · simp only [Nat.pow_zero, Nat.mod_one, sqM_0 k]
        intros
        refine split_of (fun h4 => ?_) (fun h4 => ?_)
        · have h4 : j < list.length := by have := of_decide_eq_true h4; omega
          refine ⟨(j : Int), trivial, cust_conv (A := 38) (N := 39) Try.underlying3 Try.underlying154 rfl rfl (by decide) (by decide) rfl ⟨rfl, fun u q => by cases q⟩ (by omega), by omega, div_in t j (by omega), by decide, by rw [div_nat, tmod2]; omega, split_of (fun h5 => ?_) (fun h5 => ?_)⟩
          · have hb : t.testBit j = true := bit_1 (by have z := of_decide_eq_true h5; rw [div_nat] at z; exact z)
            refine ⟨by omega, ?_⟩
            intros
            have ks := sub_ok k h60 kt j (by omega)
            have kn := ks.n
            refine ⟨_, l01Put_ev (sqM q list (t % 2 ^ j)) (sAt list j) (by omega), ?_⟩
            rw [sub_put k h60 kt h4 hb]
            intros
            exact ⟨sqM q list (t % 2 ^ (j + 1)), trivial, cust_storeFz (M := 7) (Y := 47) hinf hinf2 rfl rfl (by decide) (by decide) (by decide) rfl rfl (fun N hN => by
              simp only [List.mem_cons, List.not_mem_nil, or_false] at hN
              repeat' (rcases hN with rfl | hN)
              all_goals (try subst hN)
              all_goals exact ⟨by decide, rfl, rfl⟩), by omega, j + 1, ⟨rfl, rfl⟩, by omega, by omega⟩
          · have hb : t.testBit j = false := bit_0 (by have z := of_decide_eq_false h5; rw [div_nat] at z; exact z)
            refine ⟨by omega, j + 1, ⟨?_, rfl⟩, by omega, by omega⟩
            show Slot.box (D.dat (sqT 41) (sqM q list (t % 2 ^ j))) = Slot.box (D.dat (sqT 41) (sqM q list (t % 2 ^ (j + 1))))
            rw [mod_no hb]
        · obtain rfl : j = list.length := by have := of_decide_eq_false h4; omega
          refine ⟨⟨(0, dpT q list t), ⟨rfl, rfl⟩, ⟨Nat.zero_le _, (by rw [hN]; exact ht2), h0, rfl⟩⟩, fun s3 hs3 => ?_⟩
          obtain ⟨i, out3⟩ := s3
          obtain ⟨hi, _, _, ho⟩ := hs3
          simp only at hi ho
          have ho : out3 = in3 q list t (dpT q list t) i := ho
          subst ho
          have I3 := in3_at (in1_in3 I ht2 h0) h60 ht2 i hi
          have hl3 := I3.dp.len
          simp only
          intros
          refine split_of (fun h6 => ?_) (fun h6 => ?_)
          · have h6 : i < list.length := by have := of_decide_eq_true h6; omega
            refine ⟨(i : Int), trivial, cust_conv (A := 55) (N := 56) Try.underlying3 Try.underlying154 rfl rfl (by decide) (by decide) rfl ⟨rfl, fun u q => by cases q⟩ (by omega), by omega, div_in t i (by omega), by decide, by rw [div_nat, tmod2]; omega, split_of (fun h7 => ?_) (fun h7 => ?_)⟩
            · have hb : t.testBit i = false := bit_0 (by have z := of_decide_eq_true h7; rw [div_nat] at z; omega)
              refine ⟨by omega, ?_⟩
              intros
              refine ⟨_, l05Can_ev (sqM q list (t % 2 ^ list.length)) (sAt list i) (by rw [sub_all ht2]; exact kt), ?_⟩
              rw [sub_all ht2]
              refine split_of (fun h8 => ?_) (fun h8 => ?_)
              · have hp : 2 ^ i ≤ 1024 := Nat.le_trans (Nat.pow_le_pow_right (by omega) (by omega : i ≤ 10)) (by decide : 2 ^ 10 ≤ 1024)
                have hp0 : (0 : Int) ≤ ((2 ^ i : Nat) : Int) := Int.natCast_nonneg _
                have hor := or_lt ht2 h6
                have hsm := in3_small I3 hn h60 ht2 h6 hb h8
                refine ⟨(i : Int), trivial, cust_conv (A := 69) (N := 70) Try.underlying3 Try.underlying154 rfl rfl (by decide) (by decide) rfl ⟨rfl, fun u q => by cases q⟩ (by omega), by omega, ⟨by rw [sh_nat]; omega, by rw [sh_nat]; omega⟩, ⟨by omega, by rw [sh_nat]; omega⟩, ?_⟩
                simp only [Int.toNat_natCast, pow_nat]
                refine ⟨by omega, by omega, fun _ => ⟨by omega, fun _ => ⟨by omega, by omega, by omega, (i + 1, in3 q list t (dpT q list t) (i + 1)), ⟨?_, rfl⟩, ⟨by simp only; omega, (by rw [hN]; exact ht2), h0, rfl⟩, by simp only; omega⟩⟩⟩
                show Slot.own _ _ = Slot.own _ _
                rw [show in3 q list t (dpT q list t) (i + 1) = (in3 q list t (dpT q list t) i).set (t ||| 2 ^ i) ((in3 q list t (dpT q list t) i).getD (t ||| 2 ^ i) 0 + (in3 q list t (dpT q list t) i).getD t 0) by rw [in3, if_pos ⟨hb, h8⟩]]
              · refine ⟨by omega, (i + 1, in3 q list t (dpT q list t) (i + 1)), ⟨?_, rfl⟩, ⟨by simp only; omega, (by rw [hN]; exact ht2), h0, rfl⟩, by simp only; omega⟩
                show Slot.own _ _ = Slot.own _ _
                rw [show in3 q list t (dpT q list t) (i + 1) = in3 q list t (dpT q list t) i by rw [in3, if_neg (fun z => by rw [show mayB q list t i = false from h8] at z; cases z.2)]]
            · have hb : t.testBit i = true := bit_1 (by have z := of_decide_eq_false h7; have := Nat.mod_lt (t / 2 ^ i) (show 0 < 2 by omega); rw [div_nat, tmod2] at z; rw [tmod2]; omega)
              refine ⟨by omega, (i + 1, in3 q list t (dpT q list t) (i + 1)), ⟨?_, rfl⟩, ⟨by simp only; omega, (by rw [hN]; exact ht2), h0, rfl⟩, by simp only; omega⟩
              show Slot.own _ _ = Slot.own _ _
              rw [show in3 q list t (dpT q list t) (i + 1) = in3 q list t (dpT q list t) i by rw [in3, if_neg (fun z => by rw [hb] at z; cases z.1)]]
          · obtain rfl : i = list.length := by have := of_decide_eq_false h6; omega
            refine ⟨by omega, (t + 1, dpT q list (t + 1)), ⟨?_, rfl⟩, ⟨by simp only; omega, rfl⟩, by simp only; omega⟩
            show Slot.own _ _ = Slot.own _ _
            rw [show dpT q list (t + 1) = in3 q list t (dpT q list t) list.length by rw [dpT, if_neg h0]]
    · have h := of_decide_eq_false h
      obtain rfl : t = N := by omega
      rfl
  refine @Eq.mpr _ _ (?_) key
  kernel_rfl
end Go.Proofs.Ytmjijggkdbiijaa
