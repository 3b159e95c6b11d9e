/- Slabs that are laid in an order. No statement is proved here. -/
import Derived.Test.YtmjijggkdbiijaaVc
namespace Go.Proofs.Ytmjijggkdbiijaa
open Go.RowKit
set_option linter.unusedVariables false
set_option linter.unusedSimpArgs false
set_option maxRecDepth 100000
set_option maxHeartbeats 4000000
theorem put_ev (q : Sq) (s : Sl) (hl : q.2.2.length ≤ 1048576) : Ev Try.prog 96 [aQ q, aS s] (compsOf [oQ] (withV q (q.2.2 ++ [s]))) := by
  refine ev_of (l := [oQ]) (r := (withV q (q.2.2 ++ [s]))) (types (resT) [10008005] (fun _ _ => none)) follows Try.func96 (by kernel_rfl) (by rw [Try.ntmps96]; exact Nat.le_of_ble_eq_true rfl) ?_
  have key : (inR IntKind.i8 q.fst → inR IntKind.i8 q.snd.fst → (q.snd.snd.length ≤ 9223372036854775807 ∧ ∀ (x : Int × Int × Int × Int), List.Mem x q.snd.snd → inR IntKind.i8 x.fst ∧ inR IntKind.i8 x.snd.fst ∧ inR
      IntKind.i8 x.snd.snd.fst ∧ inR IntKind.i8 x.snd.snd.snd) → inR IntKind.i8 s.fst → inR IntKind.i8 s.snd.fst → inR IntKind.i8 s.snd.snd.fst → inR IntKind.i8 s.snd.snd.snd → inR IntKind.i8 q.fst → inR
      IntKind.i8 q.snd.fst → (q.snd.snd.length ≤ 9223372036854775807 ∧ ∀ (x : Int × Int × Int × Int), List.Mem x q.snd.snd → inR IntKind.i8 x.fst ∧ inR IntKind.i8 x.snd.fst ∧ inR IntKind.i8 x.snd.snd.fst ∧
      inR IntKind.i8 x.snd.snd.snd) → (q.snd.snd.length ≤ 9223372036854775807 ∧ ∀ (x : Int × Int × Int × Int), List.Mem x q.snd.snd → inR IntKind.i8 x.fst ∧ inR IntKind.i8 x.snd.fst ∧ inR IntKind.i8
      x.snd.snd.fst ∧ inR IntKind.i8 x.snd.snd.snd) → ∃ (r : List (Int × Int × Int × Int)), Ev Try.prog 139 [Arg.imm (D.dat (Ty.slice 41 slabT) q.snd.snd)] (compsOf [(true, Ty.slice 41 ((Ty.int
      IntKind.i8).prod ((Ty.int IntKind.i8).prod ((Ty.int IntKind.i8).prod (Ty.int IntKind.i8)))))] r) ∧ ((r.length ≤ 9223372036854775807 ∧ ∀ (x : Int × Int × Int × Int), List.Mem x r → inR IntKind.i8
      x.fst ∧ inR IntKind.i8 x.snd.fst ∧ inR IntKind.i8 x.snd.snd.fst ∧ inR IntKind.i8 x.snd.snd.snd) → inR IntKind.i8 s.fst → inR IntKind.i8 s.snd.fst → inR IntKind.i8 s.snd.snd.fst → inR IntKind.i8
      s.snd.snd.snd → r.length + [s].length ≤ 4294967296 ∧ ∃ (r_1 : Int × Int × List (Int × Int × Int × Int)), Ev Try.prog 101 [Arg.imm (D.dat (sqT 41) q), Arg.imm (D.dat (Ty.slice 41 slabT) (r ++ [s]))]
      (compsOf [(true, (Ty.int IntKind.i8).prod ((Ty.int IntKind.i8).prod (Ty.slice 41 ((Ty.int IntKind.i8).prod ((Ty.int IntKind.i8).prod ((Ty.int IntKind.i8).prod (Ty.int IntKind.i8)))))))] r_1) ∧ (inR
      IntKind.i8 r_1.fst → inR IntKind.i8 r_1.snd.fst → (r_1.snd.snd.length ≤ 9223372036854775807 ∧ ∀ (x : Int × Int × Int × Int), List.Mem x r_1.snd.snd → inR IntKind.i8 x.fst ∧ inR IntKind.i8 x.snd.fst ∧
      inR IntKind.i8 x.snd.snd.fst ∧ inR IntKind.i8 x.snd.snd.snd) → r_1 = withV q (q.snd.snd ++ [s])))) := by
    intros
    refine ⟨_, cloneS_ev _ (by omega), ?_⟩
    intros
    refine ⟨by simp; omega, _, with_ev q _ (by simp; omega), ?_⟩
    intros
    rfl
  refine @Eq.mpr _ _ (?_) key
  kernel_rfl
def l01PutV (q : Sq) (s : Sl) : Sq := (q.1, q.2.1, isortN (q.2.2 ++ [s]) (q.2.2 ++ [s]).length)
theorem l01Put_ev (q : Sq) (s : Sl) (hl : q.2.2.length ≤ 1048576) : Ev Try.prog 103 [aQp q, aS s] (compsOf [oQ] (l01PutV q s)) := by
  refine ev_of (l := [oQ]) (r := (l01PutV q s)) (types (resT) [] (fun _ _ => none)) follows Try.func103 (by kernel_rfl) (by rw [Try.ntmps103]; exact Nat.le_of_ble_eq_true rfl) ?_
  have key : (inR IntKind.i8 s.fst → inR IntKind.i8 s.snd.fst → inR IntKind.i8 s.snd.snd.fst → inR IntKind.i8 s.snd.snd.snd → (q.snd.snd.length ≤ 9223372036854775807 ∧ ∀ (x : Int × Int × Int × Int), List.Mem x
      q.snd.snd → inR IntKind.i8 x.fst ∧ inR IntKind.i8 x.snd.fst ∧ inR IntKind.i8 x.snd.snd.fst ∧ inR IntKind.i8 x.snd.snd.snd) → (0 : Nat) + q.snd.snd.length ≤ 4294967296 ∧ (inR IntKind.i8 s.fst → inR
      IntKind.i8 s.snd.fst → inR IntKind.i8 s.snd.snd.fst → inR IntKind.i8 s.snd.snd.snd → ([] ++ q.snd.snd).length + [s].length ≤ 4294967296 ∧ (inR IntKind.i8 q.fst → inR IntKind.i8 q.snd.fst → ∃ (r :
      List (Int × Int × Int × Int)), Ev Try.prog 145 [Arg.imm (D.dat (Ty.slice 41 slabT) ([] ++ q.snd.snd ++ [s]))] (compsOf [(true, Ty.slice 41 ((Ty.int IntKind.i8).prod ((Ty.int IntKind.i8).prod ((Ty.int
      IntKind.i8).prod (Ty.int IntKind.i8)))))] r) ∧ ((r.length ≤ 9223372036854775807 ∧ ∀ (x : Int × Int × Int × Int), List.Mem x r → inR IntKind.i8 x.fst ∧ inR IntKind.i8 x.snd.fst ∧ inR IntKind.i8
      x.snd.snd.fst ∧ inR IntKind.i8 x.snd.snd.snd) → (q.fst, q.snd.fst, r) = l01PutV q s)))) := by
    intros
    refine ⟨by omega, ?_⟩
    intros
    refine ⟨by simp; omega, ?_⟩
    intros
    rw [List.nil_append]
    refine ⟨_, l01Sorted_ev _ (by simp; omega), ?_⟩
    intros
    rfl
  refine @Eq.mpr _ _ (?_) key
  kernel_rfl
def orderB (l : List Int) (n : Nat) : Bool := decide (l.length = n) && (eachB l && !(l.any fun i => !(inB i 0 ((n : Int) - 1))))
theorem isOrder1_ev (n : Nat) (hn : n ≤ 1048576) (i : Int) : Ev Try.prog 146 [aI i, .imm (.ref (.dat iT (n : Int)))] (compsOf [rB] (!(inB i 0 ((n : Int) - 1)))) := by
  refine ev_of (l := [rB]) (r := (!(inB i 0 ((n : Int) - 1)))) (types (resT) [] (fun _ _ => none)) follows Try.func146 (by kernel_rfl) (by rw [Try.ntmps146]; exact Nat.le_of_ble_eq_true rfl) ?_
  have key : (inR IntKind.i64 i → inR IntKind.i64 ((n : Nat) : Int) → (-9223372036854775808 ≤ ((n : Nat) : Int) - 1 ∧ ((n : Nat) : Int) - 1 ≤ 9223372036854775807) ∧ ∃ (r : Bool), Ev Try.prog 66 [Arg.imm (D.dat
      (Ty.int IntKind.i64) i), Arg.imm (D.dat (Ty.int IntKind.i64) 0), Arg.imm (D.dat (Ty.int IntKind.i64) (((n : Nat) : Int) - 1))] (compsOf [(false, Ty.bool)] r) ∧ (!r) = !inB i 0 (((n : Nat) : Int) - 1)) := by
    intros
    exact ⟨by omega, _, within_ev _ _ _, rfl⟩
  refine @Eq.mpr _ _ (?_) key
  kernel_rfl
theorem isOrder_ev (l : List Int) (n : Nat) (hn : n ≤ 1048576) : Ev Try.prog 104 [aIs l, aI (n : Int)] (compsOf [rB] (orderB l n)) := by
  refine ev_of (l := [rB]) (r := (orderB l n)) (types (resT) [] (fun _ _ => none)) follows Try.func104 (by kernel_rfl) (by rw [Try.ntmps104]; exact Nat.le_of_ble_eq_true rfl) ?_
  have key : ((l.length ≤ 9223372036854775807 ∧ ∀ (x : Int), List.Mem x l → inR IntKind.i64 x) → inR IntKind.i64 ((n : Nat) : Int) → ((l.length : Nat) : Int) ≤ 9223372036854775807 → inR IntKind.i64 ((n : Nat) :
      Int) → split (decide (((l.length : Nat) : Int) = ((n : Nat) : Int))) (∃ (r : Bool), Ev Try.prog 100 [Arg.imm (D.dat (Ty.slice 2 (Ty.int IntKind.i64)) l)] (compsOf [(false, Ty.bool)] r) ∧ split r (∃
      (r : Bool), Ev Try.prog 106 [Arg.imm (D.dat (Ty.slice 2 (Ty.int IntKind.i64)) l), Arg.imm (D.clo 146 ((D.dat (Ty.int IntKind.i64) ((n : Nat) : Int)).ref.cn D.nl))] (compsOf [(false, Ty.bool)] r) ∧
      (!r) = orderB l n) (false = orderB l n)) (false = orderB l n)) := by
    intros
    refine split_of (fun h => ?_) (fun h => ?_)
    · have h := of_decide_eq_true h
      have e0 : decide (l.length = n) = true := decide_eq_true (by omega)
      refine ⟨_, isEach_ev l (by omega), split_of (fun h2 => ?_) (fun h2 => by simp [orderB, h2])⟩
      exact ⟨_, containsFuncI1_ev l _ _ (fun i => !(inB i 0 ((n : Int) - 1))) (fun x _ => isOrder1_ev n hn x), by simp [orderB, h2, e0]⟩
    · have h := of_decide_eq_false h
      have e0 : decide (l.length = n) = false := decide_eq_false (by omega)
      simp [orderB, e0]
  refine @Eq.mpr _ _ (?_) key
  kernel_rfl
noncomputable abbrev l05EachInv (l : List Int) (m : Nat) (n : Nat) (σ : List Slot) : Option LoopInv := match n with
  | 2 => some ⟨hvAt Try.f102 2, Nat, fun i => [(5, .val (.dat iT (i : Int)))], fun i => i ≤ l.length ∧ (∀ j, j < i → inB (l.getD j 0) 0 ((m : Int) - 1) = true) ∧ ∀ j, j < i → hasB (l.take j) (l.getD j 0) = false, fun i => l.length - i⟩
  | _ => none
theorem l05Each_ev (l : List Int) (m : Nat) (hm : m ≤ 1048576) : Ev Try.prog 102 [aI (m : Int), aIs l] (compsOf [rB] (orderB l m)) := by
  refine ev_of (l := [rB]) (r := (orderB l m)) (types (resT) [] (l05EachInv l m)) follows Try.func102 (by kernel_rfl) (by rw [Try.ntmps102]; exact Nat.le_of_ble_eq_true rfl) ?_
  have key : (inR IntKind.i64 ((m : Nat) : Int) → (l.length ≤ 9223372036854775807 ∧ ∀ (x : Int), List.Mem x l → inR IntKind.i64 x) → (∃ (x0 : Nat), Slot.val (D.dat (Ty.int IntKind.i64) 0) = Slot.val (D.dat iT ((x0
      : Nat) : Int)) ∧ x0 ≤ l.length ∧ (∀ (j : Nat), j < x0 → inB (l.getD j 0) 0 (((m : Nat) : Int) - 1) = true) ∧ ∀ (j : Nat), j < x0 → hasB (List.take j l) (l.getD j 0) = false) ∧ ∀ (x : Nat), (x ≤
      l.length ∧ (∀ (j : Nat), j < x → inB (l.getD j 0) 0 (((m : Nat) : Int) - 1) = true) ∧ ∀ (j : Nat), j < x → hasB (List.take j l) (l.getD j 0) = false) → inR IntKind.i64 ((x : Nat) : Int) → ((l.length
      : Nat) : Int) ≤ 9223372036854775807 → split (decide (((x : Nat) : Int) < ((l.length : Nat) : Int))) ((0 ≤ ((x : Nat) : Int) ∧ ((x : Nat) : Int) < ((l.length : Nat) : Int)) ∧ (inR IntKind.i64 (l.getD
      (((x : Nat) : Int)).toNat 0) → (-9223372036854775808 ≤ ((m : Nat) : Int) - 1 ∧ ((m : Nat) : Int) - 1 ≤ 9223372036854775807) ∧ ∃ (r : Bool), Ev Try.prog 117 [Arg.imm (D.dat (Ty.int IntKind.i64)
      (l.getD (((x : Nat) : Int)).toNat 0)), Arg.imm (D.dat (Ty.int IntKind.i64) 0), Arg.imm (D.dat (Ty.int IntKind.i64) (((m : Nat) : Int) - 1))] (compsOf [(false, Ty.bool)] r) ∧ split (!!r) (((0 : Int) ≤
      0 ∧ 0 ≤ ((x : Nat) : Int) ∧ ((x : Nat) : Int) ≤ ((l.length : Nat) : Int)) ∧ (0 ≤ ((x : Nat) : Int) ∧ ((x : Nat) : Int) < ((l.length : Nat) : Int)) ∧ (inR IntKind.i64 (l.getD (((x : Nat) : Int)).toNat
      0) → ∃ (r : Bool), Ev Try.prog 98 [Arg.imm (D.dat (Ty.slice 2 (Ty.int IntKind.i64)) (List.drop (Int.toNat 0) (List.take (((x : Nat) : Int)).toNat l))), Arg.imm (D.dat (Ty.int IntKind.i64) (l.getD
      (((x : Nat) : Int)).toNat 0))] (compsOf [(false, Ty.bool)] r) ∧ split r (false = orderB l m) ((-9223372036854775808 ≤ ((x : Nat) : Int) + 1 ∧ ((x : Nat) : Int) + 1 ≤ 9223372036854775807) ∧ ∃ (x' :
      Nat), Slot.val (D.dat (Ty.int IntKind.i64) (((x : Nat) : Int) + 1)) = Slot.val (D.dat iT ((x' : Nat) : Int)) ∧ (x' ≤ l.length ∧ (∀ (j : Nat), j < x' → inB (l.getD j 0) 0 (((m : Nat) : Int) - 1) =
      true) ∧ ∀ (j : Nat), j < x' → hasB (List.take j l) (l.getD j 0) = false) ∧ l.length - x' < l.length - x))) (false = orderB l m))) (((l.length : Nat) : Int) ≤ 9223372036854775807 → decide (((l.length
      : Nat) : Int) = ((m : Nat) : Int)) = orderB l m)) := by
    intro _ _
    refine ⟨⟨0, rfl, by omega, fun j hj => absurd hj (Nat.not_lt_zero _), fun j hj => absurd hj (Nat.not_lt_zero _)⟩, fun i ⟨hi, h1, h2⟩ _ _ => split_of (fun h => ?_) (fun h => fun _ => ?_)⟩
    · have h := of_decide_eq_true h
      simp only [Int.toNat_natCast, Int.toNat_zero, List.drop_zero]
      refine ⟨by omega, fun _ => ⟨by omega, _, l00In_ev _ _ _, split_of (fun h3 => ?_) (fun h3 => ?_)⟩⟩
      · have h3 : inB (l.getD i 0) 0 ((m : Int) - 1) = true := by simpa using h3
        refine ⟨by omega, by omega, fun _ => ⟨_, l00Has_ev _ _, split_of (fun h4 => ?_) (fun h4 => ⟨by omega, i + 1, by simp, ⟨by omega, upto_step h1 h3, upto_step h2 h4⟩, by omega⟩)⟩⟩
        have h5 : eachB l = false := by
          cases c : eachB l with
          | false => rfl
          | true => exact absurd (each_iff.1 c) (has_twice (by omega) h4)
        simp [orderB, h5]
      · have h3 : inB (l.getD i 0) 0 ((m : Int) - 1) = false := by simpa using h3
        have h4 : l.any (fun i => !(inB i 0 ((m : Int) - 1))) = true := any_at (p := fun i => !(inB i 0 ((m : Int) - 1))) (d := 0) (show i < l.length by omega) (by rw [h3]; rfl)
        simp only [orderB, h4, Bool.not_true, Bool.and_false]
    · have h := of_decide_eq_false h
      obtain rfl : i = l.length := by omega
      have h3 : eachB l = true := each_iff.2 (nodup_of h2)
      have h4 : l.any (fun i => !(inB i 0 ((m : Int) - 1))) = false := any_no (d := 0) fun j hj => by rw [h1 j hj]; rfl
      simp only [orderB, h3, h4, Bool.not_false, Bool.and_true]
      exact decide_eq_decide.2 (by omega)
  refine @Eq.mpr _ _ (?_) key
  kernel_rfl
end Go.Proofs.Ytmjijggkdbiijaa
