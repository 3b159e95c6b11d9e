/- Marks, and sums of them. No statement is proved here. -/
import Derived.Test.YtmjijggkdbiijaaSr
import Derived.Test.YtmjijggkdbiijaaKe
namespace Go.Proofs.Ytmjijggkdbiijaa
open Go.RowKit
set_option linter.unusedVariables false
set_option linter.unusedSimpArgs false
set_option maxRecDepth 100000
set_option maxHeartbeats 4000000
abbrev iT : Ty := .int .i64
def w8 (x : Int) : Int := IntKind.i8.wrap x
def numI (k : Int) (i : Nat) : Int := k + (i : Int)
noncomputable abbrev markIInv (l : List Int) (k : Int) (n : Nat) (σ : List Slot) : Option LoopInv := match n with
  | 2 => some ⟨0 :: hvAt Try.f27 2, Nat, fun i => [(0, .own (.slice 2 iT) (row (numI k) i ++ l.drop i)), (1, .val (.dat iT (k + (i : Int)))), (5, .val (.dat iT (i : Int)))], fun i => i ≤ l.length, fun i => l.length - i⟩
  | _ => none
theorem markInts_ev (l : List Int) (k : Int) (hl : l.length ≤ 16777216) (hk : 0 ≤ k ∧ k ≤ 1099511627776) : EvB Try.prog 27 (.slice 2 iT) (l) [aI k] (compsOf [rI] (k + (l.length : Int))) (row (numI k) l.length) := by
  refine evB_of (t0 := .slice 2 iT) (x0 := l) (y0 := row (numI k) l.length) (l := [rI]) (r := (k + (l.length : Int))) (types (resT) [] (markIInv l k)) follows Try.func27 (by kernel_rfl) (by rw [Try.ntmps27]; exact Nat.le_of_ble_eq_true rfl) ?_
  have key : ((l.length ≤ 9223372036854775807 ∧ ∀ (x : Int), List.Mem x l → inR IntKind.i64 x) → inR IntKind.i64 k → (∃ (x0 : Nat), (Slot.own (Ty.slice 2 iT) l = Slot.own (Ty.slice 2 iT) (row (numI k) x0 ++
      List.drop x0 l) ∧ Slot.val (D.dat (Ty.int IntKind.i64) k) = Slot.val (D.dat iT (k + ((x0 : Nat) : Int))) ∧ Slot.val (D.dat (Ty.int IntKind.i64) 0) = Slot.val (D.dat iT ((x0 : Nat) : Int))) ∧ x0 ≤
      l.length) ∧ ∀ (x : Nat), x ≤ l.length → ((row (numI k) x ++ List.drop x l).length ≤ 9223372036854775807 ∧ ∀ (x_1 : Int), List.Mem x_1 (row (numI k) x ++ List.drop x l) → inR IntKind.i64 x_1) → inR
      IntKind.i64 (k + ((x : Nat) : Int)) → inR IntKind.i64 ((x : Nat) : Int) → (((row (numI k) x ++ List.drop x l).length : Nat) : Int) ≤ 9223372036854775807 → split (decide (((x : Nat) : Int) < (((row
      (numI k) x ++ List.drop x l).length : Nat) : Int))) ((0 ≤ ((x : Nat) : Int) ∧ ((x : Nat) : Int) < (((row (numI k) x ++ List.drop x l).length : Nat) : Int)) ∧ (-9223372036854775808 ≤ k + ((x : Nat) :
      Int) + 1 ∧ k + ((x : Nat) : Int) + 1 ≤ 9223372036854775807) ∧ (-9223372036854775808 ≤ ((x : Nat) : Int) + 1 ∧ ((x : Nat) : Int) + 1 ≤ 9223372036854775807) ∧ ∃ (x' : Nat), (Slot.own (Ty.slice 2 iT)
      ((row (numI k) x ++ List.drop x l).set (((x : Nat) : Int)).toNat (k + ((x : Nat) : Int))) = Slot.own (Ty.slice 2 iT) (row (numI k) x' ++ List.drop x' l) ∧ Slot.val (D.dat (Ty.int IntKind.i64) (k +
      ((x : Nat) : Int) + 1)) = Slot.val (D.dat iT (k + ((x' : Nat) : Int))) ∧ Slot.val (D.dat (Ty.int IntKind.i64) (((x : Nat) : Int) + 1)) = Slot.val (D.dat iT ((x' : Nat) : Int))) ∧ x' ≤ l.length ∧
      l.length - x' < l.length - x) (k + ((x : Nat) : Int) = k + ((l.length : Nat) : Int) ∧ row (numI k) x ++ List.drop x l = row (numI k) l.length)) := by
    intro _ _
    refine ⟨⟨0, ⟨rfl, by simp only [Int.natCast_zero, Int.add_zero], rfl⟩, by omega⟩, fun i hi _ _ _ _ => split_of (fun h => ?_) (fun h => ?_)⟩
    · have h := of_decide_eq_true h
      rw [row_part_len _ hi] at h ⊢
      refine ⟨by omega, by omega, by omega, i + 1, ⟨?_, by rw [show k + ((i + 1 : Nat) : Int) = k + (i : Int) + 1 by omega], rfl⟩, by omega, by omega⟩
      rw [Int.toNat_natCast, row_set (numI k) (l := l) (i := i) (z := k + (i : Int)) (by omega) rfl]
    · have h := of_decide_eq_false h
      rw [row_part_len _ hi] at h
      rw [show i = l.length by omega, List.drop_length, List.append_nil]
      exact ⟨rfl, rfl⟩
  refine @Eq.mpr _ _ (?_) key
  kernel_rfl
noncomputable abbrev heldIInv (m : Nat) (k : Int) (n : Nat) (σ : List Slot) : Option LoopInv := match n with
  | 2 => some ⟨hvAt Try.f28 2, Nat, fun i => [(1, .val (.dat iT (k + (i : Int)))), (5, .val (.dat iT (i : Int)))], fun i => i ≤ m, fun i => m - i⟩
  | _ => none
theorem heldInts_ev (m : Nat) (k : Int) (hl : m ≤ 16777216) (hk : 0 ≤ k ∧ k ≤ 1099511627776) : Ev Try.prog 28 [.imm (.dat (.slice 2 iT) (row (numI k) m)), aI k] (compsOf [rI] (k + (m : Int))) := by
  refine ev_of (l := [rI]) (r := (k + (m : Int))) (types (resT) [] (heldIInv m k)) follows Try.func28 (by kernel_rfl) (by rw [Try.ntmps28]; exact Nat.le_of_ble_eq_true rfl) ?_
  have key : (((row (numI k) m).length ≤ 9223372036854775807 ∧ ∀ (x : Int), List.Mem x (row (numI k) m) → inR IntKind.i64 x) → inR IntKind.i64 k → (∃ (x0 : Nat), (Slot.val (D.dat (Ty.int IntKind.i64) k) = Slot.val
      (D.dat iT (k + ((x0 : Nat) : Int))) ∧ Slot.val (D.dat (Ty.int IntKind.i64) 0) = Slot.val (D.dat iT ((x0 : Nat) : Int))) ∧ x0 ≤ m) ∧ ∀ (x : Nat), x ≤ m → inR IntKind.i64 (k + ((x : Nat) : Int)) → inR
      IntKind.i64 ((x : Nat) : Int) → (((row (numI k) m).length : Nat) : Int) ≤ 9223372036854775807 → split (decide (((x : Nat) : Int) < (((row (numI k) m).length : Nat) : Int))) ((0 ≤ ((x : Nat) : Int) ∧
      ((x : Nat) : Int) < (((row (numI k) m).length : Nat) : Int)) ∧ (inR IntKind.i64 ((row (numI k) m).getD (((x : Nat) : Int)).toNat 0) → split (!decide ((row (numI k) m).getD (((x : Nat) : Int)).toNat 0
      = k + ((x : Nat) : Int))) (-1 = k + ((m : Nat) : Int)) ((-9223372036854775808 ≤ k + ((x : Nat) : Int) + 1 ∧ k + ((x : Nat) : Int) + 1 ≤ 9223372036854775807) ∧ (-9223372036854775808 ≤ ((x : Nat) :
      Int) + 1 ∧ ((x : Nat) : Int) + 1 ≤ 9223372036854775807) ∧ ∃ (x' : Nat), (Slot.val (D.dat (Ty.int IntKind.i64) (k + ((x : Nat) : Int) + 1)) = Slot.val (D.dat iT (k + ((x' : Nat) : Int))) ∧ Slot.val
      (D.dat (Ty.int IntKind.i64) (((x : Nat) : Int) + 1)) = Slot.val (D.dat iT ((x' : Nat) : Int))) ∧ x' ≤ m ∧ m - x' < m - x))) (k + ((x : Nat) : Int) = k + ((m : Nat) : Int))) := by
    intro _ _
    refine ⟨⟨0, ⟨by simp only [Int.natCast_zero, Int.add_zero], rfl⟩, by omega⟩, fun i hi _ _ _ => split_of (fun h => ?_) (fun h => ?_)⟩
    · have h := of_decide_eq_true h
      rw [row_len] at h ⊢
      rw [Int.toNat_natCast, row_getD _ (by omega)]
      refine ⟨by omega, fun _ => split_of (fun h2 => ?_) (fun h2 => ⟨by omega, by omega, i + 1, ⟨by rw [show k + ((i + 1 : Nat) : Int) = k + (i : Int) + 1 by omega], rfl⟩, by omega, by omega⟩)⟩
      simp [numI] at h2
    · have h := of_decide_eq_false h
      rw [row_len] at h
      rw [show i = m by omega]
  refine @Eq.mpr _ _ (?_) key
  kernel_rfl
def numS (k : Int) (i : Nat) : Sl := (w8 (k + 4 * (i : Int)), w8 (k + 4 * (i : Int) + 1), w8 (k + 4 * (i : Int) + 1 + 1), w8 (k + 4 * (i : Int) + 1 + 1 + 1))
noncomputable abbrev markSInv (l : List Sl) (k : Int) (n : Nat) (σ : List Slot) : Option LoopInv := match n with
  | 2 => some ⟨0 :: hvAt Try.f50 2, Nat, fun i => [(0, .own (.slice 41 slabT) (row (numS k) i ++ l.drop i)), (1, .val (.dat iT (k + 4 * (i : Int)))), (5, .val (.dat iT (i : Int)))], fun i => i ≤ l.length, fun i => l.length - i⟩
  | _ => none
theorem markSlabs_ev (l : List Sl) (k : Int) (hl : l.length ≤ 16777216) (hk : 0 ≤ k ∧ k ≤ 1099511627776) : EvB Try.prog 50 (.slice 41 slabT) (l) [aI k] (compsOf [rI] (k + 4 * (l.length : Int))) (row (numS k) l.length) := by
  refine evB_of (t0 := .slice 41 slabT) (x0 := l) (y0 := row (numS k) l.length) (l := [rI]) (r := (k + 4 * (l.length : Int))) (types (resT) [999999] (markSInv l k)) follows Try.func50 (by kernel_rfl) (by rw [Try.ntmps50]; exact Nat.le_of_ble_eq_true rfl) ?_
  have key : ((l.length ≤ 9223372036854775807 ∧ ∀ (x : Int × Int × Int × Int), List.Mem x l → inR IntKind.i8 x.fst ∧ inR IntKind.i8 x.snd.fst ∧ inR IntKind.i8 x.snd.snd.fst ∧ inR IntKind.i8 x.snd.snd.snd) → inR
      IntKind.i64 k → (∃ (x0 : Nat), (Slot.own (Ty.slice 41 slabT) l = Slot.own (Ty.slice 41 slabT) (row (numS k) x0 ++ List.drop x0 l) ∧ Slot.val (D.dat (Ty.int IntKind.i64) k) = Slot.val (D.dat iT (k + 4
      * ((x0 : Nat) : Int))) ∧ Slot.val (D.dat (Ty.int IntKind.i64) 0) = Slot.val (D.dat iT ((x0 : Nat) : Int))) ∧ x0 ≤ l.length) ∧ ∀ (x : Nat), x ≤ l.length → ((row (numS k) x ++ List.drop x l).length ≤
      9223372036854775807 ∧ ∀ (x_1 : Int × Int × Int × Int), List.Mem x_1 (row (numS k) x ++ List.drop x l) → inR IntKind.i8 x_1.fst ∧ inR IntKind.i8 x_1.snd.fst ∧ inR IntKind.i8 x_1.snd.snd.fst ∧ inR
      IntKind.i8 x_1.snd.snd.snd) → inR IntKind.i64 (k + 4 * ((x : Nat) : Int)) → inR IntKind.i64 ((x : Nat) : Int) → (((row (numS k) x ++ List.drop x l).length : Nat) : Int) ≤ 9223372036854775807 → split
      (decide (((x : Nat) : Int) < (((row (numS k) x ++ List.drop x l).length : Nat) : Int))) ((0 ≤ ((x : Nat) : Int) ∧ ((x : Nat) : Int) < (((row (numS k) x ++ List.drop x l).length : Nat) : Int)) ∧
      (-9223372036854775808 ≤ k + 4 * ((x : Nat) : Int) + 1 ∧ k + 4 * ((x : Nat) : Int) + 1 ≤ 9223372036854775807) ∧ (0 ≤ ((x : Nat) : Int) ∧ ((x : Nat) : Int) < ((((row (numS k) x ++ List.drop x l).set
      (((x : Nat) : Int)).toNat (IntKind.i8.wrap (k + 4 * ((x : Nat) : Int)), ((row (numS k) x ++ List.drop x l).getD (((x : Nat) : Int)).toNat (0, 0, 0, 0)).snd)).length : Nat) : Int)) ∧
      (-9223372036854775808 ≤ k + 4 * ((x : Nat) : Int) + 1 + 1 ∧ k + 4 * ((x : Nat) : Int) + 1 + 1 ≤ 9223372036854775807) ∧ (0 ≤ ((x : Nat) : Int) ∧ ((x : Nat) : Int) < (((((row (numS k) x ++ List.drop x
      l).set (((x : Nat) : Int)).toNat (IntKind.i8.wrap (k + 4 * ((x : Nat) : Int)), ((row (numS k) x ++ List.drop x l).getD (((x : Nat) : Int)).toNat (0, 0, 0, 0)).snd)).set (((x : Nat) : Int)).toNat
      ((((row (numS k) x ++ List.drop x l).set (((x : Nat) : Int)).toNat (IntKind.i8.wrap (k + 4 * ((x : Nat) : Int)), ((row (numS k) x ++ List.drop x l).getD (((x : Nat) : Int)).toNat (0, 0, 0,
      0)).snd)).getD (((x : Nat) : Int)).toNat (0, 0, 0, 0)).fst, IntKind.i8.wrap (k + 4 * ((x : Nat) : Int) + 1), (((row (numS k) x ++ List.drop x l).set (((x : Nat) : Int)).toNat (IntKind.i8.wrap (k + 4
      * ((x : Nat) : Int)), ((row (numS k) x ++ List.drop x l).getD (((x : Nat) : Int)).toNat (0, 0, 0, 0)).snd)).getD (((x : Nat) : Int)).toNat (0, 0, 0, 0)).snd.snd)).length : Nat) : Int)) ∧
      (-9223372036854775808 ≤ k + 4 * ((x : Nat) : Int) + 1 + 1 + 1 ∧ k + 4 * ((x : Nat) : Int) + 1 + 1 + 1 ≤ 9223372036854775807) ∧ (0 ≤ ((x : Nat) : Int) ∧ ((x : Nat) : Int) < ((((((row (numS k) x ++
      List.drop x l).set (((x : Nat) : Int)).toNat (IntKind.i8.wrap (k + 4 * ((x : Nat) : Int)), ((row (numS k) x ++ List.drop x l).getD (((x : Nat) : Int)).toNat (0, 0, 0, 0)).snd)).set (((x : Nat) :
      Int)).toNat ((((row (numS k) x ++ List.drop x l).set (((x : Nat) : Int)).toNat (IntKind.i8.wrap (k + 4 * ((x : Nat) : Int)), ((row (numS k) x ++ List.drop x l).getD (((x : Nat) : Int)).toNat (0, 0,
      0, 0)).snd)).getD (((x : Nat) : Int)).toNat (0, 0, 0, 0)).fst, IntKind.i8.wrap (k + 4 * ((x : Nat) : Int) + 1), (((row (numS k) x ++ List.drop x l).set (((x : Nat) : Int)).toNat (IntKind.i8.wrap (k +
      4 * ((x : Nat) : Int)), ((row (numS k) x ++ List.drop x l).getD (((x : Nat) : Int)).toNat (0, 0, 0, 0)).snd)).getD (((x : Nat) : Int)).toNat (0, 0, 0, 0)).snd.snd)).set (((x : Nat) : Int)).toNat
      (((((row (numS k) x ++ List.drop x l).set (((x : Nat) : Int)).toNat (IntKind.i8.wrap (k + 4 * ((x : Nat) : Int)), ((row (numS k) x ++ List.drop x l).getD (((x : Nat) : Int)).toNat (0, 0, 0,
      0)).snd)).set (((x : Nat) : Int)).toNat ((((row (numS k) x ++ List.drop x l).set (((x : Nat) : Int)).toNat (IntKind.i8.wrap (k + 4 * ((x : Nat) : Int)), ((row (numS k) x ++ List.drop x l).getD (((x :
      Nat) : Int)).toNat (0, 0, 0, 0)).snd)).getD (((x : Nat) : Int)).toNat (0, 0, 0, 0)).fst, IntKind.i8.wrap (k + 4 * ((x : Nat) : Int) + 1), (((row (numS k) x ++ List.drop x l).set (((x : Nat) :
      Int)).toNat (IntKind.i8.wrap (k + 4 * ((x : Nat) : Int)), ((row (numS k) x ++ List.drop x l).getD (((x : Nat) : Int)).toNat (0, 0, 0, 0)).snd)).getD (((x : Nat) : Int)).toNat (0, 0, 0,
      0)).snd.snd)).getD (((x : Nat) : Int)).toNat (0, 0, 0, 0)).fst, ((((row (numS k) x ++ List.drop x l).set (((x : Nat) : Int)).toNat (IntKind.i8.wrap (k + 4 * ((x : Nat) : Int)), ((row (numS k) x ++
      List.drop x l).getD (((x : Nat) : Int)).toNat (0, 0, 0, 0)).snd)).set (((x : Nat) : Int)).toNat ((((row (numS k) x ++ List.drop x l).set (((x : Nat) : Int)).toNat (IntKind.i8.wrap (k + 4 * ((x : Nat)
      : Int)), ((row (numS k) x ++ List.drop x l).getD (((x : Nat) : Int)).toNat (0, 0, 0, 0)).snd)).getD (((x : Nat) : Int)).toNat (0, 0, 0, 0)).fst, IntKind.i8.wrap (k + 4 * ((x : Nat) : Int) + 1),
      (((row (numS k) x ++ List.drop x l).set (((x : Nat) : Int)).toNat (IntKind.i8.wrap (k + 4 * ((x : Nat) : Int)), ((row (numS k) x ++ List.drop x l).getD (((x : Nat) : Int)).toNat (0, 0, 0,
      0)).snd)).getD (((x : Nat) : Int)).toNat (0, 0, 0, 0)).snd.snd)).getD (((x : Nat) : Int)).toNat (0, 0, 0, 0)).snd.fst, IntKind.i8.wrap (k + 4 * ((x : Nat) : Int) + 1 + 1), ((((row (numS k) x ++
      List.drop x l).set (((x : Nat) : Int)).toNat (IntKind.i8.wrap (k + 4 * ((x : Nat) : Int)), ((row (numS k) x ++ List.drop x l).getD (((x : Nat) : Int)).toNat (0, 0, 0, 0)).snd)).set (((x : Nat) :
      Int)).toNat ((((row (numS k) x ++ List.drop x l).set (((x : Nat) : Int)).toNat (IntKind.i8.wrap (k + 4 * ((x : Nat) : Int)), ((row (numS k) x ++ List.drop x l).getD (((x : Nat) : Int)).toNat (0, 0,
      0, 0)).snd)).getD (((x : Nat) : Int)).toNat (0, 0, 0, 0)).fst, IntKind.i8.wrap (k + 4 * ((x : Nat) : Int) + 1), (((row (numS k) x ++ List.drop x l).set (((x : Nat) : Int)).toNat (IntKind.i8.wrap (k +
      4 * ((x : Nat) : Int)), ((row (numS k) x ++ List.drop x l).getD (((x : Nat) : Int)).toNat (0, 0, 0, 0)).snd)).getD (((x : Nat) : Int)).toNat (0, 0, 0, 0)).snd.snd)).getD (((x : Nat) : Int)).toNat (0,
      0, 0, 0)).snd.snd.snd)).length : Nat) : Int)) ∧ (-9223372036854775808 ≤ k + 4 * ((x : Nat) : Int) + 1 + 1 + 1 + 1 ∧ k + 4 * ((x : Nat) : Int) + 1 + 1 + 1 + 1 ≤ 9223372036854775807) ∧
      (-9223372036854775808 ≤ ((x : Nat) : Int) + 1 ∧ ((x : Nat) : Int) + 1 ≤ 9223372036854775807) ∧ ∃ (x' : Nat), (Slot.own (Ty.slice 41 slabT) (((((row (numS k) x ++ List.drop x l).set (((x : Nat) :
      Int)).toNat (IntKind.i8.wrap (k + 4 * ((x : Nat) : Int)), ((row (numS k) x ++ List.drop x l).getD (((x : Nat) : Int)).toNat (0, 0, 0, 0)).snd)).set (((x : Nat) : Int)).toNat ((((row (numS k) x ++
      List.drop x l).set (((x : Nat) : Int)).toNat (IntKind.i8.wrap (k + 4 * ((x : Nat) : Int)), ((row (numS k) x ++ List.drop x l).getD (((x : Nat) : Int)).toNat (0, 0, 0, 0)).snd)).getD (((x : Nat) :
      Int)).toNat (0, 0, 0, 0)).fst, IntKind.i8.wrap (k + 4 * ((x : Nat) : Int) + 1), (((row (numS k) x ++ List.drop x l).set (((x : Nat) : Int)).toNat (IntKind.i8.wrap (k + 4 * ((x : Nat) : Int)), ((row
      (numS k) x ++ List.drop x l).getD (((x : Nat) : Int)).toNat (0, 0, 0, 0)).snd)).getD (((x : Nat) : Int)).toNat (0, 0, 0, 0)).snd.snd)).set (((x : Nat) : Int)).toNat (((((row (numS k) x ++ List.drop x
      l).set (((x : Nat) : Int)).toNat (IntKind.i8.wrap (k + 4 * ((x : Nat) : Int)), ((row (numS k) x ++ List.drop x l).getD (((x : Nat) : Int)).toNat (0, 0, 0, 0)).snd)).set (((x : Nat) : Int)).toNat
      ((((row (numS k) x ++ List.drop x l).set (((x : Nat) : Int)).toNat (IntKind.i8.wrap (k + 4 * ((x : Nat) : Int)), ((row (numS k) x ++ List.drop x l).getD (((x : Nat) : Int)).toNat (0, 0, 0,
      0)).snd)).getD (((x : Nat) : Int)).toNat (0, 0, 0, 0)).fst, IntKind.i8.wrap (k + 4 * ((x : Nat) : Int) + 1), (((row (numS k) x ++ List.drop x l).set (((x : Nat) : Int)).toNat (IntKind.i8.wrap (k + 4
      * ((x : Nat) : Int)), ((row (numS k) x ++ List.drop x l).getD (((x : Nat) : Int)).toNat (0, 0, 0, 0)).snd)).getD (((x : Nat) : Int)).toNat (0, 0, 0, 0)).snd.snd)).getD (((x : Nat) : Int)).toNat (0,
      0, 0, 0)).fst, ((((row (numS k) x ++ List.drop x l).set (((x : Nat) : Int)).toNat (IntKind.i8.wrap (k + 4 * ((x : Nat) : Int)), ((row (numS k) x ++ List.drop x l).getD (((x : Nat) : Int)).toNat (0,
      0, 0, 0)).snd)).set (((x : Nat) : Int)).toNat ((((row (numS k) x ++ List.drop x l).set (((x : Nat) : Int)).toNat (IntKind.i8.wrap (k + 4 * ((x : Nat) : Int)), ((row (numS k) x ++ List.drop x l).getD
      (((x : Nat) : Int)).toNat (0, 0, 0, 0)).snd)).getD (((x : Nat) : Int)).toNat (0, 0, 0, 0)).fst, IntKind.i8.wrap (k + 4 * ((x : Nat) : Int) + 1), (((row (numS k) x ++ List.drop x l).set (((x : Nat) :
      Int)).toNat (IntKind.i8.wrap (k + 4 * ((x : Nat) : Int)), ((row (numS k) x ++ List.drop x l).getD (((x : Nat) : Int)).toNat (0, 0, 0, 0)).snd)).getD (((x : Nat) : Int)).toNat (0, 0, 0,
      0)).snd.snd)).getD (((x : Nat) : Int)).toNat (0, 0, 0, 0)).snd.fst, IntKind.i8.wrap (k + 4 * ((x : Nat) : Int) + 1 + 1), ((((row (numS k) x ++ List.drop x l).set (((x : Nat) : Int)).toNat
      (IntKind.i8.wrap (k + 4 * ((x : Nat) : Int)), ((row (numS k) x ++ List.drop x l).getD (((x : Nat) : Int)).toNat (0, 0, 0, 0)).snd)).set (((x : Nat) : Int)).toNat ((((row (numS k) x ++ List.drop x
      l).set (((x : Nat) : Int)).toNat (IntKind.i8.wrap (k + 4 * ((x : Nat) : Int)), ((row (numS k) x ++ List.drop x l).getD (((x : Nat) : Int)).toNat (0, 0, 0, 0)).snd)).getD (((x : Nat) : Int)).toNat (0,
      0, 0, 0)).fst, IntKind.i8.wrap (k + 4 * ((x : Nat) : Int) + 1), (((row (numS k) x ++ List.drop x l).set (((x : Nat) : Int)).toNat (IntKind.i8.wrap (k + 4 * ((x : Nat) : Int)), ((row (numS k) x ++
      List.drop x l).getD (((x : Nat) : Int)).toNat (0, 0, 0, 0)).snd)).getD (((x : Nat) : Int)).toNat (0, 0, 0, 0)).snd.snd)).getD (((x : Nat) : Int)).toNat (0, 0, 0, 0)).snd.snd.snd)).set (((x : Nat) :
      Int)).toNat ((((((row (numS k) x ++ List.drop x l).set (((x : Nat) : Int)).toNat (IntKind.i8.wrap (k + 4 * ((x : Nat) : Int)), ((row (numS k) x ++ List.drop x l).getD (((x : Nat) : Int)).toNat (0, 0,
      0, 0)).snd)).set (((x : Nat) : Int)).toNat ((((row (numS k) x ++ List.drop x l).set (((x : Nat) : Int)).toNat (IntKind.i8.wrap (k + 4 * ((x : Nat) : Int)), ((row (numS k) x ++ List.drop x l).getD
      (((x : Nat) : Int)).toNat (0, 0, 0, 0)).snd)).getD (((x : Nat) : Int)).toNat (0, 0, 0, 0)).fst, IntKind.i8.wrap (k + 4 * ((x : Nat) : Int) + 1), (((row (numS k) x ++ List.drop x l).set (((x : Nat) :
      Int)).toNat (IntKind.i8.wrap (k + 4 * ((x : Nat) : Int)), ((row (numS k) x ++ List.drop x l).getD (((x : Nat) : Int)).toNat (0, 0, 0, 0)).snd)).getD (((x : Nat) : Int)).toNat (0, 0, 0,
      0)).snd.snd)).set (((x : Nat) : Int)).toNat (((((row (numS k) x ++ List.drop x l).set (((x : Nat) : Int)).toNat (IntKind.i8.wrap (k + 4 * ((x : Nat) : Int)), ((row (numS k) x ++ List.drop x l).getD
      (((x : Nat) : Int)).toNat (0, 0, 0, 0)).snd)).set (((x : Nat) : Int)).toNat ((((row (numS k) x ++ List.drop x l).set (((x : Nat) : Int)).toNat (IntKind.i8.wrap (k + 4 * ((x : Nat) : Int)), ((row
      (numS k) x ++ List.drop x l).getD (((x : Nat) : Int)).toNat (0, 0, 0, 0)).snd)).getD (((x : Nat) : Int)).toNat (0, 0, 0, 0)).fst, IntKind.i8.wrap (k + 4 * ((x : Nat) : Int) + 1), (((row (numS k) x ++
      List.drop x l).set (((x : Nat) : Int)).toNat (IntKind.i8.wrap (k + 4 * ((x : Nat) : Int)), ((row (numS k) x ++ List.drop x l).getD (((x : Nat) : Int)).toNat (0, 0, 0, 0)).snd)).getD (((x : Nat) :
      Int)).toNat (0, 0, 0, 0)).snd.snd)).getD (((x : Nat) : Int)).toNat (0, 0, 0, 0)).fst, ((((row (numS k) x ++ List.drop x l).set (((x : Nat) : Int)).toNat (IntKind.i8.wrap (k + 4 * ((x : Nat) : Int)),
      ((row (numS k) x ++ List.drop x l).getD (((x : Nat) : Int)).toNat (0, 0, 0, 0)).snd)).set (((x : Nat) : Int)).toNat ((((row (numS k) x ++ List.drop x l).set (((x : Nat) : Int)).toNat (IntKind.i8.wrap
      (k + 4 * ((x : Nat) : Int)), ((row (numS k) x ++ List.drop x l).getD (((x : Nat) : Int)).toNat (0, 0, 0, 0)).snd)).getD (((x : Nat) : Int)).toNat (0, 0, 0, 0)).fst, IntKind.i8.wrap (k + 4 * ((x :
      Nat) : Int) + 1), (((row (numS k) x ++ List.drop x l).set (((x : Nat) : Int)).toNat (IntKind.i8.wrap (k + 4 * ((x : Nat) : Int)), ((row (numS k) x ++ List.drop x l).getD (((x : Nat) : Int)).toNat (0,
      0, 0, 0)).snd)).getD (((x : Nat) : Int)).toNat (0, 0, 0, 0)).snd.snd)).getD (((x : Nat) : Int)).toNat (0, 0, 0, 0)).snd.fst, IntKind.i8.wrap (k + 4 * ((x : Nat) : Int) + 1 + 1), ((((row (numS k) x ++
      List.drop x l).set (((x : Nat) : Int)).toNat (IntKind.i8.wrap (k + 4 * ((x : Nat) : Int)), ((row (numS k) x ++ List.drop x l).getD (((x : Nat) : Int)).toNat (0, 0, 0, 0)).snd)).set (((x : Nat) :
      Int)).toNat ((((row (numS k) x ++ List.drop x l).set (((x : Nat) : Int)).toNat (IntKind.i8.wrap (k + 4 * ((x : Nat) : Int)), ((row (numS k) x ++ List.drop x l).getD (((x : Nat) : Int)).toNat (0, 0,
      0, 0)).snd)).getD (((x : Nat) : Int)).toNat (0, 0, 0, 0)).fst, IntKind.i8.wrap (k + 4 * ((x : Nat) : Int) + 1), (((row (numS k) x ++ List.drop x l).set (((x : Nat) : Int)).toNat (IntKind.i8.wrap (k +
      4 * ((x : Nat) : Int)), ((row (numS k) x ++ List.drop x l).getD (((x : Nat) : Int)).toNat (0, 0, 0, 0)).snd)).getD (((x : Nat) : Int)).toNat (0, 0, 0, 0)).snd.snd)).getD (((x : Nat) : Int)).toNat (0,
      0, 0, 0)).snd.snd.snd)).getD (((x : Nat) : Int)).toNat (0, 0, 0, 0)).fst, (((((row (numS k) x ++ List.drop x l).set (((x : Nat) : Int)).toNat (IntKind.i8.wrap (k + 4 * ((x : Nat) : Int)), ((row (numS
      k) x ++ List.drop x l).getD (((x : Nat) : Int)).toNat (0, 0, 0, 0)).snd)).set (((x : Nat) : Int)).toNat ((((row (numS k) x ++ List.drop x l).set (((x : Nat) : Int)).toNat (IntKind.i8.wrap (k + 4 *
      ((x : Nat) : Int)), ((row (numS k) x ++ List.drop x l).getD (((x : Nat) : Int)).toNat (0, 0, 0, 0)).snd)).getD (((x : Nat) : Int)).toNat (0, 0, 0, 0)).fst, IntKind.i8.wrap (k + 4 * ((x : Nat) : Int)
      + 1), (((row (numS k) x ++ List.drop x l).set (((x : Nat) : Int)).toNat (IntKind.i8.wrap (k + 4 * ((x : Nat) : Int)), ((row (numS k) x ++ List.drop x l).getD (((x : Nat) : Int)).toNat (0, 0, 0,
      0)).snd)).getD (((x : Nat) : Int)).toNat (0, 0, 0, 0)).snd.snd)).set (((x : Nat) : Int)).toNat (((((row (numS k) x ++ List.drop x l).set (((x : Nat) : Int)).toNat (IntKind.i8.wrap (k + 4 * ((x : Nat)
      : Int)), ((row (numS k) x ++ List.drop x l).getD (((x : Nat) : Int)).toNat (0, 0, 0, 0)).snd)).set (((x : Nat) : Int)).toNat ((((row (numS k) x ++ List.drop x l).set (((x : Nat) : Int)).toNat
      (IntKind.i8.wrap (k + 4 * ((x : Nat) : Int)), ((row (numS k) x ++ List.drop x l).getD (((x : Nat) : Int)).toNat (0, 0, 0, 0)).snd)).getD (((x : Nat) : Int)).toNat (0, 0, 0, 0)).fst, IntKind.i8.wrap
      (k + 4 * ((x : Nat) : Int) + 1), (((row (numS k) x ++ List.drop x l).set (((x : Nat) : Int)).toNat (IntKind.i8.wrap (k + 4 * ((x : Nat) : Int)), ((row (numS k) x ++ List.drop x l).getD (((x : Nat) :
      Int)).toNat (0, 0, 0, 0)).snd)).getD (((x : Nat) : Int)).toNat (0, 0, 0, 0)).snd.snd)).getD (((x : Nat) : Int)).toNat (0, 0, 0, 0)).fst, ((((row (numS k) x ++ List.drop x l).set (((x : Nat) :
      Int)).toNat (IntKind.i8.wrap (k + 4 * ((x : Nat) : Int)), ((row (numS k) x ++ List.drop x l).getD (((x : Nat) : Int)).toNat (0, 0, 0, 0)).snd)).set (((x : Nat) : Int)).toNat ((((row (numS k) x ++
      List.drop x l).set (((x : Nat) : Int)).toNat (IntKind.i8.wrap (k + 4 * ((x : Nat) : Int)), ((row (numS k) x ++ List.drop x l).getD (((x : Nat) : Int)).toNat (0, 0, 0, 0)).snd)).getD (((x : Nat) :
      Int)).toNat (0, 0, 0, 0)).fst, IntKind.i8.wrap (k + 4 * ((x : Nat) : Int) + 1), (((row (numS k) x ++ List.drop x l).set (((x : Nat) : Int)).toNat (IntKind.i8.wrap (k + 4 * ((x : Nat) : Int)), ((row
      (numS k) x ++ List.drop x l).getD (((x : Nat) : Int)).toNat (0, 0, 0, 0)).snd)).getD (((x : Nat) : Int)).toNat (0, 0, 0, 0)).snd.snd)).getD (((x : Nat) : Int)).toNat (0, 0, 0, 0)).snd.fst,
      IntKind.i8.wrap (k + 4 * ((x : Nat) : Int) + 1 + 1), ((((row (numS k) x ++ List.drop x l).set (((x : Nat) : Int)).toNat (IntKind.i8.wrap (k + 4 * ((x : Nat) : Int)), ((row (numS k) x ++ List.drop x
      l).getD (((x : Nat) : Int)).toNat (0, 0, 0, 0)).snd)).set (((x : Nat) : Int)).toNat ((((row (numS k) x ++ List.drop x l).set (((x : Nat) : Int)).toNat (IntKind.i8.wrap (k + 4 * ((x : Nat) : Int)),
      ((row (numS k) x ++ List.drop x l).getD (((x : Nat) : Int)).toNat (0, 0, 0, 0)).snd)).getD (((x : Nat) : Int)).toNat (0, 0, 0, 0)).fst, IntKind.i8.wrap (k + 4 * ((x : Nat) : Int) + 1), (((row (numS
      k) x ++ List.drop x l).set (((x : Nat) : Int)).toNat (IntKind.i8.wrap (k + 4 * ((x : Nat) : Int)), ((row (numS k) x ++ List.drop x l).getD (((x : Nat) : Int)).toNat (0, 0, 0, 0)).snd)).getD (((x :
      Nat) : Int)).toNat (0, 0, 0, 0)).snd.snd)).getD (((x : Nat) : Int)).toNat (0, 0, 0, 0)).snd.snd.snd)).getD (((x : Nat) : Int)).toNat (0, 0, 0, 0)).snd.fst, (((((row (numS k) x ++ List.drop x l).set
      (((x : Nat) : Int)).toNat (IntKind.i8.wrap (k + 4 * ((x : Nat) : Int)), ((row (numS k) x ++ List.drop x l).getD (((x : Nat) : Int)).toNat (0, 0, 0, 0)).snd)).set (((x : Nat) : Int)).toNat ((((row
      (numS k) x ++ List.drop x l).set (((x : Nat) : Int)).toNat (IntKind.i8.wrap (k + 4 * ((x : Nat) : Int)), ((row (numS k) x ++ List.drop x l).getD (((x : Nat) : Int)).toNat (0, 0, 0, 0)).snd)).getD
      (((x : Nat) : Int)).toNat (0, 0, 0, 0)).fst, IntKind.i8.wrap (k + 4 * ((x : Nat) : Int) + 1), (((row (numS k) x ++ List.drop x l).set (((x : Nat) : Int)).toNat (IntKind.i8.wrap (k + 4 * ((x : Nat) :
      Int)), ((row (numS k) x ++ List.drop x l).getD (((x : Nat) : Int)).toNat (0, 0, 0, 0)).snd)).getD (((x : Nat) : Int)).toNat (0, 0, 0, 0)).snd.snd)).set (((x : Nat) : Int)).toNat (((((row (numS k) x
      ++ List.drop x l).set (((x : Nat) : Int)).toNat (IntKind.i8.wrap (k + 4 * ((x : Nat) : Int)), ((row (numS k) x ++ List.drop x l).getD (((x : Nat) : Int)).toNat (0, 0, 0, 0)).snd)).set (((x : Nat) :
      Int)).toNat ((((row (numS k) x ++ List.drop x l).set (((x : Nat) : Int)).toNat (IntKind.i8.wrap (k + 4 * ((x : Nat) : Int)), ((row (numS k) x ++ List.drop x l).getD (((x : Nat) : Int)).toNat (0, 0,
      0, 0)).snd)).getD (((x : Nat) : Int)).toNat (0, 0, 0, 0)).fst, IntKind.i8.wrap (k + 4 * ((x : Nat) : Int) + 1), (((row (numS k) x ++ List.drop x l).set (((x : Nat) : Int)).toNat (IntKind.i8.wrap (k +
      4 * ((x : Nat) : Int)), ((row (numS k) x ++ List.drop x l).getD (((x : Nat) : Int)).toNat (0, 0, 0, 0)).snd)).getD (((x : Nat) : Int)).toNat (0, 0, 0, 0)).snd.snd)).getD (((x : Nat) : Int)).toNat (0,
      0, 0, 0)).fst, ((((row (numS k) x ++ List.drop x l).set (((x : Nat) : Int)).toNat (IntKind.i8.wrap (k + 4 * ((x : Nat) : Int)), ((row (numS k) x ++ List.drop x l).getD (((x : Nat) : Int)).toNat (0,
      0, 0, 0)).snd)).set (((x : Nat) : Int)).toNat ((((row (numS k) x ++ List.drop x l).set (((x : Nat) : Int)).toNat (IntKind.i8.wrap (k + 4 * ((x : Nat) : Int)), ((row (numS k) x ++ List.drop x l).getD
      (((x : Nat) : Int)).toNat (0, 0, 0, 0)).snd)).getD (((x : Nat) : Int)).toNat (0, 0, 0, 0)).fst, IntKind.i8.wrap (k + 4 * ((x : Nat) : Int) + 1), (((row (numS k) x ++ List.drop x l).set (((x : Nat) :
      Int)).toNat (IntKind.i8.wrap (k + 4 * ((x : Nat) : Int)), ((row (numS k) x ++ List.drop x l).getD (((x : Nat) : Int)).toNat (0, 0, 0, 0)).snd)).getD (((x : Nat) : Int)).toNat (0, 0, 0,
      0)).snd.snd)).getD (((x : Nat) : Int)).toNat (0, 0, 0, 0)).snd.fst, IntKind.i8.wrap (k + 4 * ((x : Nat) : Int) + 1 + 1), ((((row (numS k) x ++ List.drop x l).set (((x : Nat) : Int)).toNat
      (IntKind.i8.wrap (k + 4 * ((x : Nat) : Int)), ((row (numS k) x ++ List.drop x l).getD (((x : Nat) : Int)).toNat (0, 0, 0, 0)).snd)).set (((x : Nat) : Int)).toNat ((((row (numS k) x ++ List.drop x
      l).set (((x : Nat) : Int)).toNat (IntKind.i8.wrap (k + 4 * ((x : Nat) : Int)), ((row (numS k) x ++ List.drop x l).getD (((x : Nat) : Int)).toNat (0, 0, 0, 0)).snd)).getD (((x : Nat) : Int)).toNat (0,
      0, 0, 0)).fst, IntKind.i8.wrap (k + 4 * ((x : Nat) : Int) + 1), (((row (numS k) x ++ List.drop x l).set (((x : Nat) : Int)).toNat (IntKind.i8.wrap (k + 4 * ((x : Nat) : Int)), ((row (numS k) x ++
      List.drop x l).getD (((x : Nat) : Int)).toNat (0, 0, 0, 0)).snd)).getD (((x : Nat) : Int)).toNat (0, 0, 0, 0)).snd.snd)).getD (((x : Nat) : Int)).toNat (0, 0, 0, 0)).snd.snd.snd)).getD (((x : Nat) :
      Int)).toNat (0, 0, 0, 0)).snd.snd.fst, IntKind.i8.wrap (k + 4 * ((x : Nat) : Int) + 1 + 1 + 1))) = Slot.own (Ty.slice 41 slabT) (row (numS k) x' ++ List.drop x' l) ∧ Slot.val (D.dat (Ty.int
      IntKind.i64) (k + 4 * ((x : Nat) : Int) + 1 + 1 + 1 + 1)) = Slot.val (D.dat iT (k + 4 * ((x' : Nat) : Int))) ∧ Slot.val (D.dat (Ty.int IntKind.i64) (((x : Nat) : Int) + 1)) = Slot.val (D.dat iT ((x'
      : Nat) : Int))) ∧ x' ≤ l.length ∧ l.length - x' < l.length - x) (k + 4 * ((x : Nat) : Int) = k + 4 * ((l.length : Nat) : Int) ∧ row (numS k) x ++ List.drop x l = row (numS k) l.length)) := by
    intro _ _
    refine ⟨⟨0, ⟨rfl, by simp, rfl⟩, by omega⟩, fun i hi _ _ _ _ => split_of (fun h => ?_) (fun h => ?_)⟩
    · have h := of_decide_eq_true h
      have hLl := row_part_len (numS k) hi
      have hrow := row_set (numS k) (l := l) (i := i) (z := numS k i)
      generalize row (numS k) i ++ l.drop i = L at *
      simp only [Int.toNat_natCast, List.length_set, List.set_set, getD_set_same (show i < L.length by omega)]
      refine ⟨by omega, by omega, by omega, by omega, by omega, by omega, by omega, by omega, by omega, i + 1, ⟨?_, by rw [show k + 4 * ((i + 1 : Nat) : Int) = k + 4 * (i : Int) + 1 + 1 + 1 + 1 by omega], rfl⟩, by omega, by omega⟩
      rw [← hrow (by omega) rfl]; rfl
    · have h := of_decide_eq_false h
      rw [row_part_len _ hi] at h
      rw [show i = l.length by omega, List.drop_length, List.append_nil]
      exact ⟨rfl, rfl⟩
  refine @Eq.mpr _ _ (?_) key
  kernel_rfl
end Go.Proofs.Ytmjijggkdbiijaa
