/- Copies of rows of cells, and marks in them. No statement is proved here. -/
import Derived.Test.YtkhheofgnhndbaaFn
import Derived.Test.YtkhheofgnhndbaaKe
namespace Go.Proofs.Ytkhheofgnhndbaa
open Go.RowKit
set_option linter.unusedVariables false
set_option linter.unusedSimpArgs false
set_option maxRecDepth 100000
set_option maxHeartbeats 4000000
abbrev iT : Ty := .int .i64
theorem clone_ev (l : Cl) (hl : l.length ≤ 16777216) : Ev Try.prog 74 [.imm (.dat (.slice 40 cellT) l)] (compsOf [oC] (l)) := by
  refine ev_of (l := [oC]) (r := (l)) (types (resT) [] (fun _ _ => none)) follows Try.func74 (by kernel_rfl) (by rw [Try.ntmps74]; exact Nat.le_of_ble_eq_true rfl) ?_
  have key : ((List.length l ≤ 9223372036854775807 ∧ ∀ (x : Int × Int), List.Mem x l → inR IntKind.i8 x.fst ∧ inR IntKind.i8 x.snd) → (l = [] → [] = l) ∧ (0 : Nat) + List.length l ≤ 4294967296 ∧ [] ++ l = l) := by
    intros
    exact ⟨fun h => h.symm, by simp; omega, by simp⟩
  refine @Eq.mpr _ _ (?_) key
  kernel_rfl
def withV (g : G) (hs : List (List Int)) : G := (g.1, g.2.1, hs, g.2.2.2)
theorem with_ev (g : G) (hs : List (List Int)) (hl : g.2.2.2.length ≤ 16777216) : Ev Try.prog 66 [aG g, .imm (.dat (.arr 9 (.arr 9 (.int .i16))) hs)] (compsOf [oG] (withV g hs)) := by
  refine ev_of (l := [oG]) (r := (withV g hs)) (types (resT) [] (fun _ _ => none)) follows Try.func66 (by kernel_rfl) (by rw [Try.ntmps66]; exact Nat.le_of_ble_eq_true rfl) ?_
  have key : (inR IntKind.i8 g.fst → inR IntKind.i8 g.snd.fst → (g.snd.snd.fst.length = 9 ∧ ∀ (x : List Int), List.Mem x g.snd.snd.fst → x.length = 9 ∧ ∀ (x_1 : Int), List.Mem x_1 x → inR IntKind.i16 x_1) →
      (g.snd.snd.snd.length ≤ 9223372036854775807 ∧ ∀ (x : Int × Int), List.Mem x g.snd.snd.snd → inR IntKind.i8 x.fst ∧ inR IntKind.i8 x.snd) → (hs.length = 9 ∧ ∀ (x : List Int), List.Mem x hs → x.length
      = 9 ∧ ∀ (x_1 : Int), List.Mem x_1 x → inR IntKind.i16 x_1) → inR IntKind.i8 g.fst → inR IntKind.i8 g.snd.fst → (hs.length = 9 ∧ ∀ (x : List Int), List.Mem x hs → x.length = 9 ∧ ∀ (x_1 : Int),
      List.Mem x_1 x → inR IntKind.i16 x_1) → (g.snd.snd.snd.length ≤ 9223372036854775807 ∧ ∀ (x : Int × Int), List.Mem x g.snd.snd.snd → inR IntKind.i8 x.fst ∧ inR IntKind.i8 x.snd) → ∃ (r : List (Int ×
      Int)), Ev Try.prog 74 [Arg.imm (D.dat (Ty.slice 40 cellT) g.snd.snd.snd)] (compsOf [(true, Ty.slice 40 ((Ty.int IntKind.i8).prod (Ty.int IntKind.i8)))] r) ∧ ((r.length ≤ 9223372036854775807 ∧ ∀ (x :
      Int × Int), List.Mem x r → inR IntKind.i8 x.fst ∧ inR IntKind.i8 x.snd) → (g.fst, g.snd.fst, hs, r) = withV g hs)) := by
    repeat' (first
      | (intro hh; try simp only [inR, loK, hiK] at hh)
      | exact trivial
      | (refine ⟨_, clone_ev _ hl, ?_⟩)
      | (refine And.intro ?_ ?_)
      | (refine split_of (fun hh => ?_) (fun hh => ?_)))
    all_goals (first | omega | rfl | (simp_all [withV]; done) | (simp_all [withV]; omega))
  refine @Eq.mpr _ _ (?_) key
  kernel_rfl
def ownV (g : G) : G := (g.1, g.2.1, g.2.2.1, g.2.2.2)
theorem l04Own_ev (g : G) (hl : g.2.2.2.length ≤ 16777216) : Ev Try.prog 65 [aGp g] (compsOf [oG] (ownV g)) := by
  refine ev_of (l := [oG]) (r := (ownV g)) (types (resT) [] (fun _ _ => none)) follows Try.func65 (by kernel_rfl) (by rw [Try.ntmps65]; exact Nat.le_of_ble_eq_true rfl) ?_
  have key : (inR IntKind.i8 g.fst → inR IntKind.i8 g.snd.fst → (g.snd.snd.fst.length = 9 ∧ ∀ (x : List Int), List.Mem x g.snd.snd.fst → x.length = 9 ∧ ∀ (x_1 : Int), List.Mem x_1 x → inR IntKind.i16 x_1) →
      (g.snd.snd.snd.length ≤ 9223372036854775807 ∧ ∀ (x : Int × Int), List.Mem x g.snd.snd.snd → inR IntKind.i8 x.fst ∧ inR IntKind.i8 x.snd) → (g.snd.snd.snd.length ≤ 9223372036854775807 ∧ ∀ (x : Int ×
      Int), List.Mem x g.snd.snd.snd → inR IntKind.i8 x.fst ∧ inR IntKind.i8 x.snd) → (0 : Nat) + g.snd.snd.snd.length ≤ 4294967296 ∧ (inR IntKind.i8 g.fst → inR IntKind.i8 g.snd.fst →
      (g.snd.snd.fst.length = 9 ∧ ∀ (x : List Int), List.Mem x g.snd.snd.fst → x.length = 9 ∧ ∀ (x_1 : Int), List.Mem x_1 x → inR IntKind.i16 x_1) → (([] ++ g.snd.snd.snd).length ≤ 9223372036854775807 ∧ ∀
      (x : Int × Int), List.Mem x ([] ++ g.snd.snd.snd) → inR IntKind.i8 x.fst ∧ inR IntKind.i8 x.snd) → (g.fst, g.snd.fst, g.snd.snd.fst, [] ++ g.snd.snd.snd) = ownV g)) := by
    intros
    exact ⟨by omega, fun _ _ _ _ => rfl⟩
  refine @Eq.mpr _ _ (?_) key
  kernel_rfl
def w8 (x : Int) : Int := IntKind.i8.wrap x
def numC (k : Int) (i : Nat) : Int × Int := (w8 (k + 2 * (i : Int)), w8 (k + 2 * (i : Int) + 1))
noncomputable abbrev markCInv (l : Cl) (k : Int) (n : Nat) (σ : List Slot) : Option LoopInv := match n with
  | 2 => some ⟨0 :: hvAt Try.f36 2, Nat, fun i => [(0, .own (.slice 40 cellT) (row (numC k) i ++ l.drop i)), (1, .val (.dat iT (k + 2 * (i : Int)))), (5, .val (.dat iT (i : Int)))], fun i => i ≤ l.length, fun i => l.length - i⟩
  | _ => none
theorem markCells_ev (l : Cl) (k : Int) (hl : l.length ≤ 16777216) (hk : 0 ≤ k ∧ k ≤ 1099511627776) : EvB Try.prog 36 (.slice 40 cellT) (l) [aI k] (compsOf [rI] (k + 2 * (l.length : Int))) (row (numC k) l.length) := by
  refine evB_of (t0 := .slice 40 cellT) (x0 := l) (y0 := row (numC k) l.length) (l := [rI]) (r := (k + 2 * (l.length : Int))) (types (resT) [999999] (markCInv l k)) follows Try.func36 (by kernel_rfl) (by rw [Try.ntmps36]; exact Nat.le_of_ble_eq_true rfl) ?_
  have key : ((List.length l ≤ 9223372036854775807 ∧ ∀ (x : Int × Int), List.Mem x l → inR IntKind.i8 x.fst ∧ inR IntKind.i8 x.snd) → inR IntKind.i64 k → (∃ (x0 : Nat), (Slot.own (Ty.slice 40 cellT) l = Slot.own
      (Ty.slice 40 cellT) (row (numC k) x0 ++ List.drop x0 l) ∧ Slot.val (D.dat (Ty.int IntKind.i64) k) = Slot.val (D.dat iT (k + 2 * ((x0 : Nat) : Int))) ∧ Slot.val (D.dat (Ty.int IntKind.i64) 0) =
      Slot.val (D.dat iT ((x0 : Nat) : Int))) ∧ x0 ≤ List.length l) ∧ ∀ (x : Nat), x ≤ List.length l → ((row (numC k) x ++ List.drop x l).length ≤ 9223372036854775807 ∧ ∀ (x_1 : Int × Int), List.Mem x_1
      (row (numC k) x ++ List.drop x l) → inR IntKind.i8 x_1.fst ∧ inR IntKind.i8 x_1.snd) → inR IntKind.i64 (k + 2 * ((x : Nat) : Int)) → inR IntKind.i64 ((x : Nat) : Int) → (((row (numC k) x ++ List.drop
      x l).length : Nat) : Int) ≤ 9223372036854775807 → split (decide (((x : Nat) : Int) < (((row (numC k) x ++ List.drop x l).length : Nat) : Int))) ((0 ≤ ((x : Nat) : Int) ∧ ((x : Nat) : Int) < (((row
      (numC k) x ++ List.drop x l).length : Nat) : Int)) ∧ (-9223372036854775808 ≤ k + 2 * ((x : Nat) : Int) + 1 ∧ k + 2 * ((x : Nat) : Int) + 1 ≤ 9223372036854775807) ∧ (0 ≤ ((x : Nat) : Int) ∧ ((x : Nat)
      : Int) < ((((row (numC k) x ++ List.drop x l).set (((x : Nat) : Int)).toNat (IntKind.i8.wrap (k + 2 * ((x : Nat) : Int)), ((row (numC k) x ++ List.drop x l).getD (((x : Nat) : Int)).toNat (0,
      0)).snd)).length : Nat) : Int)) ∧ (-9223372036854775808 ≤ k + 2 * ((x : Nat) : Int) + 1 + 1 ∧ k + 2 * ((x : Nat) : Int) + 1 + 1 ≤ 9223372036854775807) ∧ (-9223372036854775808 ≤ ((x : Nat) : Int) + 1
      ∧ ((x : Nat) : Int) + 1 ≤ 9223372036854775807) ∧ ∃ (x' : Nat), (Slot.own (Ty.slice 40 cellT) (((row (numC k) x ++ List.drop x l).set (((x : Nat) : Int)).toNat (IntKind.i8.wrap (k + 2 * ((x : Nat) :
      Int)), ((row (numC k) x ++ List.drop x l).getD (((x : Nat) : Int)).toNat (0, 0)).snd)).set (((x : Nat) : Int)).toNat ((((row (numC k) x ++ List.drop x l).set (((x : Nat) : Int)).toNat
      (IntKind.i8.wrap (k + 2 * ((x : Nat) : Int)), ((row (numC k) x ++ List.drop x l).getD (((x : Nat) : Int)).toNat (0, 0)).snd)).getD (((x : Nat) : Int)).toNat (0, 0)).fst, IntKind.i8.wrap (k + 2 * ((x
      : Nat) : Int) + 1))) = Slot.own (Ty.slice 40 cellT) (row (numC k) x' ++ List.drop x' l) ∧ Slot.val (D.dat (Ty.int IntKind.i64) (k + 2 * ((x : Nat) : Int) + 1 + 1)) = Slot.val (D.dat iT (k + 2 * ((x'
      : Nat) : Int))) ∧ Slot.val (D.dat (Ty.int IntKind.i64) (((x : Nat) : Int) + 1)) = Slot.val (D.dat iT ((x' : Nat) : Int))) ∧ x' ≤ List.length l ∧ List.length l - x' < List.length l - x) (k + 2 * ((x :
      Nat) : Int) = k + 2 * (((List.length l) : Nat) : Int) ∧ row (numC k) x ++ List.drop x l = row (numC k) (List.length l))) := by
    intro _ _
    refine ⟨⟨0, ⟨rfl, by simp, rfl⟩, by omega⟩, fun i hi _ _ _ _ => split_of (fun h => ?_) (fun h => ?_)⟩
    · have h := of_decide_eq_true h
      have hLl := row_part_len (numC k) hi
      have hrow := row_set (numC k) (l := l) (i := i) (z := numC k i)
      generalize row (numC k) i ++ l.drop i = L at *
      simp only [Int.toNat_natCast, List.length_set, List.set_set, getD_set_same (show i < L.length by omega)]
      refine ⟨by omega, by omega, by omega, by omega, by omega, i + 1, ⟨?_, by rw [show k + 2 * ((i + 1 : Nat) : Int) = k + 2 * (i : Int) + 1 + 1 by omega], rfl⟩, by omega, by omega⟩
      rw [← hrow (by omega) rfl]; rfl
    · have h := of_decide_eq_false h
      rw [row_part_len _ hi] at h
      rw [show i = l.length by omega, List.drop_length, List.append_nil]
      exact ⟨rfl, rfl⟩
  refine @Eq.mpr _ _ (?_) key
  kernel_rfl
noncomputable abbrev heldCInv (m : Nat) (k : Int) (n : Nat) (σ : List Slot) : Option LoopInv := match n with
  | 2 => some ⟨hvAt Try.f41 2, Nat, fun i => [(1, .val (.dat iT (k + 2 * (i : Int)))), (5, .val (.dat iT (i : Int)))], fun i => i ≤ m, fun i => m - i⟩
  | _ => none
theorem heldCells_ev (m : Nat) (k : Int) (hl : m ≤ 16777216) (hk : 0 ≤ k ∧ k ≤ 1099511627776) : Ev Try.prog 41 [.imm (.dat (.slice 40 cellT) (row (numC k) m)), aI k] (compsOf [rI] (k + 2 * (m : Int))) := by
  refine ev_of (l := [rI]) (r := (k + 2 * (m : Int))) (types (resT) [999999] (heldCInv m k)) follows Try.func41 (by kernel_rfl) (by rw [Try.ntmps41]; exact Nat.le_of_ble_eq_true rfl) ?_
  have key : (((row (numC k) m).length ≤ 9223372036854775807 ∧ ∀ (x : Int × Int), List.Mem x (row (numC k) m) → inR IntKind.i8 x.fst ∧ inR IntKind.i8 x.snd) → inR IntKind.i64 k → (∃ (x0 : Nat), (Slot.val (D.dat
      (Ty.int IntKind.i64) k) = Slot.val (D.dat iT (k + 2 * ((x0 : Nat) : Int))) ∧ Slot.val (D.dat (Ty.int IntKind.i64) 0) = Slot.val (D.dat iT ((x0 : Nat) : Int))) ∧ x0 ≤ m) ∧ ∀ (x : Nat), x ≤ m → inR
      IntKind.i64 (k + 2 * ((x : Nat) : Int)) → inR IntKind.i64 ((x : Nat) : Int) → (((row (numC k) m).length : Nat) : Int) ≤ 9223372036854775807 → split (decide (((x : Nat) : Int) < (((row (numC k)
      m).length : Nat) : Int))) ((0 ≤ ((x : Nat) : Int) ∧ ((x : Nat) : Int) < (((row (numC k) m).length : Nat) : Int)) ∧ (inR IntKind.i8 ((row (numC k) m).getD (((x : Nat) : Int)).toNat (0, 0)).fst → split
      (!decide (((row (numC k) m).getD (((x : Nat) : Int)).toNat (0, 0)).fst = IntKind.i8.wrap (k + 2 * ((x : Nat) : Int)))) (-1 = k + 2 * ((m : Nat) : Int)) ((-9223372036854775808 ≤ k + 2 * ((x : Nat) :
      Int) + 1 ∧ k + 2 * ((x : Nat) : Int) + 1 ≤ 9223372036854775807) ∧ (0 ≤ ((x : Nat) : Int) ∧ ((x : Nat) : Int) < (((row (numC k) m).length : Nat) : Int)) ∧ (inR IntKind.i8 ((row (numC k) m).getD (((x :
      Nat) : Int)).toNat (0, 0)).snd → split (!decide (((row (numC k) m).getD (((x : Nat) : Int)).toNat (0, 0)).snd = IntKind.i8.wrap (k + 2 * ((x : Nat) : Int) + 1))) (-1 = k + 2 * ((m : Nat) : Int))
      ((-9223372036854775808 ≤ k + 2 * ((x : Nat) : Int) + 1 + 1 ∧ k + 2 * ((x : Nat) : Int) + 1 + 1 ≤ 9223372036854775807) ∧ (-9223372036854775808 ≤ ((x : Nat) : Int) + 1 ∧ ((x : Nat) : Int) + 1 ≤
      9223372036854775807) ∧ ∃ (x' : Nat), (Slot.val (D.dat (Ty.int IntKind.i64) (k + 2 * ((x : Nat) : Int) + 1 + 1)) = Slot.val (D.dat iT (k + 2 * ((x' : Nat) : Int))) ∧ Slot.val (D.dat (Ty.int
      IntKind.i64) (((x : Nat) : Int) + 1)) = Slot.val (D.dat iT ((x' : Nat) : Int))) ∧ x' ≤ m ∧ m - x' < m - x))))) (k + 2 * ((x : Nat) : Int) = k + 2 * ((m : Nat) : Int))) := by
    intro _ _
    refine ⟨⟨0, ⟨by simp, rfl⟩, by omega⟩, fun i hi _ _ _ => split_of (fun h => ?_) (fun h => ?_)⟩
    · have h := of_decide_eq_true h
      rw [row_len] at h ⊢
      rw [Int.toNat_natCast, row_getD _ (by omega)]
      refine ⟨by omega, fun _ => split_of (fun h2 => by simp [numC, w8] at h2) (fun h2 => ⟨by omega, by omega, fun _ => split_of (fun h2 => by simp [numC, w8] at h2) (fun h2 => ⟨by omega, by omega, i + 1, ⟨by rw [show k + 2 * ((i + 1 : Nat) : Int) = k + 2 * (i : Int) + 1 + 1 by omega], rfl⟩, by omega, by omega⟩)⟩)⟩
    · have h := of_decide_eq_false h
      rw [row_len] at h
      rw [show i = m by omega]
  refine @Eq.mpr _ _ (?_) key
  kernel_rfl
theorem heldGround_ev (x y : Int) (hs : List (List Int)) (m : Nat) (k : Int) (hl : m ≤ 16777216) (hk : 0 ≤ k ∧ k ≤ 1099511627776) : Ev Try.prog 27 [aG (x, y, hs, row (numC k) m), aI k] (compsOf [rI] (k + 2 * (m : Int))) := by
  refine ev_of (l := [rI]) (r := (k + 2 * (m : Int))) (types (resT) [] (fun _ _ => none)) follows Try.func27 (by kernel_rfl) (by rw [Try.ntmps27]; exact Nat.le_of_ble_eq_true rfl) ?_
  have key : (inR IntKind.i8 x → inR IntKind.i8 y → (hs.length = 9 ∧ ∀ (x : List Int), List.Mem x hs → x.length = 9 ∧ ∀ (x_1 : Int), List.Mem x_1 x → inR IntKind.i16 x_1) → ((row (numC k) m).length ≤
      9223372036854775807 ∧ ∀ (x : Int × Int), List.Mem x (row (numC k) m) → inR IntKind.i8 x.fst ∧ inR IntKind.i8 x.snd) → inR IntKind.i64 k → ((row (numC k) m).length ≤ 9223372036854775807 ∧ ∀ (x : Int ×
      Int), List.Mem x (row (numC k) m) → inR IntKind.i8 x.fst ∧ inR IntKind.i8 x.snd) → ∃ (r : Int), Ev Try.prog 41 [Arg.imm (D.dat (Ty.slice 40 cellT) (row (numC k) m)), Arg.imm (D.dat (Ty.int
      IntKind.i64) k)] (compsOf [(false, Ty.int IntKind.i64)] r) ∧ (inR IntKind.i64 r → split (decide (r < 0)) (-1 = k + 2 * ((m : Nat) : Int)) (r = k + 2 * ((m : Nat) : Int)))) := by
    intros
    refine ⟨_, heldCells_ev m k hl hk, fun _ => split_of (fun h => ?_) (fun h => rfl)⟩
    have := of_decide_eq_true h
    omega
  refine @Eq.mpr _ _ (?_) key
  kernel_rfl
end Go.Proofs.Ytkhheofgnhndbaa
