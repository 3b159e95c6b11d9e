/- Rows of cells: copies and marks; slabs that a way lifts. No statement is proved here. -/
import Derived.Test.YtmjijggkdbiijaaSv
namespace Go.Proofs.Ytmjijggkdbiijaa
open Go.RowKit
set_option linter.unusedVariables false
set_option linter.unusedSimpArgs false
set_option maxRecDepth 100000
set_option maxHeartbeats 4000000
abbrev aL0 (l : Cl) : Arg := .imm (.dat (.slice 50 cellT) l)
abbrev oC : Bool × Ty := (true, .slice 52 cellT)
theorem szCellS_ev (l : Cl) (left : Int) (hl : 0 ≤ left ∧ left ≤ 1048576) : Ev Try.prog 37 [aL0 l, aI left] (compsOf [rI] (szI l.length left)) := by
  refine ev_of (l := [rI]) (r := (szI l.length left)) (types (resT) [] (fun _ _ => none)) follows Try.func37 (by kernel_rfl) (by rw [Try.ntmps37]; exact Nat.le_of_ble_eq_true rfl) ?_
  have key : ((List.length l ≤ 9223372036854775807 ∧ ∀ (x : Int × Int), List.Mem x l → inR IntKind.i8 x.fst ∧ inR IntKind.i8 x.snd) → inR IntKind.i64 left → (((List.length l) : Nat) : Int) ≤ 9223372036854775807 →
      (-9223372036854775808 ≤ left - (((List.length l) : Nat) : Int) ∧ left - (((List.length l) : Nat) : Int) ≤ 9223372036854775807) ∧ split (decide (left - (((List.length l) : Nat) : Int) < 0)) (-1 = szI
      (List.length l) left) (left - (((List.length l) : Nat) : Int) = szI (List.length l) left)) := by
    repeat' (first
      | (intro hh; try simp only [inR, loK, hiK] at hh)
      | exact trivial
      | (refine And.intro ?_ ?_)
      | (refine split_of (fun hh => ?_) (fun hh => ?_)))
    all_goals (first | omega | rfl | (simp_all [szI]; done) | (simp_all [szI]; omega))
  refine @Eq.mpr _ _ (?_) key
  kernel_rfl
noncomputable abbrev toCellSInv (x : Cl) (n : Nat) (σ : List Slot) : Option LoopInv := match n with
  | 3 => some ⟨3 :: hvAt Try.f39 3, Cl × Nat, fun s => [(3, .own (.slice 52 cellT) s.1), (4, .val (.dat (.int .i64) s.2))], fun s => Upto (0, 0) x s.1 s.2, fun s => x.length - s.2⟩
  | _ => none
theorem toCellS_ev (x : Cl) (hx : x.length ≤ 1048576) : Ev Try.prog 39 [aL0 x] (compsOf [oC] (x)) := by
  refine ev_of (l := [oC]) (r := (x)) (types (resT) [] (toCellSInv x)) follows Try.func39 (by kernel_rfl) (by rw [Try.ntmps39]; exact Nat.le_of_ble_eq_true rfl) ?_
  have key : ((List.length x ≤ 9223372036854775807 ∧ ∀ (x_1 : Int × Int), List.Mem x_1 x → inR IntKind.i8 x_1.fst ∧ inR IntKind.i8 x_1.snd) → (((List.length x) : Nat) : Int) ≤ 9223372036854775807 → (0 ≤
      (((List.length x) : Nat) : Int) ∧ (((List.length x) : Nat) : Int) = (((List.length x) : Nat) : Int) ∧ (((List.length x) : Nat) : Int) ≤ 4294967296) ∧ (∃ (x0 : List (Int × Int) × Nat), (Slot.own
      (Ty.slice 52 cellT) (List.replicate ((((List.length x) : Nat) : Int)).toNat (0, 0)) = Slot.own (Ty.slice 52 cellT) x0.fst ∧ Slot.val (D.dat (Ty.int IntKind.i64) 0) = Slot.val (D.dat (Ty.int
      IntKind.i64) ((x0.snd : Nat) : Int))) ∧ Upto (0, 0) x x0.fst x0.snd) ∧ ∀ (x_1 : List (Int × Int) × Nat), Upto (0, 0) x x_1.fst x_1.snd → (x_1.fst.length ≤ 9223372036854775807 ∧ ∀ (x : Int × Int),
      List.Mem x x_1.fst → inR IntKind.i8 x.fst ∧ inR IntKind.i8 x.snd) → inR IntKind.i64 ((x_1.snd : Nat) : Int) → (((List.length x) : Nat) : Int) ≤ 9223372036854775807 → split (decide (((x_1.snd : Nat) :
      Int) < (((List.length x) : Nat) : Int))) ((0 ≤ ((x_1.snd : Nat) : Int) ∧ ((x_1.snd : Nat) : Int) < (((List.length x) : Nat) : Int)) ∧ (inR IntKind.i8 (List.getD x (((x_1.snd : Nat) : Int)).toNat (0,
      0)).fst → inR IntKind.i8 (List.getD x (((x_1.snd : Nat) : Int)).toNat (0, 0)).snd → ∃ (r : Int × Int), Ev Try.prog 30 [Arg.imm (D.dat cellT (List.getD x (((x_1.snd : Nat) : Int)).toNat (0, 0)))]
      (compsOf [(false, (Ty.int IntKind.i8).prod (Ty.int IntKind.i8))] r) ∧ (inR IntKind.i8 r.fst → inR IntKind.i8 r.snd → (0 ≤ ((x_1.snd : Nat) : Int) ∧ ((x_1.snd : Nat) : Int) < ((x_1.fst.length : Nat) :
      Int)) ∧ (-9223372036854775808 ≤ ((x_1.snd : Nat) : Int) + 1 ∧ ((x_1.snd : Nat) : Int) + 1 ≤ 9223372036854775807) ∧ ∃ (x' : List (Int × Int) × Nat), (Slot.own (Ty.slice 52 cellT) (x_1.fst.set
      (((x_1.snd : Nat) : Int)).toNat r) = Slot.own (Ty.slice 52 cellT) x'.fst ∧ Slot.val (D.dat (Ty.int IntKind.i64) (((x_1.snd : Nat) : Int) + 1)) = Slot.val (D.dat (Ty.int IntKind.i64) ((x'.snd : Nat) :
      Int))) ∧ Upto (0, 0) x x'.fst x'.snd ∧ List.length x - x'.snd < List.length x - x_1.snd))) (x_1.fst = x)) := by
    intro _ _
    simp only [Int.toNat_natCast]
    refine ⟨⟨by omega, trivial, by omega⟩, ⟨(List.replicate x.length (0, 0), 0), ⟨rfl, rfl⟩, ⟨Nat.zero_le _, by simp, fun j hj => absurd hj (Nat.not_lt_zero _)⟩⟩, fun ⟨y, i⟩ hu _ _ _ => split_of (fun h => ?_) (fun h => ?_)⟩
    · have h : ((i : Nat) : Int) < x.length := of_decide_eq_true h
      have hl := hu.len
      simp only at hl
      exact ⟨by omega, fun _ _ => ⟨_, toCell_ev _, fun _ _ => ⟨by simp only; omega, by simp only; omega, (y.set i (x.getD i (0, 0)), i + 1), ⟨rfl, rfl⟩, hu.next (by omega), by show x.length - (i + 1) < x.length - i; omega⟩⟩⟩
    · have h : ¬ ((i : Nat) : Int) < x.length := of_decide_eq_false h
      exact hu.done (by omega)
  refine @Eq.mpr _ _ (?_) key
  kernel_rfl
theorem eqCell_ev (p : Int × Int) : Ev Try.prog 89 [aC p, aC p] (compsOf [rB] (true)) := by
  refine ev_of (l := [rB]) (r := (true)) (types (resT) [] (fun _ _ => none)) follows Try.func89 (by kernel_rfl) (by rw [Try.ntmps89]; exact Nat.le_of_ble_eq_true rfl) ?_
  have key : (inR IntKind.i8 p.fst → inR IntKind.i8 p.snd → inR IntKind.i8 p.fst → inR IntKind.i8 p.snd → inR IntKind.i8 p.fst → inR IntKind.i8 p.fst → split (!decide (p.fst = p.fst)) (false = true) (inR
      IntKind.i8 p.snd → inR IntKind.i8 p.snd → split (!decide (p.snd = p.snd)) (false = true) (true = true))) := by
    repeat' (first
      | (intro hh; try simp only [inR, loK, hiK] at hh)
      | exact trivial
      | (refine And.intro ?_ ?_)
      | (refine split_of (fun hh => ?_) (fun hh => ?_)))
    all_goals (first | omega | rfl | (simp_all []; done) | (simp_all []; omega))
  refine @Eq.mpr _ _ (?_) key
  kernel_rfl
noncomputable abbrev eqCellSInv (l : Cl) (n : Nat) (σ : List Slot) : Option LoopInv := match n with
  | 4 => some ⟨hvAt Try.f41 4, Nat, fun i => [(5, .val (.dat (.int .i64) i))], fun i => i ≤ l.length, fun i => l.length - i⟩
  | _ => none
theorem eqCellS_ev (l : Cl) : Ev Try.prog 41 [aL l, aL l] (compsOf [rB] (true)) := by
  refine ev_of (l := [rB]) (r := (true)) (types (resT) [] (eqCellSInv l)) follows Try.func41 (by kernel_rfl) (by rw [Try.ntmps41]; exact Nat.le_of_ble_eq_true rfl) ?_
  have key : ((List.length l ≤ 9223372036854775807 ∧ ∀ (x : Int × Int), List.Mem x l → inR IntKind.i8 x.fst ∧ inR IntKind.i8 x.snd) → (List.length l ≤ 9223372036854775807 ∧ ∀ (x : Int × Int), List.Mem x l → inR
      IntKind.i8 x.fst ∧ inR IntKind.i8 x.snd) → (((List.length l) : Nat) : Int) ≤ 9223372036854775807 → (((List.length l) : Nat) : Int) ≤ 9223372036854775807 → split (!decide ((((List.length l) : Nat) :
      Int) = (((List.length l) : Nat) : Int))) (false = true) ((∃ (x0 : Nat), Slot.val (D.dat (Ty.int IntKind.i64) 0) = Slot.val (D.dat (Ty.int IntKind.i64) ((x0 : Nat) : Int)) ∧ x0 ≤ List.length l) ∧ ∀ (x
      : Nat), x ≤ List.length l → inR IntKind.i64 ((x : Nat) : Int) → (((List.length l) : Nat) : Int) ≤ 9223372036854775807 → split (decide (((x : Nat) : Int) < (((List.length l) : Nat) : Int))) ((0 ≤ ((x
      : Nat) : Int) ∧ ((x : Nat) : Int) < (((List.length l) : Nat) : Int)) ∧ (inR IntKind.i8 (List.getD l (((x : Nat) : Int)).toNat (0, 0)).fst → inR IntKind.i8 (List.getD l (((x : Nat) : Int)).toNat (0,
      0)).snd → (0 ≤ ((x : Nat) : Int) ∧ ((x : Nat) : Int) < (((List.length l) : Nat) : Int)) ∧ (inR IntKind.i8 (List.getD l (((x : Nat) : Int)).toNat (0, 0)).fst → inR IntKind.i8 (List.getD l (((x : Nat)
      : Int)).toNat (0, 0)).snd → ∃ (r : Bool), Ev Try.prog 89 [Arg.imm (D.dat cellT (List.getD l (((x : Nat) : Int)).toNat (0, 0))), Arg.imm (D.dat cellT (List.getD l (((x : Nat) : Int)).toNat (0, 0)))]
      (compsOf [(false, Ty.bool)] r) ∧ split (!r) (false = true) ((-9223372036854775808 ≤ ((x : Nat) : Int) + 1 ∧ ((x : Nat) : Int) + 1 ≤ 9223372036854775807) ∧ ∃ (x' : Nat), Slot.val (D.dat (Ty.int
      IntKind.i64) (((x : Nat) : Int) + 1)) = Slot.val (D.dat (Ty.int IntKind.i64) ((x' : Nat) : Int)) ∧ x' ≤ List.length l ∧ List.length l - x' < List.length l - x)))) (true = true))) := by
    intro _ _ _ _
    refine split_of (fun h => by simp at h) (fun _ => ⟨⟨0, rfl, by omega⟩, fun i hi _ _ => split_of (fun h => ?_) (fun h => rfl)⟩)
    have h := of_decide_eq_true h
    exact ⟨by omega, fun _ _ => ⟨by omega, fun _ _ => ⟨_, eqCell_ev _, split_of (fun h2 => by simp at h2) (fun _ => ⟨by omega, i + 1, rfl, by omega, by omega⟩)⟩⟩⟩
  refine @Eq.mpr _ _ (?_) key
  kernel_rfl
def numC (k : Int) (i : Nat) : Int × Int := (w8 (k + 2 * (i : Int)), w8 (k + 2 * (i : Int) + 1))
noncomputable abbrev markCInv (l : Cl) (k : Int) (n : Nat) (σ : List Slot) : Option LoopInv := match n with
  | 2 => some ⟨0 :: hvAt Try.f42 2, Nat, fun i => [(0, .own (.slice 52 cellT) (row (numC k) i ++ l.drop i)), (1, .val (.dat iT (k + 2 * (i : Int)))), (5, .val (.dat iT (i : Int)))], fun i => i ≤ l.length, fun i => l.length - i⟩
  | _ => none
theorem markCells_ev (l : Cl) (k : Int) (hl : l.length ≤ 16777216) (hk : 0 ≤ k ∧ k ≤ 1099511627776) : EvB Try.prog 42 (.slice 52 cellT) (l) [aI k] (compsOf [rI] (k + 2 * (l.length : Int))) (row (numC k) l.length) := by
  refine evB_of (t0 := .slice 52 cellT) (x0 := l) (y0 := row (numC k) l.length) (l := [rI]) (r := (k + 2 * (l.length : Int))) (types (resT) [999999] (markCInv l k)) follows Try.func42 (by kernel_rfl) (by rw [Try.ntmps42]; exact Nat.le_of_ble_eq_true rfl) ?_
  have key : ((List.length l ≤ 9223372036854775807 ∧ ∀ (x : Int × Int), List.Mem x l → inR IntKind.i8 x.fst ∧ inR IntKind.i8 x.snd) → inR IntKind.i64 k → (∃ (x0 : Nat), (Slot.own (Ty.slice 52 cellT) l = Slot.own
      (Ty.slice 52 cellT) (row (numC k) x0 ++ List.drop x0 l) ∧ Slot.val (D.dat (Ty.int IntKind.i64) k) = Slot.val (D.dat iT (k + 2 * ((x0 : Nat) : Int))) ∧ Slot.val (D.dat (Ty.int IntKind.i64) 0) =
      Slot.val (D.dat iT ((x0 : Nat) : Int))) ∧ x0 ≤ List.length l) ∧ ∀ (x : Nat), x ≤ List.length l → ((row (numC k) x ++ List.drop x l).length ≤ 9223372036854775807 ∧ ∀ (x_1 : Int × Int), List.Mem x_1
      (row (numC k) x ++ List.drop x l) → inR IntKind.i8 x_1.fst ∧ inR IntKind.i8 x_1.snd) → inR IntKind.i64 (k + 2 * ((x : Nat) : Int)) → inR IntKind.i64 ((x : Nat) : Int) → (((row (numC k) x ++ List.drop
      x l).length : Nat) : Int) ≤ 9223372036854775807 → split (decide (((x : Nat) : Int) < (((row (numC k) x ++ List.drop x l).length : Nat) : Int))) ((0 ≤ ((x : Nat) : Int) ∧ ((x : Nat) : Int) < (((row
      (numC k) x ++ List.drop x l).length : Nat) : Int)) ∧ (-9223372036854775808 ≤ k + 2 * ((x : Nat) : Int) + 1 ∧ k + 2 * ((x : Nat) : Int) + 1 ≤ 9223372036854775807) ∧ (0 ≤ ((x : Nat) : Int) ∧ ((x : Nat)
      : Int) < ((((row (numC k) x ++ List.drop x l).set (((x : Nat) : Int)).toNat (IntKind.i8.wrap (k + 2 * ((x : Nat) : Int)), ((row (numC k) x ++ List.drop x l).getD (((x : Nat) : Int)).toNat (0,
      0)).snd)).length : Nat) : Int)) ∧ (-9223372036854775808 ≤ k + 2 * ((x : Nat) : Int) + 1 + 1 ∧ k + 2 * ((x : Nat) : Int) + 1 + 1 ≤ 9223372036854775807) ∧ (-9223372036854775808 ≤ ((x : Nat) : Int) + 1
      ∧ ((x : Nat) : Int) + 1 ≤ 9223372036854775807) ∧ ∃ (x' : Nat), (Slot.own (Ty.slice 52 cellT) (((row (numC k) x ++ List.drop x l).set (((x : Nat) : Int)).toNat (IntKind.i8.wrap (k + 2 * ((x : Nat) :
      Int)), ((row (numC k) x ++ List.drop x l).getD (((x : Nat) : Int)).toNat (0, 0)).snd)).set (((x : Nat) : Int)).toNat ((((row (numC k) x ++ List.drop x l).set (((x : Nat) : Int)).toNat
      (IntKind.i8.wrap (k + 2 * ((x : Nat) : Int)), ((row (numC k) x ++ List.drop x l).getD (((x : Nat) : Int)).toNat (0, 0)).snd)).getD (((x : Nat) : Int)).toNat (0, 0)).fst, IntKind.i8.wrap (k + 2 * ((x
      : Nat) : Int) + 1))) = Slot.own (Ty.slice 52 cellT) (row (numC k) x' ++ List.drop x' l) ∧ Slot.val (D.dat (Ty.int IntKind.i64) (k + 2 * ((x : Nat) : Int) + 1 + 1)) = Slot.val (D.dat iT (k + 2 * ((x'
      : Nat) : Int))) ∧ Slot.val (D.dat (Ty.int IntKind.i64) (((x : Nat) : Int) + 1)) = Slot.val (D.dat iT ((x' : Nat) : Int))) ∧ x' ≤ List.length l ∧ List.length l - x' < List.length l - x) (k + 2 * ((x :
      Nat) : Int) = k + 2 * (((List.length l) : Nat) : Int) ∧ row (numC k) x ++ List.drop x l = row (numC k) (List.length l))) := by
    intro _ _
    refine ⟨⟨0, ⟨rfl, by simp, rfl⟩, by omega⟩, fun i hi _ _ _ _ => split_of (fun h => ?_) (fun h => ?_)⟩
    · have h := of_decide_eq_true h
      have hLl := row_part_len (numC k) hi
      have hrow := row_set (numC k) (l := l) (i := i) (z := numC k i)
      generalize row (numC k) i ++ l.drop i = L at *
      simp only [Int.toNat_natCast, List.length_set, List.set_set, getD_set_same (show i < L.length by omega)]
      refine ⟨by omega, by omega, by omega, by omega, by omega, i + 1, ⟨?_, by rw [show k + 2 * ((i + 1 : Nat) : Int) = k + 2 * (i : Int) + 1 + 1 by omega], rfl⟩, by omega, by omega⟩
      rw [← hrow (by omega) rfl]; rfl
    · have h := of_decide_eq_false h
      rw [row_part_len _ hi] at h
      rw [show i = l.length by omega, List.drop_length, List.append_nil]
      exact ⟨rfl, rfl⟩
  refine @Eq.mpr _ _ (?_) key
  kernel_rfl
def cellB (q : Sq) (p : Int × Int) : Bool := inB p.1 0 (q.1 - 1) && inB p.2 0 (q.2.1 - 1)
theorem isCell_ev (q : Sq) (p : Int × Int) : Ev Try.prog 134 [aQ q, aC p] (compsOf [rB] (cellB q p)) := by
  refine ev_of (l := [rB]) (r := (cellB q p)) (types (resT) [] (fun _ _ => none)) follows Try.func134 (by kernel_rfl) (by rw [Try.ntmps134]; exact Nat.le_of_ble_eq_true rfl) ?_
  have key : (inR IntKind.i8 q.fst → inR IntKind.i8 q.snd.fst → (q.snd.snd.length ≤ 9223372036854775807 ∧ ∀ (x : Int × Int × Int × Int), List.Mem x q.snd.snd → inR IntKind.i8 x.fst ∧ inR IntKind.i8 x.snd.fst ∧ inR
      IntKind.i8 x.snd.snd.fst ∧ inR IntKind.i8 x.snd.snd.snd) → inR IntKind.i8 p.fst → inR IntKind.i8 p.snd → inR IntKind.i8 p.fst → (-9223372036854775808 ≤ p.fst ∧ p.fst ≤ 9223372036854775807) ∧ (inR
      IntKind.i8 q.fst → (-9223372036854775808 ≤ q.fst ∧ q.fst ≤ 9223372036854775807) ∧ (-9223372036854775808 ≤ q.fst - 1 ∧ q.fst - 1 ≤ 9223372036854775807) ∧ ∃ (r : Bool), Ev Try.prog 66 [Arg.imm (D.dat
      (Ty.int IntKind.i64) p.fst), Arg.imm (D.dat (Ty.int IntKind.i64) 0), Arg.imm (D.dat (Ty.int IntKind.i64) (q.fst - 1))] (compsOf [(false, Ty.bool)] r) ∧ split r (inR IntKind.i8 p.snd →
      (-9223372036854775808 ≤ p.snd ∧ p.snd ≤ 9223372036854775807) ∧ (inR IntKind.i8 q.snd.fst → (-9223372036854775808 ≤ q.snd.fst ∧ q.snd.fst ≤ 9223372036854775807) ∧ (-9223372036854775808 ≤ q.snd.fst - 1
      ∧ q.snd.fst - 1 ≤ 9223372036854775807) ∧ ∃ (r : Bool), Ev Try.prog 66 [Arg.imm (D.dat (Ty.int IntKind.i64) p.snd), Arg.imm (D.dat (Ty.int IntKind.i64) 0), Arg.imm (D.dat (Ty.int IntKind.i64)
      (q.snd.fst - 1))] (compsOf [(false, Ty.bool)] r) ∧ r = cellB q p)) (false = cellB q p))) := by
    repeat' (first
      | (intro hh; try simp only [inR, loK, hiK] at hh)
      | exact trivial
      | (refine ⟨_, within_ev _ _ _, ?_⟩)
      | (refine And.intro ?_ ?_)
      | (refine split_of (fun hh => ?_) (fun hh => ?_)))
    all_goals (first | omega | rfl | (simp_all [cellB]; done) | (simp_all [cellB]; omega))
  refine @Eq.mpr _ _ (?_) key
  kernel_rfl
theorem l01Is_ev (q : Sq) (p : Int × Int) : Ev Try.prog 82 [aQp q, aC p] (compsOf [rB] (cellB q p)) := by
  refine ev_of (l := [rB]) (r := (cellB q p)) (types (resT) [] (fun _ _ => none)) follows Try.func82 (by kernel_rfl) (by rw [Try.ntmps82]; exact Nat.le_of_ble_eq_true rfl) ?_
  have key : (inR IntKind.i8 p.fst → inR IntKind.i8 p.snd → inR IntKind.i8 p.fst → (-9223372036854775808 ≤ p.fst ∧ p.fst ≤ 9223372036854775807) ∧ (inR IntKind.i8 q.fst → (-9223372036854775808 ≤ q.fst ∧ q.fst ≤
      9223372036854775807) ∧ (-9223372036854775808 ≤ q.fst - 1 ∧ q.fst - 1 ≤ 9223372036854775807) ∧ ∃ (r : Bool), Ev Try.prog 117 [Arg.imm (D.dat (Ty.int IntKind.i64) p.fst), Arg.imm (D.dat (Ty.int
      IntKind.i64) 0), Arg.imm (D.dat (Ty.int IntKind.i64) (q.fst - 1))] (compsOf [(false, Ty.bool)] r) ∧ split r (inR IntKind.i8 p.snd → (-9223372036854775808 ≤ p.snd ∧ p.snd ≤ 9223372036854775807) ∧ (inR
      IntKind.i8 q.snd.fst → (-9223372036854775808 ≤ q.snd.fst ∧ q.snd.fst ≤ 9223372036854775807) ∧ (-9223372036854775808 ≤ q.snd.fst - 1 ∧ q.snd.fst - 1 ≤ 9223372036854775807) ∧ ∃ (r : Bool), Ev Try.prog
      117 [Arg.imm (D.dat (Ty.int IntKind.i64) p.snd), Arg.imm (D.dat (Ty.int IntKind.i64) 0), Arg.imm (D.dat (Ty.int IntKind.i64) (q.snd.fst - 1))] (compsOf [(false, Ty.bool)] r) ∧ r = cellB q p)) (false
      = cellB q p))) := by
    repeat' (first
      | (intro hh; try simp only [inR, loK, hiK] at hh)
      | exact trivial
      | (refine ⟨_, l00In_ev _ _ _, ?_⟩)
      | (refine And.intro ?_ ?_)
      | (refine split_of (fun hh => ?_) (fun hh => ?_)))
    all_goals (first | omega | rfl | (simp_all [cellB]; done) | (simp_all [cellB]; omega))
  refine @Eq.mpr _ _ (?_) key
  kernel_rfl
theorem cellCode1_ev (q : Sq) (p : Int × Int) : Ev Try.prog 133 [aC p, aQp q] (compsOf [rB] (!(cellB q p))) := by
  refine ev_of (l := [rB]) (r := (!(cellB q p))) (types (resT) [] (fun _ _ => none)) follows Try.func133 (by kernel_rfl) (by rw [Try.ntmps133]; exact Nat.le_of_ble_eq_true rfl) ?_
  have key : (inR IntKind.i8 p.fst → inR IntKind.i8 p.snd → inR IntKind.i8 q.fst → inR IntKind.i8 q.snd.fst → (q.snd.snd.length ≤ 9223372036854775807 ∧ ∀ (x : Int × Int × Int × Int), List.Mem x q.snd.snd → inR
      IntKind.i8 x.fst ∧ inR IntKind.i8 x.snd.fst ∧ inR IntKind.i8 x.snd.snd.fst ∧ inR IntKind.i8 x.snd.snd.snd) → inR IntKind.i8 p.fst → inR IntKind.i8 p.snd → ∃ (r : Bool), Ev Try.prog 134 [Arg.imm
      (D.dat (sqT 41) q), Arg.imm (D.dat cellT p)] (compsOf [(false, Ty.bool)] r) ∧ (!r) = !cellB q p) := by
    repeat' (first
      | (intro hh; try simp only [inR, loK, hiK] at hh)
      | exact trivial
      | (refine ⟨_, isCell_ev _ _, ?_⟩)
      | (refine And.intro ?_ ?_)
      | (refine split_of (fun hh => ?_) (fun hh => ?_)))
    all_goals (first | omega | rfl | (simp_all []; done) | (simp_all []; omega))
  refine @Eq.mpr _ _ (?_) key
  kernel_rfl
noncomputable def cellI (q : Sq) (l : Cl) : Int := askedI (okQ q) (!(l.any fun p => !(cellB q p)))
theorem cellCode_ev (q : Sq) (l : Cl) : Ev Try.prog 85 [aQ q, aL l] (compsOf [rI] (cellI q l)) := by
  refine ev_of (l := [rI]) (r := (cellI q l)) (types (resT) [] (fun _ _ => none)) follows Try.func85 (by kernel_rfl) (by rw [Try.ntmps85]; exact Nat.le_of_ble_eq_true rfl) ?_
  have key : (inR IntKind.i8 q.fst → inR IntKind.i8 q.snd.fst → (q.snd.snd.length ≤ 9223372036854775807 ∧ ∀ (x : Int × Int × Int × Int), List.Mem x q.snd.snd → inR IntKind.i8 x.fst ∧ inR IntKind.i8 x.snd.fst ∧ inR
      IntKind.i8 x.snd.snd.fst ∧ inR IntKind.i8 x.snd.snd.snd) → (List.length l ≤ 9223372036854775807 ∧ ∀ (x : Int × Int), List.Mem x l → inR IntKind.i8 x.fst ∧ inR IntKind.i8 x.snd) → inR IntKind.i8 q.fst
      → inR IntKind.i8 q.snd.fst → (q.snd.snd.length ≤ 9223372036854775807 ∧ ∀ (x : Int × Int × Int × Int), List.Mem x q.snd.snd → inR IntKind.i8 x.fst ∧ inR IntKind.i8 x.snd.fst ∧ inR IntKind.i8
      x.snd.snd.fst ∧ inR IntKind.i8 x.snd.snd.snd) → ∃ (r : Bool), Ev Try.prog 61 [Arg.imm (D.dat (sqT 41) q)] (compsOf [(false, Ty.bool)] r) ∧ split (!r) (1 = cellI q l) (∃ (r : Bool), Ev Try.prog 122
      [Arg.imm (D.dat (Ty.slice 52 cellT) l), Arg.imm (D.clo 133 ((D.dat (sqT 41) q).ref.cn D.nl))] (compsOf [(false, Ty.bool)] r) ∧ ∃ (r_1 : Int), Ev Try.prog 121 [Arg.imm (D.dat Ty.bool !r), Arg.imm
      (D.dat (Ty.int IntKind.i64) 2)] (compsOf [(false, Ty.int IntKind.i64)] r_1) ∧ (inR IntKind.i64 r_1 → r_1 = cellI q l))) := by
    intros
    refine ⟨_, valid_ev q, split_of (fun h => by simp [cellI, askedI, not_t h]) (fun h => ?_)⟩
    refine ⟨_, containsFuncL_ev l _ _ (fun p => !(cellB q p)) fun p _ => cellCode1_ev q p, _, unless_ev _ _, fun _ => ?_⟩
    simp only [cellI, askedI, not_f h, unlessI, if_true]
  refine @Eq.mpr _ _ (?_) key
  kernel_rfl
theorem cover_ev (q : Sq) (p : Int × Int) : Ev Try.prog 87 [aQ q, aC p] (compsOf [rI] (atI q p.1 p.2)) := by
  refine ev_of (l := [rI]) (r := (atI q p.1 p.2)) (types (resT) [] (fun _ _ => none)) follows Try.func87 (by kernel_rfl) (by rw [Try.ntmps87]; exact Nat.le_of_ble_eq_true rfl) ?_
  have key : (inR IntKind.i8 q.fst → inR IntKind.i8 q.snd.fst → (q.snd.snd.length ≤ 9223372036854775807 ∧ ∀ (x : Int × Int × Int × Int), List.Mem x q.snd.snd → inR IntKind.i8 x.fst ∧ inR IntKind.i8 x.snd.fst ∧ inR
      IntKind.i8 x.snd.snd.fst ∧ inR IntKind.i8 x.snd.snd.snd) → inR IntKind.i8 p.fst → inR IntKind.i8 p.snd → inR IntKind.i8 q.fst → inR IntKind.i8 q.snd.fst → (q.snd.snd.length ≤ 9223372036854775807 ∧ ∀
      (x : Int × Int × Int × Int), List.Mem x q.snd.snd → inR IntKind.i8 x.fst ∧ inR IntKind.i8 x.snd.fst ∧ inR IntKind.i8 x.snd.snd.fst ∧ inR IntKind.i8 x.snd.snd.snd) → inR IntKind.i8 p.fst →
      (-9223372036854775808 ≤ p.fst ∧ p.fst ≤ 9223372036854775807) ∧ (inR IntKind.i8 p.snd → (-9223372036854775808 ≤ p.snd ∧ p.snd ≤ 9223372036854775807) ∧ ∃ (r : Int), Ev Try.prog 135 [Arg.imm (D.dat (sqT
      41) q), Arg.imm (D.dat (Ty.int IntKind.i64) p.fst), Arg.imm (D.dat (Ty.int IntKind.i64) p.snd)] (compsOf [(false, Ty.int IntKind.i64)] r) ∧ (inR IntKind.i64 r → r = atI q p.fst p.snd))) := by
    repeat' (first
      | (intro hh; try simp only [inR, loK, hiK] at hh)
      | exact trivial
      | (refine ⟨_, at_ev _ _ _, ?_⟩)
      | (refine And.intro ?_ ?_)
      | (refine split_of (fun hh => ?_) (fun hh => ?_)))
    all_goals (first | omega | rfl | (simp_all []; done) | (simp_all []; omega))
  refine @Eq.mpr _ _ (?_) key
  kernel_rfl
def nearB (a b : Int × Int) : Bool := decide ((a.1 - b.1) * (a.1 - b.1) + (a.2 - b.2) * (a.2 - b.2) = 1)
theorem sq8 {x : Int} (h : -255 ≤ x ∧ x ≤ 255) : 0 ≤ x * x ∧ x * x ≤ 65025 := by
  have e : x * x = ((x.natAbs * x.natAbs : Nat) : Int) := (Int.natAbs_mul_self).symm
  have : x.natAbs * x.natAbs ≤ 255 * 255 := Nat.mul_le_mul (by omega) (by omega)
  omega
theorem sq_cases {x : Int} : (x = 0 ∧ x * x = 0) ∨ ((x = 1 ∨ x = -1) ∧ x * x = 1) ∨ ((x < -1 ∨ 1 < x) ∧ 4 ≤ x * x) := by
  by_cases h0 : x = 0
  · subst h0; exact .inl ⟨rfl, rfl⟩
  by_cases h1 : x = 1
  · subst h1; exact .inr (.inl ⟨.inl rfl, rfl⟩)
  by_cases h2 : x = -1
  · subst h2; exact .inr (.inl ⟨.inr rfl, rfl⟩)
  refine .inr (.inr ⟨by omega, ?_⟩)
  have e : x * x = ((x.natAbs * x.natAbs : Nat) : Int) := (Int.natAbs_mul_self).symm
  have : 2 * 2 ≤ x.natAbs * x.natAbs := Nat.mul_le_mul (by omega) (by omega)
  omega
theorem areNext_ev (a c : Int × Int) : Ev Try.prog 86 [aC a, aC c] (compsOf [rB] (nearB a c)) := by
  refine ev_of (l := [rB]) (r := (nearB a c)) (types (resT) [] (fun _ _ => none)) follows Try.func86 (by kernel_rfl) (by rw [Try.ntmps86]; exact Nat.le_of_ble_eq_true rfl) ?_
  have key : (inR IntKind.i8 a.fst → inR IntKind.i8 a.snd → inR IntKind.i8 c.fst → inR IntKind.i8 c.snd → inR IntKind.i8 a.fst → (-9223372036854775808 ≤ a.fst ∧ a.fst ≤ 9223372036854775807) ∧ (inR IntKind.i8 c.fst
      → (-9223372036854775808 ≤ c.fst ∧ c.fst ≤ 9223372036854775807) ∧ (-9223372036854775808 ≤ a.fst - c.fst ∧ a.fst - c.fst ≤ 9223372036854775807) ∧ (inR IntKind.i8 a.snd → (-9223372036854775808 ≤ a.snd ∧
      a.snd ≤ 9223372036854775807) ∧ (inR IntKind.i8 c.snd → (-9223372036854775808 ≤ c.snd ∧ c.snd ≤ 9223372036854775807) ∧ (-9223372036854775808 ≤ a.snd - c.snd ∧ a.snd - c.snd ≤ 9223372036854775807) ∧
      (-9223372036854775808 ≤ (a.fst - c.fst) * (a.fst - c.fst) ∧ (a.fst - c.fst) * (a.fst - c.fst) ≤ 9223372036854775807) ∧ (-9223372036854775808 ≤ (a.snd - c.snd) * (a.snd - c.snd) ∧ (a.snd - c.snd) *
      (a.snd - c.snd) ≤ 9223372036854775807) ∧ (-9223372036854775808 ≤ (a.fst - c.fst) * (a.fst - c.fst) + (a.snd - c.snd) * (a.snd - c.snd) ∧ (a.fst - c.fst) * (a.fst - c.fst) + (a.snd - c.snd) * (a.snd -
      c.snd) ≤ 9223372036854775807) ∧ decide ((a.fst - c.fst) * (a.fst - c.fst) + (a.snd - c.snd) * (a.snd - c.snd) = 1) = nearB a c)))) := by
    intro h1 h2 h3 h4 _
    have h1 := b8 h1
    have h2 := b8 h2
    have h3 := b8 h3
    have h4 := b8 h4
    have s1 := sq8 (x := a.1 - c.1) (by omega)
    have s2 := sq8 (x := a.2 - c.2) (by omega)
    exact ⟨by omega, fun _ => ⟨by omega, by omega, fun _ => ⟨by omega, fun _ => ⟨by omega, by omega, by omega, by omega, by omega, rfl⟩⟩⟩⟩
  refine @Eq.mpr _ _ (?_) key
  kernel_rfl
theorem l05Near_ev (a c : Int × Int) : Ev Try.prog 83 [aC a, aC c] (compsOf [rB] (nearB a c)) := by
  refine ev_of (l := [rB]) (r := (nearB a c)) (types (resT) [] (fun _ _ => none)) follows Try.func83 (by kernel_rfl) (by rw [Try.ntmps83]; exact Nat.le_of_ble_eq_true rfl) ?_
  have key : (inR IntKind.i8 a.fst → inR IntKind.i8 a.snd → inR IntKind.i8 c.fst → inR IntKind.i8 c.snd → inR IntKind.i8 a.fst → (-9223372036854775808 ≤ a.fst ∧ a.fst ≤ 9223372036854775807) ∧ (inR IntKind.i8 c.fst
      → (-9223372036854775808 ≤ c.fst ∧ c.fst ≤ 9223372036854775807) ∧ (-9223372036854775808 ≤ a.fst - c.fst ∧ a.fst - c.fst ≤ 9223372036854775807) ∧ (inR IntKind.i8 c.fst → (-9223372036854775808 ≤ c.fst ∧
      c.fst ≤ 9223372036854775807) ∧ (inR IntKind.i8 a.fst → (-9223372036854775808 ≤ a.fst ∧ a.fst ≤ 9223372036854775807) ∧ (-9223372036854775808 ≤ c.fst - a.fst ∧ c.fst - a.fst ≤ 9223372036854775807) ∧ ∃
      (r : Int), Ev Try.prog 118 [Arg.imm (D.dat (Ty.int IntKind.i64) (a.fst - c.fst)), Arg.imm (D.dat (Ty.int IntKind.i64) (c.fst - a.fst))] (compsOf [(false, Ty.int IntKind.i64)] r) ∧ (inR IntKind.i64 r
      → inR IntKind.i8 a.snd → (-9223372036854775808 ≤ a.snd ∧ a.snd ≤ 9223372036854775807) ∧ (inR IntKind.i8 c.snd → (-9223372036854775808 ≤ c.snd ∧ c.snd ≤ 9223372036854775807) ∧ (-9223372036854775808 ≤
      a.snd - c.snd ∧ a.snd - c.snd ≤ 9223372036854775807) ∧ (inR IntKind.i8 c.snd → (-9223372036854775808 ≤ c.snd ∧ c.snd ≤ 9223372036854775807) ∧ (inR IntKind.i8 a.snd → (-9223372036854775808 ≤ a.snd ∧
      a.snd ≤ 9223372036854775807) ∧ (-9223372036854775808 ≤ c.snd - a.snd ∧ c.snd - a.snd ≤ 9223372036854775807) ∧ ∃ (r_1 : Int), Ev Try.prog 118 [Arg.imm (D.dat (Ty.int IntKind.i64) (a.snd - c.snd)),
      Arg.imm (D.dat (Ty.int IntKind.i64) (c.snd - a.snd))] (compsOf [(false, Ty.int IntKind.i64)] r_1) ∧ (inR IntKind.i64 r_1 → (-9223372036854775808 ≤ r + r_1 ∧ r + r_1 ≤ 9223372036854775807) ∧ decide (r
      + r_1 = 1) = nearB a c))))))))) := by
    intro h1 h2 h3 h4 _
    have h1 := b8 h1
    have h2 := b8 h2
    have h3 := b8 h3
    have h4 := b8 h4
    have c1 := sq_cases (x := a.1 - c.1)
    have c2 := sq_cases (x := a.2 - c.2)
    refine ⟨by omega, fun _ => ⟨by omega, by omega, fun _ => ⟨by omega, fun _ => ⟨by omega, by omega, _, l00Max_ev _ _, fun _ _ => ⟨by omega, fun _ => ⟨by omega, by omega, fun _ => ⟨by omega, fun _ => ⟨by omega, by omega, _, l00Max_ev _ _, fun _ => ⟨?_, ?_⟩⟩⟩⟩⟩⟩⟩⟩⟩
    · unfold maxI; split <;> split <;> omega
    · unfold nearB
      refine decide_eq_decide.2 ?_
      unfold maxI
      generalize (a.1 - c.1) * (a.1 - c.1) = X at *
      generalize (a.2 - c.2) * (a.2 - c.2) = Y at *
      split <;> split <;> omega
  refine @Eq.mpr _ _ (?_) key
  kernel_rfl
noncomputable abbrev hasInv (l : List Int) (x : Int) (n : Nat) (σ : List Slot) : Option LoopInv := match n with
  | 2 => some ⟨hvAt Try.f98 2, Nat, fun i => [(5, .val (.dat iT (i : Int)))], fun i => i ≤ l.length ∧ ∀ j : Nat, j < i → decide (l.getD j 0 = x) = false, fun i => l.length - i⟩
  | _ => none
def hasB (l : List Int) (x : Int) : Bool := l.any fun y => decide (y = x)
theorem any_at {α : Type} {l : List α} {p : α → Bool} {d : α} {i : Nat} (hi : i < l.length) (h : p (l.getD i d) = true) : l.any p = true := by
  rw [show l.getD i d = l[i] by simp [List.getD_eq_getElem?_getD, hi]] at h
  exact List.any_eq_true.2 ⟨_, List.getElem_mem _, h⟩
theorem any_no {α : Type} {l : List α} {p : α → Bool} {d : α} (h : ∀ j : Nat, j < l.length → p (l.getD j d) = false) : l.any p = false := by
  rw [List.any_eq_false]
  intro x hx
  obtain ⟨j, hj, rfl⟩ := List.getElem_of_mem hx
  have := h j hj
  rw [show l.getD j d = l[j] by simp [List.getD_eq_getElem?_getD, hj]] at this
  simp [this]
theorem l00Has_ev (l : List Int) (x : Int) : Ev Try.prog 98 [aIs l, aI x] (compsOf [rB] (hasB l x)) := by
  refine ev_of (l := [rB]) (r := (hasB l x)) (types (resT) [] (hasInv l x)) follows Try.func98 (by kernel_rfl) (by rw [Try.ntmps98]; exact Nat.le_of_ble_eq_true rfl) ?_
  have key : ((l.length ≤ 9223372036854775807 ∧ ∀ (x : Int), List.Mem x l → inR IntKind.i64 x) → inR IntKind.i64 x → (∃ (x0 : Nat), Slot.val (D.dat (Ty.int IntKind.i64) 0) = Slot.val (D.dat iT ((x0 : Nat) : Int))
      ∧ x0 ≤ l.length ∧ ∀ (j : Nat), j < x0 → decide (l.getD j 0 = x) = false) ∧ ∀ (x_1 : Nat), (x_1 ≤ l.length ∧ ∀ (j : Nat), j < x_1 → decide (l.getD j 0 = x) = false) → inR IntKind.i64 ((x_1 : Nat) :
      Int) → ((l.length : Nat) : Int) ≤ 9223372036854775807 → split (decide (((x_1 : Nat) : Int) < ((l.length : Nat) : Int))) ((0 ≤ ((x_1 : Nat) : Int) ∧ ((x_1 : Nat) : Int) < ((l.length : Nat) : Int)) ∧
      (inR IntKind.i64 (l.getD (((x_1 : Nat) : Int)).toNat 0) → split (decide (l.getD (((x_1 : Nat) : Int)).toNat 0 = x)) (true = hasB l x) ((-9223372036854775808 ≤ ((x_1 : Nat) : Int) + 1 ∧ ((x_1 : Nat) :
      Int) + 1 ≤ 9223372036854775807) ∧ ∃ (x' : Nat), Slot.val (D.dat (Ty.int IntKind.i64) (((x_1 : Nat) : Int) + 1)) = Slot.val (D.dat iT ((x' : Nat) : Int)) ∧ (x' ≤ l.length ∧ ∀ (j : Nat), j < x' →
      decide (l.getD j 0 = x) = false) ∧ l.length - x' < l.length - x_1))) (false = hasB l x)) := by
    intros
    refine ⟨⟨0, rfl, by omega, fun j hj => absurd hj (Nat.not_lt_zero _)⟩, fun i ⟨hi, hn⟩ _ _ => split_of (fun h => ?_) (fun h => ?_)⟩
    · have h := of_decide_eq_true h
      rw [Int.toNat_natCast]
      refine ⟨by omega, fun _ => split_of (fun h2 => ?_) (fun h2 => ⟨by omega, i + 1, rfl, ⟨by omega, upto_step hn h2⟩, by omega⟩)⟩
      exact (any_at (p := fun y => decide (y = x)) (by omega) h2).symm
    · have h := of_decide_eq_false h
      exact (any_no (p := fun y => decide (y = x)) fun j hj => hn j (by omega)).symm
  refine @Eq.mpr _ _ (?_) key
  kernel_rfl
noncomputable abbrev idxEInv (l : List Int) (x : Int) (n : Nat) (σ : List Slot) : Option LoopInv := match n with
  | 2 => some ⟨hvAt Try.f136 2, Nat, fun i => [(8, .val (.dat (.int .i64) i))], fun i => i ≤ l.length ∧ ∀ j : Nat, j < i → decide (x = l.getD j 0) = false, fun i => l.length - i⟩
  | _ => none
theorem indexE_ev (l : List Int) (x : Int) : Ev Try.prog 136 [aIs l, aI x] (compsOf [rI] (idxP (fun y => decide (x = y)) l)) := by
  refine ev_of (l := [rI]) (r := (idxP (fun y => decide (x = y)) l)) (types (resT) [] (idxEInv l x)) follows Try.func136 (by kernel_rfl) (by rw [Try.ntmps136]; exact Nat.le_of_ble_eq_true rfl) ?_
  have key : ((l.length ≤ 9223372036854775807 ∧ ∀ (x : Int), List.Mem x l → inR IntKind.i64 x) → inR IntKind.i64 x → ((l.length : Nat) : Int) ≤ 9223372036854775807 → (∃ (x0 : Nat), Slot.val (D.dat (Ty.int
      IntKind.i64) 0) = Slot.val (D.dat (Ty.int IntKind.i64) ((x0 : Nat) : Int)) ∧ x0 ≤ l.length ∧ ∀ (j : Nat), j < x0 → decide (x = l.getD j 0) = false) ∧ ∀ (x_1 : Nat), (x_1 ≤ l.length ∧ ∀ (j : Nat), j <
      x_1 → decide (x = l.getD j 0) = false) → inR IntKind.i64 ((x_1 : Nat) : Int) → split (decide (((x_1 : Nat) : Int) < ((l.length : Nat) : Int))) ((0 ≤ ((x_1 : Nat) : Int) ∧ ((x_1 : Nat) : Int) <
      ((l.length : Nat) : Int)) ∧ (inR IntKind.i64 (l.getD (((x_1 : Nat) : Int)).toNat 0) → split (decide (x = l.getD (((x_1 : Nat) : Int)).toNat 0)) (((x_1 : Nat) : Int) = idxP (fun (y : Int) => decide (x
      = y)) l) ((-9223372036854775808 ≤ ((x_1 : Nat) : Int) + 1 ∧ ((x_1 : Nat) : Int) + 1 ≤ 9223372036854775807) ∧ ∃ (x' : Nat), Slot.val (D.dat (Ty.int IntKind.i64) (((x_1 : Nat) : Int) + 1)) = Slot.val
      (D.dat (Ty.int IntKind.i64) ((x' : Nat) : Int)) ∧ (x' ≤ l.length ∧ ∀ (j : Nat), j < x' → decide (x = l.getD j 0) = false) ∧ l.length - x' < l.length - x_1))) (-1 = idxP (fun (y : Int) => decide (x =
      y)) l)) := by
    intro _ _ _
    refine ⟨⟨0, rfl, by omega, fun j hj => by omega⟩, fun i ⟨hi, hn⟩ _ => split_of (fun h => ?_) (fun h => ?_)⟩
    · have h := of_decide_eq_true h
      simp only [Int.toNat_natCast]
      exact ⟨by omega, fun _ => split_of (fun h2 => idxP_found (p := fun y => decide (x = y)) (d := 0) (by omega) h2 hn) (fun h2 => ⟨by omega, i + 1, rfl, ⟨by omega, upto_step hn h2⟩, by omega⟩)⟩
    · have h := of_decide_eq_false h
      exact idxP_none (p := fun y => decide (x = y)) (d := 0) fun j hj => hn j (by omega)
  refine @Eq.mpr _ _ (?_) key
  kernel_rfl
theorem has_comm (l : List Int) (x : Int) : (l.any fun y => decide (x = y)) = hasB l x := by
  unfold hasB
  congr 1
  funext y
  exact decide_eq_decide.2 eq_comm
theorem containsE_ev (l : List Int) (x : Int) : Ev Try.prog 88 [aIs l, aI x] (compsOf [rB] (hasB l x)) := by
  refine ev_of (l := [rB]) (r := (hasB l x)) (types (resT) [] (fun _ _ => none)) follows Try.func88 (by kernel_rfl) (by rw [Try.ntmps88]; exact Nat.le_of_ble_eq_true rfl) ?_
  have key : ((l.length ≤ 9223372036854775807 ∧ ∀ (x : Int), List.Mem x l → inR IntKind.i64 x) → inR IntKind.i64 x → ∃ (r : Int), Ev Try.prog 136 [Arg.imm (D.dat (Ty.slice 2 (Ty.int IntKind.i64)) l), Arg.imm
      (D.dat (Ty.int IntKind.i64) x)] (compsOf [(false, Ty.int IntKind.i64)] r) ∧ (inR IntKind.i64 r → decide (0 ≤ r) = hasB l x)) := by
    intros
    exact ⟨_, indexE_ev l x, fun _ => by rw [← has_comm]; exact idxP_any⟩
  refine @Eq.mpr _ _ (?_) key
  kernel_rfl
end Go.Proofs.Ytmjijggkdbiijaa
