/- Levels of squares; a law's copies and comparisons. No statement is proved here. -/
import Derived.Test.YtmjijggkdbiijaaSe
namespace Go.Proofs.Ytmjijggkdbiijaa
open Go.RowKit
set_option linter.unusedVariables false
set_option linter.unusedSimpArgs false
set_option maxRecDepth 100000
set_option maxHeartbeats 4000000
abbrev aQ0 (q : Sq) : Arg := .imm (.dat (sqT 38) q)
abbrev aSs0 (l : List Sl) : Arg := .imm (.dat (.slice 38 slabT) l)
abbrev oQ : Bool × Ty := (true, sqT 41)
abbrev oSs : Bool × Ty := (true, .slice 41 slabT)
def szI (n : Nat) (left : Int) : Int := if left - n < 0 then -1 else left - n
theorem sz_pos {n : Nat} (h : ¬ szI n 1048576 < 0) : n ≤ 1048576 := by
  unfold szI at h
  split at h <;> omega
theorem szSlabS_ev (l : List Sl) (left : Int) (hl : 0 ≤ left ∧ left ≤ 1048576) : Ev Try.prog 43 [aSs0 l, aI left] (compsOf [rI] (szI l.length left)) := by
  refine ev_of (l := [rI]) (r := (szI l.length left)) (types (resT) [] (fun _ _ => none)) follows Try.func43 (by kernel_rfl) (by rw [Try.ntmps43]; exact Nat.le_of_ble_eq_true rfl) ?_
  have key : ((l.length ≤ 9223372036854775807 ∧ ∀ (x : Int × Int × Int × Int), List.Mem x l → inR IntKind.i8 x.fst ∧ inR IntKind.i8 x.snd.fst ∧ inR IntKind.i8 x.snd.snd.fst ∧ inR IntKind.i8 x.snd.snd.snd) → inR
      IntKind.i64 left → ((l.length : Nat) : Int) ≤ 9223372036854775807 → (-9223372036854775808 ≤ left - ((l.length : Nat) : Int) ∧ left - ((l.length : Nat) : Int) ≤ 9223372036854775807) ∧ split (decide
      (left - ((l.length : Nat) : Int) < 0)) (-1 = szI l.length left) (left - ((l.length : Nat) : Int) = szI l.length left)) := by
    repeat' (first
      | (intro hh; try simp only [inR, loK, hiK] at hh)
      | exact trivial
      | (refine And.intro ?_ ?_)
      | (refine split_of (fun hh => ?_) (fun hh => ?_)))
    all_goals (first | omega | rfl | (simp_all [szI]; done) | (simp_all [szI]; omega))
  refine @Eq.mpr _ _ (?_) key
  kernel_rfl
theorem szSquare_ev (q : Sq) : Ev Try.prog 14 [aQ0 q, aI 1048576] (compsOf [rI] (szI q.2.2.length 1048576)) := by
  refine ev_of (l := [rI]) (r := (szI q.2.2.length 1048576)) (types (resT) [] (fun _ _ => none)) follows Try.func14 (by kernel_rfl) (by rw [Try.ntmps14]; exact Nat.le_of_ble_eq_true rfl) ?_
  have key : (inR IntKind.i8 q.fst → inR IntKind.i8 q.snd.fst → (q.snd.snd.length ≤ 9223372036854775807 ∧ ∀ (x : Int × Int × Int × Int), List.Mem x q.snd.snd → inR IntKind.i8 x.fst ∧ inR IntKind.i8 x.snd.fst ∧ inR
      IntKind.i8 x.snd.snd.fst ∧ inR IntKind.i8 x.snd.snd.snd) → inR IntKind.i64 1048576 → (q.snd.snd.length ≤ 9223372036854775807 ∧ ∀ (x : Int × Int × Int × Int), List.Mem x q.snd.snd → inR IntKind.i8
      x.fst ∧ inR IntKind.i8 x.snd.fst ∧ inR IntKind.i8 x.snd.snd.fst ∧ inR IntKind.i8 x.snd.snd.snd) → ∃ (r : Int), Ev Try.prog 43 [Arg.imm (D.dat (Ty.slice 38 slabT) q.snd.snd), Arg.imm (D.dat (Ty.int
      IntKind.i64) 1048576)] (compsOf [(false, Ty.int IntKind.i64)] r) ∧ (inR IntKind.i64 r → split (decide (r < 0)) (-1 = szI q.snd.snd.length 1048576) (r = szI q.snd.snd.length 1048576))) := by
    intros
    refine ⟨_, szSlabS_ev _ _ (by omega), fun _ => split_of (fun h => ?_) (fun h => rfl)⟩
    have h := of_decide_eq_true h
    unfold szI at h ⊢
    by_cases c : (1048576 : Int) - (q.2.2.length : Int) < 0
    · rw [if_pos c]
    · rw [if_neg c] at h; exact absurd h c
  refine @Eq.mpr _ _ (?_) key
  kernel_rfl
structure Upto {α : Type} (d : α) (x y : List α) (i : Nat) : Prop where
  le : i ≤ x.length
  len : y.length = x.length
  same : ∀ j, j < i → y.getD j d = x.getD j d
theorem Upto.next {α : Type} {d : α} {x y : List α} {i : Nat} (h : Upto d x y i) (hi : i < x.length) : Upto d x (y.set i (x.getD i d)) (i + 1) := by
  refine ⟨hi, by rw [List.length_set, h.len], fun j hj => ?_⟩
  rw [getD_set' (by rw [h.len]; exact hi)]
  by_cases e : i = j
  · rw [if_pos e, e]
  · rw [if_neg e]
    exact h.same j (by omega)
theorem Upto.done {α : Type} {d : α} {x y : List α} {i : Nat} (h : Upto d x y i) (hi : ¬ i < x.length) : y = x := by
  apply List.ext_getElem h.len
  intro j h1 h2
  have := h.same j (by have := h.le; omega)
  simpa [List.getD_eq_getElem?_getD, h1, h2] using this
def toSlabV (s : Sl) : Sl := (s.1, s.2.1, s.2.2.1, s.2.2.2)
theorem toSlab_ev (s : Sl) : Ev Try.prog 22 [.imm (.dat slabT s)] (compsOf [rS] (toSlabV s)) := by
  refine ev_of (l := [rS]) (r := (toSlabV s)) (types (resT) [] (fun _ _ => none)) follows Try.func22 (by kernel_rfl) (by rw [Try.ntmps22]; exact Nat.le_of_ble_eq_true rfl) ?_
  have key : (inR IntKind.i8 s.fst → inR IntKind.i8 s.snd.fst → inR IntKind.i8 s.snd.snd.fst → inR IntKind.i8 s.snd.snd.snd → inR IntKind.i8 s.fst → inR IntKind.i8 s.snd.fst → inR IntKind.i8 s.snd.snd.fst → inR
      IntKind.i8 s.snd.snd.snd → inR IntKind.i8 s.fst → inR IntKind.i8 s.snd.fst → inR IntKind.i8 s.snd.snd.fst → inR IntKind.i8 s.snd.snd.snd → (s.fst, s.snd.fst, s.snd.snd.fst, s.snd.snd.snd) = toSlabV s) := by
    repeat' (first
      | (intro hh; try simp only [inR, loK, hiK] at hh)
      | exact trivial
      | (refine And.intro ?_ ?_)
      | (refine split_of (fun hh => ?_) (fun hh => ?_)))
    all_goals (first | omega | rfl | (simp_all [toSlabV]; done) | (simp_all [toSlabV]; omega))
  refine @Eq.mpr _ _ (?_) key
  kernel_rfl
noncomputable abbrev toSlabSInv (x : List Sl) (n : Nat) (σ : List Slot) : Option LoopInv := match n with
  | 3 => some ⟨3 :: hvAt Try.f45 3, List Sl × Nat, fun s => [(3, .own (.slice 41 slabT) s.1), (4, .val (.dat (.int .i64) s.2))], fun s => Upto (0, 0, 0, 0) x s.1 s.2, fun s => x.length - s.2⟩
  | _ => none
theorem toSlabS_ev (x : List Sl) (hx : x.length ≤ 1048576) : Ev Try.prog 45 [aSs0 x] (compsOf [oSs] (x)) := by
  refine ev_of (l := [oSs]) (r := (x)) (types (resT) [] (toSlabSInv x)) follows Try.func45 (by kernel_rfl) (by rw [Try.ntmps45]; exact Nat.le_of_ble_eq_true rfl) ?_
  have key : ((x.length ≤ 9223372036854775807 ∧ ∀ (x_1 : Int × Int × Int × Int), List.Mem x_1 x → inR IntKind.i8 x_1.fst ∧ inR IntKind.i8 x_1.snd.fst ∧ inR IntKind.i8 x_1.snd.snd.fst ∧ inR IntKind.i8
      x_1.snd.snd.snd) → ((x.length : Nat) : Int) ≤ 9223372036854775807 → (0 ≤ ((x.length : Nat) : Int) ∧ ((x.length : Nat) : Int) = ((x.length : Nat) : Int) ∧ ((x.length : Nat) : Int) ≤ 4294967296) ∧ (∃
      (x0 : List (Int × Int × Int × Int) × Nat), (Slot.own (Ty.slice 41 slabT) (List.replicate (((x.length : Nat) : Int)).toNat (0, 0, 0, 0)) = Slot.own (Ty.slice 41 slabT) x0.fst ∧ Slot.val (D.dat (Ty.int
      IntKind.i64) 0) = Slot.val (D.dat (Ty.int IntKind.i64) ((x0.snd : Nat) : Int))) ∧ Upto (0, 0, 0, 0) x x0.fst x0.snd) ∧ ∀ (x_1 : List (Int × Int × Int × Int) × Nat), Upto (0, 0, 0, 0) x x_1.fst
      x_1.snd → (x_1.fst.length ≤ 9223372036854775807 ∧ ∀ (x : Int × Int × Int × Int), List.Mem x x_1.fst → inR IntKind.i8 x.fst ∧ inR IntKind.i8 x.snd.fst ∧ inR IntKind.i8 x.snd.snd.fst ∧ inR IntKind.i8
      x.snd.snd.snd) → inR IntKind.i64 ((x_1.snd : Nat) : Int) → ((x.length : Nat) : Int) ≤ 9223372036854775807 → split (decide (((x_1.snd : Nat) : Int) < ((x.length : Nat) : Int))) ((0 ≤ ((x_1.snd : Nat)
      : Int) ∧ ((x_1.snd : Nat) : Int) < ((x.length : Nat) : Int)) ∧ (inR IntKind.i8 (x.getD (((x_1.snd : Nat) : Int)).toNat (0, 0, 0, 0)).fst → inR IntKind.i8 (x.getD (((x_1.snd : Nat) : Int)).toNat (0,
      0, 0, 0)).snd.fst → inR IntKind.i8 (x.getD (((x_1.snd : Nat) : Int)).toNat (0, 0, 0, 0)).snd.snd.fst → inR IntKind.i8 (x.getD (((x_1.snd : Nat) : Int)).toNat (0, 0, 0, 0)).snd.snd.snd → ∃ (r : Int ×
      Int × Int × Int), Ev Try.prog 22 [Arg.imm (D.dat slabT (x.getD (((x_1.snd : Nat) : Int)).toNat (0, 0, 0, 0)))] (compsOf [(false, (Ty.int IntKind.i8).prod ((Ty.int IntKind.i8).prod ((Ty.int
      IntKind.i8).prod (Ty.int IntKind.i8))))] r) ∧ (inR IntKind.i8 r.fst → inR IntKind.i8 r.snd.fst → inR IntKind.i8 r.snd.snd.fst → inR IntKind.i8 r.snd.snd.snd → (0 ≤ ((x_1.snd : Nat) : Int) ∧ ((x_1.snd
      : Nat) : Int) < ((x_1.fst.length : Nat) : Int)) ∧ (-9223372036854775808 ≤ ((x_1.snd : Nat) : Int) + 1 ∧ ((x_1.snd : Nat) : Int) + 1 ≤ 9223372036854775807) ∧ ∃ (x' : List (Int × Int × Int × Int) ×
      Nat), (Slot.own (Ty.slice 41 slabT) (x_1.fst.set (((x_1.snd : Nat) : Int)).toNat r) = Slot.own (Ty.slice 41 slabT) x'.fst ∧ Slot.val (D.dat (Ty.int IntKind.i64) (((x_1.snd : Nat) : Int) + 1)) =
      Slot.val (D.dat (Ty.int IntKind.i64) ((x'.snd : Nat) : Int))) ∧ Upto (0, 0, 0, 0) x x'.fst x'.snd ∧ x.length - x'.snd < x.length - x_1.snd))) (x_1.fst = x)) := by
    intro _ _
    simp only [Int.toNat_natCast]
    refine ⟨⟨by omega, trivial, by omega⟩, ⟨(List.replicate x.length (0, 0, 0, 0), 0), ⟨rfl, rfl⟩, ⟨Nat.zero_le _, by simp, fun j hj => absurd hj (Nat.not_lt_zero _)⟩⟩, fun ⟨y, i⟩ hu _ _ _ => split_of (fun h => ?_) (fun h => ?_)⟩
    · have h : ((i : Nat) : Int) < x.length := of_decide_eq_true h
      have hl := hu.len
      simp only at hl
      refine ⟨by omega, ?_⟩
      intros
      refine ⟨_, toSlab_ev _, ?_⟩
      intros
      exact ⟨by simp only; omega, by simp only; omega, (y.set i (x.getD i (0, 0, 0, 0)), i + 1), ⟨rfl, rfl⟩, hu.next (by omega), by show x.length - (i + 1) < x.length - i; omega⟩
    · have h : ¬ ((i : Nat) : Int) < x.length := of_decide_eq_false h
      exact hu.done (by omega)
  refine @Eq.mpr _ _ (?_) key
  kernel_rfl
def toSquareV (q : Sq) : Sq := (q.1, q.2.1, q.2.2)
theorem toSquare_ev (q : Sq) (hx : q.2.2.length ≤ 1048576) : Ev Try.prog 16 [aQ0 q] (compsOf [oQ] (toSquareV q)) := by
  refine ev_of (l := [oQ]) (r := (toSquareV q)) (types (resT) [] (fun _ _ => none)) follows Try.func16 (by kernel_rfl) (by rw [Try.ntmps16]; exact Nat.le_of_ble_eq_true rfl) ?_
  have key : (inR IntKind.i8 q.fst → inR IntKind.i8 q.snd.fst → (q.snd.snd.length ≤ 9223372036854775807 ∧ ∀ (x : Int × Int × Int × Int), List.Mem x q.snd.snd → inR IntKind.i8 x.fst ∧ inR IntKind.i8 x.snd.fst ∧ inR
      IntKind.i8 x.snd.snd.fst ∧ inR IntKind.i8 x.snd.snd.snd) → inR IntKind.i8 q.fst → inR IntKind.i8 q.snd.fst → (q.snd.snd.length ≤ 9223372036854775807 ∧ ∀ (x : Int × Int × Int × Int), List.Mem x
      q.snd.snd → inR IntKind.i8 x.fst ∧ inR IntKind.i8 x.snd.fst ∧ inR IntKind.i8 x.snd.snd.fst ∧ inR IntKind.i8 x.snd.snd.snd) → ∃ (r : List (Int × Int × Int × Int)), Ev Try.prog 45 [Arg.imm (D.dat
      (Ty.slice 38 slabT) q.snd.snd)] (compsOf [(true, Ty.slice 41 ((Ty.int IntKind.i8).prod ((Ty.int IntKind.i8).prod ((Ty.int IntKind.i8).prod (Ty.int IntKind.i8)))))] r) ∧ ((r.length ≤
      9223372036854775807 ∧ ∀ (x : Int × Int × Int × Int), List.Mem x r → inR IntKind.i8 x.fst ∧ inR IntKind.i8 x.snd.fst ∧ inR IntKind.i8 x.snd.snd.fst ∧ inR IntKind.i8 x.snd.snd.snd) → inR IntKind.i8
      q.fst → inR IntKind.i8 q.snd.fst → (r.length ≤ 9223372036854775807 ∧ ∀ (x : Int × Int × Int × Int), List.Mem x r → inR IntKind.i8 x.fst ∧ inR IntKind.i8 x.snd.fst ∧ inR IntKind.i8 x.snd.snd.fst ∧ inR
      IntKind.i8 x.snd.snd.snd) → (q.fst, q.snd.fst, r) = toSquareV q)) := by
    intros
    refine ⟨_, toSlabS_ev _ hx, ?_⟩
    intros
    rfl
  refine @Eq.mpr _ _ (?_) key
  kernel_rfl
theorem eqSlab_ev (s : Sl) : Ev Try.prog 94 [aS s, aS s] (compsOf [rB] (true)) := by
  refine ev_of (l := [rB]) (r := (true)) (types (resT) [] (fun _ _ => none)) follows Try.func94 (by kernel_rfl) (by rw [Try.ntmps94]; exact Nat.le_of_ble_eq_true rfl) ?_
  have key : (inR IntKind.i8 s.fst → inR IntKind.i8 s.snd.fst → inR IntKind.i8 s.snd.snd.fst → inR IntKind.i8 s.snd.snd.snd → inR IntKind.i8 s.fst → inR IntKind.i8 s.snd.fst → inR IntKind.i8 s.snd.snd.fst → inR
      IntKind.i8 s.snd.snd.snd → inR IntKind.i8 s.fst → inR IntKind.i8 s.fst → split (!decide (s.fst = s.fst)) (false = true) (inR IntKind.i8 s.snd.fst → inR IntKind.i8 s.snd.fst → split (!decide
      (s.snd.fst = s.snd.fst)) (false = true) (inR IntKind.i8 s.snd.snd.fst → inR IntKind.i8 s.snd.snd.fst → split (!decide (s.snd.snd.fst = s.snd.snd.fst)) (false = true) (inR IntKind.i8 s.snd.snd.snd →
      inR IntKind.i8 s.snd.snd.snd → split (!decide (s.snd.snd.snd = s.snd.snd.snd)) (false = true) (true = true))))) := by
    repeat' (first
      | (intro hh; try simp only [inR, loK, hiK] at hh)
      | exact trivial
      | (refine And.intro ?_ ?_)
      | (refine split_of (fun hh => ?_) (fun hh => ?_)))
    all_goals (first | omega | rfl | (simp_all []; done) | (simp_all []; omega))
  refine @Eq.mpr _ _ (?_) key
  kernel_rfl
noncomputable abbrev eqSlabSInv (l : List Sl) (n : Nat) (σ : List Slot) : Option LoopInv := match n with
  | 4 => some ⟨hvAt Try.f47 4, Nat, fun i => [(5, .val (.dat (.int .i64) i))], fun i => i ≤ l.length, fun i => l.length - i⟩
  | _ => none
theorem eqSlabS_ev (l : List Sl) : Ev Try.prog 47 [aSs l, aSs l] (compsOf [rB] (true)) := by
  refine ev_of (l := [rB]) (r := (true)) (types (resT) [] (eqSlabSInv l)) follows Try.func47 (by kernel_rfl) (by rw [Try.ntmps47]; exact Nat.le_of_ble_eq_true rfl) ?_
  have key : ((l.length ≤ 9223372036854775807 ∧ ∀ (x : Int × Int × Int × Int), List.Mem x l → inR IntKind.i8 x.fst ∧ inR IntKind.i8 x.snd.fst ∧ inR IntKind.i8 x.snd.snd.fst ∧ inR IntKind.i8 x.snd.snd.snd) →
      (l.length ≤ 9223372036854775807 ∧ ∀ (x : Int × Int × Int × Int), List.Mem x l → inR IntKind.i8 x.fst ∧ inR IntKind.i8 x.snd.fst ∧ inR IntKind.i8 x.snd.snd.fst ∧ inR IntKind.i8 x.snd.snd.snd) →
      ((l.length : Nat) : Int) ≤ 9223372036854775807 → ((l.length : Nat) : Int) ≤ 9223372036854775807 → split (!decide (((l.length : Nat) : Int) = ((l.length : Nat) : Int))) (false = true) ((∃ (x0 : Nat),
      Slot.val (D.dat (Ty.int IntKind.i64) 0) = Slot.val (D.dat (Ty.int IntKind.i64) ((x0 : Nat) : Int)) ∧ x0 ≤ l.length) ∧ ∀ (x : Nat), x ≤ l.length → inR IntKind.i64 ((x : Nat) : Int) → ((l.length : Nat)
      : Int) ≤ 9223372036854775807 → split (decide (((x : Nat) : Int) < ((l.length : Nat) : Int))) ((0 ≤ ((x : Nat) : Int) ∧ ((x : Nat) : Int) < ((l.length : Nat) : Int)) ∧ (inR IntKind.i8 (l.getD (((x :
      Nat) : Int)).toNat (0, 0, 0, 0)).fst → inR IntKind.i8 (l.getD (((x : Nat) : Int)).toNat (0, 0, 0, 0)).snd.fst → inR IntKind.i8 (l.getD (((x : Nat) : Int)).toNat (0, 0, 0, 0)).snd.snd.fst → inR
      IntKind.i8 (l.getD (((x : Nat) : Int)).toNat (0, 0, 0, 0)).snd.snd.snd → (0 ≤ ((x : Nat) : Int) ∧ ((x : Nat) : Int) < ((l.length : Nat) : Int)) ∧ (inR IntKind.i8 (l.getD (((x : Nat) : Int)).toNat (0,
      0, 0, 0)).fst → inR IntKind.i8 (l.getD (((x : Nat) : Int)).toNat (0, 0, 0, 0)).snd.fst → inR IntKind.i8 (l.getD (((x : Nat) : Int)).toNat (0, 0, 0, 0)).snd.snd.fst → inR IntKind.i8 (l.getD (((x :
      Nat) : Int)).toNat (0, 0, 0, 0)).snd.snd.snd → ∃ (r : Bool), Ev Try.prog 94 [Arg.imm (D.dat slabT (l.getD (((x : Nat) : Int)).toNat (0, 0, 0, 0))), Arg.imm (D.dat slabT (l.getD (((x : Nat) :
      Int)).toNat (0, 0, 0, 0)))] (compsOf [(false, Ty.bool)] r) ∧ split (!r) (false = true) ((-9223372036854775808 ≤ ((x : Nat) : Int) + 1 ∧ ((x : Nat) : Int) + 1 ≤ 9223372036854775807) ∧ ∃ (x' : Nat),
      Slot.val (D.dat (Ty.int IntKind.i64) (((x : Nat) : Int) + 1)) = Slot.val (D.dat (Ty.int IntKind.i64) ((x' : Nat) : Int)) ∧ x' ≤ l.length ∧ l.length - x' < l.length - x)))) (true = true))) := by
    intro _ _ _ _
    refine split_of (fun h => by simp at h) (fun _ => ⟨⟨0, rfl, by omega⟩, fun i hi _ _ => split_of (fun h => ?_) (fun h => rfl)⟩)
    have h := of_decide_eq_true h
    refine ⟨by omega, ?_⟩
    intros
    refine ⟨by omega, ?_⟩
    intros
    exact ⟨_, eqSlab_ev _, split_of (fun h2 => by simp at h2) (fun _ => ⟨by omega, i + 1, rfl, by omega, by omega⟩)⟩
  refine @Eq.mpr _ _ (?_) key
  kernel_rfl
theorem eqSquare_ev (q : Sq) : Ev Try.prog 19 [aQ q, aQ q] (compsOf [rB] (true)) := by
  refine ev_of (l := [rB]) (r := (true)) (types (resT) [] (fun _ _ => none)) follows Try.func19 (by kernel_rfl) (by rw [Try.ntmps19]; exact Nat.le_of_ble_eq_true rfl) ?_
  have key : (inR IntKind.i8 q.fst → inR IntKind.i8 q.snd.fst → (q.snd.snd.length ≤ 9223372036854775807 ∧ ∀ (x : Int × Int × Int × Int), List.Mem x q.snd.snd → inR IntKind.i8 x.fst ∧ inR IntKind.i8 x.snd.fst ∧ inR
      IntKind.i8 x.snd.snd.fst ∧ inR IntKind.i8 x.snd.snd.snd) → inR IntKind.i8 q.fst → inR IntKind.i8 q.snd.fst → (q.snd.snd.length ≤ 9223372036854775807 ∧ ∀ (x : Int × Int × Int × Int), List.Mem x
      q.snd.snd → inR IntKind.i8 x.fst ∧ inR IntKind.i8 x.snd.fst ∧ inR IntKind.i8 x.snd.snd.fst ∧ inR IntKind.i8 x.snd.snd.snd) → inR IntKind.i8 q.fst → inR IntKind.i8 q.fst → split (!decide (q.fst =
      q.fst)) (false = true) (inR IntKind.i8 q.snd.fst → inR IntKind.i8 q.snd.fst → split (!decide (q.snd.fst = q.snd.fst)) (false = true) ((q.snd.snd.length ≤ 9223372036854775807 ∧ ∀ (x : Int × Int × Int
      × Int), List.Mem x q.snd.snd → inR IntKind.i8 x.fst ∧ inR IntKind.i8 x.snd.fst ∧ inR IntKind.i8 x.snd.snd.fst ∧ inR IntKind.i8 x.snd.snd.snd) → (q.snd.snd.length ≤ 9223372036854775807 ∧ ∀ (x : Int ×
      Int × Int × Int), List.Mem x q.snd.snd → inR IntKind.i8 x.fst ∧ inR IntKind.i8 x.snd.fst ∧ inR IntKind.i8 x.snd.snd.fst ∧ inR IntKind.i8 x.snd.snd.snd) → ∃ (r : Bool), Ev Try.prog 47 [Arg.imm (D.dat
      (Ty.slice 41 slabT) q.snd.snd), Arg.imm (D.dat (Ty.slice 41 slabT) q.snd.snd)] (compsOf [(false, Ty.bool)] r) ∧ split (!r) (false = true) (true = true)))) := by
    repeat' (first
      | (intro hh; try simp only [inR, loK, hiK] at hh)
      | exact trivial
      | (refine ⟨_, eqSlabS_ev _, ?_⟩)
      | (refine And.intro ?_ ?_)
      | (refine split_of (fun hh => ?_) (fun hh => ?_)))
    all_goals (first | omega | rfl | (simp_all []; done) | (simp_all []; omega))
  refine @Eq.mpr _ _ (?_) key
  kernel_rfl
noncomputable abbrev eqIntsInv (l : List Int) (n : Nat) (σ : List Slot) : Option LoopInv := match n with
  | 4 => some ⟨hvAt Try.f20 4, Nat, fun i => [(5, .val (.dat (.int .i64) i))], fun i => i ≤ l.length, fun i => l.length - i⟩
  | _ => none
theorem eqInts_ev (l : List Int) : Ev Try.prog 20 [aIs l, aIs l] (compsOf [rB] (true)) := by
  refine ev_of (l := [rB]) (r := (true)) (types (resT) [] (eqIntsInv l)) follows Try.func20 (by kernel_rfl) (by rw [Try.ntmps20]; exact Nat.le_of_ble_eq_true rfl) ?_
  have key : ((l.length ≤ 9223372036854775807 ∧ ∀ (x : Int), List.Mem x l → inR IntKind.i64 x) → (l.length ≤ 9223372036854775807 ∧ ∀ (x : Int), List.Mem x l → inR IntKind.i64 x) → ((l.length : Nat) : Int) ≤
      9223372036854775807 → ((l.length : Nat) : Int) ≤ 9223372036854775807 → split (!decide (((l.length : Nat) : Int) = ((l.length : Nat) : Int))) (false = true) ((∃ (x0 : Nat), Slot.val (D.dat (Ty.int
      IntKind.i64) 0) = Slot.val (D.dat (Ty.int IntKind.i64) ((x0 : Nat) : Int)) ∧ x0 ≤ l.length) ∧ ∀ (x : Nat), x ≤ l.length → inR IntKind.i64 ((x : Nat) : Int) → ((l.length : Nat) : Int) ≤
      9223372036854775807 → split (decide (((x : Nat) : Int) < ((l.length : Nat) : Int))) ((0 ≤ ((x : Nat) : Int) ∧ ((x : Nat) : Int) < ((l.length : Nat) : Int)) ∧ (inR IntKind.i64 (l.getD (((x : Nat) :
      Int)).toNat 0) → (0 ≤ ((x : Nat) : Int) ∧ ((x : Nat) : Int) < ((l.length : Nat) : Int)) ∧ (inR IntKind.i64 (l.getD (((x : Nat) : Int)).toNat 0) → split (!decide (l.getD (((x : Nat) : Int)).toNat 0 =
      l.getD (((x : Nat) : Int)).toNat 0)) (false = true) ((-9223372036854775808 ≤ ((x : Nat) : Int) + 1 ∧ ((x : Nat) : Int) + 1 ≤ 9223372036854775807) ∧ ∃ (x' : Nat), Slot.val (D.dat (Ty.int IntKind.i64)
      (((x : Nat) : Int) + 1)) = Slot.val (D.dat (Ty.int IntKind.i64) ((x' : Nat) : Int)) ∧ x' ≤ l.length ∧ l.length - x' < l.length - x)))) (true = true))) := by
    intro _ _ _ _
    refine split_of (fun h => by simp at h) (fun _ => ⟨⟨0, rfl, by omega⟩, fun i hi _ _ => split_of (fun h => ?_) (fun h => rfl)⟩)
    have h := of_decide_eq_true h
    refine ⟨by omega, ?_⟩
    intros
    refine ⟨by omega, ?_⟩
    intros
    exact split_of (fun h2 => by simp at h2) (fun _ => ⟨by omega, i + 1, rfl, by omega, by omega⟩)
  refine @Eq.mpr _ _ (?_) key
  kernel_rfl
end Go.Proofs.Ytmjijggkdbiijaa
