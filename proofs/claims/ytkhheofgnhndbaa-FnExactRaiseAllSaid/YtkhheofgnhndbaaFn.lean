/- A law's copies and comparisons. No statement is proved here. -/
import Derived.Test.YtkhheofgnhndbaaFm
namespace Go.Proofs.Ytkhheofgnhndbaa
open Go.RowKit
set_option linter.unusedVariables false
set_option linter.unusedSimpArgs false
set_option maxRecDepth 100000
set_option maxHeartbeats 4000000
abbrev aG0 (g : G) : Arg := .imm (.dat (groundT 48) g)
abbrev aL0 (l : Cl) : Arg := .imm (.dat (.slice 48 cellT) l)
abbrev oG : Bool × Ty := (true, groundT 40)
abbrev A9 : Ty := .arr 9 (.int .i16)
abbrev A99 : Ty := .arr 9 A9
def szI (n : Nat) (left : Int) : Int := if left - n < 0 then -1 else left - n
theorem szCellS_ev (l : Cl) (left : Int) (hl : 0 ≤ left ∧ left ≤ 1048576) : Ev Try.prog 31 [aL0 l, aI left] (compsOf [rI] (szI l.length left)) := by
  refine ev_of (l := [rI]) (r := (szI l.length left)) (types (resT) [] (fun _ _ => none)) follows Try.func31 (by kernel_rfl) (by rw [Try.ntmps31]; exact Nat.le_of_ble_eq_true rfl) ?_
  have key : ((List.length l ≤ 9223372036854775807 ∧
      ∀ (x : Int × Int), List.Mem x l → inR IntKind.i8 x.fst ∧ inR IntKind.i8 x.snd) →
    inR IntKind.i64 left →
      (((List.length l) : Nat) : Int) ≤ 9223372036854775807 →
        (-9223372036854775808 ≤ left - (((List.length l) : Nat) : Int) ∧ left - (((List.length l) : Nat) : Int) ≤ 9223372036854775807) ∧
          split (decide (left - (((List.length l) : Nat) : Int) < 0)) (-1 = szI (List.length l) left)
            (left - (((List.length l) : Nat) : Int) = szI (List.length l) left)) := by
    repeat' (first
      | (intro hh; try simp only [inR, loK, hiK] at hh)
      | exact trivial
      | (refine And.intro ?_ ?_)
      | (refine split_of (fun hh => ?_) (fun hh => ?_)))
    all_goals (first | omega | rfl | (simp_all [szI]; done) | (simp_all [szI]; omega))
  refine @Eq.mpr _ _ (?_) key
  kernel_rfl
theorem szGround_ev (g : G) : Ev Try.prog 14 [aG0 g, aI 1048576] (compsOf [rI] (szI g.2.2.2.length 1048576)) := by
  refine ev_of (l := [rI]) (r := (szI g.2.2.2.length 1048576)) (types (resT) [] (fun _ _ => none)) follows Try.func14 (by kernel_rfl) (by rw [Try.ntmps14]; exact Nat.le_of_ble_eq_true rfl) ?_
  have key : (inR IntKind.i8 g.fst →
    inR IntKind.i8 g.snd.fst →
      (g.snd.snd.fst.length = 9 ∧
          ∀ (x : List Int),
            List.Mem x g.snd.snd.fst → x.length = 9 ∧ ∀ (x_1 : Int), List.Mem x_1 x → inR IntKind.i16 x_1) →
        (g.snd.snd.snd.length ≤ 9223372036854775807 ∧
            ∀ (x : Int × Int), List.Mem x g.snd.snd.snd → inR IntKind.i8 x.fst ∧ inR IntKind.i8 x.snd) →
          inR IntKind.i64 1048576 →
            (g.snd.snd.snd.length ≤ 9223372036854775807 ∧
                ∀ (x : Int × Int), List.Mem x g.snd.snd.snd → inR IntKind.i8 x.fst ∧ inR IntKind.i8 x.snd) →
              ∃ (r : Int),
                Ev Try.prog 31
                    [Arg.imm (D.dat (Ty.slice 48 cellT) g.snd.snd.snd), Arg.imm (D.dat (Ty.int IntKind.i64) 1048576)]
                    (compsOf [(false, Ty.int IntKind.i64)] r) ∧
                  (inR IntKind.i64 r →
                    split (decide (r < 0)) (-1 = szI g.snd.snd.snd.length 1048576)
                      (r = szI g.snd.snd.snd.length 1048576))) := by
    intros
    refine ⟨_, szCellS_ev _ _ (by omega), fun _ => split_of (fun h => ?_) (fun h => rfl)⟩
    have h := of_decide_eq_true h
    unfold szI at h ⊢
    by_cases c : (1048576 : Int) - (g.2.2.2.length : Int) < 0
    · rw [if_pos c]
    · rw [if_neg c] at h; exact absurd h c
  refine @Eq.mpr _ _ (?_) key
  kernel_rfl
def toCellV (p : Int × Int) : Int × Int := (p.1, p.2)
theorem toCell_ev (p : Int × Int) : Ev Try.prog 29 [.imm (.dat cellT p)] (compsOf [rC] (toCellV p)) := by
  refine ev_of (l := [rC]) (r := (toCellV p)) (types (resT) [] (fun _ _ => none)) follows Try.func29 (by kernel_rfl) (by rw [Try.ntmps29]; exact Nat.le_of_ble_eq_true rfl) ?_
  have key : (inR IntKind.i8 p.fst →
    inR IntKind.i8 p.snd →
      inR IntKind.i8 p.fst →
        inR IntKind.i8 p.snd → inR IntKind.i8 p.fst → inR IntKind.i8 p.snd → (p.fst, p.snd) = toCellV p) := by
    repeat' (first
      | (intro hh; try simp only [inR, loK, hiK] at hh)
      | exact trivial
      | (refine And.intro ?_ ?_)
      | (refine split_of (fun hh => ?_) (fun hh => ?_)))
    all_goals (first | omega | rfl | (simp_all [toCellV]; done) | (simp_all [toCellV]; omega))
  refine @Eq.mpr _ _ (?_) key
  kernel_rfl
structure Upto {α : Type} (d : α) (x y : List α) (i : Nat) : Prop where
  le : i ≤ x.length
  len : y.length = x.length
  same : ∀ j, j < i → y.getD j d = x.getD j d
theorem Upto.next {α : Type} {d : α} {x y : List α} {i : Nat} (h : Upto d x y i) (hi : i < x.length) : Upto d x (y.set i (x.getD i d)) (i + 1) := by
  refine ⟨hi, by rw [List.length_set, h.len], fun j hj => ?_⟩
  rw [List.getD_eq_getElem?_getD, List.getElem?_set]
  by_cases e : i = j
  · subst e
    rw [if_pos rfl, if_pos (by rw [h.len]; exact hi)]; rfl
  · rw [if_neg e]
    have := h.same j (by omega)
    rwa [List.getD_eq_getElem?_getD] at this
theorem Upto.done {α : Type} {d : α} {x y : List α} {i : Nat} (h : Upto d x y i) (hi : ¬ i < x.length) : y = x := by
  apply List.ext_getElem h.len
  intro j h1 h2
  have := h.same j (by have := h.le; omega)
  simpa [List.getD_eq_getElem?_getD, h1, h2] using this
noncomputable abbrev toRowInv (x : List Int) (n : Nat) (σ : List Slot) : Option LoopInv := match n with
  | 3 => some ⟨3 :: hvAt Try.f88 3, List Int × Nat, fun s => [(3, .box (.dat A9 s.1)), (4, .val (.dat (.int .i64) s.2))], fun s => Upto 0 x s.1 s.2, fun s => 9 - s.2⟩
  | _ => none
theorem toRow_ev (x : List Int) : Ev Try.prog 88 [.imm (.dat A9 x)] (compsOf [(false, A9)] (x)) := by
  refine ev_of (l := [(false, A9)]) (r := (x)) (types (resT) [] (toRowInv x)) follows Try.func88 (by kernel_rfl) (by rw [Try.ntmps88]; exact Nat.le_of_ble_eq_true rfl) ?_
  have key : ((x.length = 9 ∧ ∀ (x_1 : Int), List.Mem x_1 x → inR IntKind.i16 x_1) →
    (∃ (x0 : List Int × Nat),
        (Slot.box (D.dat (Ty.arr 9 (Ty.int IntKind.i16)) (List.replicate 9 0)) = Slot.box (D.dat A9 x0.fst) ∧
            Slot.val (D.dat (Ty.int IntKind.i64) 0) = Slot.val (D.dat (Ty.int IntKind.i64) ((x0.snd : Nat) : Int))) ∧
          Upto 0 x x0.fst x0.snd) ∧
      ∀ (x_1 : List Int × Nat),
        Upto 0 x x_1.fst x_1.snd →
          (x_1.fst.length = 9 ∧ ∀ (x : Int), List.Mem x x_1.fst → inR IntKind.i16 x) →
            inR IntKind.i64 ((x_1.snd : Nat) : Int) →
              split (decide (((x_1.snd : Nat) : Int) < 9))
                ((0 ≤ ((x_1.snd : Nat) : Int) ∧ ((x_1.snd : Nat) : Int) < ((9 : Nat) : Int)) ∧
                  (inR IntKind.i16 (x.getD (((x_1.snd : Nat) : Int)).toNat 0) →
                    (0 ≤ ((x_1.snd : Nat) : Int) ∧ ((x_1.snd : Nat) : Int) < ((9 : Nat) : Int)) ∧
                      (-9223372036854775808 ≤ ((x_1.snd : Nat) : Int) + 1 ∧ ((x_1.snd : Nat) : Int) + 1 ≤ 9223372036854775807) ∧
                        ∃ (x' : List Int × Nat),
                          (Slot.box (D.dat A9 (x_1.fst.set (((x_1.snd : Nat) : Int)).toNat (x.getD (((x_1.snd : Nat) : Int)).toNat 0))) =
                                Slot.box (D.dat A9 x'.fst) ∧
                              Slot.val (D.dat (Ty.int IntKind.i64) (((x_1.snd : Nat) : Int) + 1)) =
                                Slot.val (D.dat (Ty.int IntKind.i64) ((x'.snd : Nat) : Int))) ∧
                            Upto 0 x x'.fst x'.snd ∧ 9 - x'.snd < 9 - x_1.snd))
                ((x_1.fst.length = 9 ∧ ∀ (x : Int), List.Mem x x_1.fst → inR IntKind.i16 x) → x_1.fst = x)) := by
    intro hx
    have h9 := hx.1
    refine ⟨⟨(List.replicate 9 0, 0), ⟨rfl, rfl⟩, ⟨Nat.zero_le _, by rw [h9]; rfl, fun j hj => absurd hj (Nat.not_lt_zero _)⟩⟩, fun ⟨y, i⟩ hu _ _ => split_of (fun h => ?_) (fun h => ?_)⟩
    · have h : ((i : Nat) : Int) < 9 := of_decide_eq_true h
      simp only [Int.toNat_natCast]
      exact ⟨by omega, fun _ => ⟨by omega, by omega, (y.set i (x.getD i 0), i + 1), ⟨rfl, rfl⟩, hu.next (by omega), by show 9 - (i + 1) < 9 - i; omega⟩⟩
    · have h : ¬ ((i : Nat) : Int) < 9 := of_decide_eq_false h
      exact fun _ => hu.done (by omega)
  refine @Eq.mpr _ _ (?_) key
  kernel_rfl
noncomputable abbrev toRowsInv (x : List (List Int)) (n : Nat) (σ : List Slot) : Option LoopInv := match n with
  | 3 => some ⟨3 :: hvAt Try.f49 3, List (List Int) × Nat, fun s => [(3, .box (.dat A99 s.1)), (4, .val (.dat (.int .i64) s.2))], fun s => Upto (List.replicate 9 0) x s.1 s.2, fun s => 9 - s.2⟩
  | _ => none
theorem toRows_ev (x : List (List Int)) : Ev Try.prog 49 [.imm (.dat A99 x)] (compsOf [(false, A99)] (x)) := by
  refine ev_of (l := [(false, A99)]) (r := (x)) (types (resT) [] (toRowsInv x)) follows Try.func49 (by kernel_rfl) (by rw [Try.ntmps49]; exact Nat.le_of_ble_eq_true rfl) ?_
  have key : ((x.length = 9 ∧
      ∀ (x_1 : List Int), List.Mem x_1 x → x_1.length = 9 ∧ ∀ (x : Int), List.Mem x x_1 → inR IntKind.i16 x) →
    (∃ (x0 : List (List Int) × Nat),
        (Slot.box (D.dat (Ty.arr 9 (Ty.arr 9 (Ty.int IntKind.i16))) (List.replicate 9 (List.replicate 9 0))) =
              Slot.box (D.dat A99 x0.fst) ∧
            Slot.val (D.dat (Ty.int IntKind.i64) 0) = Slot.val (D.dat (Ty.int IntKind.i64) ((x0.snd : Nat) : Int))) ∧
          Upto (List.replicate 9 0) x x0.fst x0.snd) ∧
      ∀ (x_1 : List (List Int) × Nat),
        Upto (List.replicate 9 0) x x_1.fst x_1.snd →
          (x_1.fst.length = 9 ∧
              ∀ (x : List Int),
                List.Mem x x_1.fst → x.length = 9 ∧ ∀ (x_2 : Int), List.Mem x_2 x → inR IntKind.i16 x_2) →
            inR IntKind.i64 ((x_1.snd : Nat) : Int) →
              split (decide (((x_1.snd : Nat) : Int) < 9))
                ((0 ≤ ((x_1.snd : Nat) : Int) ∧ ((x_1.snd : Nat) : Int) < ((9 : Nat) : Int)) ∧
                  (((x.getD (((x_1.snd : Nat) : Int)).toNat (List.replicate 9 0)).length = 9 ∧
                      ∀ (x_2 : Int),
                        List.Mem x_2 (x.getD (((x_1.snd : Nat) : Int)).toNat (List.replicate 9 0)) → inR IntKind.i16 x_2) →
                    ∃ (r : List Int),
                      Ev Try.prog 88 [Arg.imm (D.dat A9 (x.getD (((x_1.snd : Nat) : Int)).toNat (List.replicate 9 0)))]
                          (compsOf [(false, Ty.arr 9 (Ty.int IntKind.i16))] r) ∧
                        ((r.length = 9 ∧ ∀ (x : Int), List.Mem x r → inR IntKind.i16 x) →
                          (0 ≤ ((x_1.snd : Nat) : Int) ∧ ((x_1.snd : Nat) : Int) < ((9 : Nat) : Int)) ∧
                            (-9223372036854775808 ≤ ((x_1.snd : Nat) : Int) + 1 ∧ ((x_1.snd : Nat) : Int) + 1 ≤ 9223372036854775807) ∧
                              ∃ (x' : List (List Int) × Nat),
                                (Slot.box (D.dat A99 (x_1.fst.set (((x_1.snd : Nat) : Int)).toNat r)) = Slot.box (D.dat A99 x'.fst) ∧
                                    Slot.val (D.dat (Ty.int IntKind.i64) (((x_1.snd : Nat) : Int) + 1)) =
                                      Slot.val (D.dat (Ty.int IntKind.i64) ((x'.snd : Nat) : Int))) ∧
                                  Upto (List.replicate 9 0) x x'.fst x'.snd ∧ 9 - x'.snd < 9 - x_1.snd)))
                ((x_1.fst.length = 9 ∧
                    ∀ (x : List Int),
                      List.Mem x x_1.fst → x.length = 9 ∧ ∀ (x_2 : Int), List.Mem x_2 x → inR IntKind.i16 x_2) →
                  x_1.fst = x)) := by
    intro hx
    have h9 := hx.1
    refine ⟨⟨(List.replicate 9 (List.replicate 9 0), 0), ⟨rfl, rfl⟩, ⟨Nat.zero_le _, by rw [h9]; rfl, fun j hj => absurd hj (Nat.not_lt_zero _)⟩⟩, fun ⟨y, i⟩ hu _ _ => split_of (fun h => ?_) (fun h => ?_)⟩
    · have h : ((i : Nat) : Int) < 9 := of_decide_eq_true h
      simp only [Int.toNat_natCast]
      exact ⟨by omega, fun _ => ⟨_, toRow_ev _, fun _ => ⟨by omega, by omega, (y.set i (x.getD i (List.replicate 9 0)), i + 1), ⟨rfl, rfl⟩, hu.next (by omega), by show 9 - (i + 1) < 9 - i; omega⟩⟩⟩
    · have h : ¬ ((i : Nat) : Int) < 9 := of_decide_eq_false h
      exact fun _ => hu.done (by omega)
  refine @Eq.mpr _ _ (?_) key
  kernel_rfl
noncomputable abbrev toCellSInv (x : Cl) (n : Nat) (σ : List Slot) : Option LoopInv := match n with
  | 3 => some ⟨3 :: hvAt Try.f33 3, Cl × Nat, fun s => [(3, .own (.slice 40 cellT) s.1), (4, .val (.dat (.int .i64) s.2))], fun s => Upto (0, 0) x s.1 s.2, fun s => x.length - s.2⟩
  | _ => none
theorem toCellS_ev (x : Cl) (hx : x.length ≤ 1048576) : Ev Try.prog 33 [aL0 x] (compsOf [oC] (x)) := by
  refine ev_of (l := [oC]) (r := (x)) (types (resT) [] (toCellSInv x)) follows Try.func33 (by kernel_rfl) (by rw [Try.ntmps33]; exact Nat.le_of_ble_eq_true rfl) ?_
  have key : ((List.length x ≤ 9223372036854775807 ∧
      ∀ (x_1 : Int × Int), List.Mem x_1 x → inR IntKind.i8 x_1.fst ∧ inR IntKind.i8 x_1.snd) →
    (((List.length x) : Nat) : Int) ≤ 9223372036854775807 →
      (0 ≤ (((List.length x) : Nat) : Int) ∧ (((List.length x) : Nat) : Int) = (((List.length x) : Nat) : Int) ∧ (((List.length x) : Nat) : Int) ≤ 4294967296) ∧
        (∃ (x0 : List (Int × Int) × Nat),
            (Slot.own (Ty.slice 40 cellT) (List.replicate ((((List.length x) : Nat) : Int)).toNat (0, 0)) =
                  Slot.own (Ty.slice 40 cellT) x0.fst ∧
                Slot.val (D.dat (Ty.int IntKind.i64) 0) = Slot.val (D.dat (Ty.int IntKind.i64) ((x0.snd : Nat) : Int))) ∧
              Upto (0, 0) x x0.fst x0.snd) ∧
          ∀ (x_1 : List (Int × Int) × Nat),
            Upto (0, 0) x x_1.fst x_1.snd →
              (x_1.fst.length ≤ 9223372036854775807 ∧
                  ∀ (x : Int × Int), List.Mem x x_1.fst → inR IntKind.i8 x.fst ∧ inR IntKind.i8 x.snd) →
                inR IntKind.i64 ((x_1.snd : Nat) : Int) →
                  (((List.length x) : Nat) : Int) ≤ 9223372036854775807 →
                    split (decide (((x_1.snd : Nat) : Int) < (((List.length x) : Nat) : Int)))
                      ((0 ≤ ((x_1.snd : Nat) : Int) ∧ ((x_1.snd : Nat) : Int) < (((List.length x) : Nat) : Int)) ∧
                        (inR IntKind.i8 (List.getD x (((x_1.snd : Nat) : Int)).toNat (0, 0)).fst →
                          inR IntKind.i8 (List.getD x (((x_1.snd : Nat) : Int)).toNat (0, 0)).snd →
                            ∃ (r : Int × Int),
                              Ev Try.prog 29 [Arg.imm (D.dat cellT (List.getD x (((x_1.snd : Nat) : Int)).toNat (0, 0)))]
                                  (compsOf [(false, (Ty.int IntKind.i8).prod (Ty.int IntKind.i8))] r) ∧
                                (inR IntKind.i8 r.fst →
                                  inR IntKind.i8 r.snd →
                                    (0 ≤ ((x_1.snd : Nat) : Int) ∧ ((x_1.snd : Nat) : Int) < ((x_1.fst.length : Nat) : Int)) ∧
                                      (-9223372036854775808 ≤ ((x_1.snd : Nat) : Int) + 1 ∧ ((x_1.snd : Nat) : Int) + 1 ≤ 9223372036854775807) ∧
                                        ∃ (x' : List (Int × Int) × Nat),
                                          (Slot.own (Ty.slice 40 cellT) (x_1.fst.set (((x_1.snd : Nat) : Int)).toNat r) =
                                                Slot.own (Ty.slice 40 cellT) x'.fst ∧
                                              Slot.val (D.dat (Ty.int IntKind.i64) (((x_1.snd : Nat) : Int) + 1)) =
                                                Slot.val (D.dat (Ty.int IntKind.i64) ((x'.snd : Nat) : Int))) ∧
                                            Upto (0, 0) x x'.fst x'.snd ∧
                                              List.length x - x'.snd < List.length x - x_1.snd)))
                      (x_1.fst = x)) := by
    intro _ _
    simp only [Int.toNat_natCast]
    refine ⟨⟨by omega, trivial, by omega⟩, ⟨(List.replicate x.length (0, 0), 0), ⟨rfl, rfl⟩, ⟨Nat.zero_le _, by simp, fun j hj => absurd hj (Nat.not_lt_zero _)⟩⟩, fun ⟨y, i⟩ hu _ _ _ => split_of (fun h => ?_) (fun h => ?_)⟩
    · have h : ((i : Nat) : Int) < x.length := of_decide_eq_true h
      have hl := hu.len
      simp only at hl
      exact ⟨by omega, fun _ _ => ⟨_, toCell_ev _, fun _ _ => ⟨by simp only; omega, by simp only; omega, (y.set i (x.getD i (0, 0)), i + 1), ⟨rfl, rfl⟩, hu.next (by omega), by show x.length - (i + 1) < x.length - i; omega⟩⟩⟩
    · have h : ¬ ((i : Nat) : Int) < x.length := of_decide_eq_false h
      exact hu.done (by omega)
  refine @Eq.mpr _ _ (?_) key
  kernel_rfl
def toGroundV (g : G) : G := (g.1, g.2.1, g.2.2.1, g.2.2.2)
theorem toGround_ev (g : G) (hx : g.2.2.2.length ≤ 1048576) : Ev Try.prog 16 [aG0 g] (compsOf [oG] (toGroundV g)) := by
  refine ev_of (l := [oG]) (r := (toGroundV g)) (types (resT) [] (fun _ _ => none)) follows Try.func16 (by kernel_rfl) (by rw [Try.ntmps16]; exact Nat.le_of_ble_eq_true rfl) ?_
  have key : (inR IntKind.i8 g.fst →
    inR IntKind.i8 g.snd.fst →
      (g.snd.snd.fst.length = 9 ∧
          ∀ (x : List Int),
            List.Mem x g.snd.snd.fst → x.length = 9 ∧ ∀ (x_1 : Int), List.Mem x_1 x → inR IntKind.i16 x_1) →
        (g.snd.snd.snd.length ≤ 9223372036854775807 ∧
            ∀ (x : Int × Int), List.Mem x g.snd.snd.snd → inR IntKind.i8 x.fst ∧ inR IntKind.i8 x.snd) →
          inR IntKind.i8 g.fst →
            inR IntKind.i8 g.snd.fst →
              (g.snd.snd.fst.length = 9 ∧
                  ∀ (x : List Int),
                    List.Mem x g.snd.snd.fst → x.length = 9 ∧ ∀ (x_1 : Int), List.Mem x_1 x → inR IntKind.i16 x_1) →
                ∃ (r : List (List Int)),
                  Ev Try.prog 49 [Arg.imm (D.dat (Ty.arr 9 (Ty.arr 9 (Ty.int IntKind.i16))) g.snd.snd.fst)]
                      (compsOf [(false, Ty.arr 9 (Ty.arr 9 (Ty.int IntKind.i16)))] r) ∧
                    ((r.length = 9 ∧
                        ∀ (x : List Int),
                          List.Mem x r → x.length = 9 ∧ ∀ (x_1 : Int), List.Mem x_1 x → inR IntKind.i16 x_1) →
                      (g.snd.snd.snd.length ≤ 9223372036854775807 ∧
                          ∀ (x : Int × Int), List.Mem x g.snd.snd.snd → inR IntKind.i8 x.fst ∧ inR IntKind.i8 x.snd) →
                        ∃ (r_1 : List (Int × Int)),
                          Ev Try.prog 33 [Arg.imm (D.dat (Ty.slice 48 cellT) g.snd.snd.snd)]
                              (compsOf [(true, Ty.slice 40 ((Ty.int IntKind.i8).prod (Ty.int IntKind.i8)))] r_1) ∧
                            ((r_1.length ≤ 9223372036854775807 ∧
                                ∀ (x : Int × Int), List.Mem x r_1 → inR IntKind.i8 x.fst ∧ inR IntKind.i8 x.snd) →
                              inR IntKind.i8 g.fst →
                                inR IntKind.i8 g.snd.fst →
                                  (r.length = 9 ∧
                                      ∀ (x : List Int),
                                        List.Mem x r →
                                          x.length = 9 ∧ ∀ (x_1 : Int), List.Mem x_1 x → inR IntKind.i16 x_1) →
                                    (r_1.length ≤ 9223372036854775807 ∧
                                        ∀ (x : Int × Int),
                                          List.Mem x r_1 → inR IntKind.i8 x.fst ∧ inR IntKind.i8 x.snd) →
                                      (g.fst, g.snd.fst, r, r_1) = toGroundV g))) := by
    intros
    refine ⟨_, toRows_ev _, ?_⟩
    intros
    refine ⟨_, toCellS_ev _ hx, ?_⟩
    intros
    rfl
  refine @Eq.mpr _ _ (?_) key
  kernel_rfl
theorem eqCell_ev (p : Int × Int) : Ev Try.prog 23 [aC p, aC p] (compsOf [rB] (true)) := by
  refine ev_of (l := [rB]) (r := (true)) (types (resT) [] (fun _ _ => none)) follows Try.func23 (by kernel_rfl) (by rw [Try.ntmps23]; exact Nat.le_of_ble_eq_true rfl) ?_
  have key : (inR IntKind.i8 p.fst →
    inR IntKind.i8 p.snd →
      inR IntKind.i8 p.fst →
        inR IntKind.i8 p.snd →
          inR IntKind.i8 p.fst →
            inR IntKind.i8 p.fst →
              split (!decide (p.fst = p.fst)) (false = true)
                (inR IntKind.i8 p.snd →
                  inR IntKind.i8 p.snd → split (!decide (p.snd = p.snd)) (false = true) (true = true))) := by
    repeat' (first
      | (intro hh; try simp only [inR, loK, hiK] at hh)
      | exact trivial
      | (refine And.intro ?_ ?_)
      | (refine split_of (fun hh => ?_) (fun hh => ?_)))
    all_goals (first | omega | rfl | (simp_all []; done) | (simp_all []; omega))
  refine @Eq.mpr _ _ (?_) key
  kernel_rfl
noncomputable abbrev eqRowInv (n : Nat) (σ : List Slot) : Option LoopInv := match n with
  | 2 => some ⟨hvAt Try.f93 2, Nat, fun i => [(5, .val (.dat (.int .i64) i))], fun i => i ≤ 9, fun i => 9 - i⟩
  | _ => none
theorem eqRow_ev (x : List Int) : Ev Try.prog 93 [.imm (.dat A9 x), .imm (.dat A9 x)] (compsOf [rB] (true)) := by
  refine ev_of (l := [rB]) (r := (true)) (types (resT) [] (eqRowInv)) follows Try.func93 (by kernel_rfl) (by rw [Try.ntmps93]; exact Nat.le_of_ble_eq_true rfl) ?_
  have key : ((x.length = 9 ∧ ∀ (x_1 : Int), List.Mem x_1 x → inR IntKind.i16 x_1) →
    (x.length = 9 ∧ ∀ (x_1 : Int), List.Mem x_1 x → inR IntKind.i16 x_1) →
      (∃ (x0 : Nat), Slot.val (D.dat (Ty.int IntKind.i64) 0) = Slot.val (D.dat (Ty.int IntKind.i64) ((x0 : Nat) : Int)) ∧ x0 ≤ 9) ∧
        ∀ (x_1 : Nat),
          x_1 ≤ 9 →
            inR IntKind.i64 ((x_1 : Nat) : Int) →
              split (decide (((x_1 : Nat) : Int) < 9))
                ((0 ≤ ((x_1 : Nat) : Int) ∧ ((x_1 : Nat) : Int) < ((9 : Nat) : Int)) ∧
                  (inR IntKind.i16 (x.getD (((x_1 : Nat) : Int)).toNat 0) →
                    (0 ≤ ((x_1 : Nat) : Int) ∧ ((x_1 : Nat) : Int) < ((9 : Nat) : Int)) ∧
                      (inR IntKind.i16 (x.getD (((x_1 : Nat) : Int)).toNat 0) →
                        split (!decide (x.getD (((x_1 : Nat) : Int)).toNat 0 = x.getD (((x_1 : Nat) : Int)).toNat 0)) (false = true)
                          ((-9223372036854775808 ≤ ((x_1 : Nat) : Int) + 1 ∧ ((x_1 : Nat) : Int) + 1 ≤ 9223372036854775807) ∧
                            ∃ (x' : Nat),
                              Slot.val (D.dat (Ty.int IntKind.i64) (((x_1 : Nat) : Int) + 1)) =
                                  Slot.val (D.dat (Ty.int IntKind.i64) ((x' : Nat) : Int)) ∧
                                x' ≤ 9 ∧ 9 - x' < 9 - x_1))))
                (true = true)) := by
    intro _ _
    refine ⟨⟨0, rfl, by omega⟩, fun i hi _ => split_of (fun h => ?_) (fun h => rfl)⟩
    have h := of_decide_eq_true h
    exact ⟨by omega, fun _ => ⟨by omega, fun _ => split_of (fun h2 => by simp at h2) (fun _ => ⟨by omega, i + 1, rfl, by omega, by omega⟩)⟩⟩
  refine @Eq.mpr _ _ (?_) key
  kernel_rfl
noncomputable abbrev eqRowsInv (n : Nat) (σ : List Slot) : Option LoopInv := match n with
  | 2 => some ⟨hvAt Try.f53 2, Nat, fun i => [(5, .val (.dat (.int .i64) i))], fun i => i ≤ 9, fun i => 9 - i⟩
  | _ => none
theorem eqRows_ev (x : List (List Int)) : Ev Try.prog 53 [.imm (.dat A99 x), .imm (.dat A99 x)] (compsOf [rB] (true)) := by
  refine ev_of (l := [rB]) (r := (true)) (types (resT) [] (eqRowsInv)) follows Try.func53 (by kernel_rfl) (by rw [Try.ntmps53]; exact Nat.le_of_ble_eq_true rfl) ?_
  have key : ((x.length = 9 ∧
      ∀ (x_1 : List Int), List.Mem x_1 x → x_1.length = 9 ∧ ∀ (x : Int), List.Mem x x_1 → inR IntKind.i16 x) →
    (x.length = 9 ∧
        ∀ (x_1 : List Int), List.Mem x_1 x → x_1.length = 9 ∧ ∀ (x : Int), List.Mem x x_1 → inR IntKind.i16 x) →
      (∃ (x0 : Nat), Slot.val (D.dat (Ty.int IntKind.i64) 0) = Slot.val (D.dat (Ty.int IntKind.i64) ((x0 : Nat) : Int)) ∧ x0 ≤ 9) ∧
        ∀ (x_1 : Nat),
          x_1 ≤ 9 →
            inR IntKind.i64 ((x_1 : Nat) : Int) →
              split (decide (((x_1 : Nat) : Int) < 9))
                ((0 ≤ ((x_1 : Nat) : Int) ∧ ((x_1 : Nat) : Int) < ((9 : Nat) : Int)) ∧
                  (((x.getD (((x_1 : Nat) : Int)).toNat (List.replicate 9 0)).length = 9 ∧
                      ∀ (x_2 : Int), List.Mem x_2 (x.getD (((x_1 : Nat) : Int)).toNat (List.replicate 9 0)) → inR IntKind.i16 x_2) →
                    (0 ≤ ((x_1 : Nat) : Int) ∧ ((x_1 : Nat) : Int) < ((9 : Nat) : Int)) ∧
                      (((x.getD (((x_1 : Nat) : Int)).toNat (List.replicate 9 0)).length = 9 ∧
                          ∀ (x_2 : Int),
                            List.Mem x_2 (x.getD (((x_1 : Nat) : Int)).toNat (List.replicate 9 0)) → inR IntKind.i16 x_2) →
                        ∃ (r : Bool),
                          Ev Try.prog 93
                              [Arg.imm (D.dat A9 (x.getD (((x_1 : Nat) : Int)).toNat (List.replicate 9 0))),
                                Arg.imm (D.dat A9 (x.getD (((x_1 : Nat) : Int)).toNat (List.replicate 9 0)))]
                              (compsOf [(false, Ty.bool)] r) ∧
                            split (!r) (false = true)
                              ((-9223372036854775808 ≤ ((x_1 : Nat) : Int) + 1 ∧ ((x_1 : Nat) : Int) + 1 ≤ 9223372036854775807) ∧
                                ∃ (x' : Nat),
                                  Slot.val (D.dat (Ty.int IntKind.i64) (((x_1 : Nat) : Int) + 1)) =
                                      Slot.val (D.dat (Ty.int IntKind.i64) ((x' : Nat) : Int)) ∧
                                    x' ≤ 9 ∧ 9 - x' < 9 - x_1))))
                (true = true)) := by
    intro _ _
    refine ⟨⟨0, rfl, by omega⟩, fun i hi _ => split_of (fun h => ?_) (fun h => rfl)⟩
    have h := of_decide_eq_true h
    exact ⟨by omega, fun _ => ⟨by omega, fun _ => ⟨_, eqRow_ev _, split_of (fun h2 => by simp at h2) (fun _ => ⟨by omega, i + 1, rfl, by omega, by omega⟩)⟩⟩⟩
  refine @Eq.mpr _ _ (?_) key
  kernel_rfl
noncomputable abbrev eqCellSInv (l : Cl) (n : Nat) (σ : List Slot) : Option LoopInv := match n with
  | 4 => some ⟨hvAt Try.f35 4, Nat, fun i => [(5, .val (.dat (.int .i64) i))], fun i => i ≤ l.length, fun i => l.length - i⟩
  | _ => none
theorem eqCellS_ev (l : Cl) : Ev Try.prog 35 [aL l, aL l] (compsOf [rB] (true)) := by
  refine ev_of (l := [rB]) (r := (true)) (types (resT) [] (eqCellSInv l)) follows Try.func35 (by kernel_rfl) (by rw [Try.ntmps35]; exact Nat.le_of_ble_eq_true rfl) ?_
  have key : ((List.length l ≤ 9223372036854775807 ∧
      ∀ (x : Int × Int), List.Mem x l → inR IntKind.i8 x.fst ∧ inR IntKind.i8 x.snd) →
    (List.length l ≤ 9223372036854775807 ∧
        ∀ (x : Int × Int), List.Mem x l → inR IntKind.i8 x.fst ∧ inR IntKind.i8 x.snd) →
      (((List.length l) : Nat) : Int) ≤ 9223372036854775807 →
        (((List.length l) : Nat) : Int) ≤ 9223372036854775807 →
          split (!decide ((((List.length l) : Nat) : Int) = (((List.length l) : Nat) : Int))) (false = true)
            ((∃ (x0 : Nat),
                Slot.val (D.dat (Ty.int IntKind.i64) 0) = Slot.val (D.dat (Ty.int IntKind.i64) ((x0 : Nat) : Int)) ∧
                  x0 ≤ List.length l) ∧
              ∀ (x : Nat),
                x ≤ List.length l →
                  inR IntKind.i64 ((x : Nat) : Int) →
                    (((List.length l) : Nat) : Int) ≤ 9223372036854775807 →
                      split (decide (((x : Nat) : Int) < (((List.length l) : Nat) : Int)))
                        ((0 ≤ ((x : Nat) : Int) ∧ ((x : Nat) : Int) < (((List.length l) : Nat) : Int)) ∧
                          (inR IntKind.i8 (List.getD l (((x : Nat) : Int)).toNat (0, 0)).fst →
                            inR IntKind.i8 (List.getD l (((x : Nat) : Int)).toNat (0, 0)).snd →
                              (0 ≤ ((x : Nat) : Int) ∧ ((x : Nat) : Int) < (((List.length l) : Nat) : Int)) ∧
                                (inR IntKind.i8 (List.getD l (((x : Nat) : Int)).toNat (0, 0)).fst →
                                  inR IntKind.i8 (List.getD l (((x : Nat) : Int)).toNat (0, 0)).snd →
                                    ∃ (r : Bool),
                                      Ev Try.prog 23
                                          [Arg.imm (D.dat cellT (List.getD l (((x : Nat) : Int)).toNat (0, 0))),
                                            Arg.imm (D.dat cellT (List.getD l (((x : Nat) : Int)).toNat (0, 0)))]
                                          (compsOf [(false, Ty.bool)] r) ∧
                                        split (!r) (false = true)
                                          ((-9223372036854775808 ≤ ((x : Nat) : Int) + 1 ∧ ((x : Nat) : Int) + 1 ≤ 9223372036854775807) ∧
                                            ∃ (x' : Nat),
                                              Slot.val (D.dat (Ty.int IntKind.i64) (((x : Nat) : Int) + 1)) =
                                                  Slot.val (D.dat (Ty.int IntKind.i64) ((x' : Nat) : Int)) ∧
                                                x' ≤ List.length l ∧ List.length l - x' < List.length l - x))))
                        (true = true))) := by
    intro _ _ _ _
    refine split_of (fun h => by simp at h) (fun _ => ⟨⟨0, rfl, by omega⟩, fun i hi _ _ => split_of (fun h => ?_) (fun h => rfl)⟩)
    have h := of_decide_eq_true h
    exact ⟨by omega, fun _ _ => ⟨by omega, fun _ _ => ⟨_, eqCell_ev _, split_of (fun h2 => by simp at h2) (fun _ => ⟨by omega, i + 1, rfl, by omega, by omega⟩)⟩⟩⟩
  refine @Eq.mpr _ _ (?_) key
  kernel_rfl
theorem eqGround_ev (g : G) : Ev Try.prog 18 [aG g, aG g] (compsOf [rB] (true)) := by
  refine ev_of (l := [rB]) (r := (true)) (types (resT) [] (fun _ _ => none)) follows Try.func18 (by kernel_rfl) (by rw [Try.ntmps18]; exact Nat.le_of_ble_eq_true rfl) ?_
  have key : (inR IntKind.i8 g.fst →
    inR IntKind.i8 g.snd.fst →
      (g.snd.snd.fst.length = 9 ∧
          ∀ (x : List Int),
            List.Mem x g.snd.snd.fst → x.length = 9 ∧ ∀ (x_1 : Int), List.Mem x_1 x → inR IntKind.i16 x_1) →
        (g.snd.snd.snd.length ≤ 9223372036854775807 ∧
            ∀ (x : Int × Int), List.Mem x g.snd.snd.snd → inR IntKind.i8 x.fst ∧ inR IntKind.i8 x.snd) →
          inR IntKind.i8 g.fst →
            inR IntKind.i8 g.snd.fst →
              (g.snd.snd.fst.length = 9 ∧
                  ∀ (x : List Int),
                    List.Mem x g.snd.snd.fst → x.length = 9 ∧ ∀ (x_1 : Int), List.Mem x_1 x → inR IntKind.i16 x_1) →
                (g.snd.snd.snd.length ≤ 9223372036854775807 ∧
                    ∀ (x : Int × Int), List.Mem x g.snd.snd.snd → inR IntKind.i8 x.fst ∧ inR IntKind.i8 x.snd) →
                  inR IntKind.i8 g.fst →
                    inR IntKind.i8 g.fst →
                      split (!decide (g.fst = g.fst)) (false = true)
                        (inR IntKind.i8 g.snd.fst →
                          inR IntKind.i8 g.snd.fst →
                            split (!decide (g.snd.fst = g.snd.fst)) (false = true)
                              ((g.snd.snd.fst.length = 9 ∧
                                  ∀ (x : List Int),
                                    List.Mem x g.snd.snd.fst →
                                      x.length = 9 ∧ ∀ (x_1 : Int), List.Mem x_1 x → inR IntKind.i16 x_1) →
                                (g.snd.snd.fst.length = 9 ∧
                                    ∀ (x : List Int),
                                      List.Mem x g.snd.snd.fst →
                                        x.length = 9 ∧ ∀ (x_1 : Int), List.Mem x_1 x → inR IntKind.i16 x_1) →
                                  ∃ (r : Bool),
                                    Ev Try.prog 53
                                        [Arg.imm (D.dat (Ty.arr 9 (Ty.arr 9 (Ty.int IntKind.i16))) g.snd.snd.fst),
                                          Arg.imm (D.dat (Ty.arr 9 (Ty.arr 9 (Ty.int IntKind.i16))) g.snd.snd.fst)]
                                        (compsOf [(false, Ty.bool)] r) ∧
                                      split (!r) (false = true)
                                        ((g.snd.snd.snd.length ≤ 9223372036854775807 ∧
                                            ∀ (x : Int × Int),
                                              List.Mem x g.snd.snd.snd → inR IntKind.i8 x.fst ∧ inR IntKind.i8 x.snd) →
                                          (g.snd.snd.snd.length ≤ 9223372036854775807 ∧
                                              ∀ (x : Int × Int),
                                                List.Mem x g.snd.snd.snd →
                                                  inR IntKind.i8 x.fst ∧ inR IntKind.i8 x.snd) →
                                            ∃ (r : Bool),
                                              Ev Try.prog 35
                                                  [Arg.imm (D.dat (Ty.slice 40 cellT) g.snd.snd.snd),
                                                    Arg.imm (D.dat (Ty.slice 40 cellT) g.snd.snd.snd)]
                                                  (compsOf [(false, Ty.bool)] r) ∧
                                                split (!r) (false = true) (true = true))))) := by
    repeat' (first
      | (intro hh; try simp only [inR, loK, hiK] at hh)
      | exact trivial
      | (refine ⟨_, eqRows_ev _, ?_⟩)
      | (refine ⟨_, eqCellS_ev _, ?_⟩)
      | (refine And.intro ?_ ?_)
      | (refine split_of (fun hh => ?_) (fun hh => ?_)))
    all_goals (first | omega | rfl | (simp_all []; done) | (simp_all []; omega))
  refine @Eq.mpr _ _ (?_) key
  kernel_rfl
end Go.Proofs.Ytkhheofgnhndbaa
