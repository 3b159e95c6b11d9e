/- Loads: weights and their codes. No statement is proved here. -/
import Derived.Test.YtjicolekkojonaaMc
namespace Go.Proofs.Ytjicolekkojonaa
open Go.RowKit
set_option linter.unusedVariables false
set_option linter.unusedSimpArgs false
set_option maxRecDepth 100000
set_option maxHeartbeats 4000000
def wts (l : List Sl) : List Int := l.map weightV
def any0 (l : List Sl) : Bool := (wts l).any fun y => decide (0 = y)
def heavyC (l : List Sl) : Int := if any0 l then 1 else if l.length ≤ 10 then 0 else 3
def weightsV (l : List Sl) : List Int × Int := (if any0 l then [] else wts l, heavyC l)
theorem wts_take {l : List Sl} {i : Nat} (h : i < l.length) : (l.take (i + 1)).map weightV = (l.take i).map weightV ++ [weightV (l.getD i (0, 0, 0, 0))] := by
  rw [List.take_succ_eq_append_getElem h, List.map_append]
  simp [List.getD_eq_getElem?_getD, h]
noncomputable abbrev weightsInv (l : List Sl) (n : Nat) (σ : List Slot) : Option LoopInv := match n with
  | 3 => some ⟨hvAt Try.f47 3, Nat, fun i => [(4, .own (.slice 2 iT) ((l.take i).map weightV)), (10, .val (.dat iT (i : Int)))], fun i => i ≤ l.length, fun i => l.length - i⟩
  | _ => none
theorem weights_ev (l : List Sl) (hl : l.length ≤ 1048576) : Ev Try.prog 47 [aSs l] (compsOf [oIs, rI] (weightsV l)) := by
  refine ev_of (l := [oIs, rI]) (r := (weightsV l)) (types (resT) [] (weightsInv l)) follows Try.func47 (by kernel_rfl) (by rw [Try.ntmps47]; exact Nat.le_of_ble_eq_true rfl) ?_
  have key : ((l.length ≤ 9223372036854775807 ∧ ∀ (x : Int × Int × Int × Int), List.Mem x l → inR IntKind.i8 x.fst ∧ inR IntKind.i8 x.snd.fst ∧ inR IntKind.i8 x.snd.snd.fst ∧ inR IntKind.i8 x.snd.snd.snd) →
      ((l.length : Nat) : Int) ≤ 9223372036854775807 → (∃ (x0 : Nat), (Slot.own (Ty.slice 2 (Ty.int IntKind.i64)) [] = Slot.own (Ty.slice 2 iT) (List.map weightV (List.take x0 l)) ∧ Slot.val (D.dat (Ty.int
      IntKind.i64) 0) = Slot.val (D.dat iT ((x0 : Nat) : Int))) ∧ x0 ≤ l.length) ∧ ∀ (x : Nat), x ≤ l.length → ((List.map weightV (List.take x l)).length ≤ 9223372036854775807 ∧ ∀ (x_1 : Int), List.Mem x_1
      (List.map weightV (List.take x l)) → inR IntKind.i64 x_1) → inR IntKind.i64 ((x : Nat) : Int) → split (decide (((x : Nat) : Int) < ((l.length : Nat) : Int))) ((0 ≤ ((x : Nat) : Int) ∧ ((x : Nat) :
      Int) < ((l.length : Nat) : Int)) ∧ (inR IntKind.i8 (l.getD (((x : Nat) : Int)).toNat (0, 0, 0, 0)).fst → inR IntKind.i8 (l.getD (((x : Nat) : Int)).toNat (0, 0, 0, 0)).snd.fst → inR IntKind.i8
      (l.getD (((x : Nat) : Int)).toNat (0, 0, 0, 0)).snd.snd.fst → inR IntKind.i8 (l.getD (((x : Nat) : Int)).toNat (0, 0, 0, 0)).snd.snd.snd → inR IntKind.i8 (l.getD (((x : Nat) : Int)).toNat (0, 0, 0,
      0)).fst → inR IntKind.i8 (l.getD (((x : Nat) : Int)).toNat (0, 0, 0, 0)).snd.fst → inR IntKind.i8 (l.getD (((x : Nat) : Int)).toNat (0, 0, 0, 0)).snd.snd.fst → inR IntKind.i8 (l.getD (((x : Nat) :
      Int)).toNat (0, 0, 0, 0)).snd.snd.snd → ∃ (r : Int), Ev Try.prog 59 [Arg.imm (D.dat slabT (l.getD (((x : Nat) : Int)).toNat (0, 0, 0, 0)))] (compsOf [(false, Ty.int IntKind.i64)] r) ∧ (inR
      IntKind.i64 r → (List.map weightV (List.take x l)).length + [r].length ≤ 4294967296 ∧ (-9223372036854775808 ≤ ((x : Nat) : Int) + 1 ∧ ((x : Nat) : Int) + 1 ≤ 9223372036854775807) ∧ ∃ (x' : Nat),
      (Slot.own (Ty.slice 2 (Ty.int IntKind.i64)) (List.map weightV (List.take x l) ++ [r]) = Slot.own (Ty.slice 2 iT) (List.map weightV (List.take x' l)) ∧ Slot.val (D.dat (Ty.int IntKind.i64) (((x : Nat)
      : Int) + 1)) = Slot.val (D.dat iT ((x' : Nat) : Int))) ∧ x' ≤ l.length ∧ l.length - x' < l.length - x))) (∃ (r : Bool), Ev Try.prog 60 [Arg.imm (D.dat (Ty.slice 2 iT) (List.map weightV (List.take x
      l))), Arg.imm (D.dat (Ty.int IntKind.i64) 0)] (compsOf [(false, Ty.bool)] r) ∧ split r ([] = (weightsV l).fst ∧ 1 = (weightsV l).snd) (((l.length : Nat) : Int) ≤ 9223372036854775807 → ∃ (r : Int), Ev
      Try.prog 52 [Arg.imm (D.dat Ty.bool (decide (((l.length : Nat) : Int) ≤ 10))), Arg.imm (D.dat (Ty.int IntKind.i64) 3)] (compsOf [(false, Ty.int IntKind.i64)] r) ∧ (inR IntKind.i64 r → List.map
      weightV (List.take x l) = (weightsV l).fst ∧ r = (weightsV l).snd)))) := by
    intros
    refine ⟨⟨0, ⟨rfl, rfl⟩, by omega⟩, fun i hi _ _ => split_of (fun h => ?_) (fun h => ?_)⟩
    · have h := of_decide_eq_true h
      refine ⟨by omega, ?_⟩
      intros
      refine ⟨_, weightOf_ev _, fun _ => ⟨by simp; omega, by omega, i + 1, ⟨?_, rfl⟩, by omega, by omega⟩⟩
      rw [wts_take (by omega), Int.toNat_natCast]
    · have h := of_decide_eq_false h
      rw [List.take_of_length_le (by omega)]
      refine ⟨_, containsE_ev _ _, split_of (fun h => ?_) (fun h => ?_)⟩
      · have h : any0 l = true := h
        simp [weightsV, heavyC, h]
      · have h : any0 l = false := h
        intros
        refine ⟨_, unless_ev _ _, fun _ => ?_⟩
        simp only [weightsV, heavyC, h, unlessI, decide_eq_true_eq]
        refine ⟨rfl, ?_⟩
        by_cases c : l.length ≤ 10
        · rw [if_pos (by omega)]; simp [c]
        · rw [if_neg (by omega)]; simp [c]
  refine @Eq.mpr _ _ (?_) key
  kernel_rfl
noncomputable abbrev heavyInv (l : List Sl) (n : Nat) (σ : List Slot) : Option LoopInv := match n with
  | 2 => some ⟨hvAt Try.f43 2, Nat, fun i => [(2, .val (.dat iT 0)), (3, .val (.dat iT (i : Int)))], fun i => i ≤ l.length ∧ ∀ j : Nat, j < i → weightV (l.getD j (0, 0, 0, 0)) ≠ 0, fun i => l.length - i⟩
  | _ => none
theorem l05Heavy_ev (l : List Sl) : Ev Try.prog 43 [aSs l] (compsOf [rI] (heavyC l)) := by
  refine ev_of (l := [rI]) (r := (heavyC l)) (types (resT) [] (heavyInv l)) follows Try.func43 (by kernel_rfl) (by rw [Try.ntmps43]; exact Nat.le_of_ble_eq_true rfl) ?_
  have key : ((l.length ≤ 9223372036854775807 ∧ ∀ (x : Int × Int × Int × Int), List.Mem x l → inR IntKind.i8 x.fst ∧ inR IntKind.i8 x.snd.fst ∧ inR IntKind.i8 x.snd.snd.fst ∧ inR IntKind.i8 x.snd.snd.snd) → (∃ (x0
      : Nat), (Slot.val (D.dat (Ty.int IntKind.i64) 0) = Slot.val (D.dat iT 0) ∧ Slot.val (D.dat (Ty.int IntKind.i64) 0) = Slot.val (D.dat iT ((x0 : Nat) : Int))) ∧ x0 ≤ l.length ∧ ∀ (j : Nat), j < x0 →
      weightV (l.getD j (0, 0, 0, 0)) ≠ 0) ∧ ∀ (x : Nat), (x ≤ l.length ∧ ∀ (j : Nat), j < x → weightV (l.getD j (0, 0, 0, 0)) ≠ 0) → inR IntKind.i64 0 → inR IntKind.i64 ((x : Nat) : Int) → ((l.length :
      Nat) : Int) ≤ 9223372036854775807 → split (decide (((x : Nat) : Int) < ((l.length : Nat) : Int))) ((0 ≤ ((x : Nat) : Int) ∧ ((x : Nat) : Int) < ((l.length : Nat) : Int)) ∧ (inR IntKind.i8 (l.getD
      (((x : Nat) : Int)).toNat (0, 0, 0, 0)).fst → inR IntKind.i8 (l.getD (((x : Nat) : Int)).toNat (0, 0, 0, 0)).snd.fst → inR IntKind.i8 (l.getD (((x : Nat) : Int)).toNat (0, 0, 0, 0)).snd.snd.fst → inR
      IntKind.i8 (l.getD (((x : Nat) : Int)).toNat (0, 0, 0, 0)).snd.snd.snd → ∃ (r : Int), Ev Try.prog 44 [Arg.imm (D.dat slabT (l.getD (((x : Nat) : Int)).toNat (0, 0, 0, 0)))] (compsOf [(false, Ty.int
      IntKind.i64)] r) ∧ (inR IntKind.i64 r → split (decide (r = 0)) (1 = heavyC l) ((-9223372036854775808 ≤ ((x : Nat) : Int) + 1 ∧ ((x : Nat) : Int) + 1 ≤ 9223372036854775807) ∧ ∃ (x' : Nat), (Slot.val
      (D.dat iT 0) = Slot.val (D.dat iT 0) ∧ Slot.val (D.dat (Ty.int IntKind.i64) (((x : Nat) : Int) + 1)) = Slot.val (D.dat iT ((x' : Nat) : Int))) ∧ (x' ≤ l.length ∧ ∀ (j : Nat), j < x' → weightV (l.getD
      j (0, 0, 0, 0)) ≠ 0) ∧ l.length - x' < l.length - x)))) (((l.length : Nat) : Int) ≤ 9223372036854775807 → split (decide (10 < ((l.length : Nat) : Int))) (3 = heavyC l) (0 = heavyC l))) := by
    intros
    refine ⟨⟨0, ⟨rfl, rfl⟩, by omega, fun j hj => absurd hj (Nat.not_lt_zero _)⟩, fun i ⟨hi, hn⟩ _ _ _ => split_of (fun h => ?_) (fun h => ?_)⟩
    · have h := of_decide_eq_true h
      refine ⟨by omega, ?_⟩
      intros
      rw [Int.toNat_natCast]
      refine ⟨_, l05Weight_ev _, fun _ => split_of (fun h2 => ?_) (fun h2 => ⟨by omega, i + 1, ⟨rfl, rfl⟩, ⟨by omega, upto_step hn (of_decide_eq_false h2)⟩, by omega⟩)⟩
      have h2 := of_decide_eq_true h2
      have : any0 l = true := by
        simp only [any0, wts, List.any_map, List.any_eq_true]
        refine ⟨l[i]'(by omega), List.getElem_mem _, ?_⟩
        simp only [List.getD_eq_getElem?_getD, List.getElem?_eq_getElem (show i < l.length by omega), Option.getD_some] at h2
        simp [h2]
      simp [heavyC, this]
    · have h := of_decide_eq_false h
      have h0 : any0 l = false := by
        simp only [any0, wts, List.any_map, List.any_eq_false]
        intro s hs
        obtain ⟨j, hj, rfl⟩ := List.getElem_of_mem hs
        have := hn j (by omega)
        simp only [List.getD_eq_getElem?_getD, List.getElem?_eq_getElem hj, Option.getD_some] at this
        simp [Ne.symm this]
      intros
      simp only [heavyC, h0]
      refine split_of (fun h => ?_) (fun h => ?_)
      · have := of_decide_eq_true h
        rw [if_neg (by simp), if_neg (by omega)]
      · have := of_decide_eq_false h
        rw [if_neg (by simp), if_pos (by omega)]
  refine @Eq.mpr _ _ (?_) key
  kernel_rfl
def code0 (l : List Sl) (h : Int) : Int := if heavyC l ≠ 0 then heavyC l else if inB h 1 600 then 0 else 2
def partC (c0 h : Int) (l : List Int) : Int := if c0 = 0 then (if l.any (fun n => decide (h < n)) then 6 else 0) else c0
theorem partC_nil {c h : Int} : partC c h [] = c := by
  unfold partC
  by_cases e : c = 0
  · rw [if_pos e, e]; rfl
  · rw [if_neg e]
theorem part_next {l : List Sl} {i : Nat} {c h : Int} (hi : i < l.length) (h0 : partC c h ((l.take i).map weightV) = 0) : partC c h ((l.take (i + 1)).map weightV) = if h < weightV (l.getD i (0, 0, 0, 0)) then 6 else 0 := by
  unfold partC at h0 ⊢
  by_cases e : c = 0
  · rw [if_pos e] at h0 ⊢
    rw [wts_take hi, List.any_append]
    cases q : ((l.take i).map weightV).any (fun n => decide (h < n)) with
    | true => rw [q] at h0; simp at h0
    | false => simp
  · rw [if_neg e] at h0; exact absurd h0 e
theorem part_end {l : List Sl} {i : Nat} {c h : Int} (h0 : ¬ partC c h ((l.take i).map weightV) = 0) : partC c h ((l.take i).map weightV) = partC c h (wts l) := by
  unfold partC at h0 ⊢
  by_cases e : c = 0
  · rw [if_pos e] at h0 ⊢
    rw [if_pos e]
    cases q : ((l.take i).map weightV).any (fun n => decide (h < n)) with
    | false => rw [q] at h0; simp at h0
    | true =>
      have : (wts l).any (fun n => decide (h < n)) = true := by
        rw [wts, ← List.take_append_drop i l, List.map_append, List.any_append, q]; rfl
      rw [this]
  · rw [if_neg e, if_neg e]
def loadsC (l : List Sl) (h : Int) : Int := partC (code0 l h) h (wts l)
noncomputable abbrev loadsInv (l : List Sl) (h : Int) (n : Nat) (σ : List Slot) : Option LoopInv := match n with
  | 5 => some ⟨hvAt Try.f23 5, Nat, fun i => [(5, .val (.dat iT (partC (code0 l h) h ((l.take i).map weightV)))), (6, .val (.dat iT (i : Int)))], fun i => i ≤ l.length, fun i => l.length - i⟩
  | _ => none
theorem l05Loads_ev (l : List Sl) (h : Int) : Ev Try.prog 23 [aSs l, aI h] (compsOf [rI] (loadsC l h)) := by
  refine ev_of (l := [rI]) (r := (loadsC l h)) (types (resT) [] (loadsInv l h)) follows Try.func23 (by kernel_rfl) (by rw [Try.ntmps23]; exact Nat.le_of_ble_eq_true rfl) ?_
  have key : ((l.length ≤ 9223372036854775807 ∧ ∀ (x : Int × Int × Int × Int), List.Mem x l → inR IntKind.i8 x.fst ∧ inR IntKind.i8 x.snd.fst ∧ inR IntKind.i8 x.snd.snd.fst ∧ inR IntKind.i8 x.snd.snd.snd) → inR
      IntKind.i64 h → ∃ (r : Int), Ev Try.prog 43 [Arg.imm (D.dat (Ty.slice 46 slabT) l)] (compsOf [(false, Ty.int IntKind.i64)] r) ∧ (inR IntKind.i64 r → split (decide (r = 0)) (∃ (r_1 : Bool), Ev
      Try.prog 30 [Arg.imm (D.dat (Ty.int IntKind.i64) h), Arg.imm (D.dat (Ty.int IntKind.i64) 1), Arg.imm (D.dat (Ty.int IntKind.i64) 600)] (compsOf [(false, Ty.bool)] r_1) ∧ split (!r_1) ((∃ (x0 : Nat),
      (Slot.val (D.dat (Ty.int IntKind.i64) 2) = Slot.val (D.dat iT (partC (code0 l h) h (List.map weightV (List.take x0 l)))) ∧ Slot.val (D.dat (Ty.int IntKind.i64) 0) = Slot.val (D.dat iT ((x0 : Nat) :
      Int))) ∧ x0 ≤ l.length) ∧ ∀ (x : Nat), x ≤ l.length → inR IntKind.i64 (partC (code0 l h) h (List.map weightV (List.take x l))) → inR IntKind.i64 ((x : Nat) : Int) → ((l.length : Nat) : Int) ≤
      9223372036854775807 → split (decide (((x : Nat) : Int) < ((l.length : Nat) : Int))) (split (decide (partC (code0 l h) h (List.map weightV (List.take x l)) = 0)) ((0 ≤ ((x : Nat) : Int) ∧ ((x : Nat) :
      Int) < ((l.length : Nat) : Int)) ∧ (inR IntKind.i8 (l.getD (((x : Nat) : Int)).toNat (0, 0, 0, 0)).fst → inR IntKind.i8 (l.getD (((x : Nat) : Int)).toNat (0, 0, 0, 0)).snd.fst → inR IntKind.i8
      (l.getD (((x : Nat) : Int)).toNat (0, 0, 0, 0)).snd.snd.fst → inR IntKind.i8 (l.getD (((x : Nat) : Int)).toNat (0, 0, 0, 0)).snd.snd.snd → ∃ (r : Int), Ev Try.prog 44 [Arg.imm (D.dat slabT (l.getD
      (((x : Nat) : Int)).toNat (0, 0, 0, 0)))] (compsOf [(false, Ty.int IntKind.i64)] r) ∧ (inR IntKind.i64 r → split (decide (h < r)) ((-9223372036854775808 ≤ ((x : Nat) : Int) + 1 ∧ ((x : Nat) : Int) +
      1 ≤ 9223372036854775807) ∧ ∃ (x' : Nat), (Slot.val (D.dat (Ty.int IntKind.i64) 6) = Slot.val (D.dat iT (partC (code0 l h) h (List.map weightV (List.take x' l)))) ∧ Slot.val (D.dat (Ty.int
      IntKind.i64) (((x : Nat) : Int) + 1)) = Slot.val (D.dat iT ((x' : Nat) : Int))) ∧ x' ≤ l.length ∧ l.length - x' < l.length - x) ((-9223372036854775808 ≤ ((x : Nat) : Int) + 1 ∧ ((x : Nat) : Int) + 1
      ≤ 9223372036854775807) ∧ ∃ (x' : Nat), (Slot.val (D.dat iT (partC (code0 l h) h (List.map weightV (List.take x l)))) = Slot.val (D.dat iT (partC (code0 l h) h (List.map weightV (List.take x' l)))) ∧
      Slot.val (D.dat (Ty.int IntKind.i64) (((x : Nat) : Int) + 1)) = Slot.val (D.dat iT ((x' : Nat) : Int))) ∧ x' ≤ l.length ∧ l.length - x' < l.length - x)))) (partC (code0 l h) h (List.map weightV
      (List.take x l)) = loadsC l h)) (partC (code0 l h) h (List.map weightV (List.take x l)) = loadsC l h)) ((∃ (x0 : Nat), (Slot.val (D.dat (Ty.int IntKind.i64) r) = Slot.val (D.dat iT (partC (code0 l h)
      h (List.map weightV (List.take x0 l)))) ∧ Slot.val (D.dat (Ty.int IntKind.i64) 0) = Slot.val (D.dat iT ((x0 : Nat) : Int))) ∧ x0 ≤ l.length) ∧ ∀ (x : Nat), x ≤ l.length → inR IntKind.i64 (partC
      (code0 l h) h (List.map weightV (List.take x l))) → inR IntKind.i64 ((x : Nat) : Int) → ((l.length : Nat) : Int) ≤ 9223372036854775807 → split (decide (((x : Nat) : Int) < ((l.length : Nat) : Int)))
      (split (decide (partC (code0 l h) h (List.map weightV (List.take x l)) = 0)) ((0 ≤ ((x : Nat) : Int) ∧ ((x : Nat) : Int) < ((l.length : Nat) : Int)) ∧ (inR IntKind.i8 (l.getD (((x : Nat) :
      Int)).toNat (0, 0, 0, 0)).fst → inR IntKind.i8 (l.getD (((x : Nat) : Int)).toNat (0, 0, 0, 0)).snd.fst → inR IntKind.i8 (l.getD (((x : Nat) : Int)).toNat (0, 0, 0, 0)).snd.snd.fst → inR IntKind.i8
      (l.getD (((x : Nat) : Int)).toNat (0, 0, 0, 0)).snd.snd.snd → ∃ (r : Int), Ev Try.prog 44 [Arg.imm (D.dat slabT (l.getD (((x : Nat) : Int)).toNat (0, 0, 0, 0)))] (compsOf [(false, Ty.int
      IntKind.i64)] r) ∧ (inR IntKind.i64 r → split (decide (h < r)) ((-9223372036854775808 ≤ ((x : Nat) : Int) + 1 ∧ ((x : Nat) : Int) + 1 ≤ 9223372036854775807) ∧ ∃ (x' : Nat), (Slot.val (D.dat (Ty.int
      IntKind.i64) 6) = Slot.val (D.dat iT (partC (code0 l h) h (List.map weightV (List.take x' l)))) ∧ Slot.val (D.dat (Ty.int IntKind.i64) (((x : Nat) : Int) + 1)) = Slot.val (D.dat iT ((x' : Nat) :
      Int))) ∧ x' ≤ l.length ∧ l.length - x' < l.length - x) ((-9223372036854775808 ≤ ((x : Nat) : Int) + 1 ∧ ((x : Nat) : Int) + 1 ≤ 9223372036854775807) ∧ ∃ (x' : Nat), (Slot.val (D.dat iT (partC (code0
      l h) h (List.map weightV (List.take x l)))) = Slot.val (D.dat iT (partC (code0 l h) h (List.map weightV (List.take x' l)))) ∧ Slot.val (D.dat (Ty.int IntKind.i64) (((x : Nat) : Int) + 1)) = Slot.val
      (D.dat iT ((x' : Nat) : Int))) ∧ x' ≤ l.length ∧ l.length - x' < l.length - x)))) (partC (code0 l h) h (List.map weightV (List.take x l)) = loadsC l h)) (partC (code0 l h) h (List.map weightV
      (List.take x l)) = loadsC l h))) ((∃ (x0 : Nat), (Slot.val (D.dat (Ty.int IntKind.i64) r) = Slot.val (D.dat iT (partC (code0 l h) h (List.map weightV (List.take x0 l)))) ∧ Slot.val (D.dat (Ty.int
      IntKind.i64) 0) = Slot.val (D.dat iT ((x0 : Nat) : Int))) ∧ x0 ≤ l.length) ∧ ∀ (x : Nat), x ≤ l.length → inR IntKind.i64 (partC (code0 l h) h (List.map weightV (List.take x l))) → inR IntKind.i64 ((x
      : Nat) : Int) → ((l.length : Nat) : Int) ≤ 9223372036854775807 → split (decide (((x : Nat) : Int) < ((l.length : Nat) : Int))) (split (decide (partC (code0 l h) h (List.map weightV (List.take x l)) =
      0)) ((0 ≤ ((x : Nat) : Int) ∧ ((x : Nat) : Int) < ((l.length : Nat) : Int)) ∧ (inR IntKind.i8 (l.getD (((x : Nat) : Int)).toNat (0, 0, 0, 0)).fst → inR IntKind.i8 (l.getD (((x : Nat) : Int)).toNat
      (0, 0, 0, 0)).snd.fst → inR IntKind.i8 (l.getD (((x : Nat) : Int)).toNat (0, 0, 0, 0)).snd.snd.fst → inR IntKind.i8 (l.getD (((x : Nat) : Int)).toNat (0, 0, 0, 0)).snd.snd.snd → ∃ (r : Int), Ev
      Try.prog 44 [Arg.imm (D.dat slabT (l.getD (((x : Nat) : Int)).toNat (0, 0, 0, 0)))] (compsOf [(false, Ty.int IntKind.i64)] r) ∧ (inR IntKind.i64 r → split (decide (h < r)) ((-9223372036854775808 ≤
      ((x : Nat) : Int) + 1 ∧ ((x : Nat) : Int) + 1 ≤ 9223372036854775807) ∧ ∃ (x' : Nat), (Slot.val (D.dat (Ty.int IntKind.i64) 6) = Slot.val (D.dat iT (partC (code0 l h) h (List.map weightV (List.take x'
      l)))) ∧ Slot.val (D.dat (Ty.int IntKind.i64) (((x : Nat) : Int) + 1)) = Slot.val (D.dat iT ((x' : Nat) : Int))) ∧ x' ≤ l.length ∧ l.length - x' < l.length - x) ((-9223372036854775808 ≤ ((x : Nat) :
      Int) + 1 ∧ ((x : Nat) : Int) + 1 ≤ 9223372036854775807) ∧ ∃ (x' : Nat), (Slot.val (D.dat iT (partC (code0 l h) h (List.map weightV (List.take x l)))) = Slot.val (D.dat iT (partC (code0 l h) h
      (List.map weightV (List.take x' l)))) ∧ Slot.val (D.dat (Ty.int IntKind.i64) (((x : Nat) : Int) + 1)) = Slot.val (D.dat iT ((x' : Nat) : Int))) ∧ x' ≤ l.length ∧ l.length - x' < l.length - x))))
      (partC (code0 l h) h (List.map weightV (List.take x l)) = loadsC l h)) (partC (code0 l h) h (List.map weightV (List.take x l)) = loadsC l h)))) := by
    intros
    refine ⟨_, l05Heavy_ev l, fun _ => split_of (fun hc => ?_) (fun hc => ?_)⟩
    · have hc := of_decide_eq_true hc
      refine ⟨_, l00In_ev _ _ _, split_of (fun hh => ?_) (fun hh => ?_)⟩
      · have e : code0 l h = 2 := by
          have hh : inB h 1 600 = false := by simpa using hh
          simp [code0, hc, hh]
        refine ⟨⟨0, ⟨by rw [List.take_zero, List.map_nil, partC_nil, e], rfl⟩, by omega⟩, fun i hi _ _ _ => split_of (fun h1 => split_of (fun h2 => ?_) (fun h2 => part_end (of_decide_eq_false h2))) (fun h1 => ?_)⟩
        · have h1 := of_decide_eq_true h1
          have h2 := of_decide_eq_true h2
          refine ⟨by omega, ?_⟩
          intros
          rw [Int.toNat_natCast]
          have hs := part_next (i := i) (by omega) h2
          refine ⟨_, l05Weight_ev _, fun _ => split_of (fun h3 => ⟨by omega, i + 1, ⟨?_, rfl⟩, by omega, by omega⟩) (fun h3 => ⟨by omega, i + 1, ⟨?_, rfl⟩, by omega, by omega⟩)⟩
          · rw [hs, if_pos (of_decide_eq_true h3)]
          · rw [hs, if_neg (of_decide_eq_false h3), h2]
        · have h1 := of_decide_eq_false h1
          rw [List.take_of_length_le (by omega)]; rfl
      · have e : code0 l h = heavyC l := by
          have hh : inB h 1 600 = true := by simpa using hh
          simp [code0, hc, hh]
        refine ⟨⟨0, ⟨by rw [List.take_zero, List.map_nil, partC_nil, e], rfl⟩, by omega⟩, fun i hi _ _ _ => split_of (fun h1 => split_of (fun h2 => ?_) (fun h2 => part_end (of_decide_eq_false h2))) (fun h1 => ?_)⟩
        · have h1 := of_decide_eq_true h1
          have h2 := of_decide_eq_true h2
          refine ⟨by omega, ?_⟩
          intros
          rw [Int.toNat_natCast]
          have hs := part_next (i := i) (by omega) h2
          refine ⟨_, l05Weight_ev _, fun _ => split_of (fun h3 => ⟨by omega, i + 1, ⟨?_, rfl⟩, by omega, by omega⟩) (fun h3 => ⟨by omega, i + 1, ⟨?_, rfl⟩, by omega, by omega⟩)⟩
          · rw [hs, if_pos (of_decide_eq_true h3)]
          · rw [hs, if_neg (of_decide_eq_false h3), h2]
        · have h1 := of_decide_eq_false h1
          rw [List.take_of_length_le (by omega)]; rfl
    · have hc := of_decide_eq_false hc
      have e : code0 l h = heavyC l := by simp [code0, hc]
      refine ⟨⟨0, ⟨by rw [List.take_zero, List.map_nil, partC_nil, e], rfl⟩, by omega⟩, fun i hi _ _ _ => split_of (fun h1 => split_of (fun h2 => ?_) (fun h2 => part_end (of_decide_eq_false h2))) (fun h1 => ?_)⟩
      · have h1 := of_decide_eq_true h1
        have h2 := of_decide_eq_true h2
        refine ⟨by omega, ?_⟩
        intros
        rw [Int.toNat_natCast]
        have hs := part_next (i := i) (by omega) h2
        refine ⟨_, l05Weight_ev _, fun _ => split_of (fun h3 => ⟨by omega, i + 1, ⟨?_, rfl⟩, by omega, by omega⟩) (fun h3 => ⟨by omega, i + 1, ⟨?_, rfl⟩, by omega, by omega⟩)⟩
        · rw [hs, if_pos (of_decide_eq_true h3)]
        · rw [hs, if_neg (of_decide_eq_false h3), h2]
      · have h1 := of_decide_eq_false h1
        rw [List.take_of_length_le (by omega)]; rfl
  refine @Eq.mpr _ _ (?_) key
  kernel_rfl
def loadWeightsV (l : List Sl) (h : Int) : List Int × Int := (if loadsC l h = 0 then wts l else [], loadsC l h)
theorem loadWeights_ev (l : List Sl) (h : Int) (hl : l.length ≤ 1048576) : Ev Try.prog 26 [aSs l, aI h] (compsOf [oIs, rI] (loadWeightsV l h)) := by
  refine ev_of (l := [oIs, rI]) (r := (loadWeightsV l h)) (types (resT) [] (fun _ _ => none)) follows Try.func26 (by kernel_rfl) (by rw [Try.ntmps26]; exact Nat.le_of_ble_eq_true rfl) ?_
  have key : ((l.length ≤ 9223372036854775807 ∧ ∀ (x : Int × Int × Int × Int), List.Mem x l → inR IntKind.i8 x.fst ∧ inR IntKind.i8 x.snd.fst ∧ inR IntKind.i8 x.snd.snd.fst ∧ inR IntKind.i8 x.snd.snd.snd) → inR
      IntKind.i64 h → ∃ (r : List Int × Int), Ev Try.prog 47 [Arg.imm (D.dat (Ty.slice 46 slabT) l)] (compsOf [(true, Ty.slice 2 (Ty.int IntKind.i64)), (false, Ty.int IntKind.i64)] r) ∧ ((r.fst.length ≤
      9223372036854775807 ∧ ∀ (x : Int), List.Mem x r.fst → inR IntKind.i64 x) → inR IntKind.i64 r.snd → split (!decide (r.snd = 0)) ([] = (loadWeightsV l h).fst ∧ r.snd = (loadWeightsV l h).snd) (inR
      IntKind.i64 h → ∃ (r_1 : Bool), Ev Try.prog 35 [Arg.imm (D.dat (Ty.int IntKind.i64) h), Arg.imm (D.dat (Ty.int IntKind.i64) 1), Arg.imm (D.dat (Ty.int IntKind.i64) 600)] (compsOf [(false, Ty.bool)]
      r_1) ∧ split (!r_1) ([] = (loadWeightsV l h).fst ∧ 2 = (loadWeightsV l h).snd) (∃ (r_2 : Bool), Ev Try.prog 33 [Arg.imm (D.dat (Ty.slice 2 (Ty.int IntKind.i64)) r.fst), Arg.imm (D.clo 48 ((D.dat
      (Ty.int IntKind.i64) h).ref.cn D.nl))] (compsOf [(false, Ty.bool)] r_2) ∧ split r_2 ([] = (loadWeightsV l h).fst ∧ 6 = (loadWeightsV l h).snd) (r.fst = (loadWeightsV l h).fst ∧ 0 = (loadWeightsV l
      h).snd))))) := by
    intros
    refine ⟨_, weights_ev l hl, fun _ _ => split_of (fun hc => ?_) (fun hc => ?_)⟩
    · have hc : heavyC l ≠ 0 := fun e => by simp [weightsV, e] at hc
      have e : loadsC l h = heavyC l := by simp [loadsC, partC, code0, hc]
      simp [loadWeightsV, e, weightsV, hc]
    · have hc : heavyC l = 0 := Decidable.byContradiction fun e => by simp [weightsV, e] at hc
      have h0 : any0 l = false := by
        cases q : any0 l with
        | false => rfl
        | true => simp [heavyC, q] at hc
      have ew : (weightsV l).1 = wts l := by simp [weightsV, h0]
      rw [ew]
      refine fun _ => ⟨_, within_ev _ _ _, split_of (fun hh => ?_) (fun hh => ?_)⟩
      · have hh : inB h 1 600 = false := by simpa using hh
        have e : loadsC l h = 2 := by simp [loadsC, partC, code0, hc, hh]
        simp [loadWeightsV, e]
      · have hh : inB h 1 600 = true := by simpa using hh
        have e0 : code0 l h = 0 := by simp [code0, hc, hh]
        refine ⟨_, containsFuncI_ev (wts l) _ _ (fun x => decide (h < x)) fun x _ => loadWeights1_ev x h, split_of (fun h2 => ?_) (fun h2 => ?_)⟩
        · have e : loadsC l h = 6 := by simp only [loadsC, partC, e0, h2, if_true]
          simp [loadWeightsV, e]
        · have e : loadsC l h = 0 := by simp only [loadsC, partC, e0, h2, if_true, Bool.false_eq_true, if_false]
          simp [loadWeightsV, e]
  refine @Eq.mpr _ _ (?_) key
  kernel_rfl
end Go.Proofs.Ytjicolekkojonaa
