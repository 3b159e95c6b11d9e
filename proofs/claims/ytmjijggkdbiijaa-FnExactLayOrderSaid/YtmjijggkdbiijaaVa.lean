/- Slabs that are put to their places, one behind the other. No statement is proved here. -/
import Derived.Test.YtmjijggkdbiijaaUd
namespace Go.Proofs.Ytmjijggkdbiijaa
open Go.RowKit
set_option linter.unusedVariables false
set_option linter.unusedSimpArgs false
set_option maxRecDepth 100000
set_option maxHeartbeats 4000000
/-- Where a slab goes to among the first k. -/
def posS (x : Sl) (l : List Sl) : Nat → Nat
  | 0 => 0
  | k + 1 => if befS x (sAt l k) then posS x l k else k + 1
theorem posS_le (x : Sl) (l : List Sl) : ∀ k, posS x l k ≤ k
  | 0 => Nat.le_refl _
  | k + 1 => by
    have := posS_le x l k
    unfold posS; split <;> omega
def insS (x : Sl) (l : List Sl) : List Sl := l.take (posS x l l.length) ++ [x] ++ l.drop (posS x l l.length)
def isortN (l : List Sl) : Nat → List Sl
  | 0 => []
  | i + 1 => insS (sAt l i) (isortN l i)
theorem insS_len (x : Sl) (l : List Sl) : (insS x l).length = l.length + 1 := by
  have := posS_le x l l.length
  simp [insS]; omega
theorem isortN_len (l : List Sl) : ∀ i, (isortN l i).length = i
  | 0 => rfl
  | i + 1 => by rw [isortN, insS_len, isortN_len l i]
theorem sorted_leaf {l : List Sl} {i k : Nat} (hk : posS (sAt l i) (isortN l i) k = posS (sAt l i) (isortN l i) i) (hs : posS (sAt l i) (isortN l i) k = k) :
    (isortN l i).take k ++ [sAt l i] ++ ([] ++ ((isortN l i).take (isortN l i).length).drop k) = isortN l (i + 1) := by
  rw [isortN, insS, isortN_len, List.nil_append, ← hk, hs]
  congr 1
  rw [List.take_of_length_le (by rw [isortN_len]; exact Nat.le_refl _)]
noncomputable abbrev l01SortedInv (l : List Sl) (n : Nat) (σ : List Slot) : Option LoopInv := match n with
  | 3 => some ⟨3 :: hvAt Try.f145 3, Nat, fun i => [(3, .own (.slice 41 slabT) (isortN l i)), (4, .val (.dat iT (i : Int)))], fun i => i ≤ l.length, fun i => l.length - i⟩
  | 6 => some ⟨hvAt Try.f145 6, Nat, fun k => [(5, .val (.dat iT (k : Int)))], fun k => k ≤ (iAt σ 4).toNat ∧ posS (sAt l (iAt σ 4).toNat) (isortN l (iAt σ 4).toNat) k = posS (sAt l (iAt σ 4).toNat) (isortN l (iAt σ 4).toNat) (iAt σ 4).toNat, fun k => k⟩
  | _ => none
theorem l01Sorted_ev (l : List Sl) (hl : l.length ≤ 16777216) : Ev Try.prog 145 [aSs l] (compsOf [oSs] (isortN l l.length)) := by
  refine ev_of (l := [oSs]) (r := (isortN l l.length)) (types (resT) [20000035, 30000039, 10003038, 10003040, 10003041, 10003042, 10003046, 10039046] (l01SortedInv l)) follows Try.func145 (by kernel_rfl) (by rw [Try.ntmps145]; exact Nat.le_of_ble_eq_true rfl) ?_
  have key : ((l.length ≤ 9223372036854775807 ∧ ∀ (x : Int × Int × Int × Int), List.Mem x l → inR IntKind.i8 x.fst ∧ inR IntKind.i8 x.snd.fst ∧ inR IntKind.i8 x.snd.snd.fst ∧ inR IntKind.i8 x.snd.snd.snd) → (∃ (x0
      : Nat), (Slot.own (Ty.slice 41 slabT) [] = Slot.own (Ty.slice 41 slabT) (isortN l x0) ∧ Slot.val (D.dat (Ty.int IntKind.i64) 0) = Slot.val (D.dat iT ((x0 : Nat) : Int))) ∧ x0 ≤ l.length) ∧ ∀ (x :
      Nat), x ≤ l.length → ((isortN l x).length ≤ 9223372036854775807 ∧ ∀ (x_1 : Int × Int × Int × Int), List.Mem x_1 (isortN l x) → inR IntKind.i8 x_1.fst ∧ inR IntKind.i8 x_1.snd.fst ∧ inR IntKind.i8
      x_1.snd.snd.fst ∧ inR IntKind.i8 x_1.snd.snd.snd) → inR IntKind.i64 ((x : Nat) : Int) → ((l.length : Nat) : Int) ≤ 9223372036854775807 → split (decide (((x : Nat) : Int) < ((l.length : Nat) : Int)))
      ((((isortN l x).length : Nat) : Int) ≤ 9223372036854775807 → (∃ (x0 : Nat), Slot.val (D.dat (Ty.int IntKind.i64) (((isortN l x).length : Nat) : Int)) = Slot.val (D.dat iT ((x0 : Nat) : Int)) ∧ x0 ≤
      (((x : Nat) : Int)).toNat ∧ posS (l.getD (((x : Nat) : Int)).toNat (0, 0, 0, 0)) (isortN l (((x : Nat) : Int)).toNat) x0 = posS (l.getD (((x : Nat) : Int)).toNat (0, 0, 0, 0)) (isortN l (((x : Nat) :
      Int)).toNat) (((x : Nat) : Int)).toNat) ∧ ∀ (x_1 : Nat), x_1 ≤ (((x : Nat) : Int)).toNat ∧ posS (l.getD (((x : Nat) : Int)).toNat (0, 0, 0, 0)) (isortN l (((x : Nat) : Int)).toNat) x_1 = posS (l.getD
      (((x : Nat) : Int)).toNat (0, 0, 0, 0)) (isortN l (((x : Nat) : Int)).toNat) (((x : Nat) : Int)).toNat → inR IntKind.i64 ((x_1 : Nat) : Int) → split (decide (0 < ((x_1 : Nat) : Int))) ((0 ≤ ((x :
      Nat) : Int) ∧ ((x : Nat) : Int) < ((l.length : Nat) : Int)) ∧ (inR IntKind.i8 (l.getD (((x : Nat) : Int)).toNat (0, 0, 0, 0)).fst → inR IntKind.i8 (l.getD (((x : Nat) : Int)).toNat (0, 0, 0,
      0)).snd.fst → inR IntKind.i8 (l.getD (((x : Nat) : Int)).toNat (0, 0, 0, 0)).snd.snd.fst → inR IntKind.i8 (l.getD (((x : Nat) : Int)).toNat (0, 0, 0, 0)).snd.snd.snd → (-9223372036854775808 ≤ ((x_1 :
      Nat) : Int) - 1 ∧ ((x_1 : Nat) : Int) - 1 ≤ 9223372036854775807) ∧ (0 ≤ ((x_1 : Nat) : Int) - 1 ∧ ((x_1 : Nat) : Int) - 1 < (((isortN l x).length : Nat) : Int)) ∧ (inR IntKind.i8 ((isortN l x).getD
      (((x_1 : Nat) : Int) - 1).toNat (0, 0, 0, 0)).fst → inR IntKind.i8 ((isortN l x).getD (((x_1 : Nat) : Int) - 1).toNat (0, 0, 0, 0)).snd.fst → inR IntKind.i8 ((isortN l x).getD (((x_1 : Nat) : Int) -
      1).toNat (0, 0, 0, 0)).snd.snd.fst → inR IntKind.i8 ((isortN l x).getD (((x_1 : Nat) : Int) - 1).toNat (0, 0, 0, 0)).snd.snd.snd → ∃ (r : Bool), Ev Try.prog 150 [Arg.imm (D.dat slabT (l.getD (((x :
      Nat) : Int)).toNat (0, 0, 0, 0))), Arg.imm (D.dat slabT ((isortN l x).getD (((x_1 : Nat) : Int) - 1).toNat (0, 0, 0, 0)))] (compsOf [(false, Ty.bool)] r) ∧ split r ((-9223372036854775808 ≤ ((x_1 :
      Nat) : Int) - 1 ∧ ((x_1 : Nat) : Int) - 1 ≤ 9223372036854775807) ∧ ∃ (x' : Nat), Slot.val (D.dat (Ty.int IntKind.i64) (((x_1 : Nat) : Int) - 1)) = Slot.val (D.dat iT ((x' : Nat) : Int)) ∧ (x' ≤ (((x
      : Nat) : Int)).toNat ∧ posS (l.getD (((x : Nat) : Int)).toNat (0, 0, 0, 0)) (isortN l (((x : Nat) : Int)).toNat) x' = posS (l.getD (((x : Nat) : Int)).toNat (0, 0, 0, 0)) (isortN l (((x : Nat) :
      Int)).toNat) (((x : Nat) : Int)).toNat) ∧ x' < x_1) ((0 ≤ ((x_1 : Nat) : Int) ∧ ((x_1 : Nat) : Int) ≤ (((isortN l x).length : Nat) : Int) ∧ (((isortN l x).length : Nat) : Int) ≤ (((isortN l x).length
      : Nat) : Int)) ∧ (0 : Nat) + (List.drop (((x_1 : Nat) : Int)).toNat (List.take ((((isortN l x).length : Nat) : Int)).toNat (isortN l x))).length ≤ 4294967296 ∧ (0 ≤ ((x_1 : Nat) : Int) ∧ ((x_1 : Nat)
      : Int) ≤ (((isortN l x).length : Nat) : Int)) ∧ (0 ≤ ((x : Nat) : Int) ∧ ((x : Nat) : Int) < ((l.length : Nat) : Int)) ∧ (inR IntKind.i8 (l.getD (((x : Nat) : Int)).toNat (0, 0, 0, 0)).fst → inR
      IntKind.i8 (l.getD (((x : Nat) : Int)).toNat (0, 0, 0, 0)).snd.fst → inR IntKind.i8 (l.getD (((x : Nat) : Int)).toNat (0, 0, 0, 0)).snd.snd.fst → inR IntKind.i8 (l.getD (((x : Nat) : Int)).toNat (0,
      0, 0, 0)).snd.snd.snd → (List.take (((x_1 : Nat) : Int)).toNat (isortN l x)).length + [l.getD (((x : Nat) : Int)).toNat (0, 0, 0, 0)].length ≤ 4294967296 ∧ (List.take (((x_1 : Nat) : Int)).toNat
      (isortN l x) ++ [l.getD (((x : Nat) : Int)).toNat (0, 0, 0, 0)]).length + ([] ++ List.drop (((x_1 : Nat) : Int)).toNat (List.take ((((isortN l x).length : Nat) : Int)).toNat (isortN l x))).length ≤
      4294967296 ∧ (-9223372036854775808 ≤ ((x : Nat) : Int) + 1 ∧ ((x : Nat) : Int) + 1 ≤ 9223372036854775807) ∧ ∃ (x' : Nat), (Slot.own (Ty.slice 41 slabT) (List.take (((x_1 : Nat) : Int)).toNat (isortN
      l x) ++ [l.getD (((x : Nat) : Int)).toNat (0, 0, 0, 0)] ++ ([] ++ List.drop (((x_1 : Nat) : Int)).toNat (List.take ((((isortN l x).length : Nat) : Int)).toNat (isortN l x)))) = Slot.own (Ty.slice 41
      slabT) (isortN l x') ∧ Slot.val (D.dat (Ty.int IntKind.i64) (((x : Nat) : Int) + 1)) = Slot.val (D.dat iT ((x' : Nat) : Int))) ∧ x' ≤ l.length ∧ l.length - x' < l.length - x))))) ((0 ≤ ((x_1 : Nat) :
      Int) ∧ ((x_1 : Nat) : Int) ≤ (((isortN l x).length : Nat) : Int) ∧ (((isortN l x).length : Nat) : Int) ≤ (((isortN l x).length : Nat) : Int)) ∧ (0 : Nat) + (List.drop (((x_1 : Nat) : Int)).toNat
      (List.take ((((isortN l x).length : Nat) : Int)).toNat (isortN l x))).length ≤ 4294967296 ∧ (0 ≤ ((x_1 : Nat) : Int) ∧ ((x_1 : Nat) : Int) ≤ (((isortN l x).length : Nat) : Int)) ∧ (0 ≤ ((x : Nat) :
      Int) ∧ ((x : Nat) : Int) < ((l.length : Nat) : Int)) ∧ (inR IntKind.i8 (l.getD (((x : Nat) : Int)).toNat (0, 0, 0, 0)).fst → inR IntKind.i8 (l.getD (((x : Nat) : Int)).toNat (0, 0, 0, 0)).snd.fst →
      inR IntKind.i8 (l.getD (((x : Nat) : Int)).toNat (0, 0, 0, 0)).snd.snd.fst → inR IntKind.i8 (l.getD (((x : Nat) : Int)).toNat (0, 0, 0, 0)).snd.snd.snd → (List.take (((x_1 : Nat) : Int)).toNat
      (isortN l x)).length + [l.getD (((x : Nat) : Int)).toNat (0, 0, 0, 0)].length ≤ 4294967296 ∧ (List.take (((x_1 : Nat) : Int)).toNat (isortN l x) ++ [l.getD (((x : Nat) : Int)).toNat (0, 0, 0,
      0)]).length + ([] ++ List.drop (((x_1 : Nat) : Int)).toNat (List.take ((((isortN l x).length : Nat) : Int)).toNat (isortN l x))).length ≤ 4294967296 ∧ (-9223372036854775808 ≤ ((x : Nat) : Int) + 1 ∧
      ((x : Nat) : Int) + 1 ≤ 9223372036854775807) ∧ ∃ (x' : Nat), (Slot.own (Ty.slice 41 slabT) (List.take (((x_1 : Nat) : Int)).toNat (isortN l x) ++ [l.getD (((x : Nat) : Int)).toNat (0, 0, 0, 0)] ++
      ([] ++ List.drop (((x_1 : Nat) : Int)).toNat (List.take ((((isortN l x).length : Nat) : Int)).toNat (isortN l x)))) = Slot.own (Ty.slice 41 slabT) (isortN l x') ∧ Slot.val (D.dat (Ty.int IntKind.i64)
      (((x : Nat) : Int) + 1)) = Slot.val (D.dat iT ((x' : Nat) : Int))) ∧ x' ≤ l.length ∧ l.length - x' < l.length - x))) (isortN l x = isortN l l.length)) := by
    intro _
    refine ⟨⟨0, ⟨rfl, rfl⟩, Nat.zero_le _⟩, fun i hi _ _ _ => split_of (fun h => ?_) (fun h => ?_)⟩
    · have h := of_decide_eq_true h
      have hn := isortN_len l i
      simp only [Int.toNat_natCast]
      refine fun _ => ⟨⟨(isortN l i).length, rfl, by omega, by rw [hn]⟩, fun k hk _ => ?_⟩
      obtain ⟨hk1, hk2⟩ := hk
      have leaf : posS (sAt l i) (isortN l i) k = k → (0 ≤ (k : Int) ∧ (k : Int) ≤ (((isortN l i).length : Nat) : Int) ∧ (((isortN l i).length : Nat) : Int) ≤ (((isortN l i).length : Nat) : Int)) ∧ (0 : Nat) + (((isortN l i).take (isortN l i).length).drop k).length ≤ 4294967296 ∧ (0 ≤ (k : Int) ∧ (k : Int) ≤ (((isortN l i).length : Nat) : Int)) ∧ (0 ≤ (i : Int) ∧ (i : Int) < (l.length : Int)) ∧
          (inR .i8 (l.getD i (0, 0, 0, 0)).1 → inR .i8 (l.getD i (0, 0, 0, 0)).2.1 → inR .i8 (l.getD i (0, 0, 0, 0)).2.2.1 → inR .i8 (l.getD i (0, 0, 0, 0)).2.2.2 →
            ((isortN l i).take k).length + [l.getD i (0, 0, 0, 0)].length ≤ 4294967296 ∧ ((isortN l i).take k ++ [l.getD i (0, 0, 0, 0)]).length + ([] ++ ((isortN l i).take (isortN l i).length).drop k).length ≤ 4294967296 ∧ (-9223372036854775808 ≤ (i : Int) + 1 ∧ (i : Int) + 1 ≤ 9223372036854775807) ∧
            ∃ x' : Nat, (Slot.own (.slice 41 slabT) ((isortN l i).take k ++ [l.getD i (0, 0, 0, 0)] ++ ([] ++ ((isortN l i).take (isortN l i).length).drop k)) = Slot.own (.slice 41 slabT) (isortN l x') ∧ Slot.val (.dat (.int .i64) ((i : Int) + 1)) = Slot.val (.dat iT (x' : Int))) ∧ x' ≤ l.length ∧ l.length - x' < l.length - i) := by
        intro hs
        have hsl := sorted_leaf hk2 hs
        refine ⟨by omega, ?_, by omega, by omega, fun _ _ _ _ => ⟨?_, ?_, by omega, i + 1, ⟨?_, by simp⟩, by omega, by omega⟩⟩
        · simp; omega
        · simp; omega
        · simp; omega
        · rw [← hsl]
      refine split_of (fun h2 => ?_) (fun h2 => ?_)
      · have h2 := of_decide_eq_true h2
        obtain ⟨j, rfl⟩ : ∃ j, k = j + 1 := ⟨k - 1, by omega⟩
        have ej : (((j + 1 : Nat) : Int) - 1).toNat = j := by omega
        rw [ej]
        refine ⟨by omega, fun _ _ _ _ => ⟨by omega, by omega, fun _ _ _ _ => ⟨_, l01Before_ev _ _, split_of (fun h3 => ?_) (fun h3 => ?_)⟩⟩⟩
        · refine ⟨by omega, j, by rw [show ((j + 1 : Nat) : Int) - 1 = (j : Int) by omega], ⟨by omega, ?_⟩, by omega⟩
          rw [← hk2, posS, if_pos h3]
        · exact leaf (by rw [posS, if_neg (by rw [h3]; simp)])
      · have h2 := of_decide_eq_false h2
        obtain rfl : k = 0 := by omega
        exact leaf rfl
    · have h := of_decide_eq_false h
      rw [show i = l.length by omega]
  refine @Eq.mpr _ _ (?_) key
  kernel_rfl
end Go.Proofs.Ytmjijggkdbiijaa
