/- Slabs that a way lifts. No statement is proved here. -/
import Derived.Test.YtmjijggkdbiijaaTc
namespace Go.Proofs.Ytmjijggkdbiijaa
open Go.RowKit
set_option linter.unusedVariables false
set_option linter.unusedSimpArgs false
set_option maxRecDepth 100000
set_option maxHeartbeats 4000000
abbrev ptAt (l : Cl) (i : Nat) : Int × Int := l.getD i (0, 0)
def liftF (q : Sq) (out : List Int) (p : Int × Int) : List Int := if decide (0 ≤ atI q p.1 p.2) && !(hasB out (atI q p.1 p.2)) then out ++ [atI q p.1 p.2] else out
def liftL (q : Sq) (l : Cl) (i : Nat) : List Int := (l.take i).foldl (liftF q) []
theorem liftL_succ (q : Sq) {l : Cl} {i : Nat} (hi : i < l.length) : liftL q l (i + 1) = liftF q (liftL q l i) (ptAt l i) := by
  unfold liftL
  rw [take_next' (d := (0, 0)) hi, List.foldl_append]; rfl
theorem liftL_len (q : Sq) (l : Cl) : ∀ i : Nat, i ≤ l.length → (liftL q l i).length ≤ i
  | 0, _ => by simp [liftL]
  | i + 1, hi => by
    have ih := liftL_len q l i (by omega)
    rw [liftL_succ q (by omega)]
    unfold liftF
    split
    · rw [List.length_append]; simp; omega
    · omega
def wayB (l : Cl) : Bool := (List.range (l.length - 1)).all fun j => nearB (ptAt l j) (ptAt l (j + 1))
theorem way_yes {l : Cl} (h : ∀ j : Nat, j + 1 < l.length → nearB (ptAt l j) (ptAt l (j + 1)) = true) : wayB l = true := by
  unfold wayB
  rw [List.all_eq_true]
  intro j hj
  have := List.mem_range.1 hj
  exact h j (by omega)
theorem way_no {l : Cl} {j : Nat} (hj : j + 1 < l.length) (h : nearB (ptAt l j) (ptAt l (j + 1)) = false) : wayB l = false := by
  unfold wayB
  rw [List.all_eq_false]
  exact ⟨j, List.mem_range.2 (by omega), fun e => by rw [e] at h; cases h⟩
noncomputable def liftedV (q : Sq) (l : Cl) : List Int × Int := if okQ q then (if l.length ≤ 100 then (if l.any (fun p => !(cellB q p)) then ([], 2) else if wayB l then (liftL q l l.length, 0) else ([], 4)) else ([], 3)) else ([], 1)
noncomputable abbrev liftInv (q : Sq) (l : Cl) (n : Nat) (σ : List Slot) : Option LoopInv := match n with
  | 10 => some ⟨hvAt Try.f40 10, Nat, fun i => [(7, .own (.slice 2 iT) (liftL q l i)), (28, .val (.dat iT (i : Int)))], fun i => i ≤ l.length ∧ ∀ j : Nat, j + 1 < i → nearB (ptAt l j) (ptAt l (j + 1)) = true, fun i => l.length - i⟩
  | _ => none
theorem implLifted_ev (q : Sq) (l : Cl) : Ev Try.prog 40 [aQ q, aL l] (compsOf [oIs, rI] (liftedV q l)) := by
  refine ev_of (l := [oIs, rI]) (r := (liftedV q l)) (types (resT) [] (liftInv q l)) follows Try.func40 (by kernel_rfl) (by rw [Try.ntmps40]; exact Nat.le_of_ble_eq_true rfl) ?_
  have key : (inR IntKind.i8 q.fst → inR IntKind.i8 q.snd.fst → (q.snd.snd.length ≤ 9223372036854775807 ∧ ∀ (x : Int × Int × Int × Int), List.Mem x q.snd.snd → inR IntKind.i8 x.fst ∧ inR IntKind.i8 x.snd.fst ∧ inR
      IntKind.i8 x.snd.snd.fst ∧ inR IntKind.i8 x.snd.snd.snd) → (List.length l ≤ 9223372036854775807 ∧ ∀ (x : Int × Int), List.Mem x l → inR IntKind.i8 x.fst ∧ inR IntKind.i8 x.snd) → inR IntKind.i8 q.fst
      → inR IntKind.i8 q.snd.fst → (q.snd.snd.length ≤ 9223372036854775807 ∧ ∀ (x : Int × Int × Int × Int), List.Mem x q.snd.snd → inR IntKind.i8 x.fst ∧ inR IntKind.i8 x.snd.fst ∧ inR IntKind.i8
      x.snd.snd.fst ∧ inR IntKind.i8 x.snd.snd.snd) → ∃ (r : Bool), Ev Try.prog 61 [Arg.imm (D.dat (sqT 41) q)] (compsOf [(false, Ty.bool)] r) ∧ split (!r) ([] = (liftedV q l).fst ∧ 1 = (liftedV q l).snd)
      ((((List.length l) : Nat) : Int) ≤ 9223372036854775807 → split (decide (100 < (((List.length l) : Nat) : Int))) ([] = (liftedV q l).fst ∧ 3 = (liftedV q l).snd) (inR IntKind.i8 q.fst → inR IntKind.i8
      q.snd.fst → (q.snd.snd.length ≤ 9223372036854775807 ∧ ∀ (x : Int × Int × Int × Int), List.Mem x q.snd.snd → inR IntKind.i8 x.fst ∧ inR IntKind.i8 x.snd.fst ∧ inR IntKind.i8 x.snd.snd.fst ∧ inR
      IntKind.i8 x.snd.snd.snd) → ∃ (r : Int), Ev Try.prog 85 [Arg.imm (D.dat (sqT 41) q), Arg.imm (D.dat (Ty.slice 52 cellT) l)] (compsOf [(false, Ty.int IntKind.i64)] r) ∧ (inR IntKind.i64 r → split
      (!decide (r = 0)) ([] = (liftedV q l).fst ∧ r = (liftedV q l).snd) ((((List.length l) : Nat) : Int) ≤ 9223372036854775807 → (∃ (x0 : Nat), (Slot.own (Ty.slice 2 (Ty.int IntKind.i64)) [] = Slot.own
      (Ty.slice 2 iT) (liftL q l x0) ∧ Slot.val (D.dat (Ty.int IntKind.i64) 0) = Slot.val (D.dat iT ((x0 : Nat) : Int))) ∧ x0 ≤ List.length l ∧ ∀ (j : Nat), j + 1 < x0 → nearB (List.getD l j (0, 0))
      (List.getD l (j + 1) (0, 0)) = true) ∧ ∀ (x : Nat), (x ≤ List.length l ∧ ∀ (j : Nat), j + 1 < x → nearB (List.getD l j (0, 0)) (List.getD l (j + 1) (0, 0)) = true) → ((liftL q l x).length ≤
      9223372036854775807 ∧ ∀ (x_1 : Int), List.Mem x_1 (liftL q l x) → inR IntKind.i64 x_1) → inR IntKind.i64 ((x : Nat) : Int) → split (decide (((x : Nat) : Int) < (((List.length l) : Nat) : Int))) ((0 ≤
      ((x : Nat) : Int) ∧ ((x : Nat) : Int) < (((List.length l) : Nat) : Int)) ∧ (inR IntKind.i8 (List.getD l (((x : Nat) : Int)).toNat (0, 0)).fst → inR IntKind.i8 (List.getD l (((x : Nat) : Int)).toNat
      (0, 0)).snd → split (decide (0 < ((x : Nat) : Int))) ((-9223372036854775808 ≤ ((x : Nat) : Int) - 1 ∧ ((x : Nat) : Int) - 1 ≤ 9223372036854775807) ∧ (0 ≤ ((x : Nat) : Int) - 1 ∧ ((x : Nat) : Int) - 1
      < (((List.length l) : Nat) : Int)) ∧ (inR IntKind.i8 (List.getD l (((x : Nat) : Int) - 1).toNat (0, 0)).fst → inR IntKind.i8 (List.getD l (((x : Nat) : Int) - 1).toNat (0, 0)).snd → inR IntKind.i8
      (List.getD l (((x : Nat) : Int)).toNat (0, 0)).fst → inR IntKind.i8 (List.getD l (((x : Nat) : Int)).toNat (0, 0)).snd → ∃ (r : Bool), Ev Try.prog 86 [Arg.imm (D.dat cellT (List.getD l (((x : Nat) :
      Int) - 1).toNat (0, 0))), Arg.imm (D.dat cellT (List.getD l (((x : Nat) : Int)).toNat (0, 0)))] (compsOf [(false, Ty.bool)] r) ∧ split (!r) ([] = (liftedV q l).fst ∧ 4 = (liftedV q l).snd) (inR
      IntKind.i8 q.fst → inR IntKind.i8 q.snd.fst → (q.snd.snd.length ≤ 9223372036854775807 ∧ ∀ (x : Int × Int × Int × Int), List.Mem x q.snd.snd → inR IntKind.i8 x.fst ∧ inR IntKind.i8 x.snd.fst ∧ inR
      IntKind.i8 x.snd.snd.fst ∧ inR IntKind.i8 x.snd.snd.snd) → inR IntKind.i8 (List.getD l (((x : Nat) : Int)).toNat (0, 0)).fst → inR IntKind.i8 (List.getD l (((x : Nat) : Int)).toNat (0, 0)).snd → ∃ (r
      : Int), Ev Try.prog 87 [Arg.imm (D.dat (sqT 41) q), Arg.imm (D.dat cellT (List.getD l (((x : Nat) : Int)).toNat (0, 0)))] (compsOf [(false, Ty.int IntKind.i64)] r) ∧ (inR IntKind.i64 r → split
      (decide (0 ≤ r)) (∃ (r_1 : Bool), Ev Try.prog 88 [Arg.imm (D.dat (Ty.slice 2 iT) (liftL q l x)), Arg.imm (D.dat (Ty.int IntKind.i64) r)] (compsOf [(false, Ty.bool)] r_1) ∧ split (!r_1) ((liftL q l
      x).length + [r].length ≤ 4294967296 ∧ (-9223372036854775808 ≤ ((x : Nat) : Int) + 1 ∧ ((x : Nat) : Int) + 1 ≤ 9223372036854775807) ∧ ∃ (x' : Nat), (Slot.own (Ty.slice 2 (Ty.int IntKind.i64)) (liftL q
      l x ++ [r]) = Slot.own (Ty.slice 2 iT) (liftL q l x') ∧ Slot.val (D.dat (Ty.int IntKind.i64) (((x : Nat) : Int) + 1)) = Slot.val (D.dat iT ((x' : Nat) : Int))) ∧ (x' ≤ List.length l ∧ ∀ (j : Nat), j
      + 1 < x' → nearB (List.getD l j (0, 0)) (List.getD l (j + 1) (0, 0)) = true) ∧ List.length l - x' < List.length l - x) ((-9223372036854775808 ≤ ((x : Nat) : Int) + 1 ∧ ((x : Nat) : Int) + 1 ≤
      9223372036854775807) ∧ ∃ (x' : Nat), (Slot.own (Ty.slice 2 iT) (liftL q l x) = Slot.own (Ty.slice 2 iT) (liftL q l x') ∧ Slot.val (D.dat (Ty.int IntKind.i64) (((x : Nat) : Int) + 1)) = Slot.val
      (D.dat iT ((x' : Nat) : Int))) ∧ (x' ≤ List.length l ∧ ∀ (j : Nat), j + 1 < x' → nearB (List.getD l j (0, 0)) (List.getD l (j + 1) (0, 0)) = true) ∧ List.length l - x' < List.length l - x))
      ((-9223372036854775808 ≤ ((x : Nat) : Int) + 1 ∧ ((x : Nat) : Int) + 1 ≤ 9223372036854775807) ∧ ∃ (x' : Nat), (Slot.own (Ty.slice 2 iT) (liftL q l x) = Slot.own (Ty.slice 2 iT) (liftL q l x') ∧
      Slot.val (D.dat (Ty.int IntKind.i64) (((x : Nat) : Int) + 1)) = Slot.val (D.dat iT ((x' : Nat) : Int))) ∧ (x' ≤ List.length l ∧ ∀ (j : Nat), j + 1 < x' → nearB (List.getD l j (0, 0)) (List.getD l (j
      + 1) (0, 0)) = true) ∧ List.length l - x' < List.length l - x))))) (inR IntKind.i8 q.fst → inR IntKind.i8 q.snd.fst → (q.snd.snd.length ≤ 9223372036854775807 ∧ ∀ (x : Int × Int × Int × Int), List.Mem
      x q.snd.snd → inR IntKind.i8 x.fst ∧ inR IntKind.i8 x.snd.fst ∧ inR IntKind.i8 x.snd.snd.fst ∧ inR IntKind.i8 x.snd.snd.snd) → inR IntKind.i8 (List.getD l (((x : Nat) : Int)).toNat (0, 0)).fst → inR
      IntKind.i8 (List.getD l (((x : Nat) : Int)).toNat (0, 0)).snd → ∃ (r : Int), Ev Try.prog 87 [Arg.imm (D.dat (sqT 41) q), Arg.imm (D.dat cellT (List.getD l (((x : Nat) : Int)).toNat (0, 0)))] (compsOf
      [(false, Ty.int IntKind.i64)] r) ∧ (inR IntKind.i64 r → split (decide (0 ≤ r)) (∃ (r_1 : Bool), Ev Try.prog 88 [Arg.imm (D.dat (Ty.slice 2 iT) (liftL q l x)), Arg.imm (D.dat (Ty.int IntKind.i64) r)]
      (compsOf [(false, Ty.bool)] r_1) ∧ split (!r_1) ((liftL q l x).length + [r].length ≤ 4294967296 ∧ (-9223372036854775808 ≤ ((x : Nat) : Int) + 1 ∧ ((x : Nat) : Int) + 1 ≤ 9223372036854775807) ∧ ∃ (x'
      : Nat), (Slot.own (Ty.slice 2 (Ty.int IntKind.i64)) (liftL q l x ++ [r]) = Slot.own (Ty.slice 2 iT) (liftL q l x') ∧ Slot.val (D.dat (Ty.int IntKind.i64) (((x : Nat) : Int) + 1)) = Slot.val (D.dat iT
      ((x' : Nat) : Int))) ∧ (x' ≤ List.length l ∧ ∀ (j : Nat), j + 1 < x' → nearB (List.getD l j (0, 0)) (List.getD l (j + 1) (0, 0)) = true) ∧ List.length l - x' < List.length l - x)
      ((-9223372036854775808 ≤ ((x : Nat) : Int) + 1 ∧ ((x : Nat) : Int) + 1 ≤ 9223372036854775807) ∧ ∃ (x' : Nat), (Slot.own (Ty.slice 2 iT) (liftL q l x) = Slot.own (Ty.slice 2 iT) (liftL q l x') ∧
      Slot.val (D.dat (Ty.int IntKind.i64) (((x : Nat) : Int) + 1)) = Slot.val (D.dat iT ((x' : Nat) : Int))) ∧ (x' ≤ List.length l ∧ ∀ (j : Nat), j + 1 < x' → nearB (List.getD l j (0, 0)) (List.getD l (j
      + 1) (0, 0)) = true) ∧ List.length l - x' < List.length l - x)) ((-9223372036854775808 ≤ ((x : Nat) : Int) + 1 ∧ ((x : Nat) : Int) + 1 ≤ 9223372036854775807) ∧ ∃ (x' : Nat), (Slot.own (Ty.slice 2 iT)
      (liftL q l x) = Slot.own (Ty.slice 2 iT) (liftL q l x') ∧ Slot.val (D.dat (Ty.int IntKind.i64) (((x : Nat) : Int) + 1)) = Slot.val (D.dat iT ((x' : Nat) : Int))) ∧ (x' ≤ List.length l ∧ ∀ (j : Nat),
      j + 1 < x' → nearB (List.getD l j (0, 0)) (List.getD l (j + 1) (0, 0)) = true) ∧ List.length l - x' < List.length l - x))))) (liftL q l x = (liftedV q l).fst ∧ 0 = (liftedV q l).snd)))))) := by
    intros
    refine ⟨_, valid_ev q, split_of (fun h => by simp [liftedV, not_t h]) (fun hq => ?_)⟩
    have hq := not_f hq
    refine fun _ => split_of (fun h => ?_) (fun h => ?_)
    · have h := of_decide_eq_true h
      have h : ¬ l.length ≤ 100 := by omega
      simp [liftedV, hq, h]
    have hlen : l.length ≤ 100 := by have := of_decide_eq_false h; omega
    intros
    refine ⟨_, cellCode_ev q l, fun _ => split_of (fun h => ?_) (fun h => ?_)⟩
    · cases hc : l.any (fun p => !(cellB q p)) with
      | true => simp [liftedV, hq, hlen, cellI, askedI, hc]
      | false => simp [cellI, askedI, hq, hc] at h
    have hc : l.any (fun p => !(cellB q p)) = false := by
      cases hc : l.any (fun p => !(cellB q p)) with
      | false => rfl
      | true => simp [cellI, askedI, hq, hc] at h
    have hv : liftedV q l = if wayB l then (liftL q l l.length, 0) else ([], 4) := by
      unfold liftedV
      rw [if_pos hq, if_pos hlen, hc]; rfl
    refine fun _ => ⟨⟨0, ⟨rfl, rfl⟩, by omega, fun j hj => absurd hj (by omega)⟩, fun x ⟨hx, hn⟩ _ _ => split_of (fun h => ?_) (fun h => ?_)⟩
    · have h := of_decide_eq_true h
      have hs := liftL_succ q (show x < l.length by omega)
      have hll := liftL_len q l x hx
      simp only [Int.toNat_natCast]
      refine ⟨by omega, ?_⟩
      intros
      refine split_of (fun h1 => ?_) (fun h1 => ?_)
      · have h1 := of_decide_eq_true h1
        obtain ⟨y, rfl⟩ : ∃ y, x = y + 1 := ⟨x - 1, by omega⟩
        rw [show (((y + 1 : Nat) : Int) - 1).toNat = y by omega]
        refine ⟨by omega, by omega, ?_⟩
        intros
        refine ⟨_, areNext_ev _ _, split_of (fun h2 => ?_) (fun h2 => ?_)⟩
        · rw [hv, way_no (j := y) (by omega) (not_t h2)]; exact ⟨rfl, rfl⟩
        · have hw : ∀ j : Nat, j + 1 < y + 1 + 1 → nearB (ptAt l j) (ptAt l (j + 1)) = true := fun j hj => by
            rcases Nat.lt_or_ge j y with q | q
            · exact hn j (by omega)
            · obtain rfl : j = y := by omega
              exact not_f h2
          intros
          refine ⟨_, cover_ev q _, fun _ => split_of (fun h3 => ⟨_, containsE_ev _ _, split_of (fun h4 => ?_) (fun h4 => ?_)⟩) (fun h3 => ?_)⟩
          · refine ⟨by simp; omega, by omega, y + 1 + 1, ⟨?_, rfl⟩, ⟨by omega, hw⟩, by omega⟩
            rw [hs, liftF, h3, h4]; rfl
          · refine ⟨by omega, y + 1 + 1, ⟨?_, rfl⟩, ⟨by omega, hw⟩, by omega⟩
            rw [hs, liftF, h3, h4]; rfl
          · refine ⟨by omega, y + 1 + 1, ⟨?_, rfl⟩, ⟨by omega, hw⟩, by omega⟩
            rw [hs, liftF, h3]; rfl
      · have h1 := of_decide_eq_false h1
        have hw : ∀ j : Nat, j + 1 < x + 1 → nearB (ptAt l j) (ptAt l (j + 1)) = true := fun j hj => absurd hj (by omega)
        intros
        refine ⟨_, cover_ev q _, fun _ => split_of (fun h3 => ⟨_, containsE_ev _ _, split_of (fun h4 => ?_) (fun h4 => ?_)⟩) (fun h3 => ?_)⟩
        · refine ⟨by simp; omega, by omega, x + 1, ⟨?_, rfl⟩, ⟨by omega, hw⟩, by omega⟩
          rw [hs, liftF, h3, h4]; rfl
        · refine ⟨by omega, x + 1, ⟨?_, rfl⟩, ⟨by omega, hw⟩, by omega⟩
          rw [hs, liftF, h3, h4]; rfl
        · refine ⟨by omega, x + 1, ⟨?_, rfl⟩, ⟨by omega, hw⟩, by omega⟩
          rw [hs, liftF, h3]; rfl
    · have h := of_decide_eq_false h
      obtain rfl : x = l.length := by omega
      rw [hv, way_yes hn]; exact ⟨rfl, rfl⟩
  refine @Eq.mpr _ _ (?_) key
  kernel_rfl
theorem cell_b {q : Sq} {p : Int × Int} (k : OkQ q) (h : cellB q p = true) : (0 ≤ p.1 ∧ p.1 ≤ 11) ∧ 0 ≤ p.2 ∧ p.2 ≤ 11 := by
  have hb1 := edge_b k.w
  have hb2 := edge_b k.h
  simp only [cellB, inB, Bool.and_eq_true, decide_eq_true_eq] at h
  omega
theorem getD_in {α : Type} {l : List α} {i : Nat} {d : α} (h : i < l.length) : l.getD i d ∈ l := by
  have : l.getD i d = l[i] := by simp [List.getD_eq_getElem?_getD, h]
  rw [this]; exact List.getElem_mem _
noncomputable abbrev liftSInv (q : Sq) (l : Cl) (n : Nat) (σ : List Slot) : Option LoopInv := match n with
  | 4 => some ⟨hvAt Try.f84 4, Nat, fun i => [(7, .own (.slice 2 iT) (liftL q l i)), (8, .val (.dat iT (i : Int)))], fun i => i ≤ l.length, fun i => l.length - i⟩
  | _ => none
theorem l05Lifted_ev (q : Sq) (l : Cl) (k : OkQ q) (hl : l.length ≤ 100) (hc : ∀ p ∈ l, cellB q p = true) : Ev Try.prog 84 [aQp q, aL l] (compsOf [oIs] (liftL q l l.length)) := by
  refine ev_of (l := [oIs]) (r := (liftL q l l.length)) (types (resT) [] (liftSInv q l)) follows Try.func84 (by kernel_rfl) (by rw [Try.ntmps84]; exact Nat.le_of_ble_eq_true rfl) ?_
  have key : ((List.length l ≤ 9223372036854775807 ∧ ∀ (x : Int × Int), List.Mem x l → inR IntKind.i8 x.fst ∧ inR IntKind.i8 x.snd) → ∃ (r : List (List Int) × Bool), Ev Try.prog 108 [Arg.imm (D.dat (sqT 41)
      q).ref] (compsOf [(false, Ty.arr 12 (Ty.arr 12 (Ty.int IntKind.i64))), (false, Ty.bool)] r) ∧ ((r.fst.length = 12 ∧ ∀ (x : List Int), List.Mem x r.fst → x.length = 12 ∧ ∀ (x_1 : Int), List.Mem x_1 x
      → inR IntKind.i64 x_1) → (∃ (x0 : Nat), (Slot.own (Ty.slice 2 (Ty.int IntKind.i64)) [] = Slot.own (Ty.slice 2 iT) (liftL q l x0) ∧ Slot.val (D.dat (Ty.int IntKind.i64) 0) = Slot.val (D.dat iT ((x0 :
      Nat) : Int))) ∧ x0 ≤ List.length l) ∧ ∀ (x : Nat), x ≤ List.length l → ((liftL q l x).length ≤ 9223372036854775807 ∧ ∀ (x_1 : Int), List.Mem x_1 (liftL q l x) → inR IntKind.i64 x_1) → inR IntKind.i64
      ((x : Nat) : Int) → (((List.length l) : Nat) : Int) ≤ 9223372036854775807 → split (decide (((x : Nat) : Int) < (((List.length l) : Nat) : Int))) ((0 ≤ ((x : Nat) : Int) ∧ ((x : Nat) : Int) <
      (((List.length l) : Nat) : Int)) ∧ (inR IntKind.i8 (List.getD l (((x : Nat) : Int)).toNat (0, 0)).snd → (0 ≤ ((x : Nat) : Int) ∧ ((x : Nat) : Int) < (((List.length l) : Nat) : Int)) ∧ (inR IntKind.i8
      (List.getD l (((x : Nat) : Int)).toNat (0, 0)).fst → (0 ≤ (List.getD l (((x : Nat) : Int)).toNat (0, 0)).snd ∧ (List.getD l (((x : Nat) : Int)).toNat (0, 0)).snd < ((12 : Nat) : Int)) ∧ (0 ≤
      (List.getD l (((x : Nat) : Int)).toNat (0, 0)).fst ∧ (List.getD l (((x : Nat) : Int)).toNat (0, 0)).fst < ((12 : Nat) : Int)) ∧ (inR IntKind.i64 ((r.fst.getD (List.getD l (((x : Nat) : Int)).toNat
      (0, 0)).snd.toNat (List.replicate 12 0)).getD (List.getD l (((x : Nat) : Int)).toNat (0, 0)).fst.toNat 0) → (-9223372036854775808 ≤ (r.fst.getD (List.getD l (((x : Nat) : Int)).toNat (0,
      0)).snd.toNat (List.replicate 12 0)).getD (List.getD l (((x : Nat) : Int)).toNat (0, 0)).fst.toNat 0 - 1 ∧ (r.fst.getD (List.getD l (((x : Nat) : Int)).toNat (0, 0)).snd.toNat (List.replicate 12
      0)).getD (List.getD l (((x : Nat) : Int)).toNat (0, 0)).fst.toNat 0 - 1 ≤ 9223372036854775807) ∧ split (decide (0 ≤ (r.fst.getD (List.getD l (((x : Nat) : Int)).toNat (0, 0)).snd.toNat
      (List.replicate 12 0)).getD (List.getD l (((x : Nat) : Int)).toNat (0, 0)).fst.toNat 0 - 1)) (∃ (r_1 : Bool), Ev Try.prog 98 [Arg.imm (D.dat (Ty.slice 2 iT) (liftL q l x)), Arg.imm (D.dat (Ty.int
      IntKind.i64) ((r.fst.getD (List.getD l (((x : Nat) : Int)).toNat (0, 0)).snd.toNat (List.replicate 12 0)).getD (List.getD l (((x : Nat) : Int)).toNat (0, 0)).fst.toNat 0 - 1))] (compsOf [(false,
      Ty.bool)] r_1) ∧ split (!r_1) ((liftL q l x).length + [(r.fst.getD (List.getD l (((x : Nat) : Int)).toNat (0, 0)).snd.toNat (List.replicate 12 0)).getD (List.getD l (((x : Nat) : Int)).toNat (0,
      0)).fst.toNat 0 - 1].length ≤ 4294967296 ∧ (-9223372036854775808 ≤ ((x : Nat) : Int) + 1 ∧ ((x : Nat) : Int) + 1 ≤ 9223372036854775807) ∧ ∃ (x' : Nat), (Slot.own (Ty.slice 2 (Ty.int IntKind.i64))
      (liftL q l x ++ [(r.fst.getD (List.getD l (((x : Nat) : Int)).toNat (0, 0)).snd.toNat (List.replicate 12 0)).getD (List.getD l (((x : Nat) : Int)).toNat (0, 0)).fst.toNat 0 - 1]) = Slot.own (Ty.slice
      2 iT) (liftL q l x') ∧ Slot.val (D.dat (Ty.int IntKind.i64) (((x : Nat) : Int) + 1)) = Slot.val (D.dat iT ((x' : Nat) : Int))) ∧ x' ≤ List.length l ∧ List.length l - x' < List.length l - x)
      ((-9223372036854775808 ≤ ((x : Nat) : Int) + 1 ∧ ((x : Nat) : Int) + 1 ≤ 9223372036854775807) ∧ ∃ (x' : Nat), (Slot.own (Ty.slice 2 iT) (liftL q l x) = Slot.own (Ty.slice 2 iT) (liftL q l x') ∧
      Slot.val (D.dat (Ty.int IntKind.i64) (((x : Nat) : Int) + 1)) = Slot.val (D.dat iT ((x' : Nat) : Int))) ∧ x' ≤ List.length l ∧ List.length l - x' < List.length l - x)) ((-9223372036854775808 ≤ ((x :
      Nat) : Int) + 1 ∧ ((x : Nat) : Int) + 1 ≤ 9223372036854775807) ∧ ∃ (x' : Nat), (Slot.own (Ty.slice 2 iT) (liftL q l x) = Slot.own (Ty.slice 2 iT) (liftL q l x') ∧ Slot.val (D.dat (Ty.int IntKind.i64)
      (((x : Nat) : Int) + 1)) = Slot.val (D.dat iT ((x' : Nat) : Int))) ∧ x' ≤ List.length l ∧ List.length l - x' < List.length l - x))))) (liftL q l x = liftL q l (List.length l)))) := by
    intros
    refine ⟨_, lay_ev q, fun _ => ⟨⟨0, ⟨rfl, rfl⟩, by omega⟩, fun x hx _ _ _ => split_of (fun h => ?_) (fun h => ?_)⟩⟩
    · have h := of_decide_eq_true h
      have hs := liftL_succ q (show x < l.length by omega)
      have hll := liftL_len q l x hx
      have hb := cell_b k (hc (ptAt l x) (getD_in (by omega)))
      have hb' : (0 ≤ (List.getD l x (0, 0)).1 ∧ (List.getD l x (0, 0)).1 ≤ 11) ∧ 0 ≤ (List.getD l x (0, 0)).2 ∧ (List.getD l x (0, 0)).2 ≤ 11 := hb
      have hg := (layV_is q).2 k (ptAt l x).1 (ptAt l x).2 hb.1.1 hb.2.1
      have hat : gget (layV q).1 (ptAt l x).1 (ptAt l x).2 - 1 = atI q (ptAt l x).1 (ptAt l x).2 := by rw [hg, atI_cov]
      have hnn := cov_nn q.2.2 (ptAt l x).1 (ptAt l x).2
      have hat2 := atI_cov q (ptAt l x).1 (ptAt l x).2
      simp only [Int.toNat_natCast]
      refine ⟨by omega, fun _ => ⟨by omega, fun _ => ⟨by omega, by omega, fun hr => ⟨?_, ?_⟩⟩⟩⟩
      · have : -9223372036854775808 ≤ gget (layV q).1 (ptAt l x).1 (ptAt l x).2 - 1 ∧ gget (layV q).1 (ptAt l x).1 (ptAt l x).2 - 1 ≤ 9223372036854775807 := by
          have hr : inR .i64 (gget (layV q).1 (ptAt l x).1 (ptAt l x).2) := hr
          simp only [inR, loK, hiK] at hr
          omega
        exact this
      · have e : (((layV q).1.getD (ptAt l x).2.toNat (List.replicate 12 0)).getD (ptAt l x).1.toNat 0) - 1 = atI q (ptAt l x).1 (ptAt l x).2 := hat
        simp only [e]
        refine split_of (fun h3 => ⟨_, l00Has_ev _ _, split_of (fun h4 => ?_) (fun h4 => ?_)⟩) (fun h3 => ?_)
        · refine ⟨by simp; omega, by omega, x + 1, ⟨?_, rfl⟩, by omega, by omega⟩
          rw [hs, liftF, h3, h4]; rfl
        · refine ⟨by omega, x + 1, ⟨?_, rfl⟩, by omega, by omega⟩
          rw [hs, liftF, h3, h4]; rfl
        · refine ⟨by omega, x + 1, ⟨?_, rfl⟩, by omega, by omega⟩
          rw [hs, liftF, h3]; rfl
    · have h := of_decide_eq_false h
      obtain rfl : x = l.length := by omega
      rfl
  refine @Eq.mpr _ _ (?_) key
  kernel_rfl
noncomputable abbrev liftLInv (q : Sq) (l : Cl) (n : Nat) (σ : List Slot) : Option LoopInv := match n with
  | 6 => some ⟨hvAt Try.f38 6, Nat, fun i => [(6, .val (.dat iT (i : Int)))], fun i => i ≤ l.length ∧ ∀ j : Nat, j < i → (fun p => !(cellB q p)) (ptAt l j) = false, fun i => l.length - i⟩
  | 11 => some ⟨hvAt Try.f38 11, Nat, fun i => [(7, .val (.dat iT ((i : Int) + 1)))], fun i => (i + 1 ≤ l.length ∨ i = 0) ∧ ∀ j : Nat, j < i → nearB (ptAt l j) (ptAt l (j + 1)) = true, fun i => l.length - i⟩
  | _ => none
theorem specLifted_ev (q : Sq) (l : Cl) : Ev Try.prog 38 [aQ q, aL l] (compsOf [oIs, rI] (liftedV q l)) := by
  refine ev_of (l := [oIs, rI]) (r := (liftedV q l)) (types (resT) [] (liftLInv q l)) follows Try.func38 (by kernel_rfl) (by rw [Try.ntmps38]; exact Nat.le_of_ble_eq_true rfl) ?_
  have key : (inR IntKind.i8 q.fst → inR IntKind.i8 q.snd.fst → (q.snd.snd.length ≤ 9223372036854775807 ∧ ∀ (x : Int × Int × Int × Int), List.Mem x q.snd.snd → inR IntKind.i8 x.fst ∧ inR IntKind.i8 x.snd.fst ∧ inR
      IntKind.i8 x.snd.snd.fst ∧ inR IntKind.i8 x.snd.snd.snd) → (List.length l ≤ 9223372036854775807 ∧ ∀ (x : Int × Int), List.Mem x l → inR IntKind.i8 x.fst ∧ inR IntKind.i8 x.snd) → ∃ (r : Bool), Ev
      Try.prog 59 [Arg.imm (D.dat (sqT 41) q).ref] (compsOf [(false, Ty.bool)] r) ∧ split (!r) ([] = (liftedV q l).fst ∧ 1 = (liftedV q l).snd) ((((List.length l) : Nat) : Int) ≤ 9223372036854775807 →
      split (decide (100 < (((List.length l) : Nat) : Int))) ([] = (liftedV q l).fst ∧ 3 = (liftedV q l).snd) ((∃ (x0 : Nat), Slot.val (D.dat (Ty.int IntKind.i64) 0) = Slot.val (D.dat iT ((x0 : Nat) :
      Int)) ∧ x0 ≤ List.length l ∧ ∀ (j : Nat), j < x0 → (!cellB q (List.getD l j (0, 0))) = false) ∧ ∀ (x : Nat), (x ≤ List.length l ∧ ∀ (j : Nat), j < x → (!cellB q (List.getD l j (0, 0))) = false) → inR
      IntKind.i64 ((x : Nat) : Int) → (((List.length l) : Nat) : Int) ≤ 9223372036854775807 → split (decide (((x : Nat) : Int) < (((List.length l) : Nat) : Int))) ((0 ≤ ((x : Nat) : Int) ∧ ((x : Nat) :
      Int) < (((List.length l) : Nat) : Int)) ∧ (inR IntKind.i8 (List.getD l (((x : Nat) : Int)).toNat (0, 0)).fst → inR IntKind.i8 (List.getD l (((x : Nat) : Int)).toNat (0, 0)).snd → ∃ (r : Bool), Ev
      Try.prog 82 [Arg.imm (D.dat (sqT 41) q).ref, Arg.imm (D.dat cellT (List.getD l (((x : Nat) : Int)).toNat (0, 0)))] (compsOf [(false, Ty.bool)] r) ∧ split (!r) ([] = (liftedV q l).fst ∧ 2 = (liftedV q
      l).snd) ((-9223372036854775808 ≤ ((x : Nat) : Int) + 1 ∧ ((x : Nat) : Int) + 1 ≤ 9223372036854775807) ∧ ∃ (x' : Nat), Slot.val (D.dat (Ty.int IntKind.i64) (((x : Nat) : Int) + 1)) = Slot.val (D.dat
      iT ((x' : Nat) : Int)) ∧ (x' ≤ List.length l ∧ ∀ (j : Nat), j < x' → (!cellB q (List.getD l j (0, 0))) = false) ∧ List.length l - x' < List.length l - x))) ((∃ (x0 : Nat), Slot.val (D.dat (Ty.int
      IntKind.i64) 1) = Slot.val (D.dat iT (((x0 : Nat) : Int) + 1)) ∧ (x0 + 1 ≤ List.length l ∨ x0 = 0) ∧ ∀ (j : Nat), j < x0 → nearB (List.getD l j (0, 0)) (List.getD l (j + 1) (0, 0)) = true) ∧ ∀ (x :
      Nat), ((x + 1 ≤ List.length l ∨ x = 0) ∧ ∀ (j : Nat), j < x → nearB (List.getD l j (0, 0)) (List.getD l (j + 1) (0, 0)) = true) → inR IntKind.i64 (((x : Nat) : Int) + 1) → (((List.length l) : Nat) :
      Int) ≤ 9223372036854775807 → split (decide (((x : Nat) : Int) + 1 < (((List.length l) : Nat) : Int))) ((-9223372036854775808 ≤ ((x : Nat) : Int) + 1 - 1 ∧ ((x : Nat) : Int) + 1 - 1 ≤
      9223372036854775807) ∧ (0 ≤ ((x : Nat) : Int) + 1 - 1 ∧ ((x : Nat) : Int) + 1 - 1 < (((List.length l) : Nat) : Int)) ∧ (inR IntKind.i8 (List.getD l (((x : Nat) : Int) + 1 - 1).toNat (0, 0)).fst → inR
      IntKind.i8 (List.getD l (((x : Nat) : Int) + 1 - 1).toNat (0, 0)).snd → (0 ≤ ((x : Nat) : Int) + 1 ∧ ((x : Nat) : Int) + 1 < (((List.length l) : Nat) : Int)) ∧ (inR IntKind.i8 (List.getD l (((x :
      Nat) : Int) + 1).toNat (0, 0)).fst → inR IntKind.i8 (List.getD l (((x : Nat) : Int) + 1).toNat (0, 0)).snd → ∃ (r : Bool), Ev Try.prog 83 [Arg.imm (D.dat cellT (List.getD l (((x : Nat) : Int) + 1 -
      1).toNat (0, 0))), Arg.imm (D.dat cellT (List.getD l (((x : Nat) : Int) + 1).toNat (0, 0)))] (compsOf [(false, Ty.bool)] r) ∧ split (!r) ([] = (liftedV q l).fst ∧ 4 = (liftedV q l).snd)
      ((-9223372036854775808 ≤ ((x : Nat) : Int) + 1 + 1 ∧ ((x : Nat) : Int) + 1 + 1 ≤ 9223372036854775807) ∧ ∃ (x' : Nat), Slot.val (D.dat (Ty.int IntKind.i64) (((x : Nat) : Int) + 1 + 1)) = Slot.val
      (D.dat iT (((x' : Nat) : Int) + 1)) ∧ ((x' + 1 ≤ List.length l ∨ x' = 0) ∧ ∀ (j : Nat), j < x' → nearB (List.getD l j (0, 0)) (List.getD l (j + 1) (0, 0)) = true) ∧ List.length l - x' < List.length l
      - x)))) (∃ (r : List Int), Ev Try.prog 84 [Arg.imm (D.dat (sqT 41) q).ref, Arg.imm (D.dat (Ty.slice 52 cellT) l)] (compsOf [(true, Ty.slice 2 (Ty.int IntKind.i64))] r) ∧ ((r.length ≤
      9223372036854775807 ∧ ∀ (x : Int), List.Mem x r → inR IntKind.i64 x) → r = (liftedV q l).fst ∧ 0 = (liftedV q l).snd)))))) := by
    intros
    refine ⟨_, l01Ok_ev q, ?_⟩
    rw [(layV_is q).1]
    refine split_of (fun h => by simp [liftedV, not_t h]) (fun hq => ?_)
    have hq := not_f hq
    refine fun _ => split_of (fun h => ?_) (fun h => ?_)
    · have h := of_decide_eq_true h
      have h : ¬ l.length ≤ 100 := by omega
      simp [liftedV, hq, h]
    have hlen : l.length ≤ 100 := by have := of_decide_eq_false h; omega
    refine ⟨⟨0, rfl, by omega, fun j hj => absurd hj (Nat.not_lt_zero _)⟩, fun x ⟨hx, hn⟩ _ _ => split_of (fun h => ?_) (fun h => ?_)⟩
    · have h := of_decide_eq_true h
      simp only [Int.toNat_natCast]
      refine ⟨by omega, ?_⟩
      intros
      refine ⟨_, l01Is_ev q _, split_of (fun h2 => ?_) (fun h2 => ⟨by omega, x + 1, rfl, ⟨by omega, upto_step hn h2⟩, by omega⟩)⟩
      have hc := any_at (p := fun p => !(cellB q p)) (d := (0, 0)) (show x < l.length by omega) h2
      simp [liftedV, hq, hlen, hc]
    have h := of_decide_eq_false h
    obtain rfl : x = l.length := by omega
    have hc := any_no (p := fun p => !(cellB q p)) hn
    have hv : liftedV q l = if wayB l then (liftL q l l.length, 0) else ([], 4) := by
      unfold liftedV
      rw [if_pos hq, if_pos hlen, hc]; rfl
    refine ⟨⟨0, rfl, .inr rfl, fun j hj => absurd hj (Nat.not_lt_zero _)⟩, fun y ⟨hy, hw⟩ _ _ => split_of (fun h => ?_) (fun h => ?_)⟩
    · have h := of_decide_eq_true h
      simp only [show (y : Int) + 1 - 1 = y by omega, show ((y : Int) + 1).toNat = y + 1 by omega, Int.toNat_natCast]
      refine ⟨by omega, by omega, ?_⟩
      intros
      refine ⟨by omega, ?_⟩
      intros
      refine ⟨_, l05Near_ev _ _, split_of (fun h2 => ?_) (fun h2 => ⟨by omega, y + 1, rfl, ⟨.inl (by omega), upto_step hw (not_f h2)⟩, by omega⟩)⟩
      rw [hv, way_no (j := y) (by omega) (not_t h2)]; exact ⟨rfl, rfl⟩
    · have h := of_decide_eq_false h
      have hall : ∀ p ∈ l, cellB q p = true := fun p hp => by
        have := List.any_eq_false.1 hc p hp
        simpa using this
      refine ⟨_, l05Lifted_ev q l (okQ_iff.1 hq) hlen hall, fun _ => ?_⟩
      rw [hv, way_yes fun j hj => hw j (by omega)]; exact ⟨rfl, rfl⟩
  refine @Eq.mpr _ _ (?_) key
  kernel_rfl
end Go.Proofs.Ytmjijggkdbiijaa
