/- The worst trip, as the reference tells it. No statement is proved here. -/
import Derived.Test.YtmjijggkdbiijaaTn
namespace Go.Proofs.Ytmjijggkdbiijaa
open Go.RowKit
set_option linter.unusedVariables false
set_option linter.unusedSimpArgs false
set_option maxRecDepth 100000
set_option maxHeartbeats 4000000
theorem l06Off_ev (l p : List Int) (k : PairOk l p) : Ev Try.prog 79 [aIs l, .imm (.dat pT p)] (compsOf [rI] (offV l p)) := by
  refine ev_of (l := [rI]) (r := (offV l p)) (types (resT) [] (fun _ _ => none)) follows Try.func79 (by kernel_rfl) (by rw [Try.ntmps79]; exact Nat.le_of_ble_eq_true rfl) ?_
  have key : ((l.length ≤ 9223372036854775807 ∧ ∀ (x : Int), List.Mem x l → inR IntKind.i64 x) → (p.length = 2 ∧ ∀ (x : Int), List.Mem x p → inR IntKind.i64 x) → ((0 : Int) ≤ 0 ∧ 0 < ((2 : Nat) : Int)) ∧ (inR
      IntKind.i64 (p.getD (Int.toNat 0) 0) → (0 ≤ p.getD (Int.toNat 0) 0 ∧ p.getD (Int.toNat 0) 0 < ((l.length : Nat) : Int)) ∧ (inR IntKind.i64 (l.getD (p.getD (Int.toNat 0) 0).toNat 0) → ((0 : Int) ≤ 1 ∧
      1 < ((2 : Nat) : Int)) ∧ (inR IntKind.i64 (p.getD (Int.toNat 1) 0) → (0 ≤ p.getD (Int.toNat 1) 0 ∧ p.getD (Int.toNat 1) 0 < ((l.length : Nat) : Int)) ∧ (inR IntKind.i64 (l.getD (p.getD (Int.toNat 1)
      0).toNat 0) → (-9223372036854775808 ≤ l.getD (p.getD (Int.toNat 0) 0).toNat 0 - l.getD (p.getD (Int.toNat 1) 0).toNat 0 ∧ l.getD (p.getD (Int.toNat 0) 0).toNat 0 - l.getD (p.getD (Int.toNat 1)
      0).toNat 0 ≤ 9223372036854775807) ∧ (-9223372036854775808 ≤ -(l.getD (p.getD (Int.toNat 0) 0).toNat 0 - l.getD (p.getD (Int.toNat 1) 0).toNat 0) ∧ -(l.getD (p.getD (Int.toNat 0) 0).toNat 0 - l.getD
      (p.getD (Int.toNat 1) 0).toNat 0) ≤ 9223372036854775807) ∧ ∃ (r : Int), Ev Try.prog 118 [Arg.imm (D.dat (Ty.int IntKind.i64) (l.getD (p.getD (Int.toNat 0) 0).toNat 0 - l.getD (p.getD (Int.toNat 1)
      0).toNat 0)), Arg.imm (D.dat (Ty.int IntKind.i64) (-(l.getD (p.getD (Int.toNat 0) 0).toNat 0 - l.getD (p.getD (Int.toNat 1) 0).toNat 0)))] (compsOf [(false, Ty.int IntKind.i64)] r) ∧ (inR IntKind.i64
      r → r = offV l p)))))) := by
    obtain ⟨a1, a2⟩ := k.fst
    obtain ⟨b1, b2⟩ := k.snd
    have c1 := k.lev (p.getD 0 0).toNat (by omega)
    have c2 := k.lev (p.getD 1 0).toNat (by omega)
    have e0 : Int.toNat 0 = 0 := rfl
    have e1 : Int.toNat 1 = 1 := rfl
    simp only [e0, e1]
    repeat' (first
      | (intro hh; try simp only [inR, loK, hiK] at hh)
      | exact trivial
      | (refine ⟨_, l00Max_ev _ _, ?_⟩)
      | (refine And.intro ?_ ?_)
      | (refine split_of (fun hh => ?_) (fun hh => ?_) <;> (try (first | replace hh := not_t hh | replace hh := not_f hh)) <;> (try (first | replace hh := of_decide_eq_true hh | replace hh := of_decide_eq_false hh))))
    all_goals first
      | omega
      | (unfold offV max2 maxI
         split <;> split <;> omega)
  refine @Eq.mpr _ _ (?_) key
  kernel_rfl
theorem off_nn (l p : List Int) : 0 ≤ offV l p := by
  unfold offV max2
  split <;> omega
noncomputable abbrev l06PairsInv (q : Sq) (n : Nat) (σ : List Slot) : Option LoopInv := match n with
  | 3 => some ⟨3 :: hvAt Try.f78 3, Nat, fun i => [(3, .own (.slice 58 pT) (pairsL q i)), (4, .val (.dat iT (i : Int)))], fun i => i ≤ q.2.2.length, fun i => q.2.2.length - i⟩
  | 7 => some ⟨3 :: hvAt Try.f78 7, Nat, fun k => [(3, .own (.slice 58 pT) (pairsL q (iAt σ 4).toNat ++ pairI (iAt σ 4).toNat (besL q (iAt σ 4).toNat q.2.2.length) k)), (6, .val (.dat iT (k : Int)))], fun k => k ≤ (besL q (iAt σ 4).toNat q.2.2.length).length, fun k => (besL q (iAt σ 4).toNat q.2.2.length).length - k⟩
  | _ => none
theorem l06Pairs_ev (q : Sq) (k : OkQ q) : Ev Try.prog 78 [aQp q] (compsOf [oPs] (pairsL q q.2.2.length)) := by
  refine ev_of (l := [oPs]) (r := (pairsL q q.2.2.length)) (types (resT) [] (l06PairsInv q)) follows Try.func78 (by kernel_rfl) (by rw [Try.ntmps78]; exact Nat.le_of_ble_eq_true rfl) ?_
  have key : ((∃ (x0 : Nat), (Slot.own (Ty.slice 58 (Ty.arr 2 (Ty.int IntKind.i64))) [] = Slot.own (Ty.slice 58 pT) (pairsL q x0) ∧ Slot.val (D.dat (Ty.int IntKind.i64) 0) = Slot.val (D.dat iT ((x0 : Nat) : Int)))
      ∧ x0 ≤ q.snd.snd.length) ∧ ∀ (x : Nat), x ≤ q.snd.snd.length → ((pairsL q x).length ≤ 9223372036854775807 ∧ ∀ (x_1 : List Int), List.Mem x_1 (pairsL q x) → x_1.length = 2 ∧ ∀ (x : Int), List.Mem x
      x_1 → inR IntKind.i64 x) → inR IntKind.i64 ((x : Nat) : Int) → (q.snd.snd.length ≤ 9223372036854775807 ∧ ∀ (x : Int × Int × Int × Int), List.Mem x q.snd.snd → inR IntKind.i8 x.fst ∧ inR IntKind.i8
      x.snd.fst ∧ inR IntKind.i8 x.snd.snd.fst ∧ inR IntKind.i8 x.snd.snd.snd) → ((q.snd.snd.length : Nat) : Int) ≤ 9223372036854775807 → split (decide (((x : Nat) : Int) < ((q.snd.snd.length : Nat) :
      Int))) (∃ (r : List Int), Ev Try.prog 130 [Arg.imm (D.dat (sqT 41) q).ref, Arg.imm (D.dat iT ((x : Nat) : Int))] (compsOf [(true, Ty.slice 2 (Ty.int IntKind.i64))] r) ∧ ((r.length ≤
      9223372036854775807 ∧ ∀ (x : Int), List.Mem x r → inR IntKind.i64 x) → (∃ (x0 : Nat), (Slot.own (Ty.slice 58 pT) (pairsL q x) = Slot.own (Ty.slice 58 pT) (pairsL q (((x : Nat) : Int)).toNat ++ pairI
      (((x : Nat) : Int)).toNat (besL q (((x : Nat) : Int)).toNat q.snd.snd.length) x0) ∧ Slot.val (D.dat (Ty.int IntKind.i64) 0) = Slot.val (D.dat iT ((x0 : Nat) : Int))) ∧ x0 ≤ (besL q (((x : Nat) :
      Int)).toNat q.snd.snd.length).length) ∧ ∀ (x_1 : Nat), x_1 ≤ (besL q (((x : Nat) : Int)).toNat q.snd.snd.length).length → ((pairsL q (((x : Nat) : Int)).toNat ++ pairI (((x : Nat) : Int)).toNat (besL
      q (((x : Nat) : Int)).toNat q.snd.snd.length) x_1).length ≤ 9223372036854775807 ∧ ∀ (x_2 : List Int), List.Mem x_2 (pairsL q (((x : Nat) : Int)).toNat ++ pairI (((x : Nat) : Int)).toNat (besL q (((x
      : Nat) : Int)).toNat q.snd.snd.length) x_1) → x_2.length = 2 ∧ ∀ (x : Int), List.Mem x x_2 → inR IntKind.i64 x) → inR IntKind.i64 ((x_1 : Nat) : Int) → ((r.length : Nat) : Int) ≤ 9223372036854775807
      → split (decide (((x_1 : Nat) : Int) < ((r.length : Nat) : Int))) ((0 ≤ ((x_1 : Nat) : Int) ∧ ((x_1 : Nat) : Int) < ((r.length : Nat) : Int)) ∧ (inR IntKind.i64 (r.getD (((x_1 : Nat) : Int)).toNat 0)
      → split (decide (((x : Nat) : Int) < r.getD (((x_1 : Nat) : Int)).toNat 0)) ((0 ≤ ((x_1 : Nat) : Int) ∧ ((x_1 : Nat) : Int) < ((r.length : Nat) : Int)) ∧ (inR IntKind.i64 (r.getD (((x_1 : Nat) :
      Int)).toNat 0) → (pairsL q (((x : Nat) : Int)).toNat ++ pairI (((x : Nat) : Int)).toNat (besL q (((x : Nat) : Int)).toNat q.snd.snd.length) x_1).length + [[((x : Nat) : Int), r.getD (((x_1 : Nat) :
      Int)).toNat 0]].length ≤ 4294967296 ∧ (-9223372036854775808 ≤ ((x_1 : Nat) : Int) + 1 ∧ ((x_1 : Nat) : Int) + 1 ≤ 9223372036854775807) ∧ ∃ (x' : Nat), (Slot.own (Ty.slice 58 (Ty.arr 2 (Ty.int
      IntKind.i64))) (pairsL q (((x : Nat) : Int)).toNat ++ pairI (((x : Nat) : Int)).toNat (besL q (((x : Nat) : Int)).toNat q.snd.snd.length) x_1 ++ [[((x : Nat) : Int), r.getD (((x_1 : Nat) :
      Int)).toNat 0]]) = Slot.own (Ty.slice 58 pT) (pairsL q (((x : Nat) : Int)).toNat ++ pairI (((x : Nat) : Int)).toNat (besL q (((x : Nat) : Int)).toNat q.snd.snd.length) x') ∧ Slot.val (D.dat (Ty.int
      IntKind.i64) (((x_1 : Nat) : Int) + 1)) = Slot.val (D.dat iT ((x' : Nat) : Int))) ∧ x' ≤ (besL q (((x : Nat) : Int)).toNat q.snd.snd.length).length ∧ (besL q (((x : Nat) : Int)).toNat
      q.snd.snd.length).length - x' < (besL q (((x : Nat) : Int)).toNat q.snd.snd.length).length - x_1)) ((-9223372036854775808 ≤ ((x_1 : Nat) : Int) + 1 ∧ ((x_1 : Nat) : Int) + 1 ≤ 9223372036854775807) ∧
      ∃ (x' : Nat), (Slot.own (Ty.slice 58 pT) (pairsL q (((x : Nat) : Int)).toNat ++ pairI (((x : Nat) : Int)).toNat (besL q (((x : Nat) : Int)).toNat q.snd.snd.length) x_1) = Slot.own (Ty.slice 58 pT)
      (pairsL q (((x : Nat) : Int)).toNat ++ pairI (((x : Nat) : Int)).toNat (besL q (((x : Nat) : Int)).toNat q.snd.snd.length) x') ∧ Slot.val (D.dat (Ty.int IntKind.i64) (((x_1 : Nat) : Int) + 1)) =
      Slot.val (D.dat iT ((x' : Nat) : Int))) ∧ x' ≤ (besL q (((x : Nat) : Int)).toNat q.snd.snd.length).length ∧ (besL q (((x : Nat) : Int)).toNat q.snd.snd.length).length - x' < (besL q (((x : Nat) :
      Int)).toNat q.snd.snd.length).length - x_1))) ((-9223372036854775808 ≤ ((x : Nat) : Int) + 1 ∧ ((x : Nat) : Int) + 1 ≤ 9223372036854775807) ∧ ∃ (x' : Nat), (Slot.own (Ty.slice 58 pT) (pairsL q (((x :
      Nat) : Int)).toNat ++ pairI (((x : Nat) : Int)).toNat (besL q (((x : Nat) : Int)).toNat q.snd.snd.length) x_1) = Slot.own (Ty.slice 58 pT) (pairsL q x') ∧ Slot.val (D.dat (Ty.int IntKind.i64) (((x :
      Nat) : Int) + 1)) = Slot.val (D.dat iT ((x' : Nat) : Int))) ∧ x' ≤ q.snd.snd.length ∧ q.snd.snd.length - x' < q.snd.snd.length - x))) (pairsL q x = pairsL q q.snd.snd.length)) := by
    refine ⟨⟨0, ⟨rfl, rfl⟩, Nat.zero_le _⟩, fun i hi _ _ _ _ => split_of (fun h => ?_) (fun h => ?_)⟩
    · have h := of_decide_eq_true h
      have hn2 := k.n
      have hil : i < q.2.2.length := by omega
      have hl := pairsL_len (q := q) i
      have hl2 : i * q.2.2.length ≤ 60 * 60 := Nat.mul_le_mul (by omega) (by omega)
      have hb := besL_len q i q.2.2.length
      simp only [Int.toNat_natCast]
      refine ⟨_, l01Beside_ev q k i hil, ?_⟩
      intros
      refine ⟨⟨0, ⟨by simp [pairI], rfl⟩, Nat.zero_le _⟩, fun n hn _ _ _ => split_of (fun h2 => ?_) (fun h2 => ?_)⟩
      · have h2 := of_decide_eq_true h2
        have hp := pairI_len i (besL q i q.2.2.length) n
        have hnl : n < (besL q i q.2.2.length).length := by omega
        refine ⟨by omega, ?_⟩
        intros
        refine split_of (fun h3 => ?_) (fun h3 => ?_)
        · have h3 := of_decide_eq_true h3
          refine ⟨by omega, fun _ => ⟨?_, by omega, n + 1, ⟨?_, by simp⟩, by omega, by omega⟩⟩
          · simp only [List.length_append, List.length_cons, List.length_nil]; omega
          · rw [pairI_succ i _ hnl, if_pos h3, List.append_assoc]
        · have h3 := of_decide_eq_false h3
          refine ⟨by omega, n + 1, ⟨?_, by simp⟩, by omega, by omega⟩
          rw [pairI_succ i _ hnl, if_neg h3, List.append_nil]
      · have h2 := of_decide_eq_false h2
        refine ⟨by omega, i + 1, ⟨?_, by simp⟩, by omega, by omega⟩
        have : n = (besL q i q.2.2.length).length := by omega
        subst this
        rw [pairsL_succ, pairI_all i hb]
    · have h := of_decide_eq_false h
      have : i = q.2.2.length := by omega
      rw [this]
  refine @Eq.mpr _ _ (?_) key
  kernel_rfl
theorem best_mem {l : List Int} {ps : List (List Int)} : ∀ n, 1 ≤ n → n ≤ ps.length → (bestV l (ps.take n)).1 ∈ ps
  | 0, h, _ => by omega
  | 1, _, h => by
    have hp := off_nn l (ps.getD 0 [0, 0])
    rw [best_succ l ps (by omega)]
    have : bestV l (ps.take 0) = ([0, 0], -1) := by simp [bestV]
    rw [this]; unfold bestF
    rw [if_pos (by show (-1 : Int) < _; omega)]
    exact getD_mem (by omega)
  | n + 2, _, h => by
    have r1 := best_mem (l := l) (ps := ps) (n + 1) (by omega) (by omega)
    rw [best_succ l ps (by omega)]; unfold bestF
    split
    · exact getD_mem (by omega)
    · exact r1
theorem best_off {l : List Int} {ps : List (List Int)} : ∀ n, 1 ≤ n → n ≤ ps.length → (bestV l (ps.take n)).2 = offV l (bestV l (ps.take n)).1 ∧ 0 ≤ (bestV l (ps.take n)).2
  | 0, h, _ => by omega
  | 1, _, h => by
    have hp := off_nn l (ps.getD 0 [0, 0])
    rw [best_succ l ps (by omega)]
    have : bestV l (ps.take 0) = ([0, 0], -1) := by simp [bestV]
    rw [this]; unfold bestF
    rw [if_pos (by show (-1 : Int) < _; omega)]
    exact ⟨rfl, hp⟩
  | n + 2, _, h => by
    obtain ⟨r1, r2⟩ := best_off (l := l) (ps := ps) (n + 1) (by omega) (by omega)
    rw [best_succ l ps (by omega)]; unfold bestF
    split
    · exact ⟨rfl, off_nn _ _⟩
    · exact ⟨r1, r2⟩
noncomputable abbrev specWorstInv (q : Sq) (l : List Int) (n : Nat) (σ : List Slot) : Option LoopInv := match n with
  | 9 => some ⟨9 :: hvAt Try.f34 9, Nat, fun i => [(9, .box (.dat pT (bestV l ((pairsL q q.2.2.length).take i)).1)), (10, .val (.dat iT (i : Int)))], fun i => 1 ≤ i ∧ i ≤ (pairsL q q.2.2.length).length, fun i => (pairsL q q.2.2.length).length - i⟩
  | _ => none
noncomputable def askedC (q : Sq) (l : List Int) (b : Bool) : Int := if levB q l (-100) 100 then (if b then 0 else 2) else 1
theorem l06Asked_ev (q : Sq) (l : List Int) (b : Bool) : Ev Try.prog 77 [aQp q, aIs l, aB b] (compsOf [rI] (askedC q l b)) := by
  refine ev_of (l := [rI]) (r := (askedC q l b)) (types (resT) [] (fun _ _ => none)) follows Try.func77 (by kernel_rfl) (by rw [Try.ntmps77]; exact Nat.le_of_ble_eq_true rfl) ?_
  have key : ((l.length ≤ 9223372036854775807 ∧ ∀ (x : Int), List.Mem x l → inR IntKind.i64 x) → ∃ (r : Bool), Ev Try.prog 57 [Arg.imm (D.dat (sqT 41) q).ref, Arg.imm (D.dat (Ty.slice 2 (Ty.int IntKind.i64)) l)]
      (compsOf [(false, Ty.bool)] r) ∧ split (!r) (1 = askedC q l b) (split (!b) (2 = askedC q l b) (0 = askedC q l b))) := by
    intro _
    refine ⟨_, l06Levels_ev _ _, split_of (fun h1 => ?_) (fun h1 => split_of (fun h2 => ?_) (fun h2 => ?_))⟩
    · have h1 := not_t h1
      simp [askedC, h1]
    · have h1 := not_f h1
      have h2 := not_t h2
      simp [askedC, h1, h2]
    · have h1 := not_f h1
      have h2 := not_f h2
      simp [askedC, h1, h2]
  refine @Eq.mpr _ _ (?_) key
  kernel_rfl
theorem specWorst_ev (q : Sq) (l : List Int) : Ev Try.prog 34 [aQ q, aIs l] (compsOf [(false, pT), rI, rI] (worstV q l)) := by
  refine ev_of (l := [(false, pT), rI, rI]) (r := (worstV q l)) (types (resT) [] (specWorstInv q l)) follows Try.func34 (by kernel_rfl) (by rw [Try.ntmps34]; exact Nat.le_of_ble_eq_true rfl) ?_
  have key : (inR IntKind.i8 q.fst → inR IntKind.i8 q.snd.fst → (q.snd.snd.length ≤ 9223372036854775807 ∧ ∀ (x : Int × Int × Int × Int), List.Mem x q.snd.snd → inR IntKind.i8 x.fst ∧ inR IntKind.i8 x.snd.fst ∧ inR
      IntKind.i8 x.snd.snd.fst ∧ inR IntKind.i8 x.snd.snd.snd) → (l.length ≤ 9223372036854775807 ∧ ∀ (x : Int), List.Mem x l → inR IntKind.i64 x) → ∃ (r : Int), Ev Try.prog 77 [Arg.imm (D.dat (sqT 41)
      q).ref, Arg.imm (D.dat (Ty.slice 2 (Ty.int IntKind.i64)) l), Arg.imm (D.dat Ty.bool true)] (compsOf [(false, Ty.int IntKind.i64)] r) ∧ (inR IntKind.i64 r → split (!decide (r = 0)) (List.replicate 2 0
      = (worstV q l).fst ∧ 0 = (worstV q l).snd.fst ∧ r = (worstV q l).snd.snd) (∃ (r : List (List Int)), Ev Try.prog 78 [Arg.imm (D.dat (sqT 41) q).ref] (compsOf [(true, Ty.slice 58 (Ty.arr 2 (Ty.int
      IntKind.i64)))] r) ∧ ((r.length ≤ 9223372036854775807 ∧ ∀ (x : List Int), List.Mem x r → x.length = 2 ∧ ∀ (x_1 : Int), List.Mem x_1 x → inR IntKind.i64 x_1) → ((r.length : Nat) : Int) ≤
      9223372036854775807 → split (decide (((r.length : Nat) : Int) = 0)) (List.replicate 2 0 = (worstV q l).fst ∧ 0 = (worstV q l).snd.fst ∧ 6 = (worstV q l).snd.snd) (((0 : Int) ≤ 0 ∧ 0 < ((r.length :
      Nat) : Int)) ∧ (((r.getD (Int.toNat 0) (List.replicate 2 0)).length = 2 ∧ ∀ (x : Int), List.Mem x (r.getD (Int.toNat 0) (List.replicate 2 0)) → inR IntKind.i64 x) → (∃ (x0 : Nat), (Slot.box (D.dat
      (Ty.arr 2 (Ty.int IntKind.i64)) (r.getD (Int.toNat 0) (List.replicate 2 0))) = Slot.box (D.dat pT (bestV l (List.take x0 (pairsL q q.snd.snd.length))).fst) ∧ Slot.val (D.dat (Ty.int IntKind.i64) 1) =
      Slot.val (D.dat iT ((x0 : Nat) : Int))) ∧ 1 ≤ x0 ∧ x0 ≤ (pairsL q q.snd.snd.length).length) ∧ ∀ (x : Nat), 1 ≤ x ∧ x ≤ (pairsL q q.snd.snd.length).length → ((bestV l (List.take x (pairsL q
      q.snd.snd.length))).fst.length = 2 ∧ ∀ (x_1 : Int), List.Mem x_1 (bestV l (List.take x (pairsL q q.snd.snd.length))).fst → inR IntKind.i64 x_1) → inR IntKind.i64 ((x : Nat) : Int) → ((r.length : Nat)
      : Int) ≤ 9223372036854775807 → split (decide (((x : Nat) : Int) < ((r.length : Nat) : Int))) ((0 ≤ ((x : Nat) : Int) ∧ ((x : Nat) : Int) < ((r.length : Nat) : Int)) ∧ (((r.getD (((x : Nat) :
      Int)).toNat (List.replicate 2 0)).length = 2 ∧ ∀ (x_1 : Int), List.Mem x_1 (r.getD (((x : Nat) : Int)).toNat (List.replicate 2 0)) → inR IntKind.i64 x_1) → ∃ (r_1 : Int), Ev Try.prog 79 [Arg.imm
      (D.dat (Ty.slice 2 (Ty.int IntKind.i64)) l), Arg.imm (D.dat (Ty.arr 2 (Ty.int IntKind.i64)) (r.getD (((x : Nat) : Int)).toNat (List.replicate 2 0)))] (compsOf [(false, Ty.int IntKind.i64)] r_1) ∧
      (inR IntKind.i64 r_1 → ((bestV l (List.take x (pairsL q q.snd.snd.length))).fst.length = 2 ∧ ∀ (x_1 : Int), List.Mem x_1 (bestV l (List.take x (pairsL q q.snd.snd.length))).fst → inR IntKind.i64 x_1)
      → ∃ (r_2 : Int), Ev Try.prog 79 [Arg.imm (D.dat (Ty.slice 2 (Ty.int IntKind.i64)) l), Arg.imm (D.dat pT (bestV l (List.take x (pairsL q q.snd.snd.length))).fst)] (compsOf [(false, Ty.int
      IntKind.i64)] r_2) ∧ (inR IntKind.i64 r_2 → split (decide (r_2 < r_1)) ((0 ≤ ((x : Nat) : Int) ∧ ((x : Nat) : Int) < ((r.length : Nat) : Int)) ∧ (((r.getD (((x : Nat) : Int)).toNat (List.replicate 2
      0)).length = 2 ∧ ∀ (x_1 : Int), List.Mem x_1 (r.getD (((x : Nat) : Int)).toNat (List.replicate 2 0)) → inR IntKind.i64 x_1) → (-9223372036854775808 ≤ ((x : Nat) : Int) + 1 ∧ ((x : Nat) : Int) + 1 ≤
      9223372036854775807) ∧ ∃ (x' : Nat), (Slot.box (D.dat pT (r.getD (((x : Nat) : Int)).toNat (List.replicate 2 0))) = Slot.box (D.dat pT (bestV l (List.take x' (pairsL q q.snd.snd.length))).fst) ∧
      Slot.val (D.dat (Ty.int IntKind.i64) (((x : Nat) : Int) + 1)) = Slot.val (D.dat iT ((x' : Nat) : Int))) ∧ (1 ≤ x' ∧ x' ≤ (pairsL q q.snd.snd.length).length) ∧ (pairsL q q.snd.snd.length).length - x'
      < (pairsL q q.snd.snd.length).length - x)) ((-9223372036854775808 ≤ ((x : Nat) : Int) + 1 ∧ ((x : Nat) : Int) + 1 ≤ 9223372036854775807) ∧ ∃ (x' : Nat), (Slot.box (D.dat pT (bestV l (List.take x
      (pairsL q q.snd.snd.length))).fst) = Slot.box (D.dat pT (bestV l (List.take x' (pairsL q q.snd.snd.length))).fst) ∧ Slot.val (D.dat (Ty.int IntKind.i64) (((x : Nat) : Int) + 1)) = Slot.val (D.dat iT
      ((x' : Nat) : Int))) ∧ (1 ≤ x' ∧ x' ≤ (pairsL q q.snd.snd.length).length) ∧ (pairsL q q.snd.snd.length).length - x' < (pairsL q q.snd.snd.length).length - x))))) (((bestV l (List.take x (pairsL q
      q.snd.snd.length))).fst.length = 2 ∧ ∀ (x_1 : Int), List.Mem x_1 (bestV l (List.take x (pairsL q q.snd.snd.length))).fst → inR IntKind.i64 x_1) → ((bestV l (List.take x (pairsL q
      q.snd.snd.length))).fst.length = 2 ∧ ∀ (x_1 : Int), List.Mem x_1 (bestV l (List.take x (pairsL q q.snd.snd.length))).fst → inR IntKind.i64 x_1) → ∃ (r : Int), Ev Try.prog 79 [Arg.imm (D.dat (Ty.slice
      2 (Ty.int IntKind.i64)) l), Arg.imm (D.dat pT (bestV l (List.take x (pairsL q q.snd.snd.length))).fst)] (compsOf [(false, Ty.int IntKind.i64)] r) ∧ (inR IntKind.i64 r → (bestV l (List.take x (pairsL
      q q.snd.snd.length))).fst = (worstV q l).fst ∧ r = (worstV q l).snd.fst ∧ 0 = (worstV q l).snd.snd)))))))) := by
    intros
    refine ⟨_, l06Asked_ev _ _ _, fun _ => split_of (fun h => ?_) (fun h => ?_)⟩
    · have h : ¬ askedC q l true = 0 := by simpa using h
      have h1 : levB q l (-100) 100 = false := by
        cases hb : levB q l (-100) 100 with
        | false => rfl
        | true => exact absurd (by simp [askedC, hb]) h
      unfold worstV askedC; rw [h1]; exact ⟨rfl, rfl, rfl⟩
    · have h : askedC q l true = 0 := by simpa using h
      have h1 : levB q l (-100) 100 = true := by
        cases hb : levB q l (-100) 100 with
        | true => rfl
        | false => simp [askedC, hb] at h
      have k : OkQ q := okQ_iff.1 (levB_at h1).1
      have hl := pairsL_len (q := q) q.2.2.length
      have hn2 := k.n
      have hl2 : q.2.2.length * q.2.2.length ≤ 60 * 60 := Nat.mul_le_mul (by omega) (by omega)
      refine ⟨_, l06Pairs_ev q k, ?_⟩
      intros
      refine split_of (fun h2 => ?_) (fun h2 => ?_)
      · have h2 := of_decide_eq_true h2
        have : pairsL q q.2.2.length = [] := List.eq_nil_of_length_eq_zero (by omega)
        unfold worstV; rw [h1, this]; exact ⟨rfl, rfl, rfl⟩
      · have h2 := of_decide_eq_false h2
        have e0 : (pairsL q q.2.2.length).getD (Int.toNat 0) (List.replicate 2 0) = (bestV l ((pairsL q q.2.2.length).take 1)).1 := by
          have hp := off_nn l ((pairsL q q.2.2.length).getD 0 [0, 0])
          rw [best_succ l _ (by omega)]
          have : bestV l ((pairsL q q.2.2.length).take 0) = ([0, 0], -1) := by simp [bestV]
          rw [this]; unfold bestF
          rw [if_pos (by show (-1 : Int) < _; omega)]
          rfl
        refine ⟨by omega, fun _ => ⟨⟨1, ⟨by rw [e0], rfl⟩, by omega⟩, fun n hn _ _ _ => split_of (fun h3 => ?_) (fun h3 => ?_)⟩⟩
        · have h3 := of_decide_eq_true h3
          have hnl : n < (pairsL q q.2.2.length).length := by omega
          simp only [Int.toNat_natCast]
          refine ⟨by omega, fun _ => ?_⟩
          refine ⟨_, l06Off_ev l _ (pair_ok h1 (getD_mem hnl)), ?_⟩
          intros
          refine ⟨_, l06Off_ev l _ (pair_ok h1 (best_mem n hn.1 hn.2)), ?_⟩
          have ho := (best_off (l := l) (ps := pairsL q q.2.2.length) n hn.1 hn.2).1
          have hb : bestV l ((pairsL q q.2.2.length).take (n + 1)) = bestF l (bestV l ((pairsL q q.2.2.length).take n)) ((pairsL q q.2.2.length).getD n (List.replicate 2 0)) := best_succ l (pairsL q q.2.2.length) hnl
          rw [← ho]
          refine fun _ => split_of (fun h4 => ?_) (fun h4 => ?_)
          · have h4 : _ < _ := of_decide_eq_true h4
            refine ⟨by omega, fun _ => ⟨by omega, n + 1, ⟨?_, by simp⟩, by omega, by omega⟩⟩
            rw [hb, bestF, if_pos h4]
          · have h4 : ¬ _ < _ := of_decide_eq_false h4
            refine ⟨by omega, n + 1, ⟨?_, by simp⟩, by omega, by omega⟩
            rw [hb, bestF, if_neg h4]
        · have h3 := of_decide_eq_false h3
          have e : n = (pairsL q q.2.2.length).length := by omega
          subst e
          intros
          refine ⟨_, l06Off_ev l _ (pair_ok h1 (best_mem _ hn.1 hn.2)), fun _ => ?_⟩
          obtain ⟨o1, o2⟩ := best_off (l := l) (ps := pairsL q q.2.2.length) _ hn.1 hn.2
          rw [List.take_length] at o1 o2 ⊢
          unfold worstV; rw [h1, if_pos rfl, if_neg (by omega)]
          exact ⟨rfl, o1.symm, rfl⟩
  refine @Eq.mpr _ _ (?_) key
  kernel_rfl
end Go.Proofs.Ytmjijggkdbiijaa
