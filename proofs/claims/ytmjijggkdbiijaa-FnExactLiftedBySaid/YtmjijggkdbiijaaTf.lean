/- The law on slabs that a way lifts. No statement is proved here. -/
import Derived.Test.YtmjijggkdbiijaaTd
namespace Go.Proofs.Ytmjijggkdbiijaa
open Go.RowKit
set_option linter.unusedVariables false
set_option linter.unusedSimpArgs false
set_option maxRecDepth 100000
set_option maxHeartbeats 4000000
theorem liftedV_len (q : Sq) (l : Cl) : (liftedV q l).1.length ≤ 100 := by
  unfold liftedV
  split
  · split
    · split
      · simp
      · split
        · have := liftL_len q l l.length (Nat.le_refl _)
          simp only; omega
        · simp
    · simp
  · simp
theorem skip2 {y : Int} {X : Prop} (h : X) : split (!!true) (split (!decide (y = y)) (false = true) X) (false = true) :=
  split_of (fun _ => split_of (fun h => by simp at h) (fun _ => h)) (fun h => by simp at h)
theorem lawLiftedBy_ev (q : Sq) (l : Cl) : Ev Try.prog 9 [aQ0 q, aL0 l] (compsOf [rB] (true)) := by
  refine ev_of (l := [rB]) (r := (true)) (types (resT) [] (fun _ _ => none)) follows Try.func9 (by kernel_rfl) (by rw [Try.ntmps9]; exact Nat.le_of_ble_eq_true rfl) ?_
  have key : (inR IntKind.i8 q.fst → inR IntKind.i8 q.snd.fst → (q.snd.snd.length ≤ 9223372036854775807 ∧ ∀ (x : Int × Int × Int × Int), List.Mem x q.snd.snd → inR IntKind.i8 x.fst ∧ inR IntKind.i8 x.snd.fst ∧ inR
      IntKind.i8 x.snd.snd.fst ∧ inR IntKind.i8 x.snd.snd.snd) → (List.length l ≤ 9223372036854775807 ∧ ∀ (x : Int × Int), List.Mem x l → inR IntKind.i8 x.fst ∧ inR IntKind.i8 x.snd) → inR IntKind.i8 q.fst
      → inR IntKind.i8 q.snd.fst → (q.snd.snd.length ≤ 9223372036854775807 ∧ ∀ (x : Int × Int × Int × Int), List.Mem x q.snd.snd → inR IntKind.i8 x.fst ∧ inR IntKind.i8 x.snd.fst ∧ inR IntKind.i8
      x.snd.snd.fst ∧ inR IntKind.i8 x.snd.snd.snd) → ∃ (r : Int), Ev Try.prog 14 [Arg.imm (D.dat (sqT 38) q), Arg.imm (D.dat (Ty.int IntKind.i64) 1048576)] (compsOf [(false, Ty.int IntKind.i64)] r) ∧ (inR
      IntKind.i64 r → split (decide (r < 0)) (true = true) (∃ (r_1 : Int), Ev Try.prog 37 [Arg.imm (D.dat (Ty.slice 50 cellT) l), Arg.imm (D.dat (Ty.int IntKind.i64) r)] (compsOf [(false, Ty.int
      IntKind.i64)] r_1) ∧ (inR IntKind.i64 r_1 → split (decide (r_1 < 0)) (true = true) (inR IntKind.i8 q.fst → inR IntKind.i8 q.snd.fst → (q.snd.snd.length ≤ 9223372036854775807 ∧ ∀ (x : Int × Int × Int
      × Int), List.Mem x q.snd.snd → inR IntKind.i8 x.fst ∧ inR IntKind.i8 x.snd.fst ∧ inR IntKind.i8 x.snd.snd.fst ∧ inR IntKind.i8 x.snd.snd.snd) → ∃ (r : Int × Int × List (Int × Int × Int × Int)), Ev
      Try.prog 16 [Arg.imm (D.dat (sqT 38) q)] (compsOf [(true, (Ty.int IntKind.i8).prod ((Ty.int IntKind.i8).prod (Ty.slice 41 ((Ty.int IntKind.i8).prod ((Ty.int IntKind.i8).prod ((Ty.int IntKind.i8).prod
      (Ty.int IntKind.i8)))))))] r) ∧ (inR IntKind.i8 r.fst → inR IntKind.i8 r.snd.fst → (r.snd.snd.length ≤ 9223372036854775807 ∧ ∀ (x : Int × Int × Int × Int), List.Mem x r.snd.snd → inR IntKind.i8 x.fst
      ∧ inR IntKind.i8 x.snd.fst ∧ inR IntKind.i8 x.snd.snd.fst ∧ inR IntKind.i8 x.snd.snd.snd) → ∃ (r_2 : List (Int × Int)), Ev Try.prog 39 [Arg.imm (D.dat (Ty.slice 50 cellT) l)] (compsOf [(true,
      Ty.slice 52 ((Ty.int IntKind.i8).prod (Ty.int IntKind.i8)))] r_2) ∧ ((r_2.length ≤ 9223372036854775807 ∧ ∀ (x : Int × Int), List.Mem x r_2 → inR IntKind.i8 x.fst ∧ inR IntKind.i8 x.snd) → ∃ (r_3 :
      List Int × Int), Ev Try.prog 38 [Arg.imm (D.dat (sqT 41) r), Arg.imm (D.dat (Ty.slice 52 cellT) r_2)] (compsOf [(true, Ty.slice 2 (Ty.int IntKind.i64)), (false, Ty.int IntKind.i64)] r_3) ∧
      ((r_3.fst.length ≤ 9223372036854775807 ∧ ∀ (x : Int), List.Mem x r_3.fst → inR IntKind.i64 x) → inR IntKind.i64 r_3.snd → inR IntKind.i8 q.fst → inR IntKind.i8 q.snd.fst → (q.snd.snd.length ≤
      9223372036854775807 ∧ ∀ (x : Int × Int × Int × Int), List.Mem x q.snd.snd → inR IntKind.i8 x.fst ∧ inR IntKind.i8 x.snd.fst ∧ inR IntKind.i8 x.snd.snd.fst ∧ inR IntKind.i8 x.snd.snd.snd) → ∃ (r : Int
      × Int × List (Int × Int × Int × Int)), Ev Try.prog 16 [Arg.imm (D.dat (sqT 38) q)] (compsOf [(true, (Ty.int IntKind.i8).prod ((Ty.int IntKind.i8).prod (Ty.slice 41 ((Ty.int IntKind.i8).prod ((Ty.int
      IntKind.i8).prod ((Ty.int IntKind.i8).prod (Ty.int IntKind.i8)))))))] r) ∧ (inR IntKind.i8 r.fst → inR IntKind.i8 r.snd.fst → (r.snd.snd.length ≤ 9223372036854775807 ∧ ∀ (x : Int × Int × Int × Int),
      List.Mem x r.snd.snd → inR IntKind.i8 x.fst ∧ inR IntKind.i8 x.snd.fst ∧ inR IntKind.i8 x.snd.snd.fst ∧ inR IntKind.i8 x.snd.snd.snd) → ∃ (r_4 : List (Int × Int)), Ev Try.prog 39 [Arg.imm (D.dat
      (Ty.slice 50 cellT) l)] (compsOf [(true, Ty.slice 52 ((Ty.int IntKind.i8).prod (Ty.int IntKind.i8)))] r_4) ∧ ((r_4.length ≤ 9223372036854775807 ∧ ∀ (x : Int × Int), List.Mem x r_4 → inR IntKind.i8
      x.fst ∧ inR IntKind.i8 x.snd) → inR IntKind.i8 r.fst → inR IntKind.i8 r.snd.fst → (r.snd.snd.length ≤ 9223372036854775807 ∧ ∀ (x : Int × Int × Int × Int), List.Mem x r.snd.snd → inR IntKind.i8 x.fst
      ∧ inR IntKind.i8 x.snd.fst ∧ inR IntKind.i8 x.snd.snd.fst ∧ inR IntKind.i8 x.snd.snd.snd) → ∃ (r_5 : List Int × Int), Ev Try.prog 40 [Arg.imm (D.dat (sqT 41) r), Arg.imm (D.dat (Ty.slice 52 cellT)
      r_4)] (compsOf [(true, Ty.slice 2 (Ty.int IntKind.i64)), (false, Ty.int IntKind.i64)] r_5) ∧ ((r_5.fst.length ≤ 9223372036854775807 ∧ ∀ (x : Int), List.Mem x r_5.fst → inR IntKind.i64 x) → inR
      IntKind.i64 r_5.snd → ∃ (r_6 : Bool), Ev Try.prog 20 [Arg.imm (D.dat (Ty.slice 2 (Ty.int IntKind.i64)) r_5.fst), Arg.imm (D.dat (Ty.slice 2 (Ty.int IntKind.i64)) r_3.fst)] (compsOf [(false, Ty.bool)]
      r_6) ∧ split (!!r_6) (split (!decide (r_5.snd = r_3.snd)) (false = true) (inR IntKind.i8 r.fst → inR IntKind.i8 r.snd.fst → (r.snd.snd.length ≤ 9223372036854775807 ∧ ∀ (x : Int × Int × Int × Int),
      List.Mem x r.snd.snd → inR IntKind.i8 x.fst ∧ inR IntKind.i8 x.snd.fst ∧ inR IntKind.i8 x.snd.snd.fst ∧ inR IntKind.i8 x.snd.snd.snd) → inR IntKind.i8 q.fst → inR IntKind.i8 q.snd.fst →
      (q.snd.snd.length ≤ 9223372036854775807 ∧ ∀ (x : Int × Int × Int × Int), List.Mem x q.snd.snd → inR IntKind.i8 x.fst ∧ inR IntKind.i8 x.snd.fst ∧ inR IntKind.i8 x.snd.snd.fst ∧ inR IntKind.i8
      x.snd.snd.snd) → ∃ (r_7 : Int × Int × List (Int × Int × Int × Int)), Ev Try.prog 16 [Arg.imm (D.dat (sqT 38) q)] (compsOf [(true, (Ty.int IntKind.i8).prod ((Ty.int IntKind.i8).prod (Ty.slice 41
      ((Ty.int IntKind.i8).prod ((Ty.int IntKind.i8).prod ((Ty.int IntKind.i8).prod (Ty.int IntKind.i8)))))))] r_7) ∧ (inR IntKind.i8 r_7.fst → inR IntKind.i8 r_7.snd.fst → (r_7.snd.snd.length ≤
      9223372036854775807 ∧ ∀ (x : Int × Int × Int × Int), List.Mem x r_7.snd.snd → inR IntKind.i8 x.fst ∧ inR IntKind.i8 x.snd.fst ∧ inR IntKind.i8 x.snd.snd.fst ∧ inR IntKind.i8 x.snd.snd.snd) → ∃ (r_8 :
      Bool), Ev Try.prog 19 [Arg.imm (D.dat (sqT 41) r), Arg.imm (D.dat (sqT 41) r_7)] (compsOf [(false, Ty.bool)] r_8) ∧ split (!r_8) (false = true) (∃ (r_9 : List (Int × Int)), Ev Try.prog 39 [Arg.imm
      (D.dat (Ty.slice 50 cellT) l)] (compsOf [(true, Ty.slice 52 ((Ty.int IntKind.i8).prod (Ty.int IntKind.i8)))] r_9) ∧ ((r_9.length ≤ 9223372036854775807 ∧ ∀ (x : Int × Int), List.Mem x r_9 → inR
      IntKind.i8 x.fst ∧ inR IntKind.i8 x.snd) → ∃ (r_10 : Bool), Ev Try.prog 41 [Arg.imm (D.dat (Ty.slice 52 cellT) r_4), Arg.imm (D.dat (Ty.slice 52 cellT) r_9)] (compsOf [(false, Ty.bool)] r_10) ∧ split
      (!r_10) (false = true) (inR IntKind.i8 r.fst → inR IntKind.i8 r.snd.fst → (r.snd.snd.length ≤ 9223372036854775807 ∧ ∀ (x : Int × Int × Int × Int), List.Mem x r.snd.snd → inR IntKind.i8 x.fst ∧ inR
      IntKind.i8 x.snd.fst ∧ inR IntKind.i8 x.snd.snd.fst ∧ inR IntKind.i8 x.snd.snd.snd) → ∃ (r_11 : Int), ∃ (y : Int × Int × List (Int × Int × Int × Int)), EvB Try.prog 26 ((Ty.int IntKind.i8).prod
      ((Ty.int IntKind.i8).prod (Ty.slice 41 ((Ty.int IntKind.i8).prod ((Ty.int IntKind.i8).prod ((Ty.int IntKind.i8).prod (Ty.int IntKind.i8))))))) r [Arg.imm (D.dat (Ty.int IntKind.i64) 1)] (compsOf
      [(false, Ty.int IntKind.i64)] r_11) y ∧ (inR IntKind.i64 r_11 → inR IntKind.i8 y.fst → inR IntKind.i8 y.snd.fst → (y.snd.snd.length ≤ 9223372036854775807 ∧ ∀ (x : Int × Int × Int × Int), List.Mem x
      y.snd.snd → inR IntKind.i8 x.fst ∧ inR IntKind.i8 x.snd.fst ∧ inR IntKind.i8 x.snd.snd.fst ∧ inR IntKind.i8 x.snd.snd.snd) → ∃ (r : Int), ∃ (y : List (Int × Int)), EvB Try.prog 42 (Ty.slice 52
      ((Ty.int IntKind.i8).prod (Ty.int IntKind.i8))) r_4 [Arg.imm (D.dat (Ty.int IntKind.i64) r_11)] (compsOf [(false, Ty.int IntKind.i64)] r) y ∧ (inR IntKind.i64 r → (y.length ≤ 9223372036854775807 ∧ ∀
      (x : Int × Int), List.Mem x y → inR IntKind.i8 x.fst ∧ inR IntKind.i8 x.snd) → split (!decide (r < 0)) (∃ (r : Bool), Ev Try.prog 20 [Arg.imm (D.dat (Ty.slice 2 (Ty.int IntKind.i64)) r_5.fst),
      Arg.imm (D.dat (Ty.slice 2 (Ty.int IntKind.i64)) r_3.fst)] (compsOf [(false, Ty.bool)] r) ∧ split (!!r) (split (!decide (r_5.snd = r_3.snd)) (false = true) (∃ (r : Int), ∃ (y : List Int), EvB
      Try.prog 27 (Ty.slice 2 (Ty.int IntKind.i64)) r_5.fst [Arg.imm (D.dat (Ty.int IntKind.i64) 1)] (compsOf [(false, Ty.int IntKind.i64)] r) y ∧ (inR IntKind.i64 r → (y.length ≤ 9223372036854775807 ∧ ∀
      (x : Int), List.Mem x y → inR IntKind.i64 x) → ∃ (r_12 : Int), Ev Try.prog 28 [Arg.imm (D.dat (Ty.slice 2 (Ty.int IntKind.i64)) y), Arg.imm (D.dat (Ty.int IntKind.i64) 1)] (compsOf [(false, Ty.int
      IntKind.i64)] r_12) ∧ (inR IntKind.i64 r_12 → split (decide (r_12 < 0)) (false = true) (split (!decide (r_12 = r)) (false = true) (inR IntKind.i8 q.fst → inR IntKind.i8 q.snd.fst → (q.snd.snd.length
      ≤ 9223372036854775807 ∧ ∀ (x : Int × Int × Int × Int), List.Mem x q.snd.snd → inR IntKind.i8 x.fst ∧ inR IntKind.i8 x.snd.fst ∧ inR IntKind.i8 x.snd.snd.fst ∧ inR IntKind.i8 x.snd.snd.snd) → ∃ (r_13
      : Int × Int × List (Int × Int × Int × Int)), Ev Try.prog 16 [Arg.imm (D.dat (sqT 38) q)] (compsOf [(true, (Ty.int IntKind.i8).prod ((Ty.int IntKind.i8).prod (Ty.slice 41 ((Ty.int IntKind.i8).prod
      ((Ty.int IntKind.i8).prod ((Ty.int IntKind.i8).prod (Ty.int IntKind.i8)))))))] r_13) ∧ (inR IntKind.i8 r_13.fst → inR IntKind.i8 r_13.snd.fst → (r_13.snd.snd.length ≤ 9223372036854775807 ∧ ∀ (x : Int
      × Int × Int × Int), List.Mem x r_13.snd.snd → inR IntKind.i8 x.fst ∧ inR IntKind.i8 x.snd.fst ∧ inR IntKind.i8 x.snd.snd.fst ∧ inR IntKind.i8 x.snd.snd.snd) → ∃ (r_14 : List (Int × Int)), Ev Try.prog
      39 [Arg.imm (D.dat (Ty.slice 50 cellT) l)] (compsOf [(true, Ty.slice 52 ((Ty.int IntKind.i8).prod (Ty.int IntKind.i8)))] r_14) ∧ ((r_14.length ≤ 9223372036854775807 ∧ ∀ (x : Int × Int), List.Mem x
      r_14 → inR IntKind.i8 x.fst ∧ inR IntKind.i8 x.snd) → ∃ (r_15 : List Int × Int), Ev Try.prog 40 [Arg.imm (D.dat (sqT 41) r_13), Arg.imm (D.dat (Ty.slice 52 cellT) r_14)] (compsOf [(true, Ty.slice 2
      (Ty.int IntKind.i64)), (false, Ty.int IntKind.i64)] r_15) ∧ ((r_15.fst.length ≤ 9223372036854775807 ∧ ∀ (x : Int), List.Mem x r_15.fst → inR IntKind.i64 x) → inR IntKind.i64 r_15.snd → ∃ (r_16 :
      Bool), Ev Try.prog 20 [Arg.imm (D.dat (Ty.slice 2 (Ty.int IntKind.i64)) r_15.fst), Arg.imm (D.dat (Ty.slice 2 (Ty.int IntKind.i64)) r_3.fst)] (compsOf [(false, Ty.bool)] r_16) ∧ split (!!r_16) (split
      (!decide (r_15.snd = r_3.snd)) (false = true) (∃ (r_17 : Int), Ev Try.prog 28 [Arg.imm (D.dat (Ty.slice 2 (Ty.int IntKind.i64)) y), Arg.imm (D.dat (Ty.int IntKind.i64) 1)] (compsOf [(false, Ty.int
      IntKind.i64)] r_17) ∧ (inR IntKind.i64 r_17 → split (decide (r_17 < 0)) (false = true) (split (!decide (r_17 = r)) (false = true) (true = true))))) (false = true)))))))))) (false = true)) (false =
      true))))))))) (false = true)))))))))))) := by
    intros
    refine ⟨_, szSquare_ev q, fun _ => split_of (fun _ => rfl) (fun h => ?_)⟩
    have hl := sz_pos (of_decide_eq_false h)
    have hz : szI q.2.2.length 1048576 = 1048576 - (q.2.2.length : Int) := by unfold szI; split <;> omega
    refine ⟨_, szCellS_ev l _ (by omega), fun _ => split_of (fun _ => rfl) (fun h1 => ?_)⟩
    have h1 := of_decide_eq_false h1
    have n1 : l.length ≤ 1048576 := by
      rw [hz] at h1
      unfold szI at h1
      split at h1 <;> omega
    have hk := liftedV_len (toSquareV q) l
    intros
    refine ⟨_, toSquare_ev q hl, ?_⟩
    intros
    refine ⟨_, toCellS_ev l n1, ?_⟩
    intros
    refine ⟨_, specLifted_ev _ _, ?_⟩
    intros
    refine ⟨_, toSquare_ev q hl, ?_⟩
    intros
    refine ⟨_, toCellS_ev l n1, ?_⟩
    intros
    refine ⟨_, implLifted_ev _ _, ?_⟩
    intros
    refine ⟨_, eqInts_ev _, ?_⟩
    refine skip2 ?_
    intros
    refine ⟨_, toSquare_ev q hl, ?_⟩
    intros
    refine ⟨_, eqSquare_ev _, ?_⟩
    refine split_of (fun h => by simp at h) (fun _ => ?_)
    intros
    refine ⟨_, toCellS_ev l n1, ?_⟩
    intros
    refine ⟨_, eqCellS_ev _, ?_⟩
    refine split_of (fun h => by simp at h) (fun _ => ?_)
    have hq : (toSquareV q).2.2.length ≤ 1048576 := hl
    intros
    refine ⟨_, _, markSquare_ev _ 1 (by omega) (by omega), ?_⟩
    intros
    refine ⟨_, _, markCells_ev _ _ (by omega) (by omega), ?_⟩
    intros
    refine split_of (fun _ => ?_) (fun h => absurd (of_decide_eq_true (by simpa using h)) (by omega))
    intros
    refine ⟨_, eqInts_ev _, ?_⟩
    refine skip2 ?_
    intros
    refine ⟨_, _, markInts_ev _ 1 (by omega) (by omega), ?_⟩
    intros
    refine ⟨_, heldInts_ev _ 1 (by omega) (by omega), ?_⟩
    intros
    refine split_of (fun h => absurd (of_decide_eq_true h) (by omega)) (fun _ => split_of (fun h => by simp at h) (fun _ => ?_))
    intros
    refine ⟨_, toSquare_ev q hl, ?_⟩
    intros
    refine ⟨_, toCellS_ev l n1, ?_⟩
    intros
    refine ⟨_, implLifted_ev _ _, ?_⟩
    intros
    refine ⟨_, eqInts_ev _, ?_⟩
    refine skip2 ?_
    intros
    refine ⟨_, heldInts_ev _ 1 (by omega) (by omega), ?_⟩
    intros
    exact split_of (fun h => absurd (of_decide_eq_true h) (by omega)) (fun _ => split_of (fun h => by simp at h) (fun _ => rfl))
  refine @Eq.mpr _ _ (?_) key
  kernel_rfl
end Go.Proofs.Ytmjijggkdbiijaa
