/- The law on levels some years later. No statement is proved here. -/
import Derived.Test.YtmjijggkdbiijaaSv
namespace Go.Proofs.Ytmjijggkdbiijaa
open Go.RowKit
set_option linter.unusedVariables false
set_option linter.unusedSimpArgs false
set_option maxRecDepth 100000
set_option maxHeartbeats 4000000
theorem afterV_len (q : Sq) (l r : List Int) (y : Int) : (afterV q l r y).1.length ≤ 60 := by
  unfold afterV
  split
  · rename_i h
    simp only [row_len]
    exact (sinks0 h).few
  · simp
theorem lawLevelsAfter_ev (q : Sq) (l r : List Int) (y : Int) : Ev Try.prog 5 [aQ0 q, aIs l, aIs r, aI y] (compsOf [rB] (true)) := by
  refine ev_of (l := [rB]) (r := (true)) (types (resT) [] (fun _ _ => none)) follows Try.func5 (by kernel_rfl) (by rw [Try.ntmps5]; exact Nat.le_of_ble_eq_true rfl) ?_
  have key : (inR IntKind.i8 q.fst → inR IntKind.i8 q.snd.fst → (q.snd.snd.length ≤ 9223372036854775807 ∧ ∀ (x : Int × Int × Int × Int), List.Mem x q.snd.snd → inR IntKind.i8 x.fst ∧ inR IntKind.i8 x.snd.fst ∧ inR
      IntKind.i8 x.snd.snd.fst ∧ inR IntKind.i8 x.snd.snd.snd) → (l.length ≤ 9223372036854775807 ∧ ∀ (x : Int), List.Mem x l → inR IntKind.i64 x) → (r.length ≤ 9223372036854775807 ∧ ∀ (x : Int), List.Mem x
      r → inR IntKind.i64 x) → inR IntKind.i64 y → ((l.length : Nat) : Int) ≤ 9223372036854775807 → split (decide (1048576 < ((l.length : Nat) : Int))) (true = true) (((r.length : Nat) : Int) ≤
      9223372036854775807 → split (decide (1048576 < ((r.length : Nat) : Int))) (true = true) (inR IntKind.i8 q.fst → inR IntKind.i8 q.snd.fst → (q.snd.snd.length ≤ 9223372036854775807 ∧ ∀ (x : Int × Int ×
      Int × Int), List.Mem x q.snd.snd → inR IntKind.i8 x.fst ∧ inR IntKind.i8 x.snd.fst ∧ inR IntKind.i8 x.snd.snd.fst ∧ inR IntKind.i8 x.snd.snd.snd) → ∃ (r_1 : Int), Ev Try.prog 14 [Arg.imm (D.dat (sqT
      38) q), Arg.imm (D.dat (Ty.int IntKind.i64) 1048576)] (compsOf [(false, Ty.int IntKind.i64)] r_1) ∧ (inR IntKind.i64 r_1 → split (decide (r_1 < 0)) (true = true) (inR IntKind.i8 q.fst → inR
      IntKind.i8 q.snd.fst → (q.snd.snd.length ≤ 9223372036854775807 ∧ ∀ (x : Int × Int × Int × Int), List.Mem x q.snd.snd → inR IntKind.i8 x.fst ∧ inR IntKind.i8 x.snd.fst ∧ inR IntKind.i8 x.snd.snd.fst ∧
      inR IntKind.i8 x.snd.snd.snd) → ∃ (r_2 : Int × Int × List (Int × Int × Int × Int)), Ev Try.prog 16 [Arg.imm (D.dat (sqT 38) q)] (compsOf [(true, (Ty.int IntKind.i8).prod ((Ty.int IntKind.i8).prod
      (Ty.slice 41 ((Ty.int IntKind.i8).prod ((Ty.int IntKind.i8).prod ((Ty.int IntKind.i8).prod (Ty.int IntKind.i8)))))))] r_2) ∧ (inR IntKind.i8 r_2.fst → inR IntKind.i8 r_2.snd.fst → (r_2.snd.snd.length
      ≤ 9223372036854775807 ∧ ∀ (x : Int × Int × Int × Int), List.Mem x r_2.snd.snd → inR IntKind.i8 x.fst ∧ inR IntKind.i8 x.snd.fst ∧ inR IntKind.i8 x.snd.snd.fst ∧ inR IntKind.i8 x.snd.snd.snd) → ∃ (r_3
      : List Int), Ev Try.prog 17 [Arg.imm (D.dat (Ty.slice 2 (Ty.int IntKind.i64)) l)] (compsOf [(true, Ty.slice 2 (Ty.int IntKind.i64))] r_3) ∧ ((r_3.length ≤ 9223372036854775807 ∧ ∀ (x : Int), List.Mem
      x r_3 → inR IntKind.i64 x) → ∃ (r_4 : List Int), Ev Try.prog 17 [Arg.imm (D.dat (Ty.slice 2 (Ty.int IntKind.i64)) r)] (compsOf [(true, Ty.slice 2 (Ty.int IntKind.i64))] r_4) ∧ ((r_4.length ≤
      9223372036854775807 ∧ ∀ (x : Int), List.Mem x r_4 → inR IntKind.i64 x) → ∃ (r_5 : List Int × Int), Ev Try.prog 24 [Arg.imm (D.dat (sqT 41) r_2), Arg.imm (D.dat (Ty.slice 2 (Ty.int IntKind.i64)) r_3),
      Arg.imm (D.dat (Ty.slice 2 (Ty.int IntKind.i64)) r_4), Arg.imm (D.dat (Ty.int IntKind.i64) y)] (compsOf [(true, Ty.slice 2 (Ty.int IntKind.i64)), (false, Ty.int IntKind.i64)] r_5) ∧ ((r_5.fst.length
      ≤ 9223372036854775807 ∧ ∀ (x : Int), List.Mem x r_5.fst → inR IntKind.i64 x) → inR IntKind.i64 r_5.snd → inR IntKind.i8 q.fst → inR IntKind.i8 q.snd.fst → (q.snd.snd.length ≤ 9223372036854775807 ∧ ∀
      (x : Int × Int × Int × Int), List.Mem x q.snd.snd → inR IntKind.i8 x.fst ∧ inR IntKind.i8 x.snd.fst ∧ inR IntKind.i8 x.snd.snd.fst ∧ inR IntKind.i8 x.snd.snd.snd) → ∃ (r_6 : Int × Int × List (Int ×
      Int × Int × Int)), Ev Try.prog 16 [Arg.imm (D.dat (sqT 38) q)] (compsOf [(true, (Ty.int IntKind.i8).prod ((Ty.int IntKind.i8).prod (Ty.slice 41 ((Ty.int IntKind.i8).prod ((Ty.int IntKind.i8).prod
      ((Ty.int IntKind.i8).prod (Ty.int IntKind.i8)))))))] r_6) ∧ (inR IntKind.i8 r_6.fst → inR IntKind.i8 r_6.snd.fst → (r_6.snd.snd.length ≤ 9223372036854775807 ∧ ∀ (x : Int × Int × Int × Int), List.Mem
      x r_6.snd.snd → inR IntKind.i8 x.fst ∧ inR IntKind.i8 x.snd.fst ∧ inR IntKind.i8 x.snd.snd.fst ∧ inR IntKind.i8 x.snd.snd.snd) → ∃ (r_7 : List Int), Ev Try.prog 17 [Arg.imm (D.dat (Ty.slice 2 (Ty.int
      IntKind.i64)) l)] (compsOf [(true, Ty.slice 2 (Ty.int IntKind.i64))] r_7) ∧ ((r_7.length ≤ 9223372036854775807 ∧ ∀ (x : Int), List.Mem x r_7 → inR IntKind.i64 x) → ∃ (r_8 : List Int), Ev Try.prog 17
      [Arg.imm (D.dat (Ty.slice 2 (Ty.int IntKind.i64)) r)] (compsOf [(true, Ty.slice 2 (Ty.int IntKind.i64))] r_8) ∧ ((r_8.length ≤ 9223372036854775807 ∧ ∀ (x : Int), List.Mem x r_8 → inR IntKind.i64 x) →
      inR IntKind.i8 r_6.fst → inR IntKind.i8 r_6.snd.fst → (r_6.snd.snd.length ≤ 9223372036854775807 ∧ ∀ (x : Int × Int × Int × Int), List.Mem x r_6.snd.snd → inR IntKind.i8 x.fst ∧ inR IntKind.i8
      x.snd.fst ∧ inR IntKind.i8 x.snd.snd.fst ∧ inR IntKind.i8 x.snd.snd.snd) → ∃ (r_9 : List Int × Int), Ev Try.prog 25 [Arg.imm (D.dat (sqT 41) r_6), Arg.imm (D.dat (Ty.slice 2 (Ty.int IntKind.i64))
      r_7), Arg.imm (D.dat (Ty.slice 2 (Ty.int IntKind.i64)) r_8), Arg.imm (D.dat (Ty.int IntKind.i64) y)] (compsOf [(true, Ty.slice 2 (Ty.int IntKind.i64)), (false, Ty.int IntKind.i64)] r_9) ∧
      ((r_9.fst.length ≤ 9223372036854775807 ∧ ∀ (x : Int), List.Mem x r_9.fst → inR IntKind.i64 x) → inR IntKind.i64 r_9.snd → ∃ (r_10 : Bool), Ev Try.prog 20 [Arg.imm (D.dat (Ty.slice 2 (Ty.int
      IntKind.i64)) r_9.fst), Arg.imm (D.dat (Ty.slice 2 (Ty.int IntKind.i64)) r_5.fst)] (compsOf [(false, Ty.bool)] r_10) ∧ split (!!r_10) (split (!decide (r_9.snd = r_5.snd)) (false = true) (inR
      IntKind.i8 r_6.fst → inR IntKind.i8 r_6.snd.fst → (r_6.snd.snd.length ≤ 9223372036854775807 ∧ ∀ (x : Int × Int × Int × Int), List.Mem x r_6.snd.snd → inR IntKind.i8 x.fst ∧ inR IntKind.i8 x.snd.fst ∧
      inR IntKind.i8 x.snd.snd.fst ∧ inR IntKind.i8 x.snd.snd.snd) → inR IntKind.i8 q.fst → inR IntKind.i8 q.snd.fst → (q.snd.snd.length ≤ 9223372036854775807 ∧ ∀ (x : Int × Int × Int × Int), List.Mem x
      q.snd.snd → inR IntKind.i8 x.fst ∧ inR IntKind.i8 x.snd.fst ∧ inR IntKind.i8 x.snd.snd.fst ∧ inR IntKind.i8 x.snd.snd.snd) → ∃ (r_11 : Int × Int × List (Int × Int × Int × Int)), Ev Try.prog 16
      [Arg.imm (D.dat (sqT 38) q)] (compsOf [(true, (Ty.int IntKind.i8).prod ((Ty.int IntKind.i8).prod (Ty.slice 41 ((Ty.int IntKind.i8).prod ((Ty.int IntKind.i8).prod ((Ty.int IntKind.i8).prod (Ty.int
      IntKind.i8)))))))] r_11) ∧ (inR IntKind.i8 r_11.fst → inR IntKind.i8 r_11.snd.fst → (r_11.snd.snd.length ≤ 9223372036854775807 ∧ ∀ (x : Int × Int × Int × Int), List.Mem x r_11.snd.snd → inR
      IntKind.i8 x.fst ∧ inR IntKind.i8 x.snd.fst ∧ inR IntKind.i8 x.snd.snd.fst ∧ inR IntKind.i8 x.snd.snd.snd) → ∃ (r_12 : Bool), Ev Try.prog 19 [Arg.imm (D.dat (sqT 41) r_6), Arg.imm (D.dat (sqT 41)
      r_11)] (compsOf [(false, Ty.bool)] r_12) ∧ split (!r_12) (false = true) (∃ (r_13 : List Int), Ev Try.prog 17 [Arg.imm (D.dat (Ty.slice 2 (Ty.int IntKind.i64)) l)] (compsOf [(true, Ty.slice 2 (Ty.int
      IntKind.i64))] r_13) ∧ ((r_13.length ≤ 9223372036854775807 ∧ ∀ (x : Int), List.Mem x r_13 → inR IntKind.i64 x) → ∃ (r_14 : Bool), Ev Try.prog 20 [Arg.imm (D.dat (Ty.slice 2 (Ty.int IntKind.i64))
      r_7), Arg.imm (D.dat (Ty.slice 2 (Ty.int IntKind.i64)) r_13)] (compsOf [(false, Ty.bool)] r_14) ∧ split (!r_14) (false = true) (∃ (r_15 : List Int), Ev Try.prog 17 [Arg.imm (D.dat (Ty.slice 2 (Ty.int
      IntKind.i64)) r)] (compsOf [(true, Ty.slice 2 (Ty.int IntKind.i64))] r_15) ∧ ((r_15.length ≤ 9223372036854775807 ∧ ∀ (x : Int), List.Mem x r_15 → inR IntKind.i64 x) → ∃ (r_16 : Bool), Ev Try.prog 20
      [Arg.imm (D.dat (Ty.slice 2 (Ty.int IntKind.i64)) r_8), Arg.imm (D.dat (Ty.slice 2 (Ty.int IntKind.i64)) r_15)] (compsOf [(false, Ty.bool)] r_16) ∧ split (!r_16) (false = true) (inR IntKind.i8
      r_6.fst → inR IntKind.i8 r_6.snd.fst → (r_6.snd.snd.length ≤ 9223372036854775807 ∧ ∀ (x : Int × Int × Int × Int), List.Mem x r_6.snd.snd → inR IntKind.i8 x.fst ∧ inR IntKind.i8 x.snd.fst ∧ inR
      IntKind.i8 x.snd.snd.fst ∧ inR IntKind.i8 x.snd.snd.snd) → ∃ (r_17 : Int), ∃ (y_1 : Int × Int × List (Int × Int × Int × Int)), EvB Try.prog 26 ((Ty.int IntKind.i8).prod ((Ty.int IntKind.i8).prod
      (Ty.slice 41 ((Ty.int IntKind.i8).prod ((Ty.int IntKind.i8).prod ((Ty.int IntKind.i8).prod (Ty.int IntKind.i8))))))) r_6 [Arg.imm (D.dat (Ty.int IntKind.i64) 1)] (compsOf [(false, Ty.int
      IntKind.i64)] r_17) y_1 ∧ (inR IntKind.i64 r_17 → inR IntKind.i8 y_1.fst → inR IntKind.i8 y_1.snd.fst → (y_1.snd.snd.length ≤ 9223372036854775807 ∧ ∀ (x : Int × Int × Int × Int), List.Mem x
      y_1.snd.snd → inR IntKind.i8 x.fst ∧ inR IntKind.i8 x.snd.fst ∧ inR IntKind.i8 x.snd.snd.fst ∧ inR IntKind.i8 x.snd.snd.snd) → ∃ (r_18 : Int), ∃ (y_2 : List Int), EvB Try.prog 27 (Ty.slice 2 (Ty.int
      IntKind.i64)) r_7 [Arg.imm (D.dat (Ty.int IntKind.i64) r_17)] (compsOf [(false, Ty.int IntKind.i64)] r_18) y_2 ∧ (inR IntKind.i64 r_18 → (y_2.length ≤ 9223372036854775807 ∧ ∀ (x : Int), List.Mem x
      y_2 → inR IntKind.i64 x) → ∃ (r_19 : Int), ∃ (y_3 : List Int), EvB Try.prog 27 (Ty.slice 2 (Ty.int IntKind.i64)) r_8 [Arg.imm (D.dat (Ty.int IntKind.i64) r_18)] (compsOf [(false, Ty.int IntKind.i64)]
      r_19) y_3 ∧ (inR IntKind.i64 r_19 → (y_3.length ≤ 9223372036854775807 ∧ ∀ (x : Int), List.Mem x y_3 → inR IntKind.i64 x) → split (!decide (r_19 < 0)) (∃ (r_20 : Bool), Ev Try.prog 20 [Arg.imm (D.dat
      (Ty.slice 2 (Ty.int IntKind.i64)) r_9.fst), Arg.imm (D.dat (Ty.slice 2 (Ty.int IntKind.i64)) r_5.fst)] (compsOf [(false, Ty.bool)] r_20) ∧ split (!!r_20) (split (!decide (r_9.snd = r_5.snd)) (false =
      true) (∃ (r_21 : Int), ∃ (y_4 : List Int), EvB Try.prog 27 (Ty.slice 2 (Ty.int IntKind.i64)) r_9.fst [Arg.imm (D.dat (Ty.int IntKind.i64) 1)] (compsOf [(false, Ty.int IntKind.i64)] r_21) y_4 ∧ (inR
      IntKind.i64 r_21 → (y_4.length ≤ 9223372036854775807 ∧ ∀ (x : Int), List.Mem x y_4 → inR IntKind.i64 x) → ∃ (r_22 : Int), Ev Try.prog 28 [Arg.imm (D.dat (Ty.slice 2 (Ty.int IntKind.i64)) y_4),
      Arg.imm (D.dat (Ty.int IntKind.i64) 1)] (compsOf [(false, Ty.int IntKind.i64)] r_22) ∧ (inR IntKind.i64 r_22 → split (decide (r_22 < 0)) (false = true) (split (!decide (r_22 = r_21)) (false = true)
      (inR IntKind.i8 q.fst → inR IntKind.i8 q.snd.fst → (q.snd.snd.length ≤ 9223372036854775807 ∧ ∀ (x : Int × Int × Int × Int), List.Mem x q.snd.snd → inR IntKind.i8 x.fst ∧ inR IntKind.i8 x.snd.fst ∧
      inR IntKind.i8 x.snd.snd.fst ∧ inR IntKind.i8 x.snd.snd.snd) → ∃ (r_23 : Int × Int × List (Int × Int × Int × Int)), Ev Try.prog 16 [Arg.imm (D.dat (sqT 38) q)] (compsOf [(true, (Ty.int
      IntKind.i8).prod ((Ty.int IntKind.i8).prod (Ty.slice 41 ((Ty.int IntKind.i8).prod ((Ty.int IntKind.i8).prod ((Ty.int IntKind.i8).prod (Ty.int IntKind.i8)))))))] r_23) ∧ (inR IntKind.i8 r_23.fst → inR
      IntKind.i8 r_23.snd.fst → (r_23.snd.snd.length ≤ 9223372036854775807 ∧ ∀ (x : Int × Int × Int × Int), List.Mem x r_23.snd.snd → inR IntKind.i8 x.fst ∧ inR IntKind.i8 x.snd.fst ∧ inR IntKind.i8
      x.snd.snd.fst ∧ inR IntKind.i8 x.snd.snd.snd) → ∃ (r_24 : List Int), Ev Try.prog 17 [Arg.imm (D.dat (Ty.slice 2 (Ty.int IntKind.i64)) l)] (compsOf [(true, Ty.slice 2 (Ty.int IntKind.i64))] r_24) ∧
      ((r_24.length ≤ 9223372036854775807 ∧ ∀ (x : Int), List.Mem x r_24 → inR IntKind.i64 x) → ∃ (r_25 : List Int), Ev Try.prog 17 [Arg.imm (D.dat (Ty.slice 2 (Ty.int IntKind.i64)) r)] (compsOf [(true,
      Ty.slice 2 (Ty.int IntKind.i64))] r_25) ∧ ((r_25.length ≤ 9223372036854775807 ∧ ∀ (x : Int), List.Mem x r_25 → inR IntKind.i64 x) → ∃ (r : List Int × Int), Ev Try.prog 25 [Arg.imm (D.dat (sqT 41)
      r_23), Arg.imm (D.dat (Ty.slice 2 (Ty.int IntKind.i64)) r_24), Arg.imm (D.dat (Ty.slice 2 (Ty.int IntKind.i64)) r_25), Arg.imm (D.dat (Ty.int IntKind.i64) y)] (compsOf [(true, Ty.slice 2 (Ty.int
      IntKind.i64)), (false, Ty.int IntKind.i64)] r) ∧ ((r.fst.length ≤ 9223372036854775807 ∧ ∀ (x : Int), List.Mem x r.fst → inR IntKind.i64 x) → inR IntKind.i64 r.snd → ∃ (r_26 : Bool), Ev Try.prog 20
      [Arg.imm (D.dat (Ty.slice 2 (Ty.int IntKind.i64)) r.fst), Arg.imm (D.dat (Ty.slice 2 (Ty.int IntKind.i64)) r_5.fst)] (compsOf [(false, Ty.bool)] r_26) ∧ split (!!r_26) (split (!decide (r.snd =
      r_5.snd)) (false = true) (∃ (r : Int), Ev Try.prog 28 [Arg.imm (D.dat (Ty.slice 2 (Ty.int IntKind.i64)) y_4), Arg.imm (D.dat (Ty.int IntKind.i64) 1)] (compsOf [(false, Ty.int IntKind.i64)] r) ∧ (inR
      IntKind.i64 r → split (decide (r < 0)) (false = true) (split (!decide (r = r_21)) (false = true) (true = true))))) (false = true))))))))))) (false = true)) (false = true)))))))))))) (false =
      true)))))))))))))) := by
    intros
    refine split_of (fun _ => rfl) (fun h1 => ?_)
    intros
    refine split_of (fun _ => rfl) (fun h2 => ?_)
    intros
    refine ⟨_, szSquare_ev q, fun _ => split_of (fun _ => rfl) (fun h => ?_)⟩
    have hl := sz_pos (of_decide_eq_false h)
    have h1 := of_decide_eq_false h1
    have h2 := of_decide_eq_false h2
    have n1 : l.length ≤ 1048576 := by omega
    have n2 : r.length ≤ 1048576 := by omega
    have hk := afterV_len (toSquareV q) l r y
    intros
    refine ⟨_, toSquare_ev q hl, ?_⟩
    intros
    refine ⟨_, toInts_ev l n1, ?_⟩
    intros
    refine ⟨_, toInts_ev r n2, ?_⟩
    intros
    refine ⟨_, specLevelsAfter_ev _ _ _ _, ?_⟩
    intros
    refine ⟨_, toSquare_ev q hl, ?_⟩
    intros
    refine ⟨_, toInts_ev l n1, ?_⟩
    intros
    refine ⟨_, toInts_ev r n2, ?_⟩
    intros
    refine ⟨_, implLevelsAfter_ev _ _ _ _, ?_⟩
    intros
    refine ⟨_, eqInts_ev _, ?_⟩
    intros
    refine split_of (fun _ => split_of (fun h => by simp at h) (fun _ => ?_)) (fun h => by simp at h)
    intros
    refine ⟨_, toSquare_ev q hl, ?_⟩
    intros
    refine ⟨_, eqSquare_ev _, ?_⟩
    refine split_of (fun h => by simp at h) (fun _ => ?_)
    intros
    refine ⟨_, toInts_ev l n1, ?_⟩
    intros
    refine ⟨_, eqInts_ev _, ?_⟩
    refine split_of (fun h => by simp at h) (fun _ => ?_)
    intros
    refine ⟨_, toInts_ev r n2, ?_⟩
    intros
    refine ⟨_, eqInts_ev _, ?_⟩
    refine split_of (fun h => by simp at h) (fun _ => ?_)
    have hq : (toSquareV q).2.2.length ≤ 1048576 := hl
    intros
    refine ⟨_, _, markSquare_ev _ 1 (by omega) (by omega), ?_⟩
    intros
    refine ⟨_, _, markInts_ev _ _ (by omega) (by omega), ?_⟩
    intros
    refine ⟨_, _, markInts_ev _ _ (by omega) (by omega), ?_⟩
    intros
    refine split_of (fun _ => ?_) (fun h => absurd (of_decide_eq_true (by simpa using h)) (by omega))
    intros
    refine ⟨_, eqInts_ev _, ?_⟩
    refine split_of (fun _ => split_of (fun h => by simp at h) (fun _ => ?_)) (fun h => by simp at h)
    intros
    refine ⟨_, _, markInts_ev _ 1 (by omega) (by omega), ?_⟩
    intros
    refine ⟨_, heldInts_ev _ 1 (by omega) (by omega), ?_⟩
    intros
    refine split_of (fun h => absurd (of_decide_eq_true h) (by omega)) (fun _ => split_of (fun h => by simp at h) (fun _ => ?_))
    intros
    refine ⟨_, toSquare_ev q hl, ?_⟩
    intros
    refine ⟨_, toInts_ev l n1, ?_⟩
    intros
    refine ⟨_, toInts_ev r n2, ?_⟩
    intros
    refine ⟨_, implLevelsAfter_ev _ _ _ _, ?_⟩
    intros
    refine ⟨_, eqInts_ev _, ?_⟩
    refine split_of (fun _ => split_of (fun h => by simp at h) (fun _ => ?_)) (fun h => by simp at h)
    intros
    refine ⟨_, heldInts_ev _ 1 (by omega) (by omega), ?_⟩
    intros
    exact split_of (fun h => absurd (of_decide_eq_true h) (by omega)) (fun _ => split_of (fun h => by simp at h) (fun _ => rfl))
  refine @Eq.mpr _ _ (?_) key
  kernel_rfl
end Go.Proofs.Ytmjijggkdbiijaa
