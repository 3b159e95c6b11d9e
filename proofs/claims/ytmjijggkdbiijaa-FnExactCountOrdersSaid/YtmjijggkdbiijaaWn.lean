/- The law on the count of orders. No statement is proved here. -/
import Derived.Test.YtmjijggkdbiijaaWm
namespace Go.Proofs.Ytmjijggkdbiijaa
open Go.RowKit
set_option linter.unusedVariables false
set_option linter.unusedSimpArgs false
set_option maxRecDepth 100000
set_option maxHeartbeats 4000000
theorem skipA {x y : Int} {X : Prop} (h : X) : split (!!decide (x = x)) (split (!decide (y = y)) (false = true) X) (false = true) := by
  rw [decide_eq_true rfl, decide_eq_true rfl]; exact h
theorem lawCountOrders_ev (q : Sq) (list : List Sl) : Ev Try.prog 10 [aQ0 q, aSs0 list] (compsOf [rB] (true)) := by
  refine ev_of (l := [rB]) (r := (true)) (types (resT) [] (fun _ _ => none)) follows Try.func10 (by kernel_rfl) (by rw [Try.ntmps10]; exact Nat.le_of_ble_eq_true rfl) ?_
  have key : (inR IntKind.i8 q.fst → inR IntKind.i8 q.snd.fst → (q.snd.snd.length ≤ 9223372036854775807 ∧ ∀ (x : Int × Int × Int × Int), List.Mem x q.snd.snd → inR IntKind.i8 x.fst ∧ inR IntKind.i8
      x.snd.fst ∧ inR IntKind.i8 x.snd.snd.fst ∧ inR IntKind.i8 x.snd.snd.snd) → (list.length ≤ 9223372036854775807 ∧ ∀ (x : Int × Int × Int × Int), List.Mem x list → inR IntKind.i8 x.fst ∧ inR
      IntKind.i8 x.snd.fst ∧ inR IntKind.i8 x.snd.snd.fst ∧ inR IntKind.i8 x.snd.snd.snd) → inR IntKind.i8 q.fst → inR IntKind.i8 q.snd.fst → (q.snd.snd.length ≤ 9223372036854775807 ∧ ∀ (x : Int ×
      Int × Int × Int), List.Mem x q.snd.snd → inR IntKind.i8 x.fst ∧ inR IntKind.i8 x.snd.fst ∧ inR IntKind.i8 x.snd.snd.fst ∧ inR IntKind.i8 x.snd.snd.snd) → ∃ (r : Int), Ev Try.prog 14 [Arg.imm
      (D.dat (sqT 38) q), Arg.imm (D.dat (Ty.int IntKind.i64) 1048576)] (compsOf [(false, Ty.int IntKind.i64)] r) ∧ (inR IntKind.i64 r → split (decide (r < 0)) (true = true) (∃ (r_1 : Int), Ev
      Try.prog 43 [Arg.imm (D.dat (Ty.slice 38 slabT) list), Arg.imm (D.dat (Ty.int IntKind.i64) r)] (compsOf [(false, Ty.int IntKind.i64)] r_1) ∧ (inR IntKind.i64 r_1 → split (decide (r_1 < 0))
      (true = true) (inR IntKind.i8 q.fst → inR IntKind.i8 q.snd.fst → (q.snd.snd.length ≤ 9223372036854775807 ∧ ∀ (x : Int × Int × Int × Int), List.Mem x q.snd.snd → inR IntKind.i8 x.fst ∧ inR
      IntKind.i8 x.snd.fst ∧ inR IntKind.i8 x.snd.snd.fst ∧ inR IntKind.i8 x.snd.snd.snd) → ∃ (r : Int × Int × List (Int × Int × Int × Int)), Ev Try.prog 16 [Arg.imm (D.dat (sqT 38) q)] (compsOf
      [(true, (Ty.int IntKind.i8).prod ((Ty.int IntKind.i8).prod (Ty.slice 41 ((Ty.int IntKind.i8).prod ((Ty.int IntKind.i8).prod ((Ty.int IntKind.i8).prod (Ty.int IntKind.i8)))))))] r) ∧ (inR
      IntKind.i8 r.fst → inR IntKind.i8 r.snd.fst → (r.snd.snd.length ≤ 9223372036854775807 ∧ ∀ (x : Int × Int × Int × Int), List.Mem x r.snd.snd → inR IntKind.i8 x.fst ∧ inR IntKind.i8 x.snd.fst ∧
      inR IntKind.i8 x.snd.snd.fst ∧ inR IntKind.i8 x.snd.snd.snd) → ∃ (r_2 : List (Int × Int × Int × Int)), Ev Try.prog 45 [Arg.imm (D.dat (Ty.slice 38 slabT) list)] (compsOf [(true, Ty.slice 41
      ((Ty.int IntKind.i8).prod ((Ty.int IntKind.i8).prod ((Ty.int IntKind.i8).prod (Ty.int IntKind.i8)))))] r_2) ∧ ((r_2.length ≤ 9223372036854775807 ∧ ∀ (x : Int × Int × Int × Int), List.Mem x
      r_2 → inR IntKind.i8 x.fst ∧ inR IntKind.i8 x.snd.fst ∧ inR IntKind.i8 x.snd.snd.fst ∧ inR IntKind.i8 x.snd.snd.snd) → ∃ (r_3 : Int × Int), Ev Try.prog 44 [Arg.imm (D.dat (sqT 41) r), Arg.imm
      (D.dat (Ty.slice 41 slabT) r_2)] (compsOf [(false, Ty.int IntKind.i64), (false, Ty.int IntKind.i64)] r_3) ∧ (inR IntKind.i64 r_3.fst → inR IntKind.i64 r_3.snd → inR IntKind.i8 q.fst → inR
      IntKind.i8 q.snd.fst → (q.snd.snd.length ≤ 9223372036854775807 ∧ ∀ (x : Int × Int × Int × Int), List.Mem x q.snd.snd → inR IntKind.i8 x.fst ∧ inR IntKind.i8 x.snd.fst ∧ inR IntKind.i8
      x.snd.snd.fst ∧ inR IntKind.i8 x.snd.snd.snd) → ∃ (r : Int × Int × List (Int × Int × Int × Int)), Ev Try.prog 16 [Arg.imm (D.dat (sqT 38) q)] (compsOf [(true, (Ty.int IntKind.i8).prod
      ((Ty.int IntKind.i8).prod (Ty.slice 41 ((Ty.int IntKind.i8).prod ((Ty.int IntKind.i8).prod ((Ty.int IntKind.i8).prod (Ty.int IntKind.i8)))))))] r) ∧ (inR IntKind.i8 r.fst → inR IntKind.i8
      r.snd.fst → (r.snd.snd.length ≤ 9223372036854775807 ∧ ∀ (x : Int × Int × Int × Int), List.Mem x r.snd.snd → inR IntKind.i8 x.fst ∧ inR IntKind.i8 x.snd.fst ∧ inR IntKind.i8 x.snd.snd.fst ∧
      inR IntKind.i8 x.snd.snd.snd) → ∃ (r_4 : List (Int × Int × Int × Int)), Ev Try.prog 45 [Arg.imm (D.dat (Ty.slice 38 slabT) list)] (compsOf [(true, Ty.slice 41 ((Ty.int IntKind.i8).prod
      ((Ty.int IntKind.i8).prod ((Ty.int IntKind.i8).prod (Ty.int IntKind.i8)))))] r_4) ∧ ((r_4.length ≤ 9223372036854775807 ∧ ∀ (x : Int × Int × Int × Int), List.Mem x r_4 → inR IntKind.i8 x.fst ∧
      inR IntKind.i8 x.snd.fst ∧ inR IntKind.i8 x.snd.snd.fst ∧ inR IntKind.i8 x.snd.snd.snd) → inR IntKind.i8 r.fst → inR IntKind.i8 r.snd.fst → (r.snd.snd.length ≤ 9223372036854775807 ∧ ∀ (x :
      Int × Int × Int × Int), List.Mem x r.snd.snd → inR IntKind.i8 x.fst ∧ inR IntKind.i8 x.snd.fst ∧ inR IntKind.i8 x.snd.snd.fst ∧ inR IntKind.i8 x.snd.snd.snd) → ∃ (r_5 : Int × Int), Ev
      Try.prog 46 [Arg.imm (D.dat (sqT 41) r), Arg.imm (D.dat (Ty.slice 41 slabT) r_4)] (compsOf [(false, Ty.int IntKind.i64), (false, Ty.int IntKind.i64)] r_5) ∧ (inR IntKind.i64 r_5.fst → inR
      IntKind.i64 r_5.snd → split (!!decide (r_5.fst = r_3.fst)) (split (!decide (r_5.snd = r_3.snd)) (false = true) (inR IntKind.i8 r.fst → inR IntKind.i8 r.snd.fst → (r.snd.snd.length ≤
      9223372036854775807 ∧ ∀ (x : Int × Int × Int × Int), List.Mem x r.snd.snd → inR IntKind.i8 x.fst ∧ inR IntKind.i8 x.snd.fst ∧ inR IntKind.i8 x.snd.snd.fst ∧ inR IntKind.i8 x.snd.snd.snd) →
      inR IntKind.i8 q.fst → inR IntKind.i8 q.snd.fst → (q.snd.snd.length ≤ 9223372036854775807 ∧ ∀ (x : Int × Int × Int × Int), List.Mem x q.snd.snd → inR IntKind.i8 x.fst ∧ inR IntKind.i8
      x.snd.fst ∧ inR IntKind.i8 x.snd.snd.fst ∧ inR IntKind.i8 x.snd.snd.snd) → ∃ (r_6 : Int × Int × List (Int × Int × Int × Int)), Ev Try.prog 16 [Arg.imm (D.dat (sqT 38) q)] (compsOf [(true,
      (Ty.int IntKind.i8).prod ((Ty.int IntKind.i8).prod (Ty.slice 41 ((Ty.int IntKind.i8).prod ((Ty.int IntKind.i8).prod ((Ty.int IntKind.i8).prod (Ty.int IntKind.i8)))))))] r_6) ∧ (inR IntKind.i8
      r_6.fst → inR IntKind.i8 r_6.snd.fst → (r_6.snd.snd.length ≤ 9223372036854775807 ∧ ∀ (x : Int × Int × Int × Int), List.Mem x r_6.snd.snd → inR IntKind.i8 x.fst ∧ inR IntKind.i8 x.snd.fst ∧
      inR IntKind.i8 x.snd.snd.fst ∧ inR IntKind.i8 x.snd.snd.snd) → ∃ (r_7 : Bool), Ev Try.prog 19 [Arg.imm (D.dat (sqT 41) r), Arg.imm (D.dat (sqT 41) r_6)] (compsOf [(false, Ty.bool)] r_7) ∧
      split (!r_7) (false = true) (∃ (r : List (Int × Int × Int × Int)), Ev Try.prog 45 [Arg.imm (D.dat (Ty.slice 38 slabT) list)] (compsOf [(true, Ty.slice 41 ((Ty.int IntKind.i8).prod ((Ty.int
      IntKind.i8).prod ((Ty.int IntKind.i8).prod (Ty.int IntKind.i8)))))] r) ∧ ((r.length ≤ 9223372036854775807 ∧ ∀ (x : Int × Int × Int × Int), List.Mem x r → inR IntKind.i8 x.fst ∧ inR IntKind.i8
      x.snd.fst ∧ inR IntKind.i8 x.snd.snd.fst ∧ inR IntKind.i8 x.snd.snd.snd) → ∃ (r_8 : Bool), Ev Try.prog 47 [Arg.imm (D.dat (Ty.slice 41 slabT) r_4), Arg.imm (D.dat (Ty.slice 41 slabT) r)]
      (compsOf [(false, Ty.bool)] r_8) ∧ split (!r_8) (false = true) (true = true)))))) (false = true)))))))))))) := by
    intros
    refine ⟨_, szSquare_ev q, fun _ => split_of (fun _ => rfl) (fun h => ?_)⟩
    have hl := sz_pos (of_decide_eq_false h)
    have hz : szI q.2.2.length 1048576 = 1048576 - (q.2.2.length : Int) := by unfold szI; split <;> omega
    refine ⟨_, szSlabS_ev list _ (by omega), fun _ => split_of (fun _ => rfl) (fun h2 => ?_)⟩
    have h2 := of_decide_eq_false h2
    have n2 : list.length ≤ 1048576 := by
      rw [hz] at h2
      unfold szI at h2
      split at h2 <;> omega
    intros
    refine ⟨_, toSquare_ev q hl, ?_⟩
    intros
    refine ⟨_, toSlabS_ev list n2, ?_⟩
    intros
    refine ⟨_, specCount_ev _ _, ?_⟩
    intros
    refine ⟨_, toSquare_ev q hl, ?_⟩
    intros
    refine ⟨_, toSlabS_ev list n2, ?_⟩
    intros
    refine ⟨_, implCount_ev _ _, ?_⟩
    intros
    refine skipA ?_
    intros
    refine ⟨_, toSquare_ev q hl, ?_⟩
    intros
    refine ⟨_, eqSquare_ev _, ?_⟩
    refine split_of (fun h => by simp at h) (fun _ => ?_)
    intros
    refine ⟨_, toSlabS_ev list n2, ?_⟩
    intros
    refine ⟨_, eqSlabS_ev _, ?_⟩
    exact split_of (fun h => by simp at h) (fun _ => rfl)
  refine @Eq.mpr _ _ (?_) key
  kernel_rfl
end Go.Proofs.Ytmjijggkdbiijaa
