/- The law on the fewest loads. No statement is proved here. -/
import Derived.Test.YtjicolekkojonaaMf
namespace Go.Proofs.Ytjicolekkojonaa
open Go.RowKit
set_option linter.unusedVariables false
set_option linter.unusedSimpArgs false
set_option maxRecDepth 100000
set_option maxHeartbeats 4000000
theorem fewV_len (l : List Sl) (h : Int) : (fewV l h).1.length ≤ 10 := by
  unfold fewV
  split
  · rename_i e
    have k := loadOk e
    have hf := k.few
    cases q : fit h (fewN (wts l) h) (wts l) [] [] with
    | none => simp
    | some o =>
      have := fit_len q
      simp only [wts, List.length_map, List.length_nil] at this
      simp only [Option.getD_some]; omega
  · simp
theorem skip3 {x y : Int} {X : Prop} (h : X) : split (!!true) (split (!!decide (x = x)) (split (!decide (y = y)) (false = true) X) (false = true)) (false = true) :=
  split_of (fun _ => split_of (fun _ => split_of (fun h => by simp at h) (fun _ => h)) (fun h => by simp at h)) (fun h => by simp at h)
theorem lawFewestLoads_ev (l : List Sl) (h : Int) : Ev Try.prog 3 [aSs0 l, aI h] (compsOf [rB] (true)) := by
  refine ev_of (l := [rB]) (r := (true)) (types (resT) [] (fun _ _ => none)) follows Try.func3 (by kernel_rfl) (by rw [Try.ntmps3]; exact Nat.le_of_ble_eq_true rfl) ?_
  have key : ((l.length ≤ 9223372036854775807 ∧ ∀ (x : Int × Int × Int × Int), List.Mem x l → inR IntKind.i8 x.fst ∧ inR IntKind.i8 x.snd.fst ∧ inR IntKind.i8 x.snd.snd.fst ∧ inR IntKind.i8 x.snd.snd.snd) → inR
      IntKind.i64 h → ∃ (r : Int), Ev Try.prog 7 [Arg.imm (D.dat (Ty.slice 48 slabT) l), Arg.imm (D.dat (Ty.int IntKind.i64) 1048576)] (compsOf [(false, Ty.int IntKind.i64)] r) ∧ (inR IntKind.i64 r → split
      (decide (r < 0)) (true = true) (∃ (r : List (Int × Int × Int × Int)), Ev Try.prog 9 [Arg.imm (D.dat (Ty.slice 48 slabT) l)] (compsOf [(true, Ty.slice 46 ((Ty.int IntKind.i8).prod ((Ty.int
      IntKind.i8).prod ((Ty.int IntKind.i8).prod (Ty.int IntKind.i8)))))] r) ∧ ((r.length ≤ 9223372036854775807 ∧ ∀ (x : Int × Int × Int × Int), List.Mem x r → inR IntKind.i8 x.fst ∧ inR IntKind.i8
      x.snd.fst ∧ inR IntKind.i8 x.snd.snd.fst ∧ inR IntKind.i8 x.snd.snd.snd) → ∃ (r_1 : List Int × Int × Int), Ev Try.prog 8 [Arg.imm (D.dat (Ty.slice 46 slabT) r), Arg.imm (D.dat (Ty.int IntKind.i64)
      h)] (compsOf [(true, Ty.slice 2 (Ty.int IntKind.i64)), (false, Ty.int IntKind.i64), (false, Ty.int IntKind.i64)] r_1) ∧ ((r_1.fst.length ≤ 9223372036854775807 ∧ ∀ (x : Int), List.Mem x r_1.fst → inR
      IntKind.i64 x) → inR IntKind.i64 r_1.snd.fst → inR IntKind.i64 r_1.snd.snd → ∃ (r : List (Int × Int × Int × Int)), Ev Try.prog 9 [Arg.imm (D.dat (Ty.slice 48 slabT) l)] (compsOf [(true, Ty.slice 46
      ((Ty.int IntKind.i8).prod ((Ty.int IntKind.i8).prod ((Ty.int IntKind.i8).prod (Ty.int IntKind.i8)))))] r) ∧ ((r.length ≤ 9223372036854775807 ∧ ∀ (x : Int × Int × Int × Int), List.Mem x r → inR
      IntKind.i8 x.fst ∧ inR IntKind.i8 x.snd.fst ∧ inR IntKind.i8 x.snd.snd.fst ∧ inR IntKind.i8 x.snd.snd.snd) → ∃ (r_2 : List Int × Int × Int), Ev Try.prog 10 [Arg.imm (D.dat (Ty.slice 46 slabT) r),
      Arg.imm (D.dat (Ty.int IntKind.i64) h)] (compsOf [(true, Ty.slice 2 (Ty.int IntKind.i64)), (false, Ty.int IntKind.i64), (false, Ty.int IntKind.i64)] r_2) ∧ ((r_2.fst.length ≤ 9223372036854775807 ∧ ∀
      (x : Int), List.Mem x r_2.fst → inR IntKind.i64 x) → inR IntKind.i64 r_2.snd.fst → inR IntKind.i64 r_2.snd.snd → ∃ (r_3 : Bool), Ev Try.prog 11 [Arg.imm (D.dat (Ty.slice 2 (Ty.int IntKind.i64))
      r_2.fst), Arg.imm (D.dat (Ty.slice 2 (Ty.int IntKind.i64)) r_1.fst)] (compsOf [(false, Ty.bool)] r_3) ∧ split (!!r_3) (split (!!decide (r_2.snd.fst = r_1.snd.fst)) (split (!decide (r_2.snd.snd =
      r_1.snd.snd)) (false = true) (∃ (r_4 : List (Int × Int × Int × Int)), Ev Try.prog 9 [Arg.imm (D.dat (Ty.slice 48 slabT) l)] (compsOf [(true, Ty.slice 46 ((Ty.int IntKind.i8).prod ((Ty.int
      IntKind.i8).prod ((Ty.int IntKind.i8).prod (Ty.int IntKind.i8)))))] r_4) ∧ ((r_4.length ≤ 9223372036854775807 ∧ ∀ (x : Int × Int × Int × Int), List.Mem x r_4 → inR IntKind.i8 x.fst ∧ inR IntKind.i8
      x.snd.fst ∧ inR IntKind.i8 x.snd.snd.fst ∧ inR IntKind.i8 x.snd.snd.snd) → ∃ (r_5 : Bool), Ev Try.prog 12 [Arg.imm (D.dat (Ty.slice 46 slabT) r), Arg.imm (D.dat (Ty.slice 46 slabT) r_4)] (compsOf
      [(false, Ty.bool)] r_5) ∧ split (!r_5) (false = true) (∃ (r_6 : Int), ∃ (y : List (Int × Int × Int × Int)), EvB Try.prog 13 (Ty.slice 46 ((Ty.int IntKind.i8).prod ((Ty.int IntKind.i8).prod ((Ty.int
      IntKind.i8).prod (Ty.int IntKind.i8))))) r [Arg.imm (D.dat (Ty.int IntKind.i64) 1)] (compsOf [(false, Ty.int IntKind.i64)] r_6) y ∧ (inR IntKind.i64 r_6 → (y.length ≤ 9223372036854775807 ∧ ∀ (x : Int
      × Int × Int × Int), List.Mem x y → inR IntKind.i8 x.fst ∧ inR IntKind.i8 x.snd.fst ∧ inR IntKind.i8 x.snd.snd.fst ∧ inR IntKind.i8 x.snd.snd.snd) → split (!decide (r_6 < 0)) (∃ (r : Bool), Ev
      Try.prog 11 [Arg.imm (D.dat (Ty.slice 2 (Ty.int IntKind.i64)) r_2.fst), Arg.imm (D.dat (Ty.slice 2 (Ty.int IntKind.i64)) r_1.fst)] (compsOf [(false, Ty.bool)] r) ∧ split (!!r) (split (!!decide
      (r_2.snd.fst = r_1.snd.fst)) (split (!decide (r_2.snd.snd = r_1.snd.snd)) (false = true) (∃ (r : Int), ∃ (y : List Int), EvB Try.prog 14 (Ty.slice 2 (Ty.int IntKind.i64)) r_2.fst [Arg.imm (D.dat
      (Ty.int IntKind.i64) 1)] (compsOf [(false, Ty.int IntKind.i64)] r) y ∧ (inR IntKind.i64 r → (y.length ≤ 9223372036854775807 ∧ ∀ (x : Int), List.Mem x y → inR IntKind.i64 x) → ∃ (r_7 : Int), Ev
      Try.prog 15 [Arg.imm (D.dat (Ty.slice 2 (Ty.int IntKind.i64)) y), Arg.imm (D.dat (Ty.int IntKind.i64) 1)] (compsOf [(false, Ty.int IntKind.i64)] r_7) ∧ (inR IntKind.i64 r_7 → split (decide (r_7 < 0))
      (false = true) (split (!decide (r_7 = r)) (false = true) (∃ (r_8 : List (Int × Int × Int × Int)), Ev Try.prog 9 [Arg.imm (D.dat (Ty.slice 48 slabT) l)] (compsOf [(true, Ty.slice 46 ((Ty.int
      IntKind.i8).prod ((Ty.int IntKind.i8).prod ((Ty.int IntKind.i8).prod (Ty.int IntKind.i8)))))] r_8) ∧ ((r_8.length ≤ 9223372036854775807 ∧ ∀ (x : Int × Int × Int × Int), List.Mem x r_8 → inR
      IntKind.i8 x.fst ∧ inR IntKind.i8 x.snd.fst ∧ inR IntKind.i8 x.snd.snd.fst ∧ inR IntKind.i8 x.snd.snd.snd) → ∃ (r_9 : List Int × Int × Int), Ev Try.prog 10 [Arg.imm (D.dat (Ty.slice 46 slabT) r_8),
      Arg.imm (D.dat (Ty.int IntKind.i64) h)] (compsOf [(true, Ty.slice 2 (Ty.int IntKind.i64)), (false, Ty.int IntKind.i64), (false, Ty.int IntKind.i64)] r_9) ∧ ((r_9.fst.length ≤ 9223372036854775807 ∧ ∀
      (x : Int), List.Mem x r_9.fst → inR IntKind.i64 x) → inR IntKind.i64 r_9.snd.fst → inR IntKind.i64 r_9.snd.snd → ∃ (r_10 : Bool), Ev Try.prog 11 [Arg.imm (D.dat (Ty.slice 2 (Ty.int IntKind.i64))
      r_9.fst), Arg.imm (D.dat (Ty.slice 2 (Ty.int IntKind.i64)) r_1.fst)] (compsOf [(false, Ty.bool)] r_10) ∧ split (!!r_10) (split (!!decide (r_9.snd.fst = r_1.snd.fst)) (split (!decide (r_9.snd.snd =
      r_1.snd.snd)) (false = true) (∃ (r_11 : Int), Ev Try.prog 15 [Arg.imm (D.dat (Ty.slice 2 (Ty.int IntKind.i64)) y), Arg.imm (D.dat (Ty.int IntKind.i64) 1)] (compsOf [(false, Ty.int IntKind.i64)] r_11)
      ∧ (inR IntKind.i64 r_11 → split (decide (r_11 < 0)) (false = true) (split (!decide (r_11 = r)) (false = true) (true = true))))) (false = true)) (false = true))))))))) (false = true)) (false = true))
      (false = true)))))) (false = true)) (false = true)))))))) := by
    intros
    refine ⟨_, szSlabS_ev l _ (by omega), fun _ => split_of (fun _ => rfl) (fun h1 => ?_)⟩
    have hl := sz_pos (of_decide_eq_false h1)
    have hk := fewV_len l h
    intros
    refine ⟨_, toSlabS_ev l hl, ?_⟩
    intros
    refine ⟨_, specFewest_ev _ _, ?_⟩
    intros
    refine ⟨_, toSlabS_ev l hl, ?_⟩
    intros
    refine ⟨_, implFewest_ev _ _ hl, ?_⟩
    intros
    refine ⟨_, eqInts_ev _, ?_⟩
    intros
    refine skip3 ?_
    intros
    refine ⟨_, toSlabS_ev l hl, ?_⟩
    intros
    refine ⟨_, eqSlabS_ev _, ?_⟩
    refine split_of (fun h => by simp at h) (fun _ => ?_)
    intros
    refine ⟨_, _, markSlabs_ev _ 1 (by omega) (by omega), ?_⟩
    intros
    refine split_of (fun _ => ?_) (fun h => absurd (of_decide_eq_true (by simpa using h)) (by omega))
    intros
    refine ⟨_, eqInts_ev _, ?_⟩
    refine skip3 ?_
    intros
    refine ⟨_, _, markInts_ev _ 1 (by omega) (by omega), ?_⟩
    intros
    refine ⟨_, heldInts_ev _ 1 (by omega) (by omega), ?_⟩
    intros
    refine split_of (fun h => absurd (of_decide_eq_true h) (by omega)) (fun _ => split_of (fun h => by simp at h) (fun _ => ?_))
    intros
    refine ⟨_, toSlabS_ev l hl, ?_⟩
    intros
    refine ⟨_, implFewest_ev _ _ hl, ?_⟩
    intros
    refine ⟨_, eqInts_ev _, ?_⟩
    refine skip3 ?_
    intros
    refine ⟨_, heldInts_ev _ 1 (by omega) (by omega), ?_⟩
    intros
    exact split_of (fun h => absurd (of_decide_eq_true h) (by omega)) (fun _ => split_of (fun h => by simp at h) (fun _ => rfl))
  refine @Eq.mpr _ _ (?_) key
  kernel_rfl
end Go.Proofs.Ytjicolekkojonaa
