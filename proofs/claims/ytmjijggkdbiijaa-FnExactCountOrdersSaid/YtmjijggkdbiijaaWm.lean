/- Orders of laying: the reference's count. No statement is proved here. -/
import Derived.Test.YtmjijggkdbiijaaWg
namespace Go.Proofs.Ytmjijggkdbiijaa
open Go.RowKit
set_option linter.unusedVariables false
set_option linter.unusedSimpArgs false
set_option maxRecDepth 100000
set_option maxHeartbeats 4000000
theorem l05Sets_is {q : Sq} {list : List Sl} (k : OkQ q) (hn : list.length ≤ 10) (h60 : q.2.2.length + list.length ≤ 60) : Ev Try.prog 91 [aQp q, aSs list] (compsOf [(true, .slice 2 (.int .i64))] (dpT q list (2 ^ list.length))) :=
  l05Sets_ev q list _ _ _ _ _ rfl rfl rfl rfl rfl k hn h60
theorem specCount_ev (q : Sq) (list : List Sl) : Ev Try.prog 44 [aQ q, aSs list] (compsOf [rI, rI] (cntV q list)) := by
  refine ev_of (l := [rI, rI]) (r := (cntV q list)) (types (resT) [] (fun _ _ => none)) follows Try.func44 (by kernel_rfl) (by rw [Try.ntmps44]; exact Nat.le_of_ble_eq_true rfl) ?_
  have key : (inR IntKind.i8 q.fst → inR IntKind.i8 q.snd.fst → (q.snd.snd.length ≤ 9223372036854775807 ∧ ∀ (x : Int × Int × Int × Int), List.Mem x q.snd.snd → inR IntKind.i8 x.fst ∧ inR IntKind.i8
      x.snd.fst ∧ inR IntKind.i8 x.snd.snd.fst ∧ inR IntKind.i8 x.snd.snd.snd) → (list.length ≤ 9223372036854775807 ∧ ∀ (x : Int × Int × Int × Int), List.Mem x list → inR IntKind.i8 x.fst ∧ inR
      IntKind.i8 x.snd.fst ∧ inR IntKind.i8 x.snd.snd.fst ∧ inR IntKind.i8 x.snd.snd.snd) → ∃ (r : Int), Ev Try.prog 90 [Arg.imm (D.dat (sqT 41) q).ref, Arg.imm (D.dat (Ty.slice 41 slabT) list)]
      (compsOf [(false, Ty.int IntKind.i64)] r) ∧ (inR IntKind.i64 r → split (!decide (r = 0)) (0 = (cntV q list).fst ∧ r = (cntV q list).snd) (∃ (r : List Int), Ev Try.prog 91 [Arg.imm (D.dat (sqT
      41) q).ref, Arg.imm (D.dat (Ty.slice 41 slabT) list)] (compsOf [(true, Ty.slice 2 (Ty.int IntKind.i64))] r) ∧ ((r.length ≤ 9223372036854775807 ∧ ∀ (x : Int), List.Mem x r → inR IntKind.i64 x)
      → ((r.length : Nat) : Int) ≤ 9223372036854775807 → (-9223372036854775808 ≤ ((r.length : Nat) : Int) - 1 ∧ ((r.length : Nat) : Int) - 1 ≤ 9223372036854775807) ∧ (0 ≤ ((r.length : Nat) : Int) -
      1 ∧ ((r.length : Nat) : Int) - 1 < ((r.length : Nat) : Int)) ∧ (inR IntKind.i64 (r.getD (((r.length : Nat) : Int) - 1).toNat 0) → r.getD (((r.length : Nat) : Int) - 1).toNat 0 = (cntV q
      list).fst ∧ 0 = (cntV q list).snd))))) := by
    intros
    refine ⟨_, l05Laid_ev q list, ?_⟩
    intros
    refine split_of (fun h => ?_) (fun h => ?_)
    · have h : layC q list ≠ 0 := by simpa using h
      unfold cntV; rw [if_neg h]; exact ⟨rfl, rfl⟩
    · have h : layC q list = 0 := by simpa using h
      obtain ⟨k, hn, h60⟩ := layC_ok h
      refine ⟨_, l05Sets_is k hn h60, ?_⟩
      have hl : (dpT q list (2 ^ list.length)).length = 2 ^ list.length := (dp_at k h60 _ (Nat.le_refl _)).dp.len
      have hp : 0 < 2 ^ list.length := Nat.pow_pos (by omega)
      have h2 : 2 ^ list.length ≤ 1024 := Nat.le_trans (Nat.pow_le_pow_right (by omega) hn) (by decide : 2 ^ 10 ≤ 1024)
      rw [hl]
      intros
      refine ⟨by omega, by omega, fun _ => ?_⟩
      rw [show ((((2 ^ list.length : Nat) : Int) - 1).toNat) = 2 ^ list.length - 1 by omega, dp_last k h60]
      unfold cntV; rw [if_pos h]; exact ⟨rfl, rfl⟩
  refine @Eq.mpr _ _ (?_) key
  kernel_rfl
end Go.Proofs.Ytmjijggkdbiijaa
