/- Orders of laying: the program's count, and the reference's. No statement is proved here. -/
import Derived.Test.YtmjijggkdbiijaaWe
namespace Go.Proofs.Ytmjijggkdbiijaa
open Go.RowKit
set_option linter.unusedVariables false
set_option linter.unusedSimpArgs false
set_option maxRecDepth 100000
set_option maxHeartbeats 4000000
noncomputable def layC (q : Sq) (list : List Sl) : Int := if okQ q then (if list.length ≤ 10 ∧ q.2.2.length + list.length ≤ 60 then 0 else 3) else 1
theorem layC_ok {q : Sq} {list : List Sl} (h : layC q list = 0) : OkQ q ∧ list.length ≤ 10 ∧ q.2.2.length + list.length ≤ 60 := by
  unfold layC at h
  split at h
  · rename_i k
    split at h
    · rename_i h2; exact ⟨okQ_iff.1 k, h2.1, h2.2⟩
    · omega
  · omega
theorem layC_0 {q : Sq} {list : List Sl} (h : okQ q = true) (h2 : list.length ≤ 10) (h3 : q.2.2.length + list.length ≤ 60) : layC q list = 0 := by
  unfold layC; rw [if_pos h, if_pos ⟨h2, h3⟩]
theorem layC_3 {q : Sq} {list : List Sl} (h : okQ q = true) (h2 : ¬ (list.length ≤ 10 ∧ q.2.2.length + list.length ≤ 60)) : layC q list = 3 := by
  unfold layC; rw [if_pos h, if_neg h2]
theorem layC_1 {q : Sq} {list : List Sl} (h : ¬ okQ q = true) : layC q list = 1 := by
  unfold layC; rw [if_neg h]
theorem layCode_ev (q : Sq) (list : List Sl) : Ev Try.prog 92 [aQ q, aSs list] (compsOf [rI] (layC q list)) := by
  refine ev_of (l := [rI]) (r := (layC q list)) (types (resT) [] (fun _ _ => none)) follows Try.func92 (by kernel_rfl) (by rw [Try.ntmps92]; exact Nat.le_of_ble_eq_true rfl) ?_
  have key : (inR IntKind.i8 q.fst → inR IntKind.i8 q.snd.fst → (q.snd.snd.length ≤ 9223372036854775807 ∧ ∀ (x : Int × Int × Int × Int), List.Mem x q.snd.snd → inR IntKind.i8 x.fst ∧ inR IntKind.i8
      x.snd.fst ∧ inR IntKind.i8 x.snd.snd.fst ∧ inR IntKind.i8 x.snd.snd.snd) → (list.length ≤ 9223372036854775807 ∧ ∀ (x : Int × Int × Int × Int), List.Mem x list → inR IntKind.i8 x.fst ∧ inR
      IntKind.i8 x.snd.fst ∧ inR IntKind.i8 x.snd.snd.fst ∧ inR IntKind.i8 x.snd.snd.snd) → inR IntKind.i8 q.fst → inR IntKind.i8 q.snd.fst → (q.snd.snd.length ≤ 9223372036854775807 ∧ ∀ (x : Int ×
      Int × Int × Int), List.Mem x q.snd.snd → inR IntKind.i8 x.fst ∧ inR IntKind.i8 x.snd.fst ∧ inR IntKind.i8 x.snd.snd.fst ∧ inR IntKind.i8 x.snd.snd.snd) → ∃ (r : Bool), Ev Try.prog 61 [Arg.imm
      (D.dat (sqT 41) q)] (compsOf [(false, Ty.bool)] r) ∧ split (!r) (1 = layC q list) (((list.length : Nat) : Int) ≤ 9223372036854775807 → split (decide (((list.length : Nat) : Int) ≤ 10))
      ((q.snd.snd.length ≤ 9223372036854775807 ∧ ∀ (x : Int × Int × Int × Int), List.Mem x q.snd.snd → inR IntKind.i8 x.fst ∧ inR IntKind.i8 x.snd.fst ∧ inR IntKind.i8 x.snd.snd.fst ∧ inR
      IntKind.i8 x.snd.snd.snd) → ((q.snd.snd.length : Nat) : Int) ≤ 9223372036854775807 → ((list.length : Nat) : Int) ≤ 9223372036854775807 → (-9223372036854775808 ≤ ((q.snd.snd.length : Nat) :
      Int) + ((list.length : Nat) : Int) ∧ ((q.snd.snd.length : Nat) : Int) + ((list.length : Nat) : Int) ≤ 9223372036854775807) ∧ ∃ (r : Int), Ev Try.prog 121 [Arg.imm (D.dat Ty.bool (decide
      (((q.snd.snd.length : Nat) : Int) + ((list.length : Nat) : Int) ≤ 60))), Arg.imm (D.dat (Ty.int IntKind.i64) 3)] (compsOf [(false, Ty.int IntKind.i64)] r) ∧ (inR IntKind.i64 r → r = layC q
      list)) (∃ (r : Int), Ev Try.prog 121 [Arg.imm (D.dat Ty.bool false), Arg.imm (D.dat (Ty.int IntKind.i64) 3)] (compsOf [(false, Ty.int IntKind.i64)] r) ∧ (inR IntKind.i64 r → r = layC q
      list)))) := by
    intros
    refine ⟨_, valid_ev q, split_of (fun h => ?_) (fun h => ?_)⟩
    · rw [layC_1 (by rw [not_t h]; simp)]
    · have h := not_f h
      intro _
      refine split_of (fun h2 => ?_) (fun h2 => ?_)
      · have h2 := of_decide_eq_true h2
        have kn := (okQ_iff.1 h).n
        intros
        refine ⟨by omega, _, unless_ev _ _, ?_⟩
        intros
        by_cases h3 : q.2.2.length + list.length ≤ 60
        · rw [layC_0 h (by omega) h3, decide_eq_true (by omega)]; rfl
        · rw [layC_3 h (fun z => h3 z.2), decide_eq_false (by omega)]; rfl
      · have h2 := of_decide_eq_false h2
        refine ⟨_, unless_ev _ _, ?_⟩
        intros
        rw [layC_3 h (fun z => h2 (by omega))]; rfl
  refine @Eq.mpr _ _ (?_) key
  kernel_rfl
theorem l05Laid_ev (q : Sq) (list : List Sl) : Ev Try.prog 90 [aQp q, aSs list] (compsOf [rI] (layC q list)) := by
  refine ev_of (l := [rI]) (r := (layC q list)) (types (resT) [] (fun _ _ => none)) follows Try.func90 (by kernel_rfl) (by rw [Try.ntmps90]; exact Nat.le_of_ble_eq_true rfl) ?_
  have key : ((list.length ≤ 9223372036854775807 ∧ ∀ (x : Int × Int × Int × Int), List.Mem x list → inR IntKind.i8 x.fst ∧ inR IntKind.i8 x.snd.fst ∧ inR IntKind.i8 x.snd.snd.fst ∧ inR IntKind.i8
      x.snd.snd.snd) → ∃ (r : Bool), Ev Try.prog 59 [Arg.imm (D.dat (sqT 41) q).ref] (compsOf [(false, Ty.bool)] r) ∧ split (!r) (1 = layC q list) (((list.length : Nat) : Int) ≤ 9223372036854775807
      → split (!decide (10 < ((list.length : Nat) : Int))) ((q.snd.snd.length ≤ 9223372036854775807 ∧ ∀ (x : Int × Int × Int × Int), List.Mem x q.snd.snd → inR IntKind.i8 x.fst ∧ inR IntKind.i8
      x.snd.fst ∧ inR IntKind.i8 x.snd.snd.fst ∧ inR IntKind.i8 x.snd.snd.snd) → ((q.snd.snd.length : Nat) : Int) ≤ 9223372036854775807 → ((list.length : Nat) : Int) ≤ 9223372036854775807 →
      (-9223372036854775808 ≤ ((q.snd.snd.length : Nat) : Int) + ((list.length : Nat) : Int) ∧ ((q.snd.snd.length : Nat) : Int) + ((list.length : Nat) : Int) ≤ 9223372036854775807) ∧ split (decide
      (60 < ((q.snd.snd.length : Nat) : Int) + ((list.length : Nat) : Int))) (3 = layC q list) (0 = layC q list)) (3 = layC q list))) := by
    intros
    refine ⟨_, l01Ok_ev q, ?_⟩
    rw [(layV_is q).1]
    refine split_of (fun h => ?_) (fun h => ?_)
    · rw [layC_1 (by rw [not_t h]; simp)]
    · have h := not_f h
      intro _
      refine split_of (fun h2 => ?_) (fun h2 => ?_)
      · have h2 : ¬ 10 < list.length := by have := of_decide_eq_false (not_t h2); omega
        have kn := (okQ_iff.1 h).n
        intros
        refine ⟨by omega, split_of (fun h3 => ?_) (fun h3 => ?_)⟩
        · have h3 := of_decide_eq_true h3
          rw [layC_3 h (fun z => by have := z.2; omega)]
        · have h3 := of_decide_eq_false h3
          rw [layC_0 h (by omega) (by omega)]
      · have h2 : 10 < list.length := by have := of_decide_eq_true (not_f h2); omega
        rw [layC_3 h (fun z => by have := z.1; omega)]
  refine @Eq.mpr _ _ (?_) key
  kernel_rfl
end Go.Proofs.Ytmjijggkdbiijaa
