/- Slabs that are laid in an order. No statement is proved here. -/
import Derived.Test.YtmjijggkdbiijaaVc
namespace Go.Proofs.Ytmjijggkdbiijaa
open Go.RowKit
set_option linter.unusedVariables false
set_option linter.unusedSimpArgs false
set_option maxRecDepth 100000
set_option maxHeartbeats 4000000
theorem put_ev (q : Sq) (s : Sl) (hl : q.2.2.length ≤ 1048576) : Ev Try.prog 96 [aQ q, aS s] (compsOf [oQ] (withV q (q.2.2 ++ [s]))) := by
  refine ev_of (l := [oQ]) (r := (withV q (q.2.2 ++ [s]))) (types (resT) [10008005] (fun _ _ => none)) follows Try.func96 (by kernel_rfl) (by rw [Try.ntmps96]; exact Nat.le_of_ble_eq_true rfl) ?_
  have key : (inR IntKind.i8 q.fst → inR IntKind.i8 q.snd.fst → (q.snd.snd.length ≤ 9223372036854775807 ∧ ∀ (x : Int × Int × Int × Int), List.Mem x q.snd.snd → inR IntKind.i8 x.fst ∧ inR IntKind.i8 x.snd.fst ∧ inR
      IntKind.i8 x.snd.snd.fst ∧ inR IntKind.i8 x.snd.snd.snd) → inR IntKind.i8 s.fst → inR IntKind.i8 s.snd.fst → inR IntKind.i8 s.snd.snd.fst → inR IntKind.i8 s.snd.snd.snd → inR IntKind.i8 q.fst → inR
      IntKind.i8 q.snd.fst → (q.snd.snd.length ≤ 9223372036854775807 ∧ ∀ (x : Int × Int × Int × Int), List.Mem x q.snd.snd → inR IntKind.i8 x.fst ∧ inR IntKind.i8 x.snd.fst ∧ inR IntKind.i8 x.snd.snd.fst ∧
      inR IntKind.i8 x.snd.snd.snd) → (q.snd.snd.length ≤ 9223372036854775807 ∧ ∀ (x : Int × Int × Int × Int), List.Mem x q.snd.snd → inR IntKind.i8 x.fst ∧ inR IntKind.i8 x.snd.fst ∧ inR IntKind.i8
      x.snd.snd.fst ∧ inR IntKind.i8 x.snd.snd.snd) → ∃ (r : List (Int × Int × Int × Int)), Ev Try.prog 139 [Arg.imm (D.dat (Ty.slice 41 slabT) q.snd.snd)] (compsOf [(true, Ty.slice 41 ((Ty.int
      IntKind.i8).prod ((Ty.int IntKind.i8).prod ((Ty.int IntKind.i8).prod (Ty.int IntKind.i8)))))] r) ∧ ((r.length ≤ 9223372036854775807 ∧ ∀ (x : Int × Int × Int × Int), List.Mem x r → inR IntKind.i8
      x.fst ∧ inR IntKind.i8 x.snd.fst ∧ inR IntKind.i8 x.snd.snd.fst ∧ inR IntKind.i8 x.snd.snd.snd) → inR IntKind.i8 s.fst → inR IntKind.i8 s.snd.fst → inR IntKind.i8 s.snd.snd.fst → inR IntKind.i8
      s.snd.snd.snd → r.length + [s].length ≤ 4294967296 ∧ ∃ (r_1 : Int × Int × List (Int × Int × Int × Int)), Ev Try.prog 101 [Arg.imm (D.dat (sqT 41) q), Arg.imm (D.dat (Ty.slice 41 slabT) (r ++ [s]))]
      (compsOf [(true, (Ty.int IntKind.i8).prod ((Ty.int IntKind.i8).prod (Ty.slice 41 ((Ty.int IntKind.i8).prod ((Ty.int IntKind.i8).prod ((Ty.int IntKind.i8).prod (Ty.int IntKind.i8)))))))] r_1) ∧ (inR
      IntKind.i8 r_1.fst → inR IntKind.i8 r_1.snd.fst → (r_1.snd.snd.length ≤ 9223372036854775807 ∧ ∀ (x : Int × Int × Int × Int), List.Mem x r_1.snd.snd → inR IntKind.i8 x.fst ∧ inR IntKind.i8 x.snd.fst ∧
      inR IntKind.i8 x.snd.snd.fst ∧ inR IntKind.i8 x.snd.snd.snd) → r_1 = withV q (q.snd.snd ++ [s])))) := by
    intros
    refine ⟨_, cloneS_ev _ (by omega), ?_⟩
    intros
    refine ⟨by simp; omega, _, with_ev q _ (by simp; omega), ?_⟩
    intros
    rfl
  refine @Eq.mpr _ _ (?_) key
  kernel_rfl
def l01PutV (q : Sq) (s : Sl) : Sq := (q.1, q.2.1, isortN (q.2.2 ++ [s]) (q.2.2 ++ [s]).length)
theorem l01Put_ev (q : Sq) (s : Sl) (hl : q.2.2.length ≤ 1048576) : Ev Try.prog 103 [aQp q, aS s] (compsOf [oQ] (l01PutV q s)) := by
  refine ev_of (l := [oQ]) (r := (l01PutV q s)) (types (resT) [] (fun _ _ => none)) follows Try.func103 (by kernel_rfl) (by rw [Try.ntmps103]; exact Nat.le_of_ble_eq_true rfl) ?_
  have key : (inR IntKind.i8 s.fst → inR IntKind.i8 s.snd.fst → inR IntKind.i8 s.snd.snd.fst → inR IntKind.i8 s.snd.snd.snd → (q.snd.snd.length ≤ 9223372036854775807 ∧ ∀ (x : Int × Int × Int × Int), List.Mem x
      q.snd.snd → inR IntKind.i8 x.fst ∧ inR IntKind.i8 x.snd.fst ∧ inR IntKind.i8 x.snd.snd.fst ∧ inR IntKind.i8 x.snd.snd.snd) → (0 : Nat) + q.snd.snd.length ≤ 4294967296 ∧ (inR IntKind.i8 s.fst → inR
      IntKind.i8 s.snd.fst → inR IntKind.i8 s.snd.snd.fst → inR IntKind.i8 s.snd.snd.snd → ([] ++ q.snd.snd).length + [s].length ≤ 4294967296 ∧ (inR IntKind.i8 q.fst → inR IntKind.i8 q.snd.fst → ∃ (r :
      List (Int × Int × Int × Int)), Ev Try.prog 145 [Arg.imm (D.dat (Ty.slice 41 slabT) ([] ++ q.snd.snd ++ [s]))] (compsOf [(true, Ty.slice 41 ((Ty.int IntKind.i8).prod ((Ty.int IntKind.i8).prod ((Ty.int
      IntKind.i8).prod (Ty.int IntKind.i8)))))] r) ∧ ((r.length ≤ 9223372036854775807 ∧ ∀ (x : Int × Int × Int × Int), List.Mem x r → inR IntKind.i8 x.fst ∧ inR IntKind.i8 x.snd.fst ∧ inR IntKind.i8
      x.snd.snd.fst ∧ inR IntKind.i8 x.snd.snd.snd) → (q.fst, q.snd.fst, r) = l01PutV q s)))) := by
    intros
    refine ⟨by omega, ?_⟩
    intros
    refine ⟨by simp; omega, ?_⟩
    intros
    rw [List.nil_append]
    refine ⟨_, l01Sorted_ev _ (by simp; omega), ?_⟩
    intros
    rfl
  refine @Eq.mpr _ _ (?_) key
  kernel_rfl
end Go.Proofs.Ytmjijggkdbiijaa
