/- Slabs that are lifted. No statement is proved here. -/
import Derived.Test.YtmjijggkdbiijaaUa
namespace Go.Proofs.Ytmjijggkdbiijaa
open Go.RowKit
set_option linter.unusedVariables false
set_option linter.unusedSimpArgs false
set_option maxRecDepth 100000
set_option maxHeartbeats 4000000
theorem cloneS_ev (l : List Sl) (hl : l.length ≤ 16777216) : Ev Try.prog 139 [aSs l] (compsOf [oSs] (l)) := by
  refine ev_of (l := [oSs]) (r := (l)) (types (resT) [] (fun _ _ => none)) follows Try.func139 (by kernel_rfl) (by rw [Try.ntmps139]; exact Nat.le_of_ble_eq_true rfl) ?_
  have key : ((l.length ≤ 9223372036854775807 ∧ ∀ (x : Int × Int × Int × Int), List.Mem x l → inR IntKind.i8 x.fst ∧ inR IntKind.i8 x.snd.fst ∧ inR IntKind.i8 x.snd.snd.fst ∧ inR IntKind.i8 x.snd.snd.snd) → (l =
      [] → [] = l) ∧ (0 : Nat) + l.length ≤ 4294967296 ∧ [] ++ l = l) := by
    intros
    exact ⟨fun h => h.symm, by simp; omega, by simp⟩
  refine @Eq.mpr _ _ (?_) key
  kernel_rfl
def withV (q : Sq) (xs : List Sl) : Sq := (q.1, q.2.1, sortSl xs)
theorem with_ev (q : Sq) (xs : List Sl) (hl : xs.length ≤ 16777216) : Ev Try.prog 101 [aQ q, aSs xs] (compsOf [oQ] (withV q xs)) := by
  refine ev_of (l := [oQ]) (r := (withV q xs)) (types (resT) [] (fun _ _ => none)) follows Try.func101 (by kernel_rfl) (by rw [Try.ntmps101]; exact Nat.le_of_ble_eq_true rfl) ?_
  have key : (inR IntKind.i8 q.fst → inR IntKind.i8 q.snd.fst → (q.snd.snd.length ≤ 9223372036854775807 ∧ ∀ (x : Int × Int × Int × Int), List.Mem x q.snd.snd → inR IntKind.i8 x.fst ∧ inR IntKind.i8 x.snd.fst ∧ inR
      IntKind.i8 x.snd.snd.fst ∧ inR IntKind.i8 x.snd.snd.snd) → (xs.length ≤ 9223372036854775807 ∧ ∀ (x : Int × Int × Int × Int), List.Mem x xs → inR IntKind.i8 x.fst ∧ inR IntKind.i8 x.snd.fst ∧ inR
      IntKind.i8 x.snd.snd.fst ∧ inR IntKind.i8 x.snd.snd.snd) → ∃ (r : List (Int × Int × Int × Int)), Ev Try.prog 139 [Arg.imm (D.dat (Ty.slice 41 slabT) xs)] (compsOf [(true, Ty.slice 41 ((Ty.int
      IntKind.i8).prod ((Ty.int IntKind.i8).prod ((Ty.int IntKind.i8).prod (Ty.int IntKind.i8)))))] r) ∧ ((r.length ≤ 9223372036854775807 ∧ ∀ (x : Int × Int × Int × Int), List.Mem x r → inR IntKind.i8
      x.fst ∧ inR IntKind.i8 x.snd.fst ∧ inR IntKind.i8 x.snd.snd.fst ∧ inR IntKind.i8 x.snd.snd.snd) → ∃ (r_1 : Unit), ∃ (y : List (Int × Int × Int × Int)), EvB Try.prog 144 (Ty.slice 41 ((Ty.int
      IntKind.i8).prod ((Ty.int IntKind.i8).prod ((Ty.int IntKind.i8).prod (Ty.int IntKind.i8))))) r [Arg.imm (D.clo 114 D.nl)] (compsOf [] r_1) y ∧ ((y.length ≤ 9223372036854775807 ∧ ∀ (x : Int × Int ×
      Int × Int), List.Mem x y → inR IntKind.i8 x.fst ∧ inR IntKind.i8 x.snd.fst ∧ inR IntKind.i8 x.snd.snd.fst ∧ inR IntKind.i8 x.snd.snd.snd) → inR IntKind.i8 q.fst → inR IntKind.i8 q.snd.fst → (q.fst,
      q.snd.fst, y) = withV q xs))) := by
    intros
    refine ⟨_, cloneS_ev xs hl, ?_⟩
    intros
    refine ⟨(), _, sortS_ev _ (by omega), ?_⟩
    intros
    rfl
  refine @Eq.mpr _ _ (?_) key
  kernel_rfl
end Go.Proofs.Ytmjijggkdbiijaa
