/- Joints. No statement is proved here. -/
import Derived.Test.YtmjijggkdbiijaaSi
namespace Go.Proofs.Ytmjijggkdbiijaa
open Go.RowKit
set_option linter.unusedVariables false
set_option linter.unusedSimpArgs false
set_option maxRecDepth 100000
set_option maxHeartbeats 4000000
def unlessI (t : Bool) (c : Int) : Int := if t then 0 else c
theorem unless_ev (t : Bool) (c : Int) : Ev Try.prog 121 [aB t, aI c] (compsOf [rI] (unlessI t c)) := by
  refine ev_of (l := [rI]) (r := (unlessI t c)) (types (resT) [] (fun _ _ => none)) follows Try.func121 (by kernel_rfl) (by rw [Try.ntmps121]; exact Nat.le_of_ble_eq_true rfl) ?_
  have key : (inR IntKind.i64 c → split t (0 = unlessI t c) (c = unlessI t c)) := by
    repeat' (first
      | (intro hh; try simp only [inR, loK, hiK] at hh)
      | exact trivial
      | (refine And.intro ?_ ?_)
      | (refine split_of (fun hh => ?_) (fun hh => ?_)))
    all_goals (first | omega | rfl | (simp_all [unlessI]; done) | (simp_all [unlessI]; omega))
  refine @Eq.mpr _ _ (?_) key
  kernel_rfl
end Go.Proofs.Ytmjijggkdbiijaa
