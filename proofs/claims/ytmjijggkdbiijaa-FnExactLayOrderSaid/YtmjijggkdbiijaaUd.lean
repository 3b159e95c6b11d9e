/- The law on slabs that are lifted. No statement is proved here. -/
import Derived.Test.YtmjijggkdbiijaaUc
namespace Go.Proofs.Ytmjijggkdbiijaa
open Go.RowKit
set_option linter.unusedVariables false
set_option linter.unusedSimpArgs false
set_option maxRecDepth 100000
set_option maxHeartbeats 4000000
theorem skip2 {y : Int} {X : Prop} (h : X) : split (!!true) (split (!decide (y = y)) (false = true) X) (false = true) :=
  split_of (fun _ => split_of (fun h => by simp at h) (fun _ => h)) (fun h => by simp at h)
end Go.Proofs.Ytmjijggkdbiijaa
