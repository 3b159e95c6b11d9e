/- Slabs that are laid in an order: the program and the reference. No statement is proved here. -/
import Derived.Test.YtmjijggkdbiijaaVd
namespace Go.Proofs.Ytmjijggkdbiijaa
open Go.RowKit
set_option linter.unusedVariables false
set_option linter.unusedSimpArgs false
set_option maxRecDepth 100000
set_option maxHeartbeats 4000000
theorem canLay_put {q : Sq} {s : Sl} (h : canLayB q s = true) : canPutB q s = true := by
  simp only [canLayB, Bool.and_eq_true] at h; exact h.1
theorem l01Put_is {q : Sq} (k : OkQ q) (s : Sl) : l01PutV q s = putV q s := by
  unfold l01PutV; rw [isort_put k s]; rfl
end Go.Proofs.Ytmjijggkdbiijaa
