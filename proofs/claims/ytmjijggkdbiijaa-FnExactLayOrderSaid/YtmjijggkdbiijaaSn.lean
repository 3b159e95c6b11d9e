/- The law on joints. No statement is proved here. -/
import Derived.Test.YtmjijggkdbiijaaSm
namespace Go.Proofs.Ytmjijggkdbiijaa
open Go.RowKit
set_option linter.unusedVariables false
set_option linter.unusedSimpArgs false
set_option maxRecDepth 100000
set_option maxHeartbeats 4000000
theorem cmp_pos {a b c d : Int} : 0 < firstNZ [cmp8 a b, cmp8 c d] ↔ b < a ∨ (a = b ∧ d < c) := by
  unfold firstNZ firstNZ firstNZ cmp8
  split <;> split <;> (try split) <;> (try split) <;> omega
end Go.Proofs.Ytmjijggkdbiijaa
