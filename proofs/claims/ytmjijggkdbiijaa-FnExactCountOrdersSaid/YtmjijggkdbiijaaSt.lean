/- Marks, and sums of them. No statement is proved here. -/
import Derived.Test.YtmjijggkdbiijaaSr
import Derived.Test.YtmjijggkdbiijaaKe
namespace Go.Proofs.Ytmjijggkdbiijaa
open Go.RowKit
set_option linter.unusedVariables false
set_option linter.unusedSimpArgs false
set_option maxRecDepth 100000
set_option maxHeartbeats 4000000
abbrev iT : Ty := .int .i64
def w8 (x : Int) : Int := IntKind.i8.wrap x
end Go.Proofs.Ytmjijggkdbiijaa
