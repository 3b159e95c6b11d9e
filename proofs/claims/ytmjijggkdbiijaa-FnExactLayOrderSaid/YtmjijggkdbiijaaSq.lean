/- Points and their joints. No statement is proved here. -/
import Derived.Test.YtmjijggkdbiijaaSn
namespace Go.Proofs.Ytmjijggkdbiijaa
open Go.RowKit
set_option linter.unusedVariables false
set_option linter.unusedSimpArgs false
set_option maxRecDepth 100000
set_option maxHeartbeats 4000000
end Go.Proofs.Ytmjijggkdbiijaa
