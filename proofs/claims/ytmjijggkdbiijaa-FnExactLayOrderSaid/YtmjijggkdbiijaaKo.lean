/- Lists that have each number once, sorted and not. No statement is proved here. -/
import Derived.Test.YtmjijggkdbiijaaKn
namespace Go.Proofs.Ytmjijggkdbiijaa
open Go.RowKit
set_option linter.unusedVariables false
set_option linter.unusedSimpArgs false
end Go.Proofs.Ytmjijggkdbiijaa
