/- A square's own slabs are marked. No statement is proved here. -/
import Derived.Test.YtmjijggkdbiijaaSt
import Derived.Test.YtmjijggkdbiijaaG0
namespace Go.Proofs.Ytmjijggkdbiijaa
open Go.RowKit
set_option linter.unusedVariables false
set_option linter.unusedSimpArgs false
end Go.Proofs.Ytmjijggkdbiijaa
