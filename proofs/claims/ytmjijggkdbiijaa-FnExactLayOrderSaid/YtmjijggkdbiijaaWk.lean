/- Orders of laying: the table of the reference. No statement is proved here. -/
import Derived.Test.YtmjijggkdbiijaaWf
namespace Go.Proofs.Ytmjijggkdbiijaa
open Go.RowKit
set_option linter.unusedVariables false
set_option linter.unusedSimpArgs false
section
variable {q : Sq} {list : List Sl}
end
end Go.Proofs.Ytmjijggkdbiijaa
