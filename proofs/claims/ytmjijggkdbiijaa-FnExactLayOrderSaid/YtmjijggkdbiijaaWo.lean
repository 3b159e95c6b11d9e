/- A store of one's own into a box, where nobody is to write it any more. No statement is proved here. -/
import Derived.Test.YtmjijggkdbiijaaWl
namespace Go.Proofs.Ytmjijggkdbiijaa
open Go.RowKit
set_option linter.unusedVariables false
set_option linter.unusedSimpArgs false
section
variable {P : Program} {C R : List Nat} {o : Oper} {σ : List Slot}
end
end Go.Proofs.Ytmjijggkdbiijaa
