/- The library's Sort, as a call that writes what is its caller's own. No statement is proved here. -/
import Derived.Test.YtmjijggkdbiijaaKg
import Derived.Test.YtmjijggkdbiijaaProg
import Derived.Test.YtmjijggkdbiijaaKe
import Derived.Shelf.SortM.Plain
import Derived.Shelf.SortM.SortNone
import Derived.Shelf.SlGeneric
import Derived.Ground.SlgmProg
import Derived.Sort.OwnSortedInts
namespace Go.Proofs.Ytmjijggkdbiijaa
open Go.RowKit Go.Shelf Go.Sort Go.Proofs
set_option linter.unusedVariables false
set_option linter.unusedSimpArgs false
end Go.Proofs.Ytmjijggkdbiijaa
