/- The library's Compact, as a call that takes what is its caller's own. No statement is proved here. -/
import Derived.Test.YtmjijggkdbiijaaA4
import Derived.Test.YtmjijggkdbiijaaProg
import Derived.Test.YtmjijggkdbiijaaKe
import Derived.Shelf.SlicesG.CompactI
import Derived.Shelf.SlGeneric
import Derived.Ground.SlgnProg
import Derived.Sort.OwnSortedInts
namespace Go.Proofs.Ytmjijggkdbiijaa
open Go.RowKit Go.Shelf Go.Sort Go.Proofs
set_option linter.unusedVariables false
set_option linter.unusedSimpArgs false
theorem enter_of2 {P : Program} {f : Nat} {fn : Func} {c : Code} (hf : P.funcs[f]? = some fn) (hname : (fn.name == "runtime.NumGoroutine") = false) (hb : fn.body = some c) (vs : Array Value) (w : World) : (callFunc f vs).run P w = .ok (.enter f vs) w := by
  have hname' : ¬ fn.name = "runtime.NumGoroutine" := by simpa using hname
  simp [callFunc, hf, hname', hb]
end Go.Proofs.Ytmjijggkdbiijaa
