/- The law on levels some years later. No statement is proved here. -/
import Derived.Test.YtmjijggkdbiijaaSu
namespace Go.Proofs.Ytmjijggkdbiijaa
open Go.RowKit
set_option linter.unusedVariables false
set_option linter.unusedSimpArgs false
set_option maxRecDepth 100000
set_option maxHeartbeats 4000000
theorem sink_le {l r : List Int} {y : Int} {i : Nat} (h1 : -100 ≤ l.getD i 0 ∧ l.getD i 0 ≤ 100) (h2 : 0 ≤ r.getD i 0 ∧ r.getD i 0 ≤ 10) (h3 : 0 ≤ y ∧ y ≤ 60) : 0 ≤ r.getD i 0 * y ∧ r.getD i 0 * y ≤ 600 :=
  ⟨Int.mul_nonneg h2.1 h3.1, Int.le_trans (Int.mul_le_mul h2.2 h3.2 h3.1 (by omega)) (by omega)⟩
structure Sinks (l r : List Int) (y : Int) : Prop where
  len : r.length = l.length
  few : l.length ≤ 60
  lev : ∀ i : Nat, i < l.length → -100 ≤ l.getD i 0 ∧ l.getD i 0 ≤ 100
  rat : ∀ i : Nat, i < l.length → 0 ≤ r.getD i 0 ∧ r.getD i 0 ≤ 10
  yrs : 0 ≤ y ∧ y ≤ 60
theorem Sinks.at {l r : List Int} {y : Int} (h : Sinks l r y) {i : Nat} (hi : i < l.length) : 0 ≤ r.getD i 0 * y ∧ r.getD i 0 * y ≤ 600 := sink_le (h.lev i hi) (h.rat i hi) h.yrs
end Go.Proofs.Ytmjijggkdbiijaa
