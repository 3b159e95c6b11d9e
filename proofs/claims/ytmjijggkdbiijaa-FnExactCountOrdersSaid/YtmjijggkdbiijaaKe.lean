/- Marks: a struct of one's own whose rows are written by a call on one of its fields; rows of numbers. No statement is proved here. -/
import Derived.Test.YtmjijggkdbiijaaA4
namespace Go.Proofs.Ytmjijggkdbiijaa
open Go.RowKit
set_option linter.unusedVariables false
set_option linter.unusedSimpArgs false
/-- Labels when all that was lent goes back. -/
def allB (lab : Lab) : Lab := fun g =>
  match lab g with
  | none => none
  | some (M, k, m) => if M = D0 then some (M, k, m) else if M = 0 ∧ k = 0 then some (B0, 0, m) else none
/-- A row of values by their places. -/
def row {α : Type} (f : Nat → α) (n : Nat) : List α := (List.range n).map f
end Go.Proofs.Ytmjijggkdbiijaa
