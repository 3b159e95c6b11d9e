/-
  No cell of these rows narrows 'for every input' (looked for: loops, veiled, ifaces, maps, wideKeys, modest, calm, conditions, laid).
  DERIVED. THE GIVEN ROWS OF THIS SEAT. 11 by the template 'for every input the law returns true; each argument reads behind the call as it read before'; 0 by the template 'total and deterministic' (their statements: YtmjijggkdbiijaaTotals.lean).
  GIVEN WITH THE SEED: the statements are not yours to turn. If you find one false, say at which input.
  Laid BY PROGRAM, IN A SANDBOX (cutbox-rows.mjs): the forced cells as the released guide's own fill.sh prints them over the translation 056742d1eb67276e… (all of the seat's roots in one cut). By AI agents, Wed Nov 11 2026. No macro, syntax, notation, axiom, sorry.
-/
import Derived.Test.YtmjijggkdbiijaaChecked
import GoSem.Claim
import GoSem.ClaimJoined
import GoSem.ClaimMapViews
import Derived.JoinedTies
import Derived.KernelRfl
namespace Go.Proofs.Ytmjijggkdbiijaa
/- THE CELL 'sum', in the pinned program and in every row, IS THE sha256 OF THE DUMP (.gsa) THAT YtmjijggkdbiijaaProg.lean LOADS. Nothing in Lean hashes anything: it is a label: what it is worth is what the hold of that sum in a sandbox is worth. -/
noncomputable def Try.pinned : Pinned := { name := "ytmjijggkdbiijaa", sum := "056742d1eb67276eccca5b6022000d8330c3212c734b7eefb0a86b0271495c0a", checked := Try.checked }
namespace Rows
def none {H : Type} : Left H := { results := [], args := [] }

/-- 'laws.FnExactValidLevels': WHATEVER THE INPUT: true; the input reads as it did. -/
def fnExactValidLevelsSpec : ChangeSpec := { name := "fnExactValidLevels", fn := fun _ => fun
  | [d1, d2] => { results := [.lit (.bool true)], args := [d1, d2] }
  | _ => none }
def fnExactValidLevelsRow : OpenClaim := { program := "ytmjijggkdbiijaa", sum := "056742d1eb67276eccca5b6022000d8330c3212c734b7eefb0a86b0271495c0a", func := "loop.example/g01383/laws.FnExactValidLevels", spec := "fnExactValidLevels", unfollowed := true, recurses := true, apart := false }
def FnExactValidLevelsSaid : Prop := fnExactValidLevelsRow.holds Try.pinned (OpenSpec.ofChange fnExactValidLevelsSpec)

/-- ITS FALSE NEIGHBOUR: 'it returns false'. Refute it at one input. -/
def fnExactValidLevelsWrong : ChangeSpec := { name := "fnExactValidLevels", fn := fun _ => fun
  | [d1, d2] => { results := [.lit (.bool false)], args := [d1, d2] }
  | _ => none }
def FnExactValidLevelsWrongFalsely : Prop := fnExactValidLevelsRow.holds Try.pinned (OpenSpec.ofChange fnExactValidLevelsWrong)

/-- 'laws.FnExactCanLay': WHATEVER THE INPUT: true; the input reads as it did. -/
def fnExactCanLaySpec : ChangeSpec := { name := "fnExactCanLay", fn := fun _ => fun
  | [d1, d2] => { results := [.lit (.bool true)], args := [d1, d2] }
  | _ => none }
def fnExactCanLayRow : OpenClaim := { program := "ytmjijggkdbiijaa", sum := "056742d1eb67276eccca5b6022000d8330c3212c734b7eefb0a86b0271495c0a", func := "loop.example/g01383/laws.FnExactCanLay", spec := "fnExactCanLay", unfollowed := true, recurses := true, apart := false }
def FnExactCanLaySaid : Prop := fnExactCanLayRow.holds Try.pinned (OpenSpec.ofChange fnExactCanLaySpec)

/-- ITS FALSE NEIGHBOUR: 'it returns false'. Refute it at one input. -/
def fnExactCanLayWrong : ChangeSpec := { name := "fnExactCanLay", fn := fun _ => fun
  | [d1, d2] => { results := [.lit (.bool false)], args := [d1, d2] }
  | _ => none }
def FnExactCanLayWrongFalsely : Prop := fnExactCanLayRow.holds Try.pinned (OpenSpec.ofChange fnExactCanLayWrong)

/-- 'laws.FnExactLevelsAfter': WHATEVER THE INPUT: true; the input reads as it did. -/
def fnExactLevelsAfterSpec : ChangeSpec := { name := "fnExactLevelsAfter", fn := fun _ => fun
  | [d1, d2, d3, d4] => { results := [.lit (.bool true)], args := [d1, d2, d3, d4] }
  | _ => none }
def fnExactLevelsAfterRow : OpenClaim := { program := "ytmjijggkdbiijaa", sum := "056742d1eb67276eccca5b6022000d8330c3212c734b7eefb0a86b0271495c0a", func := "loop.example/g01383/laws.FnExactLevelsAfter", spec := "fnExactLevelsAfter", unfollowed := true, recurses := true, apart := false }
def FnExactLevelsAfterSaid : Prop := fnExactLevelsAfterRow.holds Try.pinned (OpenSpec.ofChange fnExactLevelsAfterSpec)

/-- ITS FALSE NEIGHBOUR: 'it returns false'. Refute it at one input. -/
def fnExactLevelsAfterWrong : ChangeSpec := { name := "fnExactLevelsAfter", fn := fun _ => fun
  | [d1, d2, d3, d4] => { results := [.lit (.bool false)], args := [d1, d2, d3, d4] }
  | _ => none }
def FnExactLevelsAfterWrongFalsely : Prop := fnExactLevelsAfterRow.holds Try.pinned (OpenSpec.ofChange fnExactLevelsAfterWrong)

/-- 'laws.FnExactIsJoint': WHATEVER THE INPUT: true; the input reads as it did. -/
def fnExactIsJointSpec : ChangeSpec := { name := "fnExactIsJoint", fn := fun _ => fun
  | [d1, d2, d3] => { results := [.lit (.bool true)], args := [d1, d2, d3] }
  | _ => none }
def fnExactIsJointRow : OpenClaim := { program := "ytmjijggkdbiijaa", sum := "056742d1eb67276eccca5b6022000d8330c3212c734b7eefb0a86b0271495c0a", func := "loop.example/g01383/laws.FnExactIsJoint", spec := "fnExactIsJoint", unfollowed := true, recurses := true, apart := false }
def FnExactIsJointSaid : Prop := fnExactIsJointRow.holds Try.pinned (OpenSpec.ofChange fnExactIsJointSpec)

/-- ITS FALSE NEIGHBOUR: 'it returns false'. Refute it at one input. -/
def fnExactIsJointWrong : ChangeSpec := { name := "fnExactIsJoint", fn := fun _ => fun
  | [d1, d2, d3] => { results := [.lit (.bool false)], args := [d1, d2, d3] }
  | _ => none }
def FnExactIsJointWrongFalsely : Prop := fnExactIsJointRow.holds Try.pinned (OpenSpec.ofChange fnExactIsJointWrong)

/-- 'laws.FnExactCountJoints': WHATEVER THE INPUT: true; the input reads as it did. -/
def fnExactCountJointsSpec : ChangeSpec := { name := "fnExactCountJoints", fn := fun _ => fun
  | [d] => { results := [.lit (.bool true)], args := [d] }
  | _ => none }
def fnExactCountJointsRow : OpenClaim := { program := "ytmjijggkdbiijaa", sum := "056742d1eb67276eccca5b6022000d8330c3212c734b7eefb0a86b0271495c0a", func := "loop.example/g01383/laws.FnExactCountJoints", spec := "fnExactCountJoints", unfollowed := true, recurses := true, apart := false }
def FnExactCountJointsSaid : Prop := fnExactCountJointsRow.holds Try.pinned (OpenSpec.ofChange fnExactCountJointsSpec)

/-- ITS FALSE NEIGHBOUR: 'it returns false'. Refute it at one input. -/
def fnExactCountJointsWrong : ChangeSpec := { name := "fnExactCountJoints", fn := fun _ => fun
  | [d] => { results := [.lit (.bool false)], args := [d] }
  | _ => none }
def FnExactCountJointsWrongFalsely : Prop := fnExactCountJointsRow.holds Try.pinned (OpenSpec.ofChange fnExactCountJointsWrong)

/-- 'laws.FnExactWorstTrip': WHATEVER THE INPUT: true; the input reads as it did. -/
def fnExactWorstTripSpec : ChangeSpec := { name := "fnExactWorstTrip", fn := fun _ => fun
  | [d1, d2] => { results := [.lit (.bool true)], args := [d1, d2] }
  | _ => none }
def fnExactWorstTripRow : OpenClaim := { program := "ytmjijggkdbiijaa", sum := "056742d1eb67276eccca5b6022000d8330c3212c734b7eefb0a86b0271495c0a", func := "loop.example/g01383/laws.FnExactWorstTrip", spec := "fnExactWorstTrip", unfollowed := true, recurses := true, apart := false }
def FnExactWorstTripSaid : Prop := fnExactWorstTripRow.holds Try.pinned (OpenSpec.ofChange fnExactWorstTripSpec)

/-- ITS FALSE NEIGHBOUR: 'it returns false'. Refute it at one input. -/
def fnExactWorstTripWrong : ChangeSpec := { name := "fnExactWorstTrip", fn := fun _ => fun
  | [d1, d2] => { results := [.lit (.bool false)], args := [d1, d2] }
  | _ => none }
def FnExactWorstTripWrongFalsely : Prop := fnExactWorstTripRow.holds Try.pinned (OpenSpec.ofChange fnExactWorstTripWrong)

/-- 'laws.FnExactLiftedBy': WHATEVER THE INPUT: true; the input reads as it did. -/
def fnExactLiftedBySpec : ChangeSpec := { name := "fnExactLiftedBy", fn := fun _ => fun
  | [d1, d2] => { results := [.lit (.bool true)], args := [d1, d2] }
  | _ => none }
def fnExactLiftedByRow : OpenClaim := { program := "ytmjijggkdbiijaa", sum := "056742d1eb67276eccca5b6022000d8330c3212c734b7eefb0a86b0271495c0a", func := "loop.example/g01383/laws.FnExactLiftedBy", spec := "fnExactLiftedBy", unfollowed := true, recurses := true, apart := false }
def FnExactLiftedBySaid : Prop := fnExactLiftedByRow.holds Try.pinned (OpenSpec.ofChange fnExactLiftedBySpec)

/-- ITS FALSE NEIGHBOUR: 'it returns false'. Refute it at one input. -/
def fnExactLiftedByWrong : ChangeSpec := { name := "fnExactLiftedBy", fn := fun _ => fun
  | [d1, d2] => { results := [.lit (.bool false)], args := [d1, d2] }
  | _ => none }
def FnExactLiftedByWrongFalsely : Prop := fnExactLiftedByRow.holds Try.pinned (OpenSpec.ofChange fnExactLiftedByWrong)

/-- 'laws.FnExactCountOrders': WHATEVER THE INPUT: true; the input reads as it did. -/
def fnExactCountOrdersSpec : ChangeSpec := { name := "fnExactCountOrders", fn := fun _ => fun
  | [d1, d2] => { results := [.lit (.bool true)], args := [d1, d2] }
  | _ => none }
def fnExactCountOrdersRow : OpenClaim := { program := "ytmjijggkdbiijaa", sum := "056742d1eb67276eccca5b6022000d8330c3212c734b7eefb0a86b0271495c0a", func := "loop.example/g01383/laws.FnExactCountOrders", spec := "fnExactCountOrders", unfollowed := true, recurses := true, apart := false }
def FnExactCountOrdersSaid : Prop := fnExactCountOrdersRow.holds Try.pinned (OpenSpec.ofChange fnExactCountOrdersSpec)

/-- ITS FALSE NEIGHBOUR: 'it returns false'. Refute it at one input. -/
def fnExactCountOrdersWrong : ChangeSpec := { name := "fnExactCountOrders", fn := fun _ => fun
  | [d1, d2] => { results := [.lit (.bool false)], args := [d1, d2] }
  | _ => none }
def FnExactCountOrdersWrongFalsely : Prop := fnExactCountOrdersRow.holds Try.pinned (OpenSpec.ofChange fnExactCountOrdersWrong)

/-- 'laws.FnExactLayOrder': WHATEVER THE INPUT: true; the input reads as it did. -/
def fnExactLayOrderSpec : ChangeSpec := { name := "fnExactLayOrder", fn := fun _ => fun
  | [d1, d2] => { results := [.lit (.bool true)], args := [d1, d2] }
  | _ => none }
def fnExactLayOrderRow : OpenClaim := { program := "ytmjijggkdbiijaa", sum := "056742d1eb67276eccca5b6022000d8330c3212c734b7eefb0a86b0271495c0a", func := "loop.example/g01383/laws.FnExactLayOrder", spec := "fnExactLayOrder", unfollowed := true, recurses := true, apart := false }
def FnExactLayOrderSaid : Prop := fnExactLayOrderRow.holds Try.pinned (OpenSpec.ofChange fnExactLayOrderSpec)

/-- ITS FALSE NEIGHBOUR: 'it returns false'. Refute it at one input. -/
def fnExactLayOrderWrong : ChangeSpec := { name := "fnExactLayOrder", fn := fun _ => fun
  | [d1, d2] => { results := [.lit (.bool false)], args := [d1, d2] }
  | _ => none }
def FnExactLayOrderWrongFalsely : Prop := fnExactLayOrderRow.holds Try.pinned (OpenSpec.ofChange fnExactLayOrderWrong)

/-- 'laws.FnExactLiftAll': WHATEVER THE INPUT: true; the input reads as it did. -/
def fnExactLiftAllSpec : ChangeSpec := { name := "fnExactLiftAll", fn := fun _ => fun
  | [d1, d2] => { results := [.lit (.bool true)], args := [d1, d2] }
  | _ => none }
def fnExactLiftAllRow : OpenClaim := { program := "ytmjijggkdbiijaa", sum := "056742d1eb67276eccca5b6022000d8330c3212c734b7eefb0a86b0271495c0a", func := "loop.example/g01383/laws.FnExactLiftAll", spec := "fnExactLiftAll", unfollowed := true, recurses := true, apart := false }
def FnExactLiftAllSaid : Prop := fnExactLiftAllRow.holds Try.pinned (OpenSpec.ofChange fnExactLiftAllSpec)

/-- ITS FALSE NEIGHBOUR: 'it returns false'. Refute it at one input. -/
def fnExactLiftAllWrong : ChangeSpec := { name := "fnExactLiftAll", fn := fun _ => fun
  | [d1, d2] => { results := [.lit (.bool false)], args := [d1, d2] }
  | _ => none }
def FnExactLiftAllWrongFalsely : Prop := fnExactLiftAllRow.holds Try.pinned (OpenSpec.ofChange fnExactLiftAllWrong)

/-- 'laws.FnExactLayAll': WHATEVER THE INPUT: true; the input reads as it did. -/
def fnExactLayAllSpec : ChangeSpec := { name := "fnExactLayAll", fn := fun _ => fun
  | [d1, d2, d3] => { results := [.lit (.bool true)], args := [d1, d2, d3] }
  | _ => none }
def fnExactLayAllRow : OpenClaim := { program := "ytmjijggkdbiijaa", sum := "056742d1eb67276eccca5b6022000d8330c3212c734b7eefb0a86b0271495c0a", func := "loop.example/g01383/laws.FnExactLayAll", spec := "fnExactLayAll", unfollowed := true, recurses := true, apart := false }
def FnExactLayAllSaid : Prop := fnExactLayAllRow.holds Try.pinned (OpenSpec.ofChange fnExactLayAllSpec)

/-- ITS FALSE NEIGHBOUR: 'it returns false'. Refute it at one input. -/
def fnExactLayAllWrong : ChangeSpec := { name := "fnExactLayAll", fn := fun _ => fun
  | [d1, d2, d3] => { results := [.lit (.bool false)], args := [d1, d2, d3] }
  | _ => none }
def FnExactLayAllWrongFalsely : Prop := fnExactLayAllRow.holds Try.pinned (OpenSpec.ofChange fnExactLayAllWrong)

/- THE SECOND FORM. 'bulk': how many values and letters a reading holds, each counted each time it is reached (what is shared counts as often as it is met; a slice's spare places count too). A statement '..UptoSaid' is the law's where the arguments, and the package variables that the reading takes, are together of bulk at most 1048576: NARROWER than '..Said'. Prove '..Said' where nothing that the law and all that it calls make is longer than what came in: it says more and counts as full. Else prove '..UptoSaid'. A law counts once. -/
mutual
def uptoBulk {H : Type} : DataW H → Nat
  | .lit (.string bytes) => bytes.length + 1
  | .lit _ => 1
  | .nil => 1
  | .ptr d => uptoBulk d + 1
  | .slice elems spare => uptoBulkAll elems + uptoBulkAll spare + 1
  | .agg parts => uptoBulkAll parts + 1
  | .iface _ d => uptoBulk d + 1
  | .map entries => uptoBulkEntries entries + 1
  | .held _ => 1
def uptoBulkAll {H : Type} : List (DataW H) → Nat
  | [] => 0
  | d :: r => uptoBulk d + uptoBulkAll r
def uptoBulkEntries {H : Type} : List (Lit × DataW H) → Nat
  | [] => 0
  | x :: r => uptoBulkEntry x + uptoBulkEntries r
def uptoBulkEntry {H : Type} : Lit × DataW H → Nat
  | (.string bytes, d) => bytes.length + uptoBulk d + 1
  | (_, d) => uptoBulk d + 1
 end
def uptoSmall : (H : Type) → List (DataW H) → Bool := fun _ ds => decide (uptoBulkAll ds ≤ 1048576)
def OpenSpec.upto (s : _root_.Go.ChangeSpec) : _root_.Go.OpenSpec := { _root_.Go.OpenSpec.ofChange s with cond := some uptoSmall }

/-- 'laws.FnExactValidLevels', WHERE WHAT IT READS IS OF BULK AT MOST 1048576: true; the input reads as it did. -/
def fnExactValidLevelsUptoRow : OpenClaim := { program := "ytmjijggkdbiijaa", sum := "056742d1eb67276eccca5b6022000d8330c3212c734b7eefb0a86b0271495c0a", func := "loop.example/g01383/laws.FnExactValidLevels", spec := "fnExactValidLevels", unfollowed := true, recurses := true, apart := false, narrowed := true }
def FnExactValidLevelsUptoSaid : Prop := fnExactValidLevelsUptoRow.holds Try.pinned (OpenSpec.upto fnExactValidLevelsSpec)

/-- 'laws.FnExactCanLay', WHERE WHAT IT READS IS OF BULK AT MOST 1048576: true; the input reads as it did. -/
def fnExactCanLayUptoRow : OpenClaim := { program := "ytmjijggkdbiijaa", sum := "056742d1eb67276eccca5b6022000d8330c3212c734b7eefb0a86b0271495c0a", func := "loop.example/g01383/laws.FnExactCanLay", spec := "fnExactCanLay", unfollowed := true, recurses := true, apart := false, narrowed := true }
def FnExactCanLayUptoSaid : Prop := fnExactCanLayUptoRow.holds Try.pinned (OpenSpec.upto fnExactCanLaySpec)

/-- 'laws.FnExactLevelsAfter', WHERE WHAT IT READS IS OF BULK AT MOST 1048576: true; the input reads as it did. -/
def fnExactLevelsAfterUptoRow : OpenClaim := { program := "ytmjijggkdbiijaa", sum := "056742d1eb67276eccca5b6022000d8330c3212c734b7eefb0a86b0271495c0a", func := "loop.example/g01383/laws.FnExactLevelsAfter", spec := "fnExactLevelsAfter", unfollowed := true, recurses := true, apart := false, narrowed := true }
def FnExactLevelsAfterUptoSaid : Prop := fnExactLevelsAfterUptoRow.holds Try.pinned (OpenSpec.upto fnExactLevelsAfterSpec)

/-- 'laws.FnExactIsJoint', WHERE WHAT IT READS IS OF BULK AT MOST 1048576: true; the input reads as it did. -/
def fnExactIsJointUptoRow : OpenClaim := { program := "ytmjijggkdbiijaa", sum := "056742d1eb67276eccca5b6022000d8330c3212c734b7eefb0a86b0271495c0a", func := "loop.example/g01383/laws.FnExactIsJoint", spec := "fnExactIsJoint", unfollowed := true, recurses := true, apart := false, narrowed := true }
def FnExactIsJointUptoSaid : Prop := fnExactIsJointUptoRow.holds Try.pinned (OpenSpec.upto fnExactIsJointSpec)

/-- 'laws.FnExactCountJoints', WHERE WHAT IT READS IS OF BULK AT MOST 1048576: true; the input reads as it did. -/
def fnExactCountJointsUptoRow : OpenClaim := { program := "ytmjijggkdbiijaa", sum := "056742d1eb67276eccca5b6022000d8330c3212c734b7eefb0a86b0271495c0a", func := "loop.example/g01383/laws.FnExactCountJoints", spec := "fnExactCountJoints", unfollowed := true, recurses := true, apart := false, narrowed := true }
def FnExactCountJointsUptoSaid : Prop := fnExactCountJointsUptoRow.holds Try.pinned (OpenSpec.upto fnExactCountJointsSpec)

/-- 'laws.FnExactWorstTrip', WHERE WHAT IT READS IS OF BULK AT MOST 1048576: true; the input reads as it did. -/
def fnExactWorstTripUptoRow : OpenClaim := { program := "ytmjijggkdbiijaa", sum := "056742d1eb67276eccca5b6022000d8330c3212c734b7eefb0a86b0271495c0a", func := "loop.example/g01383/laws.FnExactWorstTrip", spec := "fnExactWorstTrip", unfollowed := true, recurses := true, apart := false, narrowed := true }
def FnExactWorstTripUptoSaid : Prop := fnExactWorstTripUptoRow.holds Try.pinned (OpenSpec.upto fnExactWorstTripSpec)

/-- 'laws.FnExactLiftedBy', WHERE WHAT IT READS IS OF BULK AT MOST 1048576: true; the input reads as it did. -/
def fnExactLiftedByUptoRow : OpenClaim := { program := "ytmjijggkdbiijaa", sum := "056742d1eb67276eccca5b6022000d8330c3212c734b7eefb0a86b0271495c0a", func := "loop.example/g01383/laws.FnExactLiftedBy", spec := "fnExactLiftedBy", unfollowed := true, recurses := true, apart := false, narrowed := true }
def FnExactLiftedByUptoSaid : Prop := fnExactLiftedByUptoRow.holds Try.pinned (OpenSpec.upto fnExactLiftedBySpec)

/-- 'laws.FnExactCountOrders', WHERE WHAT IT READS IS OF BULK AT MOST 1048576: true; the input reads as it did. -/
def fnExactCountOrdersUptoRow : OpenClaim := { program := "ytmjijggkdbiijaa", sum := "056742d1eb67276eccca5b6022000d8330c3212c734b7eefb0a86b0271495c0a", func := "loop.example/g01383/laws.FnExactCountOrders", spec := "fnExactCountOrders", unfollowed := true, recurses := true, apart := false, narrowed := true }
def FnExactCountOrdersUptoSaid : Prop := fnExactCountOrdersUptoRow.holds Try.pinned (OpenSpec.upto fnExactCountOrdersSpec)

/-- 'laws.FnExactLayOrder', WHERE WHAT IT READS IS OF BULK AT MOST 1048576: true; the input reads as it did. -/
def fnExactLayOrderUptoRow : OpenClaim := { program := "ytmjijggkdbiijaa", sum := "056742d1eb67276eccca5b6022000d8330c3212c734b7eefb0a86b0271495c0a", func := "loop.example/g01383/laws.FnExactLayOrder", spec := "fnExactLayOrder", unfollowed := true, recurses := true, apart := false, narrowed := true }
def FnExactLayOrderUptoSaid : Prop := fnExactLayOrderUptoRow.holds Try.pinned (OpenSpec.upto fnExactLayOrderSpec)

/-- 'laws.FnExactLiftAll', WHERE WHAT IT READS IS OF BULK AT MOST 1048576: true; the input reads as it did. -/
def fnExactLiftAllUptoRow : OpenClaim := { program := "ytmjijggkdbiijaa", sum := "056742d1eb67276eccca5b6022000d8330c3212c734b7eefb0a86b0271495c0a", func := "loop.example/g01383/laws.FnExactLiftAll", spec := "fnExactLiftAll", unfollowed := true, recurses := true, apart := false, narrowed := true }
def FnExactLiftAllUptoSaid : Prop := fnExactLiftAllUptoRow.holds Try.pinned (OpenSpec.upto fnExactLiftAllSpec)

/-- 'laws.FnExactLayAll', WHERE WHAT IT READS IS OF BULK AT MOST 1048576: true; the input reads as it did. -/
def fnExactLayAllUptoRow : OpenClaim := { program := "ytmjijggkdbiijaa", sum := "056742d1eb67276eccca5b6022000d8330c3212c734b7eefb0a86b0271495c0a", func := "loop.example/g01383/laws.FnExactLayAll", spec := "fnExactLayAll", unfollowed := true, recurses := true, apart := false, narrowed := true }
def FnExactLayAllUptoSaid : Prop := fnExactLayAllUptoRow.holds Try.pinned (OpenSpec.upto fnExactLayAllSpec)

end Rows
end Go.Proofs.Ytmjijggkdbiijaa
