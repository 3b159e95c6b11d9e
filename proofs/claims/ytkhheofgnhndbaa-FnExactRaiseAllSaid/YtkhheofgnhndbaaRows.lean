/-
  No cell of these rows narrows 'for every input' (looked for: loops, veiled, ifaces, maps, wideKeys, modest, calm, conditions, laid).
  DERIVED. THE GIVEN ROWS OF THIS SEAT. 11 by the template 'for every input the law returns true; each argument reads behind the call as it read before'; 0 by the template 'total and deterministic' (their statements: YtkhheofgnhndbaaTotals.lean).
  GIVEN WITH THE SEED: the statements are not yours to turn. If you find one false, say at which input.
  Laid BY PROGRAM, IN A SANDBOX (cutbox-rows.mjs): the forced cells as the released guide's own fill.sh prints them over the translation e8a03cb68a8a2b98… (all of the seat's roots in one cut). By AI agents, Wed Nov 11 2026. No macro, syntax, notation, axiom, sorry.
-/
import Derived.Test.YtkhheofgnhndbaaChecked
import GoSem.Claim
import GoSem.ClaimJoined
import GoSem.ClaimMapViews
import Derived.JoinedTies
import Derived.KernelRfl
namespace Go.Proofs.Ytkhheofgnhndbaa
/- THE CELL 'sum', in the pinned program and in every row, IS THE sha256 OF THE DUMP (.gsa) THAT YtkhheofgnhndbaaProg.lean LOADS. Nothing in Lean hashes anything: it is a label: what it is worth is what the hold of that sum in a sandbox is worth. -/
noncomputable def Try.pinned : Pinned := { name := "ytkhheofgnhndbaa", sum := "e8a03cb68a8a2b986537a25e435dd4b35b11499dc0036a46cdf76f4df7719d08", checked := Try.checked }
namespace Rows
def none {H : Type} : Left H := { results := [], args := [] }

/-- 'laws.FnExactValidGround': WHATEVER THE INPUT: true; the input reads as it did. -/
def fnExactValidGroundSpec : ChangeSpec := { name := "fnExactValidGround", fn := fun _ => fun
  | [d] => { results := [.lit (.bool true)], args := [d] }
  | _ => none }
def fnExactValidGroundRow : OpenClaim := { program := "ytkhheofgnhndbaa", sum := "e8a03cb68a8a2b986537a25e435dd4b35b11499dc0036a46cdf76f4df7719d08", func := "loop.example/g01383/laws.FnExactValidGround", spec := "fnExactValidGround", plainKeys := false, apart := false }
def FnExactValidGroundSaid : Prop := fnExactValidGroundRow.holds Try.pinned (OpenSpec.ofChange fnExactValidGroundSpec)

/-- ITS FALSE NEIGHBOUR: 'it returns false'. Refute it at one input. -/
def fnExactValidGroundWrong : ChangeSpec := { name := "fnExactValidGround", fn := fun _ => fun
  | [d] => { results := [.lit (.bool false)], args := [d] }
  | _ => none }
def FnExactValidGroundWrongFalsely : Prop := fnExactValidGroundRow.holds Try.pinned (OpenSpec.ofChange fnExactValidGroundWrong)

/-- 'laws.FnExactFlatSteps': WHATEVER THE INPUT: true; the input reads as it did. -/
def fnExactFlatStepsSpec : ChangeSpec := { name := "fnExactFlatSteps", fn := fun _ => fun
  | [d] => { results := [.lit (.bool true)], args := [d] }
  | _ => none }
def fnExactFlatStepsRow : OpenClaim := { program := "ytkhheofgnhndbaa", sum := "e8a03cb68a8a2b986537a25e435dd4b35b11499dc0036a46cdf76f4df7719d08", func := "loop.example/g01383/laws.FnExactFlatSteps", spec := "fnExactFlatSteps", unfollowed := true, recurses := true, plainKeys := false, apart := false }
def FnExactFlatStepsSaid : Prop := fnExactFlatStepsRow.holds Try.pinned (OpenSpec.ofChange fnExactFlatStepsSpec)

/-- ITS FALSE NEIGHBOUR: 'it returns false'. Refute it at one input. -/
def fnExactFlatStepsWrong : ChangeSpec := { name := "fnExactFlatSteps", fn := fun _ => fun
  | [d] => { results := [.lit (.bool false)], args := [d] }
  | _ => none }
def FnExactFlatStepsWrongFalsely : Prop := fnExactFlatStepsRow.holds Try.pinned (OpenSpec.ofChange fnExactFlatStepsWrong)

/-- 'laws.FnExactSteepestFall': WHATEVER THE INPUT: true; the input reads as it did. -/
def fnExactSteepestFallSpec : ChangeSpec := { name := "fnExactSteepestFall", fn := fun _ => fun
  | [d] => { results := [.lit (.bool true)], args := [d] }
  | _ => none }
def fnExactSteepestFallRow : OpenClaim := { program := "ytkhheofgnhndbaa", sum := "e8a03cb68a8a2b986537a25e435dd4b35b11499dc0036a46cdf76f4df7719d08", func := "loop.example/g01383/laws.FnExactSteepestFall", spec := "fnExactSteepestFall", unfollowed := true, recurses := true, plainKeys := false, apart := false }
def FnExactSteepestFallSaid : Prop := fnExactSteepestFallRow.holds Try.pinned (OpenSpec.ofChange fnExactSteepestFallSpec)

/-- ITS FALSE NEIGHBOUR: 'it returns false'. Refute it at one input. -/
def fnExactSteepestFallWrong : ChangeSpec := { name := "fnExactSteepestFall", fn := fun _ => fun
  | [d] => { results := [.lit (.bool false)], args := [d] }
  | _ => none }
def FnExactSteepestFallWrongFalsely : Prop := fnExactSteepestFallRow.holds Try.pinned (OpenSpec.ofChange fnExactSteepestFallWrong)

/-- 'laws.FnExactRaiseAll': WHATEVER THE INPUT: true; the input reads as it did. -/
def fnExactRaiseAllSpec : ChangeSpec := { name := "fnExactRaiseAll", fn := fun _ => fun
  | [d1, d2] => { results := [.lit (.bool true)], args := [d1, d2] }
  | _ => none }
def fnExactRaiseAllRow : OpenClaim := { program := "ytkhheofgnhndbaa", sum := "e8a03cb68a8a2b986537a25e435dd4b35b11499dc0036a46cdf76f4df7719d08", func := "loop.example/g01383/laws.FnExactRaiseAll", spec := "fnExactRaiseAll", unfollowed := true, recurses := true, plainKeys := false, apart := false }
def FnExactRaiseAllSaid : Prop := fnExactRaiseAllRow.holds Try.pinned (OpenSpec.ofChange fnExactRaiseAllSpec)

/-- ITS FALSE NEIGHBOUR: 'it returns false'. Refute it at one input. -/
def fnExactRaiseAllWrong : ChangeSpec := { name := "fnExactRaiseAll", fn := fun _ => fun
  | [d1, d2] => { results := [.lit (.bool false)], args := [d1, d2] }
  | _ => none }
def FnExactRaiseAllWrongFalsely : Prop := fnExactRaiseAllRow.holds Try.pinned (OpenSpec.ofChange fnExactRaiseAllWrong)

/-- 'laws.FnExactFallAt': WHATEVER THE INPUT: true; the input reads as it did. -/
def fnExactFallAtSpec : ChangeSpec := { name := "fnExactFallAt", fn := fun _ => fun
  | [d1, d2] => { results := [.lit (.bool true)], args := [d1, d2] }
  | _ => none }
def fnExactFallAtRow : OpenClaim := { program := "ytkhheofgnhndbaa", sum := "e8a03cb68a8a2b986537a25e435dd4b35b11499dc0036a46cdf76f4df7719d08", func := "loop.example/g01383/laws.FnExactFallAt", spec := "fnExactFallAt", unfollowed := true, recurses := true, plainKeys := false, apart := false }
def FnExactFallAtSaid : Prop := fnExactFallAtRow.holds Try.pinned (OpenSpec.ofChange fnExactFallAtSpec)

/-- ITS FALSE NEIGHBOUR: 'it returns false'. Refute it at one input. -/
def fnExactFallAtWrong : ChangeSpec := { name := "fnExactFallAt", fn := fun _ => fun
  | [d1, d2] => { results := [.lit (.bool false)], args := [d1, d2] }
  | _ => none }
def FnExactFallAtWrongFalsely : Prop := fnExactFallAtRow.holds Try.pinned (OpenSpec.ofChange fnExactFallAtWrong)

/-- 'laws.FnExactSlopeGround': WHATEVER THE INPUT: true; the input reads as it did. -/
def fnExactSlopeGroundSpec : ChangeSpec := { name := "fnExactSlopeGround", fn := fun _ => fun
  | [d1, d2, d3, d4] => { results := [.lit (.bool true)], args := [d1, d2, d3, d4] }
  | _ => none }
def fnExactSlopeGroundRow : OpenClaim := { program := "ytkhheofgnhndbaa", sum := "e8a03cb68a8a2b986537a25e435dd4b35b11499dc0036a46cdf76f4df7719d08", func := "loop.example/g01383/laws.FnExactSlopeGround", spec := "fnExactSlopeGround", unfollowed := true, recurses := true, plainKeys := false, apart := false }
def FnExactSlopeGroundSaid : Prop := fnExactSlopeGroundRow.holds Try.pinned (OpenSpec.ofChange fnExactSlopeGroundSpec)

/-- ITS FALSE NEIGHBOUR: 'it returns false'. Refute it at one input. -/
def fnExactSlopeGroundWrong : ChangeSpec := { name := "fnExactSlopeGround", fn := fun _ => fun
  | [d1, d2, d3, d4] => { results := [.lit (.bool false)], args := [d1, d2, d3, d4] }
  | _ => none }
def FnExactSlopeGroundWrongFalsely : Prop := fnExactSlopeGroundRow.holds Try.pinned (OpenSpec.ofChange fnExactSlopeGroundWrong)

/-- 'laws.FnExactFirstShort': WHATEVER THE INPUT: true; the input reads as it did. -/
def fnExactFirstShortSpec : ChangeSpec := { name := "fnExactFirstShort", fn := fun _ => fun
  | [d1, d2] => { results := [.lit (.bool true)], args := [d1, d2] }
  | _ => none }
def fnExactFirstShortRow : OpenClaim := { program := "ytkhheofgnhndbaa", sum := "e8a03cb68a8a2b986537a25e435dd4b35b11499dc0036a46cdf76f4df7719d08", func := "loop.example/g01383/laws.FnExactFirstShort", spec := "fnExactFirstShort", unfollowed := true, recurses := true, plainKeys := false, apart := false }
def FnExactFirstShortSaid : Prop := fnExactFirstShortRow.holds Try.pinned (OpenSpec.ofChange fnExactFirstShortSpec)

/-- ITS FALSE NEIGHBOUR: 'it returns false'. Refute it at one input. -/
def fnExactFirstShortWrong : ChangeSpec := { name := "fnExactFirstShort", fn := fun _ => fun
  | [d1, d2] => { results := [.lit (.bool false)], args := [d1, d2] }
  | _ => none }
def FnExactFirstShortWrongFalsely : Prop := fnExactFirstShortRow.holds Try.pinned (OpenSpec.ofChange fnExactFirstShortWrong)

/-- 'laws.FnExactFewestGullies': WHATEVER THE INPUT: true; the input reads as it did. -/
def fnExactFewestGulliesSpec : ChangeSpec := { name := "fnExactFewestGullies", fn := fun _ => fun
  | [d] => { results := [.lit (.bool true)], args := [d] }
  | _ => none }
def fnExactFewestGulliesRow : OpenClaim := { program := "ytkhheofgnhndbaa", sum := "e8a03cb68a8a2b986537a25e435dd4b35b11499dc0036a46cdf76f4df7719d08", func := "loop.example/g01383/laws.FnExactFewestGullies", spec := "fnExactFewestGullies", unfollowed := true, recurses := true, plainKeys := false, apart := false }
def FnExactFewestGulliesSaid : Prop := fnExactFewestGulliesRow.holds Try.pinned (OpenSpec.ofChange fnExactFewestGulliesSpec)

/-- ITS FALSE NEIGHBOUR: 'it returns false'. Refute it at one input. -/
def fnExactFewestGulliesWrong : ChangeSpec := { name := "fnExactFewestGullies", fn := fun _ => fun
  | [d] => { results := [.lit (.bool false)], args := [d] }
  | _ => none }
def FnExactFewestGulliesWrongFalsely : Prop := fnExactFewestGulliesRow.holds Try.pinned (OpenSpec.ofChange fnExactFewestGulliesWrong)

/-- 'laws.FnExactKeepsFall': WHATEVER THE INPUT: true; the input reads as it did. -/
def fnExactKeepsFallSpec : ChangeSpec := { name := "fnExactKeepsFall", fn := fun _ => fun
  | [d1, d2] => { results := [.lit (.bool true)], args := [d1, d2] }
  | _ => none }
def fnExactKeepsFallRow : OpenClaim := { program := "ytkhheofgnhndbaa", sum := "e8a03cb68a8a2b986537a25e435dd4b35b11499dc0036a46cdf76f4df7719d08", func := "loop.example/g01383/laws.FnExactKeepsFall", spec := "fnExactKeepsFall", unfollowed := true, recurses := true, plainKeys := false, apart := false }
def FnExactKeepsFallSaid : Prop := fnExactKeepsFallRow.holds Try.pinned (OpenSpec.ofChange fnExactKeepsFallSpec)

/-- ITS FALSE NEIGHBOUR: 'it returns false'. Refute it at one input. -/
def fnExactKeepsFallWrong : ChangeSpec := { name := "fnExactKeepsFall", fn := fun _ => fun
  | [d1, d2] => { results := [.lit (.bool false)], args := [d1, d2] }
  | _ => none }
def FnExactKeepsFallWrongFalsely : Prop := fnExactKeepsFallRow.holds Try.pinned (OpenSpec.ofChange fnExactKeepsFallWrong)

/-- 'laws.FnExactDrainsTo': WHATEVER THE INPUT: true; the input reads as it did. -/
def fnExactDrainsToSpec : ChangeSpec := { name := "fnExactDrainsTo", fn := fun _ => fun
  | [d1, d2] => { results := [.lit (.bool true)], args := [d1, d2] }
  | _ => none }
def fnExactDrainsToRow : OpenClaim := { program := "ytkhheofgnhndbaa", sum := "e8a03cb68a8a2b986537a25e435dd4b35b11499dc0036a46cdf76f4df7719d08", func := "loop.example/g01383/laws.FnExactDrainsTo", spec := "fnExactDrainsTo", unfollowed := true, recurses := true, plainKeys := false, apart := false }
def FnExactDrainsToSaid : Prop := fnExactDrainsToRow.holds Try.pinned (OpenSpec.ofChange fnExactDrainsToSpec)

/-- ITS FALSE NEIGHBOUR: 'it returns false'. Refute it at one input. -/
def fnExactDrainsToWrong : ChangeSpec := { name := "fnExactDrainsTo", fn := fun _ => fun
  | [d1, d2] => { results := [.lit (.bool false)], args := [d1, d2] }
  | _ => none }
def FnExactDrainsToWrongFalsely : Prop := fnExactDrainsToRow.holds Try.pinned (OpenSpec.ofChange fnExactDrainsToWrong)

/-- 'laws.FnExactStandsAt': WHATEVER THE INPUT: true; the input reads as it did. -/
def fnExactStandsAtSpec : ChangeSpec := { name := "fnExactStandsAt", fn := fun _ => fun
  | [d] => { results := [.lit (.bool true)], args := [d] }
  | _ => none }
def fnExactStandsAtRow : OpenClaim := { program := "ytkhheofgnhndbaa", sum := "e8a03cb68a8a2b986537a25e435dd4b35b11499dc0036a46cdf76f4df7719d08", func := "loop.example/g01383/laws.FnExactStandsAt", spec := "fnExactStandsAt", unfollowed := true, recurses := true, plainKeys := false, apart := false }
def FnExactStandsAtSaid : Prop := fnExactStandsAtRow.holds Try.pinned (OpenSpec.ofChange fnExactStandsAtSpec)

/-- ITS FALSE NEIGHBOUR: 'it returns false'. Refute it at one input. -/
def fnExactStandsAtWrong : ChangeSpec := { name := "fnExactStandsAt", fn := fun _ => fun
  | [d] => { results := [.lit (.bool false)], args := [d] }
  | _ => none }
def FnExactStandsAtWrongFalsely : Prop := fnExactStandsAtRow.holds Try.pinned (OpenSpec.ofChange fnExactStandsAtWrong)

/- THE SECOND FORM. 'bulk': how many values and letters a reading holds, each counted each time it is reached (what is shared counts as often as it is met; a slice's spare places count too). A statement '..UptoSaid' is the law's where the arguments, and the package variables that the reading takes, are together of bulk at most 1048576: NARROWER than '..Said'. Prove '..Said' where nothing that the law and all that it calls make is longer than what came in: it says more and counts as full. Else prove '..UptoSaid'. A law counts once. -/
mutual
def uptoBulk {H : Type} : DataW H → Nat
  | .lit (.string bytes) => bytes.length + 1
  | .lit _ => 1
  | .nil => 1
  | .ptr d => uptoBulk d + 1
  | .slice elems spare => uptoBulkAll elems + uptoBulkAll spare + 1
  | .agg parts => uptoBulkAll parts + 1
  | .iface _ d => uptoBulk d + 1
  | .map entries => uptoBulkEntries entries + 1
  | .held _ => 1
def uptoBulkAll {H : Type} : List (DataW H) → Nat
  | [] => 0
  | d :: r => uptoBulk d + uptoBulkAll r
def uptoBulkEntries {H : Type} : List (Lit × DataW H) → Nat
  | [] => 0
  | x :: r => uptoBulkEntry x + uptoBulkEntries r
def uptoBulkEntry {H : Type} : Lit × DataW H → Nat
  | (.string bytes, d) => bytes.length + uptoBulk d + 1
  | (_, d) => uptoBulk d + 1
 end
def uptoSmall : (H : Type) → List (DataW H) → Bool := fun _ ds => decide (uptoBulkAll ds ≤ 1048576)
def OpenSpec.upto (s : _root_.Go.ChangeSpec) : _root_.Go.OpenSpec := { _root_.Go.OpenSpec.ofChange s with cond := some uptoSmall }

/-- 'laws.FnExactValidGround', WHERE WHAT IT READS IS OF BULK AT MOST 1048576: true; the input reads as it did. -/
def fnExactValidGroundUptoRow : OpenClaim := { program := "ytkhheofgnhndbaa", sum := "e8a03cb68a8a2b986537a25e435dd4b35b11499dc0036a46cdf76f4df7719d08", func := "loop.example/g01383/laws.FnExactValidGround", spec := "fnExactValidGround", plainKeys := false, apart := false, narrowed := true }
def FnExactValidGroundUptoSaid : Prop := fnExactValidGroundUptoRow.holds Try.pinned (OpenSpec.upto fnExactValidGroundSpec)

/-- 'laws.FnExactFlatSteps', WHERE WHAT IT READS IS OF BULK AT MOST 1048576: true; the input reads as it did. -/
def fnExactFlatStepsUptoRow : OpenClaim := { program := "ytkhheofgnhndbaa", sum := "e8a03cb68a8a2b986537a25e435dd4b35b11499dc0036a46cdf76f4df7719d08", func := "loop.example/g01383/laws.FnExactFlatSteps", spec := "fnExactFlatSteps", unfollowed := true, recurses := true, plainKeys := false, apart := false, narrowed := true }
def FnExactFlatStepsUptoSaid : Prop := fnExactFlatStepsUptoRow.holds Try.pinned (OpenSpec.upto fnExactFlatStepsSpec)

/-- 'laws.FnExactSteepestFall', WHERE WHAT IT READS IS OF BULK AT MOST 1048576: true; the input reads as it did. -/
def fnExactSteepestFallUptoRow : OpenClaim := { program := "ytkhheofgnhndbaa", sum := "e8a03cb68a8a2b986537a25e435dd4b35b11499dc0036a46cdf76f4df7719d08", func := "loop.example/g01383/laws.FnExactSteepestFall", spec := "fnExactSteepestFall", unfollowed := true, recurses := true, plainKeys := false, apart := false, narrowed := true }
def FnExactSteepestFallUptoSaid : Prop := fnExactSteepestFallUptoRow.holds Try.pinned (OpenSpec.upto fnExactSteepestFallSpec)

/-- 'laws.FnExactRaiseAll', WHERE WHAT IT READS IS OF BULK AT MOST 1048576: true; the input reads as it did. -/
def fnExactRaiseAllUptoRow : OpenClaim := { program := "ytkhheofgnhndbaa", sum := "e8a03cb68a8a2b986537a25e435dd4b35b11499dc0036a46cdf76f4df7719d08", func := "loop.example/g01383/laws.FnExactRaiseAll", spec := "fnExactRaiseAll", unfollowed := true, recurses := true, plainKeys := false, apart := false, narrowed := true }
def FnExactRaiseAllUptoSaid : Prop := fnExactRaiseAllUptoRow.holds Try.pinned (OpenSpec.upto fnExactRaiseAllSpec)

/-- 'laws.FnExactFallAt', WHERE WHAT IT READS IS OF BULK AT MOST 1048576: true; the input reads as it did. -/
def fnExactFallAtUptoRow : OpenClaim := { program := "ytkhheofgnhndbaa", sum := "e8a03cb68a8a2b986537a25e435dd4b35b11499dc0036a46cdf76f4df7719d08", func := "loop.example/g01383/laws.FnExactFallAt", spec := "fnExactFallAt", unfollowed := true, recurses := true, plainKeys := false, apart := false, narrowed := true }
def FnExactFallAtUptoSaid : Prop := fnExactFallAtUptoRow.holds Try.pinned (OpenSpec.upto fnExactFallAtSpec)

/-- 'laws.FnExactSlopeGround', WHERE WHAT IT READS IS OF BULK AT MOST 1048576: true; the input reads as it did. -/
def fnExactSlopeGroundUptoRow : OpenClaim := { program := "ytkhheofgnhndbaa", sum := "e8a03cb68a8a2b986537a25e435dd4b35b11499dc0036a46cdf76f4df7719d08", func := "loop.example/g01383/laws.FnExactSlopeGround", spec := "fnExactSlopeGround", unfollowed := true, recurses := true, plainKeys := false, apart := false, narrowed := true }
def FnExactSlopeGroundUptoSaid : Prop := fnExactSlopeGroundUptoRow.holds Try.pinned (OpenSpec.upto fnExactSlopeGroundSpec)

/-- 'laws.FnExactFirstShort', WHERE WHAT IT READS IS OF BULK AT MOST 1048576: true; the input reads as it did. -/
def fnExactFirstShortUptoRow : OpenClaim := { program := "ytkhheofgnhndbaa", sum := "e8a03cb68a8a2b986537a25e435dd4b35b11499dc0036a46cdf76f4df7719d08", func := "loop.example/g01383/laws.FnExactFirstShort", spec := "fnExactFirstShort", unfollowed := true, recurses := true, plainKeys := false, apart := false, narrowed := true }
def FnExactFirstShortUptoSaid : Prop := fnExactFirstShortUptoRow.holds Try.pinned (OpenSpec.upto fnExactFirstShortSpec)

/-- 'laws.FnExactFewestGullies', WHERE WHAT IT READS IS OF BULK AT MOST 1048576: true; the input reads as it did. -/
def fnExactFewestGulliesUptoRow : OpenClaim := { program := "ytkhheofgnhndbaa", sum := "e8a03cb68a8a2b986537a25e435dd4b35b11499dc0036a46cdf76f4df7719d08", func := "loop.example/g01383/laws.FnExactFewestGullies", spec := "fnExactFewestGullies", unfollowed := true, recurses := true, plainKeys := false, apart := false, narrowed := true }
def FnExactFewestGulliesUptoSaid : Prop := fnExactFewestGulliesUptoRow.holds Try.pinned (OpenSpec.upto fnExactFewestGulliesSpec)

/-- 'laws.FnExactKeepsFall', WHERE WHAT IT READS IS OF BULK AT MOST 1048576: true; the input reads as it did. -/
def fnExactKeepsFallUptoRow : OpenClaim := { program := "ytkhheofgnhndbaa", sum := "e8a03cb68a8a2b986537a25e435dd4b35b11499dc0036a46cdf76f4df7719d08", func := "loop.example/g01383/laws.FnExactKeepsFall", spec := "fnExactKeepsFall", unfollowed := true, recurses := true, plainKeys := false, apart := false, narrowed := true }
def FnExactKeepsFallUptoSaid : Prop := fnExactKeepsFallUptoRow.holds Try.pinned (OpenSpec.upto fnExactKeepsFallSpec)

/-- 'laws.FnExactDrainsTo', WHERE WHAT IT READS IS OF BULK AT MOST 1048576: true; the input reads as it did. -/
def fnExactDrainsToUptoRow : OpenClaim := { program := "ytkhheofgnhndbaa", sum := "e8a03cb68a8a2b986537a25e435dd4b35b11499dc0036a46cdf76f4df7719d08", func := "loop.example/g01383/laws.FnExactDrainsTo", spec := "fnExactDrainsTo", unfollowed := true, recurses := true, plainKeys := false, apart := false, narrowed := true }
def FnExactDrainsToUptoSaid : Prop := fnExactDrainsToUptoRow.holds Try.pinned (OpenSpec.upto fnExactDrainsToSpec)

/-- 'laws.FnExactStandsAt', WHERE WHAT IT READS IS OF BULK AT MOST 1048576: true; the input reads as it did. -/
def fnExactStandsAtUptoRow : OpenClaim := { program := "ytkhheofgnhndbaa", sum := "e8a03cb68a8a2b986537a25e435dd4b35b11499dc0036a46cdf76f4df7719d08", func := "loop.example/g01383/laws.FnExactStandsAt", spec := "fnExactStandsAt", unfollowed := true, recurses := true, plainKeys := false, apart := false, narrowed := true }
def FnExactStandsAtUptoSaid : Prop := fnExactStandsAtUptoRow.holds Try.pinned (OpenSpec.upto fnExactStandsAtSpec)

end Rows
end Go.Proofs.Ytkhheofgnhndbaa
