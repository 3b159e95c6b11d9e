/-
  No cell of these rows narrows 'for every input' (looked for: loops, veiled, ifaces, maps, wideKeys, modest, calm, conditions, laid).
  DERIVED. THE GIVEN ROWS OF THIS SEAT. 4 by the template 'for every input the law returns true; each argument reads behind the call as it read before'; 0 by the template 'total and deterministic' (their statements: YtjicolekkojonaaTotals.lean).
  GIVEN WITH THE SEED: the statements are not yours to turn. If you find one false, say at which input.
  Laid BY PROGRAM, IN A SANDBOX (cutbox-rows.mjs): the forced cells as the released guide's own fill.sh prints them over the translation 10933ca55a9084ab… (all of the seat's roots in one cut). By AI agents, Wed Nov 11 2026. No macro, syntax, notation, axiom, sorry.
-/
import Derived.Test.YtjicolekkojonaaChecked
import GoSem.Claim
import GoSem.ClaimJoined
import GoSem.ClaimMapViews
import Derived.JoinedTies
import Derived.KernelRfl
namespace Go.Proofs.Ytjicolekkojonaa
/- THE CELL 'sum', in the pinned program and in every row, IS THE sha256 OF THE DUMP (.gsa) THAT YtjicolekkojonaaProg.lean LOADS. Nothing in Lean hashes anything: it is a label: what it is worth is what the hold of that sum in a sandbox is worth. -/
noncomputable def Try.pinned : Pinned := { name := "ytjicolekkojonaa", sum := "10933ca55a9084abcbd57dc118c2059e9d715a5957a3527ed2c1d078829a9fec", checked := Try.checked }
namespace Rows
def none {H : Type} : Left H := { results := [], args := [] }

/-- 'laws.FnExactFewestLoads': WHATEVER THE INPUT: true; the input reads as it did. -/
def fnExactFewestLoadsSpec : ChangeSpec := { name := "fnExactFewestLoads", fn := fun _ => fun
  | [d1, d2] => { results := [.lit (.bool true)], args := [d1, d2] }
  | _ => none }
def fnExactFewestLoadsRow : OpenClaim := { program := "ytjicolekkojonaa", sum := "10933ca55a9084abcbd57dc118c2059e9d715a5957a3527ed2c1d078829a9fec", func := "loop.example/g01383/laws.FnExactFewestLoads", spec := "fnExactFewestLoads", unfollowed := true, recurses := true, apart := false }
def FnExactFewestLoadsSaid : Prop := fnExactFewestLoadsRow.holds Try.pinned (OpenSpec.ofChange fnExactFewestLoadsSpec)

/-- ITS FALSE NEIGHBOUR: 'it returns false'. Refute it at one input. -/
def fnExactFewestLoadsWrong : ChangeSpec := { name := "fnExactFewestLoads", fn := fun _ => fun
  | [d1, d2] => { results := [.lit (.bool false)], args := [d1, d2] }
  | _ => none }
def FnExactFewestLoadsWrongFalsely : Prop := fnExactFewestLoadsRow.holds Try.pinned (OpenSpec.ofChange fnExactFewestLoadsWrong)

/-- 'laws.FnExactCheckStacks': WHATEVER THE INPUT: true; the input reads as it did. -/
def fnExactCheckStacksSpec : ChangeSpec := { name := "fnExactCheckStacks", fn := fun _ => fun
  | [d1, d2, d3] => { results := [.lit (.bool true)], args := [d1, d2, d3] }
  | _ => none }
def fnExactCheckStacksRow : OpenClaim := { program := "ytjicolekkojonaa", sum := "10933ca55a9084abcbd57dc118c2059e9d715a5957a3527ed2c1d078829a9fec", func := "loop.example/g01383/laws.FnExactCheckStacks", spec := "fnExactCheckStacks", unfollowed := true, recurses := true, apart := false }
def FnExactCheckStacksSaid : Prop := fnExactCheckStacksRow.holds Try.pinned (OpenSpec.ofChange fnExactCheckStacksSpec)

/-- ITS FALSE NEIGHBOUR: 'it returns false'. Refute it at one input. -/
def fnExactCheckStacksWrong : ChangeSpec := { name := "fnExactCheckStacks", fn := fun _ => fun
  | [d1, d2, d3] => { results := [.lit (.bool false)], args := [d1, d2, d3] }
  | _ => none }
def FnExactCheckStacksWrongFalsely : Prop := fnExactCheckStacksRow.holds Try.pinned (OpenSpec.ofChange fnExactCheckStacksWrong)

/-- 'laws.FnExactTakeOrder': WHATEVER THE INPUT: true; the input reads as it did. -/
def fnExactTakeOrderSpec : ChangeSpec := { name := "fnExactTakeOrder", fn := fun _ => fun
  | [d1, d2] => { results := [.lit (.bool true)], args := [d1, d2] }
  | _ => none }
def fnExactTakeOrderRow : OpenClaim := { program := "ytjicolekkojonaa", sum := "10933ca55a9084abcbd57dc118c2059e9d715a5957a3527ed2c1d078829a9fec", func := "loop.example/g01383/laws.FnExactTakeOrder", spec := "fnExactTakeOrder", unfollowed := true, recurses := true, apart := false }
def FnExactTakeOrderSaid : Prop := fnExactTakeOrderRow.holds Try.pinned (OpenSpec.ofChange fnExactTakeOrderSpec)

/-- ITS FALSE NEIGHBOUR: 'it returns false'. Refute it at one input. -/
def fnExactTakeOrderWrong : ChangeSpec := { name := "fnExactTakeOrder", fn := fun _ => fun
  | [d1, d2] => { results := [.lit (.bool false)], args := [d1, d2] }
  | _ => none }
def FnExactTakeOrderWrongFalsely : Prop := fnExactTakeOrderRow.holds Try.pinned (OpenSpec.ofChange fnExactTakeOrderWrong)

/-- 'laws.FnExactFewestStacks': WHATEVER THE INPUT: true; the input reads as it did. -/
def fnExactFewestStacksSpec : ChangeSpec := { name := "fnExactFewestStacks", fn := fun _ => fun
  | [d1, d2] => { results := [.lit (.bool true)], args := [d1, d2] }
  | _ => none }
def fnExactFewestStacksRow : OpenClaim := { program := "ytjicolekkojonaa", sum := "10933ca55a9084abcbd57dc118c2059e9d715a5957a3527ed2c1d078829a9fec", func := "loop.example/g01383/laws.FnExactFewestStacks", spec := "fnExactFewestStacks", unfollowed := true, recurses := true, apart := false }
def FnExactFewestStacksSaid : Prop := fnExactFewestStacksRow.holds Try.pinned (OpenSpec.ofChange fnExactFewestStacksSpec)

/-- ITS FALSE NEIGHBOUR: 'it returns false'. Refute it at one input. -/
def fnExactFewestStacksWrong : ChangeSpec := { name := "fnExactFewestStacks", fn := fun _ => fun
  | [d1, d2] => { results := [.lit (.bool false)], args := [d1, d2] }
  | _ => none }
def FnExactFewestStacksWrongFalsely : Prop := fnExactFewestStacksRow.holds Try.pinned (OpenSpec.ofChange fnExactFewestStacksWrong)

/- THE SECOND FORM. 'bulk': how many values and letters a reading holds, each counted each time it is reached (what is shared counts as often as it is met; a slice's spare places count too). A statement '..UptoSaid' is the law's where the arguments, and the package variables that the reading takes, are together of bulk at most 1048576: NARROWER than '..Said'. Prove '..Said' where nothing that the law and all that it calls make is longer than what came in: it says more and counts as full. Else prove '..UptoSaid'. A law counts once. -/
mutual
def uptoBulk {H : Type} : DataW H → Nat
  | .lit (.string bytes) => bytes.length + 1
  | .lit _ => 1
  | .nil => 1
  | .ptr d => uptoBulk d + 1
  | .slice elems spare => uptoBulkAll elems + uptoBulkAll spare + 1
  | .agg parts => uptoBulkAll parts + 1
  | .iface _ d => uptoBulk d + 1
  | .map entries => uptoBulkEntries entries + 1
  | .held _ => 1
def uptoBulkAll {H : Type} : List (DataW H) → Nat
  | [] => 0
  | d :: r => uptoBulk d + uptoBulkAll r
def uptoBulkEntries {H : Type} : List (Lit × DataW H) → Nat
  | [] => 0
  | x :: r => uptoBulkEntry x + uptoBulkEntries r
def uptoBulkEntry {H : Type} : Lit × DataW H → Nat
  | (.string bytes, d) => bytes.length + uptoBulk d + 1
  | (_, d) => uptoBulk d + 1
 end
def uptoSmall : (H : Type) → List (DataW H) → Bool := fun _ ds => decide (uptoBulkAll ds ≤ 1048576)
def OpenSpec.upto (s : _root_.Go.ChangeSpec) : _root_.Go.OpenSpec := { _root_.Go.OpenSpec.ofChange s with cond := some uptoSmall }

/-- 'laws.FnExactFewestLoads', WHERE WHAT IT READS IS OF BULK AT MOST 1048576: true; the input reads as it did. -/
def fnExactFewestLoadsUptoRow : OpenClaim := { program := "ytjicolekkojonaa", sum := "10933ca55a9084abcbd57dc118c2059e9d715a5957a3527ed2c1d078829a9fec", func := "loop.example/g01383/laws.FnExactFewestLoads", spec := "fnExactFewestLoads", unfollowed := true, recurses := true, apart := false, narrowed := true }
def FnExactFewestLoadsUptoSaid : Prop := fnExactFewestLoadsUptoRow.holds Try.pinned (OpenSpec.upto fnExactFewestLoadsSpec)

/-- 'laws.FnExactCheckStacks', WHERE WHAT IT READS IS OF BULK AT MOST 1048576: true; the input reads as it did. -/
def fnExactCheckStacksUptoRow : OpenClaim := { program := "ytjicolekkojonaa", sum := "10933ca55a9084abcbd57dc118c2059e9d715a5957a3527ed2c1d078829a9fec", func := "loop.example/g01383/laws.FnExactCheckStacks", spec := "fnExactCheckStacks", unfollowed := true, recurses := true, apart := false, narrowed := true }
def FnExactCheckStacksUptoSaid : Prop := fnExactCheckStacksUptoRow.holds Try.pinned (OpenSpec.upto fnExactCheckStacksSpec)

/-- 'laws.FnExactTakeOrder', WHERE WHAT IT READS IS OF BULK AT MOST 1048576: true; the input reads as it did. -/
def fnExactTakeOrderUptoRow : OpenClaim := { program := "ytjicolekkojonaa", sum := "10933ca55a9084abcbd57dc118c2059e9d715a5957a3527ed2c1d078829a9fec", func := "loop.example/g01383/laws.FnExactTakeOrder", spec := "fnExactTakeOrder", unfollowed := true, recurses := true, apart := false, narrowed := true }
def FnExactTakeOrderUptoSaid : Prop := fnExactTakeOrderUptoRow.holds Try.pinned (OpenSpec.upto fnExactTakeOrderSpec)

/-- 'laws.FnExactFewestStacks', WHERE WHAT IT READS IS OF BULK AT MOST 1048576: true; the input reads as it did. -/
def fnExactFewestStacksUptoRow : OpenClaim := { program := "ytjicolekkojonaa", sum := "10933ca55a9084abcbd57dc118c2059e9d715a5957a3527ed2c1d078829a9fec", func := "loop.example/g01383/laws.FnExactFewestStacks", spec := "fnExactFewestStacks", unfollowed := true, recurses := true, apart := false, narrowed := true }
def FnExactFewestStacksUptoSaid : Prop := fnExactFewestStacksUptoRow.holds Try.pinned (OpenSpec.upto fnExactFewestStacksSpec)

end Rows
end Go.Proofs.Ytjicolekkojonaa
