/- The height at a cell. No statement is proved here. -/
import Derived.Test.YtkhheofgnhndbaaFb
namespace Go.Proofs.Ytkhheofgnhndbaa
open Go.RowKit
set_option linter.unusedVariables false
set_option linter.unusedSimpArgs false
set_option maxRecDepth 100000
set_option maxHeartbeats 4000000
def hgt (g : (groundT 40).T) (p : Int × Int) : Int := (g.2.2.1.getD p.2.toNat (List.replicate 9 0)).getD p.1.toNat 0
theorem follows : Try.prog.follows .mixedOrders = true := by kernel_rfl
theorem height_ev (g : (groundT 40).T) (p : cellT.T) (h1 : 0 ≤ p.1 ∧ p.1 < 9) (h2 : 0 ≤ p.2 ∧ p.2 < 9) : Ev Try.prog 61 [.imm (.dat (groundT 40) g), .imm (.dat cellT p)] [.val (.dat (.int .i64) (hgt g p))] := by
  refine ev_of (l := [(false, .int .i64)]) (r := hgt g p) (types resT [] fun _ _ => none) follows Try.func61 (by kernel_rfl) (by rw [Try.ntmps61]; exact (by decide : 2 ≤ 14)) ?_
  have key : (inR .i8 g.1 → inR .i8 g.2.1 → (Ty.arr 9 (.arr 9 (.int .i16))).ok g.2.2.1 → (Ty.slice 40 cellT).ok g.2.2.2 → inR .i8 p.1 → inR .i8 p.2 → inR .i8 p.2 → inR .i8 p.1 → (0 ≤ p.2 ∧ p.2 < (9 : Nat)) ∧ (0 ≤ p.1 ∧ p.1 < (9 : Nat)) ∧
      (inR .i16 (hgt g p) → (-9223372036854775808 ≤ hgt g p ∧ hgt g p ≤ 9223372036854775807) ∧ hgt g p = hgt g p)) := by
    intro _ _ _ _ _ _ _ _
    refine ⟨h2, h1, fun h => ⟨?_, rfl⟩⟩
    simp only [inR, loK, hiK] at h
    omega
  refine @Eq.mpr _ _ (?_) key
  kernel_rfl
end Go.Proofs.Ytkhheofgnhndbaa
