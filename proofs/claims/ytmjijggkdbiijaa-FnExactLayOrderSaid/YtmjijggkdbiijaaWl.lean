/- Orders of laying: the square of a set, slab by slab. No statement is proved here. -/
import Derived.Test.YtmjijggkdbiijaaWk
namespace Go.Proofs.Ytmjijggkdbiijaa
open Go.RowKit
set_option linter.unusedVariables false
set_option linter.unusedSimpArgs false
section
variable {q : Sq} {list : List Sl}
end
section
variable {P : Program} {C R : List Nat} {o : Oper} {σ : List Slot}
end
/-- What is one's own may be told as what nobody writes. -/
theorem ev_freeze {P : Program} {f : Nat} {args : List Arg} {t : Ty} {x : t.T} (h : Ev P f args [.own t x]) : Ev P f args [.val (.dat t x)] := by
  refine ⟨h.1, fun w lab vs hlt hlen hok => Calls.mono (h.2 w lab vs hlt hlen hok) ?_⟩
  rintro e w' ⟨v, lab', e1, f1, f2, f3, f4, cs, f5, f6⟩
  obtain ⟨lab2, hlab⟩ : ∃ lab2 : Lab, lab2 = fun g => match lab' g with
    | some (N, k, m) => if N = 0 then none else some (N, k, m)
    | none => none := ⟨_, rfl⟩
  have h0 : ∀ g, lab' g = none → lab2 g = none := fun g hg => by rw [hlab]; simp only [hg]
  have hsome : ∀ g p, lab2 g = some p → ∃ p', lab' g = some p' := fun g p hg => by
    cases hl : lab' g with
    | none => rw [h0 g hl] at hg; cases hg
    | some p' => exact ⟨p', rfl⟩
  refine ⟨v, lab2, e1, f1, fun g hg hn => h0 g (f2 g hg hn), fun g k m hg => ?_, fun g p hg => by obtain ⟨p', hp⟩ := hsome g p hg; exact f4 g p' hp, cs, ?_, f5⟩
  · have := f3 g k m hg
    rw [hlab]; simp only [this]
    rw [if_neg (by decide)]
  · refine Own.imm (fun g hg => ⟨h0 g hg.1, hg.2⟩) (fun i g hg => ⟨?_, f4 g _ hg⟩) f6
    have hg : lab' g = some (0, 0, i + 1) := hg
    rw [hlab]; simp only [hg]
    rw [if_pos trivial]
end Go.Proofs.Ytmjijggkdbiijaa
