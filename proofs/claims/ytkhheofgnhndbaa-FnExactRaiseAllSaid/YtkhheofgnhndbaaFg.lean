/- Grounds: small functions. No statement is proved here. -/
import Derived.Test.YtkhheofgnhndbaaFc
import Derived.Test.YtkhheofgnhndbaaA4
namespace Go.Proofs.Ytkhheofgnhndbaa
open Go.RowKit
set_option linter.unusedVariables false
set_option linter.unusedSimpArgs false
set_option maxRecDepth 100000
set_option maxHeartbeats 4000000
abbrev G := Int × Int × List (List Int) × List (Int × Int)
abbrev aG (g : G) : Arg := .imm (.dat (groundT 40) g)
abbrev aGp (g : G) : Arg := .imm (.ref (.dat (groundT 40) g))
abbrev aC (p : Int × Int) : Arg := .imm (.dat cellT p)
abbrev aI (x : Int) : Arg := .imm (.dat (.int .i64) x)
abbrev aB (b : Bool) : Arg := .imm (.dat .bool b)
abbrev rI : Bool × Ty := (false, .int .i64)
abbrev rB : Bool × Ty := (false, .bool)
abbrev rC : Bool × Ty := (false, cellT)
abbrev oC : Bool × Ty := (true, .slice 40 cellT)
def inB (n lo hi : Int) : Bool := decide (lo ≤ n) && decide (n ≤ hi)
theorem within_ev (n lo hi : Int) : Ev Try.prog 50 [aI n, aI lo, aI hi] (compsOf [rB] (inB n lo hi)) := by
  refine ev_of (l := [rB]) (r := (inB n lo hi)) (types (resT) [] (fun _ _ => none)) follows Try.func50 (by kernel_rfl) (by rw [Try.ntmps50]; exact Nat.le_of_ble_eq_true rfl) ?_
  have key : (inR IntKind.i64 n →
    inR IntKind.i64 lo →
      inR IntKind.i64 hi → split (decide (lo ≤ n)) (decide (n ≤ hi) = inB n lo hi) (false = inB n lo hi)) := by
    repeat' (first
      | (intro hh; try simp only [inR, loK, hiK] at hh)
      | exact trivial
      | (refine And.intro ?_ ?_)
      | (refine split_of (fun hh => ?_) (fun hh => ?_)))
    all_goals (first | omega | rfl | (simp_all [inB]; done) | (simp_all [inB]; omega))
  refine @Eq.mpr _ _ (?_) key
  kernel_rfl
theorem l00In_ev (n lo hi : Int) : Ev Try.prog 64 [aI n, aI lo, aI hi] (compsOf [rB] (inB n lo hi)) := by
  refine ev_of (l := [rB]) (r := (inB n lo hi)) (types (resT) [] (fun _ _ => none)) follows Try.func64 (by kernel_rfl) (by rw [Try.ntmps64]; exact Nat.le_of_ble_eq_true rfl) ?_
  have key : (inR IntKind.i64 n →
    inR IntKind.i64 lo →
      inR IntKind.i64 hi → split (decide (lo ≤ n)) (decide (n ≤ hi) = inB n lo hi) (false = inB n lo hi)) := by
    repeat' (first
      | (intro hh; try simp only [inR, loK, hiK] at hh)
      | exact trivial
      | (refine And.intro ?_ ?_)
      | (refine split_of (fun hh => ?_) (fun hh => ?_)))
    all_goals (first | omega | rfl | (simp_all [inB]; done) | (simp_all [inB]; omega))
  refine @Eq.mpr _ _ (?_) key
  kernel_rfl
theorem l04Is_ev (g : G) (p : Int × Int) : Ev Try.prog 68 [aGp g, aC p] (compsOf [rB] (inB p.1 0 (g.1 - 1) && inB p.2 0 (g.2.1 - 1))) := by
  refine ev_of (l := [rB]) (r := (inB p.1 0 (g.1 - 1) && inB p.2 0 (g.2.1 - 1))) (types (resT) [] (fun _ _ => none)) follows Try.func68 (by kernel_rfl) (by rw [Try.ntmps68]; exact Nat.le_of_ble_eq_true rfl) ?_
  have key : (inR IntKind.i8 p.fst →
    inR IntKind.i8 p.snd →
      inR IntKind.i8 p.fst →
        (-9223372036854775808 ≤ p.fst ∧ p.fst ≤ 9223372036854775807) ∧
          (inR IntKind.i8 g.fst →
            (-9223372036854775808 ≤ g.fst ∧ g.fst ≤ 9223372036854775807) ∧
              (-9223372036854775808 ≤ g.fst - 1 ∧ g.fst - 1 ≤ 9223372036854775807) ∧
                ∃ (r : Bool),
                  Ev Try.prog 64
                      [Arg.imm (D.dat (Ty.int IntKind.i64) p.fst), Arg.imm (D.dat (Ty.int IntKind.i64) 0),
                        Arg.imm (D.dat (Ty.int IntKind.i64) (g.fst - 1))]
                      (compsOf [(false, Ty.bool)] r) ∧
                    split r
                      (inR IntKind.i8 p.snd →
                        (-9223372036854775808 ≤ p.snd ∧ p.snd ≤ 9223372036854775807) ∧
                          (inR IntKind.i8 g.snd.fst →
                            (-9223372036854775808 ≤ g.snd.fst ∧ g.snd.fst ≤ 9223372036854775807) ∧
                              (-9223372036854775808 ≤ g.snd.fst - 1 ∧ g.snd.fst - 1 ≤ 9223372036854775807) ∧
                                ∃ (r : Bool),
                                  Ev Try.prog 64
                                      [Arg.imm (D.dat (Ty.int IntKind.i64) p.snd),
                                        Arg.imm (D.dat (Ty.int IntKind.i64) 0),
                                        Arg.imm (D.dat (Ty.int IntKind.i64) (g.snd.fst - 1))]
                                      (compsOf [(false, Ty.bool)] r) ∧
                                    r = (inB p.fst 0 (g.fst - 1) && inB p.snd 0 (g.snd.fst - 1))))
                      (false = (inB p.fst 0 (g.fst - 1) && inB p.snd 0 (g.snd.fst - 1))))) := by
    repeat' (first
      | (intro hh; try simp only [inR, loK, hiK] at hh)
      | exact trivial
      | (refine ⟨_, l00In_ev _ _ _, ?_⟩)
      | (refine And.intro ?_ ?_)
      | (refine split_of (fun hh => ?_) (fun hh => ?_)))
    all_goals (first | omega | rfl | (simp_all []; done) | (simp_all []; omega))
  refine @Eq.mpr _ _ (?_) key
  kernel_rfl
theorem l04Height_ev (g : G) (p : Int × Int) (h1 : 0 ≤ p.1 ∧ p.1 < 9) (h2 : 0 ≤ p.2 ∧ p.2 < 9) : Ev Try.prog 56 [aGp g, aC p] (compsOf [rI] (hgt g p)) := by
  refine ev_of (l := [rI]) (r := (hgt g p)) (types (resT) [] (fun _ _ => none)) follows Try.func56 (by kernel_rfl) (by rw [Try.ntmps56]; exact Nat.le_of_ble_eq_true rfl) ?_
  have key : (inR IntKind.i8 p.fst →
    inR IntKind.i8 p.snd →
      inR IntKind.i8 p.snd →
        inR IntKind.i8 p.fst →
          (0 ≤ p.snd ∧ p.snd < ((9 : Nat) : Int)) ∧
            (0 ≤ p.fst ∧ p.fst < ((9 : Nat) : Int)) ∧
              (inR IntKind.i16 ((g.snd.snd.fst.getD p.snd.toNat (List.replicate 9 0)).getD p.fst.toNat 0) →
                (-9223372036854775808 ≤ (g.snd.snd.fst.getD p.snd.toNat (List.replicate 9 0)).getD p.fst.toNat 0 ∧
                    (g.snd.snd.fst.getD p.snd.toNat (List.replicate 9 0)).getD p.fst.toNat 0 ≤ 9223372036854775807) ∧
                  (g.snd.snd.fst.getD p.snd.toNat (List.replicate 9 0)).getD p.fst.toNat 0 = hgt g p)) := by
    repeat' (first
      | (intro hh; try simp only [inR, loK, hiK] at hh)
      | exact trivial
      | (refine And.intro ?_ ?_)
      | (refine split_of (fun hh => ?_) (fun hh => ?_)))
    all_goals (first | omega | rfl | (simp_all [hgt]; done) | (simp_all [hgt]; omega))
  refine @Eq.mpr _ _ (?_) key
  kernel_rfl
end Go.Proofs.Ytkhheofgnhndbaa
