/- Joints, as the other side tells them. No statement is proved here. -/
import Derived.Test.YtmjijggkdbiijaaSk
namespace Go.Proofs.Ytmjijggkdbiijaa
open Go.RowKit
set_option linter.unusedVariables false
set_option linter.unusedSimpArgs false
set_option maxRecDepth 100000
set_option maxHeartbeats 4000000
abbrev aGr (g : Gr) : Arg := .imm (.ref (.dat gT g))
abbrev a8 (x : Int) : Arg := .imm (.dat (.int .i8) x)
def lessV (x : Int) (c : Bool) : Int := if c then x else x - 1
theorem l01Less_ev (x : Int) (c : Bool) (hx : 0 ≤ x) : Ev Try.prog 156 [a8 x, aB c] (compsOf [(false, .int .i8)] (lessV x c)) := by
  refine ev_of (l := [(false, .int .i8)]) (r := (lessV x c)) (types (resT) [] (fun _ _ => none)) follows Try.func156 (by kernel_rfl) (by rw [Try.ntmps156]; exact Nat.le_of_ble_eq_true rfl) ?_
  have key : (inR IntKind.i8 x → split c (x = lessV x c) ((-128 ≤ x - 1 ∧ x - 1 ≤ 127) ∧ x - 1 = lessV x c)) := by
    repeat' (first
      | (intro hh; try simp only [inR, loK, hiK] at hh)
      | exact trivial
      | (refine And.intro ?_ ?_)
      | (refine split_of (fun hh => ?_) (fun hh => ?_)))
    all_goals (first | omega | rfl | (simp_all [lessV]; done) | (simp_all [lessV]; omega))
  refine @Eq.mpr _ _ (?_) key
  kernel_rfl
def othG (g : Gr) (x y : Int) (c : Bool) : Int := if c then gget g x (y - 1) else gget g (x - 1) y
def jointG (g : Gr) (x y : Int) (c : Bool) : Bool :=
  if x < 0 then false else if y < 0 then false else if 12 ≤ x then false else if 12 ≤ y then false else
    if c = true ∧ y = 0 then false else if c = false ∧ x = 0 then false else
      if gget g x y = 0 then false else if othG g x y c = 0 then false else !(decide (gget g x y = othG g x y c))
theorem jointG_mid {g : Gr} {x y : Int} {c : Bool} (h1 : 0 ≤ x ∧ x < 12) (h2 : 0 ≤ y ∧ y < 12) (h3 : c = true → y ≠ 0) (h4 : c = false → x ≠ 0) (h5 : gget g x y ≠ 0) (h6 : othG g x y c ≠ 0) :
    (!(decide (gget g x y = othG g x y c))) = jointG g x y c := by
  rw [jointG, if_neg (by omega), if_neg (by omega), if_neg (by omega), if_neg (by omega), if_neg (fun r => h3 r.1 r.2), if_neg (fun r => h4 r.1 r.2), if_neg h5, if_neg h6]
theorem l01Joint_ev (g : Gr) (x y : Int) (c : Bool) : Ev Try.prog 126 [aGr g, a8 x, a8 y, aB c] (compsOf [rB] (jointG g x y c)) := by
  refine ev_of (l := [rB]) (r := (jointG g x y c)) (types (resT) [] (fun _ _ => none)) follows Try.func126 (by kernel_rfl) (by rw [Try.ntmps126]; exact Nat.le_of_ble_eq_true rfl) ?_
  have key : (inR IntKind.i8 x → inR IntKind.i8 y → split (!decide (x < 0)) (split (!decide (y < 0)) (split (!decide (12 ≤ x)) (split (!decide (12 ≤ y)) (split c (split (!decide (y = 0)) (split (!c) (split (decide
      (x = 0)) (false = jointG g x y c) (∃ (r : Int), Ev Try.prog 156 [Arg.imm (D.dat (Ty.int IntKind.i8) x), Arg.imm (D.dat Ty.bool c)] (compsOf [(false, Ty.int IntKind.i8)] r) ∧ (inR IntKind.i8 r → (0 ≤
      y ∧ y < ((12 : Nat) : Int)) ∧ (0 ≤ r ∧ r < ((12 : Nat) : Int)) ∧ (inR IntKind.i64 ((List.getD g y.toNat (List.replicate 12 0)).getD r.toNat 0) → split c ((-128 ≤ y - 1 ∧ y - 1 ≤ 127) ∧ (0 ≤ y - 1 ∧ y
      - 1 < ((12 : Nat) : Int)) ∧ (0 ≤ x ∧ x < ((12 : Nat) : Int)) ∧ (inR IntKind.i64 ((List.getD g (y - 1).toNat (List.replicate 12 0)).getD x.toNat 0) → (0 ≤ y ∧ y < ((12 : Nat) : Int)) ∧ (0 ≤ x ∧ x <
      ((12 : Nat) : Int)) ∧ (inR IntKind.i64 ((List.getD g y.toNat (List.replicate 12 0)).getD x.toNat 0) → split (!decide ((List.getD g y.toNat (List.replicate 12 0)).getD x.toNat 0 = 0)) (split (!decide
      ((List.getD g (y - 1).toNat (List.replicate 12 0)).getD x.toNat 0 = 0)) ((0 ≤ y ∧ y < ((12 : Nat) : Int)) ∧ (0 ≤ x ∧ x < ((12 : Nat) : Int)) ∧ (inR IntKind.i64 ((List.getD g y.toNat (List.replicate
      12 0)).getD x.toNat 0) → (!decide ((List.getD g y.toNat (List.replicate 12 0)).getD x.toNat 0 = (List.getD g (y - 1).toNat (List.replicate 12 0)).getD x.toNat 0)) = jointG g x y c)) (false = jointG g
      x y c)) (false = jointG g x y c)))) ((0 ≤ y ∧ y < ((12 : Nat) : Int)) ∧ (0 ≤ x ∧ x < ((12 : Nat) : Int)) ∧ (inR IntKind.i64 ((List.getD g y.toNat (List.replicate 12 0)).getD x.toNat 0) → split
      (!decide ((List.getD g y.toNat (List.replicate 12 0)).getD x.toNat (0 : Int) = 0)) (split (!decide ((List.getD g y.toNat (List.replicate 12 0)).getD r.toNat (0 : Int) = 0)) ((0 ≤ y ∧ y < ((12 : Nat)
      : Int)) ∧ (0 ≤ x ∧ x < ((12 : Nat) : Int)) ∧ (inR IntKind.i64 ((List.getD g y.toNat (List.replicate 12 0)).getD x.toNat 0) → (!decide ((List.getD g y.toNat (List.replicate 12 0)).getD x.toNat 0 =
      (List.getD g y.toNat (List.replicate 12 0)).getD r.toNat 0)) = jointG g x y c)) (false = jointG g x y c)) (false = jointG g x y c))))))) (∃ (r : Int), Ev Try.prog 156 [Arg.imm (D.dat (Ty.int
      IntKind.i8) x), Arg.imm (D.dat Ty.bool c)] (compsOf [(false, Ty.int IntKind.i8)] r) ∧ (inR IntKind.i8 r → (0 ≤ y ∧ y < ((12 : Nat) : Int)) ∧ (0 ≤ r ∧ r < ((12 : Nat) : Int)) ∧ (inR IntKind.i64
      ((List.getD g y.toNat (List.replicate 12 0)).getD r.toNat 0) → split c ((-128 ≤ y - 1 ∧ y - 1 ≤ 127) ∧ (0 ≤ y - 1 ∧ y - 1 < ((12 : Nat) : Int)) ∧ (0 ≤ x ∧ x < ((12 : Nat) : Int)) ∧ (inR IntKind.i64
      ((List.getD g (y - 1).toNat (List.replicate 12 0)).getD x.toNat 0) → (0 ≤ y ∧ y < ((12 : Nat) : Int)) ∧ (0 ≤ x ∧ x < ((12 : Nat) : Int)) ∧ (inR IntKind.i64 ((List.getD g y.toNat (List.replicate 12
      0)).getD x.toNat 0) → split (!decide ((List.getD g y.toNat (List.replicate 12 0)).getD x.toNat (0 : Int) = 0)) (split (!decide ((List.getD g (y - 1).toNat (List.replicate 12 0)).getD x.toNat 0 = 0))
      ((0 ≤ y ∧ y < ((12 : Nat) : Int)) ∧ (0 ≤ x ∧ x < ((12 : Nat) : Int)) ∧ (inR IntKind.i64 ((List.getD g y.toNat (List.replicate 12 0)).getD x.toNat 0) → (!decide ((List.getD g y.toNat (List.replicate
      12 0)).getD x.toNat 0 = (List.getD g (y - 1).toNat (List.replicate 12 0)).getD x.toNat 0)) = jointG g x y c)) (false = jointG g x y c)) (false = jointG g x y c)))) ((0 ≤ y ∧ y < ((12 : Nat) : Int)) ∧
      (0 ≤ x ∧ x < ((12 : Nat) : Int)) ∧ (inR IntKind.i64 ((List.getD g y.toNat (List.replicate 12 0)).getD x.toNat 0) → split (!decide ((List.getD g y.toNat (List.replicate 12 0)).getD x.toNat (0 : Int) =
      0)) (split (!decide ((List.getD g y.toNat (List.replicate 12 0)).getD r.toNat (0 : Int) = 0)) ((0 ≤ y ∧ y < ((12 : Nat) : Int)) ∧ (0 ≤ x ∧ x < ((12 : Nat) : Int)) ∧ (inR IntKind.i64 ((List.getD g
      y.toNat (List.replicate 12 0)).getD x.toNat 0) → (!decide ((List.getD g y.toNat (List.replicate 12 0)).getD x.toNat 0 = (List.getD g y.toNat (List.replicate 12 0)).getD r.toNat 0)) = jointG g x y c))
      (false = jointG g x y c)) (false = jointG g x y c))))))) (false = jointG g x y c)) (split (!c) (split (decide (x = 0)) (false = jointG g x y c) (∃ (r : Int), Ev Try.prog 156 [Arg.imm (D.dat (Ty.int
      IntKind.i8) x), Arg.imm (D.dat Ty.bool c)] (compsOf [(false, Ty.int IntKind.i8)] r) ∧ (inR IntKind.i8 r → (0 ≤ y ∧ y < ((12 : Nat) : Int)) ∧ (0 ≤ r ∧ r < ((12 : Nat) : Int)) ∧ (inR IntKind.i64
      ((List.getD g y.toNat (List.replicate 12 0)).getD r.toNat 0) → split c ((-128 ≤ y - 1 ∧ y - 1 ≤ 127) ∧ (0 ≤ y - 1 ∧ y - 1 < ((12 : Nat) : Int)) ∧ (0 ≤ x ∧ x < ((12 : Nat) : Int)) ∧ (inR IntKind.i64
      ((List.getD g (y - 1).toNat (List.replicate 12 0)).getD x.toNat 0) → (0 ≤ y ∧ y < ((12 : Nat) : Int)) ∧ (0 ≤ x ∧ x < ((12 : Nat) : Int)) ∧ (inR IntKind.i64 ((List.getD g y.toNat (List.replicate 12
      0)).getD x.toNat 0) → split (!decide ((List.getD g y.toNat (List.replicate 12 0)).getD x.toNat (0 : Int) = 0)) (split (!decide ((List.getD g (y - 1).toNat (List.replicate 12 0)).getD x.toNat 0 = 0))
      ((0 ≤ y ∧ y < ((12 : Nat) : Int)) ∧ (0 ≤ x ∧ x < ((12 : Nat) : Int)) ∧ (inR IntKind.i64 ((List.getD g y.toNat (List.replicate 12 0)).getD x.toNat 0) → (!decide ((List.getD g y.toNat (List.replicate
      12 0)).getD x.toNat 0 = (List.getD g (y - 1).toNat (List.replicate 12 0)).getD x.toNat 0)) = jointG g x y c)) (false = jointG g x y c)) (false = jointG g x y c)))) ((0 ≤ y ∧ y < ((12 : Nat) : Int)) ∧
      (0 ≤ x ∧ x < ((12 : Nat) : Int)) ∧ (inR IntKind.i64 ((List.getD g y.toNat (List.replicate 12 0)).getD x.toNat 0) → split (!decide ((List.getD g y.toNat (List.replicate 12 0)).getD x.toNat (0 : Int) =
      0)) (split (!decide ((List.getD g y.toNat (List.replicate 12 0)).getD r.toNat (0 : Int) = 0)) ((0 ≤ y ∧ y < ((12 : Nat) : Int)) ∧ (0 ≤ x ∧ x < ((12 : Nat) : Int)) ∧ (inR IntKind.i64 ((List.getD g
      y.toNat (List.replicate 12 0)).getD x.toNat 0) → (!decide ((List.getD g y.toNat (List.replicate 12 0)).getD x.toNat 0 = (List.getD g y.toNat (List.replicate 12 0)).getD r.toNat 0)) = jointG g x y c))
      (false = jointG g x y c)) (false = jointG g x y c))))))) (∃ (r : Int), Ev Try.prog 156 [Arg.imm (D.dat (Ty.int IntKind.i8) x), Arg.imm (D.dat Ty.bool c)] (compsOf [(false, Ty.int IntKind.i8)] r) ∧
      (inR IntKind.i8 r → (0 ≤ y ∧ y < ((12 : Nat) : Int)) ∧ (0 ≤ r ∧ r < ((12 : Nat) : Int)) ∧ (inR IntKind.i64 ((List.getD g y.toNat (List.replicate 12 0)).getD r.toNat 0) → split c ((-128 ≤ y - 1 ∧ y -
      1 ≤ 127) ∧ (0 ≤ y - 1 ∧ y - 1 < ((12 : Nat) : Int)) ∧ (0 ≤ x ∧ x < ((12 : Nat) : Int)) ∧ (inR IntKind.i64 ((List.getD g (y - 1).toNat (List.replicate 12 0)).getD x.toNat 0) → (0 ≤ y ∧ y < ((12 : Nat)
      : Int)) ∧ (0 ≤ x ∧ x < ((12 : Nat) : Int)) ∧ (inR IntKind.i64 ((List.getD g y.toNat (List.replicate 12 0)).getD x.toNat 0) → split (!decide ((List.getD g y.toNat (List.replicate 12 0)).getD x.toNat
      (0 : Int) = 0)) (split (!decide ((List.getD g (y - 1).toNat (List.replicate 12 0)).getD x.toNat 0 = 0)) ((0 ≤ y ∧ y < ((12 : Nat) : Int)) ∧ (0 ≤ x ∧ x < ((12 : Nat) : Int)) ∧ (inR IntKind.i64
      ((List.getD g y.toNat (List.replicate 12 0)).getD x.toNat 0) → (!decide ((List.getD g y.toNat (List.replicate 12 0)).getD x.toNat 0 = (List.getD g (y - 1).toNat (List.replicate 12 0)).getD x.toNat
      0)) = jointG g x y c)) (false = jointG g x y c)) (false = jointG g x y c)))) ((0 ≤ y ∧ y < ((12 : Nat) : Int)) ∧ (0 ≤ x ∧ x < ((12 : Nat) : Int)) ∧ (inR IntKind.i64 ((List.getD g y.toNat
      (List.replicate 12 0)).getD x.toNat 0) → split (!decide ((List.getD g y.toNat (List.replicate 12 0)).getD x.toNat (0 : Int) = 0)) (split (!decide ((List.getD g y.toNat (List.replicate 12 0)).getD
      r.toNat (0 : Int) = 0)) ((0 ≤ y ∧ y < ((12 : Nat) : Int)) ∧ (0 ≤ x ∧ x < ((12 : Nat) : Int)) ∧ (inR IntKind.i64 ((List.getD g y.toNat (List.replicate 12 0)).getD x.toNat 0) → (!decide ((List.getD g
      y.toNat (List.replicate 12 0)).getD x.toNat 0 = (List.getD g y.toNat (List.replicate 12 0)).getD r.toNat 0)) = jointG g x y c)) (false = jointG g x y c)) (false = jointG g x y c)))))))) (false =
      jointG g x y c)) (false = jointG g x y c)) (false = jointG g x y c)) (false = jointG g x y c)) := by
    cases c
    all_goals
      repeat' (first
        | (intro hh; try simp only [inR, loK, hiK] at hh)
        | exact trivial
        | (refine ⟨_, l01Less_ev _ _ (by omega), ?_⟩)
        | (refine And.intro ?_ ?_)
        | (refine split_of (fun hh => ?_) (fun hh => ?_) <;> (try (first | replace hh := not_t hh | replace hh := not_f hh)) <;> (try (first | replace hh := of_decide_eq_true hh | replace hh := of_decide_eq_false hh))))
      all_goals (first | omega | contradiction | (simp only [lessV, Bool.false_eq_true, if_false, if_true]; omega) | (simp_all [jointG, othG, gget, lessV]; done) | (exact jointG_mid (g := g) (x := x) (y := y) (c := true) (by omega) (by omega) (by intro _; first | contradiction | omega) (by intro _; first | contradiction | omega) (by assumption) (by assumption)) | (exact jointG_mid (g := g) (x := x) (y := y) (c := false) (by omega) (by omega) (by intro _; first | contradiction | omega) (by intro _; first | contradiction | omega) (by assumption) (by assumption)))
  refine @Eq.mpr _ _ (?_) key
  kernel_rfl
def nextC (p : Int × Int) (way : Int) : Int × Int := if way = 0 then (p.1, p.2 - 1) else if way = 1 then (p.1 + 1, p.2) else if way = 2 then (p.1, p.2 + 1) else (p.1 - 1, p.2)
theorem l06Next_ev (p : Int × Int) (way : Int) (h1 : 0 ≤ p.1 ∧ p.1 ≤ 12) (h2 : 0 ≤ p.2 ∧ p.2 ≤ 12) : Ev Try.prog 120 [aC p, aI way] (compsOf [rC] (nextC p way)) := by
  refine ev_of (l := [rC]) (r := (nextC p way)) (types (resT) [] (fun _ _ => none)) follows Try.func120 (by kernel_rfl) (by rw [Try.ntmps120]; exact Nat.le_of_ble_eq_true rfl) ?_
  have key : (inR IntKind.i8 p.fst → inR IntKind.i8 p.snd → inR IntKind.i64 way → split (decide (way = 0)) (inR IntKind.i8 p.snd → (-128 ≤ p.snd - 1 ∧ p.snd - 1 ≤ 127) ∧ (inR IntKind.i8 p.fst → inR IntKind.i8
      (p.snd - 1) → (p.fst, p.snd - 1) = nextC p way)) (split (decide (way = 1)) (inR IntKind.i8 p.fst → (-128 ≤ p.fst + 1 ∧ p.fst + 1 ≤ 127) ∧ (inR IntKind.i8 (p.fst + 1) → inR IntKind.i8 p.snd → (p.fst +
      1, p.snd) = nextC p way)) (split (decide (way = 2)) (inR IntKind.i8 p.snd → (-128 ≤ p.snd + 1 ∧ p.snd + 1 ≤ 127) ∧ (inR IntKind.i8 p.fst → inR IntKind.i8 (p.snd + 1) → (p.fst, p.snd + 1) = nextC p
      way)) (inR IntKind.i8 p.fst → (-128 ≤ p.fst - 1 ∧ p.fst - 1 ≤ 127) ∧ (inR IntKind.i8 (p.fst - 1) → inR IntKind.i8 p.snd → (p.fst - 1, p.snd) = nextC p way))))) := by
    repeat' (first
      | (intro hh; try simp only [inR, loK, hiK] at hh)
      | exact trivial
      | (refine And.intro ?_ ?_)
      | (refine split_of (fun hh => ?_) (fun hh => ?_) <;> (try (first | replace hh := not_t hh | replace hh := not_f hh)) <;> (try (first | replace hh := of_decide_eq_true hh | replace hh := of_decide_eq_false hh))))
    all_goals (first | omega | (simp_all [nextC]; done) | (simp_all [nextC]; omega))
  refine @Eq.mpr _ _ (?_) key
  kernel_rfl
def edgeG (g : Gr) (p : Int × Int) (way : Int) : Bool := if way = 0 then jointG g p.1 (p.2 - 1) false else if way = 1 then jointG g p.1 p.2 true else if way = 2 then jointG g p.1 p.2 false else jointG g (p.1 - 1) p.2 true
theorem l06Edge_ev (g : Gr) (p : Int × Int) (way : Int) (h1 : 0 ≤ p.1 ∧ p.1 ≤ 12) (h2 : 0 ≤ p.2 ∧ p.2 ≤ 12) : Ev Try.prog 73 [aGr g, aC p, aI way] (compsOf [rB] (edgeG g p way)) := by
  refine ev_of (l := [rB]) (r := (edgeG g p way)) (types (resT) [] (fun _ _ => none)) follows Try.func73 (by kernel_rfl) (by rw [Try.ntmps73]; exact Nat.le_of_ble_eq_true rfl) ?_
  have key : (inR IntKind.i8 p.fst → inR IntKind.i8 p.snd → inR IntKind.i64 way → split (decide (way = 0)) (inR IntKind.i8 p.fst → inR IntKind.i8 p.snd → (-128 ≤ p.snd - 1 ∧ p.snd - 1 ≤ 127) ∧ ∃ (r : Bool), Ev
      Try.prog 126 [Arg.imm (D.dat gT g).ref, Arg.imm (D.dat (Ty.int IntKind.i8) p.fst), Arg.imm (D.dat (Ty.int IntKind.i8) (p.snd - 1)), Arg.imm (D.dat Ty.bool false)] (compsOf [(false, Ty.bool)] r) ∧ r =
      edgeG g p way) (split (decide (way = 1)) (inR IntKind.i8 p.fst → inR IntKind.i8 p.snd → ∃ (r : Bool), Ev Try.prog 126 [Arg.imm (D.dat gT g).ref, Arg.imm (D.dat (Ty.int IntKind.i8) p.fst), Arg.imm
      (D.dat (Ty.int IntKind.i8) p.snd), Arg.imm (D.dat Ty.bool true)] (compsOf [(false, Ty.bool)] r) ∧ r = edgeG g p way) (split (decide (way = 2)) (inR IntKind.i8 p.fst → inR IntKind.i8 p.snd → ∃ (r :
      Bool), Ev Try.prog 126 [Arg.imm (D.dat gT g).ref, Arg.imm (D.dat (Ty.int IntKind.i8) p.fst), Arg.imm (D.dat (Ty.int IntKind.i8) p.snd), Arg.imm (D.dat Ty.bool false)] (compsOf [(false, Ty.bool)] r) ∧
      r = edgeG g p way) (inR IntKind.i8 p.fst → (-128 ≤ p.fst - 1 ∧ p.fst - 1 ≤ 127) ∧ (inR IntKind.i8 p.snd → ∃ (r : Bool), Ev Try.prog 126 [Arg.imm (D.dat gT g).ref, Arg.imm (D.dat (Ty.int IntKind.i8)
      (p.fst - 1)), Arg.imm (D.dat (Ty.int IntKind.i8) p.snd), Arg.imm (D.dat Ty.bool true)] (compsOf [(false, Ty.bool)] r) ∧ r = edgeG g p way))))) := by
    repeat' (first
      | (intro hh; try simp only [inR, loK, hiK] at hh)
      | exact trivial
      | (refine ⟨_, l01Joint_ev _ _ _ _, ?_⟩)
      | (refine And.intro ?_ ?_)
      | (refine split_of (fun hh => ?_) (fun hh => ?_) <;> (try (first | replace hh := not_t hh | replace hh := not_f hh)) <;> (try (first | replace hh := of_decide_eq_true hh | replace hh := of_decide_eq_false hh))))
    all_goals (first | omega | (simp_all [edgeG]; done) | (simp_all [edgeG]; omega))
  refine @Eq.mpr _ _ (?_) key
  kernel_rfl
def betG (g : Gr) (a b : Int × Int) : Bool := if nextC a 0 = b then edgeG g a 0 else if nextC a 1 = b then edgeG g a 1 else if nextC a 2 = b then edgeG g a 2 else if nextC a 3 = b then edgeG g a 3 else false
theorem betG_at {g : Gr} {a b : Int × Int} {w : Nat} (hw : w < 4) (hn : ∀ j : Nat, j < w → nextC a j ≠ b) (h : nextC a w = b) : edgeG g a w = betG g a b := by
  have n0 : 0 < w → nextC a 0 ≠ b := hn 0
  have n1 : 1 < w → nextC a 1 ≠ b := hn 1
  have n2 : 2 < w → nextC a 2 ≠ b := hn 2
  match w, hw with
  | 0, _ => have h : nextC a 0 = b := h; rw [betG, if_pos h]; rfl
  | 1, _ => have h : nextC a 1 = b := h; rw [betG, if_neg (n0 (by omega)), if_pos h]; rfl
  | 2, _ => have h : nextC a 2 = b := h; rw [betG, if_neg (n0 (by omega)), if_neg (n1 (by omega)), if_pos h]; rfl
  | 3, _ => have h : nextC a 3 = b := h; rw [betG, if_neg (n0 (by omega)), if_neg (n1 (by omega)), if_neg (n2 (by omega)), if_pos h]; rfl
theorem betG_no {g : Gr} {a b : Int × Int} (n : ∀ j : Nat, j < 4 → nextC a j ≠ b) : false = betG g a b := by
  have n0 : nextC a 0 ≠ b := n 0 (by omega)
  have n1 : nextC a 1 ≠ b := n 1 (by omega)
  have n2 : nextC a 2 ≠ b := n 2 (by omega)
  have n3 : nextC a 3 ≠ b := n 3 (by omega)
  rw [betG, if_neg n0, if_neg n1, if_neg n2, if_neg n3]
noncomputable abbrev betInv (a b : Int × Int) (n : Nat) (σ : List Slot) : Option LoopInv := match n with
  | 2 => some ⟨hvAt Try.f69 2, Nat, fun w => [(7, .val (.dat (.int .i64) w))], fun w => w ≤ 4 ∧ ∀ j : Nat, j < w → nextC a j ≠ b, fun w => 4 - w⟩
  | _ => none
theorem l06Between_ev (g : Gr) (a b : Int × Int) (h1 : 0 ≤ a.1 ∧ a.1 ≤ 12) (h2 : 0 ≤ a.2 ∧ a.2 ≤ 12) : Ev Try.prog 69 [aGr g, aC a, aC b] (compsOf [rB] (betG g a b)) := by
  refine ev_of (l := [rB]) (r := (betG g a b)) (types (resT) [] (betInv a b)) follows Try.func69 (by kernel_rfl) (by rw [Try.ntmps69]; exact Nat.le_of_ble_eq_true rfl) ?_
  have key : (inR IntKind.i8 a.fst → inR IntKind.i8 a.snd → inR IntKind.i8 b.fst → inR IntKind.i8 b.snd → (∃ (x0 : Nat), Slot.val (D.dat (Ty.int IntKind.i64) 0) = Slot.val (D.dat (Ty.int IntKind.i64) ((x0 : Nat) :
      Int)) ∧ x0 ≤ 4 ∧ ∀ (j : Nat), j < x0 → nextC a ((j : Nat) : Int) ≠ b) ∧ ∀ (x : Nat), (x ≤ 4 ∧ ∀ (j : Nat), j < x → nextC a ((j : Nat) : Int) ≠ b) → inR IntKind.i64 ((x : Nat) : Int) → split (decide
      (((x : Nat) : Int) < 4)) (inR IntKind.i8 a.fst → inR IntKind.i8 a.snd → ∃ (r : Int × Int), Ev Try.prog 120 [Arg.imm (D.dat cellT a), Arg.imm (D.dat (Ty.int IntKind.i64) ((x : Nat) : Int))] (compsOf
      [(false, (Ty.int IntKind.i8).prod (Ty.int IntKind.i8))] r) ∧ (inR IntKind.i8 r.fst → inR IntKind.i8 r.snd → inR IntKind.i8 b.fst → inR IntKind.i8 b.snd → split (decide (r.fst = b.fst) && decide
      (r.snd = b.snd)) (inR IntKind.i8 a.fst → inR IntKind.i8 a.snd → ∃ (r : Bool), Ev Try.prog 73 [Arg.imm (D.dat gT g).ref, Arg.imm (D.dat cellT a), Arg.imm (D.dat (Ty.int IntKind.i64) ((x : Nat) :
      Int))] (compsOf [(false, Ty.bool)] r) ∧ r = betG g a b) ((-9223372036854775808 ≤ ((x : Nat) : Int) + 1 ∧ ((x : Nat) : Int) + 1 ≤ 9223372036854775807) ∧ ∃ (x' : Nat), Slot.val (D.dat (Ty.int
      IntKind.i64) (((x : Nat) : Int) + 1)) = Slot.val (D.dat (Ty.int IntKind.i64) ((x' : Nat) : Int)) ∧ (x' ≤ 4 ∧ ∀ (j : Nat), j < x' → nextC a ((j : Nat) : Int) ≠ b) ∧ 4 - x' < 4 - x))) (false = betG g a
      b)) := by
    intro _ _ _ _
    refine ⟨⟨0, rfl, by omega, fun j hj => by omega⟩, fun w ⟨hw, hn⟩ _ => split_of (fun h => ?_) (fun h => ?_)⟩
    · have h := of_decide_eq_true h
      intros
      refine ⟨_, l06Next_ev _ _ h1 h2, ?_⟩
      intros
      refine split_of (fun h3 => ?_) (fun h3 => ?_)
      · have h3 : nextC a w = b := by
          rw [Bool.and_eq_true, decide_eq_true_eq, decide_eq_true_eq] at h3
          exact Prod.ext h3.1 h3.2
        intros
        exact ⟨_, l06Edge_ev _ _ _ h1 h2, betG_at (by omega) hn h3⟩
      · have h3 : nextC a w ≠ b := fun e => by rw [e] at h3; simp at h3
        refine ⟨by omega, w + 1, rfl, ⟨by omega, fun j hj => ?_⟩, by omega⟩
        rcases Nat.lt_succ_iff_lt_or_eq.1 hj with r | r
        · exact hn j r
        · rw [r]; exact h3
    · have h := of_decide_eq_false h
      exact betG_no fun j hj => hn j (by omega)
  refine @Eq.mpr _ _ (?_) key
  kernel_rfl
noncomputable def toldV (q : Sq) (l : Cl) (fine : Bool) : Gr × Int := ((layV q).1, askedI (okQ q) (fine && l.all (ptB q)))
noncomputable abbrev toldInv (q : Sq) (l : Cl) (fine : Bool) (n : Nat) (σ : List Slot) : Option LoopInv := match n with
  | 5 => some ⟨2 :: hvAt Try.f68 5, Nat, fun i => [(2, .val (.dat .bool (fine && (l.take i).all (ptB q)))), (10, .val (.dat (.int .i64) i))], fun i => i ≤ l.length, fun i => l.length - i⟩
  | _ => none
theorem all_step {α : Type} {l : List α} {p : α → Bool} {i : Nat} {d : α} (h : i < l.length) : (l.take (i + 1)).all p = ((l.take i).all p && p (l.getD i d)) := by
  have e : l.getD i d = l[i] := by simp [List.getD_eq_getElem?_getD, h]
  rw [e, ← List.take_append_getElem h, List.all_append]; simp
theorem l06Told_ev (q : Sq) (l : Cl) (fine : Bool) : Ev Try.prog 68 [aQp q, aL l, aB fine] (compsOf [(false, gT), rI] (toldV q l fine)) := by
  refine ev_of (l := [(false, gT), rI]) (r := (toldV q l fine)) (types (resT) [] (toldInv q l fine)) follows Try.func68 (by kernel_rfl) (by rw [Try.ntmps68]; exact Nat.le_of_ble_eq_true rfl) ?_
  have key : ((List.length l ≤ 9223372036854775807 ∧ ∀ (x : Int × Int), List.Mem x l → inR IntKind.i8 x.fst ∧ inR IntKind.i8 x.snd) → ∃ (r : List (List Int) × Bool), Ev Try.prog 108 [Arg.imm (D.dat (sqT 41)
      q).ref] (compsOf [(false, Ty.arr 12 (Ty.arr 12 (Ty.int IntKind.i64))), (false, Ty.bool)] r) ∧ ((r.fst.length = 12 ∧ ∀ (x : List Int), List.Mem x r.fst → x.length = 12 ∧ ∀ (x_1 : Int), List.Mem x_1 x
      → inR IntKind.i64 x_1) → split (!r.snd) ((r.fst.length = 12 ∧ ∀ (x : List Int), List.Mem x r.fst → x.length = 12 ∧ ∀ (x_1 : Int), List.Mem x_1 x → inR IntKind.i64 x_1) → r.fst = (toldV q l fine).fst
      ∧ 1 = (toldV q l fine).snd) ((∃ (x0 : Nat), (Slot.val (D.dat Ty.bool fine) = Slot.val (D.dat Ty.bool (fine && (List.take x0 l).all (ptB q))) ∧ Slot.val (D.dat (Ty.int IntKind.i64) 0) = Slot.val
      (D.dat (Ty.int IntKind.i64) ((x0 : Nat) : Int))) ∧ x0 ≤ List.length l) ∧ ∀ (x : Nat), x ≤ List.length l → inR IntKind.i64 ((x : Nat) : Int) → (((List.length l) : Nat) : Int) ≤ 9223372036854775807 →
      split (decide (((x : Nat) : Int) < (((List.length l) : Nat) : Int))) (split (fine && (List.take x l).all (ptB q)) ((0 ≤ ((x : Nat) : Int) ∧ ((x : Nat) : Int) < (((List.length l) : Nat) : Int)) ∧ (inR
      IntKind.i8 (List.getD l (((x : Nat) : Int)).toNat (0, 0)).fst → inR IntKind.i8 (List.getD l (((x : Nat) : Int)).toNat (0, 0)).snd → ∃ (r : Bool), Ev Try.prog 119 [Arg.imm (D.dat (sqT 41) q).ref,
      Arg.imm (D.dat cellT (List.getD l (((x : Nat) : Int)).toNat (0, 0)))] (compsOf [(false, Ty.bool)] r) ∧ (-9223372036854775808 ≤ ((x : Nat) : Int) + 1 ∧ ((x : Nat) : Int) + 1 ≤ 9223372036854775807) ∧ ∃
      (x' : Nat), (Slot.val (D.dat Ty.bool r) = Slot.val (D.dat Ty.bool (fine && (List.take x' l).all (ptB q))) ∧ Slot.val (D.dat (Ty.int IntKind.i64) (((x : Nat) : Int) + 1)) = Slot.val (D.dat (Ty.int
      IntKind.i64) ((x' : Nat) : Int))) ∧ x' ≤ List.length l ∧ List.length l - x' < List.length l - x)) ((-9223372036854775808 ≤ ((x : Nat) : Int) + 1 ∧ ((x : Nat) : Int) + 1 ≤ 9223372036854775807) ∧ ∃ (x'
      : Nat), (Slot.val (D.dat Ty.bool false) = Slot.val (D.dat Ty.bool (fine && (List.take x' l).all (ptB q))) ∧ Slot.val (D.dat (Ty.int IntKind.i64) (((x : Nat) : Int) + 1)) = Slot.val (D.dat (Ty.int
      IntKind.i64) ((x' : Nat) : Int))) ∧ x' ≤ List.length l ∧ List.length l - x' < List.length l - x)) (split (!(fine && (List.take x l).all (ptB q))) ((r.fst.length = 12 ∧ ∀ (x : List Int), List.Mem x
      r.fst → x.length = 12 ∧ ∀ (x_1 : Int), List.Mem x_1 x → inR IntKind.i64 x_1) → r.fst = (toldV q l fine).fst ∧ 2 = (toldV q l fine).snd) ((r.fst.length = 12 ∧ ∀ (x : List Int), List.Mem x r.fst →
      x.length = 12 ∧ ∀ (x_1 : Int), List.Mem x_1 x → inR IntKind.i64 x_1) → r.fst = (toldV q l fine).fst ∧ 0 = (toldV q l fine).snd))))) := by
    intro hl
    refine ⟨_, lay_ev q, fun _ => ?_⟩
    rw [show (layV q).2 = okQ q from (layV_is q).1]
    refine split_of (fun h _ => ⟨rfl, by simp [toldV, askedI, not_t h]⟩) (fun h => ?_)
    have hok := not_f h
    refine ⟨⟨0, ⟨by simp, rfl⟩, by omega⟩, fun i hi _ _ => split_of (fun h2 => ?_) (fun h2 => ?_)⟩
    · have h2 := of_decide_eq_true h2
      simp only [Int.toNat_natCast]
      refine split_of (fun h3 => ⟨by omega, fun _ _ => ⟨_, l06Is_ev _ _, by omega, i + 1, ⟨?_, rfl⟩, by omega, by omega⟩⟩) (fun h3 => ⟨by omega, i + 1, ⟨?_, rfl⟩, by omega, by omega⟩)
      · rw [all_step (d := (0, 0)) (by omega), ← Bool.and_assoc, h3, Bool.true_and]
      · rw [all_step (d := (0, 0)) (by omega), ← Bool.and_assoc, h3, Bool.false_and]
    · have h2 := of_decide_eq_false h2
      have hi : i = l.length := by omega
      rw [hi, List.take_length]
      refine split_of (fun h3 _ => ⟨rfl, ?_⟩) (fun h3 _ => ⟨rfl, ?_⟩)
      · simp only [toldV, askedI, hok, not_t h3]; rfl
      · simp only [toldV, askedI, hok, not_f h3]; rfl
  refine @Eq.mpr _ _ (?_) key
  kernel_rfl
noncomputable def isJointS (q : Sq) (a b : Int × Int) : Bool × Int := if (toldV q [a, b] true).2 = 0 then (betG (layV q).1 a b, 0) else (false, (toldV q [a, b] true).2)
end Go.Proofs.Ytmjijggkdbiijaa
