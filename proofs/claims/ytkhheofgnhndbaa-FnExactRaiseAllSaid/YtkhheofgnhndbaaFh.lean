/- Points of grounds. No statement is proved here. -/
import Derived.Test.YtkhheofgnhndbaaFg
namespace Go.Proofs.Ytkhheofgnhndbaa
open Go.RowKit
set_option linter.unusedVariables false
set_option linter.unusedSimpArgs false
set_option maxRecDepth 100000
set_option maxHeartbeats 4000000
abbrev Sq := Int × Int × List (Int × Int × Int × Int)
abbrev aQ (q : Sq) : Arg := .imm (.dat sqT q)
abbrev rQ : Bool × Ty := (false, sqT)
abbrev Cl := List (Int × Int)
abbrev aL (l : Cl) : Arg := .imm (.dat (.slice 40 cellT) l)
def frameV (g : G) : Sq := (g.1, g.2.1, [])
theorem frame_ev (g : G) : Ev Try.prog 89 [aG g] (compsOf [rQ] (frameV g)) := by
  refine ev_of (l := [rQ]) (r := (frameV g)) (types (resT) [] (fun _ _ => none)) follows Try.func89 (by kernel_rfl) (by rw [Try.ntmps89]; exact Nat.le_of_ble_eq_true rfl) ?_
  have key : (inR IntKind.i8 g.fst →
    inR IntKind.i8 g.snd.fst →
      (g.snd.snd.fst.length = 9 ∧
          ∀ (x : List Int),
            List.Mem x g.snd.snd.fst → x.length = 9 ∧ ∀ (x_1 : Int), List.Mem x_1 x → inR IntKind.i16 x_1) →
        (g.snd.snd.snd.length ≤ 9223372036854775807 ∧
            ∀ (x : Int × Int), List.Mem x g.snd.snd.snd → inR IntKind.i8 x.fst ∧ inR IntKind.i8 x.snd) →
          inR IntKind.i8 g.fst → inR IntKind.i8 g.snd.fst → (g.fst, g.snd.fst, []) = frameV g) := by
    repeat' (first
      | (intro hh; try simp only [inR, loK, hiK] at hh)
      | exact trivial
      | (refine And.intro ?_ ?_)
      | (refine split_of (fun hh => ?_) (fun hh => ?_)))
    all_goals (first | omega | rfl | (simp_all [frameV]; done) | (simp_all [frameV]; omega))
  refine @Eq.mpr _ _ (?_) key
  kernel_rfl
def isIn (w h : Int) (p : Int × Int) : Bool := inB p.1 0 (w - 1) && inB p.2 0 (h - 1)
theorem isCell_ev (q : Sq) (p : Int × Int) : Ev Try.prog 90 [aQ q, aC p] (compsOf [rB] (isIn q.1 q.2.1 p)) := by
  refine ev_of (l := [rB]) (r := (isIn q.1 q.2.1 p)) (types (resT) [] (fun _ _ => none)) follows Try.func90 (by kernel_rfl) (by rw [Try.ntmps90]; exact Nat.le_of_ble_eq_true rfl) ?_
  have key : (inR IntKind.i8 q.fst →
    inR IntKind.i8 q.snd.fst →
      (q.snd.snd.length ≤ 9223372036854775807 ∧
          ∀ (x : Int × Int × Int × Int),
            List.Mem x q.snd.snd →
              inR IntKind.i8 x.fst ∧
                inR IntKind.i8 x.snd.fst ∧ inR IntKind.i8 x.snd.snd.fst ∧ inR IntKind.i8 x.snd.snd.snd) →
        inR IntKind.i8 p.fst →
          inR IntKind.i8 p.snd →
            inR IntKind.i8 p.fst →
              (-9223372036854775808 ≤ p.fst ∧ p.fst ≤ 9223372036854775807) ∧
                (inR IntKind.i8 q.fst →
                  (-9223372036854775808 ≤ q.fst ∧ q.fst ≤ 9223372036854775807) ∧
                    (-9223372036854775808 ≤ q.fst - 1 ∧ q.fst - 1 ≤ 9223372036854775807) ∧
                      ∃ (r : Bool),
                        Ev Try.prog 50
                            [Arg.imm (D.dat (Ty.int IntKind.i64) p.fst), Arg.imm (D.dat (Ty.int IntKind.i64) 0),
                              Arg.imm (D.dat (Ty.int IntKind.i64) (q.fst - 1))]
                            (compsOf [(false, Ty.bool)] r) ∧
                          split r
                            (inR IntKind.i8 p.snd →
                              (-9223372036854775808 ≤ p.snd ∧ p.snd ≤ 9223372036854775807) ∧
                                (inR IntKind.i8 q.snd.fst →
                                  (-9223372036854775808 ≤ q.snd.fst ∧ q.snd.fst ≤ 9223372036854775807) ∧
                                    (-9223372036854775808 ≤ q.snd.fst - 1 ∧ q.snd.fst - 1 ≤ 9223372036854775807) ∧
                                      ∃ (r : Bool),
                                        Ev Try.prog 50
                                            [Arg.imm (D.dat (Ty.int IntKind.i64) p.snd),
                                              Arg.imm (D.dat (Ty.int IntKind.i64) 0),
                                              Arg.imm (D.dat (Ty.int IntKind.i64) (q.snd.fst - 1))]
                                            (compsOf [(false, Ty.bool)] r) ∧
                                          r = isIn q.fst q.snd.fst p))
                            (false = isIn q.fst q.snd.fst p))) := by
    repeat' (first
      | (intro hh; try simp only [inR, loK, hiK] at hh)
      | exact trivial
      | (refine ⟨_, within_ev _ _ _, ?_⟩)
      | (refine And.intro ?_ ?_)
      | (refine split_of (fun hh => ?_) (fun hh => ?_)))
    all_goals (first | omega | rfl | (simp_all [isIn]; done) | (simp_all [isIn]; omega))
  refine @Eq.mpr _ _ (?_) key
  kernel_rfl
theorem isPoint_ev (g : G) (p : Int × Int) : Ev Try.prog 51 [aG g, aC p] (compsOf [rB] (isIn g.1 g.2.1 p)) := by
  refine ev_of (l := [rB]) (r := (isIn g.1 g.2.1 p)) (types (resT) [] (fun _ _ => none)) follows Try.func51 (by kernel_rfl) (by rw [Try.ntmps51]; exact Nat.le_of_ble_eq_true rfl) ?_
  have key : (inR IntKind.i8 g.fst →
    inR IntKind.i8 g.snd.fst →
      (g.snd.snd.fst.length = 9 ∧
          ∀ (x : List Int),
            List.Mem x g.snd.snd.fst → x.length = 9 ∧ ∀ (x_1 : Int), List.Mem x_1 x → inR IntKind.i16 x_1) →
        (g.snd.snd.snd.length ≤ 9223372036854775807 ∧
            ∀ (x : Int × Int), List.Mem x g.snd.snd.snd → inR IntKind.i8 x.fst ∧ inR IntKind.i8 x.snd) →
          inR IntKind.i8 p.fst →
            inR IntKind.i8 p.snd →
              inR IntKind.i8 g.fst →
                inR IntKind.i8 g.snd.fst →
                  (g.snd.snd.fst.length = 9 ∧
                      ∀ (x : List Int),
                        List.Mem x g.snd.snd.fst → x.length = 9 ∧ ∀ (x_1 : Int), List.Mem x_1 x → inR IntKind.i16 x_1) →
                    (g.snd.snd.snd.length ≤ 9223372036854775807 ∧
                        ∀ (x : Int × Int), List.Mem x g.snd.snd.snd → inR IntKind.i8 x.fst ∧ inR IntKind.i8 x.snd) →
                      ∃ (r : Int × Int × List (Int × Int × Int × Int)),
                        Ev Try.prog 89 [Arg.imm (D.dat (groundT 40) g)]
                            (compsOf
                              [(false,
                                  (Ty.int IntKind.i8).prod
                                    ((Ty.int IntKind.i8).prod
                                      (Ty.slice 132
                                        ((Ty.int IntKind.i8).prod
                                          ((Ty.int IntKind.i8).prod ((Ty.int IntKind.i8).prod (Ty.int IntKind.i8)))))))]
                              r) ∧
                          (inR IntKind.i8 r.fst →
                            inR IntKind.i8 r.snd.fst →
                              (r.snd.snd.length ≤ 9223372036854775807 ∧
                                  ∀ (x : Int × Int × Int × Int),
                                    List.Mem x r.snd.snd →
                                      inR IntKind.i8 x.fst ∧
                                        inR IntKind.i8 x.snd.fst ∧
                                          inR IntKind.i8 x.snd.snd.fst ∧ inR IntKind.i8 x.snd.snd.snd) →
                                inR IntKind.i8 p.fst →
                                  inR IntKind.i8 p.snd →
                                    ∃ (r_1 : Bool),
                                      Ev Try.prog 90 [Arg.imm (D.dat sqT r), Arg.imm (D.dat cellT p)]
                                          (compsOf [(false, Ty.bool)] r_1) ∧
                                        r_1 = isIn g.fst g.snd.fst p)) := by
    repeat' (first
      | (intro hh; try simp only [inR, loK, hiK] at hh)
      | exact trivial
      | (refine ⟨_, frame_ev _, ?_⟩)
      | (refine ⟨_, isCell_ev _ _, ?_⟩)
      | (refine And.intro ?_ ?_)
      | (refine split_of (fun hh => ?_) (fun hh => ?_)))
    all_goals (first | omega | rfl | (simp_all [frameV]; done) | (simp_all [frameV]; omega))
  refine @Eq.mpr _ _ (?_) key
  kernel_rfl
theorem l04Is_ev' (g : G) (p : Int × Int) : Ev Try.prog 68 [aGp g, aC p] (compsOf [rB] (isIn g.1 g.2.1 p)) := by
  refine ev_of (l := [rB]) (r := (isIn g.1 g.2.1 p)) (types (resT) [] (fun _ _ => none)) follows Try.func68 (by kernel_rfl) (by rw [Try.ntmps68]; exact Nat.le_of_ble_eq_true rfl) ?_
  have key : (inR IntKind.i8 p.fst →
    inR IntKind.i8 p.snd →
      inR IntKind.i8 p.fst →
        (-9223372036854775808 ≤ p.fst ∧ p.fst ≤ 9223372036854775807) ∧
          (inR IntKind.i8 g.fst →
            (-9223372036854775808 ≤ g.fst ∧ g.fst ≤ 9223372036854775807) ∧
              (-9223372036854775808 ≤ g.fst - 1 ∧ g.fst - 1 ≤ 9223372036854775807) ∧
                ∃ (r : Bool),
                  Ev Try.prog 64
                      [Arg.imm (D.dat (Ty.int IntKind.i64) p.fst), Arg.imm (D.dat (Ty.int IntKind.i64) 0),
                        Arg.imm (D.dat (Ty.int IntKind.i64) (g.fst - 1))]
                      (compsOf [(false, Ty.bool)] r) ∧
                    split r
                      (inR IntKind.i8 p.snd →
                        (-9223372036854775808 ≤ p.snd ∧ p.snd ≤ 9223372036854775807) ∧
                          (inR IntKind.i8 g.snd.fst →
                            (-9223372036854775808 ≤ g.snd.fst ∧ g.snd.fst ≤ 9223372036854775807) ∧
                              (-9223372036854775808 ≤ g.snd.fst - 1 ∧ g.snd.fst - 1 ≤ 9223372036854775807) ∧
                                ∃ (r : Bool),
                                  Ev Try.prog 64
                                      [Arg.imm (D.dat (Ty.int IntKind.i64) p.snd),
                                        Arg.imm (D.dat (Ty.int IntKind.i64) 0),
                                        Arg.imm (D.dat (Ty.int IntKind.i64) (g.snd.fst - 1))]
                                      (compsOf [(false, Ty.bool)] r) ∧
                                    r = isIn g.fst g.snd.fst p))
                      (false = isIn g.fst g.snd.fst p))) := by
    repeat' (first
      | (intro hh; try simp only [inR, loK, hiK] at hh)
      | exact trivial
      | (refine ⟨_, l00In_ev _ _ _, ?_⟩)
      | (refine And.intro ?_ ?_)
      | (refine split_of (fun hh => ?_) (fun hh => ?_)))
    all_goals (first | omega | rfl | (simp_all [isIn]; done) | (simp_all [isIn]; omega))
  refine @Eq.mpr _ _ (?_) key
  kernel_rfl
theorem isNaN_ev (x : Int) : Ev Try.prog 105 [.imm (.dat (.int .i8) x)] (compsOf [rB] (false)) := by
  refine ev_of (l := [rB]) (r := (false)) (types (resT) [] (fun _ _ => none)) follows Try.func105 (by kernel_rfl) (by rw [Try.ntmps105]; exact Nat.le_of_ble_eq_true rfl) ?_
  have key : (inR IntKind.i8 x → (!decide (x = x)) = false) := by
    repeat' (first
      | (intro hh; try simp only [inR, loK, hiK] at hh)
      | exact trivial
      | (refine And.intro ?_ ?_)
      | (refine split_of (fun hh => ?_) (fun hh => ?_)))
    all_goals (first | omega | rfl | (simp_all []; done) | (simp_all []; omega))
  refine @Eq.mpr _ _ (?_) key
  kernel_rfl
def cmp8 (a b : Int) : Int := if a < b then -1 else if b < a then 1 else 0
theorem compare_ev (x y : Int) : Ev Try.prog 92 [.imm (.dat (.int .i8) x), .imm (.dat (.int .i8) y)] (compsOf [rI] (cmp8 x y)) := by
  refine ev_of (l := [rI]) (r := (cmp8 x y)) (types (resT) [] (fun _ _ => none)) follows Try.func92 (by kernel_rfl) (by rw [Try.ntmps92]; exact Nat.le_of_ble_eq_true rfl) ?_
  have key : (inR IntKind.i8 x →
    inR IntKind.i8 y →
      ∃ (r : Bool),
        Ev Try.prog 105 [Arg.imm (D.dat (Ty.int IntKind.i8) x)] (compsOf [(false, Ty.bool)] r) ∧
          ∃ (r_1 : Bool),
            Ev Try.prog 105 [Arg.imm (D.dat (Ty.int IntKind.i8) y)] (compsOf [(false, Ty.bool)] r_1) ∧
              split r (split r_1 (0 = cmp8 x y) (-1 = cmp8 x y))
                (split r_1 (1 = cmp8 x y)
                  (split (decide (x < y)) (-1 = cmp8 x y) (split (decide (y < x)) (1 = cmp8 x y) (0 = cmp8 x y))))) := by
    repeat' (first
      | (intro hh; try simp only [inR, loK, hiK] at hh)
      | exact trivial
      | (refine ⟨_, isNaN_ev _, ?_⟩)
      | (refine And.intro ?_ ?_)
      | (refine split_of (fun hh => ?_) (fun hh => ?_)))
    all_goals (first | omega | rfl | (simp_all [cmp8]; done) | (simp_all [cmp8]; omega))
  refine @Eq.mpr _ _ (?_) key
  kernel_rfl
def firstNZ : List Int → Int
  | [] => 0
  | a :: r => if a = 0 then firstNZ r else a
noncomputable abbrev orInv (l : List Int) (n : Nat) (σ : List Slot) : Option LoopInv := match n with
  | 3 => some ⟨hvAt Try.f91 3, Nat, fun i => [(8, .val (.dat (.int .i64) i))], fun i => i ≤ l.length ∧ firstNZ (l.drop i) = firstNZ l, fun i => l.length - i⟩
  | _ => none
theorem or_ev (l : List Int) : Ev Try.prog 91 [.imm (.dat (.slice 3 (.int .i64)) l)] (compsOf [rI] (firstNZ l)) := by
  refine ev_of (l := [rI]) (r := (firstNZ l)) (types (resT) [] (orInv l)) follows Try.func91 (by kernel_rfl) (by rw [Try.ntmps91]; exact Nat.le_of_ble_eq_true rfl) ?_
  have key : ((l.length ≤ 9223372036854775807 ∧ ∀ (x : Int), List.Mem x l → inR IntKind.i64 x) →
    ((l.length : Nat) : Int) ≤ 9223372036854775807 →
      (∃ (x0 : Nat),
          Slot.val (D.dat (Ty.int IntKind.i64) 0) = Slot.val (D.dat (Ty.int IntKind.i64) ((x0 : Nat) : Int)) ∧
            x0 ≤ l.length ∧ firstNZ (List.drop x0 l) = firstNZ l) ∧
        ∀ (x : Nat),
          x ≤ l.length ∧ firstNZ (List.drop x l) = firstNZ l →
            inR IntKind.i64 ((x : Nat) : Int) →
              split (decide (((x : Nat) : Int) < ((l.length : Nat) : Int)))
                ((0 ≤ ((x : Nat) : Int) ∧ ((x : Nat) : Int) < ((l.length : Nat) : Int)) ∧
                  (inR IntKind.i64 (l.getD (((x : Nat) : Int)).toNat 0) →
                    split (!decide (l.getD (((x : Nat) : Int)).toNat 0 = 0)) (l.getD (((x : Nat) : Int)).toNat 0 = firstNZ l)
                      ((-9223372036854775808 ≤ ((x : Nat) : Int) + 1 ∧ ((x : Nat) : Int) + 1 ≤ 9223372036854775807) ∧
                        ∃ (x' : Nat),
                          Slot.val (D.dat (Ty.int IntKind.i64) (((x : Nat) : Int) + 1)) = Slot.val (D.dat (Ty.int IntKind.i64) ((x' : Nat) : Int)) ∧
                            (x' ≤ l.length ∧ firstNZ (List.drop x' l) = firstNZ l) ∧ l.length - x' < l.length - x)))
                (0 = firstNZ l)) := by
    intro hl hlen
    refine ⟨⟨0, rfl, by simp, by simp⟩, fun i hi hr => ?_⟩
    refine split_of (fun h => ?_) (fun h => ?_)
    · have h : i < l.length := by simpa using h
      refine ⟨by omega, fun hv => ?_⟩
      have hd : l.drop i = l[i] :: l.drop (i + 1) := List.drop_eq_getElem_cons h
      have hg : l.getD ((i : Nat) : Int).toNat 0 = l[i] := by simp [List.getD_eq_getElem?_getD, h]
      rw [hg] at hv ⊢
      rw [hd] at hi
      refine split_of (fun h2 => ?_) (fun h2 => ?_)
      · have h2 : l[i] ≠ 0 := by simpa using h2
        rw [← hi.2, firstNZ, if_neg h2]
      · have h2 : l[i] = 0 := by simpa using h2
        refine ⟨by omega, i + 1, rfl, ⟨by omega, ?_⟩, by omega⟩
        rw [← hi.2, firstNZ, if_pos h2]
    · have h : ¬ i < l.length := by simpa using h
      have e : l.drop i = [] := List.drop_eq_nil_of_le (by omega)
      rw [e] at hi
      rw [← hi.2]; rfl
  refine @Eq.mpr _ _ (?_) key
  kernel_rfl
theorem compareCells_ev (x y : Int × Int) : Ev Try.prog 52 [aC x, aC y] (compsOf [rI] (firstNZ [cmp8 x.2 y.2, cmp8 x.1 y.1])) := by
  refine ev_of (l := [rI]) (r := (firstNZ [cmp8 x.2 y.2, cmp8 x.1 y.1])) (types (resT) [] (fun _ _ => none)) follows Try.func52 (by kernel_rfl) (by rw [Try.ntmps52]; exact Nat.le_of_ble_eq_true rfl) ?_
  have key : (inR IntKind.i8 x.fst →
    inR IntKind.i8 x.snd →
      inR IntKind.i8 y.fst →
        inR IntKind.i8 y.snd →
          inR IntKind.i8 x.snd →
            inR IntKind.i8 y.snd →
              ∃ (r : Int),
                Ev Try.prog 92 [Arg.imm (D.dat (Ty.int IntKind.i8) x.snd), Arg.imm (D.dat (Ty.int IntKind.i8) y.snd)]
                    (compsOf [(false, Ty.int IntKind.i64)] r) ∧
                  (inR IntKind.i64 r →
                    inR IntKind.i8 x.fst →
                      inR IntKind.i8 y.fst →
                        ∃ (r_1 : Int),
                          Ev Try.prog 92
                              [Arg.imm (D.dat (Ty.int IntKind.i8) x.fst), Arg.imm (D.dat (Ty.int IntKind.i8) y.fst)]
                              (compsOf [(false, Ty.int IntKind.i64)] r_1) ∧
                            (inR IntKind.i64 r_1 →
                              ∃ (r_2 : Int),
                                Ev Try.prog 91 [Arg.imm (D.dat (Ty.slice 3 (Ty.int IntKind.i64)) [r, r_1])]
                                    (compsOf [(false, Ty.int IntKind.i64)] r_2) ∧
                                  (inR IntKind.i64 r_2 → r_2 = firstNZ [cmp8 x.snd y.snd, cmp8 x.fst y.fst])))) := by
    repeat' (first
      | (intro hh; try simp only [inR, loK, hiK] at hh)
      | exact trivial
      | (refine ⟨_, compare_ev _ _, ?_⟩)
      | (refine ⟨_, or_ev _, ?_⟩)
      | (refine And.intro ?_ ?_)
      | (refine split_of (fun hh => ?_) (fun hh => ?_)))
    all_goals (first | omega | rfl | (simp_all []; done) | (simp_all []; omega))
  refine @Eq.mpr _ _ (?_) key
  kernel_rfl
def bitI (t : Bool) : Int := if t then 1 else 0
theorem bit_ev (t : Bool) : Ev Try.prog 60 [aB t] (compsOf [rI] (bitI t)) := by
  refine ev_of (l := [rI]) (r := (bitI t)) (types (resT) [] (fun _ _ => none)) follows Try.func60 (by kernel_rfl) (by rw [Try.ntmps60]; exact Nat.le_of_ble_eq_true rfl) ?_
  have key : (split t (1 = bitI t) (0 = bitI t)) := by
    repeat' (first
      | (intro hh; try simp only [inR, loK, hiK] at hh)
      | exact trivial
      | (refine And.intro ?_ ?_)
      | (refine split_of (fun hh => ?_) (fun hh => ?_)))
    all_goals (first | omega | rfl | (simp_all [bitI]; done) | (simp_all [bitI]; omega))
  refine @Eq.mpr _ _ (?_) key
  kernel_rfl
def unlessI (t : Bool) (c : Int) : Int := if t then 0 else c
theorem unless_ev (t : Bool) (c : Int) : Ev Try.prog 98 [aB t, aI c] (compsOf [rI] (unlessI t c)) := by
  refine ev_of (l := [rI]) (r := (unlessI t c)) (types (resT) [] (fun _ _ => none)) follows Try.func98 (by kernel_rfl) (by rw [Try.ntmps98]; exact Nat.le_of_ble_eq_true rfl) ?_
  have key : (inR IntKind.i64 c → split t (0 = unlessI t c) (c = unlessI t c)) := by
    repeat' (first
      | (intro hh; try simp only [inR, loK, hiK] at hh)
      | exact trivial
      | (refine And.intro ?_ ?_)
      | (refine split_of (fun hh => ?_) (fun hh => ?_)))
    all_goals (first | omega | rfl | (simp_all [unlessI]; done) | (simp_all [unlessI]; omega))
  refine @Eq.mpr _ _ (?_) key
  kernel_rfl
theorem around1_ev (g : G) (p : Int × Int) : Ev Try.prog 97 [aC p, aGp g] (compsOf [rB] (!(isIn g.1 g.2.1 p))) := by
  refine ev_of (l := [rB]) (r := (!(isIn g.1 g.2.1 p))) (types (resT) [] (fun _ _ => none)) follows Try.func97 (by kernel_rfl) (by rw [Try.ntmps97]; exact Nat.le_of_ble_eq_true rfl) ?_
  have key : (inR IntKind.i8 p.fst →
    inR IntKind.i8 p.snd →
      inR IntKind.i8 g.fst →
        inR IntKind.i8 g.snd.fst →
          (g.snd.snd.fst.length = 9 ∧
              ∀ (x : List Int),
                List.Mem x g.snd.snd.fst → x.length = 9 ∧ ∀ (x_1 : Int), List.Mem x_1 x → inR IntKind.i16 x_1) →
            (g.snd.snd.snd.length ≤ 9223372036854775807 ∧
                ∀ (x : Int × Int), List.Mem x g.snd.snd.snd → inR IntKind.i8 x.fst ∧ inR IntKind.i8 x.snd) →
              inR IntKind.i8 p.fst →
                inR IntKind.i8 p.snd →
                  ∃ (r : Bool),
                    Ev Try.prog 51 [Arg.imm (D.dat (groundT 40) g), Arg.imm (D.dat cellT p)]
                        (compsOf [(false, Ty.bool)] r) ∧
                      (!r) = !isIn g.fst g.snd.fst p) := by
    repeat' (first
      | (intro hh; try simp only [inR, loK, hiK] at hh)
      | exact trivial
      | (refine ⟨_, isPoint_ev _ _, ?_⟩)
      | (refine And.intro ?_ ?_)
      | (refine split_of (fun hh => ?_) (fun hh => ?_)))
    all_goals (first | omega | rfl | (simp_all []; done) | (simp_all []; omega))
  refine @Eq.mpr _ _ (?_) key
  kernel_rfl
end Go.Proofs.Ytkhheofgnhndbaa
