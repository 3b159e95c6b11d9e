/- Valid grounds. No statement is proved here. -/
import Derived.Test.YtkhheofgnhndbaaFi
namespace Go.Proofs.Ytkhheofgnhndbaa
open Go.RowKit
set_option linter.unusedVariables false
set_option linter.unusedSimpArgs false
set_option maxRecDepth 100000
set_option maxHeartbeats 4000000
def hOk (g : G) (x y : Int) : Prop := 0 ≤ hgt g (x, y) ∧ hgt g (x, y) ≤ 200 ∧ (hgt g (x, y) ≠ 0 → isIn g.1 g.2.1 (x, y) = true)
def beforeB (a b : Int × Int) : Bool := decide (a.2 < b.2) || (decide (a.2 = b.2) && decide (a.1 < b.1))
def gulOk (g : G) (i : Nat) : Prop := isIn g.1 g.2.1 (g.2.2.2.getD i (0, 0)) = true ∧ (0 < i → beforeB (g.2.2.2.getD (i - 1) (0, 0)) (g.2.2.2.getD i (0, 0)) = true)
structure OkG (g : G) : Prop where
  w : inB g.1 1 9 = true
  h : inB g.2.1 1 9 = true
  n : g.2.2.2.length ≤ 8
  hs : ∀ y : Nat, y < 9 → ∀ x : Nat, x < 9 → hOk g x y
  gu : ∀ i : Nat, i < g.2.2.2.length → gulOk g i
open Classical in
noncomputable def okG (g : G) : Bool := decide (OkG g)
theorem okF {g : G} (h : ¬ OkG g) : false = okG g := by simp [okG, h]
theorem okT {g : G} (h : OkG g) : true = okG g := by simp [okG, h]
theorem okG_iff {g : G} : okG g = true ↔ OkG g := by simp [okG]
theorem i8b {x : Int} (h : inR .i8 x) : -9223372036854775808 ≤ x ∧ x ≤ 9223372036854775807 := by simp only [inR, loK, hiK] at h; omega
theorem i16b {x : Int} (h : inR .i16 x) : -9223372036854775808 ≤ x ∧ x ≤ 9223372036854775807 := by simp only [inR, loK, hiK] at h; omega
theorem b8 {x : Int} (h : inR .i8 x) : -128 ≤ x ∧ x ≤ 127 := h
theorem b64 {x : Int} (h : inR .i64 x) : -9223372036854775808 ≤ x ∧ x ≤ 9223372036854775807 := h
theorem hok_step {g : G} {x : Nat} {z : Int} (h : ∀ x' : Nat, x' < x → hOk g x' z) (h2 : hOk g x z) : ∀ x' : Nat, x' < x + 1 → hOk g x' z := by
  intro x' hx
  rcases Nat.lt_or_ge x' x with q | q
  · exact h x' q
  · obtain rfl : x' = x := by omega
    exact h2
theorem l04Before_ev (x y : Int × Int) : Ev Try.prog 87 [aC x, aC y] (compsOf [rB] (beforeB x y)) := by
  refine ev_of (l := [rB]) (r := (beforeB x y)) (types (resT) [] (fun _ _ => none)) follows Try.func87 (by kernel_rfl) (by rw [Try.ntmps87]; exact Nat.le_of_ble_eq_true rfl) ?_
  have key : (inR IntKind.i8 x.fst →
    inR IntKind.i8 x.snd →
      inR IntKind.i8 y.fst →
        inR IntKind.i8 y.snd →
          inR IntKind.i8 x.snd →
            inR IntKind.i8 y.snd →
              split (!decide (x.snd < y.snd))
                (inR IntKind.i8 x.snd →
                  inR IntKind.i8 y.snd →
                    split (decide (x.snd = y.snd))
                      (inR IntKind.i8 x.fst → inR IntKind.i8 y.fst → decide (x.fst < y.fst) = beforeB x y)
                      (false = beforeB x y))
                (true = beforeB x y)) := by
    repeat' (first
      | (intro hh; try simp only [inR, loK, hiK] at hh)
      | exact trivial
      | (refine And.intro ?_ ?_)
      | (refine split_of (fun hh => ?_) (fun hh => ?_)))
    all_goals (first | omega | rfl | (simp_all [beforeB]; done) | (simp_all [beforeB]; omega))
  refine @Eq.mpr _ _ (?_) key
  kernel_rfl
noncomputable abbrev l04OkInv (g : G) (n : Nat) (σ : List Slot) : Option LoopInv := match n with
  | 4 => some ⟨hvAt Try.f48 4, Nat, fun y => [(3, .val (.dat (.int .i8) y))], fun y => y ≤ 9 ∧ ∀ y' : Nat, y' < y → ∀ x : Nat, x < 9 → hOk g x y', fun y => 9 - y⟩
  | 7 => some ⟨hvAt Try.f48 7, Nat, fun x => [(4, .val (.dat (.int .i8) x))], fun x => x ≤ 9 ∧ ∀ x' : Nat, x' < x → hOk g x' (iAt σ 3), fun x => 9 - x⟩
  | 13 => some ⟨hvAt Try.f48 13, Nat, fun i => [(6, .val (.dat (.int .i64) i))], fun i => i ≤ g.2.2.2.length ∧ ∀ i' : Nat, i' < i → gulOk g i', fun i => g.2.2.2.length - i⟩
  | _ => none
theorem l04Ok_ev (g : G) : Ev Try.prog 48 [aGp g] (compsOf [rB] (okG g)) := by
  refine ev_of (l := [rB]) (r := (okG g)) (types (resT) [] (l04OkInv g)) follows Try.func48 (by kernel_rfl) (by rw [Try.ntmps48]; exact Nat.le_of_ble_eq_true rfl) ?_
  have key : (inR IntKind.i8 g.fst →
    (-9223372036854775808 ≤ g.fst ∧ g.fst ≤ 9223372036854775807) ∧
      ∃ (r : Bool),
        Ev Try.prog 64
            [Arg.imm (D.dat (Ty.int IntKind.i64) g.fst), Arg.imm (D.dat (Ty.int IntKind.i64) 1),
              Arg.imm (D.dat (Ty.int IntKind.i64) 9)]
            (compsOf [(false, Ty.bool)] r) ∧
          split (!!r)
            (inR IntKind.i8 g.snd.fst →
              (-9223372036854775808 ≤ g.snd.fst ∧ g.snd.fst ≤ 9223372036854775807) ∧
                ∃ (r : Bool),
                  Ev Try.prog 64
                      [Arg.imm (D.dat (Ty.int IntKind.i64) g.snd.fst), Arg.imm (D.dat (Ty.int IntKind.i64) 1),
                        Arg.imm (D.dat (Ty.int IntKind.i64) 9)]
                      (compsOf [(false, Ty.bool)] r) ∧
                    split (!!r)
                      ((g.snd.snd.snd.length ≤ 9223372036854775807 ∧
                          ∀ (x : Int × Int), List.Mem x g.snd.snd.snd → inR IntKind.i8 x.fst ∧ inR IntKind.i8 x.snd) →
                        ((g.snd.snd.snd.length : Nat) : Int) ≤ 9223372036854775807 →
                          split (decide (8 < ((g.snd.snd.snd.length : Nat) : Int))) (false = okG g)
                            ((∃ (x0 : Nat),
                                Slot.val (D.dat (Ty.int IntKind.i8) 0) = Slot.val (D.dat (Ty.int IntKind.i8) ((x0 : Nat) : Int)) ∧
                                  x0 ≤ 9 ∧ ∀ (y' : Nat), y' < x0 → ∀ (x : Nat), x < 9 → hOk g ((x : Nat) : Int) ((y' : Nat) : Int)) ∧
                              ∀ (x : Nat),
                                (x ≤ 9 ∧ ∀ (y' : Nat), y' < x → ∀ (x : Nat), x < 9 → hOk g ((x : Nat) : Int) ((y' : Nat) : Int)) →
                                  inR IntKind.i8 ((x : Nat) : Int) →
                                    split (decide (((x : Nat) : Int) < 9))
                                      ((∃ (x0 : Nat),
                                          Slot.val (D.dat (Ty.int IntKind.i8) 0) =
                                              Slot.val (D.dat (Ty.int IntKind.i8) ((x0 : Nat) : Int)) ∧
                                            x0 ≤ 9 ∧ ∀ (x' : Nat), x' < x0 → hOk g ((x' : Nat) : Int) ((x : Nat) : Int)) ∧
                                        ∀ (x_1 : Nat),
                                          (x_1 ≤ 9 ∧ ∀ (x' : Nat), x' < x_1 → hOk g ((x' : Nat) : Int) ((x : Nat) : Int)) →
                                            inR IntKind.i8 ((x_1 : Nat) : Int) →
                                              split (decide (((x_1 : Nat) : Int) < 9))
                                                ((0 ≤ ((x : Nat) : Int) ∧ ((x : Nat) : Int) < ((9 : Nat) : Int)) ∧
                                                  (0 ≤ ((x_1 : Nat) : Int) ∧ ((x_1 : Nat) : Int) < ((9 : Nat) : Int)) ∧
                                                    (inR IntKind.i16
                                                        ((g.snd.snd.fst.getD (((x : Nat) : Int)).toNat (List.replicate 9 0)).getD
                                                          (((x_1 : Nat) : Int)).toNat 0) →
                                                      (-9223372036854775808 ≤
                                                            (g.snd.snd.fst.getD (((x : Nat) : Int)).toNat (List.replicate 9 0)).getD
                                                              (((x_1 : Nat) : Int)).toNat 0 ∧
                                                          (g.snd.snd.fst.getD (((x : Nat) : Int)).toNat (List.replicate 9 0)).getD
                                                              (((x_1 : Nat) : Int)).toNat 0 ≤
                                                            9223372036854775807) ∧
                                                        ∃ (r : Bool),
                                                          Ev Try.prog 64
                                                              [Arg.imm
                                                                  (D.dat (Ty.int IntKind.i64)
                                                                    ((g.snd.snd.fst.getD (((x : Nat) : Int)).toNat
                                                                          (List.replicate 9 0)).getD
                                                                      (((x_1 : Nat) : Int)).toNat 0)),
                                                                Arg.imm (D.dat (Ty.int IntKind.i64) 0),
                                                                Arg.imm (D.dat (Ty.int IntKind.i64) 200)]
                                                              (compsOf [(false, Ty.bool)] r) ∧
                                                            split (!!r)
                                                              (split
                                                                (!decide
                                                                    ((g.snd.snd.fst.getD (((x : Nat) : Int)).toNat
                                                                            (List.replicate 9 0)).getD
                                                                        (((x_1 : Nat) : Int)).toNat 0 =
                                                                      0))
                                                                (∃ (r : Bool),
                                                                  Ev Try.prog 68
                                                                      [Arg.imm (D.dat (groundT 40) g).ref,
                                                                        Arg.imm (D.dat cellT (((x_1 : Nat) : Int), ((x : Nat) : Int)))]
                                                                      (compsOf [(false, Ty.bool)] r) ∧
                                                                    split (!r) (false = okG g)
                                                                      ((-128 ≤ ((x_1 : Nat) : Int) + 1 ∧ ((x_1 : Nat) : Int) + 1 ≤ 127) ∧
                                                                        ∃ (x' : Nat),
                                                                          Slot.val
                                                                                (D.dat (Ty.int IntKind.i8) (((x_1 : Nat) : Int) + 1)) =
                                                                              Slot.val (D.dat (Ty.int IntKind.i8) ((x' : Nat) : Int)) ∧
                                                                            (x' ≤ 9 ∧
                                                                                ∀ (x'_1 : Nat),
                                                                                  x'_1 < x' → hOk g ((x'_1 : Nat) : Int) ((x : Nat) : Int)) ∧
                                                                              9 - x' < 9 - x_1))
                                                                ((-128 ≤ ((x_1 : Nat) : Int) + 1 ∧ ((x_1 : Nat) : Int) + 1 ≤ 127) ∧
                                                                  ∃ (x' : Nat),
                                                                    Slot.val (D.dat (Ty.int IntKind.i8) (((x_1 : Nat) : Int) + 1)) =
                                                                        Slot.val (D.dat (Ty.int IntKind.i8) ((x' : Nat) : Int)) ∧
                                                                      (x' ≤ 9 ∧
                                                                          ∀ (x'_1 : Nat), x'_1 < x' → hOk g ((x'_1 : Nat) : Int) ((x : Nat) : Int)) ∧
                                                                        9 - x' < 9 - x_1))
                                                              (false = okG g)))
                                                ((-128 ≤ ((x : Nat) : Int) + 1 ∧ ((x : Nat) : Int) + 1 ≤ 127) ∧
                                                  ∃ (x' : Nat),
                                                    Slot.val (D.dat (Ty.int IntKind.i8) (((x : Nat) : Int) + 1)) =
                                                        Slot.val (D.dat (Ty.int IntKind.i8) ((x' : Nat) : Int)) ∧
                                                      (x' ≤ 9 ∧
                                                          ∀ (y' : Nat), y' < x' → ∀ (x : Nat), x < 9 → hOk g ((x : Nat) : Int) ((y' : Nat) : Int)) ∧
                                                        9 - x' < 9 - x))
                                      ((∃ (x0 : Nat),
                                          Slot.val (D.dat (Ty.int IntKind.i64) 0) =
                                              Slot.val (D.dat (Ty.int IntKind.i64) ((x0 : Nat) : Int)) ∧
                                            x0 ≤ g.snd.snd.snd.length ∧ ∀ (i' : Nat), i' < x0 → gulOk g i') ∧
                                        ∀ (x : Nat),
                                          (x ≤ g.snd.snd.snd.length ∧ ∀ (i' : Nat), i' < x → gulOk g i') →
                                            inR IntKind.i64 ((x : Nat) : Int) →
                                              (g.snd.snd.snd.length ≤ 9223372036854775807 ∧
                                                  ∀ (x : Int × Int),
                                                    List.Mem x g.snd.snd.snd →
                                                      inR IntKind.i8 x.fst ∧ inR IntKind.i8 x.snd) →
                                                ((g.snd.snd.snd.length : Nat) : Int) ≤ 9223372036854775807 →
                                                  split (decide (((x : Nat) : Int) < ((g.snd.snd.snd.length : Nat) : Int)))
                                                    ((g.snd.snd.snd.length ≤ 9223372036854775807 ∧
                                                        ∀ (x : Int × Int),
                                                          List.Mem x g.snd.snd.snd →
                                                            inR IntKind.i8 x.fst ∧ inR IntKind.i8 x.snd) →
                                                      (0 ≤ ((x : Nat) : Int) ∧ ((x : Nat) : Int) < ((g.snd.snd.snd.length : Nat) : Int)) ∧
                                                        (inR IntKind.i8 (g.snd.snd.snd.getD (((x : Nat) : Int)).toNat (0, 0)).fst →
                                                          inR IntKind.i8 (g.snd.snd.snd.getD (((x : Nat) : Int)).toNat (0, 0)).snd →
                                                            ∃ (r : Bool),
                                                              Ev Try.prog 68
                                                                  [Arg.imm (D.dat (groundT 40) g).ref,
                                                                    Arg.imm
                                                                      (D.dat cellT
                                                                        (g.snd.snd.snd.getD (((x : Nat) : Int)).toNat (0, 0)))]
                                                                  (compsOf [(false, Ty.bool)] r) ∧
                                                                split (!!r)
                                                                  (split (decide (0 < ((x : Nat) : Int)))
                                                                    ((g.snd.snd.snd.length ≤ 9223372036854775807 ∧
                                                                        ∀ (x : Int × Int),
                                                                          List.Mem x g.snd.snd.snd →
                                                                            inR IntKind.i8 x.fst ∧
                                                                              inR IntKind.i8 x.snd) →
                                                                      (-9223372036854775808 ≤ ((x : Nat) : Int) - 1 ∧
                                                                          ((x : Nat) : Int) - 1 ≤ 9223372036854775807) ∧
                                                                        (0 ≤ ((x : Nat) : Int) - 1 ∧ ((x : Nat) : Int) - 1 < ((g.snd.snd.snd.length : Nat) : Int)) ∧
                                                                          (inR IntKind.i8
                                                                              (g.snd.snd.snd.getD (((x : Nat) : Int) - 1).toNat
                                                                                  (0, 0)).fst →
                                                                            inR IntKind.i8
                                                                                (g.snd.snd.snd.getD (((x : Nat) : Int) - 1).toNat
                                                                                    (0, 0)).snd →
                                                                              (g.snd.snd.snd.length ≤
                                                                                    9223372036854775807 ∧
                                                                                  ∀ (x : Int × Int),
                                                                                    List.Mem x g.snd.snd.snd →
                                                                                      inR IntKind.i8 x.fst ∧
                                                                                        inR IntKind.i8 x.snd) →
                                                                                (0 ≤ ((x : Nat) : Int) ∧ ((x : Nat) : Int) < ((g.snd.snd.snd.length : Nat) : Int)) ∧
                                                                                  (inR IntKind.i8
                                                                                      (g.snd.snd.snd.getD (((x : Nat) : Int)).toNat
                                                                                          (0, 0)).fst →
                                                                                    inR IntKind.i8
                                                                                        (g.snd.snd.snd.getD (((x : Nat) : Int)).toNat
                                                                                            (0, 0)).snd →
                                                                                      ∃ (r : Bool),
                                                                                        Ev Try.prog 87
                                                                                            [Arg.imm
                                                                                                (D.dat cellT
                                                                                                  (g.snd.snd.snd.getD
                                                                                                    (((x : Nat) : Int) - 1).toNat
                                                                                                    (0, 0))),
                                                                                              Arg.imm
                                                                                                (D.dat cellT
                                                                                                  (g.snd.snd.snd.getD
                                                                                                    (((x : Nat) : Int)).toNat (0, 0)))]
                                                                                            (compsOf [(false, Ty.bool)]
                                                                                              r) ∧
                                                                                          split (!r) (false = okG g)
                                                                                            ((-9223372036854775808 ≤
                                                                                                  ((x : Nat) : Int) + 1 ∧
                                                                                                ((x : Nat) : Int) + 1 ≤
                                                                                                  9223372036854775807) ∧
                                                                                              ∃ (x' : Nat),
                                                                                                Slot.val
                                                                                                      (D.dat
                                                                                                        (Ty.int
                                                                                                          IntKind.i64)
                                                                                                        (((x : Nat) : Int) + 1)) =
                                                                                                    Slot.val
                                                                                                      (D.dat
                                                                                                        (Ty.int
                                                                                                          IntKind.i64)
                                                                                                        ((x' : Nat) : Int)) ∧
                                                                                                  (x' ≤
                                                                                                        g.snd.snd.snd.length ∧
                                                                                                      ∀ (i' : Nat),
                                                                                                        i' < x' →
                                                                                                          gulOk g i') ∧
                                                                                                    g.snd.snd.snd.length -
                                                                                                        x' <
                                                                                                      g.snd.snd.snd.length -
                                                                                                        x))))
                                                                    ((-9223372036854775808 ≤ ((x : Nat) : Int) + 1 ∧
                                                                        ((x : Nat) : Int) + 1 ≤ 9223372036854775807) ∧
                                                                      ∃ (x' : Nat),
                                                                        Slot.val (D.dat (Ty.int IntKind.i64) (((x : Nat) : Int) + 1)) =
                                                                            Slot.val (D.dat (Ty.int IntKind.i64) ((x' : Nat) : Int)) ∧
                                                                          (x' ≤ g.snd.snd.snd.length ∧
                                                                              ∀ (i' : Nat), i' < x' → gulOk g i') ∧
                                                                            g.snd.snd.snd.length - x' <
                                                                              g.snd.snd.snd.length - x))
                                                                  (false = okG g)))
                                                    (true = okG g))))
                      (false = okG g))
            (false = okG g)) := by
    intro h8
    refine ⟨i8b h8, _, l00In_ev _ _ _, split_of (fun h1 => ?_) (fun h1 => okF fun k => by simp [k.w] at h1)⟩
    intro h8'
    refine ⟨i8b h8', _, l00In_ev _ _ _, split_of (fun h2 => ?_) (fun h2 => okF fun k => by simp [k.h] at h2)⟩
    intro hg hgl
    refine split_of (fun h3 => okF fun k => by have := k.n; have := of_decide_eq_true h3; omega) (fun h3 => ?_)
    have h3 := of_decide_eq_false h3
    refine ⟨⟨0, rfl, by omega, fun y' hy => by omega⟩, fun y ⟨hy, hyi⟩ _ => split_of (fun h4 => ?_) (fun h4 => ?_)⟩
    · have h4 := of_decide_eq_true h4
      refine ⟨⟨0, rfl, by omega, fun x' hx => by omega⟩, fun x ⟨hx, hxi⟩ _ => split_of (fun h5 => ?_) (fun h5 => ?_)⟩
      · have h5 := of_decide_eq_true h5
        simp only [Int.toNat_natCast]
        have hA : (g.2.2.1.getD y (List.replicate 9 0)).getD x 0 = hgt g (x, y) := by simp [hgt]
        simp only [hA]
        have hxy : ∀ k : OkG g, hOk g x y := fun k => k.hs y (by omega) x (by omega)
        have go : hOk g x y → (-128 ≤ ((x : Nat) : Int) + 1 ∧ ((x : Nat) : Int) + 1 ≤ 127) ∧ ∃ (x' : Nat), Slot.val (D.dat (Ty.int IntKind.i8) (((x : Nat) : Int) + 1)) = Slot.val (D.dat (Ty.int IntKind.i8) ((x' : Nat) : Int)) ∧ (x' ≤ 9 ∧ ∀ (x'_1 : Nat), x'_1 < x' → hOk g ((x'_1 : Nat) : Int) ((y : Nat) : Int)) ∧ 9 - x' < 9 - x := fun q =>
          ⟨by omega, x + 1, rfl, ⟨by omega, hok_step hxi q⟩, by omega⟩
        refine ⟨by omega, by omega, fun h16 => ⟨i16b h16, _, l00In_ev _ _ _, split_of (fun h6 => ?_) (fun h6 => okF fun k => ?_)⟩⟩
        · simp only [Bool.not_not] at h6
          simp only [inB, Bool.and_eq_true, decide_eq_true_eq] at h6
          refine split_of (fun h7 => ⟨_, l04Is_ev' _ _, split_of (fun h8 => okF fun k => ?_) (fun h8 => go ⟨h6.1, h6.2, fun _ => by simpa using h8⟩)⟩) (fun h7 => go ⟨h6.1, h6.2, fun h9 => ?_⟩)
          · simp [(hxy k).2.2 (by simpa using h7)] at h8
          · simp [h9] at h7
        · have := hxy k
          simp [inB, this.1, this.2.1] at h6
      · have h5 := of_decide_eq_false h5
        refine ⟨by omega, y + 1, rfl, ⟨by omega, fun y' hy' x' hx' => ?_⟩, by omega⟩
        rcases Nat.lt_or_ge y' y with q | q
        · exact hyi y' q x' hx'
        · obtain rfl : y' = y := by omega
          exact hxi x' (by omega)
    · have h4 := of_decide_eq_false h4
      refine ⟨⟨0, rfl, by omega, fun i' hi => by omega⟩, fun i ⟨hi, hii⟩ _ _ _ => split_of (fun h5 => ?_) (fun h5 => ?_)⟩
      · have h5 := of_decide_eq_true h5
        have e1 : (((i : Nat) : Int) - 1).toNat = i - 1 := by omega
        simp only [Int.toNat_natCast, e1]
        have go : gulOk g i → (-9223372036854775808 ≤ ((i : Nat) : Int) + 1 ∧ ((i : Nat) : Int) + 1 ≤ 9223372036854775807) ∧ ∃ (x' : Nat), Slot.val (D.dat (Ty.int IntKind.i64) (((i : Nat) : Int) + 1)) = Slot.val (D.dat (Ty.int IntKind.i64) ((x' : Nat) : Int)) ∧ (x' ≤ g.2.2.2.length ∧ ∀ (i' : Nat), i' < x' → gulOk g i') ∧ g.2.2.2.length - x' < g.2.2.2.length - i := fun q =>
          ⟨by omega, i + 1, rfl, ⟨by omega, fun i' hi' => by
            rcases Nat.lt_or_ge i' i with r | r
            · exact hii i' r
            · obtain rfl : i' = i := by omega
              exact q⟩, by omega⟩
        refine fun _ => ⟨by omega, fun _ _ => ⟨_, l04Is_ev' _ _, split_of (fun h6 => ?_) (fun h6 => okF fun k => ?_)⟩⟩
        · refine split_of (fun h7 => ?_) (fun h7 => go ⟨by simpa using h6, fun q => ?_⟩)
          · have h7 := of_decide_eq_true h7
            refine fun _ => ⟨by omega, by omega, fun _ _ _ => ⟨by omega, fun _ _ => ⟨_, l04Before_ev _ _, split_of (fun h8 => okF fun k => ?_) (fun h8 => go ⟨by simpa using h6, fun _ => by simpa using h8⟩)⟩⟩⟩
            exact absurd h8 (by rw [(k.gu i (by omega)).2 (by omega)]; decide)
          · have h7 := of_decide_eq_false h7
            omega
        · exact absurd h6 (by rw [(k.gu i (by omega)).1]; decide)
      · have h5 := of_decide_eq_false h5
        exact okT ⟨by simpa using h1, by simpa using h2, by omega, fun y' hy' x' hx' => hyi y' (by omega) x' hx', fun i' hi' => hii i' (by omega)⟩
  refine @Eq.mpr _ _ (?_) key
  kernel_rfl
theorem cmp_before {a b : Int × Int} : decide (0 ≤ firstNZ [cmp8 a.2 b.2, cmp8 a.1 b.1]) = !beforeB a b := by
  unfold firstNZ firstNZ firstNZ cmp8 beforeB
  by_cases h1 : a.2 < b.2
  · simp [h1]
  · by_cases h2 : b.2 < a.2
    · have : ¬ a.2 = b.2 := by omega
      simp [h1, h2, this]
    · have : a.2 = b.2 := by omega
      by_cases h3 : a.1 < b.1
      · simp [h1, h2, this, h3]
      · by_cases h4 : b.1 < a.1
        · simp [h1, h2, this, h3, h4]
        · simp [h1, h2, this, h3, h4]
noncomputable abbrev validInv (g : G) (n : Nat) (σ : List Slot) : Option LoopInv := match n with
  | 4 => some ⟨hvAt Try.f17 4, Nat, fun y => [(30, .val (.dat (.int .i64) y))], fun y => y ≤ 9 ∧ ∀ y' : Nat, y' < y → ∀ x : Nat, x < 9 → hOk g x y', fun y => 9 - y⟩
  | 7 => some ⟨hvAt Try.f17 7, Nat, fun x => [(35, .val (.dat (.int .i64) x))], fun x => x ≤ 9 ∧ ∀ x' : Nat, x' < x → hOk g x' (iAt σ 3), fun x => 9 - x⟩
  | 17 => some ⟨hvAt Try.f17 17, Nat, fun i => [(56, .val (.dat (.int .i64) i))], fun i => i ≤ g.2.2.2.length ∧ ∀ i' : Nat, i' < i → gulOk g i', fun i => g.2.2.2.length - i⟩
  | _ => none
theorem valid_ev (g : G) : Ev Try.prog 17 [aG g] (compsOf [rB] (okG g)) := by
  refine ev_of (l := [rB]) (r := (okG g)) (types (resT) [] (validInv g)) follows Try.func17 (by kernel_rfl) (by rw [Try.ntmps17]; exact Nat.le_of_ble_eq_true rfl) ?_
  have key : (inR IntKind.i8 g.fst →
    inR IntKind.i8 g.snd.fst →
      (g.snd.snd.fst.length = 9 ∧
          ∀ (x : List Int),
            List.Mem x g.snd.snd.fst → x.length = 9 ∧ ∀ (x_1 : Int), List.Mem x_1 x → inR IntKind.i16 x_1) →
        (g.snd.snd.snd.length ≤ 9223372036854775807 ∧
            ∀ (x : Int × Int), List.Mem x g.snd.snd.snd → inR IntKind.i8 x.fst ∧ inR IntKind.i8 x.snd) →
          inR IntKind.i8 g.fst →
            (-9223372036854775808 ≤ g.fst ∧ g.fst ≤ 9223372036854775807) ∧
              ∃ (r : Bool),
                Ev Try.prog 50
                    [Arg.imm (D.dat (Ty.int IntKind.i64) g.fst), Arg.imm (D.dat (Ty.int IntKind.i64) 1),
                      Arg.imm (D.dat (Ty.int IntKind.i64) 9)]
                    (compsOf [(false, Ty.bool)] r) ∧
                  split (!!r)
                    (inR IntKind.i8 g.snd.fst →
                      (-9223372036854775808 ≤ g.snd.fst ∧ g.snd.fst ≤ 9223372036854775807) ∧
                        ∃ (r : Bool),
                          Ev Try.prog 50
                              [Arg.imm (D.dat (Ty.int IntKind.i64) g.snd.fst), Arg.imm (D.dat (Ty.int IntKind.i64) 1),
                                Arg.imm (D.dat (Ty.int IntKind.i64) 9)]
                              (compsOf [(false, Ty.bool)] r) ∧
                            split (!!r)
                              ((g.snd.snd.snd.length ≤ 9223372036854775807 ∧
                                  ∀ (x : Int × Int),
                                    List.Mem x g.snd.snd.snd → inR IntKind.i8 x.fst ∧ inR IntKind.i8 x.snd) →
                                ((g.snd.snd.snd.length : Nat) : Int) ≤ 9223372036854775807 →
                                  split (decide (8 < ((g.snd.snd.snd.length : Nat) : Int))) (false = okG g)
                                    ((g.snd.snd.fst.length = 9 ∧
                                        ∀ (x : List Int),
                                          List.Mem x g.snd.snd.fst →
                                            x.length = 9 ∧ ∀ (x_1 : Int), List.Mem x_1 x → inR IntKind.i16 x_1) →
                                      (∃ (x0 : Nat),
                                          Slot.val (D.dat (Ty.int IntKind.i64) 0) =
                                              Slot.val (D.dat (Ty.int IntKind.i64) ((x0 : Nat) : Int)) ∧
                                            x0 ≤ 9 ∧ ∀ (y' : Nat), y' < x0 → ∀ (x : Nat), x < 9 → hOk g ((x : Nat) : Int) ((y' : Nat) : Int)) ∧
                                        ∀ (x : Nat),
                                          (x ≤ 9 ∧ ∀ (y' : Nat), y' < x → ∀ (x : Nat), x < 9 → hOk g ((x : Nat) : Int) ((y' : Nat) : Int)) →
                                            inR IntKind.i64 ((x : Nat) : Int) →
                                              split (decide (((x : Nat) : Int) < 9))
                                                ((0 ≤ ((x : Nat) : Int) ∧ ((x : Nat) : Int) < ((9 : Nat) : Int)) ∧
                                                  (((g.snd.snd.fst.getD (((x : Nat) : Int)).toNat (List.replicate 9 0)).length = 9 ∧
                                                      ∀ (x_1 : Int),
                                                        List.Mem x_1
                                                            (g.snd.snd.fst.getD (((x : Nat) : Int)).toNat (List.replicate 9 0)) →
                                                          inR IntKind.i16 x_1) →
                                                    ((g.snd.snd.fst.getD (((x : Nat) : Int)).toNat (List.replicate 9 0)).length = 9 ∧
                                                        ∀ (x_1 : Int),
                                                          List.Mem x_1
                                                              (g.snd.snd.fst.getD (((x : Nat) : Int)).toNat (List.replicate 9 0)) →
                                                            inR IntKind.i16 x_1) →
                                                      (∃ (x0 : Nat),
                                                          Slot.val (D.dat (Ty.int IntKind.i64) 0) =
                                                              Slot.val (D.dat (Ty.int IntKind.i64) ((x0 : Nat) : Int)) ∧
                                                            x0 ≤ 9 ∧ ∀ (x' : Nat), x' < x0 → hOk g ((x' : Nat) : Int) ((x : Nat) : Int)) ∧
                                                        ∀ (x_1 : Nat),
                                                          (x_1 ≤ 9 ∧ ∀ (x' : Nat), x' < x_1 → hOk g ((x' : Nat) : Int) ((x : Nat) : Int)) →
                                                            inR IntKind.i64 ((x_1 : Nat) : Int) →
                                                              split (decide (((x_1 : Nat) : Int) < 9))
                                                                ((0 ≤ ((x_1 : Nat) : Int) ∧ ((x_1 : Nat) : Int) < ((9 : Nat) : Int)) ∧
                                                                  (inR IntKind.i16
                                                                      ((g.snd.snd.fst.getD (((x : Nat) : Int)).toNat
                                                                            (List.replicate 9 0)).getD
                                                                        (((x_1 : Nat) : Int)).toNat 0) →
                                                                    inR IntKind.i8 g.fst →
                                                                      inR IntKind.i8 g.snd.fst →
                                                                        (g.snd.snd.fst.length = 9 ∧
                                                                            ∀ (x : List Int),
                                                                              List.Mem x g.snd.snd.fst →
                                                                                x.length = 9 ∧
                                                                                  ∀ (x_2 : Int),
                                                                                    List.Mem x_2 x →
                                                                                      inR IntKind.i16 x_2) →
                                                                          (g.snd.snd.snd.length ≤ 9223372036854775807 ∧
                                                                              ∀ (x : Int × Int),
                                                                                List.Mem x g.snd.snd.snd →
                                                                                  inR IntKind.i8 x.fst ∧
                                                                                    inR IntKind.i8 x.snd) →
                                                                            (-128 ≤ ((x_1 : Nat) : Int) ∧ ((x_1 : Nat) : Int) ≤ 127) ∧
                                                                              (-128 ≤ ((x : Nat) : Int) ∧ ((x : Nat) : Int) ≤ 127) ∧
                                                                                ∃ (r : Bool),
                                                                                  Ev Try.prog 51
                                                                                      [Arg.imm (D.dat (groundT 40) g),
                                                                                        Arg.imm
                                                                                          (D.dat cellT (((x_1 : Nat) : Int), ((x : Nat) : Int)))]
                                                                                      (compsOf [(false, Ty.bool)] r) ∧
                                                                                    split r
                                                                                      ((-9223372036854775808 ≤
                                                                                            (g.snd.snd.fst.getD
                                                                                                  (((x : Nat) : Int)).toNat
                                                                                                  (List.replicate 9
                                                                                                    0)).getD
                                                                                              (((x_1 : Nat) : Int)).toNat 0 ∧
                                                                                          (g.snd.snd.fst.getD (((x : Nat) : Int)).toNat
                                                                                                  (List.replicate 9
                                                                                                    0)).getD
                                                                                              (((x_1 : Nat) : Int)).toNat 0 ≤
                                                                                            9223372036854775807) ∧
                                                                                        ∃ (r : Bool),
                                                                                          Ev Try.prog 50
                                                                                              [Arg.imm
                                                                                                  (D.dat
                                                                                                    (Ty.int IntKind.i64)
                                                                                                    ((g.snd.snd.fst.getD
                                                                                                          (((x : Nat) : Int)).toNat
                                                                                                          (List.replicate
                                                                                                            9 0)).getD
                                                                                                      (((x_1 : Nat) : Int)).toNat 0)),
                                                                                                Arg.imm
                                                                                                  (D.dat
                                                                                                    (Ty.int IntKind.i64)
                                                                                                    0),
                                                                                                Arg.imm
                                                                                                  (D.dat
                                                                                                    (Ty.int IntKind.i64)
                                                                                                    200)]
                                                                                              (compsOf
                                                                                                [(false, Ty.bool)] r) ∧
                                                                                            split (!r) (false = okG g)
                                                                                              ((-9223372036854775808 ≤
                                                                                                    ((x_1 : Nat) : Int) + 1 ∧
                                                                                                  ((x_1 : Nat) : Int) + 1 ≤
                                                                                                    9223372036854775807) ∧
                                                                                                ∃ (x' : Nat),
                                                                                                  Slot.val
                                                                                                        (D.dat
                                                                                                          (Ty.int
                                                                                                            IntKind.i64)
                                                                                                          (((x_1 : Nat) : Int) + 1)) =
                                                                                                      Slot.val
                                                                                                        (D.dat
                                                                                                          (Ty.int
                                                                                                            IntKind.i64)
                                                                                                          ((x' : Nat) : Int)) ∧
                                                                                                    (x' ≤ 9 ∧
                                                                                                        ∀ (x'_1 : Nat),
                                                                                                          x'_1 < x' →
                                                                                                            hOk g ((x'_1 : Nat) : Int)
                                                                                                              ((x : Nat) : Int)) ∧
                                                                                                      9 - x' < 9 - x_1))
                                                                                      ((-9223372036854775808 ≤
                                                                                            (g.snd.snd.fst.getD
                                                                                                  (((x : Nat) : Int)).toNat
                                                                                                  (List.replicate 9
                                                                                                    0)).getD
                                                                                              (((x_1 : Nat) : Int)).toNat 0 ∧
                                                                                          (g.snd.snd.fst.getD (((x : Nat) : Int)).toNat
                                                                                                  (List.replicate 9
                                                                                                    0)).getD
                                                                                              (((x_1 : Nat) : Int)).toNat 0 ≤
                                                                                            9223372036854775807) ∧
                                                                                        ∃ (r : Bool),
                                                                                          Ev Try.prog 50
                                                                                              [Arg.imm
                                                                                                  (D.dat
                                                                                                    (Ty.int IntKind.i64)
                                                                                                    ((g.snd.snd.fst.getD
                                                                                                          (((x : Nat) : Int)).toNat
                                                                                                          (List.replicate
                                                                                                            9 0)).getD
                                                                                                      (((x_1 : Nat) : Int)).toNat 0)),
                                                                                                Arg.imm
                                                                                                  (D.dat
                                                                                                    (Ty.int IntKind.i64)
                                                                                                    0),
                                                                                                Arg.imm
                                                                                                  (D.dat
                                                                                                    (Ty.int IntKind.i64)
                                                                                                    0)]
                                                                                              (compsOf
                                                                                                [(false, Ty.bool)] r) ∧
                                                                                            split (!r) (false = okG g)
                                                                                              ((-9223372036854775808 ≤
                                                                                                    ((x_1 : Nat) : Int) + 1 ∧
                                                                                                  ((x_1 : Nat) : Int) + 1 ≤
                                                                                                    9223372036854775807) ∧
                                                                                                ∃ (x' : Nat),
                                                                                                  Slot.val
                                                                                                        (D.dat
                                                                                                          (Ty.int
                                                                                                            IntKind.i64)
                                                                                                          (((x_1 : Nat) : Int) + 1)) =
                                                                                                      Slot.val
                                                                                                        (D.dat
                                                                                                          (Ty.int
                                                                                                            IntKind.i64)
                                                                                                          ((x' : Nat) : Int)) ∧
                                                                                                    (x' ≤ 9 ∧
                                                                                                        ∀ (x'_1 : Nat),
                                                                                                          x'_1 < x' →
                                                                                                            hOk g ((x'_1 : Nat) : Int)
                                                                                                              ((x : Nat) : Int)) ∧
                                                                                                      9 - x' <
                                                                                                        9 - x_1))))
                                                                ((-9223372036854775808 ≤ ((x : Nat) : Int) + 1 ∧
                                                                    ((x : Nat) : Int) + 1 ≤ 9223372036854775807) ∧
                                                                  ∃ (x' : Nat),
                                                                    Slot.val (D.dat (Ty.int IntKind.i64) (((x : Nat) : Int) + 1)) =
                                                                        Slot.val (D.dat (Ty.int IntKind.i64) ((x' : Nat) : Int)) ∧
                                                                      (x' ≤ 9 ∧
                                                                          ∀ (y' : Nat),
                                                                            y' < x' →
                                                                              ∀ (x : Nat), x < 9 → hOk g ((x : Nat) : Int) ((y' : Nat) : Int)) ∧
                                                                        9 - x' < 9 - x)))
                                                ((g.snd.snd.snd.length ≤ 9223372036854775807 ∧
                                                    ∀ (x : Int × Int),
                                                      List.Mem x g.snd.snd.snd →
                                                        inR IntKind.i8 x.fst ∧ inR IntKind.i8 x.snd) →
                                                  ((g.snd.snd.snd.length : Nat) : Int) ≤ 9223372036854775807 →
                                                    (∃ (x0 : Nat),
                                                        Slot.val (D.dat (Ty.int IntKind.i64) 0) =
                                                            Slot.val (D.dat (Ty.int IntKind.i64) ((x0 : Nat) : Int)) ∧
                                                          x0 ≤ g.snd.snd.snd.length ∧
                                                            ∀ (i' : Nat), i' < x0 → gulOk g i') ∧
                                                      ∀ (x : Nat),
                                                        (x ≤ g.snd.snd.snd.length ∧ ∀ (i' : Nat), i' < x → gulOk g i') →
                                                          inR IntKind.i64 ((x : Nat) : Int) →
                                                            split (decide (((x : Nat) : Int) < ((g.snd.snd.snd.length : Nat) : Int)))
                                                              ((0 ≤ ((x : Nat) : Int) ∧ ((x : Nat) : Int) < ((g.snd.snd.snd.length : Nat) : Int)) ∧
                                                                (inR IntKind.i8
                                                                    (g.snd.snd.snd.getD (((x : Nat) : Int)).toNat (0, 0)).fst →
                                                                  inR IntKind.i8
                                                                      (g.snd.snd.snd.getD (((x : Nat) : Int)).toNat (0, 0)).snd →
                                                                    inR IntKind.i8 g.fst →
                                                                      inR IntKind.i8 g.snd.fst →
                                                                        (g.snd.snd.fst.length = 9 ∧
                                                                            ∀ (x : List Int),
                                                                              List.Mem x g.snd.snd.fst →
                                                                                x.length = 9 ∧
                                                                                  ∀ (x_1 : Int),
                                                                                    List.Mem x_1 x →
                                                                                      inR IntKind.i16 x_1) →
                                                                          (g.snd.snd.snd.length ≤ 9223372036854775807 ∧
                                                                              ∀ (x : Int × Int),
                                                                                List.Mem x g.snd.snd.snd →
                                                                                  inR IntKind.i8 x.fst ∧
                                                                                    inR IntKind.i8 x.snd) →
                                                                            inR IntKind.i8
                                                                                (g.snd.snd.snd.getD (((x : Nat) : Int)).toNat
                                                                                    (0, 0)).fst →
                                                                              inR IntKind.i8
                                                                                  (g.snd.snd.snd.getD (((x : Nat) : Int)).toNat
                                                                                      (0, 0)).snd →
                                                                                ∃ (r : Bool),
                                                                                  Ev Try.prog 51
                                                                                      [Arg.imm (D.dat (groundT 40) g),
                                                                                        Arg.imm
                                                                                          (D.dat cellT
                                                                                            (g.snd.snd.snd.getD
                                                                                              (((x : Nat) : Int)).toNat (0, 0)))]
                                                                                      (compsOf [(false, Ty.bool)] r) ∧
                                                                                    split (!!r)
                                                                                      (split (decide (0 < ((x : Nat) : Int)))
                                                                                        ((g.snd.snd.snd.length ≤
                                                                                              9223372036854775807 ∧
                                                                                            ∀ (x : Int × Int),
                                                                                              List.Mem x g.snd.snd.snd →
                                                                                                inR IntKind.i8 x.fst ∧
                                                                                                  inR IntKind.i8
                                                                                                    x.snd) →
                                                                                          (-9223372036854775808 ≤
                                                                                                ((x : Nat) : Int) - 1 ∧
                                                                                              ((x : Nat) : Int) - 1 ≤
                                                                                                9223372036854775807) ∧
                                                                                            (0 ≤ ((x : Nat) : Int) - 1 ∧
                                                                                                ((x : Nat) : Int) - 1 <
                                                                                                  ((g.snd.snd.snd.length : Nat) : Int)) ∧
                                                                                              (inR IntKind.i8
                                                                                                  (g.snd.snd.snd.getD
                                                                                                      (((x : Nat) : Int) - 1).toNat
                                                                                                      (0, 0)).fst →
                                                                                                inR IntKind.i8
                                                                                                    (g.snd.snd.snd.getD
                                                                                                        (((x : Nat) : Int) - 1).toNat
                                                                                                        (0, 0)).snd →
                                                                                                  inR IntKind.i8
                                                                                                      (g.snd.snd.snd.getD
                                                                                                          (((x : Nat) : Int)).toNat
                                                                                                          (0, 0)).fst →
                                                                                                    inR IntKind.i8
                                                                                                        (g.snd.snd.snd.getD
                                                                                                            (((x : Nat) : Int)).toNat
                                                                                                            (0,
                                                                                                              0)).snd →
                                                                                                      ∃ (r : Int),
                                                                                                        Ev Try.prog 52
                                                                                                            [Arg.imm
                                                                                                                (D.dat
                                                                                                                  cellT
                                                                                                                  (g.snd.snd.snd.getD
                                                                                                                    (((x : Nat) : Int) -
                                                                                                                        1).toNat
                                                                                                                    (0,
                                                                                                                      0))),
                                                                                                              Arg.imm
                                                                                                                (D.dat
                                                                                                                  cellT
                                                                                                                  (g.snd.snd.snd.getD
                                                                                                                    (((x : Nat) : Int)).toNat
                                                                                                                    (0,
                                                                                                                      0)))]
                                                                                                            (compsOf
                                                                                                              [(false,
                                                                                                                  Ty.int
                                                                                                                    IntKind.i64)]
                                                                                                              r) ∧
                                                                                                          (inR
                                                                                                              IntKind.i64
                                                                                                              r →
                                                                                                            split
                                                                                                              (decide
                                                                                                                (0 ≤ r))
                                                                                                              (false =
                                                                                                                okG g)
                                                                                                              ((-9223372036854775808 ≤
                                                                                                                    ((x : Nat) : Int) +
                                                                                                                      1 ∧
                                                                                                                  ((x : Nat) : Int) +
                                                                                                                      1 ≤
                                                                                                                    9223372036854775807) ∧
                                                                                                                ∃ (x' :
                                                                                                                  Nat),
                                                                                                                  Slot.val
                                                                                                                        (D.dat
                                                                                                                          (Ty.int
                                                                                                                            IntKind.i64)
                                                                                                                          (((x : Nat) : Int) +
                                                                                                                            1)) =
                                                                                                                      Slot.val
                                                                                                                        (D.dat
                                                                                                                          (Ty.int
                                                                                                                            IntKind.i64)
                                                                                                                          ((x' : Nat) : Int)) ∧
                                                                                                                    (x' ≤
                                                                                                                          g.snd.snd.snd.length ∧
                                                                                                                        ∀
                                                                                                                          (i' :
                                                                                                                            Nat),
                                                                                                                          i' <
                                                                                                                              x' →
                                                                                                                            gulOk
                                                                                                                              g
                                                                                                                              i') ∧
                                                                                                                      g.snd.snd.snd.length -
                                                                                                                          x' <
                                                                                                                        g.snd.snd.snd.length -
                                                                                                                          x))))
                                                                                        ((-9223372036854775808 ≤
                                                                                              ((x : Nat) : Int) + 1 ∧
                                                                                            ((x : Nat) : Int) + 1 ≤
                                                                                              9223372036854775807) ∧
                                                                                          ∃ (x' : Nat),
                                                                                            Slot.val
                                                                                                  (D.dat
                                                                                                    (Ty.int IntKind.i64)
                                                                                                    (((x : Nat) : Int) + 1)) =
                                                                                                Slot.val
                                                                                                  (D.dat
                                                                                                    (Ty.int IntKind.i64)
                                                                                                    ((x' : Nat) : Int)) ∧
                                                                                              (x' ≤
                                                                                                    g.snd.snd.snd.length ∧
                                                                                                  ∀ (i' : Nat),
                                                                                                    i' < x' →
                                                                                                      gulOk g i') ∧
                                                                                                g.snd.snd.snd.length -
                                                                                                    x' <
                                                                                                  g.snd.snd.snd.length -
                                                                                                    x))
                                                                                      (false = okG g)))
                                                              (true = okG g))))
                              (false = okG g))
                    (false = okG g)) := by
    intro _ _ _ _ h8
    refine ⟨i8b h8, _, within_ev _ _ _, split_of (fun h1 => ?_) (fun h1 => okF fun k => by simp [k.w] at h1)⟩
    intro h8'
    refine ⟨i8b h8', _, within_ev _ _ _, split_of (fun h2 => ?_) (fun h2 => okF fun k => by simp [k.h] at h2)⟩
    intro hg hgl
    refine split_of (fun h3 => okF fun k => by have := k.n; have := of_decide_eq_true h3; omega) (fun h3 => ?_)
    have h3 := of_decide_eq_false h3
    intro _
    refine ⟨⟨0, rfl, by omega, fun y' hy => by omega⟩, fun y ⟨hy, hyi⟩ _ => split_of (fun h4 => ?_) (fun h4 => ?_)⟩
    · have h4 := of_decide_eq_true h4
      simp only [Int.toNat_natCast]
      refine ⟨by omega, fun _ _ => ⟨⟨0, rfl, by omega, fun x' hx => by omega⟩, fun x ⟨hx, hxi⟩ _ => split_of (fun h5 => ?_) (fun h5 => ?_)⟩⟩
      · have h5 := of_decide_eq_true h5
        have hA : (g.2.2.1.getD y (List.replicate 9 0)).getD x 0 = hgt g (x, y) := by simp [hgt]
        simp only [hA]
        have hxy : ∀ k : OkG g, hOk g x y := fun k => k.hs y (by omega) x (by omega)
        have go : hOk g x y → (-9223372036854775808 ≤ ((x : Nat) : Int) + 1 ∧ ((x : Nat) : Int) + 1 ≤ 9223372036854775807) ∧ ∃ (x' : Nat), Slot.val (D.dat (Ty.int IntKind.i64) (((x : Nat) : Int) + 1)) = Slot.val (D.dat (Ty.int IntKind.i64) ((x' : Nat) : Int)) ∧ (x' ≤ 9 ∧ ∀ (x'_1 : Nat), x'_1 < x' → hOk g ((x'_1 : Nat) : Int) ((y : Nat) : Int)) ∧ 9 - x' < 9 - x := fun q =>
          ⟨by omega, x + 1, rfl, ⟨by omega, hok_step hxi q⟩, by omega⟩
        refine ⟨by omega, fun h16 _ _ _ _ => ⟨by omega, by omega, _, isPoint_ev _ _, split_of (fun h6 => ?_) (fun h6 => ?_)⟩⟩
        · refine ⟨i16b h16, _, within_ev _ _ _, split_of (fun h7 => okF fun k => ?_) (fun h7 => go ?_)⟩
          · have := hxy k
            simp [inB, this.1, this.2.1] at h7
          · simp [inB] at h7
            exact ⟨by omega, by omega, fun _ => h6⟩
        · refine ⟨i16b h16, _, within_ev _ _ _, split_of (fun h7 => okF fun k => ?_) (fun h7 => go ?_)⟩
          · have := hxy k
            have e0 : hgt g (x, y) = 0 := Classical.byContradiction fun q => by rw [this.2.2 q] at h6; cases h6
            rw [e0] at h7; simp [inB] at h7
          · simp [inB] at h7
            exact ⟨by omega, by omega, fun q => by omega⟩
      · have h5 := of_decide_eq_false h5
        refine ⟨by omega, y + 1, rfl, ⟨by omega, fun y' hy' x' hx' => ?_⟩, by omega⟩
        rcases Nat.lt_or_ge y' y with q | q
        · exact hyi y' q x' hx'
        · obtain rfl : y' = y := by omega
          exact hxi x' (by omega)
    · have h4 := of_decide_eq_false h4
      intro _ _
      refine ⟨⟨0, rfl, by omega, fun i' hi => by omega⟩, fun i ⟨hi, hii⟩ _ => split_of (fun h5 => ?_) (fun h5 => ?_)⟩
      · have h5 := of_decide_eq_true h5
        have e1 : (((i : Nat) : Int) - 1).toNat = i - 1 := by omega
        simp only [Int.toNat_natCast, e1]
        have go : gulOk g i → (-9223372036854775808 ≤ ((i : Nat) : Int) + 1 ∧ ((i : Nat) : Int) + 1 ≤ 9223372036854775807) ∧ ∃ (x' : Nat), Slot.val (D.dat (Ty.int IntKind.i64) (((i : Nat) : Int) + 1)) = Slot.val (D.dat (Ty.int IntKind.i64) ((x' : Nat) : Int)) ∧ (x' ≤ g.2.2.2.length ∧ ∀ (i' : Nat), i' < x' → gulOk g i') ∧ g.2.2.2.length - x' < g.2.2.2.length - i := fun q =>
          ⟨by omega, i + 1, rfl, ⟨by omega, fun i' hi' => by
            rcases Nat.lt_or_ge i' i with r | r
            · exact hii i' r
            · obtain rfl : i' = i := by omega
              exact q⟩, by omega⟩
        refine ⟨by omega, fun _ _ _ _ _ _ _ _ => ⟨_, isPoint_ev _ _, split_of (fun h6 => ?_) (fun h6 => okF fun k => ?_)⟩⟩
        · refine split_of (fun h7 => ?_) (fun h7 => go ⟨by simpa using h6, fun q => ?_⟩)
          · have h7 := of_decide_eq_true h7
            refine fun _ => ⟨by omega, by omega, fun _ _ _ _ => ⟨_, compareCells_ev _ _, fun _ => split_of (fun h8 => okF fun k => ?_) (fun h8 => go ⟨by simpa using h6, fun _ => ?_⟩)⟩⟩
            · rw [cmp_before, (k.gu i (by omega)).2 (by omega)] at h8; cases h8
            · rw [cmp_before] at h8; simpa using h8
          · have h7 := of_decide_eq_false h7
            omega
        · exact absurd h6 (by rw [(k.gu i (by omega)).1]; decide)
      · have h5 := of_decide_eq_false h5
        exact okT ⟨by simpa using h1, by simpa using h2, by omega, fun y' hy' x' hx' => hyi y' (by omega) x' hx', fun i' hi' => hii i' (by omega)⟩
  refine @Eq.mpr _ _ (?_) key
  kernel_rfl
end Go.Proofs.Ytkhheofgnhndbaa
