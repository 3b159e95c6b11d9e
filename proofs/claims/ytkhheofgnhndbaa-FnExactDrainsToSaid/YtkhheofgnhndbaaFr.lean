/- Points that do not keep a fall. No statement is proved here. -/
import Derived.Test.YtkhheofgnhndbaaFo
namespace Go.Proofs.Ytkhheofgnhndbaa
open Go.RowKit
set_option linter.unusedVariables false
set_option linter.unusedSimpArgs false
set_option maxRecDepth 100000
set_option maxHeartbeats 4000000
theorem points12_ev (x y : Int) (f : Nat) (d1 d2 : D) (acc : Int × Int → Bool) (hx : 0 ≤ x ∧ x < 9) (hy : 0 ≤ y ∧ y < 9) (hp : Ev Try.prog f [aC (x, y), .imm d1, .imm d2] (compsOf [rB] (acc (x, y)))) : Ev Try.prog 95 [aI x, aI y, .imm (.ref (.clo f (.cn d1 (.cn d2 .nl))))] (compsOf [rB] (acc (x, y))) := by
  refine ev_of (l := [rB]) (r := (acc (x, y))) (types (fun _ => some [rB]) [] (fun _ _ => none)) follows Try.func95 (by kernel_rfl) (by rw [Try.ntmps95]; exact Nat.le_of_ble_eq_true rfl) ?_
  have key : (inR IntKind.i64 x →
    inR IntKind.i64 y →
      (-128 ≤ x ∧ x ≤ 127) ∧
        (-128 ≤ y ∧ y ≤ 127) ∧
          ∃ (r : Bool),
            Ev Try.prog f [Arg.imm (D.dat cellT (x, y)), Arg.imm d1, Arg.imm d2] (compsOf [(false, Ty.bool)] r) ∧
              r = acc (x, y)) := by
    intros
    exact ⟨by omega, by omega, _, hp, rfl⟩
  refine @Eq.mpr _ _ (?_) key
  kernel_rfl
theorem points2_ev (g : G) (k : OkG g) (f : Nat) (d1 d2 : D) (acc : Int × Int → Bool) (hp : ∀ p, Pt g p → Ev Try.prog f [aC p, .imm d1, .imm d2] (compsOf [rB] (acc p))) : Ev Try.prog 57 [aG g, .imm (.clo f (.cn d1 (.cn d2 .nl)))] (compsOf [oC] ((allC g.1 g.2.1).filter acc)) := by
  refine ev_of (l := [oC]) (r := ((allC g.1 g.2.1).filter acc)) (types (resT) [] (fun _ _ => none)) follows Try.func57 (by kernel_rfl) (by rw [Try.ntmps57]; exact Nat.le_of_ble_eq_true rfl) ?_
  have key : (inR IntKind.i8 g.fst →
    inR IntKind.i8 g.snd.fst →
      (g.snd.snd.fst.length = 9 ∧
          ∀ (x : List Int),
            List.Mem x g.snd.snd.fst → x.length = 9 ∧ ∀ (x_1 : Int), List.Mem x_1 x → inR IntKind.i16 x_1) →
        (g.snd.snd.snd.length ≤ 9223372036854775807 ∧
            ∀ (x : Int × Int), List.Mem x g.snd.snd.snd → inR IntKind.i8 x.fst ∧ inR IntKind.i8 x.snd) →
          inR IntKind.i8 g.fst →
            inR IntKind.i8 g.snd.fst →
              (g.snd.snd.fst.length = 9 ∧
                  ∀ (x : List Int),
                    List.Mem x g.snd.snd.fst → x.length = 9 ∧ ∀ (x_1 : Int), List.Mem x_1 x → inR IntKind.i16 x_1) →
                (g.snd.snd.snd.length ≤ 9223372036854775807 ∧
                    ∀ (x : Int × Int), List.Mem x g.snd.snd.snd → inR IntKind.i8 x.fst ∧ inR IntKind.i8 x.snd) →
                  ∃ (r : Int × Int × List (Int × Int × Int × Int)),
                    Ev Try.prog 89 [Arg.imm (D.dat (groundT 40) g)]
                        (compsOf
                          [(false,
                              (Ty.int IntKind.i8).prod
                                ((Ty.int IntKind.i8).prod
                                  (Ty.slice 132
                                    ((Ty.int IntKind.i8).prod
                                      ((Ty.int IntKind.i8).prod ((Ty.int IntKind.i8).prod (Ty.int IntKind.i8)))))))]
                          r) ∧
                      (inR IntKind.i8 r.fst →
                        inR IntKind.i8 r.snd.fst →
                          (r.snd.snd.length ≤ 9223372036854775807 ∧
                              ∀ (x : Int × Int × Int × Int),
                                List.Mem x r.snd.snd →
                                  inR IntKind.i8 x.fst ∧
                                    inR IntKind.i8 x.snd.fst ∧
                                      inR IntKind.i8 x.snd.snd.fst ∧ inR IntKind.i8 x.snd.snd.snd) →
                            ∃ (r_1 : List (Int × Int)),
                              Ev Try.prog 94
                                  [Arg.imm (D.dat sqT r),
                                    Arg.imm (D.clo 95 ((D.clo f (d1.cn (d2.cn D.nl))).ref.cn D.nl))]
                                  (compsOf [(true, Ty.slice 40 ((Ty.int IntKind.i8).prod (Ty.int IntKind.i8)))] r_1) ∧
                                ((r_1.length ≤ 9223372036854775807 ∧
                                    ∀ (x : Int × Int), List.Mem x r_1 → inR IntKind.i8 x.fst ∧ inR IntKind.i8 x.snd) →
                                  r_1 = List.filter acc (allC g.fst g.snd.fst)))) := by
    have hw := k.wh
    intros
    refine ⟨_, frame_ev g, fun _ _ _ => ⟨_, cells_ev (frameV g) _ _ acc ⟨by show 0 ≤ g.1; omega, by show g.1 ≤ 12; omega⟩ ⟨by show 0 ≤ g.2.1; omega, by show g.2.1 ≤ 12; omega⟩ ?_, fun _ => rfl⟩⟩
    intro x y h1 h2 h3 h4
    have h2 : x < g.1 := h2
    have h4 : y < g.2.1 := h4
    exact points12_ev x y f d1 d2 acc ⟨h1, by omega⟩ ⟨h3, by omega⟩ (hp (x, y) (isIn_iff.2 ⟨⟨h1, h2⟩, h3, h4⟩))
  refine @Eq.mpr _ _ (?_) key
  kernel_rfl
def shortB (g : G) (fall : Int) (p : Int × Int) : Bool := !(decide (0 ≤ idxI g.2.2.2 p)) && decide (hgt g p - hgt g (lowG g p) < fall)
theorem short1_ev (g : G) (fall : Int) (p : Int × Int) (k : OkG g) (hp : Pt g p) : Ev Try.prog 100 [aC p, aGp g, .imm (.ref (.dat (.int .i64) fall))] (compsOf [rB] (shortB g fall p)) := by
  refine ev_of (l := [rB]) (r := (shortB g fall p)) (types (resT) [] (fun _ _ => none)) follows Try.func100 (by kernel_rfl) (by rw [Try.ntmps100]; exact Nat.le_of_ble_eq_true rfl) ?_
  have key : (inR IntKind.i8 p.fst →
    inR IntKind.i8 p.snd →
      inR IntKind.i8 g.fst →
        inR IntKind.i8 g.snd.fst →
          (g.snd.snd.fst.length = 9 ∧
              ∀ (x : List Int),
                List.Mem x g.snd.snd.fst → x.length = 9 ∧ ∀ (x_1 : Int), List.Mem x_1 x → inR IntKind.i16 x_1) →
            (g.snd.snd.snd.length ≤ 9223372036854775807 ∧
                ∀ (x : Int × Int), List.Mem x g.snd.snd.snd → inR IntKind.i8 x.fst ∧ inR IntKind.i8 x.snd) →
              inR IntKind.i8 p.fst →
                inR IntKind.i8 p.snd →
                  ∃ (r : (Int × Int) × Bool),
                    Ev Try.prog 81 [Arg.imm (D.dat (groundT 40) g), Arg.imm (D.dat cellT p)]
                        (compsOf [(false, (Ty.int IntKind.i8).prod (Ty.int IntKind.i8)), (false, Ty.bool)] r) ∧
                      (inR IntKind.i8 r.fst.fst →
                        inR IntKind.i8 r.fst.snd →
                          inR IntKind.i8 g.fst →
                            inR IntKind.i8 g.snd.fst →
                              (g.snd.snd.fst.length = 9 ∧
                                  ∀ (x : List Int),
                                    List.Mem x g.snd.snd.fst →
                                      x.length = 9 ∧ ∀ (x_1 : Int), List.Mem x_1 x → inR IntKind.i16 x_1) →
                                (g.snd.snd.snd.length ≤ 9223372036854775807 ∧
                                    ∀ (x : Int × Int),
                                      List.Mem x g.snd.snd.snd → inR IntKind.i8 x.fst ∧ inR IntKind.i8 x.snd) →
                                  inR IntKind.i8 p.fst →
                                    inR IntKind.i8 p.snd →
                                      ∃ (r_1 : Bool),
                                        Ev Try.prog 86 [Arg.imm (D.dat (groundT 40) g), Arg.imm (D.dat cellT p)]
                                            (compsOf [(false, Ty.bool)] r_1) ∧
                                          split (!r_1)
                                            (inR IntKind.i8 g.fst →
                                              inR IntKind.i8 g.snd.fst →
                                                (g.snd.snd.fst.length = 9 ∧
                                                    ∀ (x : List Int),
                                                      List.Mem x g.snd.snd.fst →
                                                        x.length = 9 ∧
                                                          ∀ (x_1 : Int), List.Mem x_1 x → inR IntKind.i16 x_1) →
                                                  (g.snd.snd.snd.length ≤ 9223372036854775807 ∧
                                                      ∀ (x : Int × Int),
                                                        List.Mem x g.snd.snd.snd →
                                                          inR IntKind.i8 x.fst ∧ inR IntKind.i8 x.snd) →
                                                    inR IntKind.i8 p.fst →
                                                      inR IntKind.i8 p.snd →
                                                        ∃ (r_2 : Int),
                                                          Ev Try.prog 61
                                                              [Arg.imm (D.dat (groundT 40) g), Arg.imm (D.dat cellT p)]
                                                              (compsOf [(false, Ty.int IntKind.i64)] r_2) ∧
                                                            (inR IntKind.i64 r_2 →
                                                              inR IntKind.i8 g.fst →
                                                                inR IntKind.i8 g.snd.fst →
                                                                  (g.snd.snd.fst.length = 9 ∧
                                                                      ∀ (x : List Int),
                                                                        List.Mem x g.snd.snd.fst →
                                                                          x.length = 9 ∧
                                                                            ∀ (x_1 : Int),
                                                                              List.Mem x_1 x → inR IntKind.i16 x_1) →
                                                                    (g.snd.snd.snd.length ≤ 9223372036854775807 ∧
                                                                        ∀ (x : Int × Int),
                                                                          List.Mem x g.snd.snd.snd →
                                                                            inR IntKind.i8 x.fst ∧
                                                                              inR IntKind.i8 x.snd) →
                                                                      inR IntKind.i8 r.fst.fst →
                                                                        inR IntKind.i8 r.fst.snd →
                                                                          ∃ (r_3 : Int),
                                                                            Ev Try.prog 61
                                                                                [Arg.imm (D.dat (groundT 40) g),
                                                                                  Arg.imm (D.dat cellT r.fst)]
                                                                                (compsOf [(false, Ty.int IntKind.i64)]
                                                                                  r_3) ∧
                                                                              (inR IntKind.i64 r_3 →
                                                                                (-9223372036854775808 ≤ r_2 - r_3 ∧
                                                                                    r_2 - r_3 ≤ 9223372036854775807) ∧
                                                                                  (inR IntKind.i64 fall →
                                                                                    decide (r_2 - r_3 < fall) =
                                                                                      shortB g fall p))))
                                            (false = shortB g fall p))) := by
    intros
    refine ⟨_, lowest_ev g p k hp, ?_⟩
    have hb := Pt.b k hp
    have hq := Pt.b k (lowG_in hp)
    have b1 := hgt_b k hp
    have b2 := hgt_b k (lowG_in hp)
    intros
    refine ⟨_, isGully_ev g p, split_of (fun h => ?_) (fun h => ?_)⟩
    · intros
      refine ⟨_, height_ev g p hb.1 hb.2, ?_⟩
      intros
      refine ⟨_, height_ev g _ hq.1 hq.2, fun _ => ⟨by simp only; omega, fun _ => ?_⟩⟩
      simp only [shortB, h, Bool.true_and]
    · simp only [shortB, h, Bool.false_and]
  refine @Eq.mpr _ _ (?_) key
  kernel_rfl
theorem short_ev (g : G) (fall : Int) (k : OkG g) : Ev Try.prog 79 [aG g, aI fall] (compsOf [oC] ((allC g.1 g.2.1).filter (shortB g fall))) := by
  refine ev_of (l := [oC]) (r := ((allC g.1 g.2.1).filter (shortB g fall))) (types (resT) [] (fun _ _ => none)) follows Try.func79 (by kernel_rfl) (by rw [Try.ntmps79]; exact Nat.le_of_ble_eq_true rfl) ?_
  have key : (inR IntKind.i8 g.fst →
    inR IntKind.i8 g.snd.fst →
      (g.snd.snd.fst.length = 9 ∧
          ∀ (x : List Int),
            List.Mem x g.snd.snd.fst → x.length = 9 ∧ ∀ (x_1 : Int), List.Mem x_1 x → inR IntKind.i16 x_1) →
        (g.snd.snd.snd.length ≤ 9223372036854775807 ∧
            ∀ (x : Int × Int), List.Mem x g.snd.snd.snd → inR IntKind.i8 x.fst ∧ inR IntKind.i8 x.snd) →
          inR IntKind.i64 fall →
            inR IntKind.i8 g.fst →
              inR IntKind.i8 g.snd.fst →
                (g.snd.snd.fst.length = 9 ∧
                    ∀ (x : List Int),
                      List.Mem x g.snd.snd.fst → x.length = 9 ∧ ∀ (x_1 : Int), List.Mem x_1 x → inR IntKind.i16 x_1) →
                  (g.snd.snd.snd.length ≤ 9223372036854775807 ∧
                      ∀ (x : Int × Int), List.Mem x g.snd.snd.snd → inR IntKind.i8 x.fst ∧ inR IntKind.i8 x.snd) →
                    ∃ (r : List (Int × Int)),
                      Ev Try.prog 57
                          [Arg.imm (D.dat (groundT 40) g),
                            Arg.imm
                              (D.clo 100
                                ((D.dat (groundT 40) g).ref.cn ((D.dat (Ty.int IntKind.i64) fall).ref.cn D.nl)))]
                          (compsOf [(true, Ty.slice 40 ((Ty.int IntKind.i8).prod (Ty.int IntKind.i8)))] r) ∧
                        ((r.length ≤ 9223372036854775807 ∧
                            ∀ (x : Int × Int), List.Mem x r → inR IntKind.i8 x.fst ∧ inR IntKind.i8 x.snd) →
                          r = List.filter (shortB g fall) (allC g.fst g.snd.fst))) := by
    intros
    exact ⟨_, points2_ev g k _ _ _ (shortB g fall) fun p hp => short1_ev g fall p k hp, fun _ => rfl⟩
  refine @Eq.mpr _ _ (?_) key
  kernel_rfl
noncomputable def askedF (g : G) (fall : Int) : Int := askedI (okG g) (inB fall 1 200)
theorem askedF_or (g : G) (fall : Int) : askedF g fall = 0 ∨ askedF g fall = 1 ∨ askedF g fall = 2 := by
  unfold askedF askedI
  split
  · split <;> simp
  · simp
noncomputable def shortV (g : G) (fall : Int) : (Int × Int) × Int :=
  if askedF g fall = 0 then (match (allC g.1 g.2.1).find? (shortB g fall) with | some p => (p, 0) | none => ((0, 0), 6)) else ((0, 0), askedF g fall)
theorem implFirstShort_ev (g : G) (fall : Int) : Ev Try.prog 38 [aG g, aI fall] (compsOf [rC, rI] (shortV g fall)) := by
  refine ev_of (l := [rC, rI]) (r := (shortV g fall)) (types (resT) [] (fun _ _ => none)) follows Try.func38 (by kernel_rfl) (by rw [Try.ntmps38]; exact Nat.le_of_ble_eq_true rfl) ?_
  have key : (inR IntKind.i8 g.fst →
    inR IntKind.i8 g.snd.fst →
      (g.snd.snd.fst.length = 9 ∧
          ∀ (x : List Int),
            List.Mem x g.snd.snd.fst → x.length = 9 ∧ ∀ (x_1 : Int), List.Mem x_1 x → inR IntKind.i16 x_1) →
        (g.snd.snd.snd.length ≤ 9223372036854775807 ∧
            ∀ (x : Int × Int), List.Mem x g.snd.snd.snd → inR IntKind.i8 x.fst ∧ inR IntKind.i8 x.snd) →
          inR IntKind.i64 fall →
            inR IntKind.i8 g.fst →
              inR IntKind.i8 g.snd.fst →
                (g.snd.snd.fst.length = 9 ∧
                    ∀ (x : List Int),
                      List.Mem x g.snd.snd.fst → x.length = 9 ∧ ∀ (x_1 : Int), List.Mem x_1 x → inR IntKind.i16 x_1) →
                  (g.snd.snd.snd.length ≤ 9223372036854775807 ∧
                      ∀ (x : Int × Int), List.Mem x g.snd.snd.snd → inR IntKind.i8 x.fst ∧ inR IntKind.i8 x.snd) →
                    ∃ (r : Bool),
                      Ev Try.prog 17 [Arg.imm (D.dat (groundT 40) g)] (compsOf [(false, Ty.bool)] r) ∧
                        split (!r) ((0, 0) = (shortV g fall).fst ∧ 1 = (shortV g fall).snd)
                          (∃ (r : Bool),
                            Ev Try.prog 50
                                [Arg.imm (D.dat (Ty.int IntKind.i64) fall), Arg.imm (D.dat (Ty.int IntKind.i64) 1),
                                  Arg.imm (D.dat (Ty.int IntKind.i64) 200)]
                                (compsOf [(false, Ty.bool)] r) ∧
                              split (!r) ((0, 0) = (shortV g fall).fst ∧ 2 = (shortV g fall).snd)
                                (inR IntKind.i8 g.fst →
                                  inR IntKind.i8 g.snd.fst →
                                    (g.snd.snd.fst.length = 9 ∧
                                        ∀ (x : List Int),
                                          List.Mem x g.snd.snd.fst →
                                            x.length = 9 ∧ ∀ (x_1 : Int), List.Mem x_1 x → inR IntKind.i16 x_1) →
                                      (g.snd.snd.snd.length ≤ 9223372036854775807 ∧
                                          ∀ (x : Int × Int),
                                            List.Mem x g.snd.snd.snd → inR IntKind.i8 x.fst ∧ inR IntKind.i8 x.snd) →
                                        ∃ (r : List (Int × Int)),
                                          Ev Try.prog 79
                                              [Arg.imm (D.dat (groundT 40) g),
                                                Arg.imm (D.dat (Ty.int IntKind.i64) fall)]
                                              (compsOf
                                                [(true, Ty.slice 40 ((Ty.int IntKind.i8).prod (Ty.int IntKind.i8)))]
                                                r) ∧
                                            ((r.length ≤ 9223372036854775807 ∧
                                                ∀ (x : Int × Int),
                                                  List.Mem x r → inR IntKind.i8 x.fst ∧ inR IntKind.i8 x.snd) →
                                              ((r.length : Nat) : Int) ≤ 9223372036854775807 →
                                                split (decide (((r.length : Nat) : Int) = 0))
                                                  ((0, 0) = (shortV g fall).fst ∧ 6 = (shortV g fall).snd)
                                                  (((0 : Int) ≤ 0 ∧ 0 < ((r.length : Nat) : Int)) ∧
                                                    (inR IntKind.i8 (r.getD (Int.toNat 0) (0, 0)).fst →
                                                      inR IntKind.i8 (r.getD (Int.toNat 0) (0, 0)).snd →
                                                        r.getD (Int.toNat 0) (0, 0) = (shortV g fall).fst ∧
                                                          0 = (shortV g fall).snd)))))) := by
    intros
    refine ⟨_, valid_ev g, split_of (fun h => ?_) (fun h => ?_)⟩
    · have h : okG g = false := by simpa using h
      have a : askedF g fall = 1 := by simp [askedF, askedI, h]
      simp [shortV, a]
    · have h : okG g = true := by simpa using h
      refine ⟨_, within_ev _ _ _, split_of (fun h2 => ?_) (fun h2 => ?_)⟩
      · have h2 : inB fall 1 200 = false := by simpa using h2
        have a : askedF g fall = 2 := by simp [askedF, askedI, h, h2]
        simp [shortV, a]
      · have h2 : inB fall 1 200 = true := by simpa using h2
        have a : askedF g fall = 0 := by simp [askedF, askedI, h, h2]
        intros
        refine ⟨_, short_ev g fall (okG_iff.1 h), ?_⟩
        have e : (allC g.1 g.2.1).find? (shortB g fall) = ((allC g.1 g.2.1).filter (shortB g fall)).head? := List.head?_filter.symm
        simp only [shortV, a, if_true, e]
        generalize (allC g.1 g.2.1).filter (shortB g fall) = L
        intro _ _
        cases L with
        | nil => exact split_of (fun _ => ⟨rfl, rfl⟩) (fun h => by simp at h)
        | cons q L => exact split_of (fun h => by simp at h; omega) (fun _ => ⟨by simp only [List.length_cons]; omega, fun _ _ => ⟨rfl, rfl⟩⟩)
  refine @Eq.mpr _ _ (?_) key
  kernel_rfl
noncomputable def keepsV (g : G) (fall : Int) : Bool × Int :=
  if askedF g fall = 0 then (((allC g.1 g.2.1).find? (shortB g fall)).isNone, 0) else (false, askedF g fall)
theorem implKeeps_ev (g : G) (fall : Int) : Ev Try.prog 43 [aG g, aI fall] (compsOf [rB, rI] (keepsV g fall)) := by
  refine ev_of (l := [rB, rI]) (r := (keepsV g fall)) (types (resT) [] (fun _ _ => none)) follows Try.func43 (by kernel_rfl) (by rw [Try.ntmps43]; exact Nat.le_of_ble_eq_true rfl) ?_
  have key : (inR IntKind.i8 g.fst →
    inR IntKind.i8 g.snd.fst →
      (g.snd.snd.fst.length = 9 ∧
          ∀ (x : List Int),
            List.Mem x g.snd.snd.fst → x.length = 9 ∧ ∀ (x_1 : Int), List.Mem x_1 x → inR IntKind.i16 x_1) →
        (g.snd.snd.snd.length ≤ 9223372036854775807 ∧
            ∀ (x : Int × Int), List.Mem x g.snd.snd.snd → inR IntKind.i8 x.fst ∧ inR IntKind.i8 x.snd) →
          inR IntKind.i64 fall →
            inR IntKind.i8 g.fst →
              inR IntKind.i8 g.snd.fst →
                (g.snd.snd.fst.length = 9 ∧
                    ∀ (x : List Int),
                      List.Mem x g.snd.snd.fst → x.length = 9 ∧ ∀ (x_1 : Int), List.Mem x_1 x → inR IntKind.i16 x_1) →
                  (g.snd.snd.snd.length ≤ 9223372036854775807 ∧
                      ∀ (x : Int × Int), List.Mem x g.snd.snd.snd → inR IntKind.i8 x.fst ∧ inR IntKind.i8 x.snd) →
                    ∃ (r : (Int × Int) × Int),
                      Ev Try.prog 38 [Arg.imm (D.dat (groundT 40) g), Arg.imm (D.dat (Ty.int IntKind.i64) fall)]
                          (compsOf [(false, (Ty.int IntKind.i8).prod (Ty.int IntKind.i8)), (false, Ty.int IntKind.i64)]
                            r) ∧
                        (inR IntKind.i8 r.fst.fst →
                          inR IntKind.i8 r.fst.snd →
                            inR IntKind.i64 r.snd →
                              split (!decide (r.snd = 1))
                                (∃ (r_1 : Int),
                                  Ev Try.prog 60 [Arg.imm (D.dat Ty.bool (decide (r.snd = 2)))]
                                      (compsOf [(false, Ty.int IntKind.i64)] r_1) ∧
                                    (inR IntKind.i64 r_1 →
                                      (-9223372036854775808 ≤ r.snd * r_1 ∧ r.snd * r_1 ≤ 9223372036854775807) ∧
                                        decide (r.snd = 6) = (keepsV g fall).fst ∧ r.snd * r_1 = (keepsV g fall).snd))
                                (∃ (r_1 : Int),
                                  Ev Try.prog 60 [Arg.imm (D.dat Ty.bool true)]
                                      (compsOf [(false, Ty.int IntKind.i64)] r_1) ∧
                                    (inR IntKind.i64 r_1 →
                                      (-9223372036854775808 ≤ r.snd * r_1 ∧ r.snd * r_1 ≤ 9223372036854775807) ∧
                                        decide (r.snd = 6) = (keepsV g fall).fst ∧ r.snd * r_1 = (keepsV g fall).snd)))) := by
    intros
    refine ⟨_, implFirstShort_ev g fall, ?_⟩
    rcases askedF_or g fall with a | a | a
    · cases hf : (allC g.1 g.2.1).find? (shortB g fall) with
      | none =>
        have e1 : shortV g fall = ((0, 0), 6) := by simp [shortV, a, hf]
        have e2 : keepsV g fall = (true, 0) := by simp [keepsV, a, hf]
        rw [e1, e2]
        intros
        exact split_of (fun _ => ⟨_, bit_ev _, fun _ => by simp [bitI]⟩) (fun h => by simp at h)
      | some q =>
        have e1 : shortV g fall = (q, 0) := by simp [shortV, a, hf]
        have e2 : keepsV g fall = (false, 0) := by simp [keepsV, a, hf]
        rw [e1, e2]
        intros
        exact split_of (fun _ => ⟨_, bit_ev _, fun _ => by simp [bitI]⟩) (fun h => by simp at h)
    · have e1 : shortV g fall = ((0, 0), 1) := by simp [shortV, a]
      have e2 : keepsV g fall = (false, 1) := by simp [keepsV, a]
      rw [e1, e2]
      intros
      exact split_of (fun h => by simp at h) (fun h => ⟨_, bit_ev _, fun _ => by simp [bitI]⟩)
    · have e1 : shortV g fall = ((0, 0), 2) := by simp [shortV, a]
      have e2 : keepsV g fall = (false, 2) := by simp [keepsV, a]
      rw [e1, e2]
      intros
      exact split_of (fun _ => ⟨_, bit_ev _, fun _ => by simp [bitI]⟩) (fun h => by simp at h)
  refine @Eq.mpr _ _ (?_) key
  kernel_rfl
def keepsB (g : G) (fall : Int) (p : Int × Int) (n : Nat) : Bool := ((besC g p).take n).any fun q => decide (fall ≤ hgt g p - hgt g q)
def sB (g : G) (fall : Int) (p : Int × Int) : Bool := !(decide (0 ≤ idxI g.2.2.2 p)) && !(keepsB g fall p (besC g p).length)
def cAt (σ : List Slot) (n : Nat) : Int × Int := match σ.getD n .dead with
  | .val (.dat (.prod (.int _) (.int _)) x) => x
  | _ => (0, 0)
abbrev allG (g : G) : Cl := allC g.1 g.2.1
theorem find_first : ∀ {l : Cl} {P : Int × Int → Bool} {i : Nat}, i < l.length → P (l.getD i (0, 0)) = true → (∀ j : Nat, j < i → P (l.getD j (0, 0)) = false) → l.find? P = some (l.getD i (0, 0))
  | q :: l, P, 0, _, h, _ => by simp at h; simp [h]
  | q :: l, P, i + 1, hl, h, hn => by
    have h0 : P q = false := by have := hn 0 (by omega); simpa using this
    have ih := find_first (l := l) (P := P) (i := i) (by simpa using hl) (by simpa using h) fun j hj => by have := hn (j + 1) (by omega); simpa using this
    rw [List.find?_cons, h0]
    simpa using ih
theorem find_none : ∀ {l : Cl} {P : Int × Int → Bool}, (∀ j : Nat, j < l.length → P (l.getD j (0, 0)) = false) → l.find? P = none
  | [], P, _ => rfl
  | q :: l, P, hn => by
    have h0 : P q = false := by have := hn 0 (by simp); simpa using this
    have ih := find_none (l := l) (P := P) fun j hj => by have := hn (j + 1) (by simpa using hj); simpa using this
    rw [List.find?_cons, h0]
    exact ih
theorem all_in {g : G} {i : Nat} (h : i < (allC g.1 g.2.1).length) : Pt g ((allC g.1 g.2.1).getD i (0, 0)) := by
  have : (allC g.1 g.2.1).getD i (0, 0) = (allC g.1 g.2.1)[i] := by simp [List.getD_eq_getElem?_getD, h]
  rw [this]
  have := allC_mem.1 (List.getElem_mem h)
  exact isIn_iff.2 ⟨⟨this.1, this.2.1⟩, this.2.2⟩
theorem valB_eq {x y : Bool} (h : x = y) : Slot.val (.dat .bool x) = Slot.val (.dat .bool y) := by rw [h]
theorem all_len {g : G} (k : OkG g) : (allC g.1 g.2.1).length ≤ 200 := by
  have := k.wh
  have := rows_short (w := g.1) (y := g.2.1.toNat) (x := 0) (z := 0) (by omega) (by omega) (by omega)
  rw [List.length_append, rowC_len] at this
  exact this
theorem allC_len {w h : Int} (hw : w ≤ 12) (hh : h ≤ 12) : (allC w h).length ≤ 200 := by
  have := rows_short (w := w) (y := h.toNat) (x := 0) (z := 0) (by omega) (by omega) (by omega)
  rw [List.length_append, rowC_len] at this
  exact this
noncomputable abbrev l04ShortInv (g : G) (fall : Int) (n : Nat) (σ : List Slot) : Option LoopInv := match n with
  | 3 => some ⟨4 :: hvAt Try.f78 3, Nat, fun i => [(4, .box (.dat cellT (0, 0))), (5, .val (.dat .bool false)), (7, .val (.dat (.int .i64) i))], fun i => i ≤ (allG g).length ∧ ∀ j : Nat, j < i → sB g fall ((allG g).getD j (0, 0)) = false, fun i => (allG g).length - i⟩
  | 9 => some ⟨hvAt Try.f78 9, Nat, fun i => [(8, .val (.dat .bool (keepsB g fall ((allG g).getD (iAt σ 7).toNat (0, 0)) i))), (10, .val (.dat (.int .i64) i))], fun i => i ≤ (besC g ((allG g).getD (iAt σ 7).toNat (0, 0))).length, fun i => (besC g ((allG g).getD (iAt σ 7).toNat (0, 0))).length - i⟩
  | _ => none
def firstV (g : G) (fall : Int) : (Int × Int) × Bool := match (allG g).find? (sB g fall) with | some p => (p, true) | none => ((0, 0), false)
theorem l04Short_ev (g : G) (fall : Int) (k : OkG g) (hf : 1 ≤ fall ∧ fall ≤ 200) : Ev Try.prog 78 [aGp g, aI fall] (compsOf [rC, rB] (firstV g fall)) := by
  refine ev_of (l := [rC, rB]) (r := (firstV g fall)) (types (resT) [] (l04ShortInv g fall)) follows Try.func78 (by kernel_rfl) (by rw [Try.ntmps78]; exact Nat.le_of_ble_eq_true rfl) ?_
  have key : (inR IntKind.i64 fall →
    ∃ (r : List (Int × Int)),
      Ev Try.prog 54 [Arg.imm (D.dat (groundT 40) g).ref]
          (compsOf [(true, Ty.slice 40 ((Ty.int IntKind.i8).prod (Ty.int IntKind.i8)))] r) ∧
        ((r.length ≤ 9223372036854775807 ∧
            ∀ (x : Int × Int), List.Mem x r → inR IntKind.i8 x.fst ∧ inR IntKind.i8 x.snd) →
          (∃ (x0 : Nat),
              (Slot.box (D.dat cellT (0, 0)) = Slot.box (D.dat cellT (0, 0)) ∧
                  Slot.val (D.dat Ty.bool false) = Slot.val (D.dat Ty.bool false) ∧
                    Slot.val (D.dat (Ty.int IntKind.i64) 0) = Slot.val (D.dat (Ty.int IntKind.i64) ((x0 : Nat) : Int))) ∧
                x0 ≤ List.length (allC g.fst g.snd.fst) ∧
                  ∀ (j : Nat), j < x0 → sB g fall (List.getD (allC g.fst g.snd.fst) j (0, 0)) = false) ∧
            ∀ (x : Nat),
              (x ≤ List.length (allC g.fst g.snd.fst) ∧
                  ∀ (j : Nat), j < x → sB g fall (List.getD (allC g.fst g.snd.fst) j (0, 0)) = false) →
                inR IntKind.i8 0 →
                  inR IntKind.i8 0 →
                    inR IntKind.i64 ((x : Nat) : Int) →
                      ((r.length : Nat) : Int) ≤ 9223372036854775807 →
                        split (decide (((x : Nat) : Int) < ((r.length : Nat) : Int)))
                          ((0 ≤ ((x : Nat) : Int) ∧ ((x : Nat) : Int) < ((r.length : Nat) : Int)) ∧
                            (inR IntKind.i8 (r.getD (((x : Nat) : Int)).toNat (0, 0)).fst →
                              inR IntKind.i8 (r.getD (((x : Nat) : Int)).toNat (0, 0)).snd →
                                ∃ (r_1 : Int),
                                  Ev Try.prog 84
                                      [Arg.imm (D.dat (groundT 40) g).ref,
                                        Arg.imm (D.dat cellT (r.getD (((x : Nat) : Int)).toNat (0, 0)))]
                                      (compsOf [(false, Ty.int IntKind.i64)] r_1) ∧
                                    (inR IntKind.i64 r_1 →
                                      split (decide (0 ≤ r_1))
                                        ((-9223372036854775808 ≤ ((x : Nat) : Int) + 1 ∧ ((x : Nat) : Int) + (1 : Int) ≤ 9223372036854775807) ∧
                                          ∃ (x' : Nat),
                                            (Slot.box (D.dat cellT (0, 0)) = Slot.box (D.dat cellT (0, 0)) ∧
                                                Slot.val (D.dat Ty.bool false) = Slot.val (D.dat Ty.bool false) ∧
                                                  Slot.val (D.dat (Ty.int IntKind.i64) (((x : Nat) : Int) + 1)) =
                                                    Slot.val (D.dat (Ty.int IntKind.i64) ((x' : Nat) : Int))) ∧
                                              (x' ≤ List.length (allC g.fst g.snd.fst) ∧
                                                  ∀ (j : Nat),
                                                    j < x' →
                                                      sB g fall (List.getD (allC g.fst g.snd.fst) j (0, 0)) = false) ∧
                                                List.length (allC g.fst g.snd.fst) - x' <
                                                  List.length (allC g.fst g.snd.fst) - x)
                                        ((0 ≤ ((x : Nat) : Int) ∧ ((x : Nat) : Int) < ((r.length : Nat) : Int)) ∧
                                          (inR IntKind.i8 (r.getD (((x : Nat) : Int)).toNat (0, 0)).fst →
                                            inR IntKind.i8 (r.getD (((x : Nat) : Int)).toNat (0, 0)).snd →
                                              ∃ (r_2 : List (Int × Int)),
                                                Ev Try.prog 55
                                                    [Arg.imm (D.dat (groundT 40) g).ref,
                                                      Arg.imm (D.dat cellT (r.getD (((x : Nat) : Int)).toNat (0, 0)))]
                                                    (compsOf
                                                      [(true,
                                                          Ty.slice 40 ((Ty.int IntKind.i8).prod (Ty.int IntKind.i8)))]
                                                      r_2) ∧
                                                  ((r_2.length ≤ 9223372036854775807 ∧
                                                      ∀ (x : Int × Int),
                                                        List.Mem x r_2 → inR IntKind.i8 x.fst ∧ inR IntKind.i8 x.snd) →
                                                    (∃ (x0 : Nat),
                                                        (Slot.val (D.dat Ty.bool false) =
                                                              Slot.val
                                                                (D.dat Ty.bool
                                                                  (keepsB g fall
                                                                    (List.getD (allC g.fst g.snd.fst) (((x : Nat) : Int)).toNat (0, 0))
                                                                    x0)) ∧
                                                            Slot.val (D.dat (Ty.int IntKind.i64) 0) =
                                                              Slot.val (D.dat (Ty.int IntKind.i64) ((x0 : Nat) : Int))) ∧
                                                          x0 ≤
                                                            List.length
                                                              (besC g
                                                                (List.getD (allC g.fst g.snd.fst) (((x : Nat) : Int)).toNat (0, 0)))) ∧
                                                      ∀ (x_1 : Nat),
                                                        x_1 ≤
                                                            List.length
                                                              (besC g
                                                                (List.getD (allC g.fst g.snd.fst) (((x : Nat) : Int)).toNat (0, 0))) →
                                                          inR IntKind.i64 ((x_1 : Nat) : Int) →
                                                            ((r_2.length : Nat) : Int) ≤ 9223372036854775807 →
                                                              split (decide (((x_1 : Nat) : Int) < ((r_2.length : Nat) : Int)))
                                                                (split
                                                                  (!keepsB g fall
                                                                      (List.getD (allC g.fst g.snd.fst) (((x : Nat) : Int)).toNat
                                                                        (0, 0))
                                                                      x_1)
                                                                  ((0 ≤ ((x : Nat) : Int) ∧ ((x : Nat) : Int) < ((r.length : Nat) : Int)) ∧
                                                                    (inR IntKind.i8 (r.getD (((x : Nat) : Int)).toNat (0, 0)).fst →
                                                                      inR IntKind.i8 (r.getD (((x : Nat) : Int)).toNat (0, 0)).snd →
                                                                        ∃ (r_3 : Int),
                                                                          Ev Try.prog 56
                                                                              [Arg.imm (D.dat (groundT 40) g).ref,
                                                                                Arg.imm
                                                                                  (D.dat cellT
                                                                                    (r.getD (((x : Nat) : Int)).toNat (0, 0)))]
                                                                              (compsOf [(false, Ty.int IntKind.i64)]
                                                                                r_3) ∧
                                                                            (inR IntKind.i64 r_3 →
                                                                              (0 ≤ ((x_1 : Nat) : Int) ∧ ((x_1 : Nat) : Int) < ((r_2.length : Nat) : Int)) ∧
                                                                                (inR IntKind.i8
                                                                                    (r_2.getD (((x_1 : Nat) : Int)).toNat (0, 0)).fst →
                                                                                  inR IntKind.i8
                                                                                      (r_2.getD (((x_1 : Nat) : Int)).toNat
                                                                                          (0, 0)).snd →
                                                                                    ∃ (r : Int),
                                                                                      Ev Try.prog 56
                                                                                          [Arg.imm
                                                                                              (D.dat (groundT 40)
                                                                                                  g).ref,
                                                                                            Arg.imm
                                                                                              (D.dat cellT
                                                                                                (r_2.getD (((x_1 : Nat) : Int)).toNat
                                                                                                  (0, 0)))]
                                                                                          (compsOf
                                                                                            [(false,
                                                                                                Ty.int IntKind.i64)]
                                                                                            r) ∧
                                                                                        (inR IntKind.i64 r →
                                                                                          (-9223372036854775808 ≤
                                                                                                r_3 - r ∧
                                                                                              r_3 - r ≤
                                                                                                9223372036854775807) ∧
                                                                                            (-9223372036854775808 ≤
                                                                                                  ((x_1 : Nat) : Int) + 1 ∧
                                                                                                ((x_1 : Nat) : Int) + 1 ≤
                                                                                                  9223372036854775807) ∧
                                                                                              ∃ (x' : Nat),
                                                                                                (Slot.val
                                                                                                        (D.dat Ty.bool
                                                                                                          (decide
                                                                                                            (fall ≤
                                                                                                              r_3 -
                                                                                                                r))) =
                                                                                                      Slot.val
                                                                                                        (D.dat Ty.bool
                                                                                                          (keepsB g fall
                                                                                                            (List.getD
                                                                                                              (allC
                                                                                                                g.fst
                                                                                                                g.snd.fst)
                                                                                                              (((x : Nat) : Int)).toNat
                                                                                                              (0, 0))
                                                                                                            x')) ∧
                                                                                                    Slot.val
                                                                                                        (D.dat
                                                                                                          (Ty.int
                                                                                                            IntKind.i64)
                                                                                                          (((x_1 : Nat) : Int) + 1)) =
                                                                                                      Slot.val
                                                                                                        (D.dat
                                                                                                          (Ty.int
                                                                                                            IntKind.i64)
                                                                                                          ((x' : Nat) : Int))) ∧
                                                                                                  x' ≤
                                                                                                      List.length
                                                                                                        (besC g
                                                                                                          (List.getD
                                                                                                            (allC g.fst
                                                                                                              g.snd.fst)
                                                                                                            (((x : Nat) : Int)).toNat
                                                                                                            (0, 0))) ∧
                                                                                                    List.length
                                                                                                          (besC g
                                                                                                            (List.getD
                                                                                                              (allC
                                                                                                                g.fst
                                                                                                                g.snd.fst)
                                                                                                              (((x : Nat) : Int)).toNat
                                                                                                              (0, 0))) -
                                                                                                        x' <
                                                                                                      List.length
                                                                                                          (besC g
                                                                                                            (List.getD
                                                                                                              (allC
                                                                                                                g.fst
                                                                                                                g.snd.fst)
                                                                                                              (((x : Nat) : Int)).toNat
                                                                                                              (0, 0))) -
                                                                                                        x_1)))))
                                                                  ((-9223372036854775808 ≤ ((x_1 : Nat) : Int) + 1 ∧
                                                                      ((x_1 : Nat) : Int) + (1 : Int) ≤ 9223372036854775807) ∧
                                                                    ∃ (x' : Nat),
                                                                      (Slot.val (D.dat Ty.bool true) =
                                                                            Slot.val
                                                                              (D.dat Ty.bool
                                                                                (keepsB g fall
                                                                                  (List.getD (allC g.fst g.snd.fst)
                                                                                    (((x : Nat) : Int)).toNat (0, 0))
                                                                                  x')) ∧
                                                                          Slot.val
                                                                              (D.dat (Ty.int IntKind.i64) (((x_1 : Nat) : Int) + 1)) =
                                                                            Slot.val (D.dat (Ty.int IntKind.i64) ((x' : Nat) : Int))) ∧
                                                                        x' ≤
                                                                            List.length
                                                                              (besC g
                                                                                (List.getD (allC g.fst g.snd.fst)
                                                                                  (((x : Nat) : Int)).toNat (0, 0))) ∧
                                                                          List.length
                                                                                (besC g
                                                                                  (List.getD (allC g.fst g.snd.fst)
                                                                                    (((x : Nat) : Int)).toNat (0, 0))) -
                                                                              x' <
                                                                            List.length
                                                                                (besC g
                                                                                  (List.getD (allC g.fst g.snd.fst)
                                                                                    (((x : Nat) : Int)).toNat (0, 0))) -
                                                                              x_1))
                                                                (split
                                                                  (!keepsB g fall
                                                                      (List.getD (allC g.fst g.snd.fst) (((x : Nat) : Int)).toNat
                                                                        (0, 0))
                                                                      x_1)
                                                                  ((0 ≤ ((x : Nat) : Int) ∧ ((x : Nat) : Int) < ((r.length : Nat) : Int)) ∧
                                                                    (inR IntKind.i8 (r.getD (((x : Nat) : Int)).toNat (0, 0)).fst →
                                                                      inR IntKind.i8 (r.getD (((x : Nat) : Int)).toNat (0, 0)).snd →
                                                                        r.getD (((x : Nat) : Int)).toNat (0, 0) = (firstV g fall).fst ∧
                                                                          true = (firstV g fall).snd))
                                                                  ((-9223372036854775808 ≤ ((x : Nat) : Int) + 1 ∧
                                                                      ((x : Nat) : Int) + (1 : Int) ≤ 9223372036854775807) ∧
                                                                    ∃ (x' : Nat),
                                                                      (Slot.box (D.dat cellT (0, 0)) =
                                                                            Slot.box (D.dat cellT (0, 0)) ∧
                                                                          Slot.val (D.dat Ty.bool false) =
                                                                              Slot.val (D.dat Ty.bool false) ∧
                                                                            Slot.val
                                                                                (D.dat (Ty.int IntKind.i64) (((x : Nat) : Int) + 1)) =
                                                                              Slot.val
                                                                                (D.dat (Ty.int IntKind.i64) ((x' : Nat) : Int))) ∧
                                                                        (x' ≤ List.length (allC g.fst g.snd.fst) ∧
                                                                            ∀ (j : Nat),
                                                                              j < x' →
                                                                                sB g fall
                                                                                    (List.getD (allC g.fst g.snd.fst) j
                                                                                      (0, 0)) =
                                                                                  false) ∧
                                                                          List.length (allC g.fst g.snd.fst) - x' <
                                                                            List.length (allC g.fst g.snd.fst) -
                                                                              x))))))))
                          ((0, 0) = (firstV g fall).fst ∧ false = (firstV g fall).snd))) := by
    intro hfF
    have hw := k.wh
    refine ⟨_, l04All_ev g (by omega) (by omega), fun _ => ⟨⟨0, ⟨rfl, rfl, rfl⟩, by omega, fun j hj => by omega⟩, fun i ⟨hi, hn⟩ _ _ _ _ => split_of (fun h => ?_) (fun h => ?_)⟩⟩
    · have h := of_decide_eq_true h
      simp only [Int.toNat_natCast]
      have hlt : i < (allC g.1 g.2.1).length := by omega
      have hal := all_len k
      have hm := all_in hlt
      have hff : sB g fall ((allC g.1 g.2.1).getD i (0, 0)) = true → firstV g fall = ((allC g.1 g.2.1).getD i (0, 0), true) := fun q => by simp only [firstV, find_first hlt q hn]
      have hup : sB g fall ((allC g.1 g.2.1).getD i (0, 0)) = false → ∀ j : Nat, j < i + 1 → sB g fall ((allC g.1 g.2.1).getD j (0, 0)) = false := fun q => upto_step hn q
      revert hm hff hup
      generalize (allC g.1 g.2.1).getD i (0, 0) = p
      intro hm hff hup
      have hb := Pt.b k hm
      have b1 := hgt_b k hm
      have hbl : (besC g p).length ≤ 4 := List.length_filter_le _ _
      refine ⟨by omega, fun _ _ => ⟨_, l04Gully_ev g p, fun _ => split_of (fun h2 => ⟨by omega, i + 1, ⟨trivial, trivial, rfl⟩, ⟨by omega, hup ?_⟩, by omega⟩) (fun h2 => ?_)⟩⟩
      · simp [sB, h2]
      · refine ⟨by omega, fun _ _ => ⟨_, l04Beside_ev g p hb.1 hb.2, fun _ => ⟨⟨0, ⟨rfl, rfl⟩, by omega⟩, fun j hj _ _ => split_of (fun h3 => ?_) (fun h3 => ?_)⟩⟩⟩
        · have h3 := of_decide_eq_true h3
          try simp only [Int.toNat_natCast]
          have hjl : j < (besC g p).length := by omega
          have hq := Pt.b k (getD_in hjl)
          have b2 := hgt_b k (getD_in hjl)
          have hs : keepsB g fall p (j + 1) = (keepsB g fall p j || decide (fall ≤ hgt g p - hgt g ((besC g p).getD j (0, 0)))) := by
            simp only [keepsB]; rw [take_next (d := (0, 0)) hjl, List.any_append]; simp
          refine split_of (fun h4 => ?_) (fun h4 => ?_)
          · have h4 : keepsB g fall p j = false := by simpa using h4
            exact ⟨by omega, fun _ _ => ⟨_, l04Height_ev g _ hb.1 hb.2, fun _ => ⟨by omega, fun _ _ => ⟨_, l04Height_ev g _ hq.1 hq.2, fun _ => ⟨by omega, by omega, j + 1, ⟨valB_eq (by rw [hs, h4]; rfl), valI_eq (by omega)⟩, by omega, by omega⟩⟩⟩⟩⟩
          · have h4 : keepsB g fall p j = true := by simpa using h4
            exact ⟨by omega, j + 1, ⟨valB_eq (by rw [hs, h4]; rfl), valI_eq (by omega)⟩, by omega, by omega⟩
        · have h3 := of_decide_eq_false h3
          obtain rfl : j = (besC g p).length := by omega
          refine split_of (fun h4 => ⟨by omega, fun _ _ => ?_⟩) (fun h4 => ⟨by omega, i + 1, ⟨trivial, trivial, rfl⟩, ⟨by omega, hup ?_⟩, by omega⟩)
          · rw [hff (by simp only [sB, h2, h4]; rfl)]; exact ⟨rfl, rfl⟩
          · simp only [sB, h4]; simp
    · have h := of_decide_eq_false h
      simp only [firstV, find_none fun j hj => hn j (by omega)]
      exact ⟨trivial, trivial⟩
  refine @Eq.mpr _ _ (?_) key
  kernel_rfl
end Go.Proofs.Ytkhheofgnhndbaa
