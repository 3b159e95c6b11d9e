/- The law on the fall at a point. No statement is proved here. -/
import Derived.Test.YtkhheofgnhndbaaFn
namespace Go.Proofs.Ytkhheofgnhndbaa
open Go.RowKit
set_option linter.unusedVariables false
set_option linter.unusedSimpArgs false
set_option maxRecDepth 100000
set_option maxHeartbeats 4000000
theorem sz_pos {n : Nat} (h : ¬ szI n 1048576 < 0) : n ≤ 1048576 := by
  unfold szI at h
  split at h <;> omega
theorem lawFallAt_ev (g : G) (p : Int × Int) : Ev Try.prog 7 [aG0 g, .imm (.dat cellT p)] (compsOf [rB] (true)) := by
  refine ev_of (l := [rB]) (r := (true)) (types (resT) [] (fun _ _ => none)) follows Try.func7 (by kernel_rfl) (by rw [Try.ntmps7]; exact Nat.le_of_ble_eq_true rfl) ?_
  have key : (inR IntKind.i8 g.fst →
    inR IntKind.i8 g.snd.fst →
      (g.snd.snd.fst.length = 9 ∧
          ∀ (x : List Int),
            List.Mem x g.snd.snd.fst → x.length = 9 ∧ ∀ (x_1 : Int), List.Mem x_1 x → inR IntKind.i16 x_1) →
        (g.snd.snd.snd.length ≤ 9223372036854775807 ∧
            ∀ (x : Int × Int), List.Mem x g.snd.snd.snd → inR IntKind.i8 x.fst ∧ inR IntKind.i8 x.snd) →
          inR IntKind.i8 p.fst →
            inR IntKind.i8 p.snd →
              inR IntKind.i8 g.fst →
                inR IntKind.i8 g.snd.fst →
                  (g.snd.snd.fst.length = 9 ∧
                      ∀ (x : List Int),
                        List.Mem x g.snd.snd.fst → x.length = 9 ∧ ∀ (x_1 : Int), List.Mem x_1 x → inR IntKind.i16 x_1) →
                    (g.snd.snd.snd.length ≤ 9223372036854775807 ∧
                        ∀ (x : Int × Int), List.Mem x g.snd.snd.snd → inR IntKind.i8 x.fst ∧ inR IntKind.i8 x.snd) →
                      ∃ (r : Int),
                        Ev Try.prog 14 [Arg.imm (D.dat (groundT 48) g), Arg.imm (D.dat (Ty.int IntKind.i64) 1048576)]
                            (compsOf [(false, Ty.int IntKind.i64)] r) ∧
                          (inR IntKind.i64 r →
                            split (decide (r < 0)) (true = true)
                              (inR IntKind.i8 g.fst →
                                inR IntKind.i8 g.snd.fst →
                                  (g.snd.snd.fst.length = 9 ∧
                                      ∀ (x : List Int),
                                        List.Mem x g.snd.snd.fst →
                                          x.length = 9 ∧ ∀ (x_1 : Int), List.Mem x_1 x → inR IntKind.i16 x_1) →
                                    (g.snd.snd.snd.length ≤ 9223372036854775807 ∧
                                        ∀ (x : Int × Int),
                                          List.Mem x g.snd.snd.snd → inR IntKind.i8 x.fst ∧ inR IntKind.i8 x.snd) →
                                      ∃ (r : Int × Int × List (List Int) × List (Int × Int)),
                                        Ev Try.prog 16 [Arg.imm (D.dat (groundT 48) g)]
                                            (compsOf
                                              [(true,
                                                  (Ty.int IntKind.i8).prod
                                                    ((Ty.int IntKind.i8).prod
                                                      ((Ty.arr 9 (Ty.arr 9 (Ty.int IntKind.i16))).prod
                                                        (Ty.slice 40 ((Ty.int IntKind.i8).prod (Ty.int IntKind.i8))))))]
                                              r) ∧
                                          (inR IntKind.i8 r.fst →
                                            inR IntKind.i8 r.snd.fst →
                                              (r.snd.snd.fst.length = 9 ∧
                                                  ∀ (x : List Int),
                                                    List.Mem x r.snd.snd.fst →
                                                      x.length = 9 ∧
                                                        ∀ (x_1 : Int), List.Mem x_1 x → inR IntKind.i16 x_1) →
                                                (r.snd.snd.snd.length ≤ 9223372036854775807 ∧
                                                    ∀ (x : Int × Int),
                                                      List.Mem x r.snd.snd.snd →
                                                        inR IntKind.i8 x.fst ∧ inR IntKind.i8 x.snd) →
                                                  inR IntKind.i8 p.fst →
                                                    inR IntKind.i8 p.snd →
                                                      ∃ (r_1 : Int × Int),
                                                        Ev Try.prog 29 [Arg.imm (D.dat cellT p)]
                                                            (compsOf
                                                              [(false, (Ty.int IntKind.i8).prod (Ty.int IntKind.i8))]
                                                              r_1) ∧
                                                          (inR IntKind.i8 r_1.fst →
                                                            inR IntKind.i8 r_1.snd →
                                                              ∃ (r_2 : (Int × Int) × Int × Int),
                                                                Ev Try.prog 28
                                                                    [Arg.imm (D.dat (groundT 40) r),
                                                                      Arg.imm (D.dat cellT r_1)]
                                                                    (compsOf
                                                                      [(false,
                                                                          (Ty.int IntKind.i8).prod (Ty.int IntKind.i8)),
                                                                        (false, Ty.int IntKind.i64),
                                                                        (false, Ty.int IntKind.i64)]
                                                                      r_2) ∧
                                                                  (inR IntKind.i8 r_2.fst.fst →
                                                                    inR IntKind.i8 r_2.fst.snd →
                                                                      inR IntKind.i64 r_2.snd.fst →
                                                                        inR IntKind.i64 r_2.snd.snd →
                                                                          inR IntKind.i8 g.fst →
                                                                            inR IntKind.i8 g.snd.fst →
                                                                              (g.snd.snd.fst.length = 9 ∧
                                                                                  ∀ (x : List Int),
                                                                                    List.Mem x g.snd.snd.fst →
                                                                                      x.length = 9 ∧
                                                                                        ∀ (x_1 : Int),
                                                                                          List.Mem x_1 x →
                                                                                            inR IntKind.i16 x_1) →
                                                                                (g.snd.snd.snd.length ≤
                                                                                      9223372036854775807 ∧
                                                                                    ∀ (x : Int × Int),
                                                                                      List.Mem x g.snd.snd.snd →
                                                                                        inR IntKind.i8 x.fst ∧
                                                                                          inR IntKind.i8 x.snd) →
                                                                                  ∃ (r :
                                                                                    Int ×
                                                                                      Int ×
                                                                                        List (List Int) ×
                                                                                          List (Int × Int)),
                                                                                    Ev Try.prog 16
                                                                                        [Arg.imm (D.dat (groundT 48) g)]
                                                                                        (compsOf
                                                                                          [(true,
                                                                                              (Ty.int IntKind.i8).prod
                                                                                                ((Ty.int
                                                                                                      IntKind.i8).prod
                                                                                                  ((Ty.arr 9
                                                                                                        (Ty.arr 9
                                                                                                          (Ty.int
                                                                                                            IntKind.i16))).prod
                                                                                                    (Ty.slice 40
                                                                                                      ((Ty.int
                                                                                                            IntKind.i8).prod
                                                                                                        (Ty.int
                                                                                                          IntKind.i8))))))]
                                                                                          r) ∧
                                                                                      (inR IntKind.i8 r.fst →
                                                                                        inR IntKind.i8 r.snd.fst →
                                                                                          (r.snd.snd.fst.length = 9 ∧
                                                                                              ∀ (x : List Int),
                                                                                                List.Mem x
                                                                                                    r.snd.snd.fst →
                                                                                                  x.length = 9 ∧
                                                                                                    ∀ (x_1 : Int),
                                                                                                      List.Mem x_1 x →
                                                                                                        inR IntKind.i16
                                                                                                          x_1) →
                                                                                            (r.snd.snd.snd.length ≤
                                                                                                  9223372036854775807 ∧
                                                                                                ∀ (x : Int × Int),
                                                                                                  List.Mem x
                                                                                                      r.snd.snd.snd →
                                                                                                    inR IntKind.i8
                                                                                                        x.fst ∧
                                                                                                      inR IntKind.i8
                                                                                                        x.snd) →
                                                                                              inR IntKind.i8 r.fst →
                                                                                                inR IntKind.i8
                                                                                                    r.snd.fst →
                                                                                                  (r.snd.snd.fst.length =
                                                                                                        9 ∧
                                                                                                      ∀ (x : List Int),
                                                                                                        List.Mem x
                                                                                                            r.snd.snd.fst →
                                                                                                          x.length = 9 ∧
                                                                                                            ∀
                                                                                                              (x_1 :
                                                                                                                Int),
                                                                                                              List.Mem
                                                                                                                  x_1
                                                                                                                  x →
                                                                                                                inR
                                                                                                                  IntKind.i16
                                                                                                                  x_1) →
                                                                                                    (r.snd.snd.snd.length ≤
                                                                                                          9223372036854775807 ∧
                                                                                                        ∀
                                                                                                          (x :
                                                                                                            Int × Int),
                                                                                                          List.Mem x
                                                                                                              r.snd.snd.snd →
                                                                                                            inR
                                                                                                                IntKind.i8
                                                                                                                x.fst ∧
                                                                                                              inR
                                                                                                                IntKind.i8
                                                                                                                x.snd) →
                                                                                                      inR IntKind.i8
                                                                                                          p.fst →
                                                                                                        inR IntKind.i8
                                                                                                            p.snd →
                                                                                                          ∃ (r_3 :
                                                                                                            Int × Int),
                                                                                                            Ev Try.prog
                                                                                                                29
                                                                                                                [Arg.imm
                                                                                                                    (D.dat
                                                                                                                      cellT
                                                                                                                      p)]
                                                                                                                (compsOf
                                                                                                                  [(false,
                                                                                                                      (Ty.int
                                                                                                                            IntKind.i8).prod
                                                                                                                        (Ty.int
                                                                                                                          IntKind.i8))]
                                                                                                                  r_3) ∧
                                                                                                              (inR
                                                                                                                  IntKind.i8
                                                                                                                  r_3.fst →
                                                                                                                inR
                                                                                                                    IntKind.i8
                                                                                                                    r_3.snd →
                                                                                                                  ∃ (r_4
                                                                                                                    :
                                                                                                                    (Int ×
                                                                                                                        Int) ×
                                                                                                                      Int ×
                                                                                                                        Int),
                                                                                                                    Ev
                                                                                                                        Try.prog
                                                                                                                        30
                                                                                                                        [Arg.imm
                                                                                                                            (D.dat
                                                                                                                              (groundT
                                                                                                                                40)
                                                                                                                              r),
                                                                                                                          Arg.imm
                                                                                                                            (D.dat
                                                                                                                              cellT
                                                                                                                              r_3)]
                                                                                                                        (compsOf
                                                                                                                          [(false,
                                                                                                                              (Ty.int
                                                                                                                                    IntKind.i8).prod
                                                                                                                                (Ty.int
                                                                                                                                  IntKind.i8)),
                                                                                                                            (false,
                                                                                                                              Ty.int
                                                                                                                                IntKind.i64),
                                                                                                                            (false,
                                                                                                                              Ty.int
                                                                                                                                IntKind.i64)]
                                                                                                                          r_4) ∧
                                                                                                                      (inR
                                                                                                                          IntKind.i8
                                                                                                                          r_4.fst.fst →
                                                                                                                        inR
                                                                                                                            IntKind.i8
                                                                                                                            r_4.fst.snd →
                                                                                                                          inR
                                                                                                                              IntKind.i64
                                                                                                                              r_4.snd.fst →
                                                                                                                            inR
                                                                                                                                IntKind.i64
                                                                                                                                r_4.snd.snd →
                                                                                                                              inR
                                                                                                                                  IntKind.i8
                                                                                                                                  r_4.fst.fst →
                                                                                                                                inR
                                                                                                                                    IntKind.i8
                                                                                                                                    r_4.fst.snd →
                                                                                                                                  inR
                                                                                                                                      IntKind.i8
                                                                                                                                      r_2.fst.fst →
                                                                                                                                    inR
                                                                                                                                        IntKind.i8
                                                                                                                                        r_2.fst.snd →
                                                                                                                                      ∃
                                                                                                                                        (r_5
                                                                                                                                        :
                                                                                                                                        Bool),
                                                                                                                                        Ev
                                                                                                                                            Try.prog
                                                                                                                                            23
                                                                                                                                            [Arg.imm
                                                                                                                                                (D.dat
                                                                                                                                                  cellT
                                                                                                                                                  r_4.fst),
                                                                                                                                              Arg.imm
                                                                                                                                                (D.dat
                                                                                                                                                  cellT
                                                                                                                                                  r_2.fst)]
                                                                                                                                            (compsOf
                                                                                                                                              [(false,
                                                                                                                                                  Ty.bool)]
                                                                                                                                              r_5) ∧
                                                                                                                                          split
                                                                                                                                            (!!r_5)
                                                                                                                                            (split
                                                                                                                                              (!!decide
                                                                                                                                                    (r_4.snd.fst =
                                                                                                                                                      r_2.snd.fst))
                                                                                                                                              (split
                                                                                                                                                (!decide
                                                                                                                                                    (r_4.snd.snd =
                                                                                                                                                      r_2.snd.snd))
                                                                                                                                                (false =
                                                                                                                                                  true)
                                                                                                                                                (inR
                                                                                                                                                    IntKind.i8
                                                                                                                                                    r.fst →
                                                                                                                                                  inR
                                                                                                                                                      IntKind.i8
                                                                                                                                                      r.snd.fst →
                                                                                                                                                    (r.snd.snd.fst.length =
                                                                                                                                                          9 ∧
                                                                                                                                                        ∀
                                                                                                                                                          (x :
                                                                                                                                                            List
                                                                                                                                                              Int),
                                                                                                                                                          List.Mem
                                                                                                                                                              x
                                                                                                                                                              r.snd.snd.fst →
                                                                                                                                                            x.length =
                                                                                                                                                                9 ∧
                                                                                                                                                              ∀
                                                                                                                                                                (x_1 :
                                                                                                                                                                  Int),
                                                                                                                                                                List.Mem
                                                                                                                                                                    x_1
                                                                                                                                                                    x →
                                                                                                                                                                  inR
                                                                                                                                                                    IntKind.i16
                                                                                                                                                                    x_1) →
                                                                                                                                                      (r.snd.snd.snd.length ≤
                                                                                                                                                            9223372036854775807 ∧
                                                                                                                                                          ∀
                                                                                                                                                            (x :
                                                                                                                                                              Int ×
                                                                                                                                                                Int),
                                                                                                                                                            List.Mem
                                                                                                                                                                x
                                                                                                                                                                r.snd.snd.snd →
                                                                                                                                                              inR
                                                                                                                                                                  IntKind.i8
                                                                                                                                                                  x.fst ∧
                                                                                                                                                                inR
                                                                                                                                                                  IntKind.i8
                                                                                                                                                                  x.snd) →
                                                                                                                                                        inR
                                                                                                                                                            IntKind.i8
                                                                                                                                                            g.fst →
                                                                                                                                                          inR
                                                                                                                                                              IntKind.i8
                                                                                                                                                              g.snd.fst →
                                                                                                                                                            (g.snd.snd.fst.length =
                                                                                                                                                                  9 ∧
                                                                                                                                                                ∀
                                                                                                                                                                  (x :
                                                                                                                                                                    List
                                                                                                                                                                      Int),
                                                                                                                                                                  List.Mem
                                                                                                                                                                      x
                                                                                                                                                                      g.snd.snd.fst →
                                                                                                                                                                    x.length =
                                                                                                                                                                        9 ∧
                                                                                                                                                                      ∀
                                                                                                                                                                        (x_1 :
                                                                                                                                                                          Int),
                                                                                                                                                                        List.Mem
                                                                                                                                                                            x_1
                                                                                                                                                                            x →
                                                                                                                                                                          inR
                                                                                                                                                                            IntKind.i16
                                                                                                                                                                            x_1) →
                                                                                                                                                              (g.snd.snd.snd.length ≤
                                                                                                                                                                    9223372036854775807 ∧
                                                                                                                                                                  ∀
                                                                                                                                                                    (x :
                                                                                                                                                                      Int ×
                                                                                                                                                                        Int),
                                                                                                                                                                    List.Mem
                                                                                                                                                                        x
                                                                                                                                                                        g.snd.snd.snd →
                                                                                                                                                                      inR
                                                                                                                                                                          IntKind.i8
                                                                                                                                                                          x.fst ∧
                                                                                                                                                                        inR
                                                                                                                                                                          IntKind.i8
                                                                                                                                                                          x.snd) →
                                                                                                                                                                ∃
                                                                                                                                                                  (r_6
                                                                                                                                                                  :
                                                                                                                                                                  Int ×
                                                                                                                                                                    Int ×
                                                                                                                                                                      List
                                                                                                                                                                          (List
                                                                                                                                                                            Int) ×
                                                                                                                                                                        List
                                                                                                                                                                          (Int ×
                                                                                                                                                                            Int)),
                                                                                                                                                                  Ev
                                                                                                                                                                      Try.prog
                                                                                                                                                                      16
                                                                                                                                                                      [Arg.imm
                                                                                                                                                                          (D.dat
                                                                                                                                                                            (groundT
                                                                                                                                                                              48)
                                                                                                                                                                            g)]
                                                                                                                                                                      (compsOf
                                                                                                                                                                        [(true,
                                                                                                                                                                            (Ty.int
                                                                                                                                                                                  IntKind.i8).prod
                                                                                                                                                                              ((Ty.int
                                                                                                                                                                                    IntKind.i8).prod
                                                                                                                                                                                ((Ty.arr
                                                                                                                                                                                      9
                                                                                                                                                                                      (Ty.arr
                                                                                                                                                                                        9
                                                                                                                                                                                        (Ty.int
                                                                                                                                                                                          IntKind.i16))).prod
                                                                                                                                                                                  (Ty.slice
                                                                                                                                                                                    40
                                                                                                                                                                                    ((Ty.int
                                                                                                                                                                                          IntKind.i8).prod
                                                                                                                                                                                      (Ty.int
                                                                                                                                                                                        IntKind.i8))))))]
                                                                                                                                                                        r_6) ∧
                                                                                                                                                                    (inR
                                                                                                                                                                        IntKind.i8
                                                                                                                                                                        r_6.fst →
                                                                                                                                                                      inR
                                                                                                                                                                          IntKind.i8
                                                                                                                                                                          r_6.snd.fst →
                                                                                                                                                                        (r_6.snd.snd.fst.length =
                                                                                                                                                                              9 ∧
                                                                                                                                                                            ∀
                                                                                                                                                                              (x :
                                                                                                                                                                                List
                                                                                                                                                                                  Int),
                                                                                                                                                                              List.Mem
                                                                                                                                                                                  x
                                                                                                                                                                                  r_6.snd.snd.fst →
                                                                                                                                                                                x.length =
                                                                                                                                                                                    9 ∧
                                                                                                                                                                                  ∀
                                                                                                                                                                                    (x_1 :
                                                                                                                                                                                      Int),
                                                                                                                                                                                    List.Mem
                                                                                                                                                                                        x_1
                                                                                                                                                                                        x →
                                                                                                                                                                                      inR
                                                                                                                                                                                        IntKind.i16
                                                                                                                                                                                        x_1) →
                                                                                                                                                                          (r_6.snd.snd.snd.length ≤
                                                                                                                                                                                9223372036854775807 ∧
                                                                                                                                                                              ∀
                                                                                                                                                                                (x :
                                                                                                                                                                                  Int ×
                                                                                                                                                                                    Int),
                                                                                                                                                                                List.Mem
                                                                                                                                                                                    x
                                                                                                                                                                                    r_6.snd.snd.snd →
                                                                                                                                                                                  inR
                                                                                                                                                                                      IntKind.i8
                                                                                                                                                                                      x.fst ∧
                                                                                                                                                                                    inR
                                                                                                                                                                                      IntKind.i8
                                                                                                                                                                                      x.snd) →
                                                                                                                                                                            ∃
                                                                                                                                                                              (r_7
                                                                                                                                                                              :
                                                                                                                                                                              Bool),
                                                                                                                                                                              Ev
                                                                                                                                                                                  Try.prog
                                                                                                                                                                                  18
                                                                                                                                                                                  [Arg.imm
                                                                                                                                                                                      (D.dat
                                                                                                                                                                                        (groundT
                                                                                                                                                                                          40)
                                                                                                                                                                                        r),
                                                                                                                                                                                    Arg.imm
                                                                                                                                                                                      (D.dat
                                                                                                                                                                                        (groundT
                                                                                                                                                                                          40)
                                                                                                                                                                                        r_6)]
                                                                                                                                                                                  (compsOf
                                                                                                                                                                                    [(false,
                                                                                                                                                                                        Ty.bool)]
                                                                                                                                                                                    r_7) ∧
                                                                                                                                                                                split
                                                                                                                                                                                  (!r_7)
                                                                                                                                                                                  (false =
                                                                                                                                                                                    true)
                                                                                                                                                                                  (true =
                                                                                                                                                                                    true))))
                                                                                                                                              (false =
                                                                                                                                                true))
                                                                                                                                            (false =
                                                                                                                                              true)))))))))) := by
    intros
    refine ⟨_, szGround_ev g, fun _ => split_of (fun _ => rfl) (fun h => ?_)⟩
    have hl := sz_pos (of_decide_eq_false h)
    intros
    refine ⟨_, toGround_ev g hl, ?_⟩
    intros
    refine ⟨_, toCell_ev p, ?_⟩
    intros
    refine ⟨_, specFallAt_ev _ _, ?_⟩
    intros
    refine ⟨_, toGround_ev g hl, ?_⟩
    intros
    refine ⟨_, toCell_ev p, ?_⟩
    intros
    refine ⟨_, implFallAt_ev _ _, ?_⟩
    intros
    refine ⟨_, eqCell_ev _, ?_⟩
    refine split_of (fun _ => split_of (fun _ => split_of (fun h => by simp at h) (fun _ => ?_)) (fun h => by simp at h)) (fun h => by simp at h)
    intros
    refine ⟨_, toGround_ev g hl, ?_⟩
    intros
    refine ⟨_, eqGround_ev _, ?_⟩
    exact split_of (fun h => by simp at h) (fun _ => rfl)
  refine @Eq.mpr _ _ (?_) key
  kernel_rfl
end Go.Proofs.Ytkhheofgnhndbaa
