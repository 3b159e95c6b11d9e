/- The laws on falls that are kept. No statement is proved here. -/
import Derived.Test.YtkhheofgnhndbaaFr
namespace Go.Proofs.Ytkhheofgnhndbaa
open Go.RowKit
set_option linter.unusedVariables false
set_option linter.unusedSimpArgs false
set_option maxRecDepth 100000
set_option maxHeartbeats 4000000
theorem low_le {g : G} (p : Int × Int) : ∀ (l : Cl), (l.foldl (lowS g) p = p ∨ (l.foldl (lowS g) p ∈ l ∧ hgt g (l.foldl (lowS g) p) < hgt g p)) ∧ hgt g (l.foldl (lowS g) p) ≤ hgt g p ∧ ∀ q ∈ l, hgt g (l.foldl (lowS g) p) ≤ hgt g q := by
  intro l
  induction l generalizing p with
  | nil => simp
  | cons c l ih =>
    obtain ⟨h1, h2, h3⟩ := ih (lowS g p c)
    have hs : lowS g p c = c ∧ hgt g c < hgt g p ∨ lowS g p c = p ∧ hgt g p ≤ hgt g c := by
      unfold lowS; split <;> simp <;> omega
    simp only [List.foldl_cons]
    rcases hs with ⟨e, he⟩ | ⟨e, he⟩
    · rw [e] at h1 h2 h3 ⊢
      refine ⟨.inr ?_, by omega, fun q hq => ?_⟩
      · rcases h1 with h1 | ⟨h1, h1'⟩
        · rw [h1]; exact ⟨by simp, he⟩
        · exact ⟨by simp [h1], by omega⟩
      · rcases List.mem_cons.1 hq with rfl | hq
        · exact h2
        · exact h3 q hq
    · rw [e] at h1 h2 h3 ⊢
      refine ⟨?_, by omega, fun q hq => ?_⟩
      · rcases h1 with h1 | ⟨h1, h1'⟩
        · exact .inl h1
        · exact .inr ⟨by simp [h1], by omega⟩
      · rcases List.mem_cons.1 hq with rfl | hq
        · omega
        · exact h3 q hq
theorem sB_is {g : G} {fall : Int} (hf : 1 ≤ fall) (p : Int × Int) : sB g fall p = shortB g fall p := by
  unfold sB shortB
  congr 1
  obtain ⟨h1, h2, h3⟩ := low_le (g := g) p (besC g p)
  have hl : (besC g p).foldl (lowS g) p = lowG g p := rfl
  rw [hl] at h1 h2 h3
  unfold keepsB
  rw [List.take_length]
  by_cases c : hgt g p - hgt g (lowG g p) < fall
  · have : ((besC g p).any fun q => decide (fall ≤ hgt g p - hgt g q)) = false := by
      rw [List.any_eq_false]
      intro q hq
      have := h3 q hq
      simp only [decide_eq_true_eq]; omega
    rw [this]; simp [c]
  · have : ((besC g p).any fun q => decide (fall ≤ hgt g p - hgt g q)) = true := by
      rw [List.any_eq_true]
      rcases h1 with h1 | ⟨h1, _⟩
      · rw [h1] at c; omega
      · exact ⟨_, h1, by simp only [decide_eq_true_eq]; omega⟩
    rw [this]; simp [c]
theorem first_is {g : G} {fall : Int} (hf : 1 ≤ fall) : firstV g fall = match (allC g.1 g.2.1).find? (shortB g fall) with | some p => (p, true) | none => ((0, 0), false) := by
  unfold firstV
  have : sB g fall = shortB g fall := funext fun p => sB_is hf p
  rw [this]; rfl
theorem askedF0 {g : G} {fall : Int} (h : askedF g fall = 0) : OkG g ∧ 1 ≤ fall ∧ fall ≤ 200 := by
  obtain ⟨k, h2⟩ := asked0 h
  simp only [inB, Bool.and_eq_true, decide_eq_true_eq] at h2
  exact ⟨k, h2⟩
theorem specFirstShort_ev (g : G) (fall : Int) : Ev Try.prog 37 [aG g, aI fall] (compsOf [rC, rI] (shortV g fall)) := by
  refine ev_of (l := [rC, rI]) (r := (shortV g fall)) (types (resT) [] (fun _ _ => none)) follows Try.func37 (by kernel_rfl) (by rw [Try.ntmps37]; exact Nat.le_of_ble_eq_true rfl) ?_
  have key : (inR IntKind.i8 g.fst →
    inR IntKind.i8 g.snd.fst →
      (g.snd.snd.fst.length = 9 ∧
          ∀ (x : List Int),
            List.Mem x g.snd.snd.fst → x.length = 9 ∧ ∀ (x_1 : Int), List.Mem x_1 x → inR IntKind.i16 x_1) →
        (g.snd.snd.snd.length ≤ 9223372036854775807 ∧
            ∀ (x : Int × Int), List.Mem x g.snd.snd.snd → inR IntKind.i8 x.fst ∧ inR IntKind.i8 x.snd) →
          inR IntKind.i64 fall →
            ∃ (r : Bool),
              Ev Try.prog 64
                  [Arg.imm (D.dat (Ty.int IntKind.i64) fall), Arg.imm (D.dat (Ty.int IntKind.i64) 1),
                    Arg.imm (D.dat (Ty.int IntKind.i64) 200)]
                  (compsOf [(false, Ty.bool)] r) ∧
                ∃ (r_1 : Int),
                  Ev Try.prog 63 [Arg.imm (D.dat (groundT 40) g).ref, Arg.imm (D.dat Ty.bool r)]
                      (compsOf [(false, Ty.int IntKind.i64)] r_1) ∧
                    (inR IntKind.i64 r_1 →
                      split (!decide (r_1 = 0)) ((0, 0) = (shortV g fall).fst ∧ r_1 = (shortV g fall).snd)
                        (∃ (r : (Int × Int) × Bool),
                          Ev Try.prog 78 [Arg.imm (D.dat (groundT 40) g).ref, Arg.imm (D.dat (Ty.int IntKind.i64) fall)]
                              (compsOf [(false, (Ty.int IntKind.i8).prod (Ty.int IntKind.i8)), (false, Ty.bool)] r) ∧
                            (inR IntKind.i8 r.fst.fst →
                              inR IntKind.i8 r.fst.snd →
                                split (!r.snd) ((0, 0) = (shortV g fall).fst ∧ 6 = (shortV g fall).snd)
                                  (inR IntKind.i8 r.fst.fst →
                                    inR IntKind.i8 r.fst.snd → r.fst = (shortV g fall).fst ∧ 0 = (shortV g fall).snd))))) := by
    intros
    refine ⟨_, l00In_ev _ _ _, _, l04Asked_ev g _, ?_⟩
    show _ → split (!decide (askedF g fall = 0)) _ _
    refine fun _ => split_of (fun h => ?_) (fun h => ?_)
    · have h : ¬ askedF g fall = 0 := by simpa using h
      simp only [shortV, if_neg h]
      first | exact ⟨rfl, rfl⟩ | exact ⟨rfl, trivial⟩ | (simp; rfl)
    · have h : askedF g fall = 0 := by simpa using h
      obtain ⟨k, hf⟩ := askedF0 h
      intros
      refine ⟨_, l04Short_ev g fall k hf, ?_⟩
      simp only [first_is hf.1, shortV, if_pos h]
      cases (allC g.1 g.2.1).find? (shortB g fall) with
      | none => intros; exact split_of (fun _ => ⟨rfl, rfl⟩) (fun h => by simp at h)
      | some q => intros; exact split_of (fun h => by simp at h) (fun _ => fun _ _ => ⟨rfl, rfl⟩)
  refine @Eq.mpr _ _ (?_) key
  kernel_rfl
theorem specKeeps_ev (g : G) (fall : Int) : Ev Try.prog 42 [aG g, aI fall] (compsOf [rB, rI] (keepsV g fall)) := by
  refine ev_of (l := [rB, rI]) (r := (keepsV g fall)) (types (resT) [] (fun _ _ => none)) follows Try.func42 (by kernel_rfl) (by rw [Try.ntmps42]; exact Nat.le_of_ble_eq_true rfl) ?_
  have key : (inR IntKind.i8 g.fst →
    inR IntKind.i8 g.snd.fst →
      (g.snd.snd.fst.length = 9 ∧
          ∀ (x : List Int),
            List.Mem x g.snd.snd.fst → x.length = 9 ∧ ∀ (x_1 : Int), List.Mem x_1 x → inR IntKind.i16 x_1) →
        (g.snd.snd.snd.length ≤ 9223372036854775807 ∧
            ∀ (x : Int × Int), List.Mem x g.snd.snd.snd → inR IntKind.i8 x.fst ∧ inR IntKind.i8 x.snd) →
          inR IntKind.i64 fall →
            ∃ (r : Bool),
              Ev Try.prog 64
                  [Arg.imm (D.dat (Ty.int IntKind.i64) fall), Arg.imm (D.dat (Ty.int IntKind.i64) 1),
                    Arg.imm (D.dat (Ty.int IntKind.i64) 200)]
                  (compsOf [(false, Ty.bool)] r) ∧
                ∃ (r_1 : Int),
                  Ev Try.prog 63 [Arg.imm (D.dat (groundT 40) g).ref, Arg.imm (D.dat Ty.bool r)]
                      (compsOf [(false, Ty.int IntKind.i64)] r_1) ∧
                    (inR IntKind.i64 r_1 →
                      split (!decide (r_1 = 0)) (false = (keepsV g fall).fst ∧ r_1 = (keepsV g fall).snd)
                        (∃ (r : (Int × Int) × Bool),
                          Ev Try.prog 78 [Arg.imm (D.dat (groundT 40) g).ref, Arg.imm (D.dat (Ty.int IntKind.i64) fall)]
                              (compsOf [(false, (Ty.int IntKind.i8).prod (Ty.int IntKind.i8)), (false, Ty.bool)] r) ∧
                            (inR IntKind.i8 r.fst.fst →
                              inR IntKind.i8 r.fst.snd → (!r.snd) = (keepsV g fall).fst ∧ 0 = (keepsV g fall).snd)))) := by
    intros
    refine ⟨_, l00In_ev _ _ _, _, l04Asked_ev g _, ?_⟩
    show _ → split (!decide (askedF g fall = 0)) _ _
    refine fun _ => split_of (fun h => ?_) (fun h => ?_)
    · have h : ¬ askedF g fall = 0 := by simpa using h
      simp only [keepsV, if_neg h]
      first | exact ⟨rfl, rfl⟩ | exact ⟨rfl, trivial⟩ | (simp; rfl)
    · have h : askedF g fall = 0 := by simpa using h
      obtain ⟨k, hf⟩ := askedF0 h
      intros
      refine ⟨_, l04Short_ev g fall k hf, ?_⟩
      simp only [first_is hf.1, keepsV, if_pos h]
      cases (allC g.1 g.2.1).find? (shortB g fall) with
      | none => intros; simp
      | some q => intros; simp
  refine @Eq.mpr _ _ (?_) key
  kernel_rfl
theorem lawFirstShort_ev (g : G) (fall : Int) : Ev Try.prog 9 [aG0 g, aI fall] (compsOf [rB] (true)) := by
  refine ev_of (l := [rB]) (r := (true)) (types (resT) [] (fun _ _ => none)) follows Try.func9 (by kernel_rfl) (by rw [Try.ntmps9]; exact Nat.le_of_ble_eq_true rfl) ?_
  have key : (inR IntKind.i8 g.fst →
    inR IntKind.i8 g.snd.fst →
      (g.snd.snd.fst.length = 9 ∧
          ∀ (x : List Int),
            List.Mem x g.snd.snd.fst → x.length = 9 ∧ ∀ (x_1 : Int), List.Mem x_1 x → inR IntKind.i16 x_1) →
        (g.snd.snd.snd.length ≤ 9223372036854775807 ∧
            ∀ (x : Int × Int), List.Mem x g.snd.snd.snd → inR IntKind.i8 x.fst ∧ inR IntKind.i8 x.snd) →
          inR IntKind.i64 fall →
            inR IntKind.i8 g.fst →
              inR IntKind.i8 g.snd.fst →
                (g.snd.snd.fst.length = 9 ∧
                    ∀ (x : List Int),
                      List.Mem x g.snd.snd.fst → x.length = 9 ∧ ∀ (x_1 : Int), List.Mem x_1 x → inR IntKind.i16 x_1) →
                  (g.snd.snd.snd.length ≤ 9223372036854775807 ∧
                      ∀ (x : Int × Int), List.Mem x g.snd.snd.snd → inR IntKind.i8 x.fst ∧ inR IntKind.i8 x.snd) →
                    ∃ (r : Int),
                      Ev Try.prog 14 [Arg.imm (D.dat (groundT 48) g), Arg.imm (D.dat (Ty.int IntKind.i64) 1048576)]
                          (compsOf [(false, Ty.int IntKind.i64)] r) ∧
                        (inR IntKind.i64 r →
                          split (decide (r < 0)) (true = true)
                            (inR IntKind.i8 g.fst →
                              inR IntKind.i8 g.snd.fst →
                                (g.snd.snd.fst.length = 9 ∧
                                    ∀ (x : List Int),
                                      List.Mem x g.snd.snd.fst →
                                        x.length = 9 ∧ ∀ (x_1 : Int), List.Mem x_1 x → inR IntKind.i16 x_1) →
                                  (g.snd.snd.snd.length ≤ 9223372036854775807 ∧
                                      ∀ (x : Int × Int),
                                        List.Mem x g.snd.snd.snd → inR IntKind.i8 x.fst ∧ inR IntKind.i8 x.snd) →
                                    ∃ (r : Int × Int × List (List Int) × List (Int × Int)),
                                      Ev Try.prog 16 [Arg.imm (D.dat (groundT 48) g)]
                                          (compsOf
                                            [(true,
                                                (Ty.int IntKind.i8).prod
                                                  ((Ty.int IntKind.i8).prod
                                                    ((Ty.arr 9 (Ty.arr 9 (Ty.int IntKind.i16))).prod
                                                      (Ty.slice 40 ((Ty.int IntKind.i8).prod (Ty.int IntKind.i8))))))]
                                            r) ∧
                                        (inR IntKind.i8 r.fst →
                                          inR IntKind.i8 r.snd.fst →
                                            (r.snd.snd.fst.length = 9 ∧
                                                ∀ (x : List Int),
                                                  List.Mem x r.snd.snd.fst →
                                                    x.length = 9 ∧
                                                      ∀ (x_1 : Int), List.Mem x_1 x → inR IntKind.i16 x_1) →
                                              (r.snd.snd.snd.length ≤ 9223372036854775807 ∧
                                                  ∀ (x : Int × Int),
                                                    List.Mem x r.snd.snd.snd →
                                                      inR IntKind.i8 x.fst ∧ inR IntKind.i8 x.snd) →
                                                ∃ (r_1 : (Int × Int) × Int),
                                                  Ev Try.prog 37
                                                      [Arg.imm (D.dat (groundT 40) r),
                                                        Arg.imm (D.dat (Ty.int IntKind.i64) fall)]
                                                      (compsOf
                                                        [(false, (Ty.int IntKind.i8).prod (Ty.int IntKind.i8)),
                                                          (false, Ty.int IntKind.i64)]
                                                        r_1) ∧
                                                    (inR IntKind.i8 r_1.fst.fst →
                                                      inR IntKind.i8 r_1.fst.snd →
                                                        inR IntKind.i64 r_1.snd →
                                                          inR IntKind.i8 g.fst →
                                                            inR IntKind.i8 g.snd.fst →
                                                              (g.snd.snd.fst.length = 9 ∧
                                                                  ∀ (x : List Int),
                                                                    List.Mem x g.snd.snd.fst →
                                                                      x.length = 9 ∧
                                                                        ∀ (x_1 : Int),
                                                                          List.Mem x_1 x → inR IntKind.i16 x_1) →
                                                                (g.snd.snd.snd.length ≤ 9223372036854775807 ∧
                                                                    ∀ (x : Int × Int),
                                                                      List.Mem x g.snd.snd.snd →
                                                                        inR IntKind.i8 x.fst ∧ inR IntKind.i8 x.snd) →
                                                                  ∃ (r :
                                                                    Int × Int × List (List Int) × List (Int × Int)),
                                                                    Ev Try.prog 16 [Arg.imm (D.dat (groundT 48) g)]
                                                                        (compsOf
                                                                          [(true,
                                                                              (Ty.int IntKind.i8).prod
                                                                                ((Ty.int IntKind.i8).prod
                                                                                  ((Ty.arr 9
                                                                                        (Ty.arr 9
                                                                                          (Ty.int IntKind.i16))).prod
                                                                                    (Ty.slice 40
                                                                                      ((Ty.int IntKind.i8).prod
                                                                                        (Ty.int IntKind.i8))))))]
                                                                          r) ∧
                                                                      (inR IntKind.i8 r.fst →
                                                                        inR IntKind.i8 r.snd.fst →
                                                                          (r.snd.snd.fst.length = 9 ∧
                                                                              ∀ (x : List Int),
                                                                                List.Mem x r.snd.snd.fst →
                                                                                  x.length = 9 ∧
                                                                                    ∀ (x_1 : Int),
                                                                                      List.Mem x_1 x →
                                                                                        inR IntKind.i16 x_1) →
                                                                            (r.snd.snd.snd.length ≤
                                                                                  9223372036854775807 ∧
                                                                                ∀ (x : Int × Int),
                                                                                  List.Mem x r.snd.snd.snd →
                                                                                    inR IntKind.i8 x.fst ∧
                                                                                      inR IntKind.i8 x.snd) →
                                                                              inR IntKind.i8 r.fst →
                                                                                inR IntKind.i8 r.snd.fst →
                                                                                  (r.snd.snd.fst.length = 9 ∧
                                                                                      ∀ (x : List Int),
                                                                                        List.Mem x r.snd.snd.fst →
                                                                                          x.length = 9 ∧
                                                                                            ∀ (x_1 : Int),
                                                                                              List.Mem x_1 x →
                                                                                                inR IntKind.i16 x_1) →
                                                                                    (r.snd.snd.snd.length ≤
                                                                                          9223372036854775807 ∧
                                                                                        ∀ (x : Int × Int),
                                                                                          List.Mem x r.snd.snd.snd →
                                                                                            inR IntKind.i8 x.fst ∧
                                                                                              inR IntKind.i8 x.snd) →
                                                                                      ∃ (r_2 : (Int × Int) × Int),
                                                                                        Ev Try.prog 38
                                                                                            [Arg.imm
                                                                                                (D.dat (groundT 40) r),
                                                                                              Arg.imm
                                                                                                (D.dat
                                                                                                  (Ty.int IntKind.i64)
                                                                                                  fall)]
                                                                                            (compsOf
                                                                                              [(false,
                                                                                                  (Ty.int
                                                                                                        IntKind.i8).prod
                                                                                                    (Ty.int
                                                                                                      IntKind.i8)),
                                                                                                (false,
                                                                                                  Ty.int IntKind.i64)]
                                                                                              r_2) ∧
                                                                                          (inR IntKind.i8 r_2.fst.fst →
                                                                                            inR IntKind.i8 r_2.fst.snd →
                                                                                              inR IntKind.i64 r_2.snd →
                                                                                                inR IntKind.i8
                                                                                                    r_2.fst.fst →
                                                                                                  inR IntKind.i8
                                                                                                      r_2.fst.snd →
                                                                                                    inR IntKind.i8
                                                                                                        r_1.fst.fst →
                                                                                                      inR IntKind.i8
                                                                                                          r_1.fst.snd →
                                                                                                        ∃ (r_3 : Bool),
                                                                                                          Ev Try.prog 23
                                                                                                              [Arg.imm
                                                                                                                  (D.dat
                                                                                                                    cellT
                                                                                                                    r_2.fst),
                                                                                                                Arg.imm
                                                                                                                  (D.dat
                                                                                                                    cellT
                                                                                                                    r_1.fst)]
                                                                                                              (compsOf
                                                                                                                [(false,
                                                                                                                    Ty.bool)]
                                                                                                                r_3) ∧
                                                                                                            split
                                                                                                              (!!r_3)
                                                                                                              (split
                                                                                                                (!decide
                                                                                                                    (r_2.snd =
                                                                                                                      r_1.snd))
                                                                                                                (false =
                                                                                                                  true)
                                                                                                                (inR
                                                                                                                    IntKind.i8
                                                                                                                    r.fst →
                                                                                                                  inR
                                                                                                                      IntKind.i8
                                                                                                                      r.snd.fst →
                                                                                                                    (r.snd.snd.fst.length =
                                                                                                                          9 ∧
                                                                                                                        ∀
                                                                                                                          (x :
                                                                                                                            List
                                                                                                                              Int),
                                                                                                                          List.Mem
                                                                                                                              x
                                                                                                                              r.snd.snd.fst →
                                                                                                                            x.length =
                                                                                                                                9 ∧
                                                                                                                              ∀
                                                                                                                                (x_1 :
                                                                                                                                  Int),
                                                                                                                                List.Mem
                                                                                                                                    x_1
                                                                                                                                    x →
                                                                                                                                  inR
                                                                                                                                    IntKind.i16
                                                                                                                                    x_1) →
                                                                                                                      (r.snd.snd.snd.length ≤
                                                                                                                            9223372036854775807 ∧
                                                                                                                          ∀
                                                                                                                            (x :
                                                                                                                              Int ×
                                                                                                                                Int),
                                                                                                                            List.Mem
                                                                                                                                x
                                                                                                                                r.snd.snd.snd →
                                                                                                                              inR
                                                                                                                                  IntKind.i8
                                                                                                                                  x.fst ∧
                                                                                                                                inR
                                                                                                                                  IntKind.i8
                                                                                                                                  x.snd) →
                                                                                                                        inR
                                                                                                                            IntKind.i8
                                                                                                                            g.fst →
                                                                                                                          inR
                                                                                                                              IntKind.i8
                                                                                                                              g.snd.fst →
                                                                                                                            (g.snd.snd.fst.length =
                                                                                                                                  9 ∧
                                                                                                                                ∀
                                                                                                                                  (x :
                                                                                                                                    List
                                                                                                                                      Int),
                                                                                                                                  List.Mem
                                                                                                                                      x
                                                                                                                                      g.snd.snd.fst →
                                                                                                                                    x.length =
                                                                                                                                        9 ∧
                                                                                                                                      ∀
                                                                                                                                        (x_1 :
                                                                                                                                          Int),
                                                                                                                                        List.Mem
                                                                                                                                            x_1
                                                                                                                                            x →
                                                                                                                                          inR
                                                                                                                                            IntKind.i16
                                                                                                                                            x_1) →
                                                                                                                              (g.snd.snd.snd.length ≤
                                                                                                                                    9223372036854775807 ∧
                                                                                                                                  ∀
                                                                                                                                    (x :
                                                                                                                                      Int ×
                                                                                                                                        Int),
                                                                                                                                    List.Mem
                                                                                                                                        x
                                                                                                                                        g.snd.snd.snd →
                                                                                                                                      inR
                                                                                                                                          IntKind.i8
                                                                                                                                          x.fst ∧
                                                                                                                                        inR
                                                                                                                                          IntKind.i8
                                                                                                                                          x.snd) →
                                                                                                                                ∃
                                                                                                                                  (r_4
                                                                                                                                  :
                                                                                                                                  Int ×
                                                                                                                                    Int ×
                                                                                                                                      List
                                                                                                                                          (List
                                                                                                                                            Int) ×
                                                                                                                                        List
                                                                                                                                          (Int ×
                                                                                                                                            Int)),
                                                                                                                                  Ev
                                                                                                                                      Try.prog
                                                                                                                                      16
                                                                                                                                      [Arg.imm
                                                                                                                                          (D.dat
                                                                                                                                            (groundT
                                                                                                                                              48)
                                                                                                                                            g)]
                                                                                                                                      (compsOf
                                                                                                                                        [(true,
                                                                                                                                            (Ty.int
                                                                                                                                                  IntKind.i8).prod
                                                                                                                                              ((Ty.int
                                                                                                                                                    IntKind.i8).prod
                                                                                                                                                ((Ty.arr
                                                                                                                                                      9
                                                                                                                                                      (Ty.arr
                                                                                                                                                        9
                                                                                                                                                        (Ty.int
                                                                                                                                                          IntKind.i16))).prod
                                                                                                                                                  (Ty.slice
                                                                                                                                                    40
                                                                                                                                                    ((Ty.int
                                                                                                                                                          IntKind.i8).prod
                                                                                                                                                      (Ty.int
                                                                                                                                                        IntKind.i8))))))]
                                                                                                                                        r_4) ∧
                                                                                                                                    (inR
                                                                                                                                        IntKind.i8
                                                                                                                                        r_4.fst →
                                                                                                                                      inR
                                                                                                                                          IntKind.i8
                                                                                                                                          r_4.snd.fst →
                                                                                                                                        (r_4.snd.snd.fst.length =
                                                                                                                                              9 ∧
                                                                                                                                            ∀
                                                                                                                                              (x :
                                                                                                                                                List
                                                                                                                                                  Int),
                                                                                                                                              List.Mem
                                                                                                                                                  x
                                                                                                                                                  r_4.snd.snd.fst →
                                                                                                                                                x.length =
                                                                                                                                                    9 ∧
                                                                                                                                                  ∀
                                                                                                                                                    (x_1 :
                                                                                                                                                      Int),
                                                                                                                                                    List.Mem
                                                                                                                                                        x_1
                                                                                                                                                        x →
                                                                                                                                                      inR
                                                                                                                                                        IntKind.i16
                                                                                                                                                        x_1) →
                                                                                                                                          (r_4.snd.snd.snd.length ≤
                                                                                                                                                9223372036854775807 ∧
                                                                                                                                              ∀
                                                                                                                                                (x :
                                                                                                                                                  Int ×
                                                                                                                                                    Int),
                                                                                                                                                List.Mem
                                                                                                                                                    x
                                                                                                                                                    r_4.snd.snd.snd →
                                                                                                                                                  inR
                                                                                                                                                      IntKind.i8
                                                                                                                                                      x.fst ∧
                                                                                                                                                    inR
                                                                                                                                                      IntKind.i8
                                                                                                                                                      x.snd) →
                                                                                                                                            ∃
                                                                                                                                              (r_5
                                                                                                                                              :
                                                                                                                                              Bool),
                                                                                                                                              Ev
                                                                                                                                                  Try.prog
                                                                                                                                                  18
                                                                                                                                                  [Arg.imm
                                                                                                                                                      (D.dat
                                                                                                                                                        (groundT
                                                                                                                                                          40)
                                                                                                                                                        r),
                                                                                                                                                    Arg.imm
                                                                                                                                                      (D.dat
                                                                                                                                                        (groundT
                                                                                                                                                          40)
                                                                                                                                                        r_4)]
                                                                                                                                                  (compsOf
                                                                                                                                                    [(false,
                                                                                                                                                        Ty.bool)]
                                                                                                                                                    r_5) ∧
                                                                                                                                                split
                                                                                                                                                  (!r_5)
                                                                                                                                                  (false =
                                                                                                                                                    true)
                                                                                                                                                  (true =
                                                                                                                                                    true))))
                                                                                                              (false =
                                                                                                                true)))))))) := by
    intros
    refine ⟨_, szGround_ev g, fun _ => split_of (fun _ => rfl) (fun h => ?_)⟩
    have hl := sz_pos (of_decide_eq_false h)
    intros
    refine ⟨_, toGround_ev g hl, ?_⟩
    intros
    refine ⟨_, specFirstShort_ev _ _, ?_⟩
    intros
    refine ⟨_, toGround_ev g hl, ?_⟩
    intros
    refine ⟨_, implFirstShort_ev _ _, ?_⟩
    intros
    refine ⟨_, eqCell_ev _, ?_⟩
    refine split_of (fun _ => split_of (fun h => by simp at h) (fun _ => ?_)) (fun h => by simp at h)
    intros
    refine ⟨_, toGround_ev g hl, ?_⟩
    intros
    refine ⟨_, eqGround_ev _, ?_⟩
    exact split_of (fun h => by simp at h) (fun _ => rfl)
  refine @Eq.mpr _ _ (?_) key
  kernel_rfl
theorem lawKeeps_ev (g : G) (fall : Int) : Ev Try.prog 11 [aG0 g, aI fall] (compsOf [rB] (true)) := by
  refine ev_of (l := [rB]) (r := (true)) (types (resT) [] (fun _ _ => none)) follows Try.func11 (by kernel_rfl) (by rw [Try.ntmps11]; exact Nat.le_of_ble_eq_true rfl) ?_
  have key : (inR IntKind.i8 g.fst →
    inR IntKind.i8 g.snd.fst →
      (g.snd.snd.fst.length = 9 ∧
          ∀ (x : List Int),
            List.Mem x g.snd.snd.fst → x.length = 9 ∧ ∀ (x_1 : Int), List.Mem x_1 x → inR IntKind.i16 x_1) →
        (g.snd.snd.snd.length ≤ 9223372036854775807 ∧
            ∀ (x : Int × Int), List.Mem x g.snd.snd.snd → inR IntKind.i8 x.fst ∧ inR IntKind.i8 x.snd) →
          inR IntKind.i64 fall →
            inR IntKind.i8 g.fst →
              inR IntKind.i8 g.snd.fst →
                (g.snd.snd.fst.length = 9 ∧
                    ∀ (x : List Int),
                      List.Mem x g.snd.snd.fst → x.length = 9 ∧ ∀ (x_1 : Int), List.Mem x_1 x → inR IntKind.i16 x_1) →
                  (g.snd.snd.snd.length ≤ 9223372036854775807 ∧
                      ∀ (x : Int × Int), List.Mem x g.snd.snd.snd → inR IntKind.i8 x.fst ∧ inR IntKind.i8 x.snd) →
                    ∃ (r : Int),
                      Ev Try.prog 14 [Arg.imm (D.dat (groundT 48) g), Arg.imm (D.dat (Ty.int IntKind.i64) 1048576)]
                          (compsOf [(false, Ty.int IntKind.i64)] r) ∧
                        (inR IntKind.i64 r →
                          split (decide (r < 0)) (true = true)
                            (inR IntKind.i8 g.fst →
                              inR IntKind.i8 g.snd.fst →
                                (g.snd.snd.fst.length = 9 ∧
                                    ∀ (x : List Int),
                                      List.Mem x g.snd.snd.fst →
                                        x.length = 9 ∧ ∀ (x_1 : Int), List.Mem x_1 x → inR IntKind.i16 x_1) →
                                  (g.snd.snd.snd.length ≤ 9223372036854775807 ∧
                                      ∀ (x : Int × Int),
                                        List.Mem x g.snd.snd.snd → inR IntKind.i8 x.fst ∧ inR IntKind.i8 x.snd) →
                                    ∃ (r : Int × Int × List (List Int) × List (Int × Int)),
                                      Ev Try.prog 16 [Arg.imm (D.dat (groundT 48) g)]
                                          (compsOf
                                            [(true,
                                                (Ty.int IntKind.i8).prod
                                                  ((Ty.int IntKind.i8).prod
                                                    ((Ty.arr 9 (Ty.arr 9 (Ty.int IntKind.i16))).prod
                                                      (Ty.slice 40 ((Ty.int IntKind.i8).prod (Ty.int IntKind.i8))))))]
                                            r) ∧
                                        (inR IntKind.i8 r.fst →
                                          inR IntKind.i8 r.snd.fst →
                                            (r.snd.snd.fst.length = 9 ∧
                                                ∀ (x : List Int),
                                                  List.Mem x r.snd.snd.fst →
                                                    x.length = 9 ∧
                                                      ∀ (x_1 : Int), List.Mem x_1 x → inR IntKind.i16 x_1) →
                                              (r.snd.snd.snd.length ≤ 9223372036854775807 ∧
                                                  ∀ (x : Int × Int),
                                                    List.Mem x r.snd.snd.snd →
                                                      inR IntKind.i8 x.fst ∧ inR IntKind.i8 x.snd) →
                                                ∃ (r_1 : Bool × Int),
                                                  Ev Try.prog 42
                                                      [Arg.imm (D.dat (groundT 40) r),
                                                        Arg.imm (D.dat (Ty.int IntKind.i64) fall)]
                                                      (compsOf [(false, Ty.bool), (false, Ty.int IntKind.i64)] r_1) ∧
                                                    (inR IntKind.i64 r_1.snd →
                                                      inR IntKind.i8 g.fst →
                                                        inR IntKind.i8 g.snd.fst →
                                                          (g.snd.snd.fst.length = 9 ∧
                                                              ∀ (x : List Int),
                                                                List.Mem x g.snd.snd.fst →
                                                                  x.length = 9 ∧
                                                                    ∀ (x_1 : Int),
                                                                      List.Mem x_1 x → inR IntKind.i16 x_1) →
                                                            (g.snd.snd.snd.length ≤ 9223372036854775807 ∧
                                                                ∀ (x : Int × Int),
                                                                  List.Mem x g.snd.snd.snd →
                                                                    inR IntKind.i8 x.fst ∧ inR IntKind.i8 x.snd) →
                                                              ∃ (r : Int × Int × List (List Int) × List (Int × Int)),
                                                                Ev Try.prog 16 [Arg.imm (D.dat (groundT 48) g)]
                                                                    (compsOf
                                                                      [(true,
                                                                          (Ty.int IntKind.i8).prod
                                                                            ((Ty.int IntKind.i8).prod
                                                                              ((Ty.arr 9
                                                                                    (Ty.arr 9
                                                                                      (Ty.int IntKind.i16))).prod
                                                                                (Ty.slice 40
                                                                                  ((Ty.int IntKind.i8).prod
                                                                                    (Ty.int IntKind.i8))))))]
                                                                      r) ∧
                                                                  (inR IntKind.i8 r.fst →
                                                                    inR IntKind.i8 r.snd.fst →
                                                                      (r.snd.snd.fst.length = 9 ∧
                                                                          ∀ (x : List Int),
                                                                            List.Mem x r.snd.snd.fst →
                                                                              x.length = 9 ∧
                                                                                ∀ (x_1 : Int),
                                                                                  List.Mem x_1 x →
                                                                                    inR IntKind.i16 x_1) →
                                                                        (r.snd.snd.snd.length ≤ 9223372036854775807 ∧
                                                                            ∀ (x : Int × Int),
                                                                              List.Mem x r.snd.snd.snd →
                                                                                inR IntKind.i8 x.fst ∧
                                                                                  inR IntKind.i8 x.snd) →
                                                                          inR IntKind.i8 r.fst →
                                                                            inR IntKind.i8 r.snd.fst →
                                                                              (r.snd.snd.fst.length = 9 ∧
                                                                                  ∀ (x : List Int),
                                                                                    List.Mem x r.snd.snd.fst →
                                                                                      x.length = 9 ∧
                                                                                        ∀ (x_1 : Int),
                                                                                          List.Mem x_1 x →
                                                                                            inR IntKind.i16 x_1) →
                                                                                (r.snd.snd.snd.length ≤
                                                                                      9223372036854775807 ∧
                                                                                    ∀ (x : Int × Int),
                                                                                      List.Mem x r.snd.snd.snd →
                                                                                        inR IntKind.i8 x.fst ∧
                                                                                          inR IntKind.i8 x.snd) →
                                                                                  ∃ (r_2 : Bool × Int),
                                                                                    Ev Try.prog 43
                                                                                        [Arg.imm (D.dat (groundT 40) r),
                                                                                          Arg.imm
                                                                                            (D.dat (Ty.int IntKind.i64)
                                                                                              fall)]
                                                                                        (compsOf
                                                                                          [(false, Ty.bool),
                                                                                            (false, Ty.int IntKind.i64)]
                                                                                          r_2) ∧
                                                                                      (inR IntKind.i64 r_2.snd →
                                                                                        split (!!r_2.fst == r_1.fst)
                                                                                          (split
                                                                                            (!decide
                                                                                                (r_2.snd = r_1.snd))
                                                                                            (false = true)
                                                                                            (inR IntKind.i8 r.fst →
                                                                                              inR IntKind.i8 r.snd.fst →
                                                                                                (r.snd.snd.fst.length =
                                                                                                      9 ∧
                                                                                                    ∀ (x : List Int),
                                                                                                      List.Mem x
                                                                                                          r.snd.snd.fst →
                                                                                                        x.length = 9 ∧
                                                                                                          ∀ (x_1 : Int),
                                                                                                            List.Mem x_1
                                                                                                                x →
                                                                                                              inR
                                                                                                                IntKind.i16
                                                                                                                x_1) →
                                                                                                  (r.snd.snd.snd.length ≤
                                                                                                        9223372036854775807 ∧
                                                                                                      ∀ (x : Int × Int),
                                                                                                        List.Mem x
                                                                                                            r.snd.snd.snd →
                                                                                                          inR IntKind.i8
                                                                                                              x.fst ∧
                                                                                                            inR
                                                                                                              IntKind.i8
                                                                                                              x.snd) →
                                                                                                    inR IntKind.i8
                                                                                                        g.fst →
                                                                                                      inR IntKind.i8
                                                                                                          g.snd.fst →
                                                                                                        (g.snd.snd.fst.length =
                                                                                                              9 ∧
                                                                                                            ∀
                                                                                                              (x :
                                                                                                                List
                                                                                                                  Int),
                                                                                                              List.Mem x
                                                                                                                  g.snd.snd.fst →
                                                                                                                x.length =
                                                                                                                    9 ∧
                                                                                                                  ∀
                                                                                                                    (x_1 :
                                                                                                                      Int),
                                                                                                                    List.Mem
                                                                                                                        x_1
                                                                                                                        x →
                                                                                                                      inR
                                                                                                                        IntKind.i16
                                                                                                                        x_1) →
                                                                                                          (g.snd.snd.snd.length ≤
                                                                                                                9223372036854775807 ∧
                                                                                                              ∀
                                                                                                                (x :
                                                                                                                  Int ×
                                                                                                                    Int),
                                                                                                                List.Mem
                                                                                                                    x
                                                                                                                    g.snd.snd.snd →
                                                                                                                  inR
                                                                                                                      IntKind.i8
                                                                                                                      x.fst ∧
                                                                                                                    inR
                                                                                                                      IntKind.i8
                                                                                                                      x.snd) →
                                                                                                            ∃ (r_3 :
                                                                                                              Int ×
                                                                                                                Int ×
                                                                                                                  List
                                                                                                                      (List
                                                                                                                        Int) ×
                                                                                                                    List
                                                                                                                      (Int ×
                                                                                                                        Int)),
                                                                                                              Ev
                                                                                                                  Try.prog
                                                                                                                  16
                                                                                                                  [Arg.imm
                                                                                                                      (D.dat
                                                                                                                        (groundT
                                                                                                                          48)
                                                                                                                        g)]
                                                                                                                  (compsOf
                                                                                                                    [(true,
                                                                                                                        (Ty.int
                                                                                                                              IntKind.i8).prod
                                                                                                                          ((Ty.int
                                                                                                                                IntKind.i8).prod
                                                                                                                            ((Ty.arr
                                                                                                                                  9
                                                                                                                                  (Ty.arr
                                                                                                                                    9
                                                                                                                                    (Ty.int
                                                                                                                                      IntKind.i16))).prod
                                                                                                                              (Ty.slice
                                                                                                                                40
                                                                                                                                ((Ty.int
                                                                                                                                      IntKind.i8).prod
                                                                                                                                  (Ty.int
                                                                                                                                    IntKind.i8))))))]
                                                                                                                    r_3) ∧
                                                                                                                (inR
                                                                                                                    IntKind.i8
                                                                                                                    r_3.fst →
                                                                                                                  inR
                                                                                                                      IntKind.i8
                                                                                                                      r_3.snd.fst →
                                                                                                                    (r_3.snd.snd.fst.length =
                                                                                                                          9 ∧
                                                                                                                        ∀
                                                                                                                          (x :
                                                                                                                            List
                                                                                                                              Int),
                                                                                                                          List.Mem
                                                                                                                              x
                                                                                                                              r_3.snd.snd.fst →
                                                                                                                            x.length =
                                                                                                                                9 ∧
                                                                                                                              ∀
                                                                                                                                (x_1 :
                                                                                                                                  Int),
                                                                                                                                List.Mem
                                                                                                                                    x_1
                                                                                                                                    x →
                                                                                                                                  inR
                                                                                                                                    IntKind.i16
                                                                                                                                    x_1) →
                                                                                                                      (r_3.snd.snd.snd.length ≤
                                                                                                                            9223372036854775807 ∧
                                                                                                                          ∀
                                                                                                                            (x :
                                                                                                                              Int ×
                                                                                                                                Int),
                                                                                                                            List.Mem
                                                                                                                                x
                                                                                                                                r_3.snd.snd.snd →
                                                                                                                              inR
                                                                                                                                  IntKind.i8
                                                                                                                                  x.fst ∧
                                                                                                                                inR
                                                                                                                                  IntKind.i8
                                                                                                                                  x.snd) →
                                                                                                                        ∃
                                                                                                                          (r_4
                                                                                                                          :
                                                                                                                          Bool),
                                                                                                                          Ev
                                                                                                                              Try.prog
                                                                                                                              18
                                                                                                                              [Arg.imm
                                                                                                                                  (D.dat
                                                                                                                                    (groundT
                                                                                                                                      40)
                                                                                                                                    r),
                                                                                                                                Arg.imm
                                                                                                                                  (D.dat
                                                                                                                                    (groundT
                                                                                                                                      40)
                                                                                                                                    r_3)]
                                                                                                                              (compsOf
                                                                                                                                [(false,
                                                                                                                                    Ty.bool)]
                                                                                                                                r_4) ∧
                                                                                                                            split
                                                                                                                              (!r_4)
                                                                                                                              (false =
                                                                                                                                true)
                                                                                                                              (true =
                                                                                                                                true))))
                                                                                          (false = true)))))))) := by
    intros
    refine ⟨_, szGround_ev g, fun _ => split_of (fun _ => rfl) (fun h => ?_)⟩
    have hl := sz_pos (of_decide_eq_false h)
    intros
    refine ⟨_, toGround_ev g hl, ?_⟩
    intros
    refine ⟨_, specKeeps_ev _ _, ?_⟩
    intros
    refine ⟨_, toGround_ev g hl, ?_⟩
    intros
    refine ⟨_, implKeeps_ev _ _, ?_⟩
    intros
    refine split_of (fun _ => split_of (fun h => by simp at h) (fun _ => ?_)) (fun h => by simp at h)
    intros
    refine ⟨_, toGround_ev g hl, ?_⟩
    intros
    refine ⟨_, eqGround_ev _, ?_⟩
    exact split_of (fun h => by simp at h) (fun _ => rfl)
  refine @Eq.mpr _ _ (?_) key
  kernel_rfl
def runN (g : G) : Nat → Int × Int → Cl
  | 0, p => [p]
  | n + 1, p => if (fallG g p).2 then p :: runN g n (fallG g p).1 else [p]
def runL (g : G) (p : Int × Int) : Cl := runN g (hgt g p).toNat p
theorem fall_lt {g : G} {p : Int × Int} (h : (fallG g p).2 = true) : hgt g (fallG g p).1 < hgt g p := by
  unfold fallG at h ⊢
  split at h
  · cases h
  · rename_i q
    rw [if_neg q]
    rcases (low_le (g := g) p (besC g p)).1 with h1 | ⟨_, h1⟩
    · have e : lowG g p = p := h1
      simp [difC, e] at h
    · exact h1
theorem runN_fuel {g : G} (k : OkG g) : ∀ (n : Nat) (p : Int × Int), Pt g p → (hgt g p).toNat ≤ n → runN g n p = runL g p := by
  intro n
  induction n using Nat.strongRecOn with
  | ind n ih =>
    intro p hp hn
    have b := hgt_b k hp
    cases hf : (fallG g p).2 with
    | false =>
      have e : ∀ m, runN g m p = [p] := fun m => by cases m <;> simp [runN, hf]
      rw [runL, e, e]
    | true =>
      have hl := fall_lt hf
      have hq := fall_in hp
      have b2 := hgt_b k hq
      obtain ⟨n', rfl⟩ : ∃ n', n = n' + 1 := ⟨n - 1, by omega⟩
      have e1 : runN g (n' + 1) p = p :: runN g n' (fallG g p).1 := by simp [runN, hf]
      obtain ⟨m, hm⟩ : ∃ m, (hgt g p).toNat = m + 1 := ⟨(hgt g p).toNat - 1, by omega⟩
      have e2 : runL g p = p :: runN g m (fallG g p).1 := by rw [runL, hm]; simp [runN, hf]
      rw [e1, e2, ih n' (by omega) _ hq (by omega)]
      rcases Nat.lt_or_ge m (n' + 1) with q | q
      · rw [ih m q _ hq (by omega)]
      · omega
theorem runL_stop {g : G} {p : Int × Int} (h : (fallG g p).2 = false) : runL g p = [p] := by
  unfold runL
  cases (hgt g p).toNat <;> simp [runN, h]
theorem runL_go {g : G} (k : OkG g) {p : Int × Int} (hp : Pt g p) (h : (fallG g p).2 = true) : runL g p = p :: runL g (fallG g p).1 := by
  have hl := fall_lt h
  have hq := fall_in hp
  have b := hgt_b k hp
  have b2 := hgt_b k hq
  obtain ⟨m, hm⟩ : ∃ m, (hgt g p).toNat = m + 1 := ⟨(hgt g p).toNat - 1, by omega⟩
  rw [← runN_fuel k m _ hq (by omega), runL, hm]
  simp [runN, h]
structure RunI (g : G) (p : Int × Int) (s : Cl × (Int × Int)) : Prop where
  pt : Pt g s.2
  app : s.1 ++ runL g s.2 = runL g p
  len : (s.1.length : Int) + hgt g s.2 ≤ hgt g p
theorem RunI.next {g : G} (k : OkG g) {p : Int × Int} {s : Cl × (Int × Int)} (h : RunI g p s) (hf : (fallG g s.2).2 = true) : RunI g p (s.1 ++ [s.2], (fallG g s.2).1) := by
  refine ⟨fall_in h.pt, ?_, ?_⟩
  · rw [← h.app, runL_go k h.pt hf]; simp
  · have := h.len; have := fall_lt hf; simp only [List.length_append, List.length_cons, List.length_nil]; omega
noncomputable abbrev runInv (g : G) (p : Int × Int) (n : Nat) (σ : List Slot) : Option LoopInv := match n with
  | 2 => some ⟨3 :: hvAt Try.f101 2, Cl × (Int × Int), fun s => [(3, .box (.dat cellT s.2)), (5, .own (.slice 40 cellT) (s.1 ++ [s.2]))], fun s => RunI g p s, fun s => (hgt g s.2).toNat⟩
  | _ => none
theorem l04Run_ev (g : G) (p : Int × Int) (k : OkG g) (hp : Pt g p) : Ev Try.prog 101 [aGp g, aC p] (compsOf [oC] (runL g p)) := by
  refine ev_of (l := [oC]) (r := (runL g p)) (types (resT) [] (runInv g p)) follows Try.func101 (by kernel_rfl) (by rw [Try.ntmps101]; exact Nat.le_of_ble_eq_true rfl) ?_
  have key : (inR IntKind.i8 p.fst →
    inR IntKind.i8 p.snd →
      inR IntKind.i8 p.fst →
        inR IntKind.i8 p.snd →
          (∃ (x0 : List (Int × Int) × Int × Int),
              (Slot.box (D.dat cellT p) = Slot.box (D.dat cellT x0.snd) ∧
                  Slot.own (Ty.slice 40 cellT) [p] = Slot.own (Ty.slice 40 cellT) (x0.fst ++ [x0.snd])) ∧
                RunI g p x0) ∧
            ∀ (x : List (Int × Int) × Int × Int),
              RunI g p x →
                inR IntKind.i8 x.snd.fst →
                  inR IntKind.i8 x.snd.snd →
                    ((x.fst ++ [x.snd]).length ≤ 9223372036854775807 ∧
                        ∀ (x_1 : Int × Int),
                          List.Mem x_1 (x.fst ++ [x.snd]) → inR IntKind.i8 x_1.fst ∧ inR IntKind.i8 x_1.snd) →
                      inR IntKind.i8 x.snd.fst →
                        inR IntKind.i8 x.snd.snd →
                          ∃ (r : (Int × Int) × Bool),
                            Ev Try.prog 69 [Arg.imm (D.dat (groundT 40) g).ref, Arg.imm (D.dat cellT x.snd)]
                                (compsOf [(false, (Ty.int IntKind.i8).prod (Ty.int IntKind.i8)), (false, Ty.bool)] r) ∧
                              (inR IntKind.i8 r.fst.fst →
                                inR IntKind.i8 r.fst.snd →
                                  split (!r.snd) (x.fst ++ [x.snd] = runL g p)
                                    (inR IntKind.i8 r.fst.fst →
                                      inR IntKind.i8 r.fst.snd →
                                        inR IntKind.i8 r.fst.fst →
                                          inR IntKind.i8 r.fst.snd →
                                            (x.fst ++ [x.snd]).length + [r.fst].length ≤ 4294967296 ∧
                                              ∃ (x' : List (Int × Int) × Int × Int),
                                                (Slot.box (D.dat cellT r.fst) = Slot.box (D.dat cellT x'.snd) ∧
                                                    Slot.own (Ty.slice 40 cellT) (x.fst ++ [x.snd] ++ [r.fst]) =
                                                      Slot.own (Ty.slice 40 cellT) (x'.fst ++ [x'.snd])) ∧
                                                  RunI g p x' ∧ (hgt g x'.snd).toNat < (hgt g x.snd).toNat))) := by
    intros
    refine ⟨⟨([], p), ⟨rfl, rfl⟩, ⟨hp, rfl, by simp⟩⟩, fun ⟨pre, q⟩ hs => ?_⟩
    intros
    refine ⟨_, l04Fall_ev g q k hs.pt, ?_⟩
    intros
    refine split_of (fun h => ?_) (fun h => ?_)
    · have h : (fallG g q).2 = false := by simpa using h
      have := hs.app
      rw [runL_stop h] at this
      exact this
    · have h : (fallG g q).2 = true := by simpa using h
      intros
      have b := hgt_b k hs.pt
      have b2 := hgt_b k hp
      have b3 : 0 ≤ hgt g (fallG g q).1 ∧ hgt g (fallG g q).1 ≤ 200 := hgt_b k (fall_in hs.pt)
      have hln := hs.len
      have hlt := fall_lt h
      simp only at hln b
      exact ⟨by simp only [List.length_append, List.length_cons, List.length_nil]; omega, (pre ++ [q], (fallG g q).1), ⟨rfl, rfl⟩, hs.next k h, by show (hgt g (fallG g q).1).toNat < (hgt g q).toNat; omega⟩
  refine @Eq.mpr _ _ (?_) key
  kernel_rfl
noncomputable abbrev runInv' (g : G) (p : Int × Int) (n : Nat) (σ : List Slot) : Option LoopInv := match n with
  | 2 => some ⟨3 :: hvAt Try.f102 2, Cl × (Int × Int), fun s => [(3, .box (.dat cellT s.2)), (5, .own (.slice 40 cellT) (s.1 ++ [s.2]))], fun s => RunI g p s, fun s => (hgt g s.2).toNat⟩
  | _ => none
theorem run_ev (g : G) (p : Int × Int) (k : OkG g) (hp : Pt g p) : Ev Try.prog 102 [aG g, aC p] (compsOf [oC] (runL g p)) := by
  refine ev_of (l := [oC]) (r := (runL g p)) (types (resT) [] (runInv' g p)) follows Try.func102 (by kernel_rfl) (by rw [Try.ntmps102]; exact Nat.le_of_ble_eq_true rfl) ?_
  have key : (inR IntKind.i8 g.fst →
    inR IntKind.i8 g.snd.fst →
      (g.snd.snd.fst.length = 9 ∧
          ∀ (x : List Int),
            List.Mem x g.snd.snd.fst → x.length = 9 ∧ ∀ (x_1 : Int), List.Mem x_1 x → inR IntKind.i16 x_1) →
        (g.snd.snd.snd.length ≤ 9223372036854775807 ∧
            ∀ (x : Int × Int), List.Mem x g.snd.snd.snd → inR IntKind.i8 x.fst ∧ inR IntKind.i8 x.snd) →
          inR IntKind.i8 p.fst →
            inR IntKind.i8 p.snd →
              inR IntKind.i8 p.fst →
                inR IntKind.i8 p.snd →
                  (∃ (x0 : List (Int × Int) × Int × Int),
                      (Slot.box (D.dat cellT p) = Slot.box (D.dat cellT x0.snd) ∧
                          Slot.own (Ty.slice 40 cellT) [p] = Slot.own (Ty.slice 40 cellT) (x0.fst ++ [x0.snd])) ∧
                        RunI g p x0) ∧
                    ∀ (x : List (Int × Int) × Int × Int),
                      RunI g p x →
                        inR IntKind.i8 x.snd.fst →
                          inR IntKind.i8 x.snd.snd →
                            ((x.fst ++ [x.snd]).length ≤ 9223372036854775807 ∧
                                ∀ (x_1 : Int × Int),
                                  List.Mem x_1 (x.fst ++ [x.snd]) → inR IntKind.i8 x_1.fst ∧ inR IntKind.i8 x_1.snd) →
                              inR IntKind.i8 g.fst →
                                inR IntKind.i8 g.snd.fst →
                                  (g.snd.snd.fst.length = 9 ∧
                                      ∀ (x : List Int),
                                        List.Mem x g.snd.snd.fst →
                                          x.length = 9 ∧ ∀ (x_1 : Int), List.Mem x_1 x → inR IntKind.i16 x_1) →
                                    (g.snd.snd.snd.length ≤ 9223372036854775807 ∧
                                        ∀ (x : Int × Int),
                                          List.Mem x g.snd.snd.snd → inR IntKind.i8 x.fst ∧ inR IntKind.i8 x.snd) →
                                      inR IntKind.i8 x.snd.fst →
                                        inR IntKind.i8 x.snd.snd →
                                          ∃ (r : (Int × Int) × Bool),
                                            Ev Try.prog 71 [Arg.imm (D.dat (groundT 40) g), Arg.imm (D.dat cellT x.snd)]
                                                (compsOf
                                                  [(false, (Ty.int IntKind.i8).prod (Ty.int IntKind.i8)),
                                                    (false, Ty.bool)]
                                                  r) ∧
                                              (inR IntKind.i8 r.fst.fst →
                                                inR IntKind.i8 r.fst.snd →
                                                  split (!r.snd) (x.fst ++ [x.snd] = runL g p)
                                                    (inR IntKind.i8 r.fst.fst →
                                                      inR IntKind.i8 r.fst.snd →
                                                        inR IntKind.i8 r.fst.fst →
                                                          inR IntKind.i8 r.fst.snd →
                                                            (x.fst ++ [x.snd]).length + [r.fst].length ≤ 4294967296 ∧
                                                              ∃ (x' : List (Int × Int) × Int × Int),
                                                                (Slot.box (D.dat cellT r.fst) =
                                                                      Slot.box (D.dat cellT x'.snd) ∧
                                                                    Slot.own (Ty.slice 40 cellT)
                                                                        (x.fst ++ [x.snd] ++ [r.fst]) =
                                                                      Slot.own (Ty.slice 40 cellT)
                                                                        (x'.fst ++ [x'.snd])) ∧
                                                                  RunI g p x' ∧
                                                                    (hgt g x'.snd).toNat < (hgt g x.snd).toNat))) := by
    intros
    refine ⟨⟨([], p), ⟨rfl, rfl⟩, ⟨hp, rfl, by simp⟩⟩, fun ⟨pre, q⟩ hs => ?_⟩
    intros
    refine ⟨_, runs_ev g q k hs.pt, ?_⟩
    intros
    refine split_of (fun h => ?_) (fun h => ?_)
    · have h : (fallG g q).2 = false := by simpa using h
      have := hs.app
      rw [runL_stop h] at this
      exact this
    · have h : (fallG g q).2 = true := by simpa using h
      intros
      have b := hgt_b k hs.pt
      have b2 := hgt_b k hp
      have b3 : 0 ≤ hgt g (fallG g q).1 ∧ hgt g (fallG g q).1 ≤ 200 := hgt_b k (fall_in hs.pt)
      have hln := hs.len
      have hlt := fall_lt h
      simp only at hln b
      exact ⟨by simp only [List.length_append, List.length_cons, List.length_nil]; omega, (pre ++ [q], (fallG g q).1), ⟨rfl, rfl⟩, hs.next k h, by show (hgt g (fallG g q).1).toNat < (hgt g q).toNat; omega⟩
  refine @Eq.mpr _ _ (?_) key
  kernel_rfl
def endP (g : G) (p : Int × Int) : Int × Int := (runL g p).getD ((runL g p).length - 1) (0, 0)
theorem runL_len {g : G} (k : OkG g) {p : Int × Int} (hp : Pt g p) : 1 ≤ (runL g p).length := by
  cases h : (fallG g p).2 with
  | false => rw [runL_stop h]; simp
  | true => rw [runL_go k hp h]; simp
theorem l04Drain_ev (g : G) (p : Int × Int) (k : OkG g) (hp : Pt g p) : Ev Try.prog 82 [aGp g, aC p] (compsOf [rI] (idxI g.2.2.2 (endP g p))) := by
  refine ev_of (l := [rI]) (r := (idxI g.2.2.2 (endP g p))) (types (resT) [] (fun _ _ => none)) follows Try.func82 (by kernel_rfl) (by rw [Try.ntmps82]; exact Nat.le_of_ble_eq_true rfl) ?_
  have key : (inR IntKind.i8 p.fst →
    inR IntKind.i8 p.snd →
      inR IntKind.i8 p.fst →
        inR IntKind.i8 p.snd →
          ∃ (r : List (Int × Int)),
            Ev Try.prog 101 [Arg.imm (D.dat (groundT 40) g).ref, Arg.imm (D.dat cellT p)]
                (compsOf [(true, Ty.slice 40 ((Ty.int IntKind.i8).prod (Ty.int IntKind.i8)))] r) ∧
              ((r.length ≤ 9223372036854775807 ∧
                  ∀ (x : Int × Int), List.Mem x r → inR IntKind.i8 x.fst ∧ inR IntKind.i8 x.snd) →
                ((r.length : Nat) : Int) ≤ 9223372036854775807 →
                  (-9223372036854775808 ≤ ((r.length : Nat) : Int) - 1 ∧ ((r.length : Nat) : Int) - 1 ≤ 9223372036854775807) ∧
                    (0 ≤ ((r.length : Nat) : Int) - 1 ∧ ((r.length : Nat) : Int) - 1 < ((r.length : Nat) : Int)) ∧
                      (inR IntKind.i8 (r.getD (((r.length : Nat) : Int) - 1).toNat (0, 0)).fst →
                        inR IntKind.i8 (r.getD (((r.length : Nat) : Int) - 1).toNat (0, 0)).snd →
                          ∃ (r_1 : Int),
                            Ev Try.prog 84
                                [Arg.imm (D.dat (groundT 40) g).ref,
                                  Arg.imm (D.dat cellT (r.getD (((r.length : Nat) : Int) - 1).toNat (0, 0)))]
                                (compsOf [(false, Ty.int IntKind.i64)] r_1) ∧
                              (inR IntKind.i64 r_1 → r_1 = idxI g.snd.snd.snd (endP g p))))) := by
    intros
    refine ⟨_, l04Run_ev g p k hp, ?_⟩
    intros
    have hl := runL_len k hp
    have e : (((runL g p).length : Int) - 1).toNat = (runL g p).length - 1 := by omega
    refine ⟨by omega, by omega, fun _ _ => ⟨_, l04Gully_ev _ _, fun _ => ?_⟩⟩
    simp only [endP, e]
  refine @Eq.mpr _ _ (?_) key
  kernel_rfl
theorem drain_ev (g : G) (p : Int × Int) (k : OkG g) (hp : Pt g p) : Ev Try.prog 83 [aG g, aC p] (compsOf [rI] (idxI g.2.2.2 (endP g p))) := by
  refine ev_of (l := [rI]) (r := (idxI g.2.2.2 (endP g p))) (types (resT) [] (fun _ _ => none)) follows Try.func83 (by kernel_rfl) (by rw [Try.ntmps83]; exact Nat.le_of_ble_eq_true rfl) ?_
  have key : (inR IntKind.i8 g.fst →
    inR IntKind.i8 g.snd.fst →
      (g.snd.snd.fst.length = 9 ∧
          ∀ (x : List Int),
            List.Mem x g.snd.snd.fst → x.length = 9 ∧ ∀ (x_1 : Int), List.Mem x_1 x → inR IntKind.i16 x_1) →
        (g.snd.snd.snd.length ≤ 9223372036854775807 ∧
            ∀ (x : Int × Int), List.Mem x g.snd.snd.snd → inR IntKind.i8 x.fst ∧ inR IntKind.i8 x.snd) →
          inR IntKind.i8 p.fst →
            inR IntKind.i8 p.snd →
              inR IntKind.i8 g.fst →
                inR IntKind.i8 g.snd.fst →
                  (g.snd.snd.fst.length = 9 ∧
                      ∀ (x : List Int),
                        List.Mem x g.snd.snd.fst → x.length = 9 ∧ ∀ (x_1 : Int), List.Mem x_1 x → inR IntKind.i16 x_1) →
                    (g.snd.snd.snd.length ≤ 9223372036854775807 ∧
                        ∀ (x : Int × Int), List.Mem x g.snd.snd.snd → inR IntKind.i8 x.fst ∧ inR IntKind.i8 x.snd) →
                      inR IntKind.i8 p.fst →
                        inR IntKind.i8 p.snd →
                          ∃ (r : List (Int × Int)),
                            Ev Try.prog 102 [Arg.imm (D.dat (groundT 40) g), Arg.imm (D.dat cellT p)]
                                (compsOf [(true, Ty.slice 40 ((Ty.int IntKind.i8).prod (Ty.int IntKind.i8)))] r) ∧
                              ((r.length ≤ 9223372036854775807 ∧
                                  ∀ (x : Int × Int), List.Mem x r → inR IntKind.i8 x.fst ∧ inR IntKind.i8 x.snd) →
                                (g.snd.snd.snd.length ≤ 9223372036854775807 ∧
                                    ∀ (x : Int × Int),
                                      List.Mem x g.snd.snd.snd → inR IntKind.i8 x.fst ∧ inR IntKind.i8 x.snd) →
                                  ((r.length : Nat) : Int) ≤ 9223372036854775807 →
                                    (-9223372036854775808 ≤ ((r.length : Nat) : Int) - 1 ∧ ((r.length : Nat) : Int) - 1 ≤ 9223372036854775807) ∧
                                      (0 ≤ ((r.length : Nat) : Int) - 1 ∧ ((r.length : Nat) : Int) - 1 < ((r.length : Nat) : Int)) ∧
                                        (inR IntKind.i8 (r.getD (((r.length : Nat) : Int) - 1).toNat (0, 0)).fst →
                                          inR IntKind.i8 (r.getD (((r.length : Nat) : Int) - 1).toNat (0, 0)).snd →
                                            ∃ (r_1 : Int),
                                              Ev Try.prog 103
                                                  [Arg.imm (D.dat (Ty.slice 40 cellT) g.snd.snd.snd),
                                                    Arg.imm (D.dat cellT (r.getD (((r.length : Nat) : Int) - 1).toNat (0, 0)))]
                                                  (compsOf [(false, Ty.int IntKind.i64)] r_1) ∧
                                                (inR IntKind.i64 r_1 → r_1 = idxI g.snd.snd.snd (endP g p))))) := by
    intros
    refine ⟨_, run_ev g p k hp, ?_⟩
    intros
    have hl := runL_len k hp
    have e : (((runL g p).length : Int) - 1).toNat = (runL g p).length - 1 := by omega
    refine ⟨by omega, by omega, fun _ _ => ⟨_, index_ev _ _, fun _ => ?_⟩⟩
    simp only [endP, e]
  refine @Eq.mpr _ _ (?_) key
  kernel_rfl
noncomputable def drainsV (g : G) (p : Int × Int) : Int × Int :=
  if askedI (okG g) (isIn g.1 g.2.1 p) = 0 then (if idxI g.2.2.2 (endP g p) < 0 then (0, 6) else (idxI g.2.2.2 (endP g p), 0)) else (0, askedI (okG g) (isIn g.1 g.2.1 p))
theorem specDrains_ev (g : G) (p : Int × Int) : Ev Try.prog 44 [aG g, aC p] (compsOf [rI, rI] (drainsV g p)) := by
  refine ev_of (l := [rI, rI]) (r := (drainsV g p)) (types (resT) [] (fun _ _ => none)) follows Try.func44 (by kernel_rfl) (by rw [Try.ntmps44]; exact Nat.le_of_ble_eq_true rfl) ?_
  have key : (inR IntKind.i8 g.fst →
    inR IntKind.i8 g.snd.fst →
      (g.snd.snd.fst.length = 9 ∧
          ∀ (x : List Int),
            List.Mem x g.snd.snd.fst → x.length = 9 ∧ ∀ (x_1 : Int), List.Mem x_1 x → inR IntKind.i16 x_1) →
        (g.snd.snd.snd.length ≤ 9223372036854775807 ∧
            ∀ (x : Int × Int), List.Mem x g.snd.snd.snd → inR IntKind.i8 x.fst ∧ inR IntKind.i8 x.snd) →
          inR IntKind.i8 p.fst →
            inR IntKind.i8 p.snd →
              inR IntKind.i8 p.fst →
                inR IntKind.i8 p.snd →
                  ∃ (r : Bool),
                    Ev Try.prog 68 [Arg.imm (D.dat (groundT 40) g).ref, Arg.imm (D.dat cellT p)]
                        (compsOf [(false, Ty.bool)] r) ∧
                      ∃ (r_1 : Int),
                        Ev Try.prog 63 [Arg.imm (D.dat (groundT 40) g).ref, Arg.imm (D.dat Ty.bool r)]
                            (compsOf [(false, Ty.int IntKind.i64)] r_1) ∧
                          (inR IntKind.i64 r_1 →
                            split (!decide (r_1 = 0)) (0 = (drainsV g p).fst ∧ r_1 = (drainsV g p).snd)
                              (inR IntKind.i8 p.fst →
                                inR IntKind.i8 p.snd →
                                  ∃ (r : Int),
                                    Ev Try.prog 82 [Arg.imm (D.dat (groundT 40) g).ref, Arg.imm (D.dat cellT p)]
                                        (compsOf [(false, Ty.int IntKind.i64)] r) ∧
                                      (inR IntKind.i64 r →
                                        split (decide (r < 0)) (0 = (drainsV g p).fst ∧ 6 = (drainsV g p).snd)
                                          (r = (drainsV g p).fst ∧ 0 = (drainsV g p).snd))))) := by
    intros
    refine ⟨_, l04Is_ev' g p, _, l04Asked_ev g _, fun _ => split_of (fun h => ?_) (fun h => ?_)⟩
    · have h : ¬ askedI (okG g) (isIn g.1 g.2.1 p) = 0 := by simpa using h
      simp [drainsV, h]
    · have h : askedI (okG g) (isIn g.1 g.2.1 p) = 0 := by simpa using h
      obtain ⟨k, hp⟩ := asked0 h
      intros
      refine ⟨_, l04Drain_ev g p k hp, fun _ => split_of (fun h2 => ?_) (fun h2 => ?_)⟩
      · have h2 := of_decide_eq_true h2
        simp [drainsV, h, h2]
      · have h2 := of_decide_eq_false h2
        simp [drainsV, h, h2]
  refine @Eq.mpr _ _ (?_) key
  kernel_rfl
theorem implDrains_ev (g : G) (p : Int × Int) : Ev Try.prog 45 [aG g, aC p] (compsOf [rI, rI] (drainsV g p)) := by
  refine ev_of (l := [rI, rI]) (r := (drainsV g p)) (types (resT) [] (fun _ _ => none)) follows Try.func45 (by kernel_rfl) (by rw [Try.ntmps45]; exact Nat.le_of_ble_eq_true rfl) ?_
  have key : (inR IntKind.i8 g.fst →
    inR IntKind.i8 g.snd.fst →
      (g.snd.snd.fst.length = 9 ∧
          ∀ (x : List Int),
            List.Mem x g.snd.snd.fst → x.length = 9 ∧ ∀ (x_1 : Int), List.Mem x_1 x → inR IntKind.i16 x_1) →
        (g.snd.snd.snd.length ≤ 9223372036854775807 ∧
            ∀ (x : Int × Int), List.Mem x g.snd.snd.snd → inR IntKind.i8 x.fst ∧ inR IntKind.i8 x.snd) →
          inR IntKind.i8 p.fst →
            inR IntKind.i8 p.snd →
              inR IntKind.i8 g.fst →
                inR IntKind.i8 g.snd.fst →
                  (g.snd.snd.fst.length = 9 ∧
                      ∀ (x : List Int),
                        List.Mem x g.snd.snd.fst → x.length = 9 ∧ ∀ (x_1 : Int), List.Mem x_1 x → inR IntKind.i16 x_1) →
                    (g.snd.snd.snd.length ≤ 9223372036854775807 ∧
                        ∀ (x : Int × Int), List.Mem x g.snd.snd.snd → inR IntKind.i8 x.fst ∧ inR IntKind.i8 x.snd) →
                      inR IntKind.i8 p.fst →
                        inR IntKind.i8 p.snd →
                          ∃ (r : Int),
                            Ev Try.prog 70 [Arg.imm (D.dat (groundT 40) g), Arg.imm (D.dat cellT p)]
                                (compsOf [(false, Ty.int IntKind.i64)] r) ∧
                              (inR IntKind.i64 r →
                                split (!decide (r = 0)) (0 = (drainsV g p).fst ∧ r = (drainsV g p).snd)
                                  (inR IntKind.i8 g.fst →
                                    inR IntKind.i8 g.snd.fst →
                                      (g.snd.snd.fst.length = 9 ∧
                                          ∀ (x : List Int),
                                            List.Mem x g.snd.snd.fst →
                                              x.length = 9 ∧ ∀ (x_1 : Int), List.Mem x_1 x → inR IntKind.i16 x_1) →
                                        (g.snd.snd.snd.length ≤ 9223372036854775807 ∧
                                            ∀ (x : Int × Int),
                                              List.Mem x g.snd.snd.snd → inR IntKind.i8 x.fst ∧ inR IntKind.i8 x.snd) →
                                          inR IntKind.i8 p.fst →
                                            inR IntKind.i8 p.snd →
                                              ∃ (r : Int),
                                                Ev Try.prog 83 [Arg.imm (D.dat (groundT 40) g), Arg.imm (D.dat cellT p)]
                                                    (compsOf [(false, Ty.int IntKind.i64)] r) ∧
                                                  (inR IntKind.i64 r →
                                                    split (decide (r < 0))
                                                      (0 = (drainsV g p).fst ∧ 6 = (drainsV g p).snd)
                                                      (r = (drainsV g p).fst ∧ 0 = (drainsV g p).snd))))) := by
    intros
    refine ⟨_, pointCode_ev g p, fun _ => split_of (fun h => ?_) (fun h => ?_)⟩
    · have h : ¬ askedI (okG g) (isIn g.1 g.2.1 p) = 0 := by simpa using h
      simp [drainsV, h]
    · have h : askedI (okG g) (isIn g.1 g.2.1 p) = 0 := by simpa using h
      obtain ⟨k, hp⟩ := asked0 h
      intros
      refine ⟨_, drain_ev g p k hp, fun _ => split_of (fun h2 => ?_) (fun h2 => ?_)⟩
      · have h2 := of_decide_eq_true h2
        simp [drainsV, h, h2]
      · have h2 := of_decide_eq_false h2
        simp [drainsV, h, h2]
  refine @Eq.mpr _ _ (?_) key
  kernel_rfl
theorem lawDrains_ev (g : G) (p : Int × Int) : Ev Try.prog 12 [aG0 g, .imm (.dat cellT p)] (compsOf [rB] (true)) := by
  refine ev_of (l := [rB]) (r := (true)) (types (resT) [] (fun _ _ => none)) follows Try.func12 (by kernel_rfl) (by rw [Try.ntmps12]; exact Nat.le_of_ble_eq_true rfl) ?_
  have key : (inR IntKind.i8 g.fst →
    inR IntKind.i8 g.snd.fst →
      (g.snd.snd.fst.length = 9 ∧
          ∀ (x : List Int),
            List.Mem x g.snd.snd.fst → x.length = 9 ∧ ∀ (x_1 : Int), List.Mem x_1 x → inR IntKind.i16 x_1) →
        (g.snd.snd.snd.length ≤ 9223372036854775807 ∧
            ∀ (x : Int × Int), List.Mem x g.snd.snd.snd → inR IntKind.i8 x.fst ∧ inR IntKind.i8 x.snd) →
          inR IntKind.i8 p.fst →
            inR IntKind.i8 p.snd →
              inR IntKind.i8 g.fst →
                inR IntKind.i8 g.snd.fst →
                  (g.snd.snd.fst.length = 9 ∧
                      ∀ (x : List Int),
                        List.Mem x g.snd.snd.fst → x.length = 9 ∧ ∀ (x_1 : Int), List.Mem x_1 x → inR IntKind.i16 x_1) →
                    (g.snd.snd.snd.length ≤ 9223372036854775807 ∧
                        ∀ (x : Int × Int), List.Mem x g.snd.snd.snd → inR IntKind.i8 x.fst ∧ inR IntKind.i8 x.snd) →
                      ∃ (r : Int),
                        Ev Try.prog 14 [Arg.imm (D.dat (groundT 48) g), Arg.imm (D.dat (Ty.int IntKind.i64) 1048576)]
                            (compsOf [(false, Ty.int IntKind.i64)] r) ∧
                          (inR IntKind.i64 r →
                            split (decide (r < 0)) (true = true)
                              (inR IntKind.i8 g.fst →
                                inR IntKind.i8 g.snd.fst →
                                  (g.snd.snd.fst.length = 9 ∧
                                      ∀ (x : List Int),
                                        List.Mem x g.snd.snd.fst →
                                          x.length = 9 ∧ ∀ (x_1 : Int), List.Mem x_1 x → inR IntKind.i16 x_1) →
                                    (g.snd.snd.snd.length ≤ 9223372036854775807 ∧
                                        ∀ (x : Int × Int),
                                          List.Mem x g.snd.snd.snd → inR IntKind.i8 x.fst ∧ inR IntKind.i8 x.snd) →
                                      ∃ (r : Int × Int × List (List Int) × List (Int × Int)),
                                        Ev Try.prog 16 [Arg.imm (D.dat (groundT 48) g)]
                                            (compsOf
                                              [(true,
                                                  (Ty.int IntKind.i8).prod
                                                    ((Ty.int IntKind.i8).prod
                                                      ((Ty.arr 9 (Ty.arr 9 (Ty.int IntKind.i16))).prod
                                                        (Ty.slice 40 ((Ty.int IntKind.i8).prod (Ty.int IntKind.i8))))))]
                                              r) ∧
                                          (inR IntKind.i8 r.fst →
                                            inR IntKind.i8 r.snd.fst →
                                              (r.snd.snd.fst.length = 9 ∧
                                                  ∀ (x : List Int),
                                                    List.Mem x r.snd.snd.fst →
                                                      x.length = 9 ∧
                                                        ∀ (x_1 : Int), List.Mem x_1 x → inR IntKind.i16 x_1) →
                                                (r.snd.snd.snd.length ≤ 9223372036854775807 ∧
                                                    ∀ (x : Int × Int),
                                                      List.Mem x r.snd.snd.snd →
                                                        inR IntKind.i8 x.fst ∧ inR IntKind.i8 x.snd) →
                                                  inR IntKind.i8 p.fst →
                                                    inR IntKind.i8 p.snd →
                                                      ∃ (r_1 : Int × Int),
                                                        Ev Try.prog 29 [Arg.imm (D.dat cellT p)]
                                                            (compsOf
                                                              [(false, (Ty.int IntKind.i8).prod (Ty.int IntKind.i8))]
                                                              r_1) ∧
                                                          (inR IntKind.i8 r_1.fst →
                                                            inR IntKind.i8 r_1.snd →
                                                              ∃ (r_2 : Int × Int),
                                                                Ev Try.prog 44
                                                                    [Arg.imm (D.dat (groundT 40) r),
                                                                      Arg.imm (D.dat cellT r_1)]
                                                                    (compsOf
                                                                      [(false, Ty.int IntKind.i64),
                                                                        (false, Ty.int IntKind.i64)]
                                                                      r_2) ∧
                                                                  (inR IntKind.i64 r_2.fst →
                                                                    inR IntKind.i64 r_2.snd →
                                                                      inR IntKind.i8 g.fst →
                                                                        inR IntKind.i8 g.snd.fst →
                                                                          (g.snd.snd.fst.length = 9 ∧
                                                                              ∀ (x : List Int),
                                                                                List.Mem x g.snd.snd.fst →
                                                                                  x.length = 9 ∧
                                                                                    ∀ (x_1 : Int),
                                                                                      List.Mem x_1 x →
                                                                                        inR IntKind.i16 x_1) →
                                                                            (g.snd.snd.snd.length ≤
                                                                                  9223372036854775807 ∧
                                                                                ∀ (x : Int × Int),
                                                                                  List.Mem x g.snd.snd.snd →
                                                                                    inR IntKind.i8 x.fst ∧
                                                                                      inR IntKind.i8 x.snd) →
                                                                              ∃ (r :
                                                                                Int ×
                                                                                  Int ×
                                                                                    List (List Int) × List (Int × Int)),
                                                                                Ev Try.prog 16
                                                                                    [Arg.imm (D.dat (groundT 48) g)]
                                                                                    (compsOf
                                                                                      [(true,
                                                                                          (Ty.int IntKind.i8).prod
                                                                                            ((Ty.int IntKind.i8).prod
                                                                                              ((Ty.arr 9
                                                                                                    (Ty.arr 9
                                                                                                      (Ty.int
                                                                                                        IntKind.i16))).prod
                                                                                                (Ty.slice 40
                                                                                                  ((Ty.int
                                                                                                        IntKind.i8).prod
                                                                                                    (Ty.int
                                                                                                      IntKind.i8))))))]
                                                                                      r) ∧
                                                                                  (inR IntKind.i8 r.fst →
                                                                                    inR IntKind.i8 r.snd.fst →
                                                                                      (r.snd.snd.fst.length = 9 ∧
                                                                                          ∀ (x : List Int),
                                                                                            List.Mem x r.snd.snd.fst →
                                                                                              x.length = 9 ∧
                                                                                                ∀ (x_1 : Int),
                                                                                                  List.Mem x_1 x →
                                                                                                    inR IntKind.i16
                                                                                                      x_1) →
                                                                                        (r.snd.snd.snd.length ≤
                                                                                              9223372036854775807 ∧
                                                                                            ∀ (x : Int × Int),
                                                                                              List.Mem x r.snd.snd.snd →
                                                                                                inR IntKind.i8 x.fst ∧
                                                                                                  inR IntKind.i8
                                                                                                    x.snd) →
                                                                                          inR IntKind.i8 r.fst →
                                                                                            inR IntKind.i8 r.snd.fst →
                                                                                              (r.snd.snd.fst.length =
                                                                                                    9 ∧
                                                                                                  ∀ (x : List Int),
                                                                                                    List.Mem x
                                                                                                        r.snd.snd.fst →
                                                                                                      x.length = 9 ∧
                                                                                                        ∀ (x_1 : Int),
                                                                                                          List.Mem x_1
                                                                                                              x →
                                                                                                            inR
                                                                                                              IntKind.i16
                                                                                                              x_1) →
                                                                                                (r.snd.snd.snd.length ≤
                                                                                                      9223372036854775807 ∧
                                                                                                    ∀ (x : Int × Int),
                                                                                                      List.Mem x
                                                                                                          r.snd.snd.snd →
                                                                                                        inR IntKind.i8
                                                                                                            x.fst ∧
                                                                                                          inR IntKind.i8
                                                                                                            x.snd) →
                                                                                                  inR IntKind.i8 p.fst →
                                                                                                    inR IntKind.i8
                                                                                                        p.snd →
                                                                                                      ∃ (r_3 :
                                                                                                        Int × Int),
                                                                                                        Ev Try.prog 29
                                                                                                            [Arg.imm
                                                                                                                (D.dat
                                                                                                                  cellT
                                                                                                                  p)]
                                                                                                            (compsOf
                                                                                                              [(false,
                                                                                                                  (Ty.int
                                                                                                                        IntKind.i8).prod
                                                                                                                    (Ty.int
                                                                                                                      IntKind.i8))]
                                                                                                              r_3) ∧
                                                                                                          (inR
                                                                                                              IntKind.i8
                                                                                                              r_3.fst →
                                                                                                            inR
                                                                                                                IntKind.i8
                                                                                                                r_3.snd →
                                                                                                              ∃ (r_4 :
                                                                                                                Int ×
                                                                                                                  Int),
                                                                                                                Ev
                                                                                                                    Try.prog
                                                                                                                    45
                                                                                                                    [Arg.imm
                                                                                                                        (D.dat
                                                                                                                          (groundT
                                                                                                                            40)
                                                                                                                          r),
                                                                                                                      Arg.imm
                                                                                                                        (D.dat
                                                                                                                          cellT
                                                                                                                          r_3)]
                                                                                                                    (compsOf
                                                                                                                      [(false,
                                                                                                                          Ty.int
                                                                                                                            IntKind.i64),
                                                                                                                        (false,
                                                                                                                          Ty.int
                                                                                                                            IntKind.i64)]
                                                                                                                      r_4) ∧
                                                                                                                  (inR
                                                                                                                      IntKind.i64
                                                                                                                      r_4.fst →
                                                                                                                    inR
                                                                                                                        IntKind.i64
                                                                                                                        r_4.snd →
                                                                                                                      split
                                                                                                                        (!!decide
                                                                                                                              (r_4.fst =
                                                                                                                                r_2.fst))
                                                                                                                        (split
                                                                                                                          (!decide
                                                                                                                              (r_4.snd =
                                                                                                                                r_2.snd))
                                                                                                                          (false =
                                                                                                                            true)
                                                                                                                          (inR
                                                                                                                              IntKind.i8
                                                                                                                              r.fst →
                                                                                                                            inR
                                                                                                                                IntKind.i8
                                                                                                                                r.snd.fst →
                                                                                                                              (r.snd.snd.fst.length =
                                                                                                                                    9 ∧
                                                                                                                                  ∀
                                                                                                                                    (x :
                                                                                                                                      List
                                                                                                                                        Int),
                                                                                                                                    List.Mem
                                                                                                                                        x
                                                                                                                                        r.snd.snd.fst →
                                                                                                                                      x.length =
                                                                                                                                          9 ∧
                                                                                                                                        ∀
                                                                                                                                          (x_1 :
                                                                                                                                            Int),
                                                                                                                                          List.Mem
                                                                                                                                              x_1
                                                                                                                                              x →
                                                                                                                                            inR
                                                                                                                                              IntKind.i16
                                                                                                                                              x_1) →
                                                                                                                                (r.snd.snd.snd.length ≤
                                                                                                                                      9223372036854775807 ∧
                                                                                                                                    ∀
                                                                                                                                      (x :
                                                                                                                                        Int ×
                                                                                                                                          Int),
                                                                                                                                      List.Mem
                                                                                                                                          x
                                                                                                                                          r.snd.snd.snd →
                                                                                                                                        inR
                                                                                                                                            IntKind.i8
                                                                                                                                            x.fst ∧
                                                                                                                                          inR
                                                                                                                                            IntKind.i8
                                                                                                                                            x.snd) →
                                                                                                                                  inR
                                                                                                                                      IntKind.i8
                                                                                                                                      g.fst →
                                                                                                                                    inR
                                                                                                                                        IntKind.i8
                                                                                                                                        g.snd.fst →
                                                                                                                                      (g.snd.snd.fst.length =
                                                                                                                                            9 ∧
                                                                                                                                          ∀
                                                                                                                                            (x :
                                                                                                                                              List
                                                                                                                                                Int),
                                                                                                                                            List.Mem
                                                                                                                                                x
                                                                                                                                                g.snd.snd.fst →
                                                                                                                                              x.length =
                                                                                                                                                  9 ∧
                                                                                                                                                ∀
                                                                                                                                                  (x_1 :
                                                                                                                                                    Int),
                                                                                                                                                  List.Mem
                                                                                                                                                      x_1
                                                                                                                                                      x →
                                                                                                                                                    inR
                                                                                                                                                      IntKind.i16
                                                                                                                                                      x_1) →
                                                                                                                                        (g.snd.snd.snd.length ≤
                                                                                                                                              9223372036854775807 ∧
                                                                                                                                            ∀
                                                                                                                                              (x :
                                                                                                                                                Int ×
                                                                                                                                                  Int),
                                                                                                                                              List.Mem
                                                                                                                                                  x
                                                                                                                                                  g.snd.snd.snd →
                                                                                                                                                inR
                                                                                                                                                    IntKind.i8
                                                                                                                                                    x.fst ∧
                                                                                                                                                  inR
                                                                                                                                                    IntKind.i8
                                                                                                                                                    x.snd) →
                                                                                                                                          ∃
                                                                                                                                            (r_5
                                                                                                                                            :
                                                                                                                                            Int ×
                                                                                                                                              Int ×
                                                                                                                                                List
                                                                                                                                                    (List
                                                                                                                                                      Int) ×
                                                                                                                                                  List
                                                                                                                                                    (Int ×
                                                                                                                                                      Int)),
                                                                                                                                            Ev
                                                                                                                                                Try.prog
                                                                                                                                                16
                                                                                                                                                [Arg.imm
                                                                                                                                                    (D.dat
                                                                                                                                                      (groundT
                                                                                                                                                        48)
                                                                                                                                                      g)]
                                                                                                                                                (compsOf
                                                                                                                                                  [(true,
                                                                                                                                                      (Ty.int
                                                                                                                                                            IntKind.i8).prod
                                                                                                                                                        ((Ty.int
                                                                                                                                                              IntKind.i8).prod
                                                                                                                                                          ((Ty.arr
                                                                                                                                                                9
                                                                                                                                                                (Ty.arr
                                                                                                                                                                  9
                                                                                                                                                                  (Ty.int
                                                                                                                                                                    IntKind.i16))).prod
                                                                                                                                                            (Ty.slice
                                                                                                                                                              40
                                                                                                                                                              ((Ty.int
                                                                                                                                                                    IntKind.i8).prod
                                                                                                                                                                (Ty.int
                                                                                                                                                                  IntKind.i8))))))]
                                                                                                                                                  r_5) ∧
                                                                                                                                              (inR
                                                                                                                                                  IntKind.i8
                                                                                                                                                  r_5.fst →
                                                                                                                                                inR
                                                                                                                                                    IntKind.i8
                                                                                                                                                    r_5.snd.fst →
                                                                                                                                                  (r_5.snd.snd.fst.length =
                                                                                                                                                        9 ∧
                                                                                                                                                      ∀
                                                                                                                                                        (x :
                                                                                                                                                          List
                                                                                                                                                            Int),
                                                                                                                                                        List.Mem
                                                                                                                                                            x
                                                                                                                                                            r_5.snd.snd.fst →
                                                                                                                                                          x.length =
                                                                                                                                                              9 ∧
                                                                                                                                                            ∀
                                                                                                                                                              (x_1 :
                                                                                                                                                                Int),
                                                                                                                                                              List.Mem
                                                                                                                                                                  x_1
                                                                                                                                                                  x →
                                                                                                                                                                inR
                                                                                                                                                                  IntKind.i16
                                                                                                                                                                  x_1) →
                                                                                                                                                    (r_5.snd.snd.snd.length ≤
                                                                                                                                                          9223372036854775807 ∧
                                                                                                                                                        ∀
                                                                                                                                                          (x :
                                                                                                                                                            Int ×
                                                                                                                                                              Int),
                                                                                                                                                          List.Mem
                                                                                                                                                              x
                                                                                                                                                              r_5.snd.snd.snd →
                                                                                                                                                            inR
                                                                                                                                                                IntKind.i8
                                                                                                                                                                x.fst ∧
                                                                                                                                                              inR
                                                                                                                                                                IntKind.i8
                                                                                                                                                                x.snd) →
                                                                                                                                                      ∃
                                                                                                                                                        (r_6
                                                                                                                                                        :
                                                                                                                                                        Bool),
                                                                                                                                                        Ev
                                                                                                                                                            Try.prog
                                                                                                                                                            18
                                                                                                                                                            [Arg.imm
                                                                                                                                                                (D.dat
                                                                                                                                                                  (groundT
                                                                                                                                                                    40)
                                                                                                                                                                  r),
                                                                                                                                                              Arg.imm
                                                                                                                                                                (D.dat
                                                                                                                                                                  (groundT
                                                                                                                                                                    40)
                                                                                                                                                                  r_5)]
                                                                                                                                                            (compsOf
                                                                                                                                                              [(false,
                                                                                                                                                                  Ty.bool)]
                                                                                                                                                              r_6) ∧
                                                                                                                                                          split
                                                                                                                                                            (!r_6)
                                                                                                                                                            (false =
                                                                                                                                                              true)
                                                                                                                                                            (true =
                                                                                                                                                              true))))
                                                                                                                        (false =
                                                                                                                          true)))))))))) := by
    intros
    refine ⟨_, szGround_ev g, fun _ => split_of (fun _ => rfl) (fun h => ?_)⟩
    have hl := sz_pos (of_decide_eq_false h)
    intros
    refine ⟨_, toGround_ev g hl, ?_⟩
    intros
    refine ⟨_, toCell_ev p, ?_⟩
    intros
    refine ⟨_, specDrains_ev _ _, ?_⟩
    intros
    refine ⟨_, toGround_ev g hl, ?_⟩
    intros
    refine ⟨_, toCell_ev p, ?_⟩
    intros
    refine ⟨_, implDrains_ev _ _, ?_⟩
    intros
    refine split_of (fun _ => split_of (fun h => by simp at h) (fun _ => ?_)) (fun h => by simp at h)
    intros
    refine ⟨_, toGround_ev g hl, ?_⟩
    intros
    refine ⟨_, eqGround_ev _, ?_⟩
    exact split_of (fun h => by simp at h) (fun _ => rfl)
  refine @Eq.mpr _ _ (?_) key
  kernel_rfl
end Go.Proofs.Ytkhheofgnhndbaa
