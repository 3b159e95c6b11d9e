/- Where water runs. No statement is proved here. -/
import Derived.Test.YtkhheofgnhndbaaFl
namespace Go.Proofs.Ytkhheofgnhndbaa
open Go.RowKit
set_option linter.unusedVariables false
set_option linter.unusedSimpArgs false
set_option maxRecDepth 100000
set_option maxHeartbeats 4000000
def lowS (g : G) (b c : Int × Int) : Int × Int := if hgt g c < hgt g b then c else b
def lowG (g : G) (p : Int × Int) : Int × Int := (besC g p).foldl (lowS g) p
def difC (a b : Int × Int) : Bool := !(decide (a.1 = b.1) && decide (a.2 = b.2))
def fallG (g : G) (p : Int × Int) : (Int × Int) × Bool := if 0 ≤ idxI g.2.2.2 p then (p, false) else (lowG g p, difC (lowG g p) p)
abbrev Pt (g : G) (p : Int × Int) : Prop := isIn g.1 g.2.1 p = true
theorem OkG.wh {g : G} (k : OkG g) : 1 ≤ g.1 ∧ g.1 ≤ 9 ∧ 1 ≤ g.2.1 ∧ g.2.1 ≤ 9 := by
  have h1 := k.w; have h2 := k.h
  simp only [inB, Bool.and_eq_true, decide_eq_true_eq] at h1 h2
  omega
theorem Pt.b {g : G} (k : OkG g) {p : Int × Int} (h : Pt g p) : (0 ≤ p.1 ∧ p.1 < 9) ∧ 0 ≤ p.2 ∧ p.2 < 9 := by
  have := isIn_iff.1 h; have := k.wh; omega
theorem low_in {g : G} (p : Int × Int) (hp : Pt g p) : ∀ (n : Nat), Pt g (((besC g p).take n).foldl (lowS g) p) := by
  have key : ∀ (l : Cl) (b : Int × Int), Pt g b → (∀ q ∈ l, Pt g q) → Pt g (l.foldl (lowS g) b) := by
    intro l
    induction l with
    | nil => exact fun b hb _ => hb
    | cons c l ih =>
      intro b hb hl
      refine ih _ ?_ fun q hq => hl q (by simp [hq])
      unfold lowS
      split
      · exact hl c (by simp)
      · exact hb
  exact fun n => key _ _ hp fun q hq => besC_in (List.mem_of_mem_take hq)
theorem lowG_in {g : G} {p : Int × Int} (hp : Pt g p) : Pt g (lowG g p) := by
  have := low_in p hp (besC g p).length
  rwa [List.take_length] at this
theorem getD_in {g : G} {p : Int × Int} {i : Nat} (h : i < (besC g p).length) : Pt g ((besC g p).getD i (0, 0)) := by
  rw [List.getD_eq_getElem?_getD, List.getElem?_eq_getElem h]
  exact besC_in (List.getElem_mem h)
theorem boxC_eq {x y : Int × Int} (h : x = y) : Slot.box (.dat cellT x) = Slot.box (.dat cellT y) := by rw [h]
theorem fall_in {g : G} {p : Int × Int} (hp : Pt g p) : Pt g (fallG g p).1 := by
  unfold fallG
  split
  · exact hp
  · exact lowG_in hp
theorem low_next {g : G} {p : Int × Int} {i : Nat} (h : i < (besC g p).length) : ((besC g p).take (i + 1)).foldl (lowS g) p = lowS g (((besC g p).take i).foldl (lowS g) p) ((besC g p).getD i (0, 0)) := by
  rw [take_next (d := (0, 0)) h, List.foldl_append]; rfl
theorem hgt_b {g : G} (k : OkG g) {p : Int × Int} (hp : Pt g p) : 0 ≤ hgt g p ∧ hgt g p ≤ 200 := by
  have hb := hp.b k
  have := k.hs p.2.toNat (by omega) p.1.toNat (by omega)
  rw [Int.toNat_of_nonneg hb.1.1, Int.toNat_of_nonneg hb.2.1] at this
  exact ⟨this.1, this.2.1⟩
noncomputable abbrev fallInv (g : G) (p : Int × Int) (n : Nat) (σ : List Slot) : Option LoopInv := match n with
  | 6 => some ⟨6 :: hvAt Try.f69 6, Nat, fun i => [(6, .box (.dat cellT (((besC g p).take i).foldl (lowS g) p))), (8, .val (.dat (.int .i64) i))], fun i => i ≤ (besC g p).length, fun i => (besC g p).length - i⟩
  | _ => none
theorem l04Fall_ev (g : G) (p : Int × Int) (k : OkG g) (hp : Pt g p) : Ev Try.prog 69 [aGp g, aC p] (compsOf [rC, rB] (fallG g p)) := by
  refine ev_of (l := [rC, rB]) (r := (fallG g p)) (types (resT) [] (fallInv g p)) follows Try.func69 (by kernel_rfl) (by rw [Try.ntmps69]; exact Nat.le_of_ble_eq_true rfl) ?_
  have key : (inR IntKind.i8 p.fst →
    inR IntKind.i8 p.snd →
      inR IntKind.i8 p.fst →
        inR IntKind.i8 p.snd →
          ∃ (r : Int),
            Ev Try.prog 84 [Arg.imm (D.dat (groundT 40) g).ref, Arg.imm (D.dat cellT p)]
                (compsOf [(false, Ty.int IntKind.i64)] r) ∧
              (inR IntKind.i64 r →
                split (decide (0 ≤ r))
                  (inR IntKind.i8 p.fst → inR IntKind.i8 p.snd → p = (fallG g p).fst ∧ false = (fallG g p).snd)
                  (inR IntKind.i8 p.fst →
                    inR IntKind.i8 p.snd →
                      inR IntKind.i8 p.fst →
                        inR IntKind.i8 p.snd →
                          ∃ (r : List (Int × Int)),
                            Ev Try.prog 55 [Arg.imm (D.dat (groundT 40) g).ref, Arg.imm (D.dat cellT p)]
                                (compsOf [(true, Ty.slice 40 ((Ty.int IntKind.i8).prod (Ty.int IntKind.i8)))] r) ∧
                              ((r.length ≤ 9223372036854775807 ∧
                                  ∀ (x : Int × Int), List.Mem x r → inR IntKind.i8 x.fst ∧ inR IntKind.i8 x.snd) →
                                (∃ (x0 : Nat),
                                    (Slot.box (D.dat cellT p) =
                                          Slot.box (D.dat cellT (List.foldl (lowS g) p (List.take x0 (besC g p)))) ∧
                                        Slot.val (D.dat (Ty.int IntKind.i64) 0) =
                                          Slot.val (D.dat (Ty.int IntKind.i64) ((x0 : Nat) : Int))) ∧
                                      x0 ≤ List.length (besC g p)) ∧
                                  ∀ (x : Nat),
                                    x ≤ List.length (besC g p) →
                                      inR IntKind.i8 (List.foldl (lowS g) p (List.take x (besC g p))).fst →
                                        inR IntKind.i8 (List.foldl (lowS g) p (List.take x (besC g p))).snd →
                                          inR IntKind.i64 ((x : Nat) : Int) →
                                            ((r.length : Nat) : Int) ≤ 9223372036854775807 →
                                              split (decide (((x : Nat) : Int) < ((r.length : Nat) : Int)))
                                                ((0 ≤ ((x : Nat) : Int) ∧ ((x : Nat) : Int) < ((r.length : Nat) : Int)) ∧
                                                  (inR IntKind.i8 (r.getD (((x : Nat) : Int)).toNat (0, 0)).fst →
                                                    inR IntKind.i8 (r.getD (((x : Nat) : Int)).toNat (0, 0)).snd →
                                                      ∃ (r_1 : Int),
                                                        Ev Try.prog 56
                                                            [Arg.imm (D.dat (groundT 40) g).ref,
                                                              Arg.imm (D.dat cellT (r.getD (((x : Nat) : Int)).toNat (0, 0)))]
                                                            (compsOf [(false, Ty.int IntKind.i64)] r_1) ∧
                                                          (inR IntKind.i64 r_1 →
                                                            inR IntKind.i8
                                                                (List.foldl (lowS g) p (List.take x (besC g p))).fst →
                                                              inR IntKind.i8
                                                                  (List.foldl (lowS g) p (List.take x (besC g p))).snd →
                                                                ∃ (r_2 : Int),
                                                                  Ev Try.prog 56
                                                                      [Arg.imm (D.dat (groundT 40) g).ref,
                                                                        Arg.imm
                                                                          (D.dat cellT
                                                                            (List.foldl (lowS g) p
                                                                              (List.take x (besC g p))))]
                                                                      (compsOf [(false, Ty.int IntKind.i64)] r_2) ∧
                                                                    (inR IntKind.i64 r_2 →
                                                                      split (decide (r_1 < r_2))
                                                                        ((0 ≤ ((x : Nat) : Int) ∧ ((x : Nat) : Int) < ((r.length : Nat) : Int)) ∧
                                                                          (inR IntKind.i8
                                                                              (r.getD (((x : Nat) : Int)).toNat (0, 0)).fst →
                                                                            inR IntKind.i8
                                                                                (r.getD (((x : Nat) : Int)).toNat (0, 0)).snd →
                                                                              (-9223372036854775808 ≤ ((x : Nat) : Int) + 1 ∧
                                                                                  ((x : Nat) : Int) + 1 ≤ 9223372036854775807) ∧
                                                                                ∃ (x' : Nat),
                                                                                  (Slot.box
                                                                                          (D.dat cellT
                                                                                            (r.getD (((x : Nat) : Int)).toNat
                                                                                              (0, 0))) =
                                                                                        Slot.box
                                                                                          (D.dat cellT
                                                                                            (List.foldl (lowS g) p
                                                                                              (List.take x'
                                                                                                (besC g p)))) ∧
                                                                                      Slot.val
                                                                                          (D.dat (Ty.int IntKind.i64)
                                                                                            (((x : Nat) : Int) + 1)) =
                                                                                        Slot.val
                                                                                          (D.dat (Ty.int IntKind.i64)
                                                                                            ((x' : Nat) : Int))) ∧
                                                                                    x' ≤ List.length (besC g p) ∧
                                                                                      List.length (besC g p) - x' <
                                                                                        List.length (besC g p) - x))
                                                                        ((-9223372036854775808 ≤ ((x : Nat) : Int) + 1 ∧
                                                                            ((x : Nat) : Int) + 1 ≤ 9223372036854775807) ∧
                                                                          ∃ (x' : Nat),
                                                                            (Slot.box
                                                                                    (D.dat cellT
                                                                                      (List.foldl (lowS g) p
                                                                                        (List.take x (besC g p)))) =
                                                                                  Slot.box
                                                                                    (D.dat cellT
                                                                                      (List.foldl (lowS g) p
                                                                                        (List.take x' (besC g p)))) ∧
                                                                                Slot.val
                                                                                    (D.dat (Ty.int IntKind.i64)
                                                                                      (((x : Nat) : Int) + 1)) =
                                                                                  Slot.val
                                                                                    (D.dat (Ty.int IntKind.i64) ((x' : Nat) : Int))) ∧
                                                                              x' ≤ List.length (besC g p) ∧
                                                                                List.length (besC g p) - x' <
                                                                                  List.length (besC g p) - x)))))
                                                (inR IntKind.i8 (List.foldl (lowS g) p (List.take x (besC g p))).fst →
                                                  inR IntKind.i8 (List.foldl (lowS g) p (List.take x (besC g p))).snd →
                                                    inR IntKind.i8
                                                        (List.foldl (lowS g) p (List.take x (besC g p))).fst →
                                                      inR IntKind.i8
                                                          (List.foldl (lowS g) p (List.take x (besC g p))).snd →
                                                        inR IntKind.i8 p.fst →
                                                          inR IntKind.i8 p.snd →
                                                            List.foldl (lowS g) p (List.take x (besC g p)) =
                                                                (fallG g p).fst ∧
                                                              (!(decide
                                                                      ((List.foldl (lowS g) p
                                                                            (List.take x (besC g p))).fst =
                                                                        p.fst) &&
                                                                    decide
                                                                      ((List.foldl (lowS g) p
                                                                            (List.take x (besC g p))).snd =
                                                                        p.snd))) =
                                                                (fallG g p).snd))))) := by
    intro _ _ _ _
    refine ⟨_, l04Gully_ev g p, fun _ => split_of (fun h => ?_) (fun h => ?_)⟩
    · have h := of_decide_eq_true h
      intros
      simp [fallG, h]
    · have h := of_decide_eq_false h
      intros
      refine ⟨_, l04Beside_ev g p (hp.b k).1 (hp.b k).2, fun _ => ⟨⟨0, ⟨rfl, rfl⟩, by omega⟩, fun i hi _ _ _ _ => split_of (fun h2 => ?_) (fun h2 => ?_)⟩⟩
      · have h2 := of_decide_eq_true h2
        simp only [Int.toNat_natCast]
        have hq := (getD_in (g := g) (p := p) (i := i) (by omega)).b k
        have hb := (low_in p hp i).b k
        have hs := low_next (g := g) (p := p) (i := i) (by omega)
        refine ⟨by omega, fun _ _ => ⟨_, l04Height_ev g _ hq.1 hq.2, fun _ _ _ => ⟨_, l04Height_ev g _ hb.1 hb.2, fun _ => split_of (fun h3 => ⟨by omega, fun _ _ => ⟨by omega, i + 1, ⟨boxC_eq (by rw [hs, lowS, if_pos (of_decide_eq_true h3)]), valI_eq (by omega)⟩, by omega, by omega⟩⟩) (fun h3 => ⟨by omega, i + 1, ⟨boxC_eq (by rw [hs, lowS, if_neg (of_decide_eq_false h3)]), valI_eq (by omega)⟩, by omega, by omega⟩)⟩⟩⟩
      · have h2 := of_decide_eq_false h2
        have e : (besC g p).take i = besC g p := List.take_of_length_le (by omega)
        intros
        rw [e]
        simp only [fallG, if_neg h]
        exact ⟨rfl, rfl⟩
  refine @Eq.mpr _ _ (?_) key
  kernel_rfl
noncomputable abbrev lowestInv (g : G) (p : Int × Int) (n : Nat) (σ : List Slot) : Option LoopInv := match n with
  | 3 => some ⟨6 :: hvAt Try.f81 3, Nat, fun i => [(6, .box (.dat cellT (((besC g p).take i).foldl (lowS g) p))), (14, .val (.dat (.int .i64) i))], fun i => i ≤ (besC g p).length, fun i => (besC g p).length - i⟩
  | _ => none
theorem lowest_ev (g : G) (p : Int × Int) (k : OkG g) (hp : Pt g p) : Ev Try.prog 81 [aG g, aC p] (compsOf [rC, rB] (((lowG g p, difC (lowG g p) p) : (Int × Int) × Bool))) := by
  refine ev_of (l := [rC, rB]) (r := (((lowG g p, difC (lowG g p) p) : (Int × Int) × Bool))) (types (resT) [] (lowestInv g p)) follows Try.func81 (by kernel_rfl) (by rw [Try.ntmps81]; exact Nat.le_of_ble_eq_true rfl) ?_
  have key : (inR IntKind.i8 g.fst →
    inR IntKind.i8 g.snd.fst →
      (g.snd.snd.fst.length = 9 ∧
          ∀ (x : List Int),
            List.Mem x g.snd.snd.fst → x.length = 9 ∧ ∀ (x_1 : Int), List.Mem x_1 x → inR IntKind.i16 x_1) →
        (g.snd.snd.snd.length ≤ 9223372036854775807 ∧
            ∀ (x : Int × Int), List.Mem x g.snd.snd.snd → inR IntKind.i8 x.fst ∧ inR IntKind.i8 x.snd) →
          inR IntKind.i8 p.fst →
            inR IntKind.i8 p.snd →
              inR IntKind.i8 p.fst →
                inR IntKind.i8 p.snd →
                  inR IntKind.i8 g.fst →
                    inR IntKind.i8 g.snd.fst →
                      (g.snd.snd.fst.length = 9 ∧
                          ∀ (x : List Int),
                            List.Mem x g.snd.snd.fst →
                              x.length = 9 ∧ ∀ (x_1 : Int), List.Mem x_1 x → inR IntKind.i16 x_1) →
                        (g.snd.snd.snd.length ≤ 9223372036854775807 ∧
                            ∀ (x : Int × Int), List.Mem x g.snd.snd.snd → inR IntKind.i8 x.fst ∧ inR IntKind.i8 x.snd) →
                          inR IntKind.i8 p.fst →
                            inR IntKind.i8 p.snd →
                              ∃ (r : List (Int × Int)),
                                Ev Try.prog 59 [Arg.imm (D.dat (groundT 40) g), Arg.imm (D.dat cellT p)]
                                    (compsOf [(true, Ty.slice 40 ((Ty.int IntKind.i8).prod (Ty.int IntKind.i8)))] r) ∧
                                  ((r.length ≤ 9223372036854775807 ∧
                                      ∀ (x : Int × Int), List.Mem x r → inR IntKind.i8 x.fst ∧ inR IntKind.i8 x.snd) →
                                    ((r.length : Nat) : Int) ≤ 9223372036854775807 →
                                      (∃ (x0 : Nat),
                                          (Slot.box (D.dat cellT p) =
                                                Slot.box
                                                  (D.dat cellT (List.foldl (lowS g) p (List.take x0 (besC g p)))) ∧
                                              Slot.val (D.dat (Ty.int IntKind.i64) 0) =
                                                Slot.val (D.dat (Ty.int IntKind.i64) ((x0 : Nat) : Int))) ∧
                                            x0 ≤ List.length (besC g p)) ∧
                                        ∀ (x : Nat),
                                          x ≤ List.length (besC g p) →
                                            inR IntKind.i8 (List.foldl (lowS g) p (List.take x (besC g p))).fst →
                                              inR IntKind.i8 (List.foldl (lowS g) p (List.take x (besC g p))).snd →
                                                inR IntKind.i64 ((x : Nat) : Int) →
                                                  split (decide (((x : Nat) : Int) < ((r.length : Nat) : Int)))
                                                    ((0 ≤ ((x : Nat) : Int) ∧ ((x : Nat) : Int) < ((r.length : Nat) : Int)) ∧
                                                      (inR IntKind.i8 (r.getD (((x : Nat) : Int)).toNat (0, 0)).fst →
                                                        inR IntKind.i8 (r.getD (((x : Nat) : Int)).toNat (0, 0)).snd →
                                                          inR IntKind.i8 g.fst →
                                                            inR IntKind.i8 g.snd.fst →
                                                              (g.snd.snd.fst.length = 9 ∧
                                                                  ∀ (x : List Int),
                                                                    List.Mem x g.snd.snd.fst →
                                                                      x.length = 9 ∧
                                                                        ∀ (x_1 : Int),
                                                                          List.Mem x_1 x → inR IntKind.i16 x_1) →
                                                                (g.snd.snd.snd.length ≤ 9223372036854775807 ∧
                                                                    ∀ (x : Int × Int),
                                                                      List.Mem x g.snd.snd.snd →
                                                                        inR IntKind.i8 x.fst ∧ inR IntKind.i8 x.snd) →
                                                                  inR IntKind.i8 (r.getD (((x : Nat) : Int)).toNat (0, 0)).fst →
                                                                    inR IntKind.i8 (r.getD (((x : Nat) : Int)).toNat (0, 0)).snd →
                                                                      ∃ (r_1 : Int),
                                                                        Ev Try.prog 61
                                                                            [Arg.imm (D.dat (groundT 40) g),
                                                                              Arg.imm
                                                                                (D.dat cellT
                                                                                  (r.getD (((x : Nat) : Int)).toNat (0, 0)))]
                                                                            (compsOf [(false, Ty.int IntKind.i64)]
                                                                              r_1) ∧
                                                                          (inR IntKind.i64 r_1 →
                                                                            inR IntKind.i8 g.fst →
                                                                              inR IntKind.i8 g.snd.fst →
                                                                                (g.snd.snd.fst.length = 9 ∧
                                                                                    ∀ (x : List Int),
                                                                                      List.Mem x g.snd.snd.fst →
                                                                                        x.length = 9 ∧
                                                                                          ∀ (x_1 : Int),
                                                                                            List.Mem x_1 x →
                                                                                              inR IntKind.i16 x_1) →
                                                                                  (g.snd.snd.snd.length ≤
                                                                                        9223372036854775807 ∧
                                                                                      ∀ (x : Int × Int),
                                                                                        List.Mem x g.snd.snd.snd →
                                                                                          inR IntKind.i8 x.fst ∧
                                                                                            inR IntKind.i8 x.snd) →
                                                                                    inR IntKind.i8
                                                                                        (List.foldl (lowS g) p
                                                                                            (List.take x
                                                                                              (besC g p))).fst →
                                                                                      inR IntKind.i8
                                                                                          (List.foldl (lowS g) p
                                                                                              (List.take x
                                                                                                (besC g p))).snd →
                                                                                        ∃ (r_2 : Int),
                                                                                          Ev Try.prog 61
                                                                                              [Arg.imm
                                                                                                  (D.dat (groundT 40)
                                                                                                    g),
                                                                                                Arg.imm
                                                                                                  (D.dat cellT
                                                                                                    (List.foldl (lowS g)
                                                                                                      p
                                                                                                      (List.take x
                                                                                                        (besC g p))))]
                                                                                              (compsOf
                                                                                                [(false,
                                                                                                    Ty.int IntKind.i64)]
                                                                                                r_2) ∧
                                                                                            (inR IntKind.i64 r_2 →
                                                                                              split (decide (r_1 < r_2))
                                                                                                (inR IntKind.i8
                                                                                                    (r.getD (((x : Nat) : Int)).toNat
                                                                                                        (0, 0)).fst →
                                                                                                  inR IntKind.i8
                                                                                                      (r.getD (((x : Nat) : Int)).toNat
                                                                                                          (0, 0)).snd →
                                                                                                    (-9223372036854775808 ≤
                                                                                                          ((x : Nat) : Int) + 1 ∧
                                                                                                        ((x : Nat) : Int) + 1 ≤
                                                                                                          9223372036854775807) ∧
                                                                                                      ∃ (x' : Nat),
                                                                                                        (Slot.box
                                                                                                                (D.dat
                                                                                                                  cellT
                                                                                                                  (r.getD
                                                                                                                    (((x : Nat) : Int)).toNat
                                                                                                                    (0,
                                                                                                                      0))) =
                                                                                                              Slot.box
                                                                                                                (D.dat
                                                                                                                  cellT
                                                                                                                  (List.foldl
                                                                                                                    (lowS
                                                                                                                      g)
                                                                                                                    p
                                                                                                                    (List.take
                                                                                                                      x'
                                                                                                                      (besC
                                                                                                                        g
                                                                                                                        p)))) ∧
                                                                                                            Slot.val
                                                                                                                (D.dat
                                                                                                                  (Ty.int
                                                                                                                    IntKind.i64)
                                                                                                                  (((x : Nat) : Int) +
                                                                                                                    1)) =
                                                                                                              Slot.val
                                                                                                                (D.dat
                                                                                                                  (Ty.int
                                                                                                                    IntKind.i64)
                                                                                                                  ((x' : Nat) : Int))) ∧
                                                                                                          x' ≤
                                                                                                              List.length
                                                                                                                (besC g
                                                                                                                  p) ∧
                                                                                                            List.length
                                                                                                                  (besC
                                                                                                                    g
                                                                                                                    p) -
                                                                                                                x' <
                                                                                                              List.length
                                                                                                                  (besC
                                                                                                                    g
                                                                                                                    p) -
                                                                                                                x)
                                                                                                ((-9223372036854775808 ≤
                                                                                                      ((x : Nat) : Int) + 1 ∧
                                                                                                    ((x : Nat) : Int) + 1 ≤
                                                                                                      9223372036854775807) ∧
                                                                                                  ∃ (x' : Nat),
                                                                                                    (Slot.box
                                                                                                            (D.dat cellT
                                                                                                              (List.foldl
                                                                                                                (lowS g)
                                                                                                                p
                                                                                                                (List.take
                                                                                                                  x
                                                                                                                  (besC
                                                                                                                    g
                                                                                                                    p)))) =
                                                                                                          Slot.box
                                                                                                            (D.dat cellT
                                                                                                              (List.foldl
                                                                                                                (lowS g)
                                                                                                                p
                                                                                                                (List.take
                                                                                                                  x'
                                                                                                                  (besC
                                                                                                                    g
                                                                                                                    p)))) ∧
                                                                                                        Slot.val
                                                                                                            (D.dat
                                                                                                              (Ty.int
                                                                                                                IntKind.i64)
                                                                                                              (((x : Nat) : Int) +
                                                                                                                1)) =
                                                                                                          Slot.val
                                                                                                            (D.dat
                                                                                                              (Ty.int
                                                                                                                IntKind.i64)
                                                                                                              ((x' : Nat) : Int))) ∧
                                                                                                      x' ≤
                                                                                                          List.length
                                                                                                            (besC g p) ∧
                                                                                                        List.length
                                                                                                              (besC g
                                                                                                                p) -
                                                                                                            x' <
                                                                                                          List.length
                                                                                                              (besC g
                                                                                                                p) -
                                                                                                            x)))))
                                                    (inR IntKind.i8
                                                        (List.foldl (lowS g) p (List.take x (besC g p))).fst →
                                                      inR IntKind.i8
                                                          (List.foldl (lowS g) p (List.take x (besC g p))).snd →
                                                        inR IntKind.i8
                                                            (List.foldl (lowS g) p (List.take x (besC g p))).fst →
                                                          inR IntKind.i8
                                                              (List.foldl (lowS g) p (List.take x (besC g p))).snd →
                                                            inR IntKind.i8 p.fst →
                                                              inR IntKind.i8 p.snd →
                                                                List.foldl (lowS g) p (List.take x (besC g p)) =
                                                                    lowG g p ∧
                                                                  (!(decide
                                                                          ((List.foldl (lowS g) p
                                                                                (List.take x (besC g p))).fst =
                                                                            p.fst) &&
                                                                        decide
                                                                          ((List.foldl (lowS g) p
                                                                                (List.take x (besC g p))).snd =
                                                                            p.snd))) =
                                                                    difC (lowG g p) p))) := by
    intros
    refine ⟨_, around_ev g p (hp.b k).1 (hp.b k).2, fun _ _ => ⟨⟨0, ⟨rfl, rfl⟩, by omega⟩, fun i hi _ _ _ => split_of (fun h2 => ?_) (fun h2 => ?_)⟩⟩
    · have h2 := of_decide_eq_true h2
      simp only [Int.toNat_natCast]
      have hq := (getD_in (g := g) (p := p) (i := i) (by omega)).b k
      have hb := (low_in p hp i).b k
      have hs := low_next (g := g) (p := p) (i := i) (by omega)
      refine ⟨by omega, ?_⟩
      intros
      refine ⟨_, height_ev g _ hq.1 hq.2, ?_⟩
      intros
      refine ⟨_, height_ev g _ hb.1 hb.2, fun _ => split_of (fun h3 => ?_) (fun h3 => ?_)⟩
      · intros
        exact ⟨by omega, i + 1, ⟨boxC_eq (by rw [hs, lowS, if_pos (of_decide_eq_true h3)]), valI_eq (by omega)⟩, by omega, by omega⟩
      · exact ⟨by omega, i + 1, ⟨boxC_eq (by rw [hs, lowS, if_neg (of_decide_eq_false h3)]), valI_eq (by omega)⟩, by omega, by omega⟩
    · have h2 := of_decide_eq_false h2
      have e : (besC g p).take i = besC g p := List.take_of_length_le (by omega)
      intros
      rw [e]
      exact ⟨rfl, rfl⟩
  refine @Eq.mpr _ _ (?_) key
  kernel_rfl
theorem runs_ev (g : G) (p : Int × Int) (k : OkG g) (hp : Pt g p) : Ev Try.prog 71 [aG g, aC p] (compsOf [rC, rB] (fallG g p)) := by
  refine ev_of (l := [rC, rB]) (r := (fallG g p)) (types (resT) [] (fun _ _ => none)) follows Try.func71 (by kernel_rfl) (by rw [Try.ntmps71]; exact Nat.le_of_ble_eq_true rfl) ?_
  have key : (inR IntKind.i8 g.fst →
    inR IntKind.i8 g.snd.fst →
      (g.snd.snd.fst.length = 9 ∧
          ∀ (x : List Int),
            List.Mem x g.snd.snd.fst → x.length = 9 ∧ ∀ (x_1 : Int), List.Mem x_1 x → inR IntKind.i16 x_1) →
        (g.snd.snd.snd.length ≤ 9223372036854775807 ∧
            ∀ (x : Int × Int), List.Mem x g.snd.snd.snd → inR IntKind.i8 x.fst ∧ inR IntKind.i8 x.snd) →
          inR IntKind.i8 p.fst →
            inR IntKind.i8 p.snd →
              inR IntKind.i8 g.fst →
                inR IntKind.i8 g.snd.fst →
                  (g.snd.snd.fst.length = 9 ∧
                      ∀ (x : List Int),
                        List.Mem x g.snd.snd.fst → x.length = 9 ∧ ∀ (x_1 : Int), List.Mem x_1 x → inR IntKind.i16 x_1) →
                    (g.snd.snd.snd.length ≤ 9223372036854775807 ∧
                        ∀ (x : Int × Int), List.Mem x g.snd.snd.snd → inR IntKind.i8 x.fst ∧ inR IntKind.i8 x.snd) →
                      inR IntKind.i8 p.fst →
                        inR IntKind.i8 p.snd →
                          ∃ (r : Bool),
                            Ev Try.prog 86 [Arg.imm (D.dat (groundT 40) g), Arg.imm (D.dat cellT p)]
                                (compsOf [(false, Ty.bool)] r) ∧
                              split r
                                (inR IntKind.i8 p.fst →
                                  inR IntKind.i8 p.snd → p = (fallG g p).fst ∧ false = (fallG g p).snd)
                                (inR IntKind.i8 g.fst →
                                  inR IntKind.i8 g.snd.fst →
                                    (g.snd.snd.fst.length = 9 ∧
                                        ∀ (x : List Int),
                                          List.Mem x g.snd.snd.fst →
                                            x.length = 9 ∧ ∀ (x_1 : Int), List.Mem x_1 x → inR IntKind.i16 x_1) →
                                      (g.snd.snd.snd.length ≤ 9223372036854775807 ∧
                                          ∀ (x : Int × Int),
                                            List.Mem x g.snd.snd.snd → inR IntKind.i8 x.fst ∧ inR IntKind.i8 x.snd) →
                                        inR IntKind.i8 p.fst →
                                          inR IntKind.i8 p.snd →
                                            ∃ (r : (Int × Int) × Bool),
                                              Ev Try.prog 81 [Arg.imm (D.dat (groundT 40) g), Arg.imm (D.dat cellT p)]
                                                  (compsOf
                                                    [(false, (Ty.int IntKind.i8).prod (Ty.int IntKind.i8)),
                                                      (false, Ty.bool)]
                                                    r) ∧
                                                (inR IntKind.i8 r.fst.fst →
                                                  inR IntKind.i8 r.fst.snd →
                                                    r.fst = (fallG g p).fst ∧ r.snd = (fallG g p).snd))) := by
    intros
    refine ⟨_, isGully_ev g p, split_of (fun h => ?_) (fun h => ?_)⟩
    · have h := of_decide_eq_true h
      intros
      simp [fallG, h]
    · have h := of_decide_eq_false h
      intros
      refine ⟨_, lowest_ev g p k hp, ?_⟩
      intros
      simp [fallG, h]
  refine @Eq.mpr _ _ (?_) key
  kernel_rfl
def askedI (v f : Bool) : Int := if v then (if f then 0 else 2) else 1
theorem l04Asked_ev (g : G) (f : Bool) : Ev Try.prog 63 [aGp g, aB f] (compsOf [rI] (askedI (okG g) f)) := by
  refine ev_of (l := [rI]) (r := (askedI (okG g) f)) (types (resT) [] (fun _ _ => none)) follows Try.func63 (by kernel_rfl) (by rw [Try.ntmps63]; exact Nat.le_of_ble_eq_true rfl) ?_
  have key : (∃ (r : Bool),
    Ev Try.prog 48 [Arg.imm (D.dat (groundT 40) g).ref] (compsOf [(false, Ty.bool)] r) ∧
      split (!r) (1 = askedI (okG g) f) (split (!f) (2 = askedI (okG g) f) (0 = askedI (okG g) f))) := by
    refine ⟨_, l04Ok_ev g, ?_⟩
    cases okG g <;> cases f <;> simp [Go.Proofs.Ytkhheofgnhndbaa.split, askedI]
  refine @Eq.mpr _ _ (?_) key
  kernel_rfl
theorem pointCode_ev (g : G) (p : Int × Int) : Ev Try.prog 70 [aG g, aC p] (compsOf [rI] (askedI (okG g) (isIn g.1 g.2.1 p))) := by
  refine ev_of (l := [rI]) (r := (askedI (okG g) (isIn g.1 g.2.1 p))) (types (resT) [] (fun _ _ => none)) follows Try.func70 (by kernel_rfl) (by rw [Try.ntmps70]; exact Nat.le_of_ble_eq_true rfl) ?_
  have key : (inR IntKind.i8 g.fst →
    inR IntKind.i8 g.snd.fst →
      (g.snd.snd.fst.length = 9 ∧
          ∀ (x : List Int),
            List.Mem x g.snd.snd.fst → x.length = 9 ∧ ∀ (x_1 : Int), List.Mem x_1 x → inR IntKind.i16 x_1) →
        (g.snd.snd.snd.length ≤ 9223372036854775807 ∧
            ∀ (x : Int × Int), List.Mem x g.snd.snd.snd → inR IntKind.i8 x.fst ∧ inR IntKind.i8 x.snd) →
          inR IntKind.i8 p.fst →
            inR IntKind.i8 p.snd →
              inR IntKind.i8 g.fst →
                inR IntKind.i8 g.snd.fst →
                  (g.snd.snd.fst.length = 9 ∧
                      ∀ (x : List Int),
                        List.Mem x g.snd.snd.fst → x.length = 9 ∧ ∀ (x_1 : Int), List.Mem x_1 x → inR IntKind.i16 x_1) →
                    (g.snd.snd.snd.length ≤ 9223372036854775807 ∧
                        ∀ (x : Int × Int), List.Mem x g.snd.snd.snd → inR IntKind.i8 x.fst ∧ inR IntKind.i8 x.snd) →
                      ∃ (r : Bool),
                        Ev Try.prog 17 [Arg.imm (D.dat (groundT 40) g)] (compsOf [(false, Ty.bool)] r) ∧
                          split (!r) (1 = askedI (okG g) (isIn g.fst g.snd.fst p))
                            (inR IntKind.i8 g.fst →
                              inR IntKind.i8 g.snd.fst →
                                (g.snd.snd.fst.length = 9 ∧
                                    ∀ (x : List Int),
                                      List.Mem x g.snd.snd.fst →
                                        x.length = 9 ∧ ∀ (x_1 : Int), List.Mem x_1 x → inR IntKind.i16 x_1) →
                                  (g.snd.snd.snd.length ≤ 9223372036854775807 ∧
                                      ∀ (x : Int × Int),
                                        List.Mem x g.snd.snd.snd → inR IntKind.i8 x.fst ∧ inR IntKind.i8 x.snd) →
                                    inR IntKind.i8 p.fst →
                                      inR IntKind.i8 p.snd →
                                        ∃ (r : Bool),
                                          Ev Try.prog 51 [Arg.imm (D.dat (groundT 40) g), Arg.imm (D.dat cellT p)]
                                              (compsOf [(false, Ty.bool)] r) ∧
                                            ∃ (r_1 : Int),
                                              Ev Try.prog 98
                                                  [Arg.imm (D.dat Ty.bool r), Arg.imm (D.dat (Ty.int IntKind.i64) 2)]
                                                  (compsOf [(false, Ty.int IntKind.i64)] r_1) ∧
                                                (inR IntKind.i64 r_1 → r_1 = askedI (okG g) (isIn g.fst g.snd.fst p)))) := by
    intros
    refine ⟨_, valid_ev g, split_of (fun h => ?_) (fun h => ?_)⟩
    · have h : okG g = false := by simpa using h
      simp [askedI, h]
    · have h : okG g = true := by simpa using h
      intros
      refine ⟨_, isPoint_ev g p, _, unless_ev _ _, fun _ => ?_⟩
      simp [askedI, h, unlessI]
  refine @Eq.mpr _ _ (?_) key
  kernel_rfl
theorem asked0 {g : G} {f : Bool} (h : askedI (okG g) f = 0) : OkG g ∧ f = true := by
  unfold askedI at h
  split at h
  · rename_i q
    split at h
    · rename_i q2; exact ⟨okG_iff.1 q, q2⟩
    · cases h
  · cases h
noncomputable def fallAtV (g : G) (p : Int × Int) : (Int × Int) × Int × Int :=
  if askedI (okG g) (isIn g.1 g.2.1 p) = 0 then (if (fallG g p).2 then ((fallG g p).1, hgt g p - hgt g (fallG g p).1, 0) else ((0, 0), 0, 6)) else ((0, 0), 0, askedI (okG g) (isIn g.1 g.2.1 p))
theorem specFallAt_ev (g : G) (p : Int × Int) : Ev Try.prog 28 [aG g, aC p] (compsOf [rC, rI, rI] (fallAtV g p)) := by
  refine ev_of (l := [rC, rI, rI]) (r := (fallAtV g p)) (types (resT) [] (fun _ _ => none)) follows Try.func28 (by kernel_rfl) (by rw [Try.ntmps28]; exact Nat.le_of_ble_eq_true rfl) ?_
  have key : (inR IntKind.i8 g.fst →
    inR IntKind.i8 g.snd.fst →
      (g.snd.snd.fst.length = 9 ∧
          ∀ (x : List Int),
            List.Mem x g.snd.snd.fst → x.length = 9 ∧ ∀ (x_1 : Int), List.Mem x_1 x → inR IntKind.i16 x_1) →
        (g.snd.snd.snd.length ≤ 9223372036854775807 ∧
            ∀ (x : Int × Int), List.Mem x g.snd.snd.snd → inR IntKind.i8 x.fst ∧ inR IntKind.i8 x.snd) →
          inR IntKind.i8 p.fst →
            inR IntKind.i8 p.snd →
              inR IntKind.i8 p.fst →
                inR IntKind.i8 p.snd →
                  ∃ (r : Bool),
                    Ev Try.prog 68 [Arg.imm (D.dat (groundT 40) g).ref, Arg.imm (D.dat cellT p)]
                        (compsOf [(false, Ty.bool)] r) ∧
                      ∃ (r_1 : Int),
                        Ev Try.prog 63 [Arg.imm (D.dat (groundT 40) g).ref, Arg.imm (D.dat Ty.bool r)]
                            (compsOf [(false, Ty.int IntKind.i64)] r_1) ∧
                          (inR IntKind.i64 r_1 →
                            split (!decide (r_1 = 0))
                              ((0, 0) = (fallAtV g p).fst ∧ 0 = (fallAtV g p).snd.fst ∧ r_1 = (fallAtV g p).snd.snd)
                              (inR IntKind.i8 p.fst →
                                inR IntKind.i8 p.snd →
                                  ∃ (r : (Int × Int) × Bool),
                                    Ev Try.prog 69 [Arg.imm (D.dat (groundT 40) g).ref, Arg.imm (D.dat cellT p)]
                                        (compsOf
                                          [(false, (Ty.int IntKind.i8).prod (Ty.int IntKind.i8)), (false, Ty.bool)] r) ∧
                                      (inR IntKind.i8 r.fst.fst →
                                        inR IntKind.i8 r.fst.snd →
                                          split (!r.snd)
                                            ((0, 0) = (fallAtV g p).fst ∧
                                              0 = (fallAtV g p).snd.fst ∧ 6 = (fallAtV g p).snd.snd)
                                            (inR IntKind.i8 r.fst.fst →
                                              inR IntKind.i8 r.fst.snd →
                                                inR IntKind.i8 p.fst →
                                                  inR IntKind.i8 p.snd →
                                                    ∃ (r_2 : Int),
                                                      Ev Try.prog 56
                                                          [Arg.imm (D.dat (groundT 40) g).ref, Arg.imm (D.dat cellT p)]
                                                          (compsOf [(false, Ty.int IntKind.i64)] r_2) ∧
                                                        (inR IntKind.i64 r_2 →
                                                          inR IntKind.i8 r.fst.fst →
                                                            inR IntKind.i8 r.fst.snd →
                                                              ∃ (r_3 : Int),
                                                                Ev Try.prog 56
                                                                    [Arg.imm (D.dat (groundT 40) g).ref,
                                                                      Arg.imm (D.dat cellT r.fst)]
                                                                    (compsOf [(false, Ty.int IntKind.i64)] r_3) ∧
                                                                  (inR IntKind.i64 r_3 →
                                                                    (-9223372036854775808 ≤ r_2 - r_3 ∧
                                                                        r_2 - r_3 ≤ 9223372036854775807) ∧
                                                                      r.fst = (fallAtV g p).fst ∧
                                                                        r_2 - r_3 = (fallAtV g p).snd.fst ∧
                                                                          0 = (fallAtV g p).snd.snd))))))) := by
    intros
    refine ⟨_, l04Is_ev' g p, _, l04Asked_ev g _, fun _ => split_of (fun h => ?_) (fun h => ?_)⟩
    · have h : ¬ askedI (okG g) (isIn g.1 g.2.1 p) = 0 := by simpa using h
      simp [fallAtV, h]
    · have h : askedI (okG g) (isIn g.1 g.2.1 p) = 0 := by simpa using h
      obtain ⟨k, hp⟩ := asked0 h
      intros
      refine ⟨_, l04Fall_ev g p k hp, ?_⟩
      intros
      refine split_of (fun h2 => ?_) (fun h2 => ?_)
      · have h2 : (fallG g p).2 = false := by simpa using h2
        simp [fallAtV, h, h2]
      · have h2 : (fallG g p).2 = true := by simpa using h2
        have hb := Pt.b k hp
        have hq := (fall_in hp).b k
        have a1 := hgt_b k hp
        have a2 := hgt_b k (fall_in hp)
        intros
        refine ⟨_, l04Height_ev g p hb.1 hb.2, ?_⟩
        intros
        refine ⟨_, l04Height_ev g _ hq.1 hq.2, fun _ => ⟨by omega, ?_⟩⟩
        simp [fallAtV, h, h2]
  refine @Eq.mpr _ _ (?_) key
  kernel_rfl
theorem implFallAt_ev (g : G) (p : Int × Int) : Ev Try.prog 30 [aG g, aC p] (compsOf [rC, rI, rI] (fallAtV g p)) := by
  refine ev_of (l := [rC, rI, rI]) (r := (fallAtV g p)) (types (resT) [] (fun _ _ => none)) follows Try.func30 (by kernel_rfl) (by rw [Try.ntmps30]; exact Nat.le_of_ble_eq_true rfl) ?_
  have key : (inR IntKind.i8 g.fst →
    inR IntKind.i8 g.snd.fst →
      (g.snd.snd.fst.length = 9 ∧
          ∀ (x : List Int),
            List.Mem x g.snd.snd.fst → x.length = 9 ∧ ∀ (x_1 : Int), List.Mem x_1 x → inR IntKind.i16 x_1) →
        (g.snd.snd.snd.length ≤ 9223372036854775807 ∧
            ∀ (x : Int × Int), List.Mem x g.snd.snd.snd → inR IntKind.i8 x.fst ∧ inR IntKind.i8 x.snd) →
          inR IntKind.i8 p.fst →
            inR IntKind.i8 p.snd →
              inR IntKind.i8 g.fst →
                inR IntKind.i8 g.snd.fst →
                  (g.snd.snd.fst.length = 9 ∧
                      ∀ (x : List Int),
                        List.Mem x g.snd.snd.fst → x.length = 9 ∧ ∀ (x_1 : Int), List.Mem x_1 x → inR IntKind.i16 x_1) →
                    (g.snd.snd.snd.length ≤ 9223372036854775807 ∧
                        ∀ (x : Int × Int), List.Mem x g.snd.snd.snd → inR IntKind.i8 x.fst ∧ inR IntKind.i8 x.snd) →
                      inR IntKind.i8 p.fst →
                        inR IntKind.i8 p.snd →
                          ∃ (r : Int),
                            Ev Try.prog 70 [Arg.imm (D.dat (groundT 40) g), Arg.imm (D.dat cellT p)]
                                (compsOf [(false, Ty.int IntKind.i64)] r) ∧
                              (inR IntKind.i64 r →
                                split (!decide (r = 0))
                                  ((0, 0) = (fallAtV g p).fst ∧ 0 = (fallAtV g p).snd.fst ∧ r = (fallAtV g p).snd.snd)
                                  (inR IntKind.i8 g.fst →
                                    inR IntKind.i8 g.snd.fst →
                                      (g.snd.snd.fst.length = 9 ∧
                                          ∀ (x : List Int),
                                            List.Mem x g.snd.snd.fst →
                                              x.length = 9 ∧ ∀ (x_1 : Int), List.Mem x_1 x → inR IntKind.i16 x_1) →
                                        (g.snd.snd.snd.length ≤ 9223372036854775807 ∧
                                            ∀ (x : Int × Int),
                                              List.Mem x g.snd.snd.snd → inR IntKind.i8 x.fst ∧ inR IntKind.i8 x.snd) →
                                          inR IntKind.i8 p.fst →
                                            inR IntKind.i8 p.snd →
                                              ∃ (r : (Int × Int) × Bool),
                                                Ev Try.prog 71 [Arg.imm (D.dat (groundT 40) g), Arg.imm (D.dat cellT p)]
                                                    (compsOf
                                                      [(false, (Ty.int IntKind.i8).prod (Ty.int IntKind.i8)),
                                                        (false, Ty.bool)]
                                                      r) ∧
                                                  (inR IntKind.i8 r.fst.fst →
                                                    inR IntKind.i8 r.fst.snd →
                                                      split (!r.snd)
                                                        ((0, 0) = (fallAtV g p).fst ∧
                                                          0 = (fallAtV g p).snd.fst ∧ 6 = (fallAtV g p).snd.snd)
                                                        (inR IntKind.i8 r.fst.fst →
                                                          inR IntKind.i8 r.fst.snd →
                                                            inR IntKind.i8 g.fst →
                                                              inR IntKind.i8 g.snd.fst →
                                                                (g.snd.snd.fst.length = 9 ∧
                                                                    ∀ (x : List Int),
                                                                      List.Mem x g.snd.snd.fst →
                                                                        x.length = 9 ∧
                                                                          ∀ (x_1 : Int),
                                                                            List.Mem x_1 x → inR IntKind.i16 x_1) →
                                                                  (g.snd.snd.snd.length ≤ 9223372036854775807 ∧
                                                                      ∀ (x : Int × Int),
                                                                        List.Mem x g.snd.snd.snd →
                                                                          inR IntKind.i8 x.fst ∧ inR IntKind.i8 x.snd) →
                                                                    inR IntKind.i8 p.fst →
                                                                      inR IntKind.i8 p.snd →
                                                                        ∃ (r_1 : Int),
                                                                          Ev Try.prog 61
                                                                              [Arg.imm (D.dat (groundT 40) g),
                                                                                Arg.imm (D.dat cellT p)]
                                                                              (compsOf [(false, Ty.int IntKind.i64)]
                                                                                r_1) ∧
                                                                            (inR IntKind.i64 r_1 →
                                                                              inR IntKind.i8 g.fst →
                                                                                inR IntKind.i8 g.snd.fst →
                                                                                  (g.snd.snd.fst.length = 9 ∧
                                                                                      ∀ (x : List Int),
                                                                                        List.Mem x g.snd.snd.fst →
                                                                                          x.length = 9 ∧
                                                                                            ∀ (x_1 : Int),
                                                                                              List.Mem x_1 x →
                                                                                                inR IntKind.i16 x_1) →
                                                                                    (g.snd.snd.snd.length ≤
                                                                                          9223372036854775807 ∧
                                                                                        ∀ (x : Int × Int),
                                                                                          List.Mem x g.snd.snd.snd →
                                                                                            inR IntKind.i8 x.fst ∧
                                                                                              inR IntKind.i8 x.snd) →
                                                                                      inR IntKind.i8 r.fst.fst →
                                                                                        inR IntKind.i8 r.fst.snd →
                                                                                          ∃ (r_2 : Int),
                                                                                            Ev Try.prog 61
                                                                                                [Arg.imm
                                                                                                    (D.dat (groundT 40)
                                                                                                      g),
                                                                                                  Arg.imm
                                                                                                    (D.dat cellT r.fst)]
                                                                                                (compsOf
                                                                                                  [(false,
                                                                                                      Ty.int
                                                                                                        IntKind.i64)]
                                                                                                  r_2) ∧
                                                                                              (inR IntKind.i64 r_2 →
                                                                                                (-9223372036854775808 ≤
                                                                                                      r_1 - r_2 ∧
                                                                                                    r_1 - r_2 ≤
                                                                                                      9223372036854775807) ∧
                                                                                                  r.fst =
                                                                                                      (fallAtV g
                                                                                                          p).fst ∧
                                                                                                    r_1 - r_2 =
                                                                                                        (fallAtV g
                                                                                                              p).snd.fst ∧
                                                                                                      0 =
                                                                                                        (fallAtV g
                                                                                                              p).snd.snd))))))) := by
    intros
    refine ⟨_, pointCode_ev g p, fun _ => split_of (fun h => ?_) (fun h => ?_)⟩
    · have h : ¬ askedI (okG g) (isIn g.1 g.2.1 p) = 0 := by simpa using h
      simp [fallAtV, h]
    · have h : askedI (okG g) (isIn g.1 g.2.1 p) = 0 := by simpa using h
      obtain ⟨k, hp⟩ := asked0 h
      intros
      refine ⟨_, runs_ev g p k hp, ?_⟩
      intros
      refine split_of (fun h2 => ?_) (fun h2 => ?_)
      · have h2 : (fallG g p).2 = false := by simpa using h2
        simp [fallAtV, h, h2]
      · have h2 : (fallG g p).2 = true := by simpa using h2
        have hb := Pt.b k hp
        have hq := (fall_in hp).b k
        have a1 := hgt_b k hp
        have a2 := hgt_b k (fall_in hp)
        intros
        refine ⟨_, height_ev g p hb.1 hb.2, ?_⟩
        intros
        refine ⟨_, height_ev g _ hq.1 hq.2, fun _ => ⟨by omega, ?_⟩⟩
        simp [fallAtV, h, h2]
  refine @Eq.mpr _ _ (?_) key
  kernel_rfl
end Go.Proofs.Ytkhheofgnhndbaa
