/- Points beside a point; gullies; where water runs. No statement is proved here. -/
import Derived.Test.YtkhheofgnhndbaaFj
namespace Go.Proofs.Ytkhheofgnhndbaa
open Go.RowKit
set_option linter.unusedVariables false
set_option linter.unusedSimpArgs false
set_option maxRecDepth 100000
set_option maxHeartbeats 4000000
def four (p : Int × Int) : Cl := [(p.1, p.2 - 1), (p.1 - 1, p.2), (p.1 + 1, p.2), (p.1, p.2 + 1)]
def besC (g : G) (p : Int × Int) : Cl := (four p).filter (isIn g.1 g.2.1)
theorem besC_in {g : G} {p q : Int × Int} (h : q ∈ besC g p) : isIn g.1 g.2.1 q = true := (List.mem_filter.1 h).2
theorem isIn_iff {w h : Int} {p : Int × Int} : isIn w h p = true ↔ (0 ≤ p.1 ∧ p.1 < w) ∧ 0 ≤ p.2 ∧ p.2 < h := by
  simp only [isIn, inB, Bool.and_eq_true, decide_eq_true_eq]; omega
theorem take_next {α : Type} {l : List α} {i : Nat} {d : α} (h : i < l.length) : l.take (i + 1) = l.take i ++ [l.getD i d] := by
  rw [List.take_add_one, List.getElem?_eq_getElem h, List.getD_eq_getElem?_getD, List.getElem?_eq_getElem h]; rfl
theorem cell_yes {a b : Int × Int} (h : (decide (a.1 = b.1) && decide (a.2 = b.2)) = true) : a = b := by
  simp only [Bool.and_eq_true, decide_eq_true_eq] at h
  exact Prod.ext h.1 h.2
theorem cell_no {a b : Int × Int} (h : (decide (a.1 = b.1) && decide (a.2 = b.2)) = false) : a ≠ b := by
  rintro rfl; simp at h
theorem upto_step {p : Nat → Prop} {i : Nat} (h : ∀ j : Nat, j < i → p j) (h2 : p i) : ∀ j : Nat, j < i + 1 → p j := by
  intro j hj
  rcases Nat.lt_or_ge j i with q | q
  · exact h j q
  · obtain rfl : j = i := by omega
    exact h2
noncomputable abbrev besInv (g : G) (p : Int × Int) (n : Nat) (σ : List Slot) : Option LoopInv := match n with
  | 4 => some ⟨hvAt Try.f55 4, Nat, fun i => [(5, .own (.slice 40 cellT) (((four p).take i).filter (isIn g.1 g.2.1))), (7, .val (.dat (.int .i64) i))], fun i => i ≤ 4, fun i => 4 - i⟩
  | _ => none
theorem l04Beside_ev (g : G) (p : Int × Int) (h1 : 0 ≤ p.1 ∧ p.1 < 9) (h2 : 0 ≤ p.2 ∧ p.2 < 9) : Ev Try.prog 55 [aGp g, aC p] (compsOf [oC] (besC g p)) := by
  refine ev_of (l := [oC]) (r := (besC g p)) (types (resT) [] (besInv g p)) follows Try.func55 (by kernel_rfl) (by rw [Try.ntmps55]; exact Nat.le_of_ble_eq_true rfl) ?_
  have key : (inR IntKind.i8 p.fst →
    inR IntKind.i8 p.snd →
      inR IntKind.i8 p.fst →
        inR IntKind.i8 p.snd →
          (-128 ≤ p.snd - 1 ∧ p.snd - 1 ≤ 127) ∧
            (inR IntKind.i8 p.fst →
              (-128 ≤ p.fst - 1 ∧ p.fst - 1 ≤ 127) ∧
                (inR IntKind.i8 p.snd →
                  inR IntKind.i8 p.fst →
                    (-128 ≤ p.fst + 1 ∧ p.fst + 1 ≤ 127) ∧
                      (inR IntKind.i8 p.snd →
                        inR IntKind.i8 p.fst →
                          inR IntKind.i8 p.snd →
                            (-128 ≤ p.snd + 1 ∧ p.snd + 1 ≤ 127) ∧
                              (∃ (x0 : Nat),
                                  (Slot.own (Ty.slice 40 cellT) [] =
                                        Slot.own (Ty.slice 40 cellT)
                                          (List.filter (isIn g.fst g.snd.fst) (List.take x0 (four p))) ∧
                                      Slot.val (D.dat (Ty.int IntKind.i64) 0) =
                                        Slot.val (D.dat (Ty.int IntKind.i64) ((x0 : Nat) : Int))) ∧
                                    x0 ≤ 4) ∧
                                ∀ (x : Nat),
                                  x ≤ 4 →
                                    ((List.filter (isIn g.fst g.snd.fst) (List.take x (four p))).length ≤
                                          9223372036854775807 ∧
                                        ∀ (x_1 : Int × Int),
                                          List.Mem x_1 (List.filter (isIn g.fst g.snd.fst) (List.take x (four p))) →
                                            inR IntKind.i8 x_1.fst ∧ inR IntKind.i8 x_1.snd) →
                                      inR IntKind.i64 ((x : Nat) : Int) →
                                        (([(p.fst, p.snd - 1), (p.fst - 1, p.snd), (p.fst + 1, p.snd),
                                                  (p.fst, p.snd + 1)].length : Nat) : Int) ≤
                                            9223372036854775807 →
                                          split
                                            (decide
                                              (((x : Nat) : Int) <
                                                (([(p.fst, p.snd - 1), (p.fst - 1, p.snd), (p.fst + 1, p.snd),
                                                      (p.fst, p.snd + 1)].length : Nat) : Int)))
                                            ((0 ≤ ((x : Nat) : Int) ∧
                                                ((x : Nat) : Int) <
                                                  (([(p.fst, p.snd - 1), (p.fst - 1, p.snd), (p.fst + 1, p.snd),
                                                        (p.fst, p.snd + 1)].length : Nat) : Int)) ∧
                                              (inR IntKind.i8
                                                  ([(p.fst, p.snd - 1), (p.fst - 1, p.snd), (p.fst + 1, p.snd),
                                                          (p.fst, p.snd + 1)].getD
                                                      (((x : Nat) : Int)).toNat (0, 0)).fst →
                                                inR IntKind.i8
                                                    ([(p.fst, p.snd - 1), (p.fst - 1, p.snd), (p.fst + 1, p.snd),
                                                            (p.fst, p.snd + 1)].getD
                                                        (((x : Nat) : Int)).toNat (0, 0)).snd →
                                                  ∃ (r : Bool),
                                                    Ev Try.prog 68
                                                        [Arg.imm (D.dat (groundT 40) g).ref,
                                                          Arg.imm
                                                            (D.dat cellT
                                                              ([(p.fst, p.snd - 1), (p.fst - 1, p.snd),
                                                                    (p.fst + 1, p.snd), (p.fst, p.snd + 1)].getD
                                                                (((x : Nat) : Int)).toNat (0, 0)))]
                                                        (compsOf [(false, Ty.bool)] r) ∧
                                                      split r
                                                        ((0 ≤ ((x : Nat) : Int) ∧
                                                            ((x : Nat) : Int) <
                                                              (([(p.fst, p.snd - 1), (p.fst - 1, p.snd),
                                                                    (p.fst + 1, p.snd), (p.fst, p.snd + 1)].length : Nat) : Int)) ∧
                                                          (inR IntKind.i8
                                                              ([(p.fst, p.snd - 1), (p.fst - 1, p.snd),
                                                                      (p.fst + 1, p.snd), (p.fst, p.snd + 1)].getD
                                                                  (((x : Nat) : Int)).toNat (0, 0)).fst →
                                                            inR IntKind.i8
                                                                ([(p.fst, p.snd - 1), (p.fst - 1, p.snd),
                                                                        (p.fst + 1, p.snd), (p.fst, p.snd + 1)].getD
                                                                    (((x : Nat) : Int)).toNat (0, 0)).snd →
                                                              (List.filter (isIn g.fst g.snd.fst)
                                                                        (List.take x (four p))).length +
                                                                    [[(p.fst, p.snd - 1), (p.fst - 1, p.snd),
                                                                              (p.fst + 1, p.snd),
                                                                              (p.fst, p.snd + 1)].getD
                                                                          (((x : Nat) : Int)).toNat (0, 0)].length ≤
                                                                  4294967296 ∧
                                                                (-9223372036854775808 ≤ ((x : Nat) : Int) + 1 ∧
                                                                    ((x : Nat) : Int) + 1 ≤ 9223372036854775807) ∧
                                                                  ∃ (x' : Nat),
                                                                    (Slot.own (Ty.slice 40 cellT)
                                                                            (List.filter (isIn g.fst g.snd.fst)
                                                                                (List.take x (four p)) ++
                                                                              [[(p.fst, p.snd - 1), (p.fst - 1, p.snd),
                                                                                      (p.fst + 1, p.snd),
                                                                                      (p.fst, p.snd + 1)].getD
                                                                                  (((x : Nat) : Int)).toNat (0, 0)]) =
                                                                          Slot.own (Ty.slice 40 cellT)
                                                                            (List.filter (isIn g.fst g.snd.fst)
                                                                              (List.take x' (four p))) ∧
                                                                        Slot.val (D.dat (Ty.int IntKind.i64) (((x : Nat) : Int) + 1)) =
                                                                          Slot.val (D.dat (Ty.int IntKind.i64) ((x' : Nat) : Int))) ∧
                                                                      x' ≤ 4 ∧ 4 - x' < 4 - x))
                                                        ((-9223372036854775808 ≤ ((x : Nat) : Int) + 1 ∧
                                                            ((x : Nat) : Int) + 1 ≤ 9223372036854775807) ∧
                                                          ∃ (x' : Nat),
                                                            (Slot.own (Ty.slice 40 cellT)
                                                                    (List.filter (isIn g.fst g.snd.fst)
                                                                      (List.take x (four p))) =
                                                                  Slot.own (Ty.slice 40 cellT)
                                                                    (List.filter (isIn g.fst g.snd.fst)
                                                                      (List.take x' (four p))) ∧
                                                                Slot.val (D.dat (Ty.int IntKind.i64) (((x : Nat) : Int) + 1)) =
                                                                  Slot.val (D.dat (Ty.int IntKind.i64) ((x' : Nat) : Int))) ∧
                                                              x' ≤ 4 ∧ 4 - x' < 4 - x)))
                                            (List.filter (isIn g.fst g.snd.fst) (List.take x (four p)) = besC g p))))) := by
    intro _ _ _ _
    refine ⟨by omega, fun _ => ⟨by omega, fun _ _ => ⟨by omega, fun _ _ _ => ⟨by omega, ⟨0, ⟨ownC_eq rfl, rfl⟩, by omega⟩, fun i hi _ _ _ => ?_⟩⟩⟩⟩
    simp only [show ([(p.1, p.2 - 1), (p.1 - 1, p.2), (p.1 + 1, p.2), (p.1, p.2 + 1)] : Cl) = four p from rfl, Int.toNat_natCast]
    have hl : (four p).length = 4 := rfl
    simp only [hl]
    refine split_of (fun h => ?_) (fun h => ?_)
    · have h : i < 4 := by have := of_decide_eq_true h; omega
      have ht := take_next (l := four p) (i := i) (d := (0, 0)) (by omega)
      have hlen := List.length_filter_le (isIn g.1 g.2.1) ((four p).take i)
      have hl2 : ((four p).take i).length ≤ 4 := by rw [List.length_take]; omega
      refine ⟨by omega, fun _ _ => ⟨_, l04Is_ev' _ _, split_of (fun h3 => ⟨by omega, fun _ _ => ⟨by simp only [List.length_cons, List.length_nil]; omega, by omega, i + 1, ⟨ownC_eq (by rw [ht, filter_yes h3]), valI_eq (by omega)⟩, by omega, by omega⟩⟩) (fun h3 => ⟨by omega, i + 1, ⟨ownC_eq (by rw [ht, filter_no h3]), valI_eq (by omega)⟩, by omega, by omega⟩)⟩⟩
    · have h := of_decide_eq_false h
      obtain rfl : i = 4 := by omega
      rfl
  refine @Eq.mpr _ _ (?_) key
  kernel_rfl
def idxI : Cl → Int × Int → Int
  | [], _ => -1
  | q :: l, p => if q = p then 0 else (if idxI l p < 0 then -1 else idxI l p + 1)
theorem idx_found : ∀ {l : Cl} {p : Int × Int} {i : Nat}, i < l.length → l.getD i (0, 0) = p → (∀ j : Nat, j < i → l.getD j (0, 0) ≠ p) → (i : Int) = idxI l p
  | q :: l, p, 0, _, h, _ => by simp at h; simp [idxI, h]
  | q :: l, p, i + 1, hl, h, hn => by
    have h0 : q ≠ p := by have := hn 0 (by omega); simpa using this
    have ih := idx_found (l := l) (p := p) (i := i) (by simpa using hl) (by simpa using h) fun j hj => by have := hn (j + 1) (by omega); simpa using this
    simp only [idxI, if_neg h0, ← ih]
    rw [if_neg (by omega)]; omega
theorem idx_none : ∀ {l : Cl} {p : Int × Int}, (∀ j : Nat, j < l.length → l.getD j (0, 0) ≠ p) → -1 = idxI l p
  | [], p, _ => rfl
  | q :: l, p, hn => by
    have h0 : q ≠ p := by have := hn 0 (by simp); simpa using this
    have ih := idx_none (l := l) (p := p) fun j hj => by have := hn (j + 1) (by simpa using hj); simpa using this
    simp only [idxI, if_neg h0, ← ih]
    simp
theorem idx_lt : ∀ {l : Cl} {p : Int × Int}, -1 ≤ idxI l p ∧ idxI l p < l.length ∨ l = [] ∧ idxI l p = -1
  | [], p => .inr ⟨rfl, rfl⟩
  | q :: l, p => by
    left
    have ih := idx_lt (l := l) (p := p)
    simp only [idxI, List.length_cons]
    rcases ih with ih | ⟨_, ih⟩
    · split
      · omega
      · split <;> omega
    · rw [ih]; split <;> simp <;> omega
noncomputable abbrev gullyInv (g : G) (p : Int × Int) (n : Nat) (σ : List Slot) : Option LoopInv := match n with
  | 2 => some ⟨hvAt Try.f84 2, Nat, fun i => [(5, .val (.dat (.int .i64) i))], fun i => i ≤ g.2.2.2.length ∧ ∀ j : Nat, j < i → g.2.2.2.getD j (0, 0) ≠ p, fun i => g.2.2.2.length - i⟩
  | _ => none
theorem l04Gully_ev (g : G) (p : Int × Int) : Ev Try.prog 84 [aGp g, aC p] (compsOf [rI] (idxI g.2.2.2 p)) := by
  refine ev_of (l := [rI]) (r := (idxI g.2.2.2 p)) (types (resT) [] (gullyInv g p)) follows Try.func84 (by kernel_rfl) (by rw [Try.ntmps84]; exact Nat.le_of_ble_eq_true rfl) ?_
  have key : (inR IntKind.i8 p.fst →
    inR IntKind.i8 p.snd →
      (∃ (x0 : Nat),
          Slot.val (D.dat (Ty.int IntKind.i64) 0) = Slot.val (D.dat (Ty.int IntKind.i64) ((x0 : Nat) : Int)) ∧
            x0 ≤ g.snd.snd.snd.length ∧ ∀ (j : Nat), j < x0 → g.snd.snd.snd.getD j (0, 0) ≠ p) ∧
        ∀ (x : Nat),
          (x ≤ g.snd.snd.snd.length ∧ ∀ (j : Nat), j < x → g.snd.snd.snd.getD j (0, 0) ≠ p) →
            inR IntKind.i64 ((x : Nat) : Int) →
              (g.snd.snd.snd.length ≤ 9223372036854775807 ∧
                  ∀ (x : Int × Int), List.Mem x g.snd.snd.snd → inR IntKind.i8 x.fst ∧ inR IntKind.i8 x.snd) →
                ((g.snd.snd.snd.length : Nat) : Int) ≤ 9223372036854775807 →
                  split (decide (((x : Nat) : Int) < ((g.snd.snd.snd.length : Nat) : Int)))
                    ((g.snd.snd.snd.length ≤ 9223372036854775807 ∧
                        ∀ (x : Int × Int), List.Mem x g.snd.snd.snd → inR IntKind.i8 x.fst ∧ inR IntKind.i8 x.snd) →
                      (0 ≤ ((x : Nat) : Int) ∧ ((x : Nat) : Int) < ((g.snd.snd.snd.length : Nat) : Int)) ∧
                        (inR IntKind.i8 (g.snd.snd.snd.getD (((x : Nat) : Int)).toNat (0, 0)).fst →
                          inR IntKind.i8 (g.snd.snd.snd.getD (((x : Nat) : Int)).toNat (0, 0)).snd →
                            inR IntKind.i8 p.fst →
                              inR IntKind.i8 p.snd →
                                split
                                  (decide ((g.snd.snd.snd.getD (((x : Nat) : Int)).toNat (0, 0)).fst = p.fst) &&
                                    decide ((g.snd.snd.snd.getD (((x : Nat) : Int)).toNat (0, 0)).snd = p.snd))
                                  (((x : Nat) : Int) = idxI g.snd.snd.snd p)
                                  ((-9223372036854775808 ≤ ((x : Nat) : Int) + 1 ∧ ((x : Nat) : Int) + 1 ≤ 9223372036854775807) ∧
                                    ∃ (x' : Nat),
                                      Slot.val (D.dat (Ty.int IntKind.i64) (((x : Nat) : Int) + 1)) =
                                          Slot.val (D.dat (Ty.int IntKind.i64) ((x' : Nat) : Int)) ∧
                                        (x' ≤ g.snd.snd.snd.length ∧
                                            ∀ (j : Nat), j < x' → g.snd.snd.snd.getD j (0, 0) ≠ p) ∧
                                          g.snd.snd.snd.length - x' < g.snd.snd.snd.length - x)))
                    (-1 = idxI g.snd.snd.snd p)) := by
    intro _ _
    refine ⟨⟨0, rfl, by omega, fun j hj => by omega⟩, fun i ⟨hi, hn⟩ _ _ _ => split_of (fun h => ?_) (fun h => ?_)⟩
    · have h := of_decide_eq_true h
      simp only [Int.toNat_natCast]
      refine fun _ => ⟨by omega, fun _ _ _ _ => split_of (fun h2 => idx_found (by omega) (cell_yes h2) hn) (fun h2 => ⟨by omega, i + 1, rfl, ⟨by omega, upto_step hn (cell_no h2)⟩, by omega⟩)⟩
    · have h := of_decide_eq_false h
      exact idx_none fun j hj => hn j (by omega)
  refine @Eq.mpr _ _ (?_) key
  kernel_rfl
noncomputable abbrev indexInv (l : Cl) (p : Int × Int) (n : Nat) (σ : List Slot) : Option LoopInv := match n with
  | 2 => some ⟨hvAt Try.f103 2, Nat, fun i => [(8, .val (.dat (.int .i64) i))], fun i => i ≤ l.length ∧ ∀ j : Nat, j < i → l.getD j (0, 0) ≠ p, fun i => l.length - i⟩
  | _ => none
theorem index_ev (l : Cl) (p : Int × Int) : Ev Try.prog 103 [aL l, aC p] (compsOf [rI] (idxI l p)) := by
  refine ev_of (l := [rI]) (r := (idxI l p)) (types (resT) [] (indexInv l p)) follows Try.func103 (by kernel_rfl) (by rw [Try.ntmps103]; exact Nat.le_of_ble_eq_true rfl) ?_
  have key : ((List.length l ≤ 9223372036854775807 ∧
      ∀ (x : Int × Int), List.Mem x l → inR IntKind.i8 x.fst ∧ inR IntKind.i8 x.snd) →
    inR IntKind.i8 p.fst →
      inR IntKind.i8 p.snd →
        (((List.length l) : Nat) : Int) ≤ 9223372036854775807 →
          (∃ (x0 : Nat),
              Slot.val (D.dat (Ty.int IntKind.i64) 0) = Slot.val (D.dat (Ty.int IntKind.i64) ((x0 : Nat) : Int)) ∧
                x0 ≤ List.length l ∧ ∀ (j : Nat), j < x0 → List.getD l j (0, 0) ≠ p) ∧
            ∀ (x : Nat),
              (x ≤ List.length l ∧ ∀ (j : Nat), j < x → List.getD l j (0, 0) ≠ p) →
                inR IntKind.i64 ((x : Nat) : Int) →
                  split (decide (((x : Nat) : Int) < (((List.length l) : Nat) : Int)))
                    (inR IntKind.i8 p.fst →
                      inR IntKind.i8 p.snd →
                        (0 ≤ ((x : Nat) : Int) ∧ ((x : Nat) : Int) < (((List.length l) : Nat) : Int)) ∧
                          (inR IntKind.i8 (List.getD l (((x : Nat) : Int)).toNat (0, 0)).fst →
                            inR IntKind.i8 (List.getD l (((x : Nat) : Int)).toNat (0, 0)).snd →
                              split
                                (decide (p.fst = (List.getD l (((x : Nat) : Int)).toNat (0, 0)).fst) &&
                                  decide (p.snd = (List.getD l (((x : Nat) : Int)).toNat (0, 0)).snd))
                                (((x : Nat) : Int) = idxI l p)
                                ((-9223372036854775808 ≤ ((x : Nat) : Int) + 1 ∧ ((x : Nat) : Int) + 1 ≤ 9223372036854775807) ∧
                                  ∃ (x' : Nat),
                                    Slot.val (D.dat (Ty.int IntKind.i64) (((x : Nat) : Int) + 1)) =
                                        Slot.val (D.dat (Ty.int IntKind.i64) ((x' : Nat) : Int)) ∧
                                      (x' ≤ List.length l ∧ ∀ (j : Nat), j < x' → List.getD l j (0, 0) ≠ p) ∧
                                        List.length l - x' < List.length l - x)))
                    (-1 = idxI l p)) := by
    intro _ _ _ _
    refine ⟨⟨0, rfl, by omega, fun j hj => by omega⟩, fun i ⟨hi, hn⟩ _ => split_of (fun h => ?_) (fun h => ?_)⟩
    · have h := of_decide_eq_true h
      simp only [Int.toNat_natCast]
      refine fun _ _ => ⟨by omega, fun _ _ => split_of (fun h2 => idx_found (by omega) (cell_yes h2).symm hn) (fun h2 => ⟨by omega, i + 1, rfl, ⟨by omega, upto_step hn (cell_no h2).symm⟩, by omega⟩)⟩
    · have h := of_decide_eq_false h
      exact idx_none fun j hj => hn j (by omega)
  refine @Eq.mpr _ _ (?_) key
  kernel_rfl
theorem contains_ev (l : Cl) (p : Int × Int) : Ev Try.prog 104 [aL l, aC p] (compsOf [rB] (decide (0 ≤ idxI l p))) := by
  refine ev_of (l := [rB]) (r := (decide (0 ≤ idxI l p))) (types (resT) [] (fun _ _ => none)) follows Try.func104 (by kernel_rfl) (by rw [Try.ntmps104]; exact Nat.le_of_ble_eq_true rfl) ?_
  have key : ((List.length l ≤ 9223372036854775807 ∧
      ∀ (x : Int × Int), List.Mem x l → inR IntKind.i8 x.fst ∧ inR IntKind.i8 x.snd) →
    inR IntKind.i8 p.fst →
      inR IntKind.i8 p.snd →
        inR IntKind.i8 p.fst →
          inR IntKind.i8 p.snd →
            ∃ (r : Int),
              Ev Try.prog 103 [Arg.imm (D.dat (Ty.slice 40 cellT) l), Arg.imm (D.dat cellT p)]
                  (compsOf [(false, Ty.int IntKind.i64)] r) ∧
                (inR IntKind.i64 r → decide (0 ≤ r) = decide (0 ≤ idxI l p))) := by
    repeat' (first
      | (intro hh; try simp only [inR, loK, hiK] at hh)
      | exact trivial
      | (refine ⟨_, index_ev _ _, ?_⟩)
      | (refine And.intro ?_ ?_)
      | (refine split_of (fun hh => ?_) (fun hh => ?_)))
    all_goals (first | omega | rfl | (simp_all []; done) | (simp_all []; omega))
  refine @Eq.mpr _ _ (?_) key
  kernel_rfl
theorem isGully_ev (g : G) (p : Int × Int) : Ev Try.prog 86 [aG g, aC p] (compsOf [rB] (decide (0 ≤ idxI g.2.2.2 p))) := by
  refine ev_of (l := [rB]) (r := (decide (0 ≤ idxI g.2.2.2 p))) (types (resT) [] (fun _ _ => none)) follows Try.func86 (by kernel_rfl) (by rw [Try.ntmps86]; exact Nat.le_of_ble_eq_true rfl) ?_
  have key : (inR IntKind.i8 g.fst →
    inR IntKind.i8 g.snd.fst →
      (g.snd.snd.fst.length = 9 ∧
          ∀ (x : List Int),
            List.Mem x g.snd.snd.fst → x.length = 9 ∧ ∀ (x_1 : Int), List.Mem x_1 x → inR IntKind.i16 x_1) →
        (g.snd.snd.snd.length ≤ 9223372036854775807 ∧
            ∀ (x : Int × Int), List.Mem x g.snd.snd.snd → inR IntKind.i8 x.fst ∧ inR IntKind.i8 x.snd) →
          inR IntKind.i8 p.fst →
            inR IntKind.i8 p.snd →
              (g.snd.snd.snd.length ≤ 9223372036854775807 ∧
                  ∀ (x : Int × Int), List.Mem x g.snd.snd.snd → inR IntKind.i8 x.fst ∧ inR IntKind.i8 x.snd) →
                inR IntKind.i8 p.fst →
                  inR IntKind.i8 p.snd →
                    ∃ (r : Bool),
                      Ev Try.prog 104 [Arg.imm (D.dat (Ty.slice 40 cellT) g.snd.snd.snd), Arg.imm (D.dat cellT p)]
                          (compsOf [(false, Ty.bool)] r) ∧
                        r = decide (0 ≤ idxI g.snd.snd.snd p)) := by
    repeat' (first
      | (intro hh; try simp only [inR, loK, hiK] at hh)
      | exact trivial
      | (refine ⟨_, contains_ev _ _, ?_⟩)
      | (refine And.intro ?_ ?_)
      | (refine split_of (fun hh => ?_) (fun hh => ?_)))
    all_goals (first | omega | rfl | (simp_all []; done) | (simp_all []; omega))
  refine @Eq.mpr _ _ (?_) key
  kernel_rfl
end Go.Proofs.Ytkhheofgnhndbaa
