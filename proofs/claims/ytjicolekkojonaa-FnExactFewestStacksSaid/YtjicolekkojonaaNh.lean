/- The fewest stacks. No statement is proved here. -/
import Derived.Test.YtjicolekkojonaaNf
namespace Go.Proofs.Ytjicolekkojonaa
open Go.RowKit
set_option linter.unusedVariables false
set_option linter.unusedSimpArgs false
set_option maxRecDepth 100000
set_option maxHeartbeats 4000000
noncomputable abbrev idxJInv (l : List Int) (p : Int → Bool) (n : Nat) (σ : List Slot) : Option LoopInv := match n with
  | 2 => some ⟨hvAt Try.f40 2, Nat, fun i => [(8, .val (.dat (.int .i64) i))], fun i => i ≤ l.length ∧ ∀ j : Nat, j < i → p (l.getD j 0) = false, fun i => l.length - i⟩
  | _ => none
theorem indexFuncJ_ev (l : List Int) (f : Nat) (d1 : D) (p : Int → Bool) (hp : ∀ x ∈ l, Ev Try.prog f [aI x, .imm d1] (compsOf [rB] (p x))) : Ev Try.prog 40 [.imm (.dat (.slice 3 (.int .i64)) l), .imm (.clo f (.cn d1 .nl))] (compsOf [rI] (idxP p l)) := by
  refine ev_of (l := [rI]) (r := (idxP p l)) (types (fun _ => some [rB]) [] (idxJInv l p)) follows Try.func40 (by kernel_rfl) (by rw [Try.ntmps40]; exact Nat.le_of_ble_eq_true rfl) ?_
  have key : ((l.length ≤ 9223372036854775807 ∧ ∀ (x : Int), List.Mem x l → inR IntKind.i64 x) → ((l.length : Nat) : Int) ≤ 9223372036854775807 → (∃ (x0 : Nat), Slot.val (D.dat (Ty.int IntKind.i64) 0) = Slot.val
      (D.dat (Ty.int IntKind.i64) ((x0 : Nat) : Int)) ∧ x0 ≤ l.length ∧ ∀ (j : Nat), j < x0 → p (l.getD j 0) = false) ∧ ∀ (x : Nat), (x ≤ l.length ∧ ∀ (j : Nat), j < x → p (l.getD j 0) = false) → inR
      IntKind.i64 ((x : Nat) : Int) → split (decide (((x : Nat) : Int) < ((l.length : Nat) : Int))) ((0 ≤ ((x : Nat) : Int) ∧ ((x : Nat) : Int) < ((l.length : Nat) : Int)) ∧ (inR IntKind.i64 (l.getD (((x :
      Nat) : Int)).toNat 0) → ∃ (r : Bool), Ev Try.prog f [Arg.imm (D.dat (Ty.int IntKind.i64) (l.getD (((x : Nat) : Int)).toNat 0)), Arg.imm d1] (compsOf [(false, Ty.bool)] r) ∧ split r (((x : Nat) : Int)
      = idxP p l) ((-9223372036854775808 ≤ ((x : Nat) : Int) + 1 ∧ ((x : Nat) : Int) + 1 ≤ 9223372036854775807) ∧ ∃ (x' : Nat), Slot.val (D.dat (Ty.int IntKind.i64) (((x : Nat) : Int) + 1)) = Slot.val
      (D.dat (Ty.int IntKind.i64) ((x' : Nat) : Int)) ∧ (x' ≤ l.length ∧ ∀ (j : Nat), j < x' → p (l.getD j 0) = false) ∧ l.length - x' < l.length - x))) (-1 = idxP p l)) := by
    intro _ _
    refine ⟨⟨0, rfl, by omega, fun j hj => by omega⟩, fun i ⟨hi, hn⟩ _ => split_of (fun h => ?_) (fun h => ?_)⟩
    · have h := of_decide_eq_true h
      simp only [Int.toNat_natCast]
      have hm : l.getD i 0 ∈ l := by
        have : l.getD i 0 = l[i]'(by omega) := by simp [List.getD_eq_getElem?_getD, show i < l.length by omega]
        rw [this]; exact List.getElem_mem _
      exact ⟨by omega, fun _ => ⟨_, hp _ hm, split_of (fun h2 => idxP_found (by omega) h2 hn) (fun h2 => ⟨by omega, i + 1, rfl, ⟨by omega, upto_step hn h2⟩, by omega⟩)⟩⟩
    · have h := of_decide_eq_false h
      exact idxP_none fun j hj => hn j (by omega)
  refine @Eq.mpr _ _ (?_) key
  kernel_rfl
theorem few1_ev (x h : Int) : Ev Try.prog 41 [aI x, .imm (.ref (.dat (.int .i64) h))] (compsOf [rB] (decide (h < x))) := by
  refine ev_of (l := [rB]) (r := (decide (h < x))) (types (resT) [] (fun _ _ => none)) follows Try.func41 (by kernel_rfl) (by rw [Try.ntmps41]; exact Nat.le_of_ble_eq_true rfl) ?_
  have key : (inR IntKind.i64 x → inR IntKind.i64 h → decide (h < x) = decide (h < x)) := by
    repeat' (first
      | (intro hh; try simp only [inR, loK, hiK] at hh)
      | exact trivial
      | (refine And.intro ?_ ?_)
      | (refine split_of (fun hh => ?_) (fun hh => ?_)))
    all_goals (first | omega | rfl | (simp_all []; done) | (simp_all []; omega))
  refine @Eq.mpr _ _ (?_) key
  kernel_rfl
theorem sizeJ_ev (l : List Int) : Ev Try.prog 42 [.imm (.dat (.slice 3 (.int .i64)) l)] (compsOf [rI] ((l.length : Int))) := by
  refine ev_of (l := [rI]) (r := ((l.length : Int))) (types (resT) [] (fun _ _ => none)) follows Try.func42 (by kernel_rfl) (by rw [Try.ntmps42]; exact Nat.le_of_ble_eq_true rfl) ?_
  have key : ((l.length ≤ 9223372036854775807 ∧ ∀ (x : Int), List.Mem x l → inR IntKind.i64 x) → ((l.length : Nat) : Int) ≤ 9223372036854775807 → ((l.length : Nat) : Int) = ((l.length : Nat) : Int)) := by
    repeat' (first
      | (intro hh; try simp only [inR, loK, hiK] at hh)
      | exact trivial
      | (refine And.intro ?_ ?_)
      | (refine split_of (fun hh => ?_) (fun hh => ?_)))
    all_goals (first | omega | rfl | (simp_all []; done) | (simp_all []; omega))
  refine @Eq.mpr _ _ (?_) key
  kernel_rfl
def putS (y : List Int) (st : List Int × List Int) (n : Int) : List Int × List Int :=
  if idxP (fun t => decide (whereI y n < t)) st.2 < 0 then (st.1 ++ [(st.2.length : Int)], st.2 ++ [whereI y n]) else (st.1 ++ [idxP (fun t => decide (whereI y n < t)) st.2], st.2.set (idxP (fun t => decide (whereI y n < t)) st.2).toNat (whereI y n))
def stS (x y : List Int) (i : Nat) : List Int × List Int := (x.take i).foldl (putS y) ([], [])
theorem take_next' {α : Type} {l : List α} {i : Nat} {d : α} (h : i < l.length) : l.take (i + 1) = l.take i ++ [l.getD i d] := by
  rw [List.take_add_one, List.getElem?_eq_getElem h, List.getD_eq_getElem?_getD, List.getElem?_eq_getElem h]; rfl
theorem stS_succ {x y : List Int} {i : Nat} (h : i < x.length) : stS x y (i + 1) = putS y (stS x y i) (x.getD i 0) := by
  unfold stS
  rw [take_next' (d := 0) h, List.foldl_append]; rfl
theorem idxP_lt {α : Type} {p : α → Bool} : ∀ {l : List α}, idxP p l < l.length
  | [] => by simp [idxP]
  | a :: l => by
    have ih := idxP_lt (p := p) (l := l)
    simp only [idxP, List.length_cons]
    split
    · omega
    · split <;> omega
theorem stS_len {x y : List Int} : ∀ i : Nat, i ≤ x.length → (stS x y i).1.length = i ∧ (stS x y i).2.length ≤ i
  | 0, _ => by simp [stS]
  | i + 1, h => by
    have ih := stS_len (x := x) (y := y) i (by omega)
    rw [stS_succ (by omega)]
    unfold putS
    split
    · simp; omega
    · simp; omega
def fewS (x y : List Int) : List Int × Int × Int := if stackI x y = 0 then ((stS x y x.length).1, ((stS x y x.length).2.length : Int), 0) else ([], 0, stackI x y)
theorem idxP_sat {α : Type} {p : α → Bool} {d : α} : ∀ {l : List α}, 0 ≤ idxP p l → p (l.getD (idxP p l).toNat d) = true
  | [], h => by simp [idxP] at h
  | a :: l, h => by
    by_cases ha : p a = true
    · simp [idxP, ha]
    · have ha' : p a = false := by simpa using ha
      by_cases c : idxP p l < 0
      · simp [idxP, ha', c] at h
      · have e : idxP p (a :: l) = idxP p l + 1 := by simp [idxP, ha', c]
        rw [e, show (idxP p l + 1).toNat = (idxP p l).toNat + 1 by omega]
        have := idxP_sat (p := p) (d := d) (l := l) (by omega)
        simpa using this
theorem where_inj {y : List Int} {a b : Int} (ha : a ∈ y) (h : whereI y a = whereI y b) : a = b := by
  have h1 := where_iff.2 ha
  have e1 := idxP_sat (p := fun z => decide (z = a)) (d := 0) (l := y) h1
  have e2 := idxP_sat (p := fun z => decide (z = b)) (d := 0) (l := y) (show 0 ≤ whereI y b by rw [← h]; exact h1)
  have e1 : y.getD (whereI y a).toNat 0 = a := of_decide_eq_true e1
  have e2 : y.getD (whereI y b).toNat 0 = b := of_decide_eq_true e2
  rw [← e1, ← e2, h]
structure StackOk (x y : List Int) : Prop where
  few : x.length ≤ 10
  once : x.Nodup
  mem : ∀ a ∈ x, a ∈ y
theorem stackOk {x y : List Int} (h : stackI x y = 0) : StackOk x y := by
  unfold stackI at h
  by_cases c : 10 < x.length
  · rw [if_pos c] at h; simp at h
  · rw [if_neg c] at h
    by_cases d : (eachB x && decide (sortI x = sortI y)) = true
    · rw [Bool.and_eq_true, each_iff, decide_eq_true_eq, both_iff] at d
      exact ⟨by omega, d.1, d.2.2.2⟩
    · rw [if_neg d] at h; simp at h
theorem top_mem {x y : List Int} : ∀ i : Nat, i ≤ x.length → ∀ t ∈ (stS x y i).2, ∃ j : Nat, j < i ∧ t = whereI y (x.getD j 0)
  | 0, _, t, h => by simp [stS] at h
  | i + 1, hi, t, h => by
    rw [stS_succ (by omega)] at h
    unfold putS at h
    have own : t = whereI y (x.getD i 0) → ∃ j : Nat, j < i + 1 ∧ t = whereI y (x.getD j 0) := fun e => ⟨i, by omega, e⟩
    have old : t ∈ (stS x y i).2 → ∃ j : Nat, j < i + 1 ∧ t = whereI y (x.getD j 0) := fun e => by
      obtain ⟨j, hj, e⟩ := top_mem i (by omega) t e
      exact ⟨j, by omega, e⟩
    split at h
    · rcases List.mem_append.1 h with q | q
      · exact old q
      · exact own (by simpa using q)
    · rcases List.mem_or_eq_of_mem_set h with q | q
      · exact old q
      · exact own q
theorem top_ne {x y : List Int} (k : StackOk x y) {i a : Nat} (hi : i < x.length) (ha : a < (stS x y i).2.length) : (stS x y i).2.getD a 0 ≠ whereI y (x.getD i 0) := by
  intro e
  rw [show (stS x y i).2.getD a 0 = (stS x y i).2[a] by simp [List.getD_eq_getElem?_getD, ha]] at e
  obtain ⟨j, hj, e2⟩ := top_mem i (by omega) _ (List.getElem_mem ha)
  rw [e] at e2
  have g : ∀ m (hm : m < x.length), x.getD m 0 = x[m] := fun m hm => by simp [List.getD_eq_getElem?_getD, hm]
  have hm : x.getD i 0 ∈ y := by rw [g i hi]; exact k.mem _ (List.getElem_mem _)
  have := where_inj hm e2
  rw [g i hi, g j (by omega)] at this
  exact List.pairwise_iff_getElem.1 k.once j i (by omega) hi hj this.symm
theorem put_app {y : List Int} {st : List Int × List Int} {n : Int} (h : ∀ j : Nat, j < st.2.length → st.2.getD j 0 < whereI y n) : putS y st n = (st.1 ++ [(st.2.length : Int)], st.2 ++ [whereI y n]) := by
  have e := idxP_none (p := fun t => decide (whereI y n < t)) (d := 0) (l := st.2) fun j hj => decide_eq_false (by have := h j hj; omega)
  rw [putS, ← e]; rfl
theorem put_set {y : List Int} {st : List Int × List Int} {n : Int} {a : Nat} (ha : a < st.2.length) (hb : whereI y n < st.2.getD a 0) (h : ∀ j : Nat, j < a → st.2.getD j 0 < whereI y n) : putS y st n = (st.1 ++ [(a : Int)], st.2.set a (whereI y n)) := by
  have e := idxP_found (p := fun t => decide (whereI y n < t)) (d := 0) (l := st.2) ha (decide_eq_true hb) fun j hj => decide_eq_false (by have := h j hj; omega)
  rw [putS, ← e, if_neg (by omega), Int.toNat_natCast]
theorem set_snoc {l : List Int} {a b : Int} : (l ++ [a]).set l.length b = l ++ [b] := by simp
noncomputable abbrev fewSI (x y : List Int) (n : Nat) (σ : List Slot) : Option LoopInv := match n with
  | 6 => some ⟨hvAt Try.f22 6, Nat, fun i => [(8, .own (.slice 2 iT) (stS x y i).1), (9, .own (.slice 3 iT) (stS x y i).2), (24, .val (.dat iT (i : Int)))], fun i => i ≤ x.length, fun i => x.length - i⟩
  | _ => none
theorem implFewS_ev (x y : List Int) (hx : x.length ≤ 1048576) (hy : y.length ≤ 1048576) : Ev Try.prog 22 [aIs x, aIs y] (compsOf [oIs, rI, rI] (fewS x y)) := by
  refine ev_of (l := [oIs, rI, rI]) (r := (fewS x y)) (types (resT) [] (fewSI x y)) follows Try.func22 (by kernel_rfl) (by rw [Try.ntmps22]; exact Nat.le_of_ble_eq_true rfl) ?_
  have key : ((x.length ≤ 9223372036854775807 ∧ ∀ (x_1 : Int), List.Mem x_1 x → inR IntKind.i64 x_1) → (y.length ≤ 9223372036854775807 ∧ ∀ (x : Int), List.Mem x y → inR IntKind.i64 x) → ∃ (r : Int), Ev Try.prog 32
      [Arg.imm (D.dat (Ty.slice 2 (Ty.int IntKind.i64)) x), Arg.imm (D.dat (Ty.slice 2 (Ty.int IntKind.i64)) y)] (compsOf [(false, Ty.int IntKind.i64)] r) ∧ (inR IntKind.i64 r → split (!decide (r = 0)) ([]
      = (fewS x y).fst ∧ 0 = (fewS x y).snd.fst ∧ r = (fewS x y).snd.snd) (((x.length : Nat) : Int) ≤ 9223372036854775807 → (∃ (x0 : Nat), (Slot.own (Ty.slice 2 (Ty.int IntKind.i64)) [] = Slot.own
      (Ty.slice 2 iT) (stS x y x0).fst ∧ Slot.own (Ty.slice 3 (Ty.int IntKind.i64)) [] = Slot.own (Ty.slice 3 iT) (stS x y x0).snd ∧ Slot.val (D.dat (Ty.int IntKind.i64) 0) = Slot.val (D.dat iT ((x0 : Nat)
      : Int))) ∧ x0 ≤ x.length) ∧ ∀ (x_1 : Nat), x_1 ≤ x.length → ((stS x y x_1).fst.length ≤ 9223372036854775807 ∧ ∀ (x_2 : Int), List.Mem x_2 (stS x y x_1).fst → inR IntKind.i64 x_2) → ((stS x y
      x_1).snd.length ≤ 9223372036854775807 ∧ ∀ (x_2 : Int), List.Mem x_2 (stS x y x_1).snd → inR IntKind.i64 x_2) → inR IntKind.i64 ((x_1 : Nat) : Int) → split (decide (((x_1 : Nat) : Int) < ((x.length :
      Nat) : Int))) ((0 ≤ ((x_1 : Nat) : Int) ∧ ((x_1 : Nat) : Int) < ((x.length : Nat) : Int)) ∧ (inR IntKind.i64 (x.getD (((x_1 : Nat) : Int)).toNat 0) → ∃ (r : Int), Ev Try.prog 36 [Arg.imm (D.dat
      (Ty.slice 2 (Ty.int IntKind.i64)) y), Arg.imm (D.dat (Ty.int IntKind.i64) (x.getD (((x_1 : Nat) : Int)).toNat 0))] (compsOf [(false, Ty.int IntKind.i64)] r) ∧ (inR IntKind.i64 r → ∃ (r_1 : Int), Ev
      Try.prog 40 [Arg.imm (D.dat (Ty.slice 3 iT) (stS x y x_1).snd), Arg.imm (D.clo 41 ((D.dat (Ty.int IntKind.i64) r).ref.cn D.nl))] (compsOf [(false, Ty.int IntKind.i64)] r_1) ∧ (inR IntKind.i64 r_1 →
      split (decide (r_1 < 0)) ((((stS x y x_1).snd.length : Nat) : Int) ≤ 9223372036854775807 → inR IntKind.i64 r → (stS x y x_1).snd.length + [r].length ≤ 4294967296 ∧ (inR IntKind.i64 r → (0 ≤ (((stS x
      y x_1).snd.length : Nat) : Int) ∧ (((stS x y x_1).snd.length : Nat) : Int) < ((((stS x y x_1).snd ++ [r]).length : Nat) : Int)) ∧ (stS x y x_1).fst.length + [(((stS x y x_1).snd.length : Nat) :
      Int)].length ≤ 4294967296 ∧ (-9223372036854775808 ≤ ((x_1 : Nat) : Int) + 1 ∧ ((x_1 : Nat) : Int) + 1 ≤ 9223372036854775807) ∧ ∃ (x' : Nat), (Slot.own (Ty.slice 2 (Ty.int IntKind.i64)) ((stS x y
      x_1).fst ++ [(((stS x y x_1).snd.length : Nat) : Int)]) = Slot.own (Ty.slice 2 iT) (stS x y x').fst ∧ Slot.own (Ty.slice 3 (Ty.int IntKind.i64)) (((stS x y x_1).snd ++ [r]).set ((((stS x y
      x_1).snd.length : Nat) : Int)).toNat r) = Slot.own (Ty.slice 3 iT) (stS x y x').snd ∧ Slot.val (D.dat (Ty.int IntKind.i64) (((x_1 : Nat) : Int) + 1)) = Slot.val (D.dat iT ((x' : Nat) : Int))) ∧ x' ≤
      x.length ∧ x.length - x' < x.length - x_1)) (inR IntKind.i64 r → (0 ≤ r_1 ∧ r_1 < (((stS x y x_1).snd.length : Nat) : Int)) ∧ (stS x y x_1).fst.length + [r_1].length ≤ 4294967296 ∧
      (-9223372036854775808 ≤ ((x_1 : Nat) : Int) + 1 ∧ ((x_1 : Nat) : Int) + 1 ≤ 9223372036854775807) ∧ ∃ (x' : Nat), (Slot.own (Ty.slice 2 (Ty.int IntKind.i64)) ((stS x y x_1).fst ++ [r_1]) = Slot.own
      (Ty.slice 2 iT) (stS x y x').fst ∧ Slot.own (Ty.slice 3 iT) ((stS x y x_1).snd.set r_1.toNat r) = Slot.own (Ty.slice 3 iT) (stS x y x').snd ∧ Slot.val (D.dat (Ty.int IntKind.i64) (((x_1 : Nat) : Int)
      + 1)) = Slot.val (D.dat iT ((x' : Nat) : Int))) ∧ x' ≤ x.length ∧ x.length - x' < x.length - x_1))))) (∃ (r : Int), Ev Try.prog 42 [Arg.imm (D.dat (Ty.slice 3 iT) (stS x y x_1).snd)] (compsOf
      [(false, Ty.int IntKind.i64)] r) ∧ (inR IntKind.i64 r → (stS x y x_1).fst = (fewS x y).fst ∧ r = (fewS x y).snd.fst ∧ 0 = (fewS x y).snd.snd))))) := by
    intros
    refine ⟨_, stackCode_ev x y hx hy, fun _ => split_of (fun h => ?_) (fun h => ?_)⟩
    · have h : ¬ stackI x y = 0 := fun e => by simp [e] at h
      simp [fewS, h]
    have h : stackI x y = 0 := Decidable.byContradiction fun q => by simp [q] at h
    have k := stackOk h
    have hf := k.few
    refine fun _ => ⟨⟨0, ⟨rfl, rfl, rfl⟩, by omega⟩, fun i hi _ _ _ => split_of (fun h3 => ?_) (fun h3 => ?_)⟩
    · have h3 := of_decide_eq_true h3
      have hl := stS_len (x := x) (y := y) i hi
      have hs := stS_succ (x := x) (y := y) (i := i) (by omega)
      simp only [Int.toNat_natCast]
      refine ⟨by omega, fun _ => ⟨_, indexE_ev y _, fun _ => ⟨_, indexFuncJ_ev _ _ _ (fun t => decide (whereI y (x.getD i 0) < t)) (fun t _ => by rw [where_eq]; exact few1_ev t _), fun _ => ?_⟩⟩⟩
      rw [where_eq]
      refine split_of (fun h4 => ?_) (fun h4 => ?_)
      · have h4 := of_decide_eq_true h4
        intros
        refine ⟨by simp; omega, fun _ => ⟨(by simp; try omega), by simp; omega, by omega, i + 1, ⟨?_, ?_, rfl⟩, by omega, by omega⟩⟩
        · rw [hs, putS, if_pos h4]
        · rw [hs, putS, if_pos h4, set_snoc]
      · have h4 := of_decide_eq_false h4
        have hlt := idxP_lt (p := fun t => decide (whereI y (x.getD i 0) < t)) (l := (stS x y i).2)
        refine fun _ => ⟨by omega, by simp; omega, by omega, i + 1, ⟨?_, ?_, rfl⟩, by omega, by omega⟩
        · rw [hs, putS, if_neg h4]
        · rw [hs, putS, if_neg h4]
    · have h3 := of_decide_eq_false h3
      obtain rfl : i = x.length := by omega
      exact ⟨_, sizeJ_ev _, fun _ => by rw [fewS, if_pos h]; exact ⟨rfl, rfl, rfl⟩⟩
  refine @Eq.mpr _ _ (?_) key
  kernel_rfl
noncomputable abbrev fewSS (x y : List Int) (n : Nat) (σ : List Slot) : Option LoopInv := match n with
  | 7 => some ⟨hvAt Try.f21 7, Nat, fun i => [(8, .own (.slice 2 iT) (stS x y i).1), (9, .own (.slice 2 iT) (stS x y i).2), (10, .val (.dat iT (i : Int)))], fun i => i ≤ x.length, fun i => x.length - i⟩
  | 11 => some ⟨hvAt Try.f21 11, Nat, fun k => [(12, .val (.dat iT (k : Int)))], fun k => k ≤ (stS x y (iAt σ 10).toNat).2.length ∧ ∀ j : Nat, j < k → (stS x y (iAt σ 10).toNat).2.getD j 0 < whereI y (x.getD (iAt σ 10).toNat 0), fun k => (stS x y (iAt σ 10).toNat).2.length - k⟩
  | _ => none
theorem specFewS_ev (x y : List Int) : Ev Try.prog 21 [aIs x, aIs y] (compsOf [oIs, rI, rI] (fewS x y)) := by
  refine ev_of (l := [oIs, rI, rI]) (r := (fewS x y)) (types (resT) [] (fewSS x y)) follows Try.func21 (by kernel_rfl) (by rw [Try.ntmps21]; exact Nat.le_of_ble_eq_true rfl) ?_
  have key : ((x.length ≤ 9223372036854775807 ∧ ∀ (x_1 : Int), List.Mem x_1 x → inR IntKind.i64 x_1) → (y.length ≤ 9223372036854775807 ∧ ∀ (x : Int), List.Mem x y → inR IntKind.i64 x) → ∃ (r : Int), Ev Try.prog 29
      [Arg.imm (D.dat (Ty.slice 2 (Ty.int IntKind.i64)) x), Arg.imm (D.dat (Ty.slice 2 (Ty.int IntKind.i64)) y)] (compsOf [(false, Ty.int IntKind.i64)] r) ∧ (inR IntKind.i64 r → split (!decide (r = 0)) ([]
      = (fewS x y).fst ∧ 0 = (fewS x y).snd.fst ∧ r = (fewS x y).snd.snd) ((∃ (x0 : Nat), (Slot.own (Ty.slice 2 (Ty.int IntKind.i64)) [] = Slot.own (Ty.slice 2 iT) (stS x y x0).fst ∧ Slot.own (Ty.slice 2
      (Ty.int IntKind.i64)) [] = Slot.own (Ty.slice 2 iT) (stS x y x0).snd ∧ Slot.val (D.dat (Ty.int IntKind.i64) 0) = Slot.val (D.dat iT ((x0 : Nat) : Int))) ∧ x0 ≤ x.length) ∧ ∀ (x_1 : Nat), x_1 ≤
      x.length → ((stS x y x_1).fst.length ≤ 9223372036854775807 ∧ ∀ (x_2 : Int), List.Mem x_2 (stS x y x_1).fst → inR IntKind.i64 x_2) → ((stS x y x_1).snd.length ≤ 9223372036854775807 ∧ ∀ (x_2 : Int),
      List.Mem x_2 (stS x y x_1).snd → inR IntKind.i64 x_2) → inR IntKind.i64 ((x_1 : Nat) : Int) → ((x.length : Nat) : Int) ≤ 9223372036854775807 → split (decide (((x_1 : Nat) : Int) < ((x.length : Nat) :
      Int))) ((0 ≤ ((x_1 : Nat) : Int) ∧ ((x_1 : Nat) : Int) < ((x.length : Nat) : Int)) ∧ (inR IntKind.i64 (x.getD (((x_1 : Nat) : Int)).toNat 0) → ∃ (r : Int), Ev Try.prog 31 [Arg.imm (D.dat (Ty.slice 2
      (Ty.int IntKind.i64)) y), Arg.imm (D.dat (Ty.int IntKind.i64) (x.getD (((x_1 : Nat) : Int)).toNat 0))] (compsOf [(false, Ty.int IntKind.i64)] r) ∧ (inR IntKind.i64 r → (∃ (x0 : Nat), Slot.val (D.dat
      (Ty.int IntKind.i64) 0) = Slot.val (D.dat iT ((x0 : Nat) : Int)) ∧ x0 ≤ (stS x y (((x_1 : Nat) : Int)).toNat).snd.length ∧ ∀ (j : Nat), j < x0 → (stS x y (((x_1 : Nat) : Int)).toNat).snd.getD j 0 <
      whereI y (x.getD (((x_1 : Nat) : Int)).toNat 0)) ∧ ∀ (x_2 : Nat), (x_2 ≤ (stS x y (((x_1 : Nat) : Int)).toNat).snd.length ∧ ∀ (j : Nat), j < x_2 → (stS x y (((x_1 : Nat) : Int)).toNat).snd.getD j 0 <
      whereI y (x.getD (((x_1 : Nat) : Int)).toNat 0)) → inR IntKind.i64 ((x_2 : Nat) : Int) → (((stS x y x_1).snd.length : Nat) : Int) ≤ 9223372036854775807 → split (decide (((x_2 : Nat) : Int) < (((stS x
      y x_1).snd.length : Nat) : Int))) ((0 ≤ ((x_2 : Nat) : Int) ∧ ((x_2 : Nat) : Int) < (((stS x y x_1).snd.length : Nat) : Int)) ∧ (inR IntKind.i64 ((stS x y x_1).snd.getD (((x_2 : Nat) : Int)).toNat 0)
      → split (decide ((stS x y x_1).snd.getD (((x_2 : Nat) : Int)).toNat 0 < r)) ((-9223372036854775808 ≤ ((x_2 : Nat) : Int) + 1 ∧ ((x_2 : Nat) : Int) + 1 ≤ 9223372036854775807) ∧ ∃ (x' : Nat), Slot.val
      (D.dat (Ty.int IntKind.i64) (((x_2 : Nat) : Int) + 1)) = Slot.val (D.dat iT ((x' : Nat) : Int)) ∧ (x' ≤ (stS x y (((x_1 : Nat) : Int)).toNat).snd.length ∧ ∀ (j : Nat), j < x' → (stS x y (((x_1 : Nat)
      : Int)).toNat).snd.getD j 0 < whereI y (x.getD (((x_1 : Nat) : Int)).toNat 0)) ∧ (stS x y (((x_1 : Nat) : Int)).toNat).snd.length - x' < (stS x y (((x_1 : Nat) : Int)).toNat).snd.length - x_2)
      ((((stS x y x_1).snd.length : Nat) : Int) ≤ 9223372036854775807 → split (decide (((x_2 : Nat) : Int) = (((stS x y x_1).snd.length : Nat) : Int))) ((stS x y x_1).snd.length + [r].length ≤ 4294967296 ∧
      (0 ≤ ((x_2 : Nat) : Int) ∧ ((x_2 : Nat) : Int) < ((((stS x y x_1).snd ++ [r]).length : Nat) : Int)) ∧ (stS x y x_1).fst.length + [((x_2 : Nat) : Int)].length ≤ 4294967296 ∧ (-9223372036854775808 ≤
      ((x_1 : Nat) : Int) + 1 ∧ ((x_1 : Nat) : Int) + 1 ≤ 9223372036854775807) ∧ ∃ (x' : Nat), (Slot.own (Ty.slice 2 (Ty.int IntKind.i64)) ((stS x y x_1).fst ++ [((x_2 : Nat) : Int)]) = Slot.own (Ty.slice
      2 iT) (stS x y x').fst ∧ Slot.own (Ty.slice 2 (Ty.int IntKind.i64)) (((stS x y x_1).snd ++ [r]).set (((x_2 : Nat) : Int)).toNat r) = Slot.own (Ty.slice 2 iT) (stS x y x').snd ∧ Slot.val (D.dat
      (Ty.int IntKind.i64) (((x_1 : Nat) : Int) + 1)) = Slot.val (D.dat iT ((x' : Nat) : Int))) ∧ x' ≤ x.length ∧ x.length - x' < x.length - x_1) ((0 ≤ ((x_2 : Nat) : Int) ∧ ((x_2 : Nat) : Int) < (((stS x
      y x_1).snd.length : Nat) : Int)) ∧ (stS x y x_1).fst.length + [((x_2 : Nat) : Int)].length ≤ 4294967296 ∧ (-9223372036854775808 ≤ ((x_1 : Nat) : Int) + 1 ∧ ((x_1 : Nat) : Int) + 1 ≤
      9223372036854775807) ∧ ∃ (x' : Nat), (Slot.own (Ty.slice 2 (Ty.int IntKind.i64)) ((stS x y x_1).fst ++ [((x_2 : Nat) : Int)]) = Slot.own (Ty.slice 2 iT) (stS x y x').fst ∧ Slot.own (Ty.slice 2 iT)
      ((stS x y x_1).snd.set (((x_2 : Nat) : Int)).toNat r) = Slot.own (Ty.slice 2 iT) (stS x y x').snd ∧ Slot.val (D.dat (Ty.int IntKind.i64) (((x_1 : Nat) : Int) + 1)) = Slot.val (D.dat iT ((x' : Nat) :
      Int))) ∧ x' ≤ x.length ∧ x.length - x' < x.length - x_1)))) ((((stS x y x_1).snd.length : Nat) : Int) ≤ 9223372036854775807 → split (decide (((x_2 : Nat) : Int) = (((stS x y x_1).snd.length : Nat) :
      Int))) ((stS x y x_1).snd.length + [r].length ≤ 4294967296 ∧ (0 ≤ ((x_2 : Nat) : Int) ∧ ((x_2 : Nat) : Int) < ((((stS x y x_1).snd ++ [r]).length : Nat) : Int)) ∧ (stS x y x_1).fst.length + [((x_2 :
      Nat) : Int)].length ≤ 4294967296 ∧ (-9223372036854775808 ≤ ((x_1 : Nat) : Int) + 1 ∧ ((x_1 : Nat) : Int) + 1 ≤ 9223372036854775807) ∧ ∃ (x' : Nat), (Slot.own (Ty.slice 2 (Ty.int IntKind.i64)) ((stS x
      y x_1).fst ++ [((x_2 : Nat) : Int)]) = Slot.own (Ty.slice 2 iT) (stS x y x').fst ∧ Slot.own (Ty.slice 2 (Ty.int IntKind.i64)) (((stS x y x_1).snd ++ [r]).set (((x_2 : Nat) : Int)).toNat r) = Slot.own
      (Ty.slice 2 iT) (stS x y x').snd ∧ Slot.val (D.dat (Ty.int IntKind.i64) (((x_1 : Nat) : Int) + 1)) = Slot.val (D.dat iT ((x' : Nat) : Int))) ∧ x' ≤ x.length ∧ x.length - x' < x.length - x_1) ((0 ≤
      ((x_2 : Nat) : Int) ∧ ((x_2 : Nat) : Int) < (((stS x y x_1).snd.length : Nat) : Int)) ∧ (stS x y x_1).fst.length + [((x_2 : Nat) : Int)].length ≤ 4294967296 ∧ (-9223372036854775808 ≤ ((x_1 : Nat) :
      Int) + 1 ∧ ((x_1 : Nat) : Int) + 1 ≤ 9223372036854775807) ∧ ∃ (x' : Nat), (Slot.own (Ty.slice 2 (Ty.int IntKind.i64)) ((stS x y x_1).fst ++ [((x_2 : Nat) : Int)]) = Slot.own (Ty.slice 2 iT) (stS x y
      x').fst ∧ Slot.own (Ty.slice 2 iT) ((stS x y x_1).snd.set (((x_2 : Nat) : Int)).toNat r) = Slot.own (Ty.slice 2 iT) (stS x y x').snd ∧ Slot.val (D.dat (Ty.int IntKind.i64) (((x_1 : Nat) : Int) + 1))
      = Slot.val (D.dat iT ((x' : Nat) : Int))) ∧ x' ≤ x.length ∧ x.length - x' < x.length - x_1))))) ((((stS x y x_1).snd.length : Nat) : Int) ≤ 9223372036854775807 → (stS x y x_1).fst = (fewS x y).fst ∧
      (((stS x y x_1).snd.length : Nat) : Int) = (fewS x y).snd.fst ∧ 0 = (fewS x y).snd.snd)))) := by
    intros
    refine ⟨_, l05Both_ev x y, fun _ => split_of (fun h => ?_) (fun h => ?_)⟩
    · have h : ¬ stackI x y = 0 := fun e => by simp [e] at h
      simp [fewS, h]
    have h : stackI x y = 0 := Decidable.byContradiction fun q => by simp [q] at h
    have k := stackOk h
    have hf := k.few
    refine ⟨⟨0, ⟨rfl, rfl, rfl⟩, by omega⟩, fun i hi _ _ _ _ => split_of (fun h3 => ?_) (fun h3 => ?_)⟩
    · have h3 := of_decide_eq_true h3
      have hl := stS_len (x := x) (y := y) i hi
      have hs := stS_succ (x := x) (y := y) (i := i) (by omega)
      simp only [Int.toNat_natCast]
      refine ⟨by omega, fun _ => ⟨_, l05Where_ev y _, fun _ => ⟨⟨0, rfl, by omega, fun j hj => absurd hj (Nat.not_lt_zero _)⟩, fun a ⟨ha, hb⟩ _ _ => split_of (fun h4 => ?_) (fun h4 => ?_)⟩⟩⟩
      · have h4 := of_decide_eq_true h4
        refine ⟨by omega, fun _ => split_of (fun h5 => ⟨by omega, a + 1, rfl, ⟨by omega, upto_step hb (of_decide_eq_true h5)⟩, by omega⟩) (fun h5 => fun _ => split_of (fun h6 => absurd (of_decide_eq_true h6) (by omega)) (fun h6 => ?_))⟩
        have h5 := of_decide_eq_false h5
        have hne := top_ne k (show i < x.length by omega) (show a < (stS x y i).2.length by omega)
        have hp := put_set (y := y) (st := stS x y i) (n := x.getD i 0) (show a < (stS x y i).2.length by omega) (by omega) hb
        refine ⟨by omega, by simp; omega, by omega, i + 1, ⟨?_, ?_, rfl⟩, by omega, by omega⟩
        · rw [hs, hp]
        · rw [hs, hp]
      · have h4 := of_decide_eq_false h4
        obtain rfl : a = (stS x y i).2.length := by omega
        refine fun _ => split_of (fun h6 => ?_) (fun h6 => absurd rfl (of_decide_eq_false h6))
        have hp := put_app (y := y) (st := stS x y i) (n := x.getD i 0) hb
        refine ⟨by simp; omega, (by simp; try omega), by simp; omega, by omega, i + 1, ⟨?_, ?_, rfl⟩, by omega, by omega⟩
        · rw [hs, hp]
        · rw [hs, hp, set_snoc]
    · have h3 := of_decide_eq_false h3
      obtain rfl : i = x.length := by omega
      exact fun _ => by rw [fewS, if_pos h]; exact ⟨rfl, rfl, rfl⟩
  refine @Eq.mpr _ _ (?_) key
  kernel_rfl
end Go.Proofs.Ytjicolekkojonaa
