/- Stacks that are told are right. No statement is proved here. -/
import Derived.Test.YtjicolekkojonaaNc
namespace Go.Proofs.Ytjicolekkojonaa
open Go.RowKit
set_option linter.unusedVariables false
set_option linter.unusedSimpArgs false
set_option maxRecDepth 100000
set_option maxHeartbeats 4000000
theorem indexFunc0_ev (l : List Int) (f : Nat) (p : Int → Bool) (hp : ∀ x ∈ l, Ev Try.prog f [aI x] (compsOf [rB] (p x))) : Ev Try.prog 55 [aIs l, .imm (.clo f .nl)] (compsOf [rI] (idxP p l)) := by
  refine ev_of (l := [rI]) (r := (idxP p l)) (types (fun _ => some [rB]) [] (idxIInv l p)) follows Try.func55 (by kernel_rfl) (by rw [Try.ntmps55]; exact Nat.le_of_ble_eq_true rfl) ?_
  have key : ((l.length ≤ 9223372036854775807 ∧ ∀ (x : Int), List.Mem x l → inR IntKind.i64 x) → ((l.length : Nat) : Int) ≤ 9223372036854775807 → (∃ (x0 : Nat), Slot.val (D.dat (Ty.int IntKind.i64) 0) = Slot.val
      (D.dat (Ty.int IntKind.i64) ((x0 : Nat) : Int)) ∧ x0 ≤ l.length ∧ ∀ (j : Nat), j < x0 → p (l.getD j 0) = false) ∧ ∀ (x : Nat), (x ≤ l.length ∧ ∀ (j : Nat), j < x → p (l.getD j 0) = false) → inR
      IntKind.i64 ((x : Nat) : Int) → split (decide (((x : Nat) : Int) < ((l.length : Nat) : Int))) ((0 ≤ ((x : Nat) : Int) ∧ ((x : Nat) : Int) < ((l.length : Nat) : Int)) ∧ (inR IntKind.i64 (l.getD (((x :
      Nat) : Int)).toNat 0) → ∃ (r : Bool), Ev Try.prog f [Arg.imm (D.dat (Ty.int IntKind.i64) (l.getD (((x : Nat) : Int)).toNat 0))] (compsOf [(false, Ty.bool)] r) ∧ split r (((x : Nat) : Int) = idxP p l)
      ((-9223372036854775808 ≤ ((x : Nat) : Int) + 1 ∧ ((x : Nat) : Int) + 1 ≤ 9223372036854775807) ∧ ∃ (x' : Nat), Slot.val (D.dat (Ty.int IntKind.i64) (((x : Nat) : Int) + 1)) = Slot.val (D.dat (Ty.int
      IntKind.i64) ((x' : Nat) : Int)) ∧ (x' ≤ l.length ∧ ∀ (j : Nat), j < x' → p (l.getD j 0) = false) ∧ l.length - x' < l.length - x))) (-1 = idxP p l)) := by
    intro _ _
    refine ⟨⟨0, rfl, by omega, fun j hj => by omega⟩, fun i ⟨hi, hn⟩ _ => split_of (fun h => ?_) (fun h => ?_)⟩
    · have h := of_decide_eq_true h
      simp only [Int.toNat_natCast]
      have hm : l.getD i 0 ∈ l := by
        have : l.getD i 0 = l[i]'(by omega) := by simp [List.getD_eq_getElem?_getD, show i < l.length by omega]
        rw [this]; exact List.getElem_mem _
      exact ⟨by omega, fun _ => ⟨_, hp _ hm, split_of (fun h2 => idxP_found (by omega) h2 hn) (fun h2 => ⟨by omega, i + 1, rfl, ⟨by omega, upto_step hn h2⟩, by omega⟩)⟩⟩
    · have h := of_decide_eq_false h
      exact idxP_none fun j hj => hn j (by omega)
  refine @Eq.mpr _ _ (?_) key
  kernel_rfl
theorem containsFunc0_ev (l : List Int) (f : Nat) (p : Int → Bool) (hp : ∀ x ∈ l, Ev Try.prog f [aI x] (compsOf [rB] (p x))) : Ev Try.prog 33 [aIs l, .imm (.clo f .nl)] (compsOf [rB] (l.any p)) := by
  refine ev_of (l := [rB]) (r := (l.any p)) (types (resT) [] (fun _ _ => none)) follows Try.func33 (by kernel_rfl) (by rw [Try.ntmps33]; exact Nat.le_of_ble_eq_true rfl) ?_
  have key : ((l.length ≤ 9223372036854775807 ∧ ∀ (x : Int), List.Mem x l → inR IntKind.i64 x) → ∃ (r : Int), Ev Try.prog 55 [Arg.imm (D.dat (Ty.slice 2 (Ty.int IntKind.i64)) l), Arg.imm (D.clo f D.nl)] (compsOf
      [(false, Ty.int IntKind.i64)] r) ∧ (inR IntKind.i64 r → decide (0 ≤ r) = l.any p)) := by
    intros
    exact ⟨_, indexFunc0_ev l f p hp, fun _ => idxP_any⟩
  refine @Eq.mpr _ _ (?_) key
  kernel_rfl
theorem check1_ev (x : Int) : Ev Try.prog 34 [aI x] (compsOf [rB] (!(inB x 0 9))) := by
  refine ev_of (l := [rB]) (r := (!(inB x 0 9))) (types (resT) [] (fun _ _ => none)) follows Try.func34 (by kernel_rfl) (by rw [Try.ntmps34]; exact Nat.le_of_ble_eq_true rfl) ?_
  have key : (inR IntKind.i64 x → ∃ (r : Bool), Ev Try.prog 35 [Arg.imm (D.dat (Ty.int IntKind.i64) x), Arg.imm (D.dat (Ty.int IntKind.i64) 0), Arg.imm (D.dat (Ty.int IntKind.i64) 9)] (compsOf [(false, Ty.bool)]
      r) ∧ (!r) = !inB x 0 9) := by
    repeat' (first
      | (intro hh; try simp only [inR, loK, hiK] at hh)
      | exact trivial
      | (refine ⟨_, within_ev _ _ _, ?_⟩)
      | (refine And.intro ?_ ?_)
      | (refine split_of (fun hh => ?_) (fun hh => ?_)))
    all_goals (first | omega | rfl | (simp_all []; done) | (simp_all []; omega))
  refine @Eq.mpr _ _ (?_) key
  kernel_rfl
theorem where_eq (l : List Int) (x : Int) : idxP (fun y => decide (x = y)) l = whereI l x := by
  unfold whereI
  congr 1
  funext y
  exact decide_eq_decide.2 eq_comm
def badB (x y s : List Int) (k i : Nat) : Bool := decide (s.getD k 0 = s.getD i 0) && decide (whereI y (x.getD k 0) < whereI y (x.getD i 0))
structure GoodS (x y s : List Int) : Prop where
  len : s.length = x.length
  inn : ∀ i : Nat, i < s.length → inB (s.getD i 0) 0 9 = true
  ok : ∀ i : Nat, i < s.length → ∀ k : Nat, k < i → badB x y s k i = false
open Classical in
noncomputable def goodB (x y s : List Int) : Bool := decide (GoodS x y s)
theorem goodT {x y s : List Int} (h : GoodS x y s) : true = goodB x y s := by simp [goodB, h]
theorem goodF {x y s : List Int} (h : ¬ GoodS x y s) : false = goodB x y s := by simp [goodB, h]
noncomputable def checkV (x y s : List Int) : Bool × Int := if stackI x y = 0 then (goodB x y s, 0) else (false, stackI x y)
noncomputable abbrev checkInv (x y s : List Int) (n : Nat) (σ : List Slot) : Option LoopInv := match n with
  | 7 => some ⟨hvAt Try.f18 7, Nat, fun i => [(30, .val (.dat iT (i : Int)))], fun i => i ≤ x.length ∧ ∀ i' : Nat, i' < i → ∀ k : Nat, k < i' → badB x y s k i' = false, fun i => x.length - i⟩
  | 10 => some ⟨hvAt Try.f18 10, Nat, fun k => [(39, .val (.dat iT (k : Int)))], fun k => (k : Int) ≤ iAt σ 30 ∧ ∀ k' : Nat, k' < k → badB x y s k' (iAt σ 30).toNat = false, fun k => (iAt σ 30).toNat - k⟩
  | _ => none
theorem implCheck_ev (x y s : List Int) (hx : x.length ≤ 1048576) (hy : y.length ≤ 1048576) : Ev Try.prog 18 [aIs x, aIs y, aIs s] (compsOf [rB, rI] (checkV x y s)) := by
  refine ev_of (l := [rB, rI]) (r := (checkV x y s)) (types (resT) [] (checkInv x y s)) follows Try.func18 (by kernel_rfl) (by rw [Try.ntmps18]; exact Nat.le_of_ble_eq_true rfl) ?_
  have key : ((x.length ≤ 9223372036854775807 ∧ ∀ (x_1 : Int), List.Mem x_1 x → inR IntKind.i64 x_1) → (y.length ≤ 9223372036854775807 ∧ ∀ (x : Int), List.Mem x y → inR IntKind.i64 x) → (s.length ≤
      9223372036854775807 ∧ ∀ (x : Int), List.Mem x s → inR IntKind.i64 x) → ∃ (r : Int), Ev Try.prog 32 [Arg.imm (D.dat (Ty.slice 2 (Ty.int IntKind.i64)) x), Arg.imm (D.dat (Ty.slice 2 (Ty.int
      IntKind.i64)) y)] (compsOf [(false, Ty.int IntKind.i64)] r) ∧ (inR IntKind.i64 r → split (!decide (r = 0)) (false = (checkV x y s).fst ∧ r = (checkV x y s).snd) (((s.length : Nat) : Int) ≤
      9223372036854775807 → ((x.length : Nat) : Int) ≤ 9223372036854775807 → split (!!decide (((s.length : Nat) : Int) = ((x.length : Nat) : Int))) (∃ (r : Bool), Ev Try.prog 33 [Arg.imm (D.dat (Ty.slice 2
      (Ty.int IntKind.i64)) s), Arg.imm (D.clo 34 D.nl)] (compsOf [(false, Ty.bool)] r) ∧ split r (false = (checkV x y s).fst ∧ 0 = (checkV x y s).snd) (((x.length : Nat) : Int) ≤ 9223372036854775807 → (∃
      (x0 : Nat), Slot.val (D.dat (Ty.int IntKind.i64) 0) = Slot.val (D.dat iT ((x0 : Nat) : Int)) ∧ x0 ≤ x.length ∧ ∀ (i' : Nat), i' < x0 → ∀ (k : Nat), k < i' → badB x y s k i' = false) ∧ ∀ (x_1 : Nat),
      (x_1 ≤ x.length ∧ ∀ (i' : Nat), i' < x_1 → ∀ (k : Nat), k < i' → badB x y s k i' = false) → inR IntKind.i64 ((x_1 : Nat) : Int) → split (decide (((x_1 : Nat) : Int) < ((x.length : Nat) : Int))) ((0 ≤
      ((x_1 : Nat) : Int) ∧ ((x_1 : Nat) : Int) < ((x.length : Nat) : Int)) ∧ (inR IntKind.i64 (x.getD (((x_1 : Nat) : Int)).toNat 0) → ((0 : Int) ≤ 0 ∧ 0 ≤ ((x_1 : Nat) : Int) ∧ ((x_1 : Nat) : Int) ≤
      ((x.length : Nat) : Int)) ∧ ((((List.drop (Int.toNat 0) (List.take (((x_1 : Nat) : Int)).toNat x)).length : Nat) : Int) ≤ 9223372036854775807 → (∃ (x0 : Nat), Slot.val (D.dat (Ty.int IntKind.i64) 0)
      = Slot.val (D.dat iT ((x0 : Nat) : Int)) ∧ ((x0 : Nat) : Int) ≤ ((x_1 : Nat) : Int) ∧ ∀ (k' : Nat), k' < x0 → badB x y s k' (((x_1 : Nat) : Int)).toNat = false) ∧ ∀ (x_2 : Nat), (((x_2 : Nat) : Int)
      ≤ ((x_1 : Nat) : Int) ∧ ∀ (k' : Nat), k' < x_2 → badB x y s k' (((x_1 : Nat) : Int)).toNat = false) → inR IntKind.i64 ((x_2 : Nat) : Int) → split (decide (((x_2 : Nat) : Int) < (((List.drop
      (Int.toNat 0) (List.take (((x_1 : Nat) : Int)).toNat x)).length : Nat) : Int))) ((0 ≤ ((x_2 : Nat) : Int) ∧ ((x_2 : Nat) : Int) < (((List.drop (Int.toNat 0) (List.take (((x_1 : Nat) : Int)).toNat
      x)).length : Nat) : Int)) ∧ (inR IntKind.i64 ((List.drop (Int.toNat 0) (List.take (((x_1 : Nat) : Int)).toNat x)).getD (((x_2 : Nat) : Int)).toNat 0) → (0 ≤ ((x_2 : Nat) : Int) ∧ ((x_2 : Nat) : Int)
      < ((s.length : Nat) : Int)) ∧ (inR IntKind.i64 (s.getD (((x_2 : Nat) : Int)).toNat 0) → (0 ≤ ((x_1 : Nat) : Int) ∧ ((x_1 : Nat) : Int) < ((s.length : Nat) : Int)) ∧ (inR IntKind.i64 (s.getD (((x_1 :
      Nat) : Int)).toNat 0) → split (decide (s.getD (((x_2 : Nat) : Int)).toNat 0 = s.getD (((x_1 : Nat) : Int)).toNat 0)) (∃ (r : Int), Ev Try.prog 36 [Arg.imm (D.dat (Ty.slice 2 (Ty.int IntKind.i64)) y),
      Arg.imm (D.dat (Ty.int IntKind.i64) ((List.drop (Int.toNat 0) (List.take (((x_1 : Nat) : Int)).toNat x)).getD (((x_2 : Nat) : Int)).toNat 0))] (compsOf [(false, Ty.int IntKind.i64)] r) ∧ (inR
      IntKind.i64 r → ∃ (r_1 : Int), Ev Try.prog 36 [Arg.imm (D.dat (Ty.slice 2 (Ty.int IntKind.i64)) y), Arg.imm (D.dat (Ty.int IntKind.i64) (x.getD (((x_1 : Nat) : Int)).toNat 0))] (compsOf [(false,
      Ty.int IntKind.i64)] r_1) ∧ (inR IntKind.i64 r_1 → split (decide (r < r_1)) (false = (checkV x y s).fst ∧ 0 = (checkV x y s).snd) ((-9223372036854775808 ≤ ((x_2 : Nat) : Int) + 1 ∧ ((x_2 : Nat) :
      Int) + 1 ≤ 9223372036854775807) ∧ ∃ (x' : Nat), Slot.val (D.dat (Ty.int IntKind.i64) (((x_2 : Nat) : Int) + 1)) = Slot.val (D.dat iT ((x' : Nat) : Int)) ∧ (((x' : Nat) : Int) ≤ ((x_1 : Nat) : Int) ∧
      ∀ (k' : Nat), k' < x' → badB x y s k' (((x_1 : Nat) : Int)).toNat = false) ∧ (((x_1 : Nat) : Int)).toNat - x' < (((x_1 : Nat) : Int)).toNat - x_2)))) ((-9223372036854775808 ≤ ((x_2 : Nat) : Int) + 1
      ∧ ((x_2 : Nat) : Int) + 1 ≤ 9223372036854775807) ∧ ∃ (x' : Nat), Slot.val (D.dat (Ty.int IntKind.i64) (((x_2 : Nat) : Int) + 1)) = Slot.val (D.dat iT ((x' : Nat) : Int)) ∧ (((x' : Nat) : Int) ≤ ((x_1
      : Nat) : Int) ∧ ∀ (k' : Nat), k' < x' → badB x y s k' (((x_1 : Nat) : Int)).toNat = false) ∧ (((x_1 : Nat) : Int)).toNat - x' < (((x_1 : Nat) : Int)).toNat - x_2))))) ((-9223372036854775808 ≤ ((x_1 :
      Nat) : Int) + 1 ∧ ((x_1 : Nat) : Int) + 1 ≤ 9223372036854775807) ∧ ∃ (x' : Nat), Slot.val (D.dat (Ty.int IntKind.i64) (((x_1 : Nat) : Int) + 1)) = Slot.val (D.dat iT ((x' : Nat) : Int)) ∧ (x' ≤
      x.length ∧ ∀ (i' : Nat), i' < x' → ∀ (k : Nat), k < i' → badB x y s k i' = false) ∧ x.length - x' < x.length - x_1)))) (true = (checkV x y s).fst ∧ 0 = (checkV x y s).snd))) (false = (checkV x y
      s).fst ∧ 0 = (checkV x y s).snd)))) := by
    intros
    refine ⟨_, stackCode_ev x y hx hy, fun _ => split_of (fun h => ?_) (fun h => ?_)⟩
    · have h : ¬ stackI x y = 0 := fun e => by simp [e] at h
      simp [checkV, h]
    have h : stackI x y = 0 := Decidable.byContradiction fun q => by simp [q] at h
    have hv : checkV x y s = (goodB x y s, 0) := by rw [checkV, if_pos h]
    rw [hv]
    refine fun _ _ => split_of (fun h1 => ?_) (fun h1 => ⟨goodF fun g => ?_, (by first | rfl | trivial)⟩)
    rotate_left
    · have := g.len
      simp [this] at h1
    have hlen : s.length = x.length := by
      have : (s.length : Int) = x.length := Decidable.byContradiction fun q => by simp [q] at h1
      omega
    refine ⟨_, containsFunc0_ev s _ (fun n => !(inB n 0 9)) fun n _ => check1_ev n, split_of (fun h2 => ⟨goodF fun g => ?_, (by first | rfl | trivial)⟩) (fun h2 => ?_)⟩
    · obtain ⟨n, hn, hb⟩ := List.any_eq_true.1 h2
      obtain ⟨i, hi, rfl⟩ := List.getElem_of_mem hn
      have := g.inn i hi
      rw [show s.getD i 0 = s[i] by simp [List.getD_eq_getElem?_getD, hi]] at this
      simp [this] at hb
    have hin : ∀ i : Nat, i < s.length → inB (s.getD i 0) 0 9 = true := fun i hi => by
      have := List.any_eq_false.1 h2 s[i] (List.getElem_mem _)
      rw [show s.getD i 0 = s[i] by simp [List.getD_eq_getElem?_getD, hi]]
      simpa using this
    refine fun _ => ⟨⟨0, rfl, by omega, fun j hj => absurd hj (Nat.not_lt_zero _)⟩, fun i ⟨hi, hn⟩ _ => split_of (fun h3 => ?_) (fun h3 => ?_)⟩
    · have h3 := of_decide_eq_true h3
      have hil : i < x.length := by omega
      simp only [Int.toNat_natCast, Int.toNat_zero, List.drop_zero]
      have htl : (List.take i x).length = i := by rw [List.length_take]; omega
      rw [htl]
      refine ⟨by omega, fun _ => ⟨by omega, fun _ => ⟨⟨0, rfl, by omega, fun j hj => absurd hj (Nat.not_lt_zero _)⟩, fun k ⟨hk, hb⟩ _ => split_of (fun h4 => ?_) (fun h4 => ?_)⟩⟩⟩
      · have h4 := of_decide_eq_true h4
        have e : (List.take i x).getD k 0 = x.getD k 0 := by
          simp only [List.getD_eq_getElem?_getD]
          rw [List.getElem?_take_of_lt (by omega)]
        rw [e]
        refine ⟨by omega, fun _ => ⟨by omega, fun _ => ⟨by omega, fun _ => split_of (fun h5 => ?_) (fun h5 => ⟨by omega, k + 1, rfl, ⟨by omega, upto_step hb (by rw [badB, h5]; rfl)⟩, by omega⟩)⟩⟩⟩
        refine ⟨_, indexE_ev y _, fun _ => ⟨_, indexE_ev y _, fun _ => ?_⟩⟩
        rw [where_eq, where_eq]
        refine split_of (fun h6 => ⟨goodF fun g => ?_, (by first | rfl | trivial)⟩) (fun h6 => ⟨by omega, k + 1, rfl, ⟨by omega, upto_step hb (by rw [badB, h5, h6]; rfl)⟩, by omega⟩)
        have := g.ok i (by omega) k (by omega)
        rw [badB, h5, h6] at this; cases this
      · have h4 := of_decide_eq_false h4
        exact ⟨by omega, i + 1, rfl, ⟨by omega, upto_step hn fun k' hk' => hb k' (by omega)⟩, by omega⟩
    · have h3 := of_decide_eq_false h3
      exact ⟨goodT ⟨hlen, hin, fun i' hi' => hn i' (by omega)⟩, rfl⟩
  refine @Eq.mpr _ _ (?_) key
  kernel_rfl
noncomputable abbrev checkSInv (x y s : List Int) (n : Nat) (σ : List Slot) : Option LoopInv := match n with
  | 7 => some ⟨hvAt Try.f16 7, Nat, fun i => [(9, .val (.dat iT (i : Int)))], fun i => i ≤ s.length ∧ ∀ i' : Nat, i' < i → inB (s.getD i' 0) 0 9 = true ∧ ∀ k : Nat, k < i' → badB x y s k i' = false, fun i => s.length - i⟩
  | 12 => some ⟨hvAt Try.f16 12, Nat, fun k => [(10, .val (.dat iT (k : Int)))], fun k => (k : Int) ≤ iAt σ 9 ∧ ∀ k' : Nat, k' < k → badB x y s k' (iAt σ 9).toNat = false, fun k => (iAt σ 9).toNat - k⟩
  | _ => none
theorem specCheck_ev (x y s : List Int) : Ev Try.prog 16 [aIs x, aIs y, aIs s] (compsOf [rB, rI] (checkV x y s)) := by
  refine ev_of (l := [rB, rI]) (r := (checkV x y s)) (types (resT) [] (checkSInv x y s)) follows Try.func16 (by kernel_rfl) (by rw [Try.ntmps16]; exact Nat.le_of_ble_eq_true rfl) ?_
  have key : ((x.length ≤ 9223372036854775807 ∧ ∀ (x_1 : Int), List.Mem x_1 x → inR IntKind.i64 x_1) → (y.length ≤ 9223372036854775807 ∧ ∀ (x : Int), List.Mem x y → inR IntKind.i64 x) → (s.length ≤
      9223372036854775807 ∧ ∀ (x : Int), List.Mem x s → inR IntKind.i64 x) → ∃ (r : Int), Ev Try.prog 29 [Arg.imm (D.dat (Ty.slice 2 (Ty.int IntKind.i64)) x), Arg.imm (D.dat (Ty.slice 2 (Ty.int
      IntKind.i64)) y)] (compsOf [(false, Ty.int IntKind.i64)] r) ∧ (inR IntKind.i64 r → split (!decide (r = 0)) (false = (checkV x y s).fst ∧ r = (checkV x y s).snd) (((s.length : Nat) : Int) ≤
      9223372036854775807 → ((x.length : Nat) : Int) ≤ 9223372036854775807 → split (!decide (((s.length : Nat) : Int) = ((x.length : Nat) : Int))) (false = (checkV x y s).fst ∧ 0 = (checkV x y s).snd) ((∃
      (x0 : Nat), Slot.val (D.dat (Ty.int IntKind.i64) 0) = Slot.val (D.dat iT ((x0 : Nat) : Int)) ∧ x0 ≤ s.length ∧ ∀ (i' : Nat), i' < x0 → inB (s.getD i' 0) 0 9 = true ∧ ∀ (k : Nat), k < i' → badB x y s
      k i' = false) ∧ ∀ (x_1 : Nat), (x_1 ≤ s.length ∧ ∀ (i' : Nat), i' < x_1 → inB (s.getD i' 0) 0 9 = true ∧ ∀ (k : Nat), k < i' → badB x y s k i' = false) → inR IntKind.i64 ((x_1 : Nat) : Int) →
      ((s.length : Nat) : Int) ≤ 9223372036854775807 → split (decide (((x_1 : Nat) : Int) < ((s.length : Nat) : Int))) ((0 ≤ ((x_1 : Nat) : Int) ∧ ((x_1 : Nat) : Int) < ((s.length : Nat) : Int)) ∧ (inR
      IntKind.i64 (s.getD (((x_1 : Nat) : Int)).toNat 0) → ∃ (r : Bool), Ev Try.prog 30 [Arg.imm (D.dat (Ty.int IntKind.i64) (s.getD (((x_1 : Nat) : Int)).toNat 0)), Arg.imm (D.dat (Ty.int IntKind.i64) 0),
      Arg.imm (D.dat (Ty.int IntKind.i64) 9)] (compsOf [(false, Ty.bool)] r) ∧ split (!r) (false = (checkV x y s).fst ∧ 0 = (checkV x y s).snd) ((∃ (x0 : Nat), Slot.val (D.dat (Ty.int IntKind.i64) 0) =
      Slot.val (D.dat iT ((x0 : Nat) : Int)) ∧ ((x0 : Nat) : Int) ≤ ((x_1 : Nat) : Int) ∧ ∀ (k' : Nat), k' < x0 → badB x y s k' (((x_1 : Nat) : Int)).toNat = false) ∧ ∀ (x_2 : Nat), (((x_2 : Nat) : Int) ≤
      ((x_1 : Nat) : Int) ∧ ∀ (k' : Nat), k' < x_2 → badB x y s k' (((x_1 : Nat) : Int)).toNat = false) → inR IntKind.i64 ((x_2 : Nat) : Int) → split (decide (((x_2 : Nat) : Int) < ((x_1 : Nat) : Int)))
      ((0 ≤ ((x_2 : Nat) : Int) ∧ ((x_2 : Nat) : Int) < ((s.length : Nat) : Int)) ∧ (inR IntKind.i64 (s.getD (((x_2 : Nat) : Int)).toNat 0) → (0 ≤ ((x_1 : Nat) : Int) ∧ ((x_1 : Nat) : Int) < ((s.length :
      Nat) : Int)) ∧ (inR IntKind.i64 (s.getD (((x_1 : Nat) : Int)).toNat 0) → split (decide (s.getD (((x_2 : Nat) : Int)).toNat 0 = s.getD (((x_1 : Nat) : Int)).toNat 0)) ((0 ≤ ((x_2 : Nat) : Int) ∧ ((x_2
      : Nat) : Int) < ((x.length : Nat) : Int)) ∧ (inR IntKind.i64 (x.getD (((x_2 : Nat) : Int)).toNat 0) → ∃ (r : Int), Ev Try.prog 31 [Arg.imm (D.dat (Ty.slice 2 (Ty.int IntKind.i64)) y), Arg.imm (D.dat
      (Ty.int IntKind.i64) (x.getD (((x_2 : Nat) : Int)).toNat 0))] (compsOf [(false, Ty.int IntKind.i64)] r) ∧ (inR IntKind.i64 r → (0 ≤ ((x_1 : Nat) : Int) ∧ ((x_1 : Nat) : Int) < ((x.length : Nat) :
      Int)) ∧ (inR IntKind.i64 (x.getD (((x_1 : Nat) : Int)).toNat 0) → ∃ (r_1 : Int), Ev Try.prog 31 [Arg.imm (D.dat (Ty.slice 2 (Ty.int IntKind.i64)) y), Arg.imm (D.dat (Ty.int IntKind.i64) (x.getD
      (((x_1 : Nat) : Int)).toNat 0))] (compsOf [(false, Ty.int IntKind.i64)] r_1) ∧ (inR IntKind.i64 r_1 → split (decide (r < r_1)) (false = (checkV x y s).fst ∧ 0 = (checkV x y s).snd)
      ((-9223372036854775808 ≤ ((x_2 : Nat) : Int) + 1 ∧ ((x_2 : Nat) : Int) + 1 ≤ 9223372036854775807) ∧ ∃ (x' : Nat), Slot.val (D.dat (Ty.int IntKind.i64) (((x_2 : Nat) : Int) + 1)) = Slot.val (D.dat iT
      ((x' : Nat) : Int)) ∧ (((x' : Nat) : Int) ≤ ((x_1 : Nat) : Int) ∧ ∀ (k' : Nat), k' < x' → badB x y s k' (((x_1 : Nat) : Int)).toNat = false) ∧ (((x_1 : Nat) : Int)).toNat - x' < (((x_1 : Nat) :
      Int)).toNat - x_2)))))) ((-9223372036854775808 ≤ ((x_2 : Nat) : Int) + 1 ∧ ((x_2 : Nat) : Int) + 1 ≤ 9223372036854775807) ∧ ∃ (x' : Nat), Slot.val (D.dat (Ty.int IntKind.i64) (((x_2 : Nat) : Int) +
      1)) = Slot.val (D.dat iT ((x' : Nat) : Int)) ∧ (((x' : Nat) : Int) ≤ ((x_1 : Nat) : Int) ∧ ∀ (k' : Nat), k' < x' → badB x y s k' (((x_1 : Nat) : Int)).toNat = false) ∧ (((x_1 : Nat) : Int)).toNat -
      x' < (((x_1 : Nat) : Int)).toNat - x_2)))) ((-9223372036854775808 ≤ ((x_1 : Nat) : Int) + 1 ∧ ((x_1 : Nat) : Int) + 1 ≤ 9223372036854775807) ∧ ∃ (x' : Nat), Slot.val (D.dat (Ty.int IntKind.i64)
      (((x_1 : Nat) : Int) + 1)) = Slot.val (D.dat iT ((x' : Nat) : Int)) ∧ (x' ≤ s.length ∧ ∀ (i' : Nat), i' < x' → inB (s.getD i' 0) 0 9 = true ∧ ∀ (k : Nat), k < i' → badB x y s k i' = false) ∧ s.length
      - x' < s.length - x_1)))) (true = (checkV x y s).fst ∧ 0 = (checkV x y s).snd))))) := by
    intros
    refine ⟨_, l05Both_ev x y, fun _ => split_of (fun h => ?_) (fun h => ?_)⟩
    · have h : ¬ stackI x y = 0 := fun e => by simp [e] at h
      simp [checkV, h]
    have h : stackI x y = 0 := Decidable.byContradiction fun q => by simp [q] at h
    have hv : checkV x y s = (goodB x y s, 0) := by rw [checkV, if_pos h]
    rw [hv]
    refine fun _ _ => split_of (fun h1 => ⟨goodF fun g => ?_, (by first | rfl | trivial)⟩) (fun h1 => ?_)
    · have := g.len
      simp [this] at h1
    have hlen : s.length = x.length := by
      have : (s.length : Int) = x.length := Decidable.byContradiction fun q => by simp [q] at h1
      omega
    refine ⟨⟨0, rfl, by omega, fun j hj => absurd hj (Nat.not_lt_zero _)⟩, fun i ⟨hi, hn⟩ _ _ => split_of (fun h3 => ?_) (fun h3 => ?_)⟩
    · have h3 := of_decide_eq_true h3
      have hil : i < x.length := by omega
      simp only [Int.toNat_natCast]
      refine ⟨by omega, fun _ => ⟨_, l00In_ev _ _ _, split_of (fun h2 => ⟨goodF fun g => ?_, (by first | rfl | trivial)⟩) (fun h2 => ?_)⟩⟩
      · have := g.inn i (by omega)
        rw [this] at h2
        simp at h2
      refine ⟨⟨0, rfl, by omega, fun j hj => absurd hj (Nat.not_lt_zero _)⟩, fun k ⟨hk, hb⟩ _ => split_of (fun h4 => ?_) (fun h4 => ?_)⟩
      · have h4 := of_decide_eq_true h4
        refine ⟨by omega, fun _ => ⟨by omega, fun _ => split_of (fun h5 => ?_) (fun h5 => ⟨by omega, k + 1, rfl, ⟨by omega, upto_step hb (by rw [badB, h5]; rfl)⟩, by omega⟩)⟩⟩
        refine ⟨by omega, fun _ => ⟨_, l05Where_ev y _, fun _ => ⟨by omega, fun _ => ⟨_, l05Where_ev y _, fun _ => ?_⟩⟩⟩⟩
        refine split_of (fun h6 => ⟨goodF fun g => ?_, (by first | rfl | trivial)⟩) (fun h6 => ⟨by omega, k + 1, rfl, ⟨by omega, upto_step hb (by rw [badB, h5, h6]; rfl)⟩, by omega⟩)
        have := g.ok i (by omega) k (by omega)
        rw [badB, h5, h6] at this; cases this
      · have h4 := of_decide_eq_false h4
        exact ⟨by omega, i + 1, rfl, ⟨by omega, upto_step hn ⟨by simpa using h2, fun k' hk' => hb k' (by omega)⟩⟩, by omega⟩
    · have h3 := of_decide_eq_false h3
      exact ⟨goodT ⟨hlen, fun i' hi' => (hn i' (by omega)).1, fun i' hi' => (hn i' (by omega)).2⟩, rfl⟩
  refine @Eq.mpr _ _ (?_) key
  kernel_rfl
end Go.Proofs.Ytjicolekkojonaa
