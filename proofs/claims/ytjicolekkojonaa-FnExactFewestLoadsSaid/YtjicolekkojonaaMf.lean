/- Loads: the fewest ones. No statement is proved here. -/
import Derived.Test.YtjicolekkojonaaMe
namespace Go.Proofs.Ytjicolekkojonaa
open Go.RowKit
set_option linter.unusedVariables false
set_option linter.unusedSimpArgs false
set_option maxRecDepth 100000
set_option maxHeartbeats 4000000
def fits (ws : List Int) (h : Int) (n : Nat) : Bool := (fit h n ws [] []).isSome
def fewN (ws : List Int) (h : Int) : Nat := ((List.range (ws.length + 1)).find? (fits ws h)).getD 0
theorem fewN_eq {ws : List Int} {h : Int} {i : Nat} (hi : i ≤ ws.length) (hn : ∀ j : Nat, j < i → fits ws h j = false) (hf : fits ws h i = true) : fewN ws h = i := by
  have : (List.range (ws.length + 1)).find? (fits ws h) = some i := by
    rw [List.find?_range_eq_some]
    exact ⟨hf, List.mem_range.2 (by omega), fun j hj => by rw [hn j hj]; rfl⟩
  rw [fewN, this]; rfl
theorem fit_all {h : Int} {most : Nat} : ∀ {r s b : List Int}, s.length + r.length ≤ most → (∀ x ∈ r, x ≤ h) → (fit h most r s b).isSome = true
  | [], s, b, _, _ => rfl
  | n :: r, s, b, hl, hn => by
    rw [List.length_cons] at hl
    have hl' : s.length < min (s.length + 1) most := by omega
    have hb : bump s s.length n = s ++ [n] := by simp [bump]
    have ih := fit_all (h := h) (most := most) (r := r) (s := bump s s.length n) (b := b ++ [(s.length : Int)]) (by rw [hb, List.length_append]; simp; omega) (fun x hx => hn x (List.mem_cons_of_mem _ hx))
    rw [fit, List.findSome?_isSome_iff]
    refine ⟨s.length, List.mem_range.2 hl', ?_⟩
    have hnn := hn n (List.mem_cons_self ..)
    rw [if_neg (by rw [hb]; simp [List.getD_eq_getElem?_getD]; omega)]
    exact ih
theorem fit_len {h : Int} {most : Nat} : ∀ {r s b o : List Int}, fit h most r s b = some o → o.length = b.length + r.length
  | [], s, b, o, e => by simp only [fit, Option.some.injEq] at e; rw [← e]; rfl
  | n :: r, s, b, o, e => by
    rw [fit] at e
    obtain ⟨k, _, hk⟩ := List.exists_of_findSome?_eq_some e
    split at hk
    · cases hk
    · rw [fit_len hk]; simp; omega
def fewV (l : List Sl) (h : Int) : List Int × Int × Int := if loadsC l h = 0 then ((fit h (fewN (wts l) h) (wts l) [] []).getD [], (fewN (wts l) h : Int), 0) else ([], 0, loadsC l h)
structure LoadOk (l : List Sl) (h : Int) : Prop where
  hh : 1 ≤ h ∧ h ≤ 600
  few : l.length ≤ 10
  all : ∀ x ∈ wts l, 0 ≤ x ∧ x ≤ h
theorem loadOk {l : List Sl} {h : Int} (e : loadsC l h = 0) : LoadOk l h := by
  have c0 : code0 l h = 0 := by
    unfold loadsC partC at e
    by_cases q : code0 l h = 0
    · exact q
    · rw [if_neg q] at e; exact absurd e q
  unfold loadsC partC at e
  rw [if_pos c0] at e
  have ha : (wts l).any (fun n => decide (h < n)) = false := by
    cases q : (wts l).any (fun n => decide (h < n)) with
    | false => rfl
    | true => rw [q] at e; simp at e
  unfold code0 at c0
  have hc : heavyC l = 0 := by
    by_cases q : heavyC l = 0
    · exact q
    · rw [if_pos q] at c0; exact c0
  rw [if_neg (by simp [hc])] at c0
  have hr : inB h 1 600 = true := by
    cases q : inB h 1 600 with
    | true => rfl
    | false => rw [q] at c0; simp at c0
  unfold heavyC at hc
  have h0 : any0 l = false := by
    cases q : any0 l with
    | false => rfl
    | true => rw [q] at hc; simp at hc
  rw [if_neg (by simp [h0])] at hc
  refine ⟨by simpa [inB] using hr, ?_, fun x hx => ⟨?_, ?_⟩⟩
  · by_cases q : l.length ≤ 10
    · exact q
    · rw [if_neg q] at hc; simp at hc
  · obtain ⟨s, hs, rfl⟩ := List.mem_map.1 hx
    unfold weightV
    split
    · rename_i q
      rw [Bool.and_eq_true, edge_iff, edge_iff] at q
      have := Int.mul_nonneg (show 0 ≤ s.2.2.1 by omega) (show 0 ≤ s.2.2.2 by omega)
      unfold areaV; omega
    · omega
  · rw [List.any_eq_false] at ha
    have := ha x hx
    simp only [decide_eq_true_eq] at this
    omega
theorem few_yes {l : List Sl} {h : Int} {i : Nat} {o : List Int} (e : loadsC l h = 0) (hi : i ≤ l.length) (hn : ∀ j : Nat, j < i → fits (wts l) h j = false) (q : fit h i (wts l) [] [] = some o) : o = (fewV l h).1 ∧ (i : Int) = (fewV l h).2.1 ∧ 0 = (fewV l h).2.2 := by
  have := fewN_eq (h := h) (by simp only [wts, List.length_map]; omega) hn (by simp [fits, q])
  unfold fewV
  rw [if_pos e, this, q]
  exact ⟨rfl, rfl, rfl⟩
theorem few_no {l : List Sl} {h : Int} {i : Nat} (k : LoadOk l h) (hi : i ≤ l.length) (q : fit h i (wts l) [] [] = none) : i < l.length := by
  rcases Nat.lt_or_ge i l.length with c | c
  · exact c
  · have := fit_all (h := h) (most := i) (r := wts l) (s := []) (b := []) (by simp only [wts, List.length_map, List.length_nil]; omega) fun x hx => (k.all x hx).2
    rw [q] at this; cases this
theorem few_f {l : List Sl} {h : Int} {i : Nat} (q : fit h i (wts l) [] [] = none) : fits (wts l) h i = false := by simp [fits, q]
theorem left_nil {h : Int} {n : Nat} : leftV h n [] = row (fun _ => h) n := by
  unfold leftV
  congr 1
  funext j
  simp
noncomputable abbrev fewInv (l : List Sl) (h : Int) (n : Nat) (σ : List Slot) : Option LoopInv := match n with
  | 6 => some ⟨hvAt Try.f10 6, Nat, fun i => [(9, .val (.dat iT (i : Int)))], fun i => i ≤ l.length ∧ ∀ j : Nat, j < i → fits (wts l) h j = false, fun i => l.length - i⟩
  | _ => none
theorem implFewest_ev (l : List Sl) (h : Int) (hl : l.length ≤ 1048576) : Ev Try.prog 10 [aSs l, aI h] (compsOf [oIs, rI, rI] (fewV l h)) := by
  refine ev_of (l := [oIs, rI, rI]) (r := (fewV l h)) (types (resT) [] (fewInv l h)) follows Try.func10 (by kernel_rfl) (by rw [Try.ntmps10]; exact Nat.le_of_ble_eq_true rfl) ?_
  have key : ((l.length ≤ 9223372036854775807 ∧ ∀ (x : Int × Int × Int × Int), List.Mem x l → inR IntKind.i8 x.fst ∧ inR IntKind.i8 x.snd.fst ∧ inR IntKind.i8 x.snd.snd.fst ∧ inR IntKind.i8 x.snd.snd.snd) → inR
      IntKind.i64 h → ∃ (r : List Int × Int), Ev Try.prog 26 [Arg.imm (D.dat (Ty.slice 46 slabT) l), Arg.imm (D.dat (Ty.int IntKind.i64) h)] (compsOf [(true, Ty.slice 2 (Ty.int IntKind.i64)), (false,
      Ty.int IntKind.i64)] r) ∧ ((r.fst.length ≤ 9223372036854775807 ∧ ∀ (x : Int), List.Mem x r.fst → inR IntKind.i64 x) → inR IntKind.i64 r.snd → split (!decide (r.snd = 0)) ([] = (fewV l h).fst ∧ 0 =
      (fewV l h).snd.fst ∧ r.snd = (fewV l h).snd.snd) ((∃ (x0 : Nat), Slot.val (D.dat (Ty.int IntKind.i64) 0) = Slot.val (D.dat iT ((x0 : Nat) : Int)) ∧ x0 ≤ l.length ∧ ∀ (j : Nat), j < x0 → fits (wts l)
      h j = false) ∧ ∀ (x : Nat), (x ≤ l.length ∧ ∀ (j : Nat), j < x → fits (wts l) h j = false) → inR IntKind.i64 ((x : Nat) : Int) → ∃ (r_1 : List Int × Bool), Ev Try.prog 27 [Arg.imm (D.dat (Ty.slice 2
      (Ty.int IntKind.i64)) r.fst), Arg.imm (D.dat (Ty.int IntKind.i64) h), Arg.imm (D.dat iT ((x : Nat) : Int)), Arg.own (Ty.slice 2 (Ty.int IntKind.i64)) [], Arg.imm (D.dat (Ty.slice 2 (Ty.int
      IntKind.i64)) [])] (compsOf [(true, Ty.slice 2 (Ty.int IntKind.i64)), (false, Ty.bool)] r_1) ∧ ((r_1.fst.length ≤ 9223372036854775807 ∧ ∀ (x : Int), List.Mem x r_1.fst → inR IntKind.i64 x) → split
      r_1.snd (r_1.fst = (fewV l h).fst ∧ ((x : Nat) : Int) = (fewV l h).snd.fst ∧ 0 = (fewV l h).snd.snd) ((-9223372036854775808 ≤ ((x : Nat) : Int) + 1 ∧ ((x : Nat) : Int) + 1 ≤ 9223372036854775807) ∧ ∃
      (x' : Nat), Slot.val (D.dat (Ty.int IntKind.i64) (((x : Nat) : Int) + 1)) = Slot.val (D.dat iT ((x' : Nat) : Int)) ∧ (x' ≤ l.length ∧ ∀ (j : Nat), j < x' → fits (wts l) h j = false) ∧ l.length - x' <
      l.length - x))))) := by
    intros
    refine ⟨_, loadWeights_ev l h hl, fun _ _ => split_of (fun e => ?_) (fun e => ?_)⟩
    · have e : loadsC l h ≠ 0 := fun q => by simp [loadWeightsV, q] at e
      simp [fewV, loadWeightsV, e]
    · have e : loadsC l h = 0 := Decidable.byContradiction fun q => by simp [loadWeightsV, q] at e
      have k := loadOk e
      have hw : (loadWeightsV l h).1 = wts l := by simp [loadWeightsV, e]
      have hlen : (wts l).length = l.length := by simp only [wts, List.length_map]
      have hf := k.few
      rw [hw]
      refine ⟨⟨0, rfl, by omega, fun j hj => absurd hj (Nat.not_lt_zero _)⟩, fun x ⟨hx, hn⟩ _ => ⟨_, load_ev (wts l) h x (by omega) k.all (by omega) _ [] [] rfl (by simp) ⟨k.hh, by simp, by simp⟩, fun _ => ?_⟩⟩
      rw [List.length_nil, List.drop_zero]
      cases q : fit h x (wts l) [] [] with
      | some o => exact split_of (fun _ => few_yes e hx hn q) (fun h => by simp [optV] at h)
      | none =>
        have := few_no k hx q
        exact split_of (fun h => by simp [optV] at h) (fun _ => ⟨by omega, x + 1, rfl, ⟨by omega, upto_step hn (few_f q)⟩, by omega⟩)
  refine @Eq.mpr _ _ (?_) key
  kernel_rfl
noncomputable abbrev fewSInv (l : List Sl) (h : Int) (n : Nat) (σ : List Slot) : Option LoopInv := match n with
  | 6 => some ⟨hvAt Try.f8 6, Nat, fun i => [(8, .val (.dat iT (i : Int)))], fun i => i ≤ l.length ∧ ∀ j : Nat, j < i → fits (wts l) h j = false, fun i => l.length - i⟩
  | 8 => some ⟨9 :: hvAt Try.f8 8, Nat, fun i => [(9, .own (.slice 2 iT) (row (fun _ => h) i ++ (List.replicate (iAt σ 8).toNat (0 : Int)).drop i)), (10, .val (.dat iT (i : Int)))], fun i => (i : Int) ≤ iAt σ 8, fun i => (iAt σ 8).toNat - i⟩
  | _ => none
theorem specFewest_ev (l : List Sl) (h : Int) : Ev Try.prog 8 [aSs l, aI h] (compsOf [oIs, rI, rI] (fewV l h)) := by
  refine ev_of (l := [oIs, rI, rI]) (r := (fewV l h)) (types (resT) [] (fewSInv l h)) follows Try.func8 (by kernel_rfl) (by rw [Try.ntmps8]; exact Nat.le_of_ble_eq_true rfl) ?_
  have key : ((l.length ≤ 9223372036854775807 ∧ ∀ (x : Int × Int × Int × Int), List.Mem x l → inR IntKind.i8 x.fst ∧ inR IntKind.i8 x.snd.fst ∧ inR IntKind.i8 x.snd.snd.fst ∧ inR IntKind.i8 x.snd.snd.snd) → inR
      IntKind.i64 h → ∃ (r : Int), Ev Try.prog 23 [Arg.imm (D.dat (Ty.slice 46 slabT) l), Arg.imm (D.dat (Ty.int IntKind.i64) h)] (compsOf [(false, Ty.int IntKind.i64)] r) ∧ (inR IntKind.i64 r → split
      (!decide (r = 0)) ([] = (fewV l h).fst ∧ 0 = (fewV l h).snd.fst ∧ r = (fewV l h).snd.snd) ((∃ (x0 : Nat), Slot.val (D.dat (Ty.int IntKind.i64) 0) = Slot.val (D.dat iT ((x0 : Nat) : Int)) ∧ x0 ≤
      l.length ∧ ∀ (j : Nat), j < x0 → fits (wts l) h j = false) ∧ ∀ (x : Nat), (x ≤ l.length ∧ ∀ (j : Nat), j < x → fits (wts l) h j = false) → inR IntKind.i64 ((x : Nat) : Int) → (0 ≤ ((x : Nat) : Int) ∧
      ((x : Nat) : Int) = ((x : Nat) : Int) ∧ ((x : Nat) : Int) ≤ 4294967296) ∧ (∃ (x0 : Nat), (Slot.own (Ty.slice 2 (Ty.int IntKind.i64)) (List.replicate (((x : Nat) : Int)).toNat 0) = Slot.own (Ty.slice
      2 iT) (row (fun (x : Nat) => h) x0 ++ List.drop x0 (List.replicate (((x : Nat) : Int)).toNat 0)) ∧ Slot.val (D.dat (Ty.int IntKind.i64) 0) = Slot.val (D.dat iT ((x0 : Nat) : Int))) ∧ ((x0 : Nat) :
      Int) ≤ ((x : Nat) : Int)) ∧ ∀ (x_1 : Nat), ((x_1 : Nat) : Int) ≤ ((x : Nat) : Int) → ((row (fun (x : Nat) => h) x_1 ++ List.drop x_1 (List.replicate (((x : Nat) : Int)).toNat 0)).length ≤
      9223372036854775807 ∧ ∀ (x_2 : Int), List.Mem x_2 (row (fun (x : Nat) => h) x_1 ++ List.drop x_1 (List.replicate (((x : Nat) : Int)).toNat 0)) → inR IntKind.i64 x_2) → inR IntKind.i64 ((x_1 : Nat) :
      Int) → split (decide (((x_1 : Nat) : Int) < ((x : Nat) : Int))) ((0 ≤ ((x_1 : Nat) : Int) ∧ ((x_1 : Nat) : Int) < (((row (fun (x : Nat) => h) x_1 ++ List.drop x_1 (List.replicate (((x : Nat) :
      Int)).toNat 0)).length : Nat) : Int)) ∧ (-9223372036854775808 ≤ ((x_1 : Nat) : Int) + 1 ∧ ((x_1 : Nat) : Int) + 1 ≤ 9223372036854775807) ∧ ∃ (x' : Nat), (Slot.own (Ty.slice 2 iT) ((row (fun (x : Nat)
      => h) x_1 ++ List.drop x_1 (List.replicate (((x : Nat) : Int)).toNat 0)).set (((x_1 : Nat) : Int)).toNat h) = Slot.own (Ty.slice 2 iT) (row (fun (x : Nat) => h) x' ++ List.drop x' (List.replicate
      (((x : Nat) : Int)).toNat 0)) ∧ Slot.val (D.dat (Ty.int IntKind.i64) (((x_1 : Nat) : Int) + 1)) = Slot.val (D.dat iT ((x' : Nat) : Int))) ∧ ((x' : Nat) : Int) ≤ ((x : Nat) : Int) ∧ (((x : Nat) :
      Int)).toNat - x' < (((x : Nat) : Int)).toNat - x_1) (∃ (r : List Int × Bool), Ev Try.prog 24 [Arg.imm (D.dat (Ty.slice 46 slabT) l), Arg.imm (D.dat (Ty.slice 2 iT) (row (fun (x : Nat) => h) x_1 ++
      List.drop x_1 (List.replicate (((x : Nat) : Int)).toNat 0))), Arg.own (Ty.slice 2 (Ty.int IntKind.i64)) [], Arg.imm (D.dat (Ty.int IntKind.i64) 0)] (compsOf [(true, Ty.slice 2 (Ty.int IntKind.i64)),
      (false, Ty.bool)] r) ∧ ((r.fst.length ≤ 9223372036854775807 ∧ ∀ (x : Int), List.Mem x r.fst → inR IntKind.i64 x) → split r.snd (r.fst = (fewV l h).fst ∧ ((x : Nat) : Int) = (fewV l h).snd.fst ∧ 0 =
      (fewV l h).snd.snd) ((-9223372036854775808 ≤ ((x : Nat) : Int) + 1 ∧ ((x : Nat) : Int) + 1 ≤ 9223372036854775807) ∧ ∃ (x' : Nat), Slot.val (D.dat (Ty.int IntKind.i64) (((x : Nat) : Int) + 1)) =
      Slot.val (D.dat iT ((x' : Nat) : Int)) ∧ (x' ≤ l.length ∧ ∀ (j : Nat), j < x' → fits (wts l) h j = false) ∧ l.length - x' < l.length - x)))))) := by
    intros
    refine ⟨_, l05Loads_ev l h, fun _ => split_of (fun e => ?_) (fun e => ?_)⟩
    · have e : loadsC l h ≠ 0 := fun q => by simp [q] at e
      simp [fewV, e]
    · have e : loadsC l h = 0 := Decidable.byContradiction fun q => by simp [q] at e
      have k := loadOk e
      have hf := k.few
      refine ⟨⟨0, rfl, by omega, fun j hj => absurd hj (Nat.not_lt_zero _)⟩, fun x ⟨hx, hn⟩ _ => ?_⟩
      rw [Int.toNat_natCast]
      refine ⟨by omega, ⟨0, ⟨rfl, rfl⟩, by omega⟩, fun i hi _ _ => split_of (fun h1 => ?_) (fun h1 => ?_)⟩
      · have h1 := of_decide_eq_true h1
        rw [row_part_len _ (by simp; omega), List.length_replicate]
        refine ⟨by omega, by omega, i + 1, ⟨?_, rfl⟩, by omega, by omega⟩
        rw [Int.toNat_natCast, row_set (fun _ => h) (l := List.replicate x (0 : Int)) (i := i) (z := h) (by simp; omega) rfl]
      · have h1 := of_decide_eq_false h1
        obtain rfl : i = x := by omega
        rw [List.drop_of_length_le (by simp), List.append_nil, ← left_nil]
        refine ⟨_, fit_ev l h i (by omega) k.all (by omega) _ [] [] rfl (by simp) ⟨k.hh, by simp, by simp⟩, fun _ => ?_⟩
        rw [List.length_nil, List.drop_zero]
        cases q : fit h i (wts l) [] [] with
        | some o => exact split_of (fun _ => few_yes e hx hn q) (fun h => by simp [optV] at h)
        | none =>
          have := few_no k hx q
          exact split_of (fun h => by simp [optV] at h) (fun _ => ⟨by omega, i + 1, rfl, ⟨by omega, upto_step hn (few_f q)⟩, by omega⟩)
  refine @Eq.mpr _ _ (?_) key
  kernel_rfl
end Go.Proofs.Ytjicolekkojonaa
