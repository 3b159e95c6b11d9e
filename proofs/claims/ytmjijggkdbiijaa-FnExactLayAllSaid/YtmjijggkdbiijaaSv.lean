/- The law on levels some years later. No statement is proved here. -/
import Derived.Test.YtmjijggkdbiijaaSu
namespace Go.Proofs.Ytmjijggkdbiijaa
open Go.RowKit
set_option linter.unusedVariables false
set_option linter.unusedSimpArgs false
set_option maxRecDepth 100000
set_option maxHeartbeats 4000000
theorem heldSquare_ev (x y : Int) (m : Nat) (k : Int) (hl : m ≤ 16777216) (hk : 0 ≤ k ∧ k ≤ 1099511627776) : Ev Try.prog 53 [aQ (x, y, row (numS k) m), aI k] (compsOf [rI] (k + 4 * (m : Int))) := by
  refine ev_of (l := [rI]) (r := (k + 4 * (m : Int))) (types (resT) [] (fun _ _ => none)) follows Try.func53 (by kernel_rfl) (by rw [Try.ntmps53]; exact Nat.le_of_ble_eq_true rfl) ?_
  have key : (inR IntKind.i8 x → inR IntKind.i8 y → ((row (numS k) m).length ≤ 9223372036854775807 ∧ ∀ (x : Int × Int × Int × Int), List.Mem x (row (numS k) m) → inR IntKind.i8 x.fst ∧ inR IntKind.i8 x.snd.fst ∧
      inR IntKind.i8 x.snd.snd.fst ∧ inR IntKind.i8 x.snd.snd.snd) → inR IntKind.i64 k → ((row (numS k) m).length ≤ 9223372036854775807 ∧ ∀ (x : Int × Int × Int × Int), List.Mem x (row (numS k) m) → inR
      IntKind.i8 x.fst ∧ inR IntKind.i8 x.snd.fst ∧ inR IntKind.i8 x.snd.snd.fst ∧ inR IntKind.i8 x.snd.snd.snd) → ∃ (r : Int), Ev Try.prog 54 [Arg.imm (D.dat (Ty.slice 41 slabT) (row (numS k) m)), Arg.imm
      (D.dat (Ty.int IntKind.i64) k)] (compsOf [(false, Ty.int IntKind.i64)] r) ∧ (inR IntKind.i64 r → split (decide (r < 0)) (-1 = k + 4 * ((m : Nat) : Int)) (r = k + 4 * ((m : Nat) : Int)))) := by
    intros
    refine ⟨_, heldSlabs_ev m k hl hk, fun _ => split_of (fun h => ?_) (fun h => rfl)⟩
    have := of_decide_eq_true h
    omega
  refine @Eq.mpr _ _ (?_) key
  kernel_rfl
def maxI (a b : Int) : Int := if b < a then a else b
theorem max2_is (z : Int) : max2 z (-100) = maxI (-100) z := by unfold max2 maxI; rfl
def sinkAt (l r : List Int) (y : Int) (i : Nat) : Int := maxI (-100) (l.getD i 0 - r.getD i 0 * y)
theorem sink_le {l r : List Int} {y : Int} {i : Nat} (h1 : -100 ≤ l.getD i 0 ∧ l.getD i 0 ≤ 100) (h2 : 0 ≤ r.getD i 0 ∧ r.getD i 0 ≤ 10) (h3 : 0 ≤ y ∧ y ≤ 60) : 0 ≤ r.getD i 0 * y ∧ r.getD i 0 * y ≤ 600 :=
  ⟨Int.mul_nonneg h2.1 h3.1, Int.le_trans (Int.mul_le_mul h2.2 h3.2 h3.1 (by omega)) (by omega)⟩
structure Sinks (l r : List Int) (y : Int) : Prop where
  len : r.length = l.length
  few : l.length ≤ 60
  lev : ∀ i : Nat, i < l.length → -100 ≤ l.getD i 0 ∧ l.getD i 0 ≤ 100
  rat : ∀ i : Nat, i < l.length → 0 ≤ r.getD i 0 ∧ r.getD i 0 ≤ 10
  yrs : 0 ≤ y ∧ y ≤ 60
theorem Sinks.at {l r : List Int} {y : Int} (h : Sinks l r y) {i : Nat} (hi : i < l.length) : 0 ≤ r.getD i 0 * y ∧ r.getD i 0 * y ≤ 600 := sink_le (h.lev i hi) (h.rat i hi) h.yrs
noncomputable abbrev sunkInv (l r : List Int) (y : Int) (n : Nat) (σ : List Slot) : Option LoopInv := match n with
  | 3 => some ⟨7 :: hvAt Try.f67 3, Nat, fun i => [(7, .own (.slice 2 iT) (row (sinkAt l r y) i)), (13, .val (.dat iT (i : Int)))], fun i => i ≤ l.length, fun i => l.length - i⟩
  | _ => none
theorem sunk_ev (l r : List Int) (y : Int) (k : Sinks l r y) : Ev Try.prog 67 [aIs l, aIs r, aI y] (compsOf [oIs] (row (sinkAt l r y) l.length)) := by
  refine ev_of (l := [oIs]) (r := (row (sinkAt l r y) l.length)) (types (resT) [] (sunkInv l r y)) follows Try.func67 (by kernel_rfl) (by rw [Try.ntmps67]; exact Nat.le_of_ble_eq_true rfl) ?_
  have key : ((l.length ≤ 9223372036854775807 ∧ ∀ (x : Int), List.Mem x l → inR IntKind.i64 x) → (r.length ≤ 9223372036854775807 ∧ ∀ (x : Int), List.Mem x r → inR IntKind.i64 x) → inR IntKind.i64 y → ((l.length :
      Nat) : Int) ≤ 9223372036854775807 → (∃ (x0 : Nat), (Slot.own (Ty.slice 2 (Ty.int IntKind.i64)) [] = Slot.own (Ty.slice 2 iT) (row (sinkAt l r y) x0) ∧ Slot.val (D.dat (Ty.int IntKind.i64) 0) =
      Slot.val (D.dat iT ((x0 : Nat) : Int))) ∧ x0 ≤ l.length) ∧ ∀ (x : Nat), x ≤ l.length → ((row (sinkAt l r y) x).length ≤ 9223372036854775807 ∧ ∀ (x_1 : Int), List.Mem x_1 (row (sinkAt l r y) x) → inR
      IntKind.i64 x_1) → inR IntKind.i64 ((x : Nat) : Int) → split (decide (((x : Nat) : Int) < ((l.length : Nat) : Int))) ((0 ≤ ((x : Nat) : Int) ∧ ((x : Nat) : Int) < ((l.length : Nat) : Int)) ∧ (inR
      IntKind.i64 (l.getD (((x : Nat) : Int)).toNat 0) → (0 ≤ ((x : Nat) : Int) ∧ ((x : Nat) : Int) < ((r.length : Nat) : Int)) ∧ (inR IntKind.i64 (r.getD (((x : Nat) : Int)).toNat 0) →
      (-9223372036854775808 ≤ r.getD (((x : Nat) : Int)).toNat 0 * y ∧ r.getD (((x : Nat) : Int)).toNat 0 * y ≤ 9223372036854775807) ∧ (-9223372036854775808 ≤ l.getD (((x : Nat) : Int)).toNat 0 - r.getD
      (((x : Nat) : Int)).toNat 0 * y ∧ l.getD (((x : Nat) : Int)).toNat 0 - r.getD (((x : Nat) : Int)).toNat 0 * y ≤ 9223372036854775807) ∧ ((-9223372036854775808 : Int) ≤ -100 ∧ (-100 : Int) ≤
      9223372036854775807) ∧ (row (sinkAt l r y) x).length + [max2 (l.getD (((x : Nat) : Int)).toNat 0 - r.getD (((x : Nat) : Int)).toNat 0 * y) (-100)].length ≤ 4294967296 ∧ (-9223372036854775808 ≤ ((x :
      Nat) : Int) + 1 ∧ ((x : Nat) : Int) + 1 ≤ 9223372036854775807) ∧ ∃ (x' : Nat), (Slot.own (Ty.slice 2 (Ty.int IntKind.i64)) (row (sinkAt l r y) x ++ [max2 (l.getD (((x : Nat) : Int)).toNat 0 - r.getD
      (((x : Nat) : Int)).toNat 0 * y) (-100)]) = Slot.own (Ty.slice 2 iT) (row (sinkAt l r y) x') ∧ Slot.val (D.dat (Ty.int IntKind.i64) (((x : Nat) : Int) + 1)) = Slot.val (D.dat iT ((x' : Nat) : Int)))
      ∧ x' ≤ l.length ∧ l.length - x' < l.length - x))) (row (sinkAt l r y) x = row (sinkAt l r y) l.length)) := by
    intro _ _ _ _
    refine ⟨⟨0, ⟨rfl, rfl⟩, Nat.zero_le _⟩, fun i hi _ _ => split_of (fun h => ?_) (fun h => ?_)⟩
    · have h := of_decide_eq_true h
      have hl : i < l.length := by omega
      have hs := k.at hl
      have hv := k.lev i hl
      have hr := k.len
      have hf := k.few
      simp only [Int.toNat_natCast, max2_is]
      refine ⟨by omega, fun _ => ⟨by omega, fun _ => ⟨by omega, by omega, by omega, ?_, by omega, i + 1, ⟨?_, by simp⟩, by omega, by omega⟩⟩⟩
      · rw [row_len]; simp; omega
      · rw [row_succ]; rfl
    · have h := of_decide_eq_false h
      have : i = l.length := by omega
      rw [this]
  refine @Eq.mpr _ _ (?_) key
  kernel_rfl
theorem l00Max_ev (a b : Int) : Ev Try.prog 118 [aI a, aI b] (compsOf [rI] (maxI a b)) := by
  refine ev_of (l := [rI]) (r := (maxI a b)) (types (resT) [] (fun _ _ => none)) follows Try.func118 (by kernel_rfl) (by rw [Try.ntmps118]; exact Nat.le_of_ble_eq_true rfl) ?_
  have key : (inR IntKind.i64 a → inR IntKind.i64 b → split (decide (b < a)) (a = maxI a b) (b = maxI a b)) := by
    repeat' (first
      | (intro hh; try simp only [inR, loK, hiK] at hh)
      | exact trivial
      | (refine And.intro ?_ ?_)
      | (refine split_of (fun hh => ?_) (fun hh => ?_) <;> (try (first | replace hh := not_t hh | replace hh := not_f hh)) <;> (try (first | replace hh := of_decide_eq_true hh | replace hh := of_decide_eq_false hh))))
    all_goals (unfold maxI; split <;> omega)
  refine @Eq.mpr _ _ (?_) key
  kernel_rfl
noncomputable abbrev afterInv (l r : List Int) (y : Int) (n : Nat) (σ : List Slot) : Option LoopInv := match n with
  | 3 => some ⟨7 :: hvAt Try.f65 3, Nat, fun i => [(7, .own (.slice 2 iT) (row (sinkAt l r y) i)), (8, .val (.dat iT (i : Int)))], fun i => i ≤ l.length, fun i => l.length - i⟩
  | _ => none
theorem l06After_ev (l r : List Int) (y : Int) (k : Sinks l r y) : Ev Try.prog 65 [aIs l, aIs r, aI y] (compsOf [oIs] (row (sinkAt l r y) l.length)) := by
  refine ev_of (l := [oIs]) (r := (row (sinkAt l r y) l.length)) (types (resT) [] (afterInv l r y)) follows Try.func65 (by kernel_rfl) (by rw [Try.ntmps65]; exact Nat.le_of_ble_eq_true rfl) ?_
  have key : ((l.length ≤ 9223372036854775807 ∧ ∀ (x : Int), List.Mem x l → inR IntKind.i64 x) → (r.length ≤ 9223372036854775807 ∧ ∀ (x : Int), List.Mem x r → inR IntKind.i64 x) → inR IntKind.i64 y → (∃ (x0 :
      Nat), (Slot.own (Ty.slice 2 (Ty.int IntKind.i64)) [] = Slot.own (Ty.slice 2 iT) (row (sinkAt l r y) x0) ∧ Slot.val (D.dat (Ty.int IntKind.i64) 0) = Slot.val (D.dat iT ((x0 : Nat) : Int))) ∧ x0 ≤
      l.length) ∧ ∀ (x : Nat), x ≤ l.length → ((row (sinkAt l r y) x).length ≤ 9223372036854775807 ∧ ∀ (x_1 : Int), List.Mem x_1 (row (sinkAt l r y) x) → inR IntKind.i64 x_1) → inR IntKind.i64 ((x : Nat) :
      Int) → ((l.length : Nat) : Int) ≤ 9223372036854775807 → split (decide (((x : Nat) : Int) < ((l.length : Nat) : Int))) ((0 ≤ ((x : Nat) : Int) ∧ ((x : Nat) : Int) < ((l.length : Nat) : Int)) ∧ (inR
      IntKind.i64 (l.getD (((x : Nat) : Int)).toNat 0) → (0 ≤ ((x : Nat) : Int) ∧ ((x : Nat) : Int) < ((r.length : Nat) : Int)) ∧ (inR IntKind.i64 (r.getD (((x : Nat) : Int)).toNat 0) →
      (-9223372036854775808 ≤ r.getD (((x : Nat) : Int)).toNat 0 * y ∧ r.getD (((x : Nat) : Int)).toNat 0 * y ≤ 9223372036854775807) ∧ (-9223372036854775808 ≤ l.getD (((x : Nat) : Int)).toNat 0 - r.getD
      (((x : Nat) : Int)).toNat 0 * y ∧ l.getD (((x : Nat) : Int)).toNat 0 - r.getD (((x : Nat) : Int)).toNat 0 * y ≤ 9223372036854775807) ∧ ∃ (r_1 : Int), Ev Try.prog 118 [Arg.imm (D.dat (Ty.int
      IntKind.i64) (-100)), Arg.imm (D.dat (Ty.int IntKind.i64) (l.getD (((x : Nat) : Int)).toNat 0 - r.getD (((x : Nat) : Int)).toNat 0 * y))] (compsOf [(false, Ty.int IntKind.i64)] r_1) ∧ (inR
      IntKind.i64 r_1 → (row (sinkAt l r y) x).length + [r_1].length ≤ 4294967296 ∧ (-9223372036854775808 ≤ ((x : Nat) : Int) + 1 ∧ ((x : Nat) : Int) + 1 ≤ 9223372036854775807) ∧ ∃ (x' : Nat), (Slot.own
      (Ty.slice 2 (Ty.int IntKind.i64)) (row (sinkAt l r y) x ++ [r_1]) = Slot.own (Ty.slice 2 iT) (row (sinkAt l r y) x') ∧ Slot.val (D.dat (Ty.int IntKind.i64) (((x : Nat) : Int) + 1)) = Slot.val (D.dat
      iT ((x' : Nat) : Int))) ∧ x' ≤ l.length ∧ l.length - x' < l.length - x)))) (row (sinkAt l r y) x = row (sinkAt l r y) l.length)) := by
    intro _ _ _
    refine ⟨⟨0, ⟨rfl, rfl⟩, Nat.zero_le _⟩, fun i hi _ _ _ => split_of (fun h => ?_) (fun h => ?_)⟩
    · have h := of_decide_eq_true h
      have hl : i < l.length := by omega
      have hs := k.at hl
      have hv := k.lev i hl
      have hr := k.len
      have hf := k.few
      simp only [Int.toNat_natCast]
      refine ⟨by omega, fun _ => ⟨by omega, fun _ => ⟨by omega, by omega, _, l00Max_ev _ _, fun _ => ⟨?_, by omega, i + 1, ⟨?_, by simp⟩, by omega, by omega⟩⟩⟩⟩
      · rw [row_len]; simp; omega
      · rw [row_succ]; rfl
    · have h := of_decide_eq_false h
      have : i = l.length := by omega
      rw [this]
  refine @Eq.mpr _ _ (?_) key
  kernel_rfl
theorem l06Years_ev (y : Int) : Ev Try.prog 64 [aI y] (compsOf [rB] (inB y 0 60)) := by
  refine ev_of (l := [rB]) (r := (inB y 0 60)) (types (resT) [] (fun _ _ => none)) follows Try.func64 (by kernel_rfl) (by rw [Try.ntmps64]; exact Nat.le_of_ble_eq_true rfl) ?_
  have key : (inR IntKind.i64 y → ∃ (r : Bool), Ev Try.prog 117 [Arg.imm (D.dat (Ty.int IntKind.i64) y), Arg.imm (D.dat (Ty.int IntKind.i64) 0), Arg.imm (D.dat (Ty.int IntKind.i64) 60)] (compsOf [(false, Ty.bool)]
      r) ∧ r = inB y 0 60) := by
    repeat' (first
      | (intro hh; try simp only [inR, loK, hiK] at hh)
      | exact trivial
      | (refine ⟨_, l00In_ev _ _ _, ?_⟩)
      | (refine And.intro ?_ ?_)
      | (refine split_of (fun hh => ?_) (fun hh => ?_)))
    all_goals (first | omega | rfl | (simp_all []; done) | (simp_all []; omega))
  refine @Eq.mpr _ _ (?_) key
  kernel_rfl
noncomputable def sinksC (q : Sq) (l r : List Int) (fine : Bool) : Int := if levB q l (-100) 100 && levB q r 0 10 then (if fine then 0 else 2) else 1
theorem l06Sinks_ev (q : Sq) (l r : List Int) (fine : Bool) : Ev Try.prog 63 [aQp q, aIs l, aIs r, aB fine] (compsOf [rI] (sinksC q l r fine)) := by
  refine ev_of (l := [rI]) (r := (sinksC q l r fine)) (types (resT) [] (fun _ _ => none)) follows Try.func63 (by kernel_rfl) (by rw [Try.ntmps63]; exact Nat.le_of_ble_eq_true rfl) ?_
  have key : ((l.length ≤ 9223372036854775807 ∧ ∀ (x : Int), List.Mem x l → inR IntKind.i64 x) → (r.length ≤ 9223372036854775807 ∧ ∀ (x : Int), List.Mem x r → inR IntKind.i64 x) → ∃ (r_1 : Bool), Ev Try.prog 57
      [Arg.imm (D.dat (sqT 41) q).ref, Arg.imm (D.dat (Ty.slice 2 (Ty.int IntKind.i64)) l)] (compsOf [(false, Ty.bool)] r_1) ∧ split (!!r_1) (∃ (r_2 : Bool), Ev Try.prog 105 [Arg.imm (D.dat (sqT 41)
      q).ref, Arg.imm (D.dat (Ty.slice 2 (Ty.int IntKind.i64)) r), Arg.imm (D.dat (Ty.int IntKind.i64) 0), Arg.imm (D.dat (Ty.int IntKind.i64) 10)] (compsOf [(false, Ty.bool)] r_2) ∧ split (!r_2) (1 =
      sinksC q l r fine) (split (!fine) (2 = sinksC q l r fine) (0 = sinksC q l r fine))) (1 = sinksC q l r fine)) := by
    intro _ _
    refine ⟨_, l06Levels_ev _ _, split_of (fun h1 => ?_) (fun h1 => ?_)⟩
    · have h1 : levB q l (-100) 100 = true := by simpa using h1
      refine ⟨_, l06Numbers_ev _ _ _ _, split_of (fun h2 => ?_) (fun h2 => split_of (fun h3 => ?_) (fun h3 => ?_))⟩
      · have h2 : levB q r 0 10 = false := by simpa using h2
        simp [sinksC, h2]
      · have h2 : levB q r 0 10 = true := by simpa using h2
        have h3 : fine = false := by simpa using h3
        simp [sinksC, h1, h2, h3]
      · have h2 : levB q r 0 10 = true := by simpa using h2
        have h3 : fine = true := by simpa using h3
        simp [sinksC, h1, h2, h3]
    · have h1 : levB q l (-100) 100 = false := by simpa using h1
      simp [sinksC, h1]
  refine @Eq.mpr _ _ (?_) key
  kernel_rfl
theorem inB_iff {n lo hi : Int} : inB n lo hi = true ↔ lo ≤ n ∧ n ≤ hi := by simp [inB]
theorem levB_at {q : Sq} {l : List Int} {lo hi : Int} (h : levB q l lo hi = true) : okQ q = true ∧ l.length = q.2.2.length ∧ ∀ i : Nat, i < l.length → lo ≤ l.getD i 0 ∧ l.getD i 0 ≤ hi := by
  simp only [levB, Bool.and_eq_true, decide_eq_true_eq, Bool.not_eq_true'] at h
  obtain ⟨⟨h1, h2⟩, h3⟩ := h
  refine ⟨h1, h2, fun i hi => ?_⟩
  rw [List.any_eq_false] at h3
  have hm : l.getD i 0 ∈ l := by
    have : l.getD i 0 = l[i] := by simp [List.getD_eq_getElem?_getD, hi]
    rw [this]; exact List.getElem_mem _
  have := h3 _ hm
  simp only [Bool.not_eq_true', Bool.not_eq_false] at this
  exact inB_iff.1 this
theorem sinks0 {q : Sq} {l r : List Int} {y : Int} (h : sinksC q l r (inB y 0 60) = 0) : Sinks l r y := by
  unfold sinksC at h
  split at h
  · rename_i h1
    rw [Bool.and_eq_true] at h1
    split at h
    · rename_i h2
      obtain ⟨a1, a2, a3⟩ := levB_at h1.1
      obtain ⟨b1, b2, b3⟩ := levB_at h1.2
      exact ⟨by omega, by rw [a2]; exact (okQ_iff.1 a1).n, a3, fun i hi => b3 i (by omega), inB_iff.1 h2⟩
    · cases h
  · cases h
noncomputable def afterV (q : Sq) (l r : List Int) (y : Int) : List Int × Int := if sinksC q l r (inB y 0 60) = 0 then (row (sinkAt l r y) l.length, 0) else ([], sinksC q l r (inB y 0 60))
theorem specLevelsAfter_ev (q : Sq) (l r : List Int) (y : Int) : Ev Try.prog 24 [aQ q, aIs l, aIs r, aI y] (compsOf [oIs, rI] (afterV q l r y)) := by
  refine ev_of (l := [oIs, rI]) (r := (afterV q l r y)) (types (resT) [] (fun _ _ => none)) follows Try.func24 (by kernel_rfl) (by rw [Try.ntmps24]; exact Nat.le_of_ble_eq_true rfl) ?_
  have key : (inR IntKind.i8 q.fst → inR IntKind.i8 q.snd.fst → (q.snd.snd.length ≤ 9223372036854775807 ∧ ∀ (x : Int × Int × Int × Int), List.Mem x q.snd.snd → inR IntKind.i8 x.fst ∧ inR IntKind.i8 x.snd.fst ∧ inR
      IntKind.i8 x.snd.snd.fst ∧ inR IntKind.i8 x.snd.snd.snd) → (l.length ≤ 9223372036854775807 ∧ ∀ (x : Int), List.Mem x l → inR IntKind.i64 x) → (r.length ≤ 9223372036854775807 ∧ ∀ (x : Int), List.Mem x
      r → inR IntKind.i64 x) → inR IntKind.i64 y → ∃ (r_1 : Bool), Ev Try.prog 64 [Arg.imm (D.dat (Ty.int IntKind.i64) y)] (compsOf [(false, Ty.bool)] r_1) ∧ ∃ (r_2 : Int), Ev Try.prog 63 [Arg.imm (D.dat
      (sqT 41) q).ref, Arg.imm (D.dat (Ty.slice 2 (Ty.int IntKind.i64)) l), Arg.imm (D.dat (Ty.slice 2 (Ty.int IntKind.i64)) r), Arg.imm (D.dat Ty.bool r_1)] (compsOf [(false, Ty.int IntKind.i64)] r_2) ∧
      (inR IntKind.i64 r_2 → split (!decide (r_2 = 0)) ([] = (afterV q l r y).fst ∧ r_2 = (afterV q l r y).snd) (∃ (r_3 : List Int), Ev Try.prog 65 [Arg.imm (D.dat (Ty.slice 2 (Ty.int IntKind.i64)) l),
      Arg.imm (D.dat (Ty.slice 2 (Ty.int IntKind.i64)) r), Arg.imm (D.dat (Ty.int IntKind.i64) y)] (compsOf [(true, Ty.slice 2 (Ty.int IntKind.i64))] r_3) ∧ ((r_3.length ≤ 9223372036854775807 ∧ ∀ (x :
      Int), List.Mem x r_3 → inR IntKind.i64 x) → r_3 = (afterV q l r y).fst ∧ 0 = (afterV q l r y).snd)))) := by
    intros
    refine ⟨_, l06Years_ev _, _, l06Sinks_ev _ _ _ _, fun _ => split_of (fun h => ?_) (fun h => ?_)⟩
    · have h : ¬ sinksC q l r (inB y 0 60) = 0 := by simpa using h
      simp only [afterV, if_neg h]
      exact ⟨trivial, trivial⟩
    · have h : sinksC q l r (inB y 0 60) = 0 := by simpa using h
      refine ⟨_, l06After_ev _ _ _ (sinks0 h), fun _ => ?_⟩
      simp only [afterV, if_pos h]
      exact ⟨trivial, trivial⟩
  refine @Eq.mpr _ _ (?_) key
  kernel_rfl
theorem implLevelsAfter_ev (q : Sq) (l r : List Int) (y : Int) : Ev Try.prog 25 [aQ q, aIs l, aIs r, aI y] (compsOf [oIs, rI] (afterV q l r y)) := by
  refine ev_of (l := [oIs, rI]) (r := (afterV q l r y)) (types (resT) [] (fun _ _ => none)) follows Try.func25 (by kernel_rfl) (by rw [Try.ntmps25]; exact Nat.le_of_ble_eq_true rfl) ?_
  have key : (inR IntKind.i8 q.fst → inR IntKind.i8 q.snd.fst → (q.snd.snd.length ≤ 9223372036854775807 ∧ ∀ (x : Int × Int × Int × Int), List.Mem x q.snd.snd → inR IntKind.i8 x.fst ∧ inR IntKind.i8 x.snd.fst ∧ inR
      IntKind.i8 x.snd.snd.fst ∧ inR IntKind.i8 x.snd.snd.snd) → (l.length ≤ 9223372036854775807 ∧ ∀ (x : Int), List.Mem x l → inR IntKind.i64 x) → (r.length ≤ 9223372036854775807 ∧ ∀ (x : Int), List.Mem x
      r → inR IntKind.i64 x) → inR IntKind.i64 y → inR IntKind.i8 q.fst → inR IntKind.i8 q.snd.fst → (q.snd.snd.length ≤ 9223372036854775807 ∧ ∀ (x : Int × Int × Int × Int), List.Mem x q.snd.snd → inR
      IntKind.i8 x.fst ∧ inR IntKind.i8 x.snd.fst ∧ inR IntKind.i8 x.snd.snd.fst ∧ inR IntKind.i8 x.snd.snd.snd) → ∃ (r_1 : Bool), Ev Try.prog 18 [Arg.imm (D.dat (sqT 41) q), Arg.imm (D.dat (Ty.slice 2
      (Ty.int IntKind.i64)) l)] (compsOf [(false, Ty.bool)] r_1) ∧ split (!!r_1) (inR IntKind.i8 q.fst → inR IntKind.i8 q.snd.fst → (q.snd.snd.length ≤ 9223372036854775807 ∧ ∀ (x : Int × Int × Int × Int),
      List.Mem x q.snd.snd → inR IntKind.i8 x.fst ∧ inR IntKind.i8 x.snd.fst ∧ inR IntKind.i8 x.snd.snd.fst ∧ inR IntKind.i8 x.snd.snd.snd) → ∃ (r_2 : Bool), Ev Try.prog 58 [Arg.imm (D.dat (sqT 41) q),
      Arg.imm (D.dat (Ty.slice 2 (Ty.int IntKind.i64)) r), Arg.imm (D.dat (Ty.int IntKind.i64) 0), Arg.imm (D.dat (Ty.int IntKind.i64) 10)] (compsOf [(false, Ty.bool)] r_2) ∧ split (!r_2) ([] = (afterV q l
      r y).fst ∧ 1 = (afterV q l r y).snd) (∃ (r_3 : Bool), Ev Try.prog 66 [Arg.imm (D.dat (Ty.int IntKind.i64) y), Arg.imm (D.dat (Ty.int IntKind.i64) 0), Arg.imm (D.dat (Ty.int IntKind.i64) 60)] (compsOf
      [(false, Ty.bool)] r_3) ∧ split (!r_3) ([] = (afterV q l r y).fst ∧ 2 = (afterV q l r y).snd) (∃ (r_4 : List Int), Ev Try.prog 67 [Arg.imm (D.dat (Ty.slice 2 (Ty.int IntKind.i64)) l), Arg.imm (D.dat
      (Ty.slice 2 (Ty.int IntKind.i64)) r), Arg.imm (D.dat (Ty.int IntKind.i64) y)] (compsOf [(true, Ty.slice 2 (Ty.int IntKind.i64))] r_4) ∧ ((r_4.length ≤ 9223372036854775807 ∧ ∀ (x : Int), List.Mem x
      r_4 → inR IntKind.i64 x) → r_4 = (afterV q l r y).fst ∧ 0 = (afterV q l r y).snd)))) ([] = (afterV q l r y).fst ∧ 1 = (afterV q l r y).snd)) := by
    intros
    refine ⟨_, implValidLevels_ev _ _, split_of (fun h1 => ?_) (fun h1 => ?_)⟩
    · have h1 : levB q l (-100) 100 = true := by simpa using h1
      intros
      refine ⟨_, areLevels_ev _ _ _ _, split_of (fun h2 => ?_) (fun h2 => ?_)⟩
      · have h2 : levB q r 0 10 = false := by simpa using h2
        simp [afterV, sinksC, h2]
      · have h2 : levB q r 0 10 = true := by simpa using h2
        refine ⟨_, within_ev _ _ _, split_of (fun h3 => ?_) (fun h3 => ?_)⟩
        · have h3 : inB y 0 60 = false := by simpa using h3
          simp [afterV, sinksC, h1, h2, h3]
        · have h3 : inB y 0 60 = true := by simpa using h3
          have h0 : sinksC q l r (inB y 0 60) = 0 := by simp [sinksC, h1, h2, h3]
          refine ⟨_, sunk_ev _ _ _ (sinks0 h0), fun _ => ?_⟩
          simp only [afterV, if_pos h0]
          exact ⟨trivial, trivial⟩
    · have h1 : levB q l (-100) 100 = false := by simpa using h1
      simp [afterV, sinksC, h1]
  refine @Eq.mpr _ _ (?_) key
  kernel_rfl
end Go.Proofs.Ytmjijggkdbiijaa
