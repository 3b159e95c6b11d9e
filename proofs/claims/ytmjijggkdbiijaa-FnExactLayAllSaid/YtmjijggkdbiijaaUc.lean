/- Slabs that are lifted. No statement is proved here. -/
import Derived.Test.YtmjijggkdbiijaaUa
namespace Go.Proofs.Ytmjijggkdbiijaa
open Go.RowKit
set_option linter.unusedVariables false
set_option linter.unusedSimpArgs false
set_option maxRecDepth 100000
set_option maxHeartbeats 4000000
theorem sizeS_ev (l : List Sl) : Ev Try.prog 131 [aSs l] (compsOf [rI] ((l.length : Int))) := by
  refine ev_of (l := [rI]) (r := ((l.length : Int))) (types (resT) [] (fun _ _ => none)) follows Try.func131 (by kernel_rfl) (by rw [Try.ntmps131]; exact Nat.le_of_ble_eq_true rfl) ?_
  have key : ((l.length ≤ 9223372036854775807 ∧ ∀ (x : Int × Int × Int × Int), List.Mem x l → inR IntKind.i8 x.fst ∧ inR IntKind.i8 x.snd.fst ∧ inR IntKind.i8 x.snd.snd.fst ∧ inR IntKind.i8 x.snd.snd.snd) →
      ((l.length : Nat) : Int) ≤ 9223372036854775807 → ((l.length : Nat) : Int) = ((l.length : Nat) : Int)) := by
    repeat' (first
      | (intro hh; try simp only [inR, loK, hiK] at hh)
      | exact trivial
      | (refine And.intro ?_ ?_)
      | (refine split_of (fun hh => ?_) (fun hh => ?_)))
    all_goals (first | omega | rfl | (simp_all []; done) | (simp_all []; omega))
  refine @Eq.mpr _ _ (?_) key
  kernel_rfl
theorem cloneI_ev (l : List Int) (hl : l.length ≤ 16777216) : Ev Try.prog 141 [aIs l] (compsOf [oIs] (l)) := by
  refine ev_of (l := [oIs]) (r := (l)) (types (resT) [] (fun _ _ => none)) follows Try.func141 (by kernel_rfl) (by rw [Try.ntmps141]; exact Nat.le_of_ble_eq_true rfl) ?_
  have key : ((l.length ≤ 9223372036854775807 ∧ ∀ (x : Int), List.Mem x l → inR IntKind.i64 x) → (l = [] → [] = l) ∧ (0 : Nat) + l.length ≤ 4294967296 ∧ [] ++ l = l) := by
    intros
    exact ⟨fun h => h.symm, by simp; omega, by simp⟩
  refine @Eq.mpr _ _ (?_) key
  kernel_rfl
theorem cloneS_ev (l : List Sl) (hl : l.length ≤ 16777216) : Ev Try.prog 139 [aSs l] (compsOf [oSs] (l)) := by
  refine ev_of (l := [oSs]) (r := (l)) (types (resT) [] (fun _ _ => none)) follows Try.func139 (by kernel_rfl) (by rw [Try.ntmps139]; exact Nat.le_of_ble_eq_true rfl) ?_
  have key : ((l.length ≤ 9223372036854775807 ∧ ∀ (x : Int × Int × Int × Int), List.Mem x l → inR IntKind.i8 x.fst ∧ inR IntKind.i8 x.snd.fst ∧ inR IntKind.i8 x.snd.snd.fst ∧ inR IntKind.i8 x.snd.snd.snd) → (l =
      [] → [] = l) ∧ (0 : Nat) + l.length ≤ 4294967296 ∧ [] ++ l = l) := by
    intros
    exact ⟨fun h => h.symm, by simp; omega, by simp⟩
  refine @Eq.mpr _ _ (?_) key
  kernel_rfl
theorem isEach_ev (l : List Int) (hl : l.length ≤ 1048576) : Ev Try.prog 100 [aIs l] (compsOf [rB] (eachB l)) := by
  refine ev_of (l := [rB]) (r := (eachB l)) (types (resT) [] (fun _ _ => none)) follows Try.func100 (by kernel_rfl) (by rw [Try.ntmps100]; exact Nat.le_of_ble_eq_true rfl) ?_
  have key : ((l.length ≤ 9223372036854775807 ∧ ∀ (x : Int), List.Mem x l → inR IntKind.i64 x) → ∃ (r : List Int), Ev Try.prog 141 [Arg.imm (D.dat (Ty.slice 2 (Ty.int IntKind.i64)) l)] (compsOf [(true, Ty.slice 2
      (Ty.int IntKind.i64))] r) ∧ ((r.length ≤ 9223372036854775807 ∧ ∀ (x : Int), List.Mem x r → inR IntKind.i64 x) → ∃ (r_1 : Unit), ∃ (y : List Int), EvB Try.prog 142 (Ty.slice 2 (Ty.int IntKind.i64)) r
      [] (compsOf [] r_1) y ∧ ((y.length ≤ 9223372036854775807 ∧ ∀ (x : Int), List.Mem x y → inR IntKind.i64 x) → ∃ (r : List Int), Ev Try.prog 143 [Arg.own (Ty.slice 2 (Ty.int IntKind.i64)) y] (compsOf
      [(true, Ty.slice 2 (Ty.int IntKind.i64))] r) ∧ ((r.length ≤ 9223372036854775807 ∧ ∀ (x : Int), List.Mem x r → inR IntKind.i64 x) → ((r.length : Nat) : Int) ≤ 9223372036854775807 → ((l.length : Nat) :
      Int) ≤ 9223372036854775807 → decide (((r.length : Nat) : Int) = ((l.length : Nat) : Int)) = eachB l)))) := by
    intros
    refine ⟨_, cloneI_ev l (by omega), fun _ => ⟨(), _, sort_ev l (by omega), fun _ => ⟨_, compact_ev _ (by rw [sortI_len]; omega), ?_⟩⟩⟩
    intros
    exact decide_eq_decide.2 (by omega)
  refine @Eq.mpr _ _ (?_) key
  kernel_rfl
def withV (q : Sq) (xs : List Sl) : Sq := (q.1, q.2.1, sortSl xs)
theorem with_ev (q : Sq) (xs : List Sl) (hl : xs.length ≤ 16777216) : Ev Try.prog 101 [aQ q, aSs xs] (compsOf [oQ] (withV q xs)) := by
  refine ev_of (l := [oQ]) (r := (withV q xs)) (types (resT) [] (fun _ _ => none)) follows Try.func101 (by kernel_rfl) (by rw [Try.ntmps101]; exact Nat.le_of_ble_eq_true rfl) ?_
  have key : (inR IntKind.i8 q.fst → inR IntKind.i8 q.snd.fst → (q.snd.snd.length ≤ 9223372036854775807 ∧ ∀ (x : Int × Int × Int × Int), List.Mem x q.snd.snd → inR IntKind.i8 x.fst ∧ inR IntKind.i8 x.snd.fst ∧ inR
      IntKind.i8 x.snd.snd.fst ∧ inR IntKind.i8 x.snd.snd.snd) → (xs.length ≤ 9223372036854775807 ∧ ∀ (x : Int × Int × Int × Int), List.Mem x xs → inR IntKind.i8 x.fst ∧ inR IntKind.i8 x.snd.fst ∧ inR
      IntKind.i8 x.snd.snd.fst ∧ inR IntKind.i8 x.snd.snd.snd) → ∃ (r : List (Int × Int × Int × Int)), Ev Try.prog 139 [Arg.imm (D.dat (Ty.slice 41 slabT) xs)] (compsOf [(true, Ty.slice 41 ((Ty.int
      IntKind.i8).prod ((Ty.int IntKind.i8).prod ((Ty.int IntKind.i8).prod (Ty.int IntKind.i8)))))] r) ∧ ((r.length ≤ 9223372036854775807 ∧ ∀ (x : Int × Int × Int × Int), List.Mem x r → inR IntKind.i8
      x.fst ∧ inR IntKind.i8 x.snd.fst ∧ inR IntKind.i8 x.snd.snd.fst ∧ inR IntKind.i8 x.snd.snd.snd) → ∃ (r_1 : Unit), ∃ (y : List (Int × Int × Int × Int)), EvB Try.prog 144 (Ty.slice 41 ((Ty.int
      IntKind.i8).prod ((Ty.int IntKind.i8).prod ((Ty.int IntKind.i8).prod (Ty.int IntKind.i8))))) r [Arg.imm (D.clo 114 D.nl)] (compsOf [] r_1) y ∧ ((y.length ≤ 9223372036854775807 ∧ ∀ (x : Int × Int ×
      Int × Int), List.Mem x y → inR IntKind.i8 x.fst ∧ inR IntKind.i8 x.snd.fst ∧ inR IntKind.i8 x.snd.snd.fst ∧ inR IntKind.i8 x.snd.snd.snd) → inR IntKind.i8 q.fst → inR IntKind.i8 q.snd.fst → (q.fst,
      q.snd.fst, y) = withV q xs))) := by
    intros
    refine ⟨_, cloneS_ev xs hl, ?_⟩
    intros
    refine ⟨(), _, sortS_ev _ (by omega), ?_⟩
    intros
    rfl
  refine @Eq.mpr _ _ (?_) key
  kernel_rfl
def idxB (q : Sq) (n : Int) : Bool := inB n 0 ((q.2.2.length : Int) - 1)
theorem l01Index_ev (q : Sq) (n : Int) : Ev Try.prog 97 [aQp q, aI n] (compsOf [rB] (idxB q n)) := by
  refine ev_of (l := [rB]) (r := (idxB q n)) (types (resT) [] (fun _ _ => none)) follows Try.func97 (by kernel_rfl) (by rw [Try.ntmps97]; exact Nat.le_of_ble_eq_true rfl) ?_
  have key : (inR IntKind.i64 n → (q.snd.snd.length ≤ 9223372036854775807 ∧ ∀ (x : Int × Int × Int × Int), List.Mem x q.snd.snd → inR IntKind.i8 x.fst ∧ inR IntKind.i8 x.snd.fst ∧ inR IntKind.i8 x.snd.snd.fst ∧
      inR IntKind.i8 x.snd.snd.snd) → ((q.snd.snd.length : Nat) : Int) ≤ 9223372036854775807 → (-9223372036854775808 ≤ ((q.snd.snd.length : Nat) : Int) - 1 ∧ ((q.snd.snd.length : Nat) : Int) - 1 ≤
      9223372036854775807) ∧ ∃ (r : Bool), Ev Try.prog 117 [Arg.imm (D.dat (Ty.int IntKind.i64) n), Arg.imm (D.dat (Ty.int IntKind.i64) 0), Arg.imm (D.dat (Ty.int IntKind.i64) (((q.snd.snd.length : Nat) :
      Int) - 1))] (compsOf [(false, Ty.bool)] r) ∧ r = idxB q n) := by
    intros
    exact ⟨by omega, _, l00In_ev _ _ _, rfl⟩
  refine @Eq.mpr _ _ (?_) key
  kernel_rfl
theorem indexCode1_ev (q : Sq) (n : Int) : Ev Try.prog 140 [aI n, aQp q] (compsOf [rB] (!(idxB q n))) := by
  refine ev_of (l := [rB]) (r := (!(idxB q n))) (types (resT) [] (fun _ _ => none)) follows Try.func140 (by kernel_rfl) (by rw [Try.ntmps140]; exact Nat.le_of_ble_eq_true rfl) ?_
  have key : (inR IntKind.i64 n → (q.snd.snd.length ≤ 9223372036854775807 ∧ ∀ (x : Int × Int × Int × Int), List.Mem x q.snd.snd → inR IntKind.i8 x.fst ∧ inR IntKind.i8 x.snd.fst ∧ inR IntKind.i8 x.snd.snd.fst ∧
      inR IntKind.i8 x.snd.snd.snd) → ∃ (r : Int), Ev Try.prog 131 [Arg.imm (D.dat (Ty.slice 41 slabT) q.snd.snd)] (compsOf [(false, Ty.int IntKind.i64)] r) ∧ (inR IntKind.i64 r → (-9223372036854775808 ≤ r
      - 1 ∧ r - 1 ≤ 9223372036854775807) ∧ ∃ (r_1 : Bool), Ev Try.prog 66 [Arg.imm (D.dat (Ty.int IntKind.i64) n), Arg.imm (D.dat (Ty.int IntKind.i64) 0), Arg.imm (D.dat (Ty.int IntKind.i64) (r - 1))]
      (compsOf [(false, Ty.bool)] r_1) ∧ (!r_1) = !idxB q n)) := by
    intros
    refine ⟨_, sizeS_ev _, ?_⟩
    intros
    exact ⟨by omega, _, within_ev _ _ _, rfl⟩
  refine @Eq.mpr _ _ (?_) key
  kernel_rfl
noncomputable abbrev idxI1Inv (l : List Int) (p : Int → Bool) (n : Nat) (σ : List Slot) : Option LoopInv := match n with
  | 2 => some ⟨hvAt Try.f147 2, Nat, fun i => [(8, .val (.dat (.int .i64) i))], fun i => i ≤ l.length ∧ ∀ j : Nat, j < i → p (l.getD j 0) = false, fun i => l.length - i⟩
  | _ => none
theorem indexFuncI1_ev (l : List Int) (f : Nat) (d1 : D) (p : Int → Bool) (hp : ∀ x ∈ l, Ev Try.prog f [aI x, .imm d1] (compsOf [rB] (p x))) : Ev Try.prog 147 [aIs l, .imm (.clo f (.cn d1 .nl))] (compsOf [rI] (idxP p l)) := by
  refine ev_of (l := [rI]) (r := (idxP p l)) (types (fun _ => some [rB]) [] (idxI1Inv l p)) follows Try.func147 (by kernel_rfl) (by rw [Try.ntmps147]; exact Nat.le_of_ble_eq_true rfl) ?_
  have key : ((l.length ≤ 9223372036854775807 ∧ ∀ (x : Int), List.Mem x l → inR IntKind.i64 x) → ((l.length : Nat) : Int) ≤ 9223372036854775807 → (∃ (x0 : Nat), Slot.val (D.dat (Ty.int IntKind.i64) 0) = Slot.val
      (D.dat (Ty.int IntKind.i64) ((x0 : Nat) : Int)) ∧ x0 ≤ l.length ∧ ∀ (j : Nat), j < x0 → p (l.getD j 0) = false) ∧ ∀ (x : Nat), (x ≤ l.length ∧ ∀ (j : Nat), j < x → p (l.getD j 0) = false) → inR
      IntKind.i64 ((x : Nat) : Int) → split (decide (((x : Nat) : Int) < ((l.length : Nat) : Int))) ((0 ≤ ((x : Nat) : Int) ∧ ((x : Nat) : Int) < ((l.length : Nat) : Int)) ∧ (inR IntKind.i64 (l.getD (((x :
      Nat) : Int)).toNat 0) → ∃ (r : Bool), Ev Try.prog f [Arg.imm (D.dat (Ty.int IntKind.i64) (l.getD (((x : Nat) : Int)).toNat 0)), Arg.imm d1] (compsOf [(false, Ty.bool)] r) ∧ split r (((x : Nat) : Int)
      = idxP p l) ((-9223372036854775808 ≤ ((x : Nat) : Int) + 1 ∧ ((x : Nat) : Int) + 1 ≤ 9223372036854775807) ∧ ∃ (x' : Nat), Slot.val (D.dat (Ty.int IntKind.i64) (((x : Nat) : Int) + 1)) = Slot.val
      (D.dat (Ty.int IntKind.i64) ((x' : Nat) : Int)) ∧ (x' ≤ l.length ∧ ∀ (j : Nat), j < x' → p (l.getD j 0) = false) ∧ l.length - x' < l.length - x))) (-1 = idxP p l)) := by
    intro _ _
    refine ⟨⟨0, rfl, by omega, fun j hj => by omega⟩, fun i ⟨hi, hn⟩ _ => split_of (fun h => ?_) (fun h => ?_)⟩
    · have h := of_decide_eq_true h
      simp only [Int.toNat_natCast]
      have hm : l.getD i 0 ∈ l := by
        have : l.getD i 0 = l[i]'(by omega) := by simp [List.getD_eq_getElem?_getD, show i < l.length by omega]
        rw [this]; exact List.getElem_mem _
      exact ⟨by omega, fun _ => ⟨_, hp _ hm, split_of (fun h2 => idxP_found (by omega) h2 hn) (fun h2 => ⟨by omega, i + 1, rfl, ⟨by omega, upto_step hn h2⟩, by omega⟩)⟩⟩
    · have h := of_decide_eq_false h
      exact idxP_none fun j hj => hn j (by omega)
  refine @Eq.mpr _ _ (?_) key
  kernel_rfl
theorem containsFuncI1_ev (l : List Int) (f : Nat) (d1 : D) (p : Int → Bool) (hp : ∀ x ∈ l, Ev Try.prog f [aI x, .imm d1] (compsOf [rB] (p x))) : Ev Try.prog 106 [aIs l, .imm (.clo f (.cn d1 .nl))] (compsOf [rB] (l.any p)) := by
  refine ev_of (l := [rB]) (r := (l.any p)) (types (resT) [] (fun _ _ => none)) follows Try.func106 (by kernel_rfl) (by rw [Try.ntmps106]; exact Nat.le_of_ble_eq_true rfl) ?_
  have key : ((l.length ≤ 9223372036854775807 ∧ ∀ (x : Int), List.Mem x l → inR IntKind.i64 x) → ∃ (r : Int), Ev Try.prog 147 [Arg.imm (D.dat (Ty.slice 2 (Ty.int IntKind.i64)) l), Arg.imm (D.clo f (d1.cn D.nl))]
      (compsOf [(false, Ty.int IntKind.i64)] r) ∧ (inR IntKind.i64 r → decide (0 ≤ r) = l.any p)) := by
    intros
    exact ⟨_, indexFuncI1_ev l f d1 p hp, fun _ => idxP_any⟩
  refine @Eq.mpr _ _ (?_) key
  kernel_rfl
noncomputable def indexI (q : Sq) (l : List Int) : Int := askedI (okQ q) (!(l.any fun n => !(idxB q n)))
theorem indexCode_ev (q : Sq) (l : List Int) : Ev Try.prog 99 [aQ q, aIs l] (compsOf [rI] (indexI q l)) := by
  refine ev_of (l := [rI]) (r := (indexI q l)) (types (resT) [] (fun _ _ => none)) follows Try.func99 (by kernel_rfl) (by rw [Try.ntmps99]; exact Nat.le_of_ble_eq_true rfl) ?_
  have key : (inR IntKind.i8 q.fst → inR IntKind.i8 q.snd.fst → (q.snd.snd.length ≤ 9223372036854775807 ∧ ∀ (x : Int × Int × Int × Int), List.Mem x q.snd.snd → inR IntKind.i8 x.fst ∧ inR IntKind.i8 x.snd.fst ∧ inR
      IntKind.i8 x.snd.snd.fst ∧ inR IntKind.i8 x.snd.snd.snd) → (l.length ≤ 9223372036854775807 ∧ ∀ (x : Int), List.Mem x l → inR IntKind.i64 x) → inR IntKind.i8 q.fst → inR IntKind.i8 q.snd.fst →
      (q.snd.snd.length ≤ 9223372036854775807 ∧ ∀ (x : Int × Int × Int × Int), List.Mem x q.snd.snd → inR IntKind.i8 x.fst ∧ inR IntKind.i8 x.snd.fst ∧ inR IntKind.i8 x.snd.snd.fst ∧ inR IntKind.i8
      x.snd.snd.snd) → ∃ (r : Bool), Ev Try.prog 61 [Arg.imm (D.dat (sqT 41) q)] (compsOf [(false, Ty.bool)] r) ∧ split (!r) (1 = indexI q l) (∃ (r : Bool), Ev Try.prog 106 [Arg.imm (D.dat (Ty.slice 2
      (Ty.int IntKind.i64)) l), Arg.imm (D.clo 140 ((D.dat (sqT 41) q).ref.cn D.nl))] (compsOf [(false, Ty.bool)] r) ∧ ∃ (r_1 : Int), Ev Try.prog 121 [Arg.imm (D.dat Ty.bool !r), Arg.imm (D.dat (Ty.int
      IntKind.i64) 2)] (compsOf [(false, Ty.int IntKind.i64)] r_1) ∧ (inR IntKind.i64 r_1 → r_1 = indexI q l))) := by
    intros
    refine ⟨_, valid_ev q, split_of (fun h => by simp [indexI, askedI, not_t h]) (fun h => ?_)⟩
    intros
    refine ⟨_, containsFuncI1_ev l _ _ (fun n => !(idxB q n)) fun n _ => indexCode1_ev q n, _, unless_ev _ _, fun _ => ?_⟩
    simp only [indexI, askedI, not_f h, unlessI, if_true]
  refine @Eq.mpr _ _ (?_) key
  kernel_rfl
/-- The code of slabs that are lifted. -/
noncomputable def liftC (q : Sq) (l : List Int) : Int := if indexI q l = 0 then (if eachB l then 0 else 4) else indexI q l
noncomputable def liftAllV (q : Sq) (l : List Int) : Sq × List Sl × Int := if liftC q l = 0 then ((q.1, q.2.1, leftL q l q.2.2.length), l.map (fun n => sAt q.2.2 n.toNat), 0) else ((0, 0, []), [], liftC q l)
theorem has_iff {l : List Int} {x : Int} : hasB l x = true ↔ x ∈ l := by
  unfold hasB
  rw [List.any_eq_true]
  constructor
  · rintro ⟨y, hy, h⟩
    have := of_decide_eq_true h
    rwa [← this]
  · intro h
    exact ⟨x, h, decide_eq_true rfl⟩
theorem has_twice {l : List Int} {i : Nat} (hi : i < l.length) (h : hasB (l.take i) (l.getD i 0) = true) : ¬ l.Nodup := by
  intro hn
  obtain ⟨j, hj, e⟩ := List.getElem_of_mem (has_iff.1 h)
  simp only [List.length_take] at hj
  rw [show l.getD i 0 = l[i] by simp [List.getD_eq_getElem?_getD, hi], List.getElem_take] at e
  exact List.pairwise_iff_getElem.1 hn j i (by omega) hi (by omega) e
theorem nodup_of {l : List Int} (h : ∀ j : Nat, j < l.length → hasB (l.take j) (l.getD j 0) = false) : l.Nodup := by
  refine List.pairwise_iff_getElem.2 fun i j hi hj hij e => ?_
  have h1 := h j hj
  have : hasB (l.take j) (l.getD j 0) = true := by
    rw [has_iff, show l.getD j 0 = l[j] by simp [List.getD_eq_getElem?_getD, hj], ← e]
    exact List.mem_iff_getElem.2 ⟨i, by simp; omega, by simp⟩
  rw [this] at h1; cases h1
theorem slabs_next {q : Sq} {l : List Int} {i : Nat} (h : i < l.length) : (l.take (i + 1)).map (fun n => sAt q.2.2 n.toNat) = (l.take i).map (fun n => sAt q.2.2 n.toNat) ++ [sAt q.2.2 (l.getD i 0).toNat] := by
  rw [take_next' (d := 0) h, List.map_append]; rfl
theorem idx_in {q : Sq} {n : Int} (h : idxB q n = true) : 0 ≤ n ∧ n < (q.2.2.length : Int) := by
  simp only [idxB, inB, Bool.and_eq_true, decide_eq_true_eq] at h
  omega
theorem lift1 {q : Sq} {l : List Int} (h : okQ q = false) : liftAllV q l = ((0, 0, []), [], 1) := by
  simp [liftAllV, liftC, indexI, askedI, h]
theorem lift2 {q : Sq} {l : List Int} (h : okQ q = true) (h2 : l.any (fun n => !(idxB q n)) = true) : liftAllV q l = ((0, 0, []), [], 2) := by
  simp [liftAllV, liftC, indexI, askedI, h, h2]
theorem lift4 {q : Sq} {l : List Int} (h : okQ q = true) (h2 : l.any (fun n => !(idxB q n)) = false) (h3 : eachB l = false) : liftAllV q l = ((0, 0, []), [], 4) := by
  simp [liftAllV, liftC, indexI, askedI, h, h2, h3]
theorem lift0 {q : Sq} {l : List Int} (h : okQ q = true) (h2 : l.any (fun n => !(idxB q n)) = false) (h3 : eachB l = true) : liftAllV q l = ((q.1, q.2.1, leftL q l q.2.2.length), l.map (fun n => sAt q.2.2 n.toNat), 0) := by
  simp [liftAllV, liftC, indexI, askedI, h, h2, h3]
theorem any_idx {q : Sq} {l : List Int} (h : l.any (fun n => !(idxB q n)) = false) (i : Nat) (hi : i < l.length) : idxB q (l.getD i 0) = true := by
  have := List.any_eq_false.1 h _ (getD_in (d := 0) hi)
  simpa using this
noncomputable abbrev liftAInv (q : Sq) (l : List Int) (n : Nat) (σ : List Slot) : Option LoopInv := match n with
  | 8 => some ⟨hvAt Try.f52 8, Nat, fun i => [(8, .own (.slice 41 slabT) (leftL q l i)), (33, .val (.dat iT (i : Int)))], fun i => i ≤ q.2.2.length, fun i => q.2.2.length - i⟩
  | 14 => some ⟨hvAt Try.f52 14, Nat, fun i => [(9, .own (.slice 41 slabT) ((l.take i).map (fun n => sAt q.2.2 n.toNat))), (49, .val (.dat iT (i : Int)))], fun i => i ≤ l.length, fun i => l.length - i⟩
  | _ => none
theorem implLiftAll_ev (q : Sq) (l : List Int) (hl : l.length ≤ 1048576) : Ev Try.prog 52 [aQ q, aIs l] (compsOf [oQ, oSs, rI] (liftAllV q l)) := by
  refine ev_of (l := [oQ, oSs, rI]) (r := (liftAllV q l)) (types (resT) [] (liftAInv q l)) follows Try.func52 (by kernel_rfl) (by rw [Try.ntmps52]; exact Nat.le_of_ble_eq_true rfl) ?_
  have key : (inR IntKind.i8 q.fst → inR IntKind.i8 q.snd.fst → (q.snd.snd.length ≤ 9223372036854775807 ∧ ∀ (x : Int × Int × Int × Int), List.Mem x q.snd.snd → inR IntKind.i8 x.fst ∧ inR IntKind.i8 x.snd.fst ∧ inR
      IntKind.i8 x.snd.snd.fst ∧ inR IntKind.i8 x.snd.snd.snd) → (l.length ≤ 9223372036854775807 ∧ ∀ (x : Int), List.Mem x l → inR IntKind.i64 x) → inR IntKind.i8 q.fst → inR IntKind.i8 q.snd.fst →
      (q.snd.snd.length ≤ 9223372036854775807 ∧ ∀ (x : Int × Int × Int × Int), List.Mem x q.snd.snd → inR IntKind.i8 x.fst ∧ inR IntKind.i8 x.snd.fst ∧ inR IntKind.i8 x.snd.snd.fst ∧ inR IntKind.i8
      x.snd.snd.snd) → ∃ (r : Int), Ev Try.prog 99 [Arg.imm (D.dat (sqT 41) q), Arg.imm (D.dat (Ty.slice 2 (Ty.int IntKind.i64)) l)] (compsOf [(false, Ty.int IntKind.i64)] r) ∧ (inR IntKind.i64 r → split
      (decide (r = 0)) (∃ (r_1 : Bool), Ev Try.prog 100 [Arg.imm (D.dat (Ty.slice 2 (Ty.int IntKind.i64)) l)] (compsOf [(false, Ty.bool)] r_1) ∧ split (!r_1) ((0, 0, []) = (liftAllV q l).fst ∧ [] =
      (liftAllV q l).snd.fst ∧ 4 = (liftAllV q l).snd.snd) (split (!decide (r = 0)) ((0, 0, []) = (liftAllV q l).fst ∧ [] = (liftAllV q l).snd.fst ∧ r = (liftAllV q l).snd.snd) ((q.snd.snd.length ≤
      9223372036854775807 ∧ ∀ (x : Int × Int × Int × Int), List.Mem x q.snd.snd → inR IntKind.i8 x.fst ∧ inR IntKind.i8 x.snd.fst ∧ inR IntKind.i8 x.snd.snd.fst ∧ inR IntKind.i8 x.snd.snd.snd) →
      ((q.snd.snd.length : Nat) : Int) ≤ 9223372036854775807 → (∃ (x0 : Nat), (Slot.own (Ty.slice 41 slabT) [] = Slot.own (Ty.slice 41 slabT) (leftL q l x0) ∧ Slot.val (D.dat (Ty.int IntKind.i64) 0) =
      Slot.val (D.dat iT ((x0 : Nat) : Int))) ∧ x0 ≤ q.snd.snd.length) ∧ ∀ (x : Nat), x ≤ q.snd.snd.length → ((leftL q l x).length ≤ 9223372036854775807 ∧ ∀ (x_1 : Int × Int × Int × Int), List.Mem x_1
      (leftL q l x) → inR IntKind.i8 x_1.fst ∧ inR IntKind.i8 x_1.snd.fst ∧ inR IntKind.i8 x_1.snd.snd.fst ∧ inR IntKind.i8 x_1.snd.snd.snd) → inR IntKind.i64 ((x : Nat) : Int) → split (decide (((x : Nat)
      : Int) < ((q.snd.snd.length : Nat) : Int))) ((0 ≤ ((x : Nat) : Int) ∧ ((x : Nat) : Int) < ((q.snd.snd.length : Nat) : Int)) ∧ (inR IntKind.i8 (q.snd.snd.getD (((x : Nat) : Int)).toNat (0, 0, 0,
      0)).fst → inR IntKind.i8 (q.snd.snd.getD (((x : Nat) : Int)).toNat (0, 0, 0, 0)).snd.fst → inR IntKind.i8 (q.snd.snd.getD (((x : Nat) : Int)).toNat (0, 0, 0, 0)).snd.snd.fst → inR IntKind.i8
      (q.snd.snd.getD (((x : Nat) : Int)).toNat (0, 0, 0, 0)).snd.snd.snd → ∃ (r : Bool), Ev Try.prog 88 [Arg.imm (D.dat (Ty.slice 2 (Ty.int IntKind.i64)) l), Arg.imm (D.dat iT ((x : Nat) : Int))] (compsOf
      [(false, Ty.bool)] r) ∧ split (!r) (inR IntKind.i8 (q.snd.snd.getD (((x : Nat) : Int)).toNat (0, 0, 0, 0)).fst → inR IntKind.i8 (q.snd.snd.getD (((x : Nat) : Int)).toNat (0, 0, 0, 0)).snd.fst → inR
      IntKind.i8 (q.snd.snd.getD (((x : Nat) : Int)).toNat (0, 0, 0, 0)).snd.snd.fst → inR IntKind.i8 (q.snd.snd.getD (((x : Nat) : Int)).toNat (0, 0, 0, 0)).snd.snd.snd → (leftL q l x).length +
      [q.snd.snd.getD (((x : Nat) : Int)).toNat (0, 0, 0, 0)].length ≤ 4294967296 ∧ (-9223372036854775808 ≤ ((x : Nat) : Int) + 1 ∧ ((x : Nat) : Int) + 1 ≤ 9223372036854775807) ∧ ∃ (x' : Nat), (Slot.own
      (Ty.slice 41 slabT) (leftL q l x ++ [q.snd.snd.getD (((x : Nat) : Int)).toNat (0, 0, 0, 0)]) = Slot.own (Ty.slice 41 slabT) (leftL q l x') ∧ Slot.val (D.dat (Ty.int IntKind.i64) (((x : Nat) : Int) +
      1)) = Slot.val (D.dat iT ((x' : Nat) : Int))) ∧ x' ≤ q.snd.snd.length ∧ q.snd.snd.length - x' < q.snd.snd.length - x) ((-9223372036854775808 ≤ ((x : Nat) : Int) + 1 ∧ ((x : Nat) : Int) + 1 ≤
      9223372036854775807) ∧ ∃ (x' : Nat), (Slot.own (Ty.slice 41 slabT) (leftL q l x) = Slot.own (Ty.slice 41 slabT) (leftL q l x') ∧ Slot.val (D.dat (Ty.int IntKind.i64) (((x : Nat) : Int) + 1)) =
      Slot.val (D.dat iT ((x' : Nat) : Int))) ∧ x' ≤ q.snd.snd.length ∧ q.snd.snd.length - x' < q.snd.snd.length - x))) (((l.length : Nat) : Int) ≤ 9223372036854775807 → (∃ (x0 : Nat), (Slot.own (Ty.slice
      41 slabT) [] = Slot.own (Ty.slice 41 slabT) (List.map (fun (n : Int) => q.snd.snd.getD n.toNat (0, 0, 0, 0)) (List.take x0 l)) ∧ Slot.val (D.dat (Ty.int IntKind.i64) 0) = Slot.val (D.dat iT ((x0 :
      Nat) : Int))) ∧ x0 ≤ l.length) ∧ ∀ (x_1 : Nat), x_1 ≤ l.length → ((List.map (fun (n : Int) => q.snd.snd.getD n.toNat (0, 0, 0, 0)) (List.take x_1 l)).length ≤ 9223372036854775807 ∧ ∀ (x : Int × Int ×
      Int × Int), List.Mem x (List.map (fun (n : Int) => q.snd.snd.getD n.toNat (0, 0, 0, 0)) (List.take x_1 l)) → inR IntKind.i8 x.fst ∧ inR IntKind.i8 x.snd.fst ∧ inR IntKind.i8 x.snd.snd.fst ∧ inR
      IntKind.i8 x.snd.snd.snd) → inR IntKind.i64 ((x_1 : Nat) : Int) → split (decide (((x_1 : Nat) : Int) < ((l.length : Nat) : Int))) ((0 ≤ ((x_1 : Nat) : Int) ∧ ((x_1 : Nat) : Int) < ((l.length : Nat) :
      Int)) ∧ (inR IntKind.i64 (l.getD (((x_1 : Nat) : Int)).toNat 0) → (q.snd.snd.length ≤ 9223372036854775807 ∧ ∀ (x : Int × Int × Int × Int), List.Mem x q.snd.snd → inR IntKind.i8 x.fst ∧ inR IntKind.i8
      x.snd.fst ∧ inR IntKind.i8 x.snd.snd.fst ∧ inR IntKind.i8 x.snd.snd.snd) → (0 ≤ l.getD (((x_1 : Nat) : Int)).toNat 0 ∧ l.getD (((x_1 : Nat) : Int)).toNat 0 < ((q.snd.snd.length : Nat) : Int)) ∧ (inR
      IntKind.i8 (q.snd.snd.getD (l.getD (((x_1 : Nat) : Int)).toNat 0).toNat (0, 0, 0, 0)).fst → inR IntKind.i8 (q.snd.snd.getD (l.getD (((x_1 : Nat) : Int)).toNat 0).toNat (0, 0, 0, 0)).snd.fst → inR
      IntKind.i8 (q.snd.snd.getD (l.getD (((x_1 : Nat) : Int)).toNat 0).toNat (0, 0, 0, 0)).snd.snd.fst → inR IntKind.i8 (q.snd.snd.getD (l.getD (((x_1 : Nat) : Int)).toNat 0).toNat (0, 0, 0,
      0)).snd.snd.snd → (List.map (fun (n : Int) => q.snd.snd.getD n.toNat (0, 0, 0, 0)) (List.take x_1 l)).length + [q.snd.snd.getD (l.getD (((x_1 : Nat) : Int)).toNat 0).toNat (0, 0, 0, 0)].length ≤
      4294967296 ∧ (-9223372036854775808 ≤ ((x_1 : Nat) : Int) + 1 ∧ ((x_1 : Nat) : Int) + 1 ≤ 9223372036854775807) ∧ ∃ (x' : Nat), (Slot.own (Ty.slice 41 slabT) (List.map (fun (n : Int) => q.snd.snd.getD
      n.toNat (0, 0, 0, 0)) (List.take x_1 l) ++ [q.snd.snd.getD (l.getD (((x_1 : Nat) : Int)).toNat 0).toNat (0, 0, 0, 0)]) = Slot.own (Ty.slice 41 slabT) (List.map (fun (n : Int) => q.snd.snd.getD
      n.toNat (0, 0, 0, 0)) (List.take x' l)) ∧ Slot.val (D.dat (Ty.int IntKind.i64) (((x_1 : Nat) : Int) + 1)) = Slot.val (D.dat iT ((x' : Nat) : Int))) ∧ x' ≤ l.length ∧ l.length - x' < l.length - x_1)))
      (inR IntKind.i8 q.fst → inR IntKind.i8 q.snd.fst → (q.snd.snd.length ≤ 9223372036854775807 ∧ ∀ (x : Int × Int × Int × Int), List.Mem x q.snd.snd → inR IntKind.i8 x.fst ∧ inR IntKind.i8 x.snd.fst ∧
      inR IntKind.i8 x.snd.snd.fst ∧ inR IntKind.i8 x.snd.snd.snd) → ∃ (r : Int × Int × List (Int × Int × Int × Int)), Ev Try.prog 101 [Arg.imm (D.dat (sqT 41) q), Arg.imm (D.dat (Ty.slice 41 slabT) (leftL
      q l x))] (compsOf [(true, (Ty.int IntKind.i8).prod ((Ty.int IntKind.i8).prod (Ty.slice 41 ((Ty.int IntKind.i8).prod ((Ty.int IntKind.i8).prod ((Ty.int IntKind.i8).prod (Ty.int IntKind.i8)))))))] r) ∧
      (inR IntKind.i8 r.fst → inR IntKind.i8 r.snd.fst → (r.snd.snd.length ≤ 9223372036854775807 ∧ ∀ (x : Int × Int × Int × Int), List.Mem x r.snd.snd → inR IntKind.i8 x.fst ∧ inR IntKind.i8 x.snd.fst ∧
      inR IntKind.i8 x.snd.snd.fst ∧ inR IntKind.i8 x.snd.snd.snd) → r = (liftAllV q l).fst ∧ List.map (fun (n : Int) => q.snd.snd.getD n.toNat (0, 0, 0, 0)) (List.take x_1 l) = (liftAllV q l).snd.fst ∧ 0
      = (liftAllV q l).snd.snd)))))) (split (!decide (r = 0)) ((0, 0, []) = (liftAllV q l).fst ∧ [] = (liftAllV q l).snd.fst ∧ r = (liftAllV q l).snd.snd) ((q.snd.snd.length ≤ 9223372036854775807 ∧ ∀ (x :
      Int × Int × Int × Int), List.Mem x q.snd.snd → inR IntKind.i8 x.fst ∧ inR IntKind.i8 x.snd.fst ∧ inR IntKind.i8 x.snd.snd.fst ∧ inR IntKind.i8 x.snd.snd.snd) → ((q.snd.snd.length : Nat) : Int) ≤
      9223372036854775807 → (∃ (x0 : Nat), (Slot.own (Ty.slice 41 slabT) [] = Slot.own (Ty.slice 41 slabT) (leftL q l x0) ∧ Slot.val (D.dat (Ty.int IntKind.i64) 0) = Slot.val (D.dat iT ((x0 : Nat) : Int)))
      ∧ x0 ≤ q.snd.snd.length) ∧ ∀ (x : Nat), x ≤ q.snd.snd.length → ((leftL q l x).length ≤ 9223372036854775807 ∧ ∀ (x_1 : Int × Int × Int × Int), List.Mem x_1 (leftL q l x) → inR IntKind.i8 x_1.fst ∧ inR
      IntKind.i8 x_1.snd.fst ∧ inR IntKind.i8 x_1.snd.snd.fst ∧ inR IntKind.i8 x_1.snd.snd.snd) → inR IntKind.i64 ((x : Nat) : Int) → split (decide (((x : Nat) : Int) < ((q.snd.snd.length : Nat) : Int)))
      ((0 ≤ ((x : Nat) : Int) ∧ ((x : Nat) : Int) < ((q.snd.snd.length : Nat) : Int)) ∧ (inR IntKind.i8 (q.snd.snd.getD (((x : Nat) : Int)).toNat (0, 0, 0, 0)).fst → inR IntKind.i8 (q.snd.snd.getD (((x :
      Nat) : Int)).toNat (0, 0, 0, 0)).snd.fst → inR IntKind.i8 (q.snd.snd.getD (((x : Nat) : Int)).toNat (0, 0, 0, 0)).snd.snd.fst → inR IntKind.i8 (q.snd.snd.getD (((x : Nat) : Int)).toNat (0, 0, 0,
      0)).snd.snd.snd → ∃ (r : Bool), Ev Try.prog 88 [Arg.imm (D.dat (Ty.slice 2 (Ty.int IntKind.i64)) l), Arg.imm (D.dat iT ((x : Nat) : Int))] (compsOf [(false, Ty.bool)] r) ∧ split (!r) (inR IntKind.i8
      (q.snd.snd.getD (((x : Nat) : Int)).toNat (0, 0, 0, 0)).fst → inR IntKind.i8 (q.snd.snd.getD (((x : Nat) : Int)).toNat (0, 0, 0, 0)).snd.fst → inR IntKind.i8 (q.snd.snd.getD (((x : Nat) : Int)).toNat
      (0, 0, 0, 0)).snd.snd.fst → inR IntKind.i8 (q.snd.snd.getD (((x : Nat) : Int)).toNat (0, 0, 0, 0)).snd.snd.snd → (leftL q l x).length + [q.snd.snd.getD (((x : Nat) : Int)).toNat (0, 0, 0, 0)].length
      ≤ 4294967296 ∧ (-9223372036854775808 ≤ ((x : Nat) : Int) + 1 ∧ ((x : Nat) : Int) + 1 ≤ 9223372036854775807) ∧ ∃ (x' : Nat), (Slot.own (Ty.slice 41 slabT) (leftL q l x ++ [q.snd.snd.getD (((x : Nat) :
      Int)).toNat (0, 0, 0, 0)]) = Slot.own (Ty.slice 41 slabT) (leftL q l x') ∧ Slot.val (D.dat (Ty.int IntKind.i64) (((x : Nat) : Int) + 1)) = Slot.val (D.dat iT ((x' : Nat) : Int))) ∧ x' ≤
      q.snd.snd.length ∧ q.snd.snd.length - x' < q.snd.snd.length - x) ((-9223372036854775808 ≤ ((x : Nat) : Int) + 1 ∧ ((x : Nat) : Int) + 1 ≤ 9223372036854775807) ∧ ∃ (x' : Nat), (Slot.own (Ty.slice 41
      slabT) (leftL q l x) = Slot.own (Ty.slice 41 slabT) (leftL q l x') ∧ Slot.val (D.dat (Ty.int IntKind.i64) (((x : Nat) : Int) + 1)) = Slot.val (D.dat iT ((x' : Nat) : Int))) ∧ x' ≤ q.snd.snd.length ∧
      q.snd.snd.length - x' < q.snd.snd.length - x))) (((l.length : Nat) : Int) ≤ 9223372036854775807 → (∃ (x0 : Nat), (Slot.own (Ty.slice 41 slabT) [] = Slot.own (Ty.slice 41 slabT) (List.map (fun (n :
      Int) => q.snd.snd.getD n.toNat (0, 0, 0, 0)) (List.take x0 l)) ∧ Slot.val (D.dat (Ty.int IntKind.i64) 0) = Slot.val (D.dat iT ((x0 : Nat) : Int))) ∧ x0 ≤ l.length) ∧ ∀ (x_1 : Nat), x_1 ≤ l.length →
      ((List.map (fun (n : Int) => q.snd.snd.getD n.toNat (0, 0, 0, 0)) (List.take x_1 l)).length ≤ 9223372036854775807 ∧ ∀ (x : Int × Int × Int × Int), List.Mem x (List.map (fun (n : Int) =>
      q.snd.snd.getD n.toNat (0, 0, 0, 0)) (List.take x_1 l)) → inR IntKind.i8 x.fst ∧ inR IntKind.i8 x.snd.fst ∧ inR IntKind.i8 x.snd.snd.fst ∧ inR IntKind.i8 x.snd.snd.snd) → inR IntKind.i64 ((x_1 : Nat)
      : Int) → split (decide (((x_1 : Nat) : Int) < ((l.length : Nat) : Int))) ((0 ≤ ((x_1 : Nat) : Int) ∧ ((x_1 : Nat) : Int) < ((l.length : Nat) : Int)) ∧ (inR IntKind.i64 (l.getD (((x_1 : Nat) :
      Int)).toNat 0) → (q.snd.snd.length ≤ 9223372036854775807 ∧ ∀ (x : Int × Int × Int × Int), List.Mem x q.snd.snd → inR IntKind.i8 x.fst ∧ inR IntKind.i8 x.snd.fst ∧ inR IntKind.i8 x.snd.snd.fst ∧ inR
      IntKind.i8 x.snd.snd.snd) → (0 ≤ l.getD (((x_1 : Nat) : Int)).toNat 0 ∧ l.getD (((x_1 : Nat) : Int)).toNat 0 < ((q.snd.snd.length : Nat) : Int)) ∧ (inR IntKind.i8 (q.snd.snd.getD (l.getD (((x_1 :
      Nat) : Int)).toNat 0).toNat (0, 0, 0, 0)).fst → inR IntKind.i8 (q.snd.snd.getD (l.getD (((x_1 : Nat) : Int)).toNat 0).toNat (0, 0, 0, 0)).snd.fst → inR IntKind.i8 (q.snd.snd.getD (l.getD (((x_1 :
      Nat) : Int)).toNat 0).toNat (0, 0, 0, 0)).snd.snd.fst → inR IntKind.i8 (q.snd.snd.getD (l.getD (((x_1 : Nat) : Int)).toNat 0).toNat (0, 0, 0, 0)).snd.snd.snd → (List.map (fun (n : Int) =>
      q.snd.snd.getD n.toNat (0, 0, 0, 0)) (List.take x_1 l)).length + [q.snd.snd.getD (l.getD (((x_1 : Nat) : Int)).toNat 0).toNat (0, 0, 0, 0)].length ≤ 4294967296 ∧ (-9223372036854775808 ≤ ((x_1 : Nat)
      : Int) + 1 ∧ ((x_1 : Nat) : Int) + 1 ≤ 9223372036854775807) ∧ ∃ (x' : Nat), (Slot.own (Ty.slice 41 slabT) (List.map (fun (n : Int) => q.snd.snd.getD n.toNat (0, 0, 0, 0)) (List.take x_1 l) ++
      [q.snd.snd.getD (l.getD (((x_1 : Nat) : Int)).toNat 0).toNat (0, 0, 0, 0)]) = Slot.own (Ty.slice 41 slabT) (List.map (fun (n : Int) => q.snd.snd.getD n.toNat (0, 0, 0, 0)) (List.take x' l)) ∧
      Slot.val (D.dat (Ty.int IntKind.i64) (((x_1 : Nat) : Int) + 1)) = Slot.val (D.dat iT ((x' : Nat) : Int))) ∧ x' ≤ l.length ∧ l.length - x' < l.length - x_1))) (inR IntKind.i8 q.fst → inR IntKind.i8
      q.snd.fst → (q.snd.snd.length ≤ 9223372036854775807 ∧ ∀ (x : Int × Int × Int × Int), List.Mem x q.snd.snd → inR IntKind.i8 x.fst ∧ inR IntKind.i8 x.snd.fst ∧ inR IntKind.i8 x.snd.snd.fst ∧ inR
      IntKind.i8 x.snd.snd.snd) → ∃ (r : Int × Int × List (Int × Int × Int × Int)), Ev Try.prog 101 [Arg.imm (D.dat (sqT 41) q), Arg.imm (D.dat (Ty.slice 41 slabT) (leftL q l x))] (compsOf [(true, (Ty.int
      IntKind.i8).prod ((Ty.int IntKind.i8).prod (Ty.slice 41 ((Ty.int IntKind.i8).prod ((Ty.int IntKind.i8).prod ((Ty.int IntKind.i8).prod (Ty.int IntKind.i8)))))))] r) ∧ (inR IntKind.i8 r.fst → inR
      IntKind.i8 r.snd.fst → (r.snd.snd.length ≤ 9223372036854775807 ∧ ∀ (x : Int × Int × Int × Int), List.Mem x r.snd.snd → inR IntKind.i8 x.fst ∧ inR IntKind.i8 x.snd.fst ∧ inR IntKind.i8 x.snd.snd.fst ∧
      inR IntKind.i8 x.snd.snd.snd) → r = (liftAllV q l).fst ∧ List.map (fun (n : Int) => q.snd.snd.getD n.toNat (0, 0, 0, 0)) (List.take x_1 l) = (liftAllV q l).snd.fst ∧ 0 = (liftAllV q l).snd.snd))))))) := by
    intros
    refine ⟨_, indexCode_ev q l, fun _ => split_of (fun h0 => ?_) (fun h0 => ?_)⟩
    rotate_left
    · have h0 := of_decide_eq_false h0
      refine split_of (fun _ => ?_) (fun h => absurd (of_decide_eq_true (not_f h)) h0)
      have e : liftC q l = indexI q l := by rw [liftC, if_neg h0]
      rw [liftAllV, if_neg (by rw [e]; exact h0), e]
      exact ⟨rfl, rfl, rfl⟩
    have h0 := of_decide_eq_true h0
    have hq : okQ q = true := by
      cases c : okQ q with
      | true => rfl
      | false => simp [indexI, askedI, c] at h0
    have hi2 : l.any (fun n => !(idxB q n)) = false := by
      cases c : l.any (fun n => !(idxB q n)) with
      | false => rfl
      | true => simp [indexI, askedI, hq, c] at h0
    have k := okQ_iff.1 hq
    have kn := k.n
    refine ⟨_, isEach_ev l hl, split_of (fun h3 => ?_) (fun h3 => ?_)⟩
    · rw [lift4 hq hi2 (not_t h3)]; exact ⟨rfl, rfl, rfl⟩
    have h3 := not_f h3
    refine split_of (fun h => absurd h0 (of_decide_eq_false (not_t h))) (fun _ => ?_)
    intros
    refine ⟨⟨0, ⟨rfl, rfl⟩, by omega⟩, fun i hi _ _ => split_of (fun h4 => ?_) (fun h4 => ?_)⟩
    · have h4 := of_decide_eq_true h4
      have hs := leftL_succ q l i
      have hll := leftL_len q l i
      simp only [Int.toNat_natCast]
      refine ⟨by omega, ?_⟩
      intros
      refine ⟨_, containsE_ev _ _, split_of (fun h5 => ?_) (fun h5 => ?_)⟩
      · intros
        refine ⟨by simp; omega, by omega, i + 1, ⟨?_, rfl⟩, by omega, by omega⟩
        rw [hs, if_neg (by rw [not_t h5]; simp)]
      · refine ⟨by omega, i + 1, ⟨?_, rfl⟩, by omega, by omega⟩
        rw [hs, if_pos (not_f h5), List.append_nil]
    have h4 := of_decide_eq_false h4
    obtain rfl : i = q.2.2.length := by omega
    refine fun _ => ⟨⟨0, ⟨rfl, rfl⟩, by omega⟩, fun i hi _ _ => split_of (fun h5 => ?_) (fun h5 => ?_)⟩
    · have h5 := of_decide_eq_true h5
      have hb := idx_in (any_idx hi2 i (by omega))
      simp only [Int.toNat_natCast]
      refine ⟨by omega, fun _ _ => ⟨by omega, ?_⟩⟩
      intros
      refine ⟨by simp; omega, by omega, i + 1, ⟨?_, rfl⟩, by omega, by omega⟩
      rw [slabs_next (by omega)]
    · have h5 := of_decide_eq_false h5
      obtain rfl : i = l.length := by omega
      have hll := leftL_len q l q.2.2.length
      intros
      refine ⟨_, with_ev q _ (by omega), ?_⟩
      intros
      rw [lift0 hq hi2 h3, List.take_length, withV, leftL_sort k l (Nat.le_refl _)]
      exact ⟨rfl, rfl, rfl⟩
  refine @Eq.mpr _ _ (?_) key
  kernel_rfl
noncomputable abbrev liftBInv (q : Sq) (l : List Int) (n : Nat) (σ : List Slot) : Option LoopInv := match n with
  | 4 => some ⟨4 :: hvAt Try.f51 4, Nat, fun i => [(4, .boxo (sqT 41) (0, 0, [])), (7, .val (.dat iT (i : Int)))], fun i => i ≤ l.length ∧ ∀ j : Nat, j < i → idxB q (l.getD j 0) = true, fun i => l.length - i⟩
  | 10 => some ⟨4 :: hvAt Try.f51 10, Nat, fun i => [(4, .boxo (sqT 41) (0, 0, [])), (8, .own (.slice 41 slabT) ((l.take i).map (fun n => sAt q.2.2 n.toNat))), (9, .val (.dat iT (i : Int)))], fun i => i ≤ l.length ∧ ∀ j : Nat, j < i → hasB (l.take j) (l.getD j 0) = false, fun i => l.length - i⟩
  | 17 => some ⟨10 :: hvAt Try.f51 17, Nat, fun i => [(10, .boxo (sqT 41) (q.1, q.2.1, leftL q l i)), (11, .val (.dat iT (i : Int)))], fun i => i ≤ q.2.2.length, fun i => q.2.2.length - i⟩
  | _ => none
theorem specLiftAll_ev (q : Sq) (l : List Int) (hl : l.length ≤ 1048576) : Ev Try.prog 51 [aQ q, aIs l] (compsOf [oQ, oSs, rI] (liftAllV q l)) := by
  refine ev_of (l := [oQ, oSs, rI]) (r := (liftAllV q l)) (types (resT) [] (liftBInv q l)) follows Try.func51 (by kernel_rfl) (by rw [Try.ntmps51]; exact Nat.le_of_ble_eq_true rfl) ?_
  have key : (inR IntKind.i8 q.fst → inR IntKind.i8 q.snd.fst → (q.snd.snd.length ≤ 9223372036854775807 ∧ ∀ (x : Int × Int × Int × Int), List.Mem x q.snd.snd → inR IntKind.i8 x.fst ∧ inR IntKind.i8 x.snd.fst ∧ inR
      IntKind.i8 x.snd.snd.fst ∧ inR IntKind.i8 x.snd.snd.snd) → (l.length ≤ 9223372036854775807 ∧ ∀ (x : Int), List.Mem x l → inR IntKind.i64 x) → ∃ (r : Bool), Ev Try.prog 59 [Arg.imm (D.dat (sqT 41)
      q).ref] (compsOf [(false, Ty.bool)] r) ∧ split (!r) ((0, 0, []) = (liftAllV q l).fst ∧ [] = (liftAllV q l).snd.fst ∧ 1 = (liftAllV q l).snd.snd) ((∃ (x0 : Nat), (Slot.boxo (sqT 41) (0, 0, []) =
      Slot.boxo (sqT 41) (0, 0, []) ∧ Slot.val (D.dat (Ty.int IntKind.i64) 0) = Slot.val (D.dat iT ((x0 : Nat) : Int))) ∧ x0 ≤ l.length ∧ ∀ (j : Nat), j < x0 → idxB q (l.getD j 0) = true) ∧ ∀ (x : Nat), (x
      ≤ l.length ∧ ∀ (j : Nat), j < x → idxB q (l.getD j 0) = true) → inR IntKind.i8 0 → inR IntKind.i8 0 → ((0 : Nat) ≤ 9223372036854775807 ∧ ∀ (x : Int × Int × Int × Int), List.Mem x [] → inR IntKind.i8
      x.fst ∧ inR IntKind.i8 x.snd.fst ∧ inR IntKind.i8 x.snd.snd.fst ∧ inR IntKind.i8 x.snd.snd.snd) → inR IntKind.i64 ((x : Nat) : Int) → ((l.length : Nat) : Int) ≤ 9223372036854775807 → split (decide
      (((x : Nat) : Int) < ((l.length : Nat) : Int))) ((0 ≤ ((x : Nat) : Int) ∧ ((x : Nat) : Int) < ((l.length : Nat) : Int)) ∧ (inR IntKind.i64 (l.getD (((x : Nat) : Int)).toNat 0) → ∃ (r : Bool), Ev
      Try.prog 97 [Arg.imm (D.dat (sqT 41) q).ref, Arg.imm (D.dat (Ty.int IntKind.i64) (l.getD (((x : Nat) : Int)).toNat 0))] (compsOf [(false, Ty.bool)] r) ∧ split (!r) ((0, 0, []) = (liftAllV q l).fst ∧
      [] = (liftAllV q l).snd.fst ∧ 2 = (liftAllV q l).snd.snd) ((-9223372036854775808 ≤ ((x : Nat) : Int) + 1 ∧ ((x : Nat) : Int) + 1 ≤ 9223372036854775807) ∧ ∃ (x' : Nat), (Slot.boxo (sqT 41) (0, 0, [])
      = Slot.boxo (sqT 41) (0, 0, []) ∧ Slot.val (D.dat (Ty.int IntKind.i64) (((x : Nat) : Int) + 1)) = Slot.val (D.dat iT ((x' : Nat) : Int))) ∧ (x' ≤ l.length ∧ ∀ (j : Nat), j < x' → idxB q (l.getD j 0)
      = true) ∧ l.length - x' < l.length - x))) ((∃ (x0 : Nat), (Slot.boxo (sqT 41) (0, 0, []) = Slot.boxo (sqT 41) (0, 0, []) ∧ Slot.own (Ty.slice 41 slabT) [] = Slot.own (Ty.slice 41 slabT) (List.map
      (fun (n : Int) => q.snd.snd.getD n.toNat (0, 0, 0, 0)) (List.take x0 l)) ∧ Slot.val (D.dat (Ty.int IntKind.i64) 0) = Slot.val (D.dat iT ((x0 : Nat) : Int))) ∧ x0 ≤ l.length ∧ ∀ (j : Nat), j < x0 →
      hasB (List.take j l) (l.getD j 0) = false) ∧ ∀ (x : Nat), (x ≤ l.length ∧ ∀ (j : Nat), j < x → hasB (List.take j l) (l.getD j 0) = false) → inR IntKind.i8 0 → inR IntKind.i8 0 → ((0 : Nat) ≤
      9223372036854775807 ∧ ∀ (x : Int × Int × Int × Int), List.Mem x [] → inR IntKind.i8 x.fst ∧ inR IntKind.i8 x.snd.fst ∧ inR IntKind.i8 x.snd.snd.fst ∧ inR IntKind.i8 x.snd.snd.snd) → ((List.map (fun
      (n : Int) => q.snd.snd.getD n.toNat (0, 0, 0, 0)) (List.take x l)).length ≤ 9223372036854775807 ∧ ∀ (x_1 : Int × Int × Int × Int), List.Mem x_1 (List.map (fun (n : Int) => q.snd.snd.getD n.toNat (0,
      0, 0, 0)) (List.take x l)) → inR IntKind.i8 x_1.fst ∧ inR IntKind.i8 x_1.snd.fst ∧ inR IntKind.i8 x_1.snd.snd.fst ∧ inR IntKind.i8 x_1.snd.snd.snd) → inR IntKind.i64 ((x : Nat) : Int) → ((l.length :
      Nat) : Int) ≤ 9223372036854775807 → split (decide (((x : Nat) : Int) < ((l.length : Nat) : Int))) (((0 : Int) ≤ 0 ∧ 0 ≤ ((x : Nat) : Int) ∧ ((x : Nat) : Int) ≤ ((l.length : Nat) : Int)) ∧ (0 ≤ ((x :
      Nat) : Int) ∧ ((x : Nat) : Int) < ((l.length : Nat) : Int)) ∧ (inR IntKind.i64 (l.getD (((x : Nat) : Int)).toNat 0) → ∃ (r : Bool), Ev Try.prog 98 [Arg.imm (D.dat (Ty.slice 2 (Ty.int IntKind.i64))
      (List.drop (Int.toNat 0) (List.take (((x : Nat) : Int)).toNat l))), Arg.imm (D.dat (Ty.int IntKind.i64) (l.getD (((x : Nat) : Int)).toNat 0))] (compsOf [(false, Ty.bool)] r) ∧ split r ((0, 0, []) =
      (liftAllV q l).fst ∧ [] = (liftAllV q l).snd.fst ∧ 4 = (liftAllV q l).snd.snd) ((q.snd.snd.length ≤ 9223372036854775807 ∧ ∀ (x : Int × Int × Int × Int), List.Mem x q.snd.snd → inR IntKind.i8 x.fst ∧
      inR IntKind.i8 x.snd.fst ∧ inR IntKind.i8 x.snd.snd.fst ∧ inR IntKind.i8 x.snd.snd.snd) → (0 ≤ ((x : Nat) : Int) ∧ ((x : Nat) : Int) < ((l.length : Nat) : Int)) ∧ (inR IntKind.i64 (l.getD (((x : Nat)
      : Int)).toNat 0) → (0 ≤ l.getD (((x : Nat) : Int)).toNat 0 ∧ l.getD (((x : Nat) : Int)).toNat 0 < ((q.snd.snd.length : Nat) : Int)) ∧ (inR IntKind.i8 (q.snd.snd.getD (l.getD (((x : Nat) : Int)).toNat
      0).toNat (0, 0, 0, 0)).fst → inR IntKind.i8 (q.snd.snd.getD (l.getD (((x : Nat) : Int)).toNat 0).toNat (0, 0, 0, 0)).snd.fst → inR IntKind.i8 (q.snd.snd.getD (l.getD (((x : Nat) : Int)).toNat
      0).toNat (0, 0, 0, 0)).snd.snd.fst → inR IntKind.i8 (q.snd.snd.getD (l.getD (((x : Nat) : Int)).toNat 0).toNat (0, 0, 0, 0)).snd.snd.snd → (List.map (fun (n : Int) => q.snd.snd.getD n.toNat (0, 0, 0,
      0)) (List.take x l)).length + [q.snd.snd.getD (l.getD (((x : Nat) : Int)).toNat 0).toNat (0, 0, 0, 0)].length ≤ 4294967296 ∧ (-9223372036854775808 ≤ ((x : Nat) : Int) + 1 ∧ ((x : Nat) : Int) + 1 ≤
      9223372036854775807) ∧ ∃ (x' : Nat), (Slot.boxo (sqT 41) (0, 0, []) = Slot.boxo (sqT 41) (0, 0, []) ∧ Slot.own (Ty.slice 41 slabT) (List.map (fun (n : Int) => q.snd.snd.getD n.toNat (0, 0, 0, 0))
      (List.take x l) ++ [q.snd.snd.getD (l.getD (((x : Nat) : Int)).toNat 0).toNat (0, 0, 0, 0)]) = Slot.own (Ty.slice 41 slabT) (List.map (fun (n : Int) => q.snd.snd.getD n.toNat (0, 0, 0, 0)) (List.take
      x' l)) ∧ Slot.val (D.dat (Ty.int IntKind.i64) (((x : Nat) : Int) + 1)) = Slot.val (D.dat iT ((x' : Nat) : Int))) ∧ (x' ≤ l.length ∧ ∀ (j : Nat), j < x' → hasB (List.take j l) (l.getD j 0) = false) ∧
      l.length - x' < l.length - x))))) (inR IntKind.i8 q.fst → inR IntKind.i8 q.snd.fst → (∃ (x0 : Nat), (Slot.boxo (sqT 41) (q.fst, q.snd.fst, []) = Slot.boxo (sqT 41) (q.fst, q.snd.fst, leftL q l x0) ∧
      Slot.val (D.dat (Ty.int IntKind.i64) 0) = Slot.val (D.dat iT ((x0 : Nat) : Int))) ∧ x0 ≤ q.snd.snd.length) ∧ ∀ (x_1 : Nat), x_1 ≤ q.snd.snd.length → inR IntKind.i8 q.fst → inR IntKind.i8 q.snd.fst →
      ((leftL q l x_1).length ≤ 9223372036854775807 ∧ ∀ (x : Int × Int × Int × Int), List.Mem x (leftL q l x_1) → inR IntKind.i8 x.fst ∧ inR IntKind.i8 x.snd.fst ∧ inR IntKind.i8 x.snd.snd.fst ∧ inR
      IntKind.i8 x.snd.snd.snd) → inR IntKind.i64 ((x_1 : Nat) : Int) → (q.snd.snd.length ≤ 9223372036854775807 ∧ ∀ (x : Int × Int × Int × Int), List.Mem x q.snd.snd → inR IntKind.i8 x.fst ∧ inR IntKind.i8
      x.snd.fst ∧ inR IntKind.i8 x.snd.snd.fst ∧ inR IntKind.i8 x.snd.snd.snd) → ((q.snd.snd.length : Nat) : Int) ≤ 9223372036854775807 → split (decide (((x_1 : Nat) : Int) < ((q.snd.snd.length : Nat) :
      Int))) (∃ (r : Bool), Ev Try.prog 98 [Arg.imm (D.dat (Ty.slice 2 (Ty.int IntKind.i64)) l), Arg.imm (D.dat iT ((x_1 : Nat) : Int))] (compsOf [(false, Ty.bool)] r) ∧ split (!r) (((leftL q l x_1).length
      ≤ 9223372036854775807 ∧ ∀ (x : Int × Int × Int × Int), List.Mem x (leftL q l x_1) → inR IntKind.i8 x.fst ∧ inR IntKind.i8 x.snd.fst ∧ inR IntKind.i8 x.snd.snd.fst ∧ inR IntKind.i8 x.snd.snd.snd) →
      (q.snd.snd.length ≤ 9223372036854775807 ∧ ∀ (x : Int × Int × Int × Int), List.Mem x q.snd.snd → inR IntKind.i8 x.fst ∧ inR IntKind.i8 x.snd.fst ∧ inR IntKind.i8 x.snd.snd.fst ∧ inR IntKind.i8
      x.snd.snd.snd) → (0 ≤ ((x_1 : Nat) : Int) ∧ ((x_1 : Nat) : Int) < ((q.snd.snd.length : Nat) : Int)) ∧ (inR IntKind.i8 (q.snd.snd.getD (((x_1 : Nat) : Int)).toNat (0, 0, 0, 0)).fst → inR IntKind.i8
      (q.snd.snd.getD (((x_1 : Nat) : Int)).toNat (0, 0, 0, 0)).snd.fst → inR IntKind.i8 (q.snd.snd.getD (((x_1 : Nat) : Int)).toNat (0, 0, 0, 0)).snd.snd.fst → inR IntKind.i8 (q.snd.snd.getD (((x_1 : Nat)
      : Int)).toNat (0, 0, 0, 0)).snd.snd.snd → (leftL q l x_1).length + [q.snd.snd.getD (((x_1 : Nat) : Int)).toNat (0, 0, 0, 0)].length ≤ 4294967296 ∧ (-9223372036854775808 ≤ ((x_1 : Nat) : Int) + 1 ∧
      ((x_1 : Nat) : Int) + 1 ≤ 9223372036854775807) ∧ ∃ (x' : Nat), (Slot.boxo (sqT 41) (q.fst, q.snd.fst, leftL q l x_1 ++ [q.snd.snd.getD (((x_1 : Nat) : Int)).toNat (0, 0, 0, 0)]) = Slot.boxo (sqT 41)
      (q.fst, q.snd.fst, leftL q l x') ∧ Slot.val (D.dat (Ty.int IntKind.i64) (((x_1 : Nat) : Int) + 1)) = Slot.val (D.dat iT ((x' : Nat) : Int))) ∧ x' ≤ q.snd.snd.length ∧ q.snd.snd.length - x' <
      q.snd.snd.length - x_1)) ((-9223372036854775808 ≤ ((x_1 : Nat) : Int) + 1 ∧ ((x_1 : Nat) : Int) + 1 ≤ 9223372036854775807) ∧ ∃ (x' : Nat), (Slot.boxo (sqT 41) (q.fst, q.snd.fst, leftL q l x_1) =
      Slot.boxo (sqT 41) (q.fst, q.snd.fst, leftL q l x') ∧ Slot.val (D.dat (Ty.int IntKind.i64) (((x_1 : Nat) : Int) + 1)) = Slot.val (D.dat iT ((x' : Nat) : Int))) ∧ x' ≤ q.snd.snd.length ∧
      q.snd.snd.length - x' < q.snd.snd.length - x_1)) (inR IntKind.i8 q.fst → inR IntKind.i8 q.snd.fst → ((leftL q l x_1).length ≤ 9223372036854775807 ∧ ∀ (x : Int × Int × Int × Int), List.Mem x (leftL q
      l x_1) → inR IntKind.i8 x.fst ∧ inR IntKind.i8 x.snd.fst ∧ inR IntKind.i8 x.snd.snd.fst ∧ inR IntKind.i8 x.snd.snd.snd) → (q.fst, q.snd.fst, leftL q l x_1) = (liftAllV q l).fst ∧ List.map (fun (n :
      Int) => q.snd.snd.getD n.toNat (0, 0, 0, 0)) (List.take x l) = (liftAllV q l).snd.fst ∧ 0 = (liftAllV q l).snd.snd))))) := by
    intros
    refine ⟨_, l01Ok_ev q, ?_⟩
    rw [(layV_is q).1]
    refine split_of (fun h => by rw [lift1 (not_t h)]; exact ⟨rfl, rfl, rfl⟩) (fun hq => ?_)
    have hq := not_f hq
    have k := okQ_iff.1 hq
    have kn := k.n
    refine ⟨⟨0, ⟨rfl, rfl⟩, by omega, fun j hj => absurd hj (Nat.not_lt_zero _)⟩, fun i ⟨hi, hn⟩ => ?_⟩
    intros
    refine split_of (fun h => ?_) (fun h => ?_)
    · have h := of_decide_eq_true h
      simp only [Int.toNat_natCast]
      refine ⟨by omega, fun _ => ⟨_, l01Index_ev q _, split_of (fun h2 => ?_) (fun h2 => ⟨by omega, i + 1, ⟨trivial, rfl⟩, ⟨by omega, upto_step hn (not_f h2)⟩, by omega⟩)⟩⟩
      rw [lift2 hq (any_at (p := fun n => !(idxB q n)) (d := 0) (show i < l.length by omega) h2)]; exact ⟨rfl, rfl, rfl⟩
    have h := of_decide_eq_false h
    have hi2 : l.any (fun n => !(idxB q n)) = false := any_no (d := 0) fun j hj => by rw [hn j (by omega)]; rfl
    refine ⟨⟨0, ⟨rfl, rfl, rfl⟩, by omega, fun j hj => absurd hj (Nat.not_lt_zero _)⟩, fun i ⟨hi, hm⟩ => ?_⟩
    intros
    refine split_of (fun h1 => ?_) (fun h1 => ?_)
    · have h1 := of_decide_eq_true h1
      have hb := idx_in (any_idx hi2 i (by omega))
      simp only [Int.toNat_natCast, Int.toNat_zero, List.drop_zero]
      refine ⟨by omega, by omega, fun _ => ⟨_, l00Has_ev _ _, split_of (fun h2 => ?_) (fun h2 => ?_)⟩⟩
      · have h3 : eachB l = false := by
          cases c : eachB l with
          | false => rfl
          | true => exact absurd (each_iff.1 c) (has_twice (by omega) h2)
        rw [lift4 hq hi2 h3]; exact ⟨rfl, rfl, rfl⟩
      · refine fun _ => ⟨by omega, fun _ => ⟨by omega, ?_⟩⟩
        intros
        refine ⟨by simp; omega, by omega, i + 1, ⟨trivial, ?_, rfl⟩, ⟨by omega, upto_step hm h2⟩, by omega⟩
        rw [slabs_next (by omega)]
    have h1 := of_decide_eq_false h1
    obtain rfl : i = l.length := by omega
    have h3 : eachB l = true := each_iff.2 (nodup_of hm)
    intros
    refine ⟨⟨0, ⟨rfl, rfl⟩, by omega⟩, fun i hi => ?_⟩
    intros
    refine split_of (fun h4 => ?_) (fun h4 => ?_)
    · have h4 := of_decide_eq_true h4
      have hs := leftL_succ q l i
      have hll := leftL_len q l i
      simp only [Int.toNat_natCast]
      refine ⟨_, l00Has_ev _ _, split_of (fun h5 => ?_) (fun h5 => ?_)⟩
      · refine fun _ _ => ⟨by omega, ?_⟩
        intros
        refine ⟨by simp; omega, by omega, i + 1, ⟨?_, rfl⟩, by omega, by omega⟩
        rw [hs, if_neg (by rw [not_t h5]; simp)]
      · refine ⟨by omega, i + 1, ⟨?_, rfl⟩, by omega, by omega⟩
        rw [hs, if_pos (not_f h5), List.append_nil]
    · have h4 := of_decide_eq_false h4
      obtain rfl : i = q.2.2.length := by omega
      intros
      rw [lift0 hq hi2 h3, List.take_length]
      exact ⟨rfl, rfl, rfl⟩
  refine @Eq.mpr _ _ (?_) key
  kernel_rfl
end Go.Proofs.Ytmjijggkdbiijaa
