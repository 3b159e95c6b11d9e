/- Slabs that can be put, that can be laid. No statement is proved here. -/
import Derived.Test.YtmjijggkdbiijaaSf
namespace Go.Proofs.Ytmjijggkdbiijaa
open Go.RowKit
set_option linter.unusedVariables false
set_option linter.unusedSimpArgs false
set_option maxRecDepth 100000
set_option maxHeartbeats 4000000
theorem valB_eq {x y : Bool} (h : x = y) : Slot.val (.dat .bool x) = Slot.val (.dat .bool y) := by rw [h]
theorem not_t {b : Bool} (h : (!b) = true) : b = false := by cases b <;> simp_all
theorem not_f {b : Bool} (h : (!b) = false) : b = true := by cases b <;> simp_all
theorem ok_mem {q : Sq} (k : OkQ q) {t : Sl} (ht : t ∈ q.2.2) : slabIn q.1 q.2.1 t = true := by
  obtain ⟨j, hj, rfl⟩ := List.getElem_of_mem ht
  have := (k.sl j hj).inn
  rwa [show sAt q.2.2 j = q.2.2[j] by simp [List.getD_eq_getElem?_getD, hj]] at this
theorem covI_iff {l : List Sl} {x y : Int} : covI l x y ≠ 0 ↔ l.any (covB x y) = true := by
  have := idxP_iff (p := covB x y) (l := l)
  rw [← this.1]; unfold covI; omega
theorem meets_cov {q : Sq} {s : Sl} (k : OkQ q) (hin : slabIn q.1 q.2.1 s = true) : q.2.2.any (meetsB s) = true ↔ ∃ x y, covB x y s = true ∧ covI q.2.2 x y ≠ 0 := by
  constructor
  · intro h
    obtain ⟨t, ht, hm⟩ := List.any_eq_true.1 h
    obtain ⟨x, y, c1, c2⟩ := (meets_iff hin (ok_mem k ht)).1 hm
    exact ⟨x, y, c1, covI_iff.2 (List.any_eq_true.2 ⟨t, ht, c2⟩)⟩
  · rintro ⟨x, y, c1, c2⟩
    obtain ⟨t, ht, c3⟩ := List.any_eq_true.1 (covI_iff.1 c2)
    exact List.any_eq_true.2 ⟨t, ht, (meets_iff hin (ok_mem k ht)).2 ⟨x, y, c1, c3⟩⟩
theorem covers_ev (s : Sl) (x y : Int) : Ev Try.prog 159 [aS s, aI x, aI y] (compsOf [rB] (covB x y s)) := by
  refine ev_of (l := [rB]) (r := (covB x y s)) (types (resT) [] (fun _ _ => none)) follows Try.func159 (by kernel_rfl) (by rw [Try.ntmps159]; exact Nat.le_of_ble_eq_true rfl) ?_
  have key : (inR IntKind.i8 s.fst → inR IntKind.i8 s.snd.fst → inR IntKind.i8 s.snd.snd.fst → inR IntKind.i8 s.snd.snd.snd → inR IntKind.i64 x → inR IntKind.i64 y → inR IntKind.i8 s.fst → (-9223372036854775808 ≤
      s.fst ∧ s.fst ≤ 9223372036854775807) ∧ split (decide (s.fst ≤ x)) (inR IntKind.i8 s.fst → (-9223372036854775808 ≤ s.fst ∧ s.fst ≤ 9223372036854775807) ∧ (inR IntKind.i8 s.snd.snd.fst →
      (-9223372036854775808 ≤ s.snd.snd.fst ∧ s.snd.snd.fst ≤ 9223372036854775807) ∧ (-9223372036854775808 ≤ s.fst + s.snd.snd.fst ∧ s.fst + s.snd.snd.fst ≤ 9223372036854775807) ∧ split (decide (x < s.fst
      + s.snd.snd.fst)) (inR IntKind.i8 s.snd.fst → (-9223372036854775808 ≤ s.snd.fst ∧ s.snd.fst ≤ 9223372036854775807) ∧ split (decide (s.snd.fst ≤ y)) (inR IntKind.i8 s.snd.fst → (-9223372036854775808 ≤
      s.snd.fst ∧ s.snd.fst ≤ 9223372036854775807) ∧ (inR IntKind.i8 s.snd.snd.snd → (-9223372036854775808 ≤ s.snd.snd.snd ∧ s.snd.snd.snd ≤ 9223372036854775807) ∧ (-9223372036854775808 ≤ s.snd.fst +
      s.snd.snd.snd ∧ s.snd.fst + s.snd.snd.snd ≤ 9223372036854775807) ∧ decide (y < s.snd.fst + s.snd.snd.snd) = covB x y s)) (false = covB x y s)) (false = covB x y s))) (false = covB x y s)) := by
    repeat' (first
      | (intro hh; try simp only [inR, loK, hiK] at hh)
      | exact trivial
      | (refine And.intro ?_ ?_)
      | (refine split_of (fun hh => ?_) (fun hh => ?_)))
    all_goals (first | omega | rfl | (simp_all [covB]; done) | (simp_all [covB]; omega))
  refine @Eq.mpr _ _ (?_) key
  kernel_rfl
theorem at1_ev (s : Sl) (x y : Int) : Ev Try.prog 158 [aS s, .imm (.ref (.dat (.int .i64) x)), .imm (.ref (.dat (.int .i64) y))] (compsOf [rB] (covB x y s)) := by
  refine ev_of (l := [rB]) (r := (covB x y s)) (types (resT) [] (fun _ _ => none)) follows Try.func158 (by kernel_rfl) (by rw [Try.ntmps158]; exact Nat.le_of_ble_eq_true rfl) ?_
  have key : (inR IntKind.i8 s.fst → inR IntKind.i8 s.snd.fst → inR IntKind.i8 s.snd.snd.fst → inR IntKind.i8 s.snd.snd.snd → inR IntKind.i8 s.fst → inR IntKind.i8 s.snd.fst → inR IntKind.i8 s.snd.snd.fst → inR
      IntKind.i8 s.snd.snd.snd → inR IntKind.i64 x → inR IntKind.i64 y → ∃ (r : Bool), Ev Try.prog 159 [Arg.imm (D.dat slabT s), Arg.imm (D.dat (Ty.int IntKind.i64) x), Arg.imm (D.dat (Ty.int IntKind.i64)
      y)] (compsOf [(false, Ty.bool)] r) ∧ r = covB x y s) := by
    repeat' (first
      | (intro hh; try simp only [inR, loK, hiK] at hh)
      | exact trivial
      | (refine ⟨_, covers_ev _ _ _, ?_⟩)
      | (refine And.intro ?_ ?_)
      | (refine split_of (fun hh => ?_) (fun hh => ?_)))
    all_goals (first | omega | rfl | (simp_all []; done) | (simp_all []; omega))
  refine @Eq.mpr _ _ (?_) key
  kernel_rfl
theorem indexFuncC_ev (l : List Sl) (f : Nat) (d1 d2 : D) (p : Sl → Bool) (hp : ∀ s ∈ l, Ev Try.prog f [aS s, .imm d1, .imm d2] (compsOf [rB] (p s))) : Ev Try.prog 151 [aSs l, .imm (.clo f (.cn d1 (.cn d2 .nl)))] (compsOf [rI] (idxP p l)) := by
  refine ev_of (l := [rI]) (r := (idxP p l)) (types (fun _ => some [rB]) [] (idxSInv l p)) follows Try.func151 (by kernel_rfl) (by rw [Try.ntmps151]; exact Nat.le_of_ble_eq_true rfl) ?_
  have key : ((l.length ≤ 9223372036854775807 ∧ ∀ (x : Int × Int × Int × Int), List.Mem x l → inR IntKind.i8 x.fst ∧ inR IntKind.i8 x.snd.fst ∧ inR IntKind.i8 x.snd.snd.fst ∧ inR IntKind.i8 x.snd.snd.snd) →
      ((l.length : Nat) : Int) ≤ 9223372036854775807 → (∃ (x0 : Nat), Slot.val (D.dat (Ty.int IntKind.i64) 0) = Slot.val (D.dat (Ty.int IntKind.i64) ((x0 : Nat) : Int)) ∧ x0 ≤ l.length ∧ ∀ (j : Nat), j <
      x0 → p (l.getD j (0, 0, 0, 0)) = false) ∧ ∀ (x : Nat), (x ≤ l.length ∧ ∀ (j : Nat), j < x → p (l.getD j (0, 0, 0, 0)) = false) → inR IntKind.i64 ((x : Nat) : Int) → split (decide (((x : Nat) : Int) <
      ((l.length : Nat) : Int))) ((0 ≤ ((x : Nat) : Int) ∧ ((x : Nat) : Int) < ((l.length : Nat) : Int)) ∧ (inR IntKind.i8 (l.getD (((x : Nat) : Int)).toNat (0, 0, 0, 0)).fst → inR IntKind.i8 (l.getD (((x
      : Nat) : Int)).toNat (0, 0, 0, 0)).snd.fst → inR IntKind.i8 (l.getD (((x : Nat) : Int)).toNat (0, 0, 0, 0)).snd.snd.fst → inR IntKind.i8 (l.getD (((x : Nat) : Int)).toNat (0, 0, 0, 0)).snd.snd.snd →
      ∃ (r : Bool), Ev Try.prog f [Arg.imm (D.dat slabT (l.getD (((x : Nat) : Int)).toNat (0, 0, 0, 0))), Arg.imm d1, Arg.imm d2] (compsOf [(false, Ty.bool)] r) ∧ split r (((x : Nat) : Int) = idxP p l)
      ((-9223372036854775808 ≤ ((x : Nat) : Int) + 1 ∧ ((x : Nat) : Int) + 1 ≤ 9223372036854775807) ∧ ∃ (x' : Nat), Slot.val (D.dat (Ty.int IntKind.i64) (((x : Nat) : Int) + 1)) = Slot.val (D.dat (Ty.int
      IntKind.i64) ((x' : Nat) : Int)) ∧ (x' ≤ l.length ∧ ∀ (j : Nat), j < x' → p (l.getD j (0, 0, 0, 0)) = false) ∧ l.length - x' < l.length - x))) (-1 = idxP p l)) := by
    intro _ _
    refine ⟨⟨0, rfl, by omega, fun j hj => by omega⟩, fun i ⟨hi, hn⟩ _ => split_of (fun h => ?_) (fun h => ?_)⟩
    · have h := of_decide_eq_true h
      simp only [Int.toNat_natCast]
      have hm : l.getD i (0, 0, 0, 0) ∈ l := by
        have : l.getD i (0, 0, 0, 0) = l[i]'(by omega) := by simp [List.getD_eq_getElem?_getD, show i < l.length by omega]
        rw [this]; exact List.getElem_mem _
      exact ⟨by omega, fun _ _ _ _ => ⟨_, hp _ hm, split_of (fun h2 => idxP_found (by omega) h2 hn) (fun h2 => ⟨by omega, i + 1, rfl, ⟨by omega, upto_step hn h2⟩, by omega⟩)⟩⟩
    · have h := of_decide_eq_false h
      exact idxP_none fun j hj => hn j (by omega)
  refine @Eq.mpr _ _ (?_) key
  kernel_rfl
theorem at_ev (q : Sq) (x y : Int) : Ev Try.prog 135 [aQ q, aI x, aI y] (compsOf [rI] (idxP (covB x y) q.2.2)) := by
  refine ev_of (l := [rI]) (r := (idxP (covB x y) q.2.2)) (types (resT) [] (fun _ _ => none)) follows Try.func135 (by kernel_rfl) (by rw [Try.ntmps135]; exact Nat.le_of_ble_eq_true rfl) ?_
  have key : (inR IntKind.i8 q.fst → inR IntKind.i8 q.snd.fst → (q.snd.snd.length ≤ 9223372036854775807 ∧ ∀ (x : Int × Int × Int × Int), List.Mem x q.snd.snd → inR IntKind.i8 x.fst ∧ inR IntKind.i8 x.snd.fst ∧ inR
      IntKind.i8 x.snd.snd.fst ∧ inR IntKind.i8 x.snd.snd.snd) → inR IntKind.i64 x → inR IntKind.i64 y → (q.snd.snd.length ≤ 9223372036854775807 ∧ ∀ (x : Int × Int × Int × Int), List.Mem x q.snd.snd → inR
      IntKind.i8 x.fst ∧ inR IntKind.i8 x.snd.fst ∧ inR IntKind.i8 x.snd.snd.fst ∧ inR IntKind.i8 x.snd.snd.snd) → ∃ (r : Int), Ev Try.prog 151 [Arg.imm (D.dat (Ty.slice 41 slabT) q.snd.snd), Arg.imm
      (D.clo 158 ((D.dat (Ty.int IntKind.i64) x).ref.cn ((D.dat (Ty.int IntKind.i64) y).ref.cn D.nl)))] (compsOf [(false, Ty.int IntKind.i64)] r) ∧ (inR IntKind.i64 r → r = idxP (covB x y) q.snd.snd)) := by
    intros
    exact ⟨_, indexFuncC_ev q.2.2 _ _ _ (covB x y) fun s _ => at1_ev s x y, fun _ => rfl⟩
  refine @Eq.mpr _ _ (?_) key
  kernel_rfl
def coveredB (q : Sq) (x y : Int) : Bool := decide (x < 0) || (decide (y < 0) || q.2.2.any (covB x y))
theorem covered_ev (q : Sq) (x y : Int) : Ev Try.prog 116 [aQ q, aI x, aI y] (compsOf [rB] (coveredB q x y)) := by
  refine ev_of (l := [rB]) (r := (coveredB q x y)) (types (resT) [] (fun _ _ => none)) follows Try.func116 (by kernel_rfl) (by rw [Try.ntmps116]; exact Nat.le_of_ble_eq_true rfl) ?_
  have key : (inR IntKind.i8 q.fst → inR IntKind.i8 q.snd.fst → (q.snd.snd.length ≤ 9223372036854775807 ∧ ∀ (x : Int × Int × Int × Int), List.Mem x q.snd.snd → inR IntKind.i8 x.fst ∧ inR IntKind.i8 x.snd.fst ∧ inR
      IntKind.i8 x.snd.snd.fst ∧ inR IntKind.i8 x.snd.snd.snd) → inR IntKind.i64 x → inR IntKind.i64 y → split (!decide (x < 0)) (split (!decide (y < 0)) (inR IntKind.i8 q.fst → inR IntKind.i8 q.snd.fst →
      (q.snd.snd.length ≤ 9223372036854775807 ∧ ∀ (x : Int × Int × Int × Int), List.Mem x q.snd.snd → inR IntKind.i8 x.fst ∧ inR IntKind.i8 x.snd.fst ∧ inR IntKind.i8 x.snd.snd.fst ∧ inR IntKind.i8
      x.snd.snd.snd) → ∃ (r : Int), Ev Try.prog 135 [Arg.imm (D.dat (sqT 41) q), Arg.imm (D.dat (Ty.int IntKind.i64) x), Arg.imm (D.dat (Ty.int IntKind.i64) y)] (compsOf [(false, Ty.int IntKind.i64)] r) ∧
      (inR IntKind.i64 r → decide (0 ≤ r) = coveredB q x y)) (true = coveredB q x y)) (true = coveredB q x y)) := by
    intros
    refine split_of (fun h => split_of (fun h2 => ?_) (fun h2 => ?_)) (fun h => ?_)
    · intros
      exact ⟨_, at_ev q x y, fun _ => by simp only [coveredB, not_t h, not_t h2, Bool.false_or]; exact idxP_any⟩
    · simp only [coveredB, not_t h, not_f h2, Bool.true_or, Bool.or_true]
    · simp only [coveredB, not_f h, Bool.true_or]
  refine @Eq.mpr _ _ (?_) key
  kernel_rfl
def canPutB (q : Sq) (s : Sl) : Bool := slabIn q.1 q.2.1 s && !(q.2.2.any (meetsB s))
theorem canPut_ev (q : Sq) (s : Sl) : Ev Try.prog 115 [aQ q, aS s] (compsOf [rB] (canPutB q s)) := by
  refine ev_of (l := [rB]) (r := (canPutB q s)) (types (resT) [] (fun _ _ => none)) follows Try.func115 (by kernel_rfl) (by rw [Try.ntmps115]; exact Nat.le_of_ble_eq_true rfl) ?_
  have key : (inR IntKind.i8 q.fst → inR IntKind.i8 q.snd.fst → (q.snd.snd.length ≤ 9223372036854775807 ∧ ∀ (x : Int × Int × Int × Int), List.Mem x q.snd.snd → inR IntKind.i8 x.fst ∧ inR IntKind.i8 x.snd.fst ∧ inR
      IntKind.i8 x.snd.snd.fst ∧ inR IntKind.i8 x.snd.snd.snd) → inR IntKind.i8 s.fst → inR IntKind.i8 s.snd.fst → inR IntKind.i8 s.snd.snd.fst → inR IntKind.i8 s.snd.snd.snd → inR IntKind.i8 s.fst → inR
      IntKind.i8 s.snd.fst → inR IntKind.i8 s.snd.snd.fst → inR IntKind.i8 s.snd.snd.snd → inR IntKind.i8 q.fst → inR IntKind.i8 q.snd.fst → (q.snd.snd.length ≤ 9223372036854775807 ∧ ∀ (x : Int × Int × Int
      × Int), List.Mem x q.snd.snd → inR IntKind.i8 x.fst ∧ inR IntKind.i8 x.snd.fst ∧ inR IntKind.i8 x.snd.snd.fst ∧ inR IntKind.i8 x.snd.snd.snd) → ∃ (r : Bool), Ev Try.prog 111 [Arg.imm (D.dat slabT s),
      Arg.imm (D.dat (sqT 41) q)] (compsOf [(false, Ty.bool)] r) ∧ split r ((q.snd.snd.length ≤ 9223372036854775807 ∧ ∀ (x : Int × Int × Int × Int), List.Mem x q.snd.snd → inR IntKind.i8 x.fst ∧ inR
      IntKind.i8 x.snd.fst ∧ inR IntKind.i8 x.snd.snd.fst ∧ inR IntKind.i8 x.snd.snd.snd) → inR IntKind.i8 s.fst → inR IntKind.i8 s.snd.fst → inR IntKind.i8 s.snd.snd.fst → inR IntKind.i8 s.snd.snd.snd → ∃
      (r : Bool), Ev Try.prog 112 [Arg.imm (D.dat (Ty.slice 41 slabT) q.snd.snd), Arg.imm (D.bnd 113 ((D.dat slabT s).cn D.nl))] (compsOf [(false, Ty.bool)] r) ∧ (!r) = canPutB q s) (false = canPutB q s)) := by
    intros
    refine ⟨_, isIn_ev s q, split_of (fun h => ?_) (fun h => by simp only [canPutB, h, Bool.false_and])⟩
    intros
    exact ⟨_, containsFuncB_ev _ _ _ (meetsB s) fun t _ => meets_ev s t, by simp only [canPutB, h, Bool.true_and]⟩
  refine @Eq.mpr _ _ (?_) key
  kernel_rfl
theorem covered_grid {q : Sq} (k : OkQ q) {x y : Int} (hx : 0 ≤ x) (hy : 0 ≤ y) : coveredB q x y = !decide (gget (layV q).1 x y = 0) := by
  rw [(layV_is q).2 k x y hx hy]
  have e1 : decide (x < 0) = false := decide_eq_false (by omega)
  have e2 : decide (y < 0) = false := decide_eq_false (by omega)
  simp only [coveredB, e1, e2, Bool.false_or]
  cases h : q.2.2.any (covB x y) with
  | true => have := covI_iff.2 h; simp [this]
  | false =>
    have : covI q.2.2 x y = 0 := Classical.byContradiction fun r => by rw [covI_iff.1 r] at h; cases h
    simp [this]
theorem canPut_in {q : Sq} {s : Sl} (h : canPutB q s = true) : slabIn q.1 q.2.1 s = true := by
  simp only [canPutB, Bool.and_eq_true] at h; exact h.1
def northB (q : Sq) (s : Sl) (n : Nat) : Bool := (List.range n).all fun i => coveredB q (s.1 + (i : Nat)) (s.2.1 - 1)
def westB (q : Sq) (s : Sl) (n : Nat) : Bool := (List.range n).all fun i => coveredB q (s.1 - 1) (s.2.1 + (i : Nat))
theorem north_next (q : Sq) (s : Sl) (i : Nat) : northB q s (i + 1) = (northB q s i && coveredB q (s.1 + (i : Nat)) (s.2.1 - 1)) := by simp [northB, List.range_succ]
theorem west_next (q : Sq) (s : Sl) (i : Nat) : westB q s (i + 1) = (westB q s i && coveredB q (s.1 - 1) (s.2.1 + (i : Nat))) := by simp [westB, List.range_succ]
def canLayB (q : Sq) (s : Sl) : Bool := canPutB q s && (northB q s s.2.2.1.toNat || westB q s s.2.2.2.toNat)
noncomputable abbrev canLayInv (q : Sq) (s : Sl) (n : Nat) (σ : List Slot) : Option LoopInv := match n with
  | 5 => some ⟨hvAt Try.f62 5, Nat, fun i => [(5, .val (.dat .bool (northB q s i))), (16, .val (.dat (.int .i64) i))], fun i => (i : Int) ≤ s.2.2.1, fun i => (s.2.2.1 - i).toNat⟩
  | 10 => some ⟨hvAt Try.f62 10, Nat, fun i => [(6, .val (.dat .bool (westB q s i))), (37, .val (.dat (.int .i64) i))], fun i => (i : Int) ≤ s.2.2.2, fun i => (s.2.2.2 - i).toNat⟩
  | _ => none
theorem canLay_ev (q : Sq) (s : Sl) : Ev Try.prog 62 [aQ q, aS s] (compsOf [rB] (canLayB q s)) := by
  refine ev_of (l := [rB]) (r := (canLayB q s)) (types (resT) [] (canLayInv q s)) follows Try.func62 (by kernel_rfl) (by rw [Try.ntmps62]; exact Nat.le_of_ble_eq_true rfl) ?_
  have key : (inR IntKind.i8 q.fst → inR IntKind.i8 q.snd.fst → (q.snd.snd.length ≤ 9223372036854775807 ∧ ∀ (x : Int × Int × Int × Int), List.Mem x q.snd.snd → inR IntKind.i8 x.fst ∧ inR IntKind.i8 x.snd.fst ∧ inR
      IntKind.i8 x.snd.snd.fst ∧ inR IntKind.i8 x.snd.snd.snd) → inR IntKind.i8 s.fst → inR IntKind.i8 s.snd.fst → inR IntKind.i8 s.snd.snd.fst → inR IntKind.i8 s.snd.snd.snd → inR IntKind.i8 q.fst → inR
      IntKind.i8 q.snd.fst → (q.snd.snd.length ≤ 9223372036854775807 ∧ ∀ (x : Int × Int × Int × Int), List.Mem x q.snd.snd → inR IntKind.i8 x.fst ∧ inR IntKind.i8 x.snd.fst ∧ inR IntKind.i8 x.snd.snd.fst ∧
      inR IntKind.i8 x.snd.snd.snd) → inR IntKind.i8 s.fst → inR IntKind.i8 s.snd.fst → inR IntKind.i8 s.snd.snd.fst → inR IntKind.i8 s.snd.snd.snd → ∃ (r : Bool), Ev Try.prog 115 [Arg.imm (D.dat (sqT 41)
      q), Arg.imm (D.dat slabT s)] (compsOf [(false, Ty.bool)] r) ∧ split (!r) (false = canLayB q s) (inR IntKind.i8 s.snd.snd.fst → (-9223372036854775808 ≤ s.snd.snd.fst ∧ s.snd.snd.fst ≤
      9223372036854775807) ∧ (∃ (x0 : Nat), (Slot.val (D.dat Ty.bool true) = Slot.val (D.dat Ty.bool (northB q s x0)) ∧ Slot.val (D.dat (Ty.int IntKind.i64) 0) = Slot.val (D.dat (Ty.int IntKind.i64) ((x0 :
      Nat) : Int))) ∧ ((x0 : Nat) : Int) ≤ s.snd.snd.fst) ∧ ∀ (x : Nat), ((x : Nat) : Int) ≤ s.snd.snd.fst → inR IntKind.i64 ((x : Nat) : Int) → split (decide (((x : Nat) : Int) < s.snd.snd.fst)) (split
      (northB q s x) (inR IntKind.i8 q.fst → inR IntKind.i8 q.snd.fst → (q.snd.snd.length ≤ 9223372036854775807 ∧ ∀ (x : Int × Int × Int × Int), List.Mem x q.snd.snd → inR IntKind.i8 x.fst ∧ inR IntKind.i8
      x.snd.fst ∧ inR IntKind.i8 x.snd.snd.fst ∧ inR IntKind.i8 x.snd.snd.snd) → inR IntKind.i8 s.fst → (-9223372036854775808 ≤ s.fst ∧ s.fst ≤ 9223372036854775807) ∧ (-9223372036854775808 ≤ s.fst + ((x :
      Nat) : Int) ∧ s.fst + ((x : Nat) : Int) ≤ 9223372036854775807) ∧ (inR IntKind.i8 s.snd.fst → (-9223372036854775808 ≤ s.snd.fst ∧ s.snd.fst ≤ 9223372036854775807) ∧ (-9223372036854775808 ≤ s.snd.fst -
      1 ∧ s.snd.fst - 1 ≤ 9223372036854775807) ∧ ∃ (r : Bool), Ev Try.prog 116 [Arg.imm (D.dat (sqT 41) q), Arg.imm (D.dat (Ty.int IntKind.i64) (s.fst + ((x : Nat) : Int))), Arg.imm (D.dat (Ty.int
      IntKind.i64) (s.snd.fst - 1))] (compsOf [(false, Ty.bool)] r) ∧ (-9223372036854775808 ≤ ((x : Nat) : Int) + 1 ∧ ((x : Nat) : Int) + 1 ≤ 9223372036854775807) ∧ ∃ (x' : Nat), (Slot.val (D.dat Ty.bool
      r) = Slot.val (D.dat Ty.bool (northB q s x')) ∧ Slot.val (D.dat (Ty.int IntKind.i64) (((x : Nat) : Int) + 1)) = Slot.val (D.dat (Ty.int IntKind.i64) ((x' : Nat) : Int))) ∧ ((x' : Nat) : Int) ≤
      s.snd.snd.fst ∧ (s.snd.snd.fst - ((x' : Nat) : Int)).toNat < (s.snd.snd.fst - ((x : Nat) : Int)).toNat)) ((-9223372036854775808 ≤ ((x : Nat) : Int) + 1 ∧ ((x : Nat) : Int) + 1 ≤ 9223372036854775807)
      ∧ ∃ (x' : Nat), (Slot.val (D.dat Ty.bool false) = Slot.val (D.dat Ty.bool (northB q s x')) ∧ Slot.val (D.dat (Ty.int IntKind.i64) (((x : Nat) : Int) + 1)) = Slot.val (D.dat (Ty.int IntKind.i64) ((x'
      : Nat) : Int))) ∧ ((x' : Nat) : Int) ≤ s.snd.snd.fst ∧ (s.snd.snd.fst - ((x' : Nat) : Int)).toNat < (s.snd.snd.fst - ((x : Nat) : Int)).toNat)) (inR IntKind.i8 s.snd.snd.snd → (-9223372036854775808 ≤
      s.snd.snd.snd ∧ s.snd.snd.snd ≤ 9223372036854775807) ∧ (∃ (x0 : Nat), (Slot.val (D.dat Ty.bool true) = Slot.val (D.dat Ty.bool (westB q s x0)) ∧ Slot.val (D.dat (Ty.int IntKind.i64) 0) = Slot.val
      (D.dat (Ty.int IntKind.i64) ((x0 : Nat) : Int))) ∧ ((x0 : Nat) : Int) ≤ s.snd.snd.snd) ∧ ∀ (x_1 : Nat), ((x_1 : Nat) : Int) ≤ s.snd.snd.snd → inR IntKind.i64 ((x_1 : Nat) : Int) → split (decide
      (((x_1 : Nat) : Int) < s.snd.snd.snd)) (split (westB q s x_1) (inR IntKind.i8 q.fst → inR IntKind.i8 q.snd.fst → (q.snd.snd.length ≤ 9223372036854775807 ∧ ∀ (x : Int × Int × Int × Int), List.Mem x
      q.snd.snd → inR IntKind.i8 x.fst ∧ inR IntKind.i8 x.snd.fst ∧ inR IntKind.i8 x.snd.snd.fst ∧ inR IntKind.i8 x.snd.snd.snd) → inR IntKind.i8 s.fst → (-9223372036854775808 ≤ s.fst ∧ s.fst ≤
      9223372036854775807) ∧ (-9223372036854775808 ≤ s.fst - 1 ∧ s.fst - 1 ≤ 9223372036854775807) ∧ (inR IntKind.i8 s.snd.fst → (-9223372036854775808 ≤ s.snd.fst ∧ s.snd.fst ≤ 9223372036854775807) ∧
      (-9223372036854775808 ≤ s.snd.fst + ((x_1 : Nat) : Int) ∧ s.snd.fst + ((x_1 : Nat) : Int) ≤ 9223372036854775807) ∧ ∃ (r : Bool), Ev Try.prog 116 [Arg.imm (D.dat (sqT 41) q), Arg.imm (D.dat (Ty.int
      IntKind.i64) (s.fst - 1)), Arg.imm (D.dat (Ty.int IntKind.i64) (s.snd.fst + ((x_1 : Nat) : Int)))] (compsOf [(false, Ty.bool)] r) ∧ (-9223372036854775808 ≤ ((x_1 : Nat) : Int) + 1 ∧ ((x_1 : Nat) :
      Int) + 1 ≤ 9223372036854775807) ∧ ∃ (x' : Nat), (Slot.val (D.dat Ty.bool r) = Slot.val (D.dat Ty.bool (westB q s x')) ∧ Slot.val (D.dat (Ty.int IntKind.i64) (((x_1 : Nat) : Int) + 1)) = Slot.val
      (D.dat (Ty.int IntKind.i64) ((x' : Nat) : Int))) ∧ ((x' : Nat) : Int) ≤ s.snd.snd.snd ∧ (s.snd.snd.snd - ((x' : Nat) : Int)).toNat < (s.snd.snd.snd - ((x_1 : Nat) : Int)).toNat))
      ((-9223372036854775808 ≤ ((x_1 : Nat) : Int) + 1 ∧ ((x_1 : Nat) : Int) + 1 ≤ 9223372036854775807) ∧ ∃ (x' : Nat), (Slot.val (D.dat Ty.bool false) = Slot.val (D.dat Ty.bool (westB q s x')) ∧ Slot.val
      (D.dat (Ty.int IntKind.i64) (((x_1 : Nat) : Int) + 1)) = Slot.val (D.dat (Ty.int IntKind.i64) ((x' : Nat) : Int))) ∧ ((x' : Nat) : Int) ≤ s.snd.snd.snd ∧ (s.snd.snd.snd - ((x' : Nat) : Int)).toNat <
      (s.snd.snd.snd - ((x_1 : Nat) : Int)).toNat)) (split (!northB q s x) (westB q s x_1 = canLayB q s) (true = canLayB q s))))) := by
    intro _ _ _ g1 g2 g3 g4 _ _ _ _ _ _ _
    have g1 := b8 g1
    have g2 := b8 g2
    have g3 := b8 g3
    have g4 := b8 g4
    refine ⟨_, canPut_ev q s, split_of (fun h => by simp only [canLayB, not_t h, Bool.false_and]) (fun h => ?_)⟩
    have hp := not_f h
    have b := slabIn_b (canPut_in hp)
    intro _
    refine ⟨by omega, ⟨0, ⟨valB_eq rfl, rfl⟩, by omega⟩, fun i hi hri => split_of (fun h2 => ?_) (fun h2 => ?_)⟩
    · have h2 := of_decide_eq_true h2
      refine split_of (fun h3 => ?_) (fun h3 => ⟨by omega, i + 1, ⟨valB_eq (by rw [north_next, h3]; rfl), valI_eq (by omega)⟩, by omega, by omega⟩)
      intros
      exact ⟨by omega, by omega, fun _ => ⟨by omega, by omega, _, covered_ev q _ _, by omega, i + 1, ⟨valB_eq (by rw [north_next, h3]; rfl), valI_eq (by omega)⟩, by omega, by omega⟩⟩
    · have h2 := of_decide_eq_false h2
      have e : s.2.2.1.toNat = i := by omega
      intro _
      refine ⟨by omega, ⟨0, ⟨valB_eq rfl, rfl⟩, by omega⟩, fun j hj hrj => split_of (fun h4 => ?_) (fun h4 => ?_)⟩
      · have h4 := of_decide_eq_true h4
        refine split_of (fun h3 => ?_) (fun h3 => ⟨by omega, j + 1, ⟨valB_eq (by rw [west_next, h3]; rfl), valI_eq (by omega)⟩, by omega, by omega⟩)
        intros
        exact ⟨by omega, by omega, fun _ => ⟨by omega, by omega, _, covered_ev q _ _, by omega, j + 1, ⟨valB_eq (by rw [west_next, h3]; rfl), valI_eq (by omega)⟩, by omega, by omega⟩⟩
      · have h4 := of_decide_eq_false h4
        have e2 : s.2.2.2.toNat = j := by omega
        refine split_of (fun h5 => ?_) (fun h5 => ?_)
        · simp only [canLayB, hp, e, e2, not_t h5, Bool.false_or, Bool.true_and]
        · simp only [canLayB, hp, e, not_f h5, Bool.true_or, Bool.and_true]
  refine @Eq.mpr _ _ (?_) key
  kernel_rfl
noncomputable abbrev canInv (q : Sq) (s : Sl) (n : Nat) (σ : List Slot) : Option LoopInv := match n with
  | 5 => some ⟨hvAt Try.f109 5, Int, fun y => [(4, .val (.dat .bool false)), (7, .val (.dat (.int .i8) y))], fun y => s.2.1 ≤ y ∧ y ≤ s.2.1 + s.2.2.2 ∧ ∀ x' y', s.1 ≤ x' → x' < s.1 + s.2.2.1 → s.2.1 ≤ y' → y' < y → covI q.2.2 x' y' = 0, fun y => (s.2.1 + s.2.2.2 - y).toNat⟩
  | 8 => some ⟨hvAt Try.f109 8, Int, fun x => [(4, .val (.dat .bool false)), (8, .val (.dat (.int .i8) x))], fun x => s.1 ≤ x ∧ x ≤ s.1 + s.2.2.1 ∧ ∀ x', s.1 ≤ x' → x' < x → covI q.2.2 x' (iAt σ 7) = 0, fun x => (s.1 + s.2.2.1 - x).toNat⟩
  | _ => none
theorem l01Can_ev (q : Sq) (s : Sl) (k : OkQ q) : Ev Try.prog 109 [aQp q, aS s] (compsOf [rB] (canPutB q s)) := by
  refine ev_of (l := [rB]) (r := (canPutB q s)) (types (resT) [] (canInv q s)) follows Try.func109 (by kernel_rfl) (by rw [Try.ntmps109]; exact Nat.le_of_ble_eq_true rfl) ?_
  have key : (inR IntKind.i8 s.fst → inR IntKind.i8 s.snd.fst → inR IntKind.i8 s.snd.snd.fst → inR IntKind.i8 s.snd.snd.snd → inR IntKind.i8 s.fst → inR IntKind.i8 s.snd.fst → inR IntKind.i8 s.snd.snd.fst → inR
      IntKind.i8 s.snd.snd.snd → ∃ (r : Bool), Ev Try.prog 149 [Arg.imm (D.dat (sqT 41) q).ref, Arg.imm (D.dat slabT s)] (compsOf [(false, Ty.bool)] r) ∧ split (!r) (false = canPutB q s) (∃ (r : List (List
      Int) × Bool), Ev Try.prog 108 [Arg.imm (D.dat (sqT 41) q).ref] (compsOf [(false, Ty.arr 12 (Ty.arr 12 (Ty.int IntKind.i64))), (false, Ty.bool)] r) ∧ ((r.fst.length = 12 ∧ ∀ (x : List Int), List.Mem x
      r.fst → x.length = 12 ∧ ∀ (x_1 : Int), List.Mem x_1 x → inR IntKind.i64 x_1) → inR IntKind.i8 s.snd.fst → (∃ (x0 : Int), (Slot.val (D.dat Ty.bool false) = Slot.val (D.dat Ty.bool false) ∧ Slot.val
      (D.dat (Ty.int IntKind.i8) s.snd.fst) = Slot.val (D.dat (Ty.int IntKind.i8) x0)) ∧ s.snd.fst ≤ x0 ∧ x0 ≤ s.snd.fst + s.snd.snd.snd ∧ ∀ (x' y' : Int), s.fst ≤ x' → x' < s.fst + s.snd.snd.fst →
      s.snd.fst ≤ y' → y' < x0 → covI q.snd.snd x' y' = 0) ∧ ∀ (x : Int), (s.snd.fst ≤ x ∧ x ≤ s.snd.fst + s.snd.snd.snd ∧ ∀ (x' y' : Int), s.fst ≤ x' → x' < s.fst + s.snd.snd.fst → s.snd.fst ≤ y' → y' < x
      → covI q.snd.snd x' y' = 0) → inR IntKind.i8 x → inR IntKind.i8 s.snd.fst → inR IntKind.i8 s.snd.snd.snd → (-128 ≤ s.snd.fst + s.snd.snd.snd ∧ s.snd.fst + s.snd.snd.snd ≤ 127) ∧ split (decide (x <
      s.snd.fst + s.snd.snd.snd)) (inR IntKind.i8 s.fst → (∃ (x0 : Int), (Slot.val (D.dat Ty.bool false) = Slot.val (D.dat Ty.bool false) ∧ Slot.val (D.dat (Ty.int IntKind.i8) s.fst) = Slot.val (D.dat
      (Ty.int IntKind.i8) x0)) ∧ s.fst ≤ x0 ∧ x0 ≤ s.fst + s.snd.snd.fst ∧ ∀ (x' : Int), s.fst ≤ x' → x' < x0 → covI q.snd.snd x' x = 0) ∧ ∀ (x_1 : Int), (s.fst ≤ x_1 ∧ x_1 ≤ s.fst + s.snd.snd.fst ∧ ∀ (x'
      : Int), s.fst ≤ x' → x' < x_1 → covI q.snd.snd x' x = 0) → inR IntKind.i8 x_1 → inR IntKind.i8 s.fst → inR IntKind.i8 s.snd.snd.fst → (-128 ≤ s.fst + s.snd.snd.fst ∧ s.fst + s.snd.snd.fst ≤ 127) ∧
      split (decide (x_1 < s.fst + s.snd.snd.fst)) ((0 ≤ x ∧ x < ((12 : Nat) : Int)) ∧ (0 ≤ x_1 ∧ x_1 < ((12 : Nat) : Int)) ∧ (inR IntKind.i64 ((r.fst.getD x.toNat (List.replicate 12 0)).getD x_1.toNat 0)
      → split (!decide ((r.fst.getD x.toNat (List.replicate 12 0)).getD x_1.toNat 0 = 0)) (false = canPutB q s) ((-128 ≤ x_1 + 1 ∧ x_1 + 1 ≤ 127) ∧ ∃ (x' : Int), (Slot.val (D.dat Ty.bool false) = Slot.val
      (D.dat Ty.bool false) ∧ Slot.val (D.dat (Ty.int IntKind.i8) (x_1 + 1)) = Slot.val (D.dat (Ty.int IntKind.i8) x')) ∧ (s.fst ≤ x' ∧ x' ≤ s.fst + s.snd.snd.fst ∧ ∀ (x'_1 : Int), s.fst ≤ x'_1 → x'_1 < x'
      → covI q.snd.snd x'_1 x = 0) ∧ (s.fst + s.snd.snd.fst - x').toNat < (s.fst + s.snd.snd.fst - x_1).toNat))) ((-128 ≤ x + 1 ∧ x + 1 ≤ 127) ∧ ∃ (x' : Int), (Slot.val (D.dat Ty.bool false) = Slot.val
      (D.dat Ty.bool false) ∧ Slot.val (D.dat (Ty.int IntKind.i8) (x + 1)) = Slot.val (D.dat (Ty.int IntKind.i8) x')) ∧ (s.snd.fst ≤ x' ∧ x' ≤ s.snd.fst + s.snd.snd.snd ∧ ∀ (x'_1 y' : Int), s.fst ≤ x'_1 →
      x'_1 < s.fst + s.snd.snd.fst → s.snd.fst ≤ y' → y' < x' → covI q.snd.snd x'_1 y' = 0) ∧ (s.snd.fst + s.snd.snd.snd - x').toNat < (s.snd.fst + s.snd.snd.snd - x).toNat)) (true = canPutB q s)))) := by
    intro g1 g2 g3 g4 _ _ _ _
    have g1 := b8 g1
    have g2 := b8 g2
    have g3 := b8 g3
    have g4 := b8 g4
    refine ⟨_, l01Lies_ev q s, split_of (fun h => by simp only [canPutB, not_t h, Bool.false_and]) (fun h => ?_)⟩
    have hin := not_f h
    have b := slabIn_b hin
    have e1 := edge_b k.w
    have e2 := edge_b k.h
    refine ⟨_, lay_ev q, fun _ _ => ⟨⟨s.2.1, ⟨rfl, rfl⟩, Int.le_refl _, by omega, fun x' y' _ _ a3 a4 => by omega⟩, fun y ⟨hy1, hy2, hy⟩ _ _ _ => ⟨by omega, split_of (fun h2 => ?_) (fun h2 => ?_)⟩⟩⟩
    · have h2 := of_decide_eq_true h2
      intro _
      refine ⟨⟨s.1, ⟨rfl, rfl⟩, Int.le_refl _, by omega, fun x' a1 a2 => by omega⟩, fun x ⟨hx1, hx2, hx⟩ _ _ _ => ⟨by omega, split_of (fun h3 => ?_) (fun h3 => ?_)⟩⟩
      · have h3 := of_decide_eq_true h3
        have hg : gget (layV q).1 x y = covI q.2.2 x y := (layV_is q).2 k x y (by omega) (by omega)
        refine ⟨by omega, by omega, fun _ => ?_⟩
        show Go.Proofs.Ytmjijggkdbiijaa.split (!decide (gget (layV q).1 x y = 0)) _ _
        rw [hg]
        refine split_of (fun h4 => ?_) (fun h4 => ⟨by omega, x + 1, ⟨rfl, rfl⟩, ⟨by omega, by omega, fun x' a1 a2 => ?_⟩, by omega⟩)
        · have h4 : ¬ covI q.2.2 x y = 0 := of_decide_eq_false (not_t h4)
          have hm : q.2.2.any (meetsB s) = true := (meets_cov k hin).2 ⟨x, y, covB_iff.2 (by omega), h4⟩
          simp only [canPutB, hm, Bool.not_true, Bool.and_false]
        · by_cases e : x' = x
          · rw [e]; exact of_decide_eq_true (not_f h4)
          · exact hx x' a1 (by omega)
      · have h3 := of_decide_eq_false h3
        refine ⟨by omega, y + 1, ⟨rfl, rfl⟩, ⟨by omega, by omega, fun x' y' a1 a2 a3 a4 => ?_⟩, by omega⟩
        by_cases e : y' = y
        · rw [e]; exact hx x' a1 (by omega)
        · exact hy x' y' a1 a2 a3 (by omega)
    · have h2 := of_decide_eq_false h2
      have hm : q.2.2.any (meetsB s) = false := by
        cases hq : q.2.2.any (meetsB s) with
        | false => rfl
        | true =>
          obtain ⟨x, y, c1, c2⟩ := (meets_cov k hin).1 hq
          have c1 := covB_iff.1 c1
          exact absurd (hy x y c1.1.1 c1.1.2 c1.2.1 (by omega)) c2
      simp only [canPutB, hin, hm]; rfl
  refine @Eq.mpr _ _ (?_) key
  kernel_rfl
noncomputable abbrev layCanInv (q : Sq) (s : Sl) (n : Nat) (σ : List Slot) : Option LoopInv := match n with
  | 6 => some ⟨hvAt Try.f60 6, Nat, fun i => [(7, .val (.dat .bool (northB q s i))), (8, .val (.dat (.int .i8) (s.1 + (i : Nat))))], fun i => (i : Int) ≤ s.2.2.1, fun i => (s.2.2.1 - i).toNat⟩
  | 11 => some ⟨hvAt Try.f60 11, Nat, fun i => [(9, .val (.dat .bool (westB q s i))), (10, .val (.dat (.int .i8) (s.2.1 + (i : Nat))))], fun i => (i : Int) ≤ s.2.2.2, fun i => (s.2.2.2 - i).toNat⟩
  | _ => none
theorem l05Can_ev (q : Sq) (s : Sl) (k : OkQ q) : Ev Try.prog 60 [aQp q, aS s] (compsOf [rB] (canLayB q s)) := by
  refine ev_of (l := [rB]) (r := (canLayB q s)) (types (resT) [] (layCanInv q s)) follows Try.func60 (by kernel_rfl) (by rw [Try.ntmps60]; exact Nat.le_of_ble_eq_true rfl) ?_
  have key : (inR IntKind.i8 s.fst → inR IntKind.i8 s.snd.fst → inR IntKind.i8 s.snd.snd.fst → inR IntKind.i8 s.snd.snd.snd → inR IntKind.i8 s.fst → inR IntKind.i8 s.snd.fst → inR IntKind.i8 s.snd.snd.fst → inR
      IntKind.i8 s.snd.snd.snd → ∃ (r : Bool), Ev Try.prog 109 [Arg.imm (D.dat (sqT 41) q).ref, Arg.imm (D.dat slabT s)] (compsOf [(false, Ty.bool)] r) ∧ split (!r) (false = canLayB q s) (∃ (r : List (List
      Int) × Bool), Ev Try.prog 108 [Arg.imm (D.dat (sqT 41) q).ref] (compsOf [(false, Ty.arr 12 (Ty.arr 12 (Ty.int IntKind.i64))), (false, Ty.bool)] r) ∧ ((r.fst.length = 12 ∧ ∀ (x : List Int), List.Mem x
      r.fst → x.length = 12 ∧ ∀ (x_1 : Int), List.Mem x_1 x → inR IntKind.i64 x_1) → inR IntKind.i8 s.fst → (∃ (x0 : Nat), (Slot.val (D.dat Ty.bool true) = Slot.val (D.dat Ty.bool (northB q s x0)) ∧
      Slot.val (D.dat (Ty.int IntKind.i8) s.fst) = Slot.val (D.dat (Ty.int IntKind.i8) (s.fst + ((x0 : Nat) : Int)))) ∧ ((x0 : Nat) : Int) ≤ s.snd.snd.fst) ∧ ∀ (x : Nat), ((x : Nat) : Int) ≤ s.snd.snd.fst
      → inR IntKind.i8 (s.fst + ((x : Nat) : Int)) → inR IntKind.i8 s.fst → inR IntKind.i8 s.snd.snd.fst → (-128 ≤ s.fst + s.snd.snd.fst ∧ s.fst + s.snd.snd.fst ≤ 127) ∧ split (decide (s.fst + ((x : Nat) :
      Int) < s.fst + s.snd.snd.fst)) (split (northB q s x) (inR IntKind.i8 s.snd.fst → split (!decide (s.snd.fst = 0)) (inR IntKind.i8 s.snd.fst → (-128 ≤ s.snd.fst - 1 ∧ s.snd.fst - 1 ≤ 127) ∧ (0 ≤
      s.snd.fst - 1 ∧ s.snd.fst - 1 < ((12 : Nat) : Int)) ∧ (0 ≤ s.fst + ((x : Nat) : Int) ∧ s.fst + ((x : Nat) : Int) < ((12 : Nat) : Int)) ∧ (inR IntKind.i64 ((r.fst.getD (s.snd.fst - 1).toNat
      (List.replicate 12 0)).getD (s.fst + ((x : Nat) : Int)).toNat 0) → (-128 ≤ s.fst + ((x : Nat) : Int) + 1 ∧ s.fst + ((x : Nat) : Int) + 1 ≤ 127) ∧ ∃ (x' : Nat), (Slot.val (D.dat Ty.bool !decide
      ((r.fst.getD (s.snd.fst - 1).toNat (List.replicate 12 0)).getD (s.fst + ((x : Nat) : Int)).toNat 0 = 0)) = Slot.val (D.dat Ty.bool (northB q s x')) ∧ Slot.val (D.dat (Ty.int IntKind.i8) (s.fst + ((x
      : Nat) : Int) + 1)) = Slot.val (D.dat (Ty.int IntKind.i8) (s.fst + ((x' : Nat) : Int)))) ∧ ((x' : Nat) : Int) ≤ s.snd.snd.fst ∧ (s.snd.snd.fst - ((x' : Nat) : Int)).toNat < (s.snd.snd.fst - ((x :
      Nat) : Int)).toNat)) ((-128 ≤ s.fst + ((x : Nat) : Int) + 1 ∧ s.fst + ((x : Nat) : Int) + 1 ≤ 127) ∧ ∃ (x' : Nat), (Slot.val (D.dat Ty.bool true) = Slot.val (D.dat Ty.bool (northB q s x')) ∧ Slot.val
      (D.dat (Ty.int IntKind.i8) (s.fst + ((x : Nat) : Int) + 1)) = Slot.val (D.dat (Ty.int IntKind.i8) (s.fst + ((x' : Nat) : Int)))) ∧ ((x' : Nat) : Int) ≤ s.snd.snd.fst ∧ (s.snd.snd.fst - ((x' : Nat) :
      Int)).toNat < (s.snd.snd.fst - ((x : Nat) : Int)).toNat)) ((-128 ≤ s.fst + ((x : Nat) : Int) + 1 ∧ s.fst + ((x : Nat) : Int) + 1 ≤ 127) ∧ ∃ (x' : Nat), (Slot.val (D.dat Ty.bool false) = Slot.val
      (D.dat Ty.bool (northB q s x')) ∧ Slot.val (D.dat (Ty.int IntKind.i8) (s.fst + ((x : Nat) : Int) + 1)) = Slot.val (D.dat (Ty.int IntKind.i8) (s.fst + ((x' : Nat) : Int)))) ∧ ((x' : Nat) : Int) ≤
      s.snd.snd.fst ∧ (s.snd.snd.fst - ((x' : Nat) : Int)).toNat < (s.snd.snd.fst - ((x : Nat) : Int)).toNat)) (inR IntKind.i8 s.snd.fst → (∃ (x0 : Nat), (Slot.val (D.dat Ty.bool true) = Slot.val (D.dat
      Ty.bool (westB q s x0)) ∧ Slot.val (D.dat (Ty.int IntKind.i8) s.snd.fst) = Slot.val (D.dat (Ty.int IntKind.i8) (s.snd.fst + ((x0 : Nat) : Int)))) ∧ ((x0 : Nat) : Int) ≤ s.snd.snd.snd) ∧ ∀ (x_1 :
      Nat), ((x_1 : Nat) : Int) ≤ s.snd.snd.snd → inR IntKind.i8 (s.snd.fst + ((x_1 : Nat) : Int)) → inR IntKind.i8 s.snd.fst → inR IntKind.i8 s.snd.snd.snd → (-128 ≤ s.snd.fst + s.snd.snd.snd ∧ s.snd.fst
      + s.snd.snd.snd ≤ 127) ∧ split (decide (s.snd.fst + ((x_1 : Nat) : Int) < s.snd.fst + s.snd.snd.snd)) (split (westB q s x_1) (inR IntKind.i8 s.fst → split (!decide (s.fst = 0)) (inR IntKind.i8 s.fst
      → (-128 ≤ s.fst - 1 ∧ s.fst - 1 ≤ 127) ∧ (0 ≤ s.snd.fst + ((x_1 : Nat) : Int) ∧ s.snd.fst + ((x_1 : Nat) : Int) < ((12 : Nat) : Int)) ∧ (0 ≤ s.fst - 1 ∧ s.fst - 1 < ((12 : Nat) : Int)) ∧ (inR
      IntKind.i64 ((r.fst.getD (s.snd.fst + ((x_1 : Nat) : Int)).toNat (List.replicate 12 0)).getD (s.fst - 1).toNat 0) → (-128 ≤ s.snd.fst + ((x_1 : Nat) : Int) + 1 ∧ s.snd.fst + ((x_1 : Nat) : Int) + 1 ≤
      127) ∧ ∃ (x' : Nat), (Slot.val (D.dat Ty.bool !decide ((r.fst.getD (s.snd.fst + ((x_1 : Nat) : Int)).toNat (List.replicate 12 0)).getD (s.fst - 1).toNat 0 = 0)) = Slot.val (D.dat Ty.bool (westB q s
      x')) ∧ Slot.val (D.dat (Ty.int IntKind.i8) (s.snd.fst + ((x_1 : Nat) : Int) + 1)) = Slot.val (D.dat (Ty.int IntKind.i8) (s.snd.fst + ((x' : Nat) : Int)))) ∧ ((x' : Nat) : Int) ≤ s.snd.snd.snd ∧
      (s.snd.snd.snd - ((x' : Nat) : Int)).toNat < (s.snd.snd.snd - ((x_1 : Nat) : Int)).toNat)) ((-128 ≤ s.snd.fst + ((x_1 : Nat) : Int) + 1 ∧ s.snd.fst + ((x_1 : Nat) : Int) + 1 ≤ 127) ∧ ∃ (x' : Nat),
      (Slot.val (D.dat Ty.bool true) = Slot.val (D.dat Ty.bool (westB q s x')) ∧ Slot.val (D.dat (Ty.int IntKind.i8) (s.snd.fst + ((x_1 : Nat) : Int) + 1)) = Slot.val (D.dat (Ty.int IntKind.i8) (s.snd.fst
      + ((x' : Nat) : Int)))) ∧ ((x' : Nat) : Int) ≤ s.snd.snd.snd ∧ (s.snd.snd.snd - ((x' : Nat) : Int)).toNat < (s.snd.snd.snd - ((x_1 : Nat) : Int)).toNat)) ((-128 ≤ s.snd.fst + ((x_1 : Nat) : Int) + 1
      ∧ s.snd.fst + ((x_1 : Nat) : Int) + 1 ≤ 127) ∧ ∃ (x' : Nat), (Slot.val (D.dat Ty.bool false) = Slot.val (D.dat Ty.bool (westB q s x')) ∧ Slot.val (D.dat (Ty.int IntKind.i8) (s.snd.fst + ((x_1 : Nat)
      : Int) + 1)) = Slot.val (D.dat (Ty.int IntKind.i8) (s.snd.fst + ((x' : Nat) : Int)))) ∧ ((x' : Nat) : Int) ≤ s.snd.snd.snd ∧ (s.snd.snd.snd - ((x' : Nat) : Int)).toNat < (s.snd.snd.snd - ((x_1 : Nat)
      : Int)).toNat)) (split (!northB q s x) (westB q s x_1 = canLayB q s) (true = canLayB q s)))))) := by
    intro g1 g2 g3 g4 _ _ _ _
    have g1 := b8 g1
    have g2 := b8 g2
    have g3 := b8 g3
    have g4 := b8 g4
    refine ⟨_, l01Can_ev q s k, split_of (fun h => by simp only [canLayB, not_t h, Bool.false_and]) (fun h => ?_)⟩
    have hp := not_f h
    have b := slabIn_b (canPut_in hp)
    have e1 := edge_b k.w
    have e2 := edge_b k.h
    refine ⟨_, lay_ev q, fun _ _ => ⟨⟨0, ⟨valB_eq rfl, valI_eq (by omega)⟩, by omega⟩, fun i hi hri _ _ => ⟨by omega, split_of (fun h2 => ?_) (fun h2 => ?_)⟩⟩⟩
    · have h2 := of_decide_eq_true h2
      refine split_of (fun h3 => ?_) (fun h3 => ⟨by omega, i + 1, ⟨valB_eq (by rw [north_next, h3]; rfl), valI_eq (by omega)⟩, by omega, by omega⟩)
      intro _
      refine split_of (fun h4 => ?_) (fun h4 => ⟨by omega, i + 1, ⟨valB_eq (by rw [north_next, h3]; have r := of_decide_eq_true (not_f h4); simp [coveredB, r]), valI_eq (by omega)⟩, by omega, by omega⟩)
      have h4 := of_decide_eq_false (not_t h4)
      exact fun _ => ⟨by omega, by omega, by omega, fun _ => ⟨by omega, i + 1, ⟨valB_eq (by rw [north_next, h3, covered_grid k (by omega) (by omega)]; rfl), valI_eq (by omega)⟩, by omega, by omega⟩⟩
    · have h2 := of_decide_eq_false h2
      have e : s.2.2.1.toNat = i := by omega
      intro _
      refine ⟨⟨0, ⟨valB_eq rfl, valI_eq (by omega)⟩, by omega⟩, fun j hj hrj _ _ => ⟨by omega, split_of (fun h4 => ?_) (fun h4 => ?_)⟩⟩
      · have h4 := of_decide_eq_true h4
        refine split_of (fun h3 => ?_) (fun h3 => ⟨by omega, j + 1, ⟨valB_eq (by rw [west_next, h3]; rfl), valI_eq (by omega)⟩, by omega, by omega⟩)
        intro _
        refine split_of (fun h5 => ?_) (fun h5 => ⟨by omega, j + 1, ⟨valB_eq (by rw [west_next, h3]; have r := of_decide_eq_true (not_f h5); simp [coveredB, r]), valI_eq (by omega)⟩, by omega, by omega⟩)
        have h5 := of_decide_eq_false (not_t h5)
        exact fun _ => ⟨by omega, by omega, by omega, fun _ => ⟨by omega, j + 1, ⟨valB_eq (by rw [west_next, h3, covered_grid k (by omega) (by omega)]; rfl), valI_eq (by omega)⟩, by omega, by omega⟩⟩
      · have h4 := of_decide_eq_false h4
        have e2 : s.2.2.2.toNat = j := by omega
        refine split_of (fun h5 => ?_) (fun h5 => ?_)
        · simp only [canLayB, hp, e, e2, not_t h5, Bool.false_or, Bool.true_and]
        · simp only [canLayB, hp, e, not_f h5, Bool.true_or, Bool.and_true]
  refine @Eq.mpr _ _ (?_) key
  kernel_rfl
end Go.Proofs.Ytmjijggkdbiijaa
