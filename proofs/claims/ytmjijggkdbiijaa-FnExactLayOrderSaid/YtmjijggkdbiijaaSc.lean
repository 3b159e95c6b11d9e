/- Squares: small functions. No statement is proved here. -/
import Derived.Test.YtmjijggkdbiijaaSb
import Derived.Test.YtmjijggkdbiijaaA5
namespace Go.Proofs.Ytmjijggkdbiijaa
open Go.RowKit
set_option linter.unusedVariables false
set_option linter.unusedSimpArgs false
set_option maxRecDepth 100000
set_option maxHeartbeats 4000000
abbrev Sl := Int × Int × Int × Int
abbrev Sq := Int × Int × List Sl
abbrev aQ (q : Sq) : Arg := .imm (.dat (sqT 41) q)
abbrev aQp (q : Sq) : Arg := .imm (.ref (.dat (sqT 41) q))
abbrev aS (s : Sl) : Arg := .imm (.dat slabT s)
abbrev aSs (l : List Sl) : Arg := .imm (.dat (.slice 41 slabT) l)
abbrev aC (p : Int × Int) : Arg := .imm (.dat cellT p)
abbrev aI (x : Int) : Arg := .imm (.dat (.int .i64) x)
abbrev aB (b : Bool) : Arg := .imm (.dat .bool b)
abbrev aIs (l : List Int) : Arg := .imm (.dat (.slice 2 (.int .i64)) l)
abbrev rI : Bool × Ty := (false, .int .i64)
abbrev rB : Bool × Ty := (false, .bool)
abbrev rC : Bool × Ty := (false, cellT)
abbrev rS : Bool × Ty := (false, slabT)
def inB (n lo hi : Int) : Bool := decide (lo ≤ n) && decide (n ≤ hi)
theorem valI_eq {k : IntKind} {x y : Int} (h : x = y) : Slot.val (.dat (.int k) x) = Slot.val (.dat (.int k) y) := by rw [h]
theorem i8b {x : Int} (h : inR .i8 x) : -9223372036854775808 ≤ x ∧ x ≤ 9223372036854775807 := by simp only [inR, loK, hiK] at h; omega
theorem b8 {x : Int} (h : inR .i8 x) : -128 ≤ x ∧ x ≤ 127 := h
theorem upto_step {p : Nat → Prop} {i : Nat} (h : ∀ j : Nat, j < i → p j) (h2 : p i) : ∀ j : Nat, j < i + 1 → p j := by
  intro j hj
  rcases Nat.lt_or_ge j i with q | q
  · exact h j q
  · obtain rfl : j = i := by omega
    exact h2
theorem within_ev (n lo hi : Int) : Ev Try.prog 66 [aI n, aI lo, aI hi] (compsOf [rB] (inB n lo hi)) := by
  refine ev_of (l := [rB]) (r := (inB n lo hi)) (types (resT) [] (fun _ _ => none)) follows Try.func66 (by kernel_rfl) (by rw [Try.ntmps66]; exact Nat.le_of_ble_eq_true rfl) ?_
  have key : (inR IntKind.i64 n → inR IntKind.i64 lo → inR IntKind.i64 hi → split (decide (lo ≤ n)) (decide (n ≤ hi) = inB n lo hi) (false = inB n lo hi)) := by
    repeat' (first
      | (intro hh; try simp only [inR, loK, hiK] at hh)
      | exact trivial
      | (refine And.intro ?_ ?_)
      | (refine split_of (fun hh => ?_) (fun hh => ?_)))
    all_goals (first | omega | rfl | (simp_all [inB]; done) | (simp_all [inB]; omega))
  refine @Eq.mpr _ _ (?_) key
  kernel_rfl
theorem l00In_ev (n lo hi : Int) : Ev Try.prog 117 [aI n, aI lo, aI hi] (compsOf [rB] (inB n lo hi)) := by
  refine ev_of (l := [rB]) (r := (inB n lo hi)) (types (resT) [] (fun _ _ => none)) follows Try.func117 (by kernel_rfl) (by rw [Try.ntmps117]; exact Nat.le_of_ble_eq_true rfl) ?_
  have key : (inR IntKind.i64 n → inR IntKind.i64 lo → inR IntKind.i64 hi → split (decide (lo ≤ n)) (decide (n ≤ hi) = inB n lo hi) (false = inB n lo hi)) := by
    repeat' (first
      | (intro hh; try simp only [inR, loK, hiK] at hh)
      | exact trivial
      | (refine And.intro ?_ ?_)
      | (refine split_of (fun hh => ?_) (fun hh => ?_)))
    all_goals (first | omega | rfl | (simp_all [inB]; done) | (simp_all [inB]; omega))
  refine @Eq.mpr _ _ (?_) key
  kernel_rfl
def edgeB (n : Int) : Bool := inB n 1 12
theorem isEdge_ev (n : Int) : Ev Try.prog 110 [aI n] (compsOf [rB] (edgeB n)) := by
  refine ev_of (l := [rB]) (r := (edgeB n)) (types (resT) [] (fun _ _ => none)) follows Try.func110 (by kernel_rfl) (by rw [Try.ntmps110]; exact Nat.le_of_ble_eq_true rfl) ?_
  have key : (inR IntKind.i64 n → ∃ (r : Bool), Ev Try.prog 66 [Arg.imm (D.dat (Ty.int IntKind.i64) n), Arg.imm (D.dat (Ty.int IntKind.i64) 1), Arg.imm (D.dat (Ty.int IntKind.i64) 12)] (compsOf [(false, Ty.bool)]
      r) ∧ r = edgeB n) := by
    intros
    exact ⟨_, within_ev _ _ _, rfl⟩
  refine @Eq.mpr _ _ (?_) key
  kernel_rfl
theorem l01Edge_ev (n : Int) : Ev Try.prog 148 [aI n] (compsOf [rB] (edgeB n)) := by
  refine ev_of (l := [rB]) (r := (edgeB n)) (types (resT) [] (fun _ _ => none)) follows Try.func148 (by kernel_rfl) (by rw [Try.ntmps148]; exact Nat.le_of_ble_eq_true rfl) ?_
  have key : (inR IntKind.i64 n → ∃ (r : Bool), Ev Try.prog 117 [Arg.imm (D.dat (Ty.int IntKind.i64) n), Arg.imm (D.dat (Ty.int IntKind.i64) 1), Arg.imm (D.dat (Ty.int IntKind.i64) 12)] (compsOf [(false, Ty.bool)]
      r) ∧ r = edgeB n) := by
    intros
    exact ⟨_, l00In_ev _ _ _, rfl⟩
  refine @Eq.mpr _ _ (?_) key
  kernel_rfl
def slabIn (w h : Int) (s : Sl) : Bool := decide (1 ≤ s.2.2.1) && decide (1 ≤ s.2.2.2) && decide (0 ≤ s.1) && decide (0 ≤ s.2.1) && decide (s.1 + s.2.2.1 ≤ w) && decide (s.2.1 + s.2.2.2 ≤ h)
theorem isIn_ev (s : Sl) (q : Sq) : Ev Try.prog 111 [aS s, aQ q] (compsOf [rB] (slabIn q.1 q.2.1 s)) := by
  refine ev_of (l := [rB]) (r := (slabIn q.1 q.2.1 s)) (types (resT) [] (fun _ _ => none)) follows Try.func111 (by kernel_rfl) (by rw [Try.ntmps111]; exact Nat.le_of_ble_eq_true rfl) ?_
  have key : (inR IntKind.i8 s.fst → inR IntKind.i8 s.snd.fst → inR IntKind.i8 s.snd.snd.fst → inR IntKind.i8 s.snd.snd.snd → inR IntKind.i8 q.fst → inR IntKind.i8 q.snd.fst → (q.snd.snd.length ≤
      9223372036854775807 ∧ ∀ (x : Int × Int × Int × Int), List.Mem x q.snd.snd → inR IntKind.i8 x.fst ∧ inR IntKind.i8 x.snd.fst ∧ inR IntKind.i8 x.snd.snd.fst ∧ inR IntKind.i8 x.snd.snd.snd) → inR
      IntKind.i8 s.snd.snd.fst → split (decide (1 ≤ s.snd.snd.fst)) (inR IntKind.i8 s.snd.snd.snd → split (decide (1 ≤ s.snd.snd.snd)) (inR IntKind.i8 s.fst → split (decide (0 ≤ s.fst)) (inR IntKind.i8
      s.snd.fst → split (decide (0 ≤ s.snd.fst)) (inR IntKind.i8 s.fst → (-9223372036854775808 ≤ s.fst ∧ s.fst ≤ 9223372036854775807) ∧ (inR IntKind.i8 s.snd.snd.fst → (-9223372036854775808 ≤ s.snd.snd.fst
      ∧ s.snd.snd.fst ≤ 9223372036854775807) ∧ (-9223372036854775808 ≤ s.fst + s.snd.snd.fst ∧ s.fst + s.snd.snd.fst ≤ 9223372036854775807) ∧ (inR IntKind.i8 q.fst → (-9223372036854775808 ≤ q.fst ∧ q.fst ≤
      9223372036854775807) ∧ split (decide (s.fst + s.snd.snd.fst ≤ q.fst)) (inR IntKind.i8 s.snd.fst → (-9223372036854775808 ≤ s.snd.fst ∧ s.snd.fst ≤ 9223372036854775807) ∧ (inR IntKind.i8 s.snd.snd.snd
      → (-9223372036854775808 ≤ s.snd.snd.snd ∧ s.snd.snd.snd ≤ 9223372036854775807) ∧ (-9223372036854775808 ≤ s.snd.fst + s.snd.snd.snd ∧ s.snd.fst + s.snd.snd.snd ≤ 9223372036854775807) ∧ (inR IntKind.i8
      q.snd.fst → (-9223372036854775808 ≤ q.snd.fst ∧ q.snd.fst ≤ 9223372036854775807) ∧ decide (s.snd.fst + s.snd.snd.snd ≤ q.snd.fst) = slabIn q.fst q.snd.fst s))) (false = slabIn q.fst q.snd.fst s))))
      (false = slabIn q.fst q.snd.fst s)) (false = slabIn q.fst q.snd.fst s)) (false = slabIn q.fst q.snd.fst s)) (false = slabIn q.fst q.snd.fst s)) := by
    repeat' (first
      | (intro hh; try simp only [inR, loK, hiK] at hh)
      | exact trivial
      | (refine And.intro ?_ ?_)
      | (refine split_of (fun hh => ?_) (fun hh => ?_)))
    all_goals (first | omega | rfl | (simp_all [slabIn]; done) | (simp_all [slabIn]; omega))
  refine @Eq.mpr _ _ (?_) key
  kernel_rfl
theorem l01Lies_ev (q : Sq) (s : Sl) : Ev Try.prog 149 [aQp q, aS s] (compsOf [rB] (slabIn q.1 q.2.1 s)) := by
  refine ev_of (l := [rB]) (r := (slabIn q.1 q.2.1 s)) (types (resT) [] (fun _ _ => none)) follows Try.func149 (by kernel_rfl) (by rw [Try.ntmps149]; exact Nat.le_of_ble_eq_true rfl) ?_
  have key : (inR IntKind.i8 s.fst → inR IntKind.i8 s.snd.fst → inR IntKind.i8 s.snd.snd.fst → inR IntKind.i8 s.snd.snd.snd → inR IntKind.i8 s.fst → split (!decide (s.fst < 0)) (inR IntKind.i8 s.snd.fst → split
      (!decide (s.snd.fst < 0)) (inR IntKind.i8 s.snd.snd.fst → split (!decide (s.snd.snd.fst < 1)) (inR IntKind.i8 s.snd.snd.snd → split (decide (s.snd.snd.snd < 1)) (false = slabIn q.fst q.snd.fst s)
      (inR IntKind.i8 s.fst → (-9223372036854775808 ≤ s.fst ∧ s.fst ≤ 9223372036854775807) ∧ (inR IntKind.i8 s.snd.snd.fst → (-9223372036854775808 ≤ s.snd.snd.fst ∧ s.snd.snd.fst ≤ 9223372036854775807) ∧
      (-9223372036854775808 ≤ s.fst + s.snd.snd.fst ∧ s.fst + s.snd.snd.fst ≤ 9223372036854775807) ∧ (inR IntKind.i8 q.fst → (-9223372036854775808 ≤ q.fst ∧ q.fst ≤ 9223372036854775807) ∧ split (decide
      (s.fst + s.snd.snd.fst ≤ q.fst)) (inR IntKind.i8 s.snd.fst → (-9223372036854775808 ≤ s.snd.fst ∧ s.snd.fst ≤ 9223372036854775807) ∧ (inR IntKind.i8 s.snd.snd.snd → (-9223372036854775808 ≤
      s.snd.snd.snd ∧ s.snd.snd.snd ≤ 9223372036854775807) ∧ (-9223372036854775808 ≤ s.snd.fst + s.snd.snd.snd ∧ s.snd.fst + s.snd.snd.snd ≤ 9223372036854775807) ∧ (inR IntKind.i8 q.snd.fst →
      (-9223372036854775808 ≤ q.snd.fst ∧ q.snd.fst ≤ 9223372036854775807) ∧ decide (s.snd.fst + s.snd.snd.snd ≤ q.snd.fst) = slabIn q.fst q.snd.fst s))) (false = slabIn q.fst q.snd.fst s))))) (false =
      slabIn q.fst q.snd.fst s)) (false = slabIn q.fst q.snd.fst s)) (false = slabIn q.fst q.snd.fst s)) := by
    repeat' (first
      | (intro hh; try simp only [inR, loK, hiK] at hh)
      | exact trivial
      | (refine And.intro ?_ ?_)
      | (refine split_of (fun hh => ?_) (fun hh => ?_)))
    all_goals (first | omega | (simp only [Bool.not_eq_true', Bool.not_eq_false', decide_eq_true_eq, decide_eq_false_iff_not] at *; rw [Bool.eq_iff_iff]; simp only [slabIn, Bool.and_eq_true, decide_eq_true_eq, reduceCtorEq, false_iff]; omega))
  refine @Eq.mpr _ _ (?_) key
  kernel_rfl
def meetsB (s t : Sl) : Bool := decide (s.1 < t.1 + t.2.2.1) && decide (t.1 < s.1 + s.2.2.1) && decide (s.2.1 < t.2.1 + t.2.2.2) && decide (t.2.1 < s.2.1 + s.2.2.2)
theorem meets_ev (s t : Sl) : Ev Try.prog 113 [aS s, aS t] (compsOf [rB] (meetsB s t)) := by
  refine ev_of (l := [rB]) (r := (meetsB s t)) (types (resT) [] (fun _ _ => none)) follows Try.func113 (by kernel_rfl) (by rw [Try.ntmps113]; exact Nat.le_of_ble_eq_true rfl) ?_
  have key : (inR IntKind.i8 s.fst → inR IntKind.i8 s.snd.fst → inR IntKind.i8 s.snd.snd.fst → inR IntKind.i8 s.snd.snd.snd → inR IntKind.i8 t.fst → inR IntKind.i8 t.snd.fst → inR IntKind.i8 t.snd.snd.fst → inR
      IntKind.i8 t.snd.snd.snd → inR IntKind.i8 s.fst → (-9223372036854775808 ≤ s.fst ∧ s.fst ≤ 9223372036854775807) ∧ (inR IntKind.i8 t.fst → (-9223372036854775808 ≤ t.fst ∧ t.fst ≤ 9223372036854775807) ∧
      (inR IntKind.i8 t.snd.snd.fst → (-9223372036854775808 ≤ t.snd.snd.fst ∧ t.snd.snd.fst ≤ 9223372036854775807) ∧ (-9223372036854775808 ≤ t.fst + t.snd.snd.fst ∧ t.fst + t.snd.snd.fst ≤
      9223372036854775807) ∧ split (decide (s.fst < t.fst + t.snd.snd.fst)) (inR IntKind.i8 t.fst → (-9223372036854775808 ≤ t.fst ∧ t.fst ≤ 9223372036854775807) ∧ (inR IntKind.i8 s.fst →
      (-9223372036854775808 ≤ s.fst ∧ s.fst ≤ 9223372036854775807) ∧ (inR IntKind.i8 s.snd.snd.fst → (-9223372036854775808 ≤ s.snd.snd.fst ∧ s.snd.snd.fst ≤ 9223372036854775807) ∧ (-9223372036854775808 ≤
      s.fst + s.snd.snd.fst ∧ s.fst + s.snd.snd.fst ≤ 9223372036854775807) ∧ split (decide (t.fst < s.fst + s.snd.snd.fst)) (inR IntKind.i8 s.snd.fst → (-9223372036854775808 ≤ s.snd.fst ∧ s.snd.fst ≤
      9223372036854775807) ∧ (inR IntKind.i8 t.snd.fst → (-9223372036854775808 ≤ t.snd.fst ∧ t.snd.fst ≤ 9223372036854775807) ∧ (inR IntKind.i8 t.snd.snd.snd → (-9223372036854775808 ≤ t.snd.snd.snd ∧
      t.snd.snd.snd ≤ 9223372036854775807) ∧ (-9223372036854775808 ≤ t.snd.fst + t.snd.snd.snd ∧ t.snd.fst + t.snd.snd.snd ≤ 9223372036854775807) ∧ split (decide (s.snd.fst < t.snd.fst + t.snd.snd.snd))
      (inR IntKind.i8 t.snd.fst → (-9223372036854775808 ≤ t.snd.fst ∧ t.snd.fst ≤ 9223372036854775807) ∧ (inR IntKind.i8 s.snd.fst → (-9223372036854775808 ≤ s.snd.fst ∧ s.snd.fst ≤ 9223372036854775807) ∧
      (inR IntKind.i8 s.snd.snd.snd → (-9223372036854775808 ≤ s.snd.snd.snd ∧ s.snd.snd.snd ≤ 9223372036854775807) ∧ (-9223372036854775808 ≤ s.snd.fst + s.snd.snd.snd ∧ s.snd.fst + s.snd.snd.snd ≤
      9223372036854775807) ∧ decide (t.snd.fst < s.snd.fst + s.snd.snd.snd) = meetsB s t))) (false = meetsB s t)))) (false = meetsB s t)))) (false = meetsB s t)))) := by
    repeat' (first
      | (intro hh; try simp only [inR, loK, hiK] at hh)
      | exact trivial
      | (refine And.intro ?_ ?_)
      | (refine split_of (fun hh => ?_) (fun hh => ?_)))
    all_goals (first | omega | rfl | (simp_all [meetsB]; done) | (simp_all [meetsB]; omega))
  refine @Eq.mpr _ _ (?_) key
  kernel_rfl
theorem isNaN_ev (x : Int) : Ev Try.prog 184 [.imm (.dat (.int .i8) x)] (compsOf [rB] (false)) := by
  refine ev_of (l := [rB]) (r := (false)) (types (resT) [] (fun _ _ => none)) follows Try.func184 (by kernel_rfl) (by rw [Try.ntmps184]; exact Nat.le_of_ble_eq_true rfl) ?_
  have key : (inR IntKind.i8 x → (!decide (x = x)) = false) := by
    repeat' (first
      | (intro hh; try simp only [inR, loK, hiK] at hh)
      | exact trivial
      | (refine And.intro ?_ ?_)
      | (refine split_of (fun hh => ?_) (fun hh => ?_)))
    all_goals (first | omega | rfl | (simp_all []; done) | (simp_all []; omega))
  refine @Eq.mpr _ _ (?_) key
  kernel_rfl
def cmp8 (a b : Int) : Int := if a < b then -1 else if b < a then 1 else 0
theorem compare_ev (x y : Int) : Ev Try.prog 164 [.imm (.dat (.int .i8) x), .imm (.dat (.int .i8) y)] (compsOf [rI] (cmp8 x y)) := by
  refine ev_of (l := [rI]) (r := (cmp8 x y)) (types (resT) [] (fun _ _ => none)) follows Try.func164 (by kernel_rfl) (by rw [Try.ntmps164]; exact Nat.le_of_ble_eq_true rfl) ?_
  have key : (inR IntKind.i8 x → inR IntKind.i8 y → ∃ (r : Bool), Ev Try.prog 184 [Arg.imm (D.dat (Ty.int IntKind.i8) x)] (compsOf [(false, Ty.bool)] r) ∧ ∃ (r_1 : Bool), Ev Try.prog 184 [Arg.imm (D.dat (Ty.int
      IntKind.i8) y)] (compsOf [(false, Ty.bool)] r_1) ∧ split r (split r_1 (0 = cmp8 x y) (-1 = cmp8 x y)) (split r_1 (1 = cmp8 x y) (split (decide (x < y)) (-1 = cmp8 x y) (split (decide (y < x)) (1 =
      cmp8 x y) (0 = cmp8 x y))))) := by
    repeat' (first
      | (intro hh; try simp only [inR, loK, hiK] at hh)
      | exact trivial
      | (refine ⟨_, isNaN_ev _, ?_⟩)
      | (refine And.intro ?_ ?_)
      | (refine split_of (fun hh => ?_) (fun hh => ?_)))
    all_goals (first | omega | rfl | (simp_all [cmp8]; done) | (simp_all [cmp8]; omega))
  refine @Eq.mpr _ _ (?_) key
  kernel_rfl
def firstNZ : List Int → Int
  | [] => 0
  | a :: r => if a = 0 then firstNZ r else a
noncomputable abbrev orInv (l : List Int) (n : Nat) (σ : List Slot) : Option LoopInv := match n with
  | 3 => some ⟨hvAt Try.f163 3, Nat, fun i => [(8, .val (.dat (.int .i64) i))], fun i => i ≤ l.length ∧ firstNZ (l.drop i) = firstNZ l, fun i => l.length - i⟩
  | _ => none
theorem or_ev (l : List Int) : Ev Try.prog 163 [.imm (.dat (.slice 3 (.int .i64)) l)] (compsOf [rI] (firstNZ l)) := by
  refine ev_of (l := [rI]) (r := (firstNZ l)) (types (resT) [] (orInv l)) follows Try.func163 (by kernel_rfl) (by rw [Try.ntmps163]; exact Nat.le_of_ble_eq_true rfl) ?_
  have key : ((l.length ≤ 9223372036854775807 ∧ ∀ (x : Int), List.Mem x l → inR IntKind.i64 x) → ((l.length : Nat) : Int) ≤ 9223372036854775807 → (∃ (x0 : Nat), Slot.val (D.dat (Ty.int IntKind.i64) 0) = Slot.val
      (D.dat (Ty.int IntKind.i64) ((x0 : Nat) : Int)) ∧ x0 ≤ l.length ∧ firstNZ (List.drop x0 l) = firstNZ l) ∧ ∀ (x : Nat), x ≤ l.length ∧ firstNZ (List.drop x l) = firstNZ l → inR IntKind.i64 ((x : Nat)
      : Int) → split (decide (((x : Nat) : Int) < ((l.length : Nat) : Int))) ((0 ≤ ((x : Nat) : Int) ∧ ((x : Nat) : Int) < ((l.length : Nat) : Int)) ∧ (inR IntKind.i64 (l.getD (((x : Nat) : Int)).toNat 0)
      → split (!decide (l.getD (((x : Nat) : Int)).toNat (0 : Int) = 0)) (l.getD (((x : Nat) : Int)).toNat 0 = firstNZ l) ((-9223372036854775808 ≤ ((x : Nat) : Int) + 1 ∧ ((x : Nat) : Int) + 1 ≤
      9223372036854775807) ∧ ∃ (x' : Nat), Slot.val (D.dat (Ty.int IntKind.i64) (((x : Nat) : Int) + 1)) = Slot.val (D.dat (Ty.int IntKind.i64) ((x' : Nat) : Int)) ∧ (x' ≤ l.length ∧ firstNZ (List.drop x'
      l) = firstNZ l) ∧ l.length - x' < l.length - x))) (0 = firstNZ l)) := by
    intro hl hlen
    refine ⟨⟨0, rfl, by simp, by simp⟩, fun i hi hr => ?_⟩
    refine split_of (fun h => ?_) (fun h => ?_)
    · have h : i < l.length := by simpa using h
      refine ⟨by omega, fun hv => ?_⟩
      have hd : l.drop i = l[i] :: l.drop (i + 1) := List.drop_eq_getElem_cons h
      have hg : l.getD ((i : Nat) : Int).toNat 0 = l[i] := by simp [List.getD_eq_getElem?_getD, h]
      rw [hg] at hv ⊢
      rw [hd] at hi
      refine split_of (fun h2 => ?_) (fun h2 => ?_)
      · have h2 : l[i] ≠ 0 := by simpa using h2
        rw [← hi.2, firstNZ, if_neg h2]
      · have h2 : l[i] = 0 := by simpa using h2
        refine ⟨by omega, i + 1, rfl, ⟨by omega, ?_⟩, by omega⟩
        rw [← hi.2, firstNZ, if_pos h2]
    · have h : ¬ i < l.length := by simpa using h
      have e : l.drop i = [] := List.drop_eq_nil_of_le (by omega)
      rw [e] at hi
      rw [← hi.2]; rfl
  refine @Eq.mpr _ _ (?_) key
  kernel_rfl
theorem compareCells_ev (x y : Int × Int) : Ev Try.prog 152 [aC x, aC y] (compsOf [rI] (firstNZ [cmp8 x.2 y.2, cmp8 x.1 y.1])) := by
  refine ev_of (l := [rI]) (r := (firstNZ [cmp8 x.2 y.2, cmp8 x.1 y.1])) (types (resT) [] (fun _ _ => none)) follows Try.func152 (by kernel_rfl) (by rw [Try.ntmps152]; exact Nat.le_of_ble_eq_true rfl) ?_
  have key : (inR IntKind.i8 x.fst → inR IntKind.i8 x.snd → inR IntKind.i8 y.fst → inR IntKind.i8 y.snd → inR IntKind.i8 x.snd → inR IntKind.i8 y.snd → ∃ (r : Int), Ev Try.prog 164 [Arg.imm (D.dat (Ty.int
      IntKind.i8) x.snd), Arg.imm (D.dat (Ty.int IntKind.i8) y.snd)] (compsOf [(false, Ty.int IntKind.i64)] r) ∧ (inR IntKind.i64 r → inR IntKind.i8 x.fst → inR IntKind.i8 y.fst → ∃ (r_1 : Int), Ev
      Try.prog 164 [Arg.imm (D.dat (Ty.int IntKind.i8) x.fst), Arg.imm (D.dat (Ty.int IntKind.i8) y.fst)] (compsOf [(false, Ty.int IntKind.i64)] r_1) ∧ (inR IntKind.i64 r_1 → ∃ (r_2 : Int), Ev Try.prog 163
      [Arg.imm (D.dat (Ty.slice 3 (Ty.int IntKind.i64)) [r, r_1])] (compsOf [(false, Ty.int IntKind.i64)] r_2) ∧ (inR IntKind.i64 r_2 → r_2 = firstNZ [cmp8 x.snd y.snd, cmp8 x.fst y.fst])))) := by
    repeat' (first
      | (intro hh; try simp only [inR, loK, hiK] at hh)
      | exact trivial
      | (refine ⟨_, compare_ev _ _, ?_⟩)
      | (refine ⟨_, or_ev _, ?_⟩)
      | (refine And.intro ?_ ?_)
      | (refine split_of (fun hh => ?_) (fun hh => ?_)))
    all_goals (first | omega | rfl | (simp_all []; done) | (simp_all []; omega))
  refine @Eq.mpr _ _ (?_) key
  kernel_rfl
def firstOf (s : Sl) : Int × Int := (s.1, s.2.1)
theorem first_ev (s : Sl) : Ev Try.prog 153 [aS s] (compsOf [rC] (firstOf s)) := by
  refine ev_of (l := [rC]) (r := (firstOf s)) (types (resT) [] (fun _ _ => none)) follows Try.func153 (by kernel_rfl) (by rw [Try.ntmps153]; exact Nat.le_of_ble_eq_true rfl) ?_
  have key : (inR IntKind.i8 s.fst → inR IntKind.i8 s.snd.fst → inR IntKind.i8 s.snd.snd.fst → inR IntKind.i8 s.snd.snd.snd → inR IntKind.i8 s.fst → inR IntKind.i8 s.snd.fst → (s.fst, s.snd.fst) = firstOf s) := by
    repeat' (first
      | (intro hh; try simp only [inR, loK, hiK] at hh)
      | exact trivial
      | (refine And.intro ?_ ?_)
      | (refine split_of (fun hh => ?_) (fun hh => ?_)))
    all_goals (first | omega | rfl | (simp_all [firstOf]; done) | (simp_all [firstOf]; omega))
  refine @Eq.mpr _ _ (?_) key
  kernel_rfl
def ordS (s t : Sl) : Int := firstNZ [cmp8 s.2.1 t.2.1, cmp8 s.1 t.1]
theorem compareSlabs_ev (s t : Sl) : Ev Try.prog 114 [aS s, aS t] (compsOf [rI] (ordS s t)) := by
  refine ev_of (l := [rI]) (r := (ordS s t)) (types (resT) [] (fun _ _ => none)) follows Try.func114 (by kernel_rfl) (by rw [Try.ntmps114]; exact Nat.le_of_ble_eq_true rfl) ?_
  have key : (inR IntKind.i8 s.fst → inR IntKind.i8 s.snd.fst → inR IntKind.i8 s.snd.snd.fst → inR IntKind.i8 s.snd.snd.snd → inR IntKind.i8 t.fst → inR IntKind.i8 t.snd.fst → inR IntKind.i8 t.snd.snd.fst → inR
      IntKind.i8 t.snd.snd.snd → inR IntKind.i8 s.fst → inR IntKind.i8 s.snd.fst → inR IntKind.i8 s.snd.snd.fst → inR IntKind.i8 s.snd.snd.snd → ∃ (r : Int × Int), Ev Try.prog 153 [Arg.imm (D.dat slabT s)]
      (compsOf [(false, (Ty.int IntKind.i8).prod (Ty.int IntKind.i8))] r) ∧ (inR IntKind.i8 r.fst → inR IntKind.i8 r.snd → inR IntKind.i8 t.fst → inR IntKind.i8 t.snd.fst → inR IntKind.i8 t.snd.snd.fst →
      inR IntKind.i8 t.snd.snd.snd → ∃ (r_1 : Int × Int), Ev Try.prog 153 [Arg.imm (D.dat slabT t)] (compsOf [(false, (Ty.int IntKind.i8).prod (Ty.int IntKind.i8))] r_1) ∧ (inR IntKind.i8 r_1.fst → inR
      IntKind.i8 r_1.snd → ∃ (r_2 : Int), Ev Try.prog 152 [Arg.imm (D.dat cellT r), Arg.imm (D.dat cellT r_1)] (compsOf [(false, Ty.int IntKind.i64)] r_2) ∧ (inR IntKind.i64 r_2 → r_2 = ordS s t)))) := by
    repeat' (first
      | (intro hh; try simp only [inR, loK, hiK] at hh)
      | exact trivial
      | (refine ⟨_, first_ev _, ?_⟩)
      | (refine ⟨_, compareCells_ev _ _, ?_⟩)
      | (refine And.intro ?_ ?_)
      | (refine split_of (fun hh => ?_) (fun hh => ?_)))
    all_goals (first | omega | rfl | (simp_all [ordS firstOf]; done) | (simp_all [ordS firstOf]; omega))
  refine @Eq.mpr _ _ (?_) key
  kernel_rfl
def befS (a b : Sl) : Bool := decide (a.2.1 < b.2.1) || (decide (a.2.1 = b.2.1) && decide (a.1 < b.1))
theorem l01Before_ev (x y : Sl) : Ev Try.prog 150 [aS x, aS y] (compsOf [rB] (befS x y)) := by
  refine ev_of (l := [rB]) (r := (befS x y)) (types (resT) [] (fun _ _ => none)) follows Try.func150 (by kernel_rfl) (by rw [Try.ntmps150]; exact Nat.le_of_ble_eq_true rfl) ?_
  have key : (inR IntKind.i8 x.fst → inR IntKind.i8 x.snd.fst → inR IntKind.i8 x.snd.snd.fst → inR IntKind.i8 x.snd.snd.snd → inR IntKind.i8 y.fst → inR IntKind.i8 y.snd.fst → inR IntKind.i8 y.snd.snd.fst → inR
      IntKind.i8 y.snd.snd.snd → inR IntKind.i8 x.snd.fst → inR IntKind.i8 y.snd.fst → split (!decide (x.snd.fst < y.snd.fst)) (inR IntKind.i8 x.snd.fst → inR IntKind.i8 y.snd.fst → split (decide
      (x.snd.fst = y.snd.fst)) (inR IntKind.i8 x.fst → inR IntKind.i8 y.fst → decide (x.fst < y.fst) = befS x y) (false = befS x y)) (true = befS x y)) := by
    repeat' (first
      | (intro hh; try simp only [inR, loK, hiK] at hh)
      | exact trivial
      | (refine And.intro ?_ ?_)
      | (refine split_of (fun hh => ?_) (fun hh => ?_)))
    all_goals (first | omega | rfl | (simp_all [befS]; done) | (simp_all [befS]; omega))
  refine @Eq.mpr _ _ (?_) key
  kernel_rfl
def idxP {α : Type} (p : α → Bool) : List α → Int
  | [] => -1
  | a :: l => if p a then 0 else (if idxP p l < 0 then -1 else idxP p l + 1)
theorem idxP_found {α : Type} {p : α → Bool} {d : α} : ∀ {l : List α} {i : Nat}, i < l.length → p (l.getD i d) = true → (∀ j : Nat, j < i → p (l.getD j d) = false) → (i : Int) = idxP p l
  | q :: l, 0, _, h, _ => by simp at h; simp [idxP, h]
  | q :: l, i + 1, hl, h, hn => by
    have h0 : p q = false := by have := hn 0 (by omega); simpa using this
    have ih := idxP_found (d := d) (l := l) (p := p) (i := i) (by simpa using hl) (by simpa using h) fun j hj => by have := hn (j + 1) (by omega); simpa using this
    simp only [idxP, h0, ← ih]
    rw [if_neg (by simp), if_neg (by omega)]; omega
theorem idxP_none {α : Type} {p : α → Bool} {d : α} : ∀ {l : List α}, (∀ j : Nat, j < l.length → p (l.getD j d) = false) → -1 = idxP p l
  | [], _ => rfl
  | q :: l, hn => by
    have h0 : p q = false := by have := hn 0 (by simp); simpa using this
    have ih := idxP_none (d := d) (l := l) (p := p) fun j hj => by have := hn (j + 1) (by simpa using hj); simpa using this
    simp only [idxP, h0, ← ih]
    simp
theorem idxP_iff {α : Type} {p : α → Bool} : ∀ {l : List α}, (0 ≤ idxP p l ↔ l.any p = true) ∧ -1 ≤ idxP p l
  | [] => by simp [idxP]
  | q :: l => by
    obtain ⟨ih, ih2⟩ := idxP_iff (p := p) (l := l)
    by_cases h : p q = true
    · have e : idxP p (q :: l) = 0 := by simp [idxP, h]
      rw [e]; simp [h]
    · have h' : p q = false := by simpa using h
      rw [List.any_cons, h', Bool.false_or, ← ih]
      by_cases c : idxP p l < 0
      · have e : idxP p (q :: l) = -1 := by simp [idxP, h', c]
        rw [e]; omega
      · have e : idxP p (q :: l) = idxP p l + 1 := by simp [idxP, h', c]
        rw [e]; omega
theorem idxP_any {α : Type} {p : α → Bool} {l : List α} : decide (0 ≤ idxP p l) = l.any p := by
  rw [Bool.eq_iff_iff, decide_eq_true_eq]; exact idxP_iff.1
noncomputable abbrev idxSInv (l : List Sl) (p : Sl → Bool) (n : Nat) (σ : List Slot) : Option LoopInv := match n with
  | 2 => some ⟨hvAt Try.f151 2, Nat, fun i => [(8, .val (.dat (.int .i64) i))], fun i => i ≤ l.length ∧ ∀ j : Nat, j < i → p (l.getD j (0, 0, 0, 0)) = false, fun i => l.length - i⟩
  | _ => none
theorem indexFuncB_ev (l : List Sl) (f : Nat) (d : D) (p : Sl → Bool) (hp : ∀ s ∈ l, Ev Try.prog f [.imm d, aS s] (compsOf [rB] (p s))) : Ev Try.prog 151 [aSs l, .imm (.bnd f (.cn d .nl))] (compsOf [rI] (idxP p l)) := by
  refine ev_of (l := [rI]) (r := (idxP p l)) (types (fun _ => some [rB]) [] (idxSInv l p)) follows Try.func151 (by kernel_rfl) (by rw [Try.ntmps151]; exact Nat.le_of_ble_eq_true rfl) ?_
  have key : ((l.length ≤ 9223372036854775807 ∧ ∀ (x : Int × Int × Int × Int), List.Mem x l → inR IntKind.i8 x.fst ∧ inR IntKind.i8 x.snd.fst ∧ inR IntKind.i8 x.snd.snd.fst ∧ inR IntKind.i8 x.snd.snd.snd) →
      ((l.length : Nat) : Int) ≤ 9223372036854775807 → (∃ (x0 : Nat), Slot.val (D.dat (Ty.int IntKind.i64) 0) = Slot.val (D.dat (Ty.int IntKind.i64) ((x0 : Nat) : Int)) ∧ x0 ≤ l.length ∧ ∀ (j : Nat), j <
      x0 → p (l.getD j (0, 0, 0, 0)) = false) ∧ ∀ (x : Nat), (x ≤ l.length ∧ ∀ (j : Nat), j < x → p (l.getD j (0, 0, 0, 0)) = false) → inR IntKind.i64 ((x : Nat) : Int) → split (decide (((x : Nat) : Int) <
      ((l.length : Nat) : Int))) ((0 ≤ ((x : Nat) : Int) ∧ ((x : Nat) : Int) < ((l.length : Nat) : Int)) ∧ (inR IntKind.i8 (l.getD (((x : Nat) : Int)).toNat (0, 0, 0, 0)).fst → inR IntKind.i8 (l.getD (((x
      : Nat) : Int)).toNat (0, 0, 0, 0)).snd.fst → inR IntKind.i8 (l.getD (((x : Nat) : Int)).toNat (0, 0, 0, 0)).snd.snd.fst → inR IntKind.i8 (l.getD (((x : Nat) : Int)).toNat (0, 0, 0, 0)).snd.snd.snd →
      ∃ (r : Bool), Ev Try.prog f [Arg.imm d, Arg.imm (D.dat slabT (l.getD (((x : Nat) : Int)).toNat (0, 0, 0, 0)))] (compsOf [(false, Ty.bool)] r) ∧ split r (((x : Nat) : Int) = idxP p l)
      ((-9223372036854775808 ≤ ((x : Nat) : Int) + 1 ∧ ((x : Nat) : Int) + 1 ≤ 9223372036854775807) ∧ ∃ (x' : Nat), Slot.val (D.dat (Ty.int IntKind.i64) (((x : Nat) : Int) + 1)) = Slot.val (D.dat (Ty.int
      IntKind.i64) ((x' : Nat) : Int)) ∧ (x' ≤ l.length ∧ ∀ (j : Nat), j < x' → p (l.getD j (0, 0, 0, 0)) = false) ∧ l.length - x' < l.length - x))) (-1 = idxP p l)) := by
    intro _ _
    refine ⟨⟨0, rfl, by omega, fun j hj => by omega⟩, fun i ⟨hi, hn⟩ _ => split_of (fun h => ?_) (fun h => ?_)⟩
    · have h := of_decide_eq_true h
      simp only [Int.toNat_natCast]
      have hm : l.getD i (0, 0, 0, 0) ∈ l := by
        have : l.getD i (0, 0, 0, 0) = l[i]'(by omega) := by simp [List.getD_eq_getElem?_getD, show i < l.length by omega]
        rw [this]; exact List.getElem_mem _
      exact ⟨by omega, fun _ _ _ _ => ⟨_, hp _ hm, split_of (fun h2 => idxP_found (by omega) h2 hn) (fun h2 => ⟨by omega, i + 1, rfl, ⟨by omega, upto_step hn h2⟩, by omega⟩)⟩⟩
    · have h := of_decide_eq_false h
      exact idxP_none fun j hj => hn j (by omega)
  refine @Eq.mpr _ _ (?_) key
  kernel_rfl
theorem containsFuncB_ev (l : List Sl) (f : Nat) (d : D) (p : Sl → Bool) (hp : ∀ s ∈ l, Ev Try.prog f [.imm d, aS s] (compsOf [rB] (p s))) : Ev Try.prog 112 [aSs l, .imm (.bnd f (.cn d .nl))] (compsOf [rB] (l.any p)) := by
  refine ev_of (l := [rB]) (r := (l.any p)) (types (resT) [] (fun _ _ => none)) follows Try.func112 (by kernel_rfl) (by rw [Try.ntmps112]; exact Nat.le_of_ble_eq_true rfl) ?_
  have key : ((l.length ≤ 9223372036854775807 ∧ ∀ (x : Int × Int × Int × Int), List.Mem x l → inR IntKind.i8 x.fst ∧ inR IntKind.i8 x.snd.fst ∧ inR IntKind.i8 x.snd.snd.fst ∧ inR IntKind.i8 x.snd.snd.snd) → ∃ (r :
      Int), Ev Try.prog 151 [Arg.imm (D.dat (Ty.slice 41 slabT) l), Arg.imm (D.bnd f (d.cn D.nl))] (compsOf [(false, Ty.int IntKind.i64)] r) ∧ (inR IntKind.i64 r → decide (0 ≤ r) = l.any p)) := by
    intros
    exact ⟨_, indexFuncB_ev l f d p hp, fun _ => idxP_any⟩
  refine @Eq.mpr _ _ (?_) key
  kernel_rfl
end Go.Proofs.Ytmjijggkdbiijaa
