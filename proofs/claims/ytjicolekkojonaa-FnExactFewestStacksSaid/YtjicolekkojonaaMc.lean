/- Loads: small functions. No statement is proved here. -/
import Derived.Test.YtjicolekkojonaaMb
import Derived.Test.YtjicolekkojonaaA2
import Derived.Test.YtjicolekkojonaaKe
namespace Go.Proofs.Ytjicolekkojonaa
open Go.RowKit
set_option linter.unusedVariables false
set_option linter.unusedSimpArgs false
set_option maxRecDepth 100000
set_option maxHeartbeats 4000000
abbrev Sl := Int × Int × Int × Int
abbrev aS (s : Sl) : Arg := .imm (.dat slabT s)
abbrev aSs (l : List Sl) : Arg := .imm (.dat (.slice 46 slabT) l)
abbrev aSs0 (l : List Sl) : Arg := .imm (.dat (.slice 48 slabT) l)
abbrev aI (x : Int) : Arg := .imm (.dat (.int .i64) x)
abbrev aB (b : Bool) : Arg := .imm (.dat .bool b)
abbrev aIs (l : List Int) : Arg := .imm (.dat (.slice 2 (.int .i64)) l)
abbrev aIo (l : List Int) : Arg := .own (.slice 2 (.int .i64)) l
abbrev rI : Bool × Ty := (false, .int .i64)
abbrev rB : Bool × Ty := (false, .bool)
abbrev rS : Bool × Ty := (false, slabT)
abbrev oIs : Bool × Ty := (true, .slice 2 (.int .i64))
abbrev oSs : Bool × Ty := (true, .slice 46 slabT)
abbrev iT : Ty := .int .i64
def inB (n lo hi : Int) : Bool := decide (lo ≤ n) && decide (n ≤ hi)
theorem ownT_eq {t : Ty} {x y : t.T} (h : x = y) : Slot.own t x = Slot.own t y := by rw [h]
theorem valT_eq {t : Ty} {x y : t.T} (h : x = y) : Slot.val (.dat t x) = Slot.val (.dat t y) := by rw [h]
theorem boxT_eq {t : Ty} {x y : t.T} (h : x = y) : Slot.box (.dat t x) = Slot.box (.dat t y) := by rw [h]
theorem valI_eq {k : IntKind} {x y : Int} (h : x = y) : Slot.val (.dat (.int k) x) = Slot.val (.dat (.int k) y) := by rw [h]
theorem i8b {x : Int} (h : inR .i8 x) : -9223372036854775808 ≤ x ∧ x ≤ 9223372036854775807 := by simp only [inR, loK, hiK] at h; omega
theorem b8 {x : Int} (h : inR .i8 x) : -128 ≤ x ∧ x ≤ 127 := h
theorem upto_step {p : Nat → Prop} {i : Nat} (h : ∀ j : Nat, j < i → p j) (h2 : p i) : ∀ j : Nat, j < i + 1 → p j := by
  intro j hj
  rcases Nat.lt_or_ge j i with q | q
  · exact h j q
  · obtain rfl : j = i := by omega
    exact h2
theorem within_ev (n lo hi : Int) : Ev Try.prog 35 [aI n, aI lo, aI hi] (compsOf [rB] (inB n lo hi)) := by
  refine ev_of (l := [rB]) (r := (inB n lo hi)) (types (resT) [] (fun _ _ => none)) follows Try.func35 (by kernel_rfl) (by rw [Try.ntmps35]; exact Nat.le_of_ble_eq_true rfl) ?_
  have key : (inR IntKind.i64 n → inR IntKind.i64 lo → inR IntKind.i64 hi → split (decide (lo ≤ n)) (decide (n ≤ hi) = inB n lo hi) (false = inB n lo hi)) := by
    repeat' (first
      | (intro hh; try simp only [inR, loK, hiK] at hh)
      | exact trivial
      | (refine And.intro ?_ ?_)
      | (refine split_of (fun hh => ?_) (fun hh => ?_)))
    all_goals (first | omega | rfl | (simp_all [inB]; done) | (simp_all [inB]; omega))
  refine @Eq.mpr _ _ (?_) key
  kernel_rfl
theorem l00In_ev (n lo hi : Int) : Ev Try.prog 30 [aI n, aI lo, aI hi] (compsOf [rB] (inB n lo hi)) := by
  refine ev_of (l := [rB]) (r := (inB n lo hi)) (types (resT) [] (fun _ _ => none)) follows Try.func30 (by kernel_rfl) (by rw [Try.ntmps30]; exact Nat.le_of_ble_eq_true rfl) ?_
  have key : (inR IntKind.i64 n → inR IntKind.i64 lo → inR IntKind.i64 hi → split (decide (lo ≤ n)) (decide (n ≤ hi) = inB n lo hi) (false = inB n lo hi)) := by
    repeat' (first
      | (intro hh; try simp only [inR, loK, hiK] at hh)
      | exact trivial
      | (refine And.intro ?_ ?_)
      | (refine split_of (fun hh => ?_) (fun hh => ?_)))
    all_goals (first | omega | rfl | (simp_all [inB]; done) | (simp_all [inB]; omega))
  refine @Eq.mpr _ _ (?_) key
  kernel_rfl
def edgeB (n : Int) : Bool := inB n 1 12
theorem isEdge_ev (n : Int) : Ev Try.prog 64 [aI n] (compsOf [rB] (edgeB n)) := by
  refine ev_of (l := [rB]) (r := (edgeB n)) (types (resT) [] (fun _ _ => none)) follows Try.func64 (by kernel_rfl) (by rw [Try.ntmps64]; exact Nat.le_of_ble_eq_true rfl) ?_
  have key : (inR IntKind.i64 n → ∃ (r : Bool), Ev Try.prog 35 [Arg.imm (D.dat (Ty.int IntKind.i64) n), Arg.imm (D.dat (Ty.int IntKind.i64) 1), Arg.imm (D.dat (Ty.int IntKind.i64) 12)] (compsOf [(false, Ty.bool)]
      r) ∧ r = edgeB n) := by
    intros
    exact ⟨_, within_ev _ _ _, rfl⟩
  refine @Eq.mpr _ _ (?_) key
  kernel_rfl
theorem l01Edge_ev (n : Int) : Ev Try.prog 58 [aI n] (compsOf [rB] (edgeB n)) := by
  refine ev_of (l := [rB]) (r := (edgeB n)) (types (resT) [] (fun _ _ => none)) follows Try.func58 (by kernel_rfl) (by rw [Try.ntmps58]; exact Nat.le_of_ble_eq_true rfl) ?_
  have key : (inR IntKind.i64 n → ∃ (r : Bool), Ev Try.prog 30 [Arg.imm (D.dat (Ty.int IntKind.i64) n), Arg.imm (D.dat (Ty.int IntKind.i64) 1), Arg.imm (D.dat (Ty.int IntKind.i64) 12)] (compsOf [(false, Ty.bool)]
      r) ∧ r = edgeB n) := by
    intros
    exact ⟨_, l00In_ev _ _ _, rfl⟩
  refine @Eq.mpr _ _ (?_) key
  kernel_rfl
def unlessI (t : Bool) (c : Int) : Int := if t then 0 else c
theorem unless_ev (t : Bool) (c : Int) : Ev Try.prog 52 [aB t, aI c] (compsOf [rI] (unlessI t c)) := by
  refine ev_of (l := [rI]) (r := (unlessI t c)) (types (resT) [] (fun _ _ => none)) follows Try.func52 (by kernel_rfl) (by rw [Try.ntmps52]; exact Nat.le_of_ble_eq_true rfl) ?_
  have key : (inR IntKind.i64 c → split t (0 = unlessI t c) (c = unlessI t c)) := by
    repeat' (first
      | (intro hh; try simp only [inR, loK, hiK] at hh)
      | exact trivial
      | (refine And.intro ?_ ?_)
      | (refine split_of (fun hh => ?_) (fun hh => ?_)))
    all_goals (first | omega | rfl | (simp_all [unlessI]; done) | (simp_all [unlessI]; omega))
  refine @Eq.mpr _ _ (?_) key
  kernel_rfl
def idxP {α : Type} (p : α → Bool) : List α → Int
  | [] => -1
  | a :: l => if p a then 0 else (if idxP p l < 0 then -1 else idxP p l + 1)
theorem idxP_found {α : Type} {p : α → Bool} {d : α} : ∀ {l : List α} {i : Nat}, i < l.length → p (l.getD i d) = true → (∀ j : Nat, j < i → p (l.getD j d) = false) → (i : Int) = idxP p l
  | q :: l, 0, _, h, _ => by simp at h; simp [idxP, h]
  | q :: l, i + 1, hl, h, hn => by
    have h0 : p q = false := by have := hn 0 (by omega); simpa using this
    have ih := idxP_found (d := d) (l := l) (p := p) (i := i) (by simpa using hl) (by simpa using h) fun j hj => by have := hn (j + 1) (by omega); simpa using this
    simp only [idxP, h0, ← ih]
    rw [if_neg (by simp), if_neg (by omega)]; omega
theorem idxP_none {α : Type} {p : α → Bool} {d : α} : ∀ {l : List α}, (∀ j : Nat, j < l.length → p (l.getD j d) = false) → -1 = idxP p l
  | [], _ => rfl
  | q :: l, hn => by
    have h0 : p q = false := by have := hn 0 (by simp); simpa using this
    have ih := idxP_none (d := d) (l := l) (p := p) fun j hj => by have := hn (j + 1) (by simpa using hj); simpa using this
    simp only [idxP, h0, ← ih]
    simp
theorem idxP_iff {α : Type} {p : α → Bool} : ∀ {l : List α}, (0 ≤ idxP p l ↔ l.any p = true) ∧ -1 ≤ idxP p l
  | [] => by simp [idxP]
  | q :: l => by
    obtain ⟨ih, ih2⟩ := idxP_iff (p := p) (l := l)
    by_cases h : p q = true
    · have e : idxP p (q :: l) = 0 := by simp [idxP, h]
      rw [e]; simp [h]
    · have h' : p q = false := by simpa using h
      rw [List.any_cons, h', Bool.false_or, ← ih]
      by_cases c : idxP p l < 0
      · have e : idxP p (q :: l) = -1 := by simp [idxP, h', c]
        rw [e]; omega
      · have e : idxP p (q :: l) = idxP p l + 1 := by simp [idxP, h', c]
        rw [e]; omega
theorem idxP_any {α : Type} {p : α → Bool} {l : List α} : decide (0 ≤ idxP p l) = l.any p := by
  rw [Bool.eq_iff_iff, decide_eq_true_eq]; exact idxP_iff.1
noncomputable abbrev idxIInv (l : List Int) (p : Int → Bool) (n : Nat) (σ : List Slot) : Option LoopInv := match n with
  | 2 => some ⟨hvAt Try.f55 2, Nat, fun i => [(8, .val (.dat (.int .i64) i))], fun i => i ≤ l.length ∧ ∀ j : Nat, j < i → p (l.getD j 0) = false, fun i => l.length - i⟩
  | _ => none
theorem indexFuncI_ev (l : List Int) (f : Nat) (d1 : D) (p : Int → Bool) (hp : ∀ x ∈ l, Ev Try.prog f [aI x, .imm d1] (compsOf [rB] (p x))) : Ev Try.prog 55 [aIs l, .imm (.clo f (.cn d1 .nl))] (compsOf [rI] (idxP p l)) := by
  refine ev_of (l := [rI]) (r := (idxP p l)) (types (fun _ => some [rB]) [] (idxIInv l p)) follows Try.func55 (by kernel_rfl) (by rw [Try.ntmps55]; exact Nat.le_of_ble_eq_true rfl) ?_
  have key : ((l.length ≤ 9223372036854775807 ∧ ∀ (x : Int), List.Mem x l → inR IntKind.i64 x) → ((l.length : Nat) : Int) ≤ 9223372036854775807 → (∃ (x0 : Nat), Slot.val (D.dat (Ty.int IntKind.i64) 0) = Slot.val
      (D.dat (Ty.int IntKind.i64) ((x0 : Nat) : Int)) ∧ x0 ≤ l.length ∧ ∀ (j : Nat), j < x0 → p (l.getD j 0) = false) ∧ ∀ (x : Nat), (x ≤ l.length ∧ ∀ (j : Nat), j < x → p (l.getD j 0) = false) → inR
      IntKind.i64 ((x : Nat) : Int) → split (decide (((x : Nat) : Int) < ((l.length : Nat) : Int))) ((0 ≤ ((x : Nat) : Int) ∧ ((x : Nat) : Int) < ((l.length : Nat) : Int)) ∧ (inR IntKind.i64 (l.getD (((x :
      Nat) : Int)).toNat 0) → ∃ (r : Bool), Ev Try.prog f [Arg.imm (D.dat (Ty.int IntKind.i64) (l.getD (((x : Nat) : Int)).toNat 0)), Arg.imm d1] (compsOf [(false, Ty.bool)] r) ∧ split r (((x : Nat) : Int)
      = idxP p l) ((-9223372036854775808 ≤ ((x : Nat) : Int) + 1 ∧ ((x : Nat) : Int) + 1 ≤ 9223372036854775807) ∧ ∃ (x' : Nat), Slot.val (D.dat (Ty.int IntKind.i64) (((x : Nat) : Int) + 1)) = Slot.val
      (D.dat (Ty.int IntKind.i64) ((x' : Nat) : Int)) ∧ (x' ≤ l.length ∧ ∀ (j : Nat), j < x' → p (l.getD j 0) = false) ∧ l.length - x' < l.length - x))) (-1 = idxP p l)) := by
    intro _ _
    refine ⟨⟨0, rfl, by omega, fun j hj => by omega⟩, fun i ⟨hi, hn⟩ _ => split_of (fun h => ?_) (fun h => ?_)⟩
    · have h := of_decide_eq_true h
      simp only [Int.toNat_natCast]
      have hm : l.getD i 0 ∈ l := by
        have : l.getD i 0 = l[i]'(by omega) := by simp [List.getD_eq_getElem?_getD, show i < l.length by omega]
        rw [this]; exact List.getElem_mem _
      exact ⟨by omega, fun _ => ⟨_, hp _ hm, split_of (fun h2 => idxP_found (by omega) h2 hn) (fun h2 => ⟨by omega, i + 1, rfl, ⟨by omega, upto_step hn h2⟩, by omega⟩)⟩⟩
    · have h := of_decide_eq_false h
      exact idxP_none fun j hj => hn j (by omega)
  refine @Eq.mpr _ _ (?_) key
  kernel_rfl
theorem containsFuncI_ev (l : List Int) (f : Nat) (d1 : D) (p : Int → Bool) (hp : ∀ x ∈ l, Ev Try.prog f [aI x, .imm d1] (compsOf [rB] (p x))) : Ev Try.prog 33 [aIs l, .imm (.clo f (.cn d1 .nl))] (compsOf [rB] (l.any p)) := by
  refine ev_of (l := [rB]) (r := (l.any p)) (types (resT) [] (fun _ _ => none)) follows Try.func33 (by kernel_rfl) (by rw [Try.ntmps33]; exact Nat.le_of_ble_eq_true rfl) ?_
  have key : ((l.length ≤ 9223372036854775807 ∧ ∀ (x : Int), List.Mem x l → inR IntKind.i64 x) → ∃ (r : Int), Ev Try.prog 55 [Arg.imm (D.dat (Ty.slice 2 (Ty.int IntKind.i64)) l), Arg.imm (D.clo f (d1.cn D.nl))]
      (compsOf [(false, Ty.int IntKind.i64)] r) ∧ (inR IntKind.i64 r → decide (0 ≤ r) = l.any p)) := by
    intros
    exact ⟨_, indexFuncI_ev l f d1 p hp, fun _ => idxP_any⟩
  refine @Eq.mpr _ _ (?_) key
  kernel_rfl
theorem loadWeights1_ev (x h : Int) : Ev Try.prog 48 [aI x, .imm (.ref (.dat (.int .i64) h))] (compsOf [rB] (decide (h < x))) := by
  refine ev_of (l := [rB]) (r := (decide (h < x))) (types (resT) [] (fun _ _ => none)) follows Try.func48 (by kernel_rfl) (by rw [Try.ntmps48]; exact Nat.le_of_ble_eq_true rfl) ?_
  have key : (inR IntKind.i64 x → inR IntKind.i64 h → decide (h < x) = decide (h < x)) := by
    repeat' (first
      | (intro hh; try simp only [inR, loK, hiK] at hh)
      | exact trivial
      | (refine And.intro ?_ ?_)
      | (refine split_of (fun hh => ?_) (fun hh => ?_)))
    all_goals (first | omega | rfl | (simp_all []; done) | (simp_all []; omega))
  refine @Eq.mpr _ _ (?_) key
  kernel_rfl
noncomputable abbrev idxEInv (l : List Int) (x : Int) (n : Nat) (σ : List Slot) : Option LoopInv := match n with
  | 2 => some ⟨hvAt Try.f36 2, Nat, fun i => [(8, .val (.dat (.int .i64) i))], fun i => i ≤ l.length ∧ ∀ j : Nat, j < i → decide (x = l.getD j 0) = false, fun i => l.length - i⟩
  | _ => none
theorem indexE_ev (l : List Int) (x : Int) : Ev Try.prog 36 [aIs l, aI x] (compsOf [rI] (idxP (fun y => decide (x = y)) l)) := by
  refine ev_of (l := [rI]) (r := (idxP (fun y => decide (x = y)) l)) (types (resT) [] (idxEInv l x)) follows Try.func36 (by kernel_rfl) (by rw [Try.ntmps36]; exact Nat.le_of_ble_eq_true rfl) ?_
  have key : ((l.length ≤ 9223372036854775807 ∧ ∀ (x : Int), List.Mem x l → inR IntKind.i64 x) → inR IntKind.i64 x → ((l.length : Nat) : Int) ≤ 9223372036854775807 → (∃ (x0 : Nat), Slot.val (D.dat (Ty.int
      IntKind.i64) 0) = Slot.val (D.dat (Ty.int IntKind.i64) ((x0 : Nat) : Int)) ∧ x0 ≤ l.length ∧ ∀ (j : Nat), j < x0 → decide (x = l.getD j 0) = false) ∧ ∀ (x_1 : Nat), (x_1 ≤ l.length ∧ ∀ (j : Nat), j <
      x_1 → decide (x = l.getD j 0) = false) → inR IntKind.i64 ((x_1 : Nat) : Int) → split (decide (((x_1 : Nat) : Int) < ((l.length : Nat) : Int))) ((0 ≤ ((x_1 : Nat) : Int) ∧ ((x_1 : Nat) : Int) <
      ((l.length : Nat) : Int)) ∧ (inR IntKind.i64 (l.getD (((x_1 : Nat) : Int)).toNat 0) → split (decide (x = l.getD (((x_1 : Nat) : Int)).toNat 0)) (((x_1 : Nat) : Int) = idxP (fun (y : Int) => decide (x
      = y)) l) ((-9223372036854775808 ≤ ((x_1 : Nat) : Int) + 1 ∧ ((x_1 : Nat) : Int) + 1 ≤ 9223372036854775807) ∧ ∃ (x' : Nat), Slot.val (D.dat (Ty.int IntKind.i64) (((x_1 : Nat) : Int) + 1)) = Slot.val
      (D.dat (Ty.int IntKind.i64) ((x' : Nat) : Int)) ∧ (x' ≤ l.length ∧ ∀ (j : Nat), j < x' → decide (x = l.getD j 0) = false) ∧ l.length - x' < l.length - x_1))) (-1 = idxP (fun (y : Int) => decide (x =
      y)) l)) := by
    intro _ _ _
    refine ⟨⟨0, rfl, by omega, fun j hj => by omega⟩, fun i ⟨hi, hn⟩ _ => split_of (fun h => ?_) (fun h => ?_)⟩
    · have h := of_decide_eq_true h
      simp only [Int.toNat_natCast]
      exact ⟨by omega, fun _ => split_of (fun h2 => idxP_found (p := fun y => decide (x = y)) (d := 0) (by omega) h2 hn) (fun h2 => ⟨by omega, i + 1, rfl, ⟨by omega, upto_step hn h2⟩, by omega⟩)⟩
    · have h := of_decide_eq_false h
      exact idxP_none (p := fun y => decide (x = y)) (d := 0) fun j hj => hn j (by omega)
  refine @Eq.mpr _ _ (?_) key
  kernel_rfl
theorem containsE_ev (l : List Int) (x : Int) : Ev Try.prog 60 [aIs l, aI x] (compsOf [rB] (l.any fun y => decide (x = y))) := by
  refine ev_of (l := [rB]) (r := (l.any fun y => decide (x = y))) (types (resT) [] (fun _ _ => none)) follows Try.func60 (by kernel_rfl) (by rw [Try.ntmps60]; exact Nat.le_of_ble_eq_true rfl) ?_
  have key : ((l.length ≤ 9223372036854775807 ∧ ∀ (x : Int), List.Mem x l → inR IntKind.i64 x) → inR IntKind.i64 x → ∃ (r : Int), Ev Try.prog 36 [Arg.imm (D.dat (Ty.slice 2 (Ty.int IntKind.i64)) l), Arg.imm (D.dat
      (Ty.int IntKind.i64) x)] (compsOf [(false, Ty.int IntKind.i64)] r) ∧ (inR IntKind.i64 r → decide (0 ≤ r) = l.any fun (y : Int) => decide (x = y))) := by
    intros
    exact ⟨_, indexE_ev l x, fun _ => idxP_any⟩
  refine @Eq.mpr _ _ (?_) key
  kernel_rfl
theorem size_ev (l : List Int) : Ev Try.prog 49 [aIs l] (compsOf [rI] ((l.length : Int))) := by
  refine ev_of (l := [rI]) (r := ((l.length : Int))) (types (resT) [] (fun _ _ => none)) follows Try.func49 (by kernel_rfl) (by rw [Try.ntmps49]; exact Nat.le_of_ble_eq_true rfl) ?_
  have key : ((l.length ≤ 9223372036854775807 ∧ ∀ (x : Int), List.Mem x l → inR IntKind.i64 x) → ((l.length : Nat) : Int) ≤ 9223372036854775807 → ((l.length : Nat) : Int) = ((l.length : Nat) : Int)) := by
    repeat' (first
      | (intro hh; try simp only [inR, loK, hiK] at hh)
      | exact trivial
      | (refine And.intro ?_ ?_)
      | (refine split_of (fun hh => ?_) (fun hh => ?_)))
    all_goals (first | omega | rfl | (simp_all []; done) | (simp_all []; omega))
  refine @Eq.mpr _ _ (?_) key
  kernel_rfl
theorem clone_ev (l : List Int) (hl : l.length ≤ 16777216) : Ev Try.prog 50 [aIs l] (compsOf [oIs] (l)) := by
  refine ev_of (l := [oIs]) (r := (l)) (types (resT) [] (fun _ _ => none)) follows Try.func50 (by kernel_rfl) (by rw [Try.ntmps50]; exact Nat.le_of_ble_eq_true rfl) ?_
  have key : ((l.length ≤ 9223372036854775807 ∧ ∀ (x : Int), List.Mem x l → inR IntKind.i64 x) → (l = [] → [] = l) ∧ (0 : Nat) + l.length ≤ 4294967296 ∧ [] ++ l = l) := by
    intros
    exact ⟨fun h => h.symm, by simp; omega, by simp⟩
  refine @Eq.mpr _ _ (?_) key
  kernel_rfl
theorem l00Own_ev (l : List Int) (hl : l.length ≤ 16777216) : Ev Try.prog 45 [aIs l] (compsOf [oIs] (l)) := by
  refine ev_of (l := [oIs]) (r := (l)) (types (resT) [] (fun _ _ => none)) follows Try.func45 (by kernel_rfl) (by rw [Try.ntmps45]; exact Nat.le_of_ble_eq_true rfl) ?_
  have key : ((l.length ≤ 9223372036854775807 ∧ ∀ (x : Int), List.Mem x l → inR IntKind.i64 x) → (0 : Nat) + l.length ≤ 4294967296 ∧ [] ++ l = l) := by
    intros
    exact ⟨by simp; omega, by simp⟩
  refine @Eq.mpr _ _ (?_) key
  kernel_rfl
def maxI (a b : Int) : Int := if b < a then a else b
theorem l00Max_ev (x y : Int) : Ev Try.prog 46 [aI x, aI y] (compsOf [rI] (maxI x y)) := by
  refine ev_of (l := [rI]) (r := (maxI x y)) (types (resT) [] (fun _ _ => none)) follows Try.func46 (by kernel_rfl) (by rw [Try.ntmps46]; exact Nat.le_of_ble_eq_true rfl) ?_
  have key : (inR IntKind.i64 x → inR IntKind.i64 y → split (decide (y < x)) (x = maxI x y) (y = maxI x y)) := by
    repeat' (first
      | (intro hh; try simp only [inR, loK, hiK] at hh)
      | exact trivial
      | (refine And.intro ?_ ?_)
      | (refine split_of (fun hh => ?_) (fun hh => ?_)))
    all_goals (first | omega | rfl | (simp_all [maxI]; done) | (simp_all [maxI]; omega))
  refine @Eq.mpr _ _ (?_) key
  kernel_rfl
def areaV (s : Sl) : Int := s.2.2.1 * s.2.2.2
theorem mul8 {a b : Int} (ha : -128 ≤ a ∧ a ≤ 127) (hb : -128 ≤ b ∧ b ≤ 127) : -16384 ≤ a * b ∧ a * b ≤ 16384 := by
  have h := Int.natAbs_mul a b
  have : a.natAbs * b.natAbs ≤ 128 * 128 := Nat.mul_le_mul (by omega) (by omega)
  omega
theorem area_ev (s : Sl) (h1 : -128 ≤ s.2.2.1 ∧ s.2.2.1 ≤ 127) (h2 : -128 ≤ s.2.2.2 ∧ s.2.2.2 ≤ 127) : Ev Try.prog 65 [aS s] (compsOf [rI] (areaV s)) := by
  refine ev_of (l := [rI]) (r := (areaV s)) (types (resT) [] (fun _ _ => none)) follows Try.func65 (by kernel_rfl) (by rw [Try.ntmps65]; exact Nat.le_of_ble_eq_true rfl) ?_
  have key : (inR IntKind.i8 s.fst → inR IntKind.i8 s.snd.fst → inR IntKind.i8 s.snd.snd.fst → inR IntKind.i8 s.snd.snd.snd → inR IntKind.i8 s.snd.snd.fst → (-9223372036854775808 ≤ s.snd.snd.fst ∧ s.snd.snd.fst ≤
      9223372036854775807) ∧ (inR IntKind.i8 s.snd.snd.snd → (-9223372036854775808 ≤ s.snd.snd.snd ∧ s.snd.snd.snd ≤ 9223372036854775807) ∧ (-9223372036854775808 ≤ s.snd.snd.fst * s.snd.snd.snd ∧
      s.snd.snd.fst * s.snd.snd.snd ≤ 9223372036854775807) ∧ s.snd.snd.fst * s.snd.snd.snd = areaV s)) := by
    have hm := mul8 h1 h2
    intros
    refine ⟨by omega, ?_⟩
    intros
    exact ⟨by omega, by omega, rfl⟩
  refine @Eq.mpr _ _ (?_) key
  kernel_rfl
def weightV (s : Sl) : Int := if edgeB s.2.2.1 && edgeB s.2.2.2 then areaV s * 4 else 0
theorem edge_iff {n : Int} : edgeB n = true ↔ 1 ≤ n ∧ n ≤ 12 := by
  simp [edgeB, inB]
theorem weight_no1 {s : Sl} (h : (!!edgeB s.2.2.1) = false) : 0 = weightV s := by
  have h : edgeB s.2.2.1 = false := by simpa using h
  simp [weightV, h]
theorem weight_no2 {s : Sl} (h : (!edgeB s.2.2.2) = true) : 0 = weightV s := by
  have h : edgeB s.2.2.2 = false := by simpa using h
  simp [weightV, h]
theorem weight_yes {s : Sl} (h : (!!edgeB s.2.2.1) = true) (h2 : (!edgeB s.2.2.2) = false) : areaV s * 4 = weightV s := by
  have h : edgeB s.2.2.1 = true := by simpa using h
  have h2 : edgeB s.2.2.2 = true := by simpa using h2
  simp [weightV, h, h2]
theorem weightOf_ev (s : Sl) : Ev Try.prog 59 [aS s] (compsOf [rI] (weightV s)) := by
  refine ev_of (l := [rI]) (r := (weightV s)) (types (resT) [] (fun _ _ => none)) follows Try.func59 (by kernel_rfl) (by rw [Try.ntmps59]; exact Nat.le_of_ble_eq_true rfl) ?_
  have key : (inR IntKind.i8 s.fst → inR IntKind.i8 s.snd.fst → inR IntKind.i8 s.snd.snd.fst → inR IntKind.i8 s.snd.snd.snd → inR IntKind.i8 s.snd.snd.fst → (-9223372036854775808 ≤ s.snd.snd.fst ∧ s.snd.snd.fst ≤
      9223372036854775807) ∧ ∃ (r : Bool), Ev Try.prog 64 [Arg.imm (D.dat (Ty.int IntKind.i64) s.snd.snd.fst)] (compsOf [(false, Ty.bool)] r) ∧ split (!!r) (inR IntKind.i8 s.snd.snd.snd →
      (-9223372036854775808 ≤ s.snd.snd.snd ∧ s.snd.snd.snd ≤ 9223372036854775807) ∧ ∃ (r : Bool), Ev Try.prog 64 [Arg.imm (D.dat (Ty.int IntKind.i64) s.snd.snd.snd)] (compsOf [(false, Ty.bool)] r) ∧ split
      (!r) (0 = weightV s) (inR IntKind.i8 s.fst → inR IntKind.i8 s.snd.fst → inR IntKind.i8 s.snd.snd.fst → inR IntKind.i8 s.snd.snd.snd → ∃ (r : Int), Ev Try.prog 65 [Arg.imm (D.dat slabT s)] (compsOf
      [(false, Ty.int IntKind.i64)] r) ∧ (inR IntKind.i64 r → (-9223372036854775808 ≤ r * 4 ∧ r * 4 ≤ 9223372036854775807) ∧ r * 4 = weightV s))) (0 = weightV s)) := by
    intro _ _ h1 h2 _
    refine ⟨i8b h1, _, isEdge_ev _, split_of (fun e1 => ?_) weight_no1⟩
    intros
    refine ⟨i8b h2, _, isEdge_ev _, split_of weight_no2 (fun e2 => ?_)⟩
    intros
    have hm := mul8 (b8 h1) (b8 h2)
    refine ⟨_, area_ev _ (b8 h1) (b8 h2), fun _ => ⟨?_, weight_yes e1 e2⟩⟩
    unfold areaV; omega
  refine @Eq.mpr _ _ (?_) key
  kernel_rfl
theorem l05Weight_ev (s : Sl) : Ev Try.prog 44 [aS s] (compsOf [rI] (weightV s)) := by
  refine ev_of (l := [rI]) (r := (weightV s)) (types (resT) [] (fun _ _ => none)) follows Try.func44 (by kernel_rfl) (by rw [Try.ntmps44]; exact Nat.le_of_ble_eq_true rfl) ?_
  have key : (inR IntKind.i8 s.fst → inR IntKind.i8 s.snd.fst → inR IntKind.i8 s.snd.snd.fst → inR IntKind.i8 s.snd.snd.snd → inR IntKind.i8 s.snd.snd.fst → (-9223372036854775808 ≤ s.snd.snd.fst ∧ s.snd.snd.fst ≤
      9223372036854775807) ∧ ∃ (r : Bool), Ev Try.prog 58 [Arg.imm (D.dat (Ty.int IntKind.i64) s.snd.snd.fst)] (compsOf [(false, Ty.bool)] r) ∧ split (!!r) (inR IntKind.i8 s.snd.snd.snd →
      (-9223372036854775808 ≤ s.snd.snd.snd ∧ s.snd.snd.snd ≤ 9223372036854775807) ∧ ∃ (r : Bool), Ev Try.prog 58 [Arg.imm (D.dat (Ty.int IntKind.i64) s.snd.snd.snd)] (compsOf [(false, Ty.bool)] r) ∧ split
      (!r) (0 = weightV s) (inR IntKind.i8 s.snd.snd.fst → (-9223372036854775808 ≤ s.snd.snd.fst ∧ s.snd.snd.fst ≤ 9223372036854775807) ∧ (inR IntKind.i8 s.snd.snd.snd → (-9223372036854775808 ≤
      s.snd.snd.snd ∧ s.snd.snd.snd ≤ 9223372036854775807) ∧ (-9223372036854775808 ≤ s.snd.snd.fst * s.snd.snd.snd ∧ s.snd.snd.fst * s.snd.snd.snd ≤ 9223372036854775807) ∧ (-9223372036854775808 ≤
      s.snd.snd.fst * s.snd.snd.snd * 4 ∧ s.snd.snd.fst * s.snd.snd.snd * 4 ≤ 9223372036854775807) ∧ s.snd.snd.fst * s.snd.snd.snd * 4 = weightV s))) (0 = weightV s)) := by
    intro _ _ h1 h2 _
    refine ⟨i8b h1, _, l01Edge_ev _, split_of (fun e1 => ?_) weight_no1⟩
    intros
    refine ⟨i8b h2, _, l01Edge_ev _, split_of weight_no2 (fun e2 => ?_)⟩
    intros
    have hm := mul8 (b8 h1) (b8 h2)
    have a1 := i8b h1
    have a2 := i8b h2
    refine ⟨a1, fun _ => ⟨a2, ?_, ?_, weight_yes e1 e2⟩⟩ <;> omega
  refine @Eq.mpr _ _ (?_) key
  kernel_rfl
theorem getD_set' {α : Type} {l : List α} {i j : Nat} {a d : α} (hi : i < l.length) : (l.set i a).getD j d = if i = j then a else l.getD j d := by
  simp only [List.getD_eq_getElem?_getD, List.getElem?_set]
  by_cases h : i = j
  · subst h; simp [hi]
  · simp [h]
def szI (n : Nat) (left : Int) : Int := if left - n < 0 then -1 else left - n
theorem sz_pos {n : Nat} (h : ¬ szI n 1048576 < 0) : n ≤ 1048576 := by
  unfold szI at h
  split at h <;> omega
theorem szSlabS_ev (l : List Sl) (left : Int) (hl : 0 ≤ left ∧ left ≤ 1048576) : Ev Try.prog 7 [aSs0 l, aI left] (compsOf [rI] (szI l.length left)) := by
  refine ev_of (l := [rI]) (r := (szI l.length left)) (types (resT) [] (fun _ _ => none)) follows Try.func7 (by kernel_rfl) (by rw [Try.ntmps7]; exact Nat.le_of_ble_eq_true rfl) ?_
  have key : ((l.length ≤ 9223372036854775807 ∧ ∀ (x : Int × Int × Int × Int), List.Mem x l → inR IntKind.i8 x.fst ∧ inR IntKind.i8 x.snd.fst ∧ inR IntKind.i8 x.snd.snd.fst ∧ inR IntKind.i8 x.snd.snd.snd) → inR
      IntKind.i64 left → ((l.length : Nat) : Int) ≤ 9223372036854775807 → (-9223372036854775808 ≤ left - ((l.length : Nat) : Int) ∧ left - ((l.length : Nat) : Int) ≤ 9223372036854775807) ∧ split (decide
      (left - ((l.length : Nat) : Int) < 0)) (-1 = szI l.length left) (left - ((l.length : Nat) : Int) = szI l.length left)) := by
    repeat' (first
      | (intro hh; try simp only [inR, loK, hiK] at hh)
      | exact trivial
      | (refine And.intro ?_ ?_)
      | (refine split_of (fun hh => ?_) (fun hh => ?_)))
    all_goals (first | omega | rfl | (simp_all [szI]; done) | (simp_all [szI]; omega))
  refine @Eq.mpr _ _ (?_) key
  kernel_rfl
structure Upto {α : Type} (d : α) (x y : List α) (i : Nat) : Prop where
  le : i ≤ x.length
  len : y.length = x.length
  same : ∀ j, j < i → y.getD j d = x.getD j d
theorem Upto.next {α : Type} {d : α} {x y : List α} {i : Nat} (h : Upto d x y i) (hi : i < x.length) : Upto d x (y.set i (x.getD i d)) (i + 1) := by
  refine ⟨hi, by rw [List.length_set, h.len], fun j hj => ?_⟩
  rw [getD_set' (by rw [h.len]; exact hi)]
  by_cases e : i = j
  · rw [if_pos e, e]
  · rw [if_neg e]
    exact h.same j (by omega)
theorem Upto.done {α : Type} {d : α} {x y : List α} {i : Nat} (h : Upto d x y i) (hi : ¬ i < x.length) : y = x := by
  apply List.ext_getElem h.len
  intro j h1 h2
  have := h.same j (by have := h.le; omega)
  simpa [List.getD_eq_getElem?_getD, h1, h2] using this
def toSlabV (s : Sl) : Sl := (s.1, s.2.1, s.2.2.1, s.2.2.2)
theorem toSlab_ev (s : Sl) : Ev Try.prog 25 [.imm (.dat slabT s)] (compsOf [rS] (toSlabV s)) := by
  refine ev_of (l := [rS]) (r := (toSlabV s)) (types (resT) [] (fun _ _ => none)) follows Try.func25 (by kernel_rfl) (by rw [Try.ntmps25]; exact Nat.le_of_ble_eq_true rfl) ?_
  have key : (inR IntKind.i8 s.fst → inR IntKind.i8 s.snd.fst → inR IntKind.i8 s.snd.snd.fst → inR IntKind.i8 s.snd.snd.snd → inR IntKind.i8 s.fst → inR IntKind.i8 s.snd.fst → inR IntKind.i8 s.snd.snd.fst → inR
      IntKind.i8 s.snd.snd.snd → inR IntKind.i8 s.fst → inR IntKind.i8 s.snd.fst → inR IntKind.i8 s.snd.snd.fst → inR IntKind.i8 s.snd.snd.snd → (s.fst, s.snd.fst, s.snd.snd.fst, s.snd.snd.snd) = toSlabV s) := by
    repeat' (first
      | (intro hh; try simp only [inR, loK, hiK] at hh)
      | exact trivial
      | (refine And.intro ?_ ?_)
      | (refine split_of (fun hh => ?_) (fun hh => ?_)))
    all_goals (first | omega | rfl | (simp_all [toSlabV]; done) | (simp_all [toSlabV]; omega))
  refine @Eq.mpr _ _ (?_) key
  kernel_rfl
noncomputable abbrev toSlabSInv (x : List Sl) (n : Nat) (σ : List Slot) : Option LoopInv := match n with
  | 3 => some ⟨3 :: hvAt Try.f9 3, List Sl × Nat, fun s => [(3, .own (.slice 46 slabT) s.1), (4, .val (.dat (.int .i64) s.2))], fun s => Upto (0, 0, 0, 0) x s.1 s.2, fun s => x.length - s.2⟩
  | _ => none
theorem toSlabS_ev (x : List Sl) (hx : x.length ≤ 1048576) : Ev Try.prog 9 [aSs0 x] (compsOf [oSs] (x)) := by
  refine ev_of (l := [oSs]) (r := (x)) (types (resT) [] (toSlabSInv x)) follows Try.func9 (by kernel_rfl) (by rw [Try.ntmps9]; exact Nat.le_of_ble_eq_true rfl) ?_
  have key : ((x.length ≤ 9223372036854775807 ∧ ∀ (x_1 : Int × Int × Int × Int), List.Mem x_1 x → inR IntKind.i8 x_1.fst ∧ inR IntKind.i8 x_1.snd.fst ∧ inR IntKind.i8 x_1.snd.snd.fst ∧ inR IntKind.i8
      x_1.snd.snd.snd) → ((x.length : Nat) : Int) ≤ 9223372036854775807 → (0 ≤ ((x.length : Nat) : Int) ∧ ((x.length : Nat) : Int) = ((x.length : Nat) : Int) ∧ ((x.length : Nat) : Int) ≤ 4294967296) ∧ (∃
      (x0 : List (Int × Int × Int × Int) × Nat), (Slot.own (Ty.slice 46 slabT) (List.replicate (((x.length : Nat) : Int)).toNat (0, 0, 0, 0)) = Slot.own (Ty.slice 46 slabT) x0.fst ∧ Slot.val (D.dat (Ty.int
      IntKind.i64) 0) = Slot.val (D.dat (Ty.int IntKind.i64) ((x0.snd : Nat) : Int))) ∧ Upto (0, 0, 0, 0) x x0.fst x0.snd) ∧ ∀ (x_1 : List (Int × Int × Int × Int) × Nat), Upto (0, 0, 0, 0) x x_1.fst
      x_1.snd → (x_1.fst.length ≤ 9223372036854775807 ∧ ∀ (x : Int × Int × Int × Int), List.Mem x x_1.fst → inR IntKind.i8 x.fst ∧ inR IntKind.i8 x.snd.fst ∧ inR IntKind.i8 x.snd.snd.fst ∧ inR IntKind.i8
      x.snd.snd.snd) → inR IntKind.i64 ((x_1.snd : Nat) : Int) → ((x.length : Nat) : Int) ≤ 9223372036854775807 → split (decide (((x_1.snd : Nat) : Int) < ((x.length : Nat) : Int))) ((0 ≤ ((x_1.snd : Nat)
      : Int) ∧ ((x_1.snd : Nat) : Int) < ((x.length : Nat) : Int)) ∧ (inR IntKind.i8 (x.getD (((x_1.snd : Nat) : Int)).toNat (0, 0, 0, 0)).fst → inR IntKind.i8 (x.getD (((x_1.snd : Nat) : Int)).toNat (0,
      0, 0, 0)).snd.fst → inR IntKind.i8 (x.getD (((x_1.snd : Nat) : Int)).toNat (0, 0, 0, 0)).snd.snd.fst → inR IntKind.i8 (x.getD (((x_1.snd : Nat) : Int)).toNat (0, 0, 0, 0)).snd.snd.snd → ∃ (r : Int ×
      Int × Int × Int), Ev Try.prog 25 [Arg.imm (D.dat slabT (x.getD (((x_1.snd : Nat) : Int)).toNat (0, 0, 0, 0)))] (compsOf [(false, (Ty.int IntKind.i8).prod ((Ty.int IntKind.i8).prod ((Ty.int
      IntKind.i8).prod (Ty.int IntKind.i8))))] r) ∧ (inR IntKind.i8 r.fst → inR IntKind.i8 r.snd.fst → inR IntKind.i8 r.snd.snd.fst → inR IntKind.i8 r.snd.snd.snd → (0 ≤ ((x_1.snd : Nat) : Int) ∧ ((x_1.snd
      : Nat) : Int) < ((x_1.fst.length : Nat) : Int)) ∧ (-9223372036854775808 ≤ ((x_1.snd : Nat) : Int) + 1 ∧ ((x_1.snd : Nat) : Int) + 1 ≤ 9223372036854775807) ∧ ∃ (x' : List (Int × Int × Int × Int) ×
      Nat), (Slot.own (Ty.slice 46 slabT) (x_1.fst.set (((x_1.snd : Nat) : Int)).toNat r) = Slot.own (Ty.slice 46 slabT) x'.fst ∧ Slot.val (D.dat (Ty.int IntKind.i64) (((x_1.snd : Nat) : Int) + 1)) =
      Slot.val (D.dat (Ty.int IntKind.i64) ((x'.snd : Nat) : Int))) ∧ Upto (0, 0, 0, 0) x x'.fst x'.snd ∧ x.length - x'.snd < x.length - x_1.snd))) (x_1.fst = x)) := by
    intro _ _
    simp only [Int.toNat_natCast]
    refine ⟨⟨by omega, trivial, by omega⟩, ⟨(List.replicate x.length (0, 0, 0, 0), 0), ⟨rfl, rfl⟩, ⟨Nat.zero_le _, by simp, fun j hj => absurd hj (Nat.not_lt_zero _)⟩⟩, fun ⟨y, i⟩ hu _ _ _ => split_of (fun h => ?_) (fun h => ?_)⟩
    · have h : ((i : Nat) : Int) < x.length := of_decide_eq_true h
      have hl := hu.len
      simp only at hl
      refine ⟨by omega, ?_⟩
      intros
      refine ⟨_, toSlab_ev _, ?_⟩
      intros
      exact ⟨by simp only; omega, by simp only; omega, (y.set i (x.getD i (0, 0, 0, 0)), i + 1), ⟨rfl, rfl⟩, hu.next (by omega), by show x.length - (i + 1) < x.length - i; omega⟩
    · have h : ¬ ((i : Nat) : Int) < x.length := of_decide_eq_false h
      exact hu.done (by omega)
  refine @Eq.mpr _ _ (?_) key
  kernel_rfl
theorem eqSlab_ev (s : Sl) : Ev Try.prog 28 [aS s, aS s] (compsOf [rB] (true)) := by
  refine ev_of (l := [rB]) (r := (true)) (types (resT) [] (fun _ _ => none)) follows Try.func28 (by kernel_rfl) (by rw [Try.ntmps28]; exact Nat.le_of_ble_eq_true rfl) ?_
  have key : (inR IntKind.i8 s.fst → inR IntKind.i8 s.snd.fst → inR IntKind.i8 s.snd.snd.fst → inR IntKind.i8 s.snd.snd.snd → inR IntKind.i8 s.fst → inR IntKind.i8 s.snd.fst → inR IntKind.i8 s.snd.snd.fst → inR
      IntKind.i8 s.snd.snd.snd → inR IntKind.i8 s.fst → inR IntKind.i8 s.fst → split (!decide (s.fst = s.fst)) (false = true) (inR IntKind.i8 s.snd.fst → inR IntKind.i8 s.snd.fst → split (!decide
      (s.snd.fst = s.snd.fst)) (false = true) (inR IntKind.i8 s.snd.snd.fst → inR IntKind.i8 s.snd.snd.fst → split (!decide (s.snd.snd.fst = s.snd.snd.fst)) (false = true) (inR IntKind.i8 s.snd.snd.snd →
      inR IntKind.i8 s.snd.snd.snd → split (!decide (s.snd.snd.snd = s.snd.snd.snd)) (false = true) (true = true))))) := by
    repeat' (first
      | (intro hh; try simp only [inR, loK, hiK] at hh)
      | exact trivial
      | (refine And.intro ?_ ?_)
      | (refine split_of (fun hh => ?_) (fun hh => ?_)))
    all_goals (first | omega | rfl | (simp_all []; done) | (simp_all []; omega))
  refine @Eq.mpr _ _ (?_) key
  kernel_rfl
noncomputable abbrev eqSlabSInv (l : List Sl) (n : Nat) (σ : List Slot) : Option LoopInv := match n with
  | 4 => some ⟨hvAt Try.f12 4, Nat, fun i => [(5, .val (.dat (.int .i64) i))], fun i => i ≤ l.length, fun i => l.length - i⟩
  | _ => none
theorem eqSlabS_ev (l : List Sl) : Ev Try.prog 12 [aSs l, aSs l] (compsOf [rB] (true)) := by
  refine ev_of (l := [rB]) (r := (true)) (types (resT) [] (eqSlabSInv l)) follows Try.func12 (by kernel_rfl) (by rw [Try.ntmps12]; exact Nat.le_of_ble_eq_true rfl) ?_
  have key : ((l.length ≤ 9223372036854775807 ∧ ∀ (x : Int × Int × Int × Int), List.Mem x l → inR IntKind.i8 x.fst ∧ inR IntKind.i8 x.snd.fst ∧ inR IntKind.i8 x.snd.snd.fst ∧ inR IntKind.i8 x.snd.snd.snd) →
      (l.length ≤ 9223372036854775807 ∧ ∀ (x : Int × Int × Int × Int), List.Mem x l → inR IntKind.i8 x.fst ∧ inR IntKind.i8 x.snd.fst ∧ inR IntKind.i8 x.snd.snd.fst ∧ inR IntKind.i8 x.snd.snd.snd) →
      ((l.length : Nat) : Int) ≤ 9223372036854775807 → ((l.length : Nat) : Int) ≤ 9223372036854775807 → split (!decide (((l.length : Nat) : Int) = ((l.length : Nat) : Int))) (false = true) ((∃ (x0 : Nat),
      Slot.val (D.dat (Ty.int IntKind.i64) 0) = Slot.val (D.dat (Ty.int IntKind.i64) ((x0 : Nat) : Int)) ∧ x0 ≤ l.length) ∧ ∀ (x : Nat), x ≤ l.length → inR IntKind.i64 ((x : Nat) : Int) → ((l.length : Nat)
      : Int) ≤ 9223372036854775807 → split (decide (((x : Nat) : Int) < ((l.length : Nat) : Int))) ((0 ≤ ((x : Nat) : Int) ∧ ((x : Nat) : Int) < ((l.length : Nat) : Int)) ∧ (inR IntKind.i8 (l.getD (((x :
      Nat) : Int)).toNat (0, 0, 0, 0)).fst → inR IntKind.i8 (l.getD (((x : Nat) : Int)).toNat (0, 0, 0, 0)).snd.fst → inR IntKind.i8 (l.getD (((x : Nat) : Int)).toNat (0, 0, 0, 0)).snd.snd.fst → inR
      IntKind.i8 (l.getD (((x : Nat) : Int)).toNat (0, 0, 0, 0)).snd.snd.snd → (0 ≤ ((x : Nat) : Int) ∧ ((x : Nat) : Int) < ((l.length : Nat) : Int)) ∧ (inR IntKind.i8 (l.getD (((x : Nat) : Int)).toNat (0,
      0, 0, 0)).fst → inR IntKind.i8 (l.getD (((x : Nat) : Int)).toNat (0, 0, 0, 0)).snd.fst → inR IntKind.i8 (l.getD (((x : Nat) : Int)).toNat (0, 0, 0, 0)).snd.snd.fst → inR IntKind.i8 (l.getD (((x :
      Nat) : Int)).toNat (0, 0, 0, 0)).snd.snd.snd → ∃ (r : Bool), Ev Try.prog 28 [Arg.imm (D.dat slabT (l.getD (((x : Nat) : Int)).toNat (0, 0, 0, 0))), Arg.imm (D.dat slabT (l.getD (((x : Nat) :
      Int)).toNat (0, 0, 0, 0)))] (compsOf [(false, Ty.bool)] r) ∧ split (!r) (false = true) ((-9223372036854775808 ≤ ((x : Nat) : Int) + 1 ∧ ((x : Nat) : Int) + 1 ≤ 9223372036854775807) ∧ ∃ (x' : Nat),
      Slot.val (D.dat (Ty.int IntKind.i64) (((x : Nat) : Int) + 1)) = Slot.val (D.dat (Ty.int IntKind.i64) ((x' : Nat) : Int)) ∧ x' ≤ l.length ∧ l.length - x' < l.length - x)))) (true = true))) := by
    intro _ _ _ _
    refine split_of (fun h => by simp at h) (fun _ => ⟨⟨0, rfl, by omega⟩, fun i hi _ _ => split_of (fun h => ?_) (fun h => rfl)⟩)
    have h := of_decide_eq_true h
    refine ⟨by omega, ?_⟩
    intros
    refine ⟨by omega, ?_⟩
    intros
    exact ⟨_, eqSlab_ev _, split_of (fun h2 => by simp at h2) (fun _ => ⟨by omega, i + 1, rfl, by omega, by omega⟩)⟩
  refine @Eq.mpr _ _ (?_) key
  kernel_rfl
noncomputable abbrev eqIntsInv (l : List Int) (n : Nat) (σ : List Slot) : Option LoopInv := match n with
  | 4 => some ⟨hvAt Try.f11 4, Nat, fun i => [(5, .val (.dat (.int .i64) i))], fun i => i ≤ l.length, fun i => l.length - i⟩
  | _ => none
theorem eqInts_ev (l : List Int) : Ev Try.prog 11 [aIs l, aIs l] (compsOf [rB] (true)) := by
  refine ev_of (l := [rB]) (r := (true)) (types (resT) [] (eqIntsInv l)) follows Try.func11 (by kernel_rfl) (by rw [Try.ntmps11]; exact Nat.le_of_ble_eq_true rfl) ?_
  have key : ((l.length ≤ 9223372036854775807 ∧ ∀ (x : Int), List.Mem x l → inR IntKind.i64 x) → (l.length ≤ 9223372036854775807 ∧ ∀ (x : Int), List.Mem x l → inR IntKind.i64 x) → ((l.length : Nat) : Int) ≤
      9223372036854775807 → ((l.length : Nat) : Int) ≤ 9223372036854775807 → split (!decide (((l.length : Nat) : Int) = ((l.length : Nat) : Int))) (false = true) ((∃ (x0 : Nat), Slot.val (D.dat (Ty.int
      IntKind.i64) 0) = Slot.val (D.dat (Ty.int IntKind.i64) ((x0 : Nat) : Int)) ∧ x0 ≤ l.length) ∧ ∀ (x : Nat), x ≤ l.length → inR IntKind.i64 ((x : Nat) : Int) → ((l.length : Nat) : Int) ≤
      9223372036854775807 → split (decide (((x : Nat) : Int) < ((l.length : Nat) : Int))) ((0 ≤ ((x : Nat) : Int) ∧ ((x : Nat) : Int) < ((l.length : Nat) : Int)) ∧ (inR IntKind.i64 (l.getD (((x : Nat) :
      Int)).toNat 0) → (0 ≤ ((x : Nat) : Int) ∧ ((x : Nat) : Int) < ((l.length : Nat) : Int)) ∧ (inR IntKind.i64 (l.getD (((x : Nat) : Int)).toNat 0) → split (!decide (l.getD (((x : Nat) : Int)).toNat 0 =
      l.getD (((x : Nat) : Int)).toNat 0)) (false = true) ((-9223372036854775808 ≤ ((x : Nat) : Int) + 1 ∧ ((x : Nat) : Int) + 1 ≤ 9223372036854775807) ∧ ∃ (x' : Nat), Slot.val (D.dat (Ty.int IntKind.i64)
      (((x : Nat) : Int) + 1)) = Slot.val (D.dat (Ty.int IntKind.i64) ((x' : Nat) : Int)) ∧ x' ≤ l.length ∧ l.length - x' < l.length - x)))) (true = true))) := by
    intro _ _ _ _
    refine split_of (fun h => by simp at h) (fun _ => ⟨⟨0, rfl, by omega⟩, fun i hi _ _ => split_of (fun h => ?_) (fun h => rfl)⟩)
    have h := of_decide_eq_true h
    refine ⟨by omega, ?_⟩
    intros
    refine ⟨by omega, ?_⟩
    intros
    exact split_of (fun h2 => by simp at h2) (fun _ => ⟨by omega, i + 1, rfl, by omega, by omega⟩)
  refine @Eq.mpr _ _ (?_) key
  kernel_rfl
def w8 (x : Int) : Int := IntKind.i8.wrap x
def numI (k : Int) (i : Nat) : Int := k + (i : Int)
noncomputable abbrev markIInv (l : List Int) (k : Int) (n : Nat) (σ : List Slot) : Option LoopInv := match n with
  | 2 => some ⟨0 :: hvAt Try.f14 2, Nat, fun i => [(0, .own (.slice 2 iT) (row (numI k) i ++ l.drop i)), (1, .val (.dat iT (k + (i : Int)))), (5, .val (.dat iT (i : Int)))], fun i => i ≤ l.length, fun i => l.length - i⟩
  | _ => none
theorem markInts_ev (l : List Int) (k : Int) (hl : l.length ≤ 16777216) (hk : 0 ≤ k ∧ k ≤ 1099511627776) : EvB Try.prog 14 (.slice 2 iT) (l) [aI k] (compsOf [rI] (k + (l.length : Int))) (row (numI k) l.length) := by
  refine evB_of (t0 := .slice 2 iT) (x0 := l) (y0 := row (numI k) l.length) (l := [rI]) (r := (k + (l.length : Int))) (types (resT) [] (markIInv l k)) follows Try.func14 (by kernel_rfl) (by rw [Try.ntmps14]; exact Nat.le_of_ble_eq_true rfl) ?_
  have key : ((l.length ≤ 9223372036854775807 ∧ ∀ (x : Int), List.Mem x l → inR IntKind.i64 x) → inR IntKind.i64 k → (∃ (x0 : Nat), (Slot.own (Ty.slice 2 iT) l = Slot.own (Ty.slice 2 iT) (row (numI k) x0 ++
      List.drop x0 l) ∧ Slot.val (D.dat (Ty.int IntKind.i64) k) = Slot.val (D.dat iT (k + ((x0 : Nat) : Int))) ∧ Slot.val (D.dat (Ty.int IntKind.i64) 0) = Slot.val (D.dat iT ((x0 : Nat) : Int))) ∧ x0 ≤
      l.length) ∧ ∀ (x : Nat), x ≤ l.length → ((row (numI k) x ++ List.drop x l).length ≤ 9223372036854775807 ∧ ∀ (x_1 : Int), List.Mem x_1 (row (numI k) x ++ List.drop x l) → inR IntKind.i64 x_1) → inR
      IntKind.i64 (k + ((x : Nat) : Int)) → inR IntKind.i64 ((x : Nat) : Int) → (((row (numI k) x ++ List.drop x l).length : Nat) : Int) ≤ 9223372036854775807 → split (decide (((x : Nat) : Int) < (((row
      (numI k) x ++ List.drop x l).length : Nat) : Int))) ((0 ≤ ((x : Nat) : Int) ∧ ((x : Nat) : Int) < (((row (numI k) x ++ List.drop x l).length : Nat) : Int)) ∧ (-9223372036854775808 ≤ k + ((x : Nat) :
      Int) + 1 ∧ k + ((x : Nat) : Int) + 1 ≤ 9223372036854775807) ∧ (-9223372036854775808 ≤ ((x : Nat) : Int) + 1 ∧ ((x : Nat) : Int) + 1 ≤ 9223372036854775807) ∧ ∃ (x' : Nat), (Slot.own (Ty.slice 2 iT)
      ((row (numI k) x ++ List.drop x l).set (((x : Nat) : Int)).toNat (k + ((x : Nat) : Int))) = Slot.own (Ty.slice 2 iT) (row (numI k) x' ++ List.drop x' l) ∧ Slot.val (D.dat (Ty.int IntKind.i64) (k +
      ((x : Nat) : Int) + 1)) = Slot.val (D.dat iT (k + ((x' : Nat) : Int))) ∧ Slot.val (D.dat (Ty.int IntKind.i64) (((x : Nat) : Int) + 1)) = Slot.val (D.dat iT ((x' : Nat) : Int))) ∧ x' ≤ l.length ∧
      l.length - x' < l.length - x) (k + ((x : Nat) : Int) = k + ((l.length : Nat) : Int) ∧ row (numI k) x ++ List.drop x l = row (numI k) l.length)) := by
    intro _ _
    refine ⟨⟨0, ⟨rfl, by simp only [Int.natCast_zero, Int.add_zero], rfl⟩, by omega⟩, fun i hi _ _ _ _ => split_of (fun h => ?_) (fun h => ?_)⟩
    · have h := of_decide_eq_true h
      rw [row_part_len _ hi] at h ⊢
      refine ⟨by omega, by omega, by omega, i + 1, ⟨?_, by rw [show k + ((i + 1 : Nat) : Int) = k + (i : Int) + 1 by omega], rfl⟩, by omega, by omega⟩
      rw [Int.toNat_natCast, row_set (numI k) (l := l) (i := i) (z := k + (i : Int)) (by omega) rfl]
    · have h := of_decide_eq_false h
      rw [row_part_len _ hi] at h
      rw [show i = l.length by omega, List.drop_length, List.append_nil]
      exact ⟨rfl, rfl⟩
  refine @Eq.mpr _ _ (?_) key
  kernel_rfl
noncomputable abbrev heldIInv (m : Nat) (k : Int) (n : Nat) (σ : List Slot) : Option LoopInv := match n with
  | 2 => some ⟨hvAt Try.f15 2, Nat, fun i => [(1, .val (.dat iT (k + (i : Int)))), (5, .val (.dat iT (i : Int)))], fun i => i ≤ m, fun i => m - i⟩
  | _ => none
theorem heldInts_ev (m : Nat) (k : Int) (hl : m ≤ 16777216) (hk : 0 ≤ k ∧ k ≤ 1099511627776) : Ev Try.prog 15 [.imm (.dat (.slice 2 iT) (row (numI k) m)), aI k] (compsOf [rI] (k + (m : Int))) := by
  refine ev_of (l := [rI]) (r := (k + (m : Int))) (types (resT) [] (heldIInv m k)) follows Try.func15 (by kernel_rfl) (by rw [Try.ntmps15]; exact Nat.le_of_ble_eq_true rfl) ?_
  have key : (((row (numI k) m).length ≤ 9223372036854775807 ∧ ∀ (x : Int), List.Mem x (row (numI k) m) → inR IntKind.i64 x) → inR IntKind.i64 k → (∃ (x0 : Nat), (Slot.val (D.dat (Ty.int IntKind.i64) k) = Slot.val
      (D.dat iT (k + ((x0 : Nat) : Int))) ∧ Slot.val (D.dat (Ty.int IntKind.i64) 0) = Slot.val (D.dat iT ((x0 : Nat) : Int))) ∧ x0 ≤ m) ∧ ∀ (x : Nat), x ≤ m → inR IntKind.i64 (k + ((x : Nat) : Int)) → inR
      IntKind.i64 ((x : Nat) : Int) → (((row (numI k) m).length : Nat) : Int) ≤ 9223372036854775807 → split (decide (((x : Nat) : Int) < (((row (numI k) m).length : Nat) : Int))) ((0 ≤ ((x : Nat) : Int) ∧
      ((x : Nat) : Int) < (((row (numI k) m).length : Nat) : Int)) ∧ (inR IntKind.i64 ((row (numI k) m).getD (((x : Nat) : Int)).toNat 0) → split (!decide ((row (numI k) m).getD (((x : Nat) : Int)).toNat 0
      = k + ((x : Nat) : Int))) (-1 = k + ((m : Nat) : Int)) ((-9223372036854775808 ≤ k + ((x : Nat) : Int) + 1 ∧ k + ((x : Nat) : Int) + 1 ≤ 9223372036854775807) ∧ (-9223372036854775808 ≤ ((x : Nat) :
      Int) + 1 ∧ ((x : Nat) : Int) + 1 ≤ 9223372036854775807) ∧ ∃ (x' : Nat), (Slot.val (D.dat (Ty.int IntKind.i64) (k + ((x : Nat) : Int) + 1)) = Slot.val (D.dat iT (k + ((x' : Nat) : Int))) ∧ Slot.val
      (D.dat (Ty.int IntKind.i64) (((x : Nat) : Int) + 1)) = Slot.val (D.dat iT ((x' : Nat) : Int))) ∧ x' ≤ m ∧ m - x' < m - x))) (k + ((x : Nat) : Int) = k + ((m : Nat) : Int))) := by
    intro _ _
    refine ⟨⟨0, ⟨by simp only [Int.natCast_zero, Int.add_zero], rfl⟩, by omega⟩, fun i hi _ _ _ => split_of (fun h => ?_) (fun h => ?_)⟩
    · have h := of_decide_eq_true h
      rw [row_len] at h ⊢
      rw [Int.toNat_natCast, row_getD _ (by omega)]
      refine ⟨by omega, fun _ => split_of (fun h2 => ?_) (fun h2 => ⟨by omega, by omega, i + 1, ⟨by rw [show k + ((i + 1 : Nat) : Int) = k + (i : Int) + 1 by omega], rfl⟩, by omega, by omega⟩)⟩
      simp [numI] at h2
    · have h := of_decide_eq_false h
      rw [row_len] at h
      rw [show i = m by omega]
  refine @Eq.mpr _ _ (?_) key
  kernel_rfl
def numS (k : Int) (i : Nat) : Sl := (w8 (k + 4 * (i : Int)), w8 (k + 4 * (i : Int) + 1), w8 (k + 4 * (i : Int) + 1 + 1), w8 (k + 4 * (i : Int) + 1 + 1 + 1))
noncomputable abbrev markSInv (l : List Sl) (k : Int) (n : Nat) (σ : List Slot) : Option LoopInv := match n with
  | 2 => some ⟨0 :: hvAt Try.f13 2, Nat, fun i => [(0, .own (.slice 46 slabT) (row (numS k) i ++ l.drop i)), (1, .val (.dat iT (k + 4 * (i : Int)))), (5, .val (.dat iT (i : Int)))], fun i => i ≤ l.length, fun i => l.length - i⟩
  | _ => none
theorem markSlabs_ev (l : List Sl) (k : Int) (hl : l.length ≤ 16777216) (hk : 0 ≤ k ∧ k ≤ 1099511627776) : EvB Try.prog 13 (.slice 46 slabT) (l) [aI k] (compsOf [rI] (k + 4 * (l.length : Int))) (row (numS k) l.length) := by
  refine evB_of (t0 := .slice 46 slabT) (x0 := l) (y0 := row (numS k) l.length) (l := [rI]) (r := (k + 4 * (l.length : Int))) (types (resT) [999999] (markSInv l k)) follows Try.func13 (by kernel_rfl) (by rw [Try.ntmps13]; exact Nat.le_of_ble_eq_true rfl) ?_
  have key : ((l.length ≤ 9223372036854775807 ∧ ∀ (x : Int × Int × Int × Int), List.Mem x l → inR IntKind.i8 x.fst ∧ inR IntKind.i8 x.snd.fst ∧ inR IntKind.i8 x.snd.snd.fst ∧ inR IntKind.i8 x.snd.snd.snd) → inR
      IntKind.i64 k → (∃ (x0 : Nat), (Slot.own (Ty.slice 46 slabT) l = Slot.own (Ty.slice 46 slabT) (row (numS k) x0 ++ List.drop x0 l) ∧ Slot.val (D.dat (Ty.int IntKind.i64) k) = Slot.val (D.dat iT (k + 4
      * ((x0 : Nat) : Int))) ∧ Slot.val (D.dat (Ty.int IntKind.i64) 0) = Slot.val (D.dat iT ((x0 : Nat) : Int))) ∧ x0 ≤ l.length) ∧ ∀ (x : Nat), x ≤ l.length → ((row (numS k) x ++ List.drop x l).length ≤
      9223372036854775807 ∧ ∀ (x_1 : Int × Int × Int × Int), List.Mem x_1 (row (numS k) x ++ List.drop x l) → inR IntKind.i8 x_1.fst ∧ inR IntKind.i8 x_1.snd.fst ∧ inR IntKind.i8 x_1.snd.snd.fst ∧ inR
      IntKind.i8 x_1.snd.snd.snd) → inR IntKind.i64 (k + 4 * ((x : Nat) : Int)) → inR IntKind.i64 ((x : Nat) : Int) → (((row (numS k) x ++ List.drop x l).length : Nat) : Int) ≤ 9223372036854775807 → split
      (decide (((x : Nat) : Int) < (((row (numS k) x ++ List.drop x l).length : Nat) : Int))) ((0 ≤ ((x : Nat) : Int) ∧ ((x : Nat) : Int) < (((row (numS k) x ++ List.drop x l).length : Nat) : Int)) ∧
      (-9223372036854775808 ≤ k + 4 * ((x : Nat) : Int) + 1 ∧ k + 4 * ((x : Nat) : Int) + 1 ≤ 9223372036854775807) ∧ (0 ≤ ((x : Nat) : Int) ∧ ((x : Nat) : Int) < ((((row (numS k) x ++ List.drop x l).set
      (((x : Nat) : Int)).toNat (IntKind.i8.wrap (k + 4 * ((x : Nat) : Int)), ((row (numS k) x ++ List.drop x l).getD (((x : Nat) : Int)).toNat (0, 0, 0, 0)).snd)).length : Nat) : Int)) ∧
      (-9223372036854775808 ≤ k + 4 * ((x : Nat) : Int) + 1 + 1 ∧ k + 4 * ((x : Nat) : Int) + 1 + 1 ≤ 9223372036854775807) ∧ (0 ≤ ((x : Nat) : Int) ∧ ((x : Nat) : Int) < (((((row (numS k) x ++ List.drop x
      l).set (((x : Nat) : Int)).toNat (IntKind.i8.wrap (k + 4 * ((x : Nat) : Int)), ((row (numS k) x ++ List.drop x l).getD (((x : Nat) : Int)).toNat (0, 0, 0, 0)).snd)).set (((x : Nat) : Int)).toNat
      ((((row (numS k) x ++ List.drop x l).set (((x : Nat) : Int)).toNat (IntKind.i8.wrap (k + 4 * ((x : Nat) : Int)), ((row (numS k) x ++ List.drop x l).getD (((x : Nat) : Int)).toNat (0, 0, 0,
      0)).snd)).getD (((x : Nat) : Int)).toNat (0, 0, 0, 0)).fst, IntKind.i8.wrap (k + 4 * ((x : Nat) : Int) + 1), (((row (numS k) x ++ List.drop x l).set (((x : Nat) : Int)).toNat (IntKind.i8.wrap (k + 4
      * ((x : Nat) : Int)), ((row (numS k) x ++ List.drop x l).getD (((x : Nat) : Int)).toNat (0, 0, 0, 0)).snd)).getD (((x : Nat) : Int)).toNat (0, 0, 0, 0)).snd.snd)).length : Nat) : Int)) ∧
      (-9223372036854775808 ≤ k + 4 * ((x : Nat) : Int) + 1 + 1 + 1 ∧ k + 4 * ((x : Nat) : Int) + 1 + 1 + 1 ≤ 9223372036854775807) ∧ (0 ≤ ((x : Nat) : Int) ∧ ((x : Nat) : Int) < ((((((row (numS k) x ++
      List.drop x l).set (((x : Nat) : Int)).toNat (IntKind.i8.wrap (k + 4 * ((x : Nat) : Int)), ((row (numS k) x ++ List.drop x l).getD (((x : Nat) : Int)).toNat (0, 0, 0, 0)).snd)).set (((x : Nat) :
      Int)).toNat ((((row (numS k) x ++ List.drop x l).set (((x : Nat) : Int)).toNat (IntKind.i8.wrap (k + 4 * ((x : Nat) : Int)), ((row (numS k) x ++ List.drop x l).getD (((x : Nat) : Int)).toNat (0, 0,
      0, 0)).snd)).getD (((x : Nat) : Int)).toNat (0, 0, 0, 0)).fst, IntKind.i8.wrap (k + 4 * ((x : Nat) : Int) + 1), (((row (numS k) x ++ List.drop x l).set (((x : Nat) : Int)).toNat (IntKind.i8.wrap (k +
      4 * ((x : Nat) : Int)), ((row (numS k) x ++ List.drop x l).getD (((x : Nat) : Int)).toNat (0, 0, 0, 0)).snd)).getD (((x : Nat) : Int)).toNat (0, 0, 0, 0)).snd.snd)).set (((x : Nat) : Int)).toNat
      (((((row (numS k) x ++ List.drop x l).set (((x : Nat) : Int)).toNat (IntKind.i8.wrap (k + 4 * ((x : Nat) : Int)), ((row (numS k) x ++ List.drop x l).getD (((x : Nat) : Int)).toNat (0, 0, 0,
      0)).snd)).set (((x : Nat) : Int)).toNat ((((row (numS k) x ++ List.drop x l).set (((x : Nat) : Int)).toNat (IntKind.i8.wrap (k + 4 * ((x : Nat) : Int)), ((row (numS k) x ++ List.drop x l).getD (((x :
      Nat) : Int)).toNat (0, 0, 0, 0)).snd)).getD (((x : Nat) : Int)).toNat (0, 0, 0, 0)).fst, IntKind.i8.wrap (k + 4 * ((x : Nat) : Int) + 1), (((row (numS k) x ++ List.drop x l).set (((x : Nat) :
      Int)).toNat (IntKind.i8.wrap (k + 4 * ((x : Nat) : Int)), ((row (numS k) x ++ List.drop x l).getD (((x : Nat) : Int)).toNat (0, 0, 0, 0)).snd)).getD (((x : Nat) : Int)).toNat (0, 0, 0,
      0)).snd.snd)).getD (((x : Nat) : Int)).toNat (0, 0, 0, 0)).fst, ((((row (numS k) x ++ List.drop x l).set (((x : Nat) : Int)).toNat (IntKind.i8.wrap (k + 4 * ((x : Nat) : Int)), ((row (numS k) x ++
      List.drop x l).getD (((x : Nat) : Int)).toNat (0, 0, 0, 0)).snd)).set (((x : Nat) : Int)).toNat ((((row (numS k) x ++ List.drop x l).set (((x : Nat) : Int)).toNat (IntKind.i8.wrap (k + 4 * ((x : Nat)
      : Int)), ((row (numS k) x ++ List.drop x l).getD (((x : Nat) : Int)).toNat (0, 0, 0, 0)).snd)).getD (((x : Nat) : Int)).toNat (0, 0, 0, 0)).fst, IntKind.i8.wrap (k + 4 * ((x : Nat) : Int) + 1),
      (((row (numS k) x ++ List.drop x l).set (((x : Nat) : Int)).toNat (IntKind.i8.wrap (k + 4 * ((x : Nat) : Int)), ((row (numS k) x ++ List.drop x l).getD (((x : Nat) : Int)).toNat (0, 0, 0,
      0)).snd)).getD (((x : Nat) : Int)).toNat (0, 0, 0, 0)).snd.snd)).getD (((x : Nat) : Int)).toNat (0, 0, 0, 0)).snd.fst, IntKind.i8.wrap (k + 4 * ((x : Nat) : Int) + 1 + 1), ((((row (numS k) x ++
      List.drop x l).set (((x : Nat) : Int)).toNat (IntKind.i8.wrap (k + 4 * ((x : Nat) : Int)), ((row (numS k) x ++ List.drop x l).getD (((x : Nat) : Int)).toNat (0, 0, 0, 0)).snd)).set (((x : Nat) :
      Int)).toNat ((((row (numS k) x ++ List.drop x l).set (((x : Nat) : Int)).toNat (IntKind.i8.wrap (k + 4 * ((x : Nat) : Int)), ((row (numS k) x ++ List.drop x l).getD (((x : Nat) : Int)).toNat (0, 0,
      0, 0)).snd)).getD (((x : Nat) : Int)).toNat (0, 0, 0, 0)).fst, IntKind.i8.wrap (k + 4 * ((x : Nat) : Int) + 1), (((row (numS k) x ++ List.drop x l).set (((x : Nat) : Int)).toNat (IntKind.i8.wrap (k +
      4 * ((x : Nat) : Int)), ((row (numS k) x ++ List.drop x l).getD (((x : Nat) : Int)).toNat (0, 0, 0, 0)).snd)).getD (((x : Nat) : Int)).toNat (0, 0, 0, 0)).snd.snd)).getD (((x : Nat) : Int)).toNat (0,
      0, 0, 0)).snd.snd.snd)).length : Nat) : Int)) ∧ (-9223372036854775808 ≤ k + 4 * ((x : Nat) : Int) + 1 + 1 + 1 + 1 ∧ k + 4 * ((x : Nat) : Int) + 1 + 1 + 1 + 1 ≤ 9223372036854775807) ∧
      (-9223372036854775808 ≤ ((x : Nat) : Int) + 1 ∧ ((x : Nat) : Int) + 1 ≤ 9223372036854775807) ∧ ∃ (x' : Nat), (Slot.own (Ty.slice 46 slabT) (((((row (numS k) x ++ List.drop x l).set (((x : Nat) :
      Int)).toNat (IntKind.i8.wrap (k + 4 * ((x : Nat) : Int)), ((row (numS k) x ++ List.drop x l).getD (((x : Nat) : Int)).toNat (0, 0, 0, 0)).snd)).set (((x : Nat) : Int)).toNat ((((row (numS k) x ++
      List.drop x l).set (((x : Nat) : Int)).toNat (IntKind.i8.wrap (k + 4 * ((x : Nat) : Int)), ((row (numS k) x ++ List.drop x l).getD (((x : Nat) : Int)).toNat (0, 0, 0, 0)).snd)).getD (((x : Nat) :
      Int)).toNat (0, 0, 0, 0)).fst, IntKind.i8.wrap (k + 4 * ((x : Nat) : Int) + 1), (((row (numS k) x ++ List.drop x l).set (((x : Nat) : Int)).toNat (IntKind.i8.wrap (k + 4 * ((x : Nat) : Int)), ((row
      (numS k) x ++ List.drop x l).getD (((x : Nat) : Int)).toNat (0, 0, 0, 0)).snd)).getD (((x : Nat) : Int)).toNat (0, 0, 0, 0)).snd.snd)).set (((x : Nat) : Int)).toNat (((((row (numS k) x ++ List.drop x
      l).set (((x : Nat) : Int)).toNat (IntKind.i8.wrap (k + 4 * ((x : Nat) : Int)), ((row (numS k) x ++ List.drop x l).getD (((x : Nat) : Int)).toNat (0, 0, 0, 0)).snd)).set (((x : Nat) : Int)).toNat
      ((((row (numS k) x ++ List.drop x l).set (((x : Nat) : Int)).toNat (IntKind.i8.wrap (k + 4 * ((x : Nat) : Int)), ((row (numS k) x ++ List.drop x l).getD (((x : Nat) : Int)).toNat (0, 0, 0,
      0)).snd)).getD (((x : Nat) : Int)).toNat (0, 0, 0, 0)).fst, IntKind.i8.wrap (k + 4 * ((x : Nat) : Int) + 1), (((row (numS k) x ++ List.drop x l).set (((x : Nat) : Int)).toNat (IntKind.i8.wrap (k + 4
      * ((x : Nat) : Int)), ((row (numS k) x ++ List.drop x l).getD (((x : Nat) : Int)).toNat (0, 0, 0, 0)).snd)).getD (((x : Nat) : Int)).toNat (0, 0, 0, 0)).snd.snd)).getD (((x : Nat) : Int)).toNat (0,
      0, 0, 0)).fst, ((((row (numS k) x ++ List.drop x l).set (((x : Nat) : Int)).toNat (IntKind.i8.wrap (k + 4 * ((x : Nat) : Int)), ((row (numS k) x ++ List.drop x l).getD (((x : Nat) : Int)).toNat (0,
      0, 0, 0)).snd)).set (((x : Nat) : Int)).toNat ((((row (numS k) x ++ List.drop x l).set (((x : Nat) : Int)).toNat (IntKind.i8.wrap (k + 4 * ((x : Nat) : Int)), ((row (numS k) x ++ List.drop x l).getD
      (((x : Nat) : Int)).toNat (0, 0, 0, 0)).snd)).getD (((x : Nat) : Int)).toNat (0, 0, 0, 0)).fst, IntKind.i8.wrap (k + 4 * ((x : Nat) : Int) + 1), (((row (numS k) x ++ List.drop x l).set (((x : Nat) :
      Int)).toNat (IntKind.i8.wrap (k + 4 * ((x : Nat) : Int)), ((row (numS k) x ++ List.drop x l).getD (((x : Nat) : Int)).toNat (0, 0, 0, 0)).snd)).getD (((x : Nat) : Int)).toNat (0, 0, 0,
      0)).snd.snd)).getD (((x : Nat) : Int)).toNat (0, 0, 0, 0)).snd.fst, IntKind.i8.wrap (k + 4 * ((x : Nat) : Int) + 1 + 1), ((((row (numS k) x ++ List.drop x l).set (((x : Nat) : Int)).toNat
      (IntKind.i8.wrap (k + 4 * ((x : Nat) : Int)), ((row (numS k) x ++ List.drop x l).getD (((x : Nat) : Int)).toNat (0, 0, 0, 0)).snd)).set (((x : Nat) : Int)).toNat ((((row (numS k) x ++ List.drop x
      l).set (((x : Nat) : Int)).toNat (IntKind.i8.wrap (k + 4 * ((x : Nat) : Int)), ((row (numS k) x ++ List.drop x l).getD (((x : Nat) : Int)).toNat (0, 0, 0, 0)).snd)).getD (((x : Nat) : Int)).toNat (0,
      0, 0, 0)).fst, IntKind.i8.wrap (k + 4 * ((x : Nat) : Int) + 1), (((row (numS k) x ++ List.drop x l).set (((x : Nat) : Int)).toNat (IntKind.i8.wrap (k + 4 * ((x : Nat) : Int)), ((row (numS k) x ++
      List.drop x l).getD (((x : Nat) : Int)).toNat (0, 0, 0, 0)).snd)).getD (((x : Nat) : Int)).toNat (0, 0, 0, 0)).snd.snd)).getD (((x : Nat) : Int)).toNat (0, 0, 0, 0)).snd.snd.snd)).set (((x : Nat) :
      Int)).toNat ((((((row (numS k) x ++ List.drop x l).set (((x : Nat) : Int)).toNat (IntKind.i8.wrap (k + 4 * ((x : Nat) : Int)), ((row (numS k) x ++ List.drop x l).getD (((x : Nat) : Int)).toNat (0, 0,
      0, 0)).snd)).set (((x : Nat) : Int)).toNat ((((row (numS k) x ++ List.drop x l).set (((x : Nat) : Int)).toNat (IntKind.i8.wrap (k + 4 * ((x : Nat) : Int)), ((row (numS k) x ++ List.drop x l).getD
      (((x : Nat) : Int)).toNat (0, 0, 0, 0)).snd)).getD (((x : Nat) : Int)).toNat (0, 0, 0, 0)).fst, IntKind.i8.wrap (k + 4 * ((x : Nat) : Int) + 1), (((row (numS k) x ++ List.drop x l).set (((x : Nat) :
      Int)).toNat (IntKind.i8.wrap (k + 4 * ((x : Nat) : Int)), ((row (numS k) x ++ List.drop x l).getD (((x : Nat) : Int)).toNat (0, 0, 0, 0)).snd)).getD (((x : Nat) : Int)).toNat (0, 0, 0,
      0)).snd.snd)).set (((x : Nat) : Int)).toNat (((((row (numS k) x ++ List.drop x l).set (((x : Nat) : Int)).toNat (IntKind.i8.wrap (k + 4 * ((x : Nat) : Int)), ((row (numS k) x ++ List.drop x l).getD
      (((x : Nat) : Int)).toNat (0, 0, 0, 0)).snd)).set (((x : Nat) : Int)).toNat ((((row (numS k) x ++ List.drop x l).set (((x : Nat) : Int)).toNat (IntKind.i8.wrap (k + 4 * ((x : Nat) : Int)), ((row
      (numS k) x ++ List.drop x l).getD (((x : Nat) : Int)).toNat (0, 0, 0, 0)).snd)).getD (((x : Nat) : Int)).toNat (0, 0, 0, 0)).fst, IntKind.i8.wrap (k + 4 * ((x : Nat) : Int) + 1), (((row (numS k) x ++
      List.drop x l).set (((x : Nat) : Int)).toNat (IntKind.i8.wrap (k + 4 * ((x : Nat) : Int)), ((row (numS k) x ++ List.drop x l).getD (((x : Nat) : Int)).toNat (0, 0, 0, 0)).snd)).getD (((x : Nat) :
      Int)).toNat (0, 0, 0, 0)).snd.snd)).getD (((x : Nat) : Int)).toNat (0, 0, 0, 0)).fst, ((((row (numS k) x ++ List.drop x l).set (((x : Nat) : Int)).toNat (IntKind.i8.wrap (k + 4 * ((x : Nat) : Int)),
      ((row (numS k) x ++ List.drop x l).getD (((x : Nat) : Int)).toNat (0, 0, 0, 0)).snd)).set (((x : Nat) : Int)).toNat ((((row (numS k) x ++ List.drop x l).set (((x : Nat) : Int)).toNat (IntKind.i8.wrap
      (k + 4 * ((x : Nat) : Int)), ((row (numS k) x ++ List.drop x l).getD (((x : Nat) : Int)).toNat (0, 0, 0, 0)).snd)).getD (((x : Nat) : Int)).toNat (0, 0, 0, 0)).fst, IntKind.i8.wrap (k + 4 * ((x :
      Nat) : Int) + 1), (((row (numS k) x ++ List.drop x l).set (((x : Nat) : Int)).toNat (IntKind.i8.wrap (k + 4 * ((x : Nat) : Int)), ((row (numS k) x ++ List.drop x l).getD (((x : Nat) : Int)).toNat (0,
      0, 0, 0)).snd)).getD (((x : Nat) : Int)).toNat (0, 0, 0, 0)).snd.snd)).getD (((x : Nat) : Int)).toNat (0, 0, 0, 0)).snd.fst, IntKind.i8.wrap (k + 4 * ((x : Nat) : Int) + 1 + 1), ((((row (numS k) x ++
      List.drop x l).set (((x : Nat) : Int)).toNat (IntKind.i8.wrap (k + 4 * ((x : Nat) : Int)), ((row (numS k) x ++ List.drop x l).getD (((x : Nat) : Int)).toNat (0, 0, 0, 0)).snd)).set (((x : Nat) :
      Int)).toNat ((((row (numS k) x ++ List.drop x l).set (((x : Nat) : Int)).toNat (IntKind.i8.wrap (k + 4 * ((x : Nat) : Int)), ((row (numS k) x ++ List.drop x l).getD (((x : Nat) : Int)).toNat (0, 0,
      0, 0)).snd)).getD (((x : Nat) : Int)).toNat (0, 0, 0, 0)).fst, IntKind.i8.wrap (k + 4 * ((x : Nat) : Int) + 1), (((row (numS k) x ++ List.drop x l).set (((x : Nat) : Int)).toNat (IntKind.i8.wrap (k +
      4 * ((x : Nat) : Int)), ((row (numS k) x ++ List.drop x l).getD (((x : Nat) : Int)).toNat (0, 0, 0, 0)).snd)).getD (((x : Nat) : Int)).toNat (0, 0, 0, 0)).snd.snd)).getD (((x : Nat) : Int)).toNat (0,
      0, 0, 0)).snd.snd.snd)).getD (((x : Nat) : Int)).toNat (0, 0, 0, 0)).fst, (((((row (numS k) x ++ List.drop x l).set (((x : Nat) : Int)).toNat (IntKind.i8.wrap (k + 4 * ((x : Nat) : Int)), ((row (numS
      k) x ++ List.drop x l).getD (((x : Nat) : Int)).toNat (0, 0, 0, 0)).snd)).set (((x : Nat) : Int)).toNat ((((row (numS k) x ++ List.drop x l).set (((x : Nat) : Int)).toNat (IntKind.i8.wrap (k + 4 *
      ((x : Nat) : Int)), ((row (numS k) x ++ List.drop x l).getD (((x : Nat) : Int)).toNat (0, 0, 0, 0)).snd)).getD (((x : Nat) : Int)).toNat (0, 0, 0, 0)).fst, IntKind.i8.wrap (k + 4 * ((x : Nat) : Int)
      + 1), (((row (numS k) x ++ List.drop x l).set (((x : Nat) : Int)).toNat (IntKind.i8.wrap (k + 4 * ((x : Nat) : Int)), ((row (numS k) x ++ List.drop x l).getD (((x : Nat) : Int)).toNat (0, 0, 0,
      0)).snd)).getD (((x : Nat) : Int)).toNat (0, 0, 0, 0)).snd.snd)).set (((x : Nat) : Int)).toNat (((((row (numS k) x ++ List.drop x l).set (((x : Nat) : Int)).toNat (IntKind.i8.wrap (k + 4 * ((x : Nat)
      : Int)), ((row (numS k) x ++ List.drop x l).getD (((x : Nat) : Int)).toNat (0, 0, 0, 0)).snd)).set (((x : Nat) : Int)).toNat ((((row (numS k) x ++ List.drop x l).set (((x : Nat) : Int)).toNat
      (IntKind.i8.wrap (k + 4 * ((x : Nat) : Int)), ((row (numS k) x ++ List.drop x l).getD (((x : Nat) : Int)).toNat (0, 0, 0, 0)).snd)).getD (((x : Nat) : Int)).toNat (0, 0, 0, 0)).fst, IntKind.i8.wrap
      (k + 4 * ((x : Nat) : Int) + 1), (((row (numS k) x ++ List.drop x l).set (((x : Nat) : Int)).toNat (IntKind.i8.wrap (k + 4 * ((x : Nat) : Int)), ((row (numS k) x ++ List.drop x l).getD (((x : Nat) :
      Int)).toNat (0, 0, 0, 0)).snd)).getD (((x : Nat) : Int)).toNat (0, 0, 0, 0)).snd.snd)).getD (((x : Nat) : Int)).toNat (0, 0, 0, 0)).fst, ((((row (numS k) x ++ List.drop x l).set (((x : Nat) :
      Int)).toNat (IntKind.i8.wrap (k + 4 * ((x : Nat) : Int)), ((row (numS k) x ++ List.drop x l).getD (((x : Nat) : Int)).toNat (0, 0, 0, 0)).snd)).set (((x : Nat) : Int)).toNat ((((row (numS k) x ++
      List.drop x l).set (((x : Nat) : Int)).toNat (IntKind.i8.wrap (k + 4 * ((x : Nat) : Int)), ((row (numS k) x ++ List.drop x l).getD (((x : Nat) : Int)).toNat (0, 0, 0, 0)).snd)).getD (((x : Nat) :
      Int)).toNat (0, 0, 0, 0)).fst, IntKind.i8.wrap (k + 4 * ((x : Nat) : Int) + 1), (((row (numS k) x ++ List.drop x l).set (((x : Nat) : Int)).toNat (IntKind.i8.wrap (k + 4 * ((x : Nat) : Int)), ((row
      (numS k) x ++ List.drop x l).getD (((x : Nat) : Int)).toNat (0, 0, 0, 0)).snd)).getD (((x : Nat) : Int)).toNat (0, 0, 0, 0)).snd.snd)).getD (((x : Nat) : Int)).toNat (0, 0, 0, 0)).snd.fst,
      IntKind.i8.wrap (k + 4 * ((x : Nat) : Int) + 1 + 1), ((((row (numS k) x ++ List.drop x l).set (((x : Nat) : Int)).toNat (IntKind.i8.wrap (k + 4 * ((x : Nat) : Int)), ((row (numS k) x ++ List.drop x
      l).getD (((x : Nat) : Int)).toNat (0, 0, 0, 0)).snd)).set (((x : Nat) : Int)).toNat ((((row (numS k) x ++ List.drop x l).set (((x : Nat) : Int)).toNat (IntKind.i8.wrap (k + 4 * ((x : Nat) : Int)),
      ((row (numS k) x ++ List.drop x l).getD (((x : Nat) : Int)).toNat (0, 0, 0, 0)).snd)).getD (((x : Nat) : Int)).toNat (0, 0, 0, 0)).fst, IntKind.i8.wrap (k + 4 * ((x : Nat) : Int) + 1), (((row (numS
      k) x ++ List.drop x l).set (((x : Nat) : Int)).toNat (IntKind.i8.wrap (k + 4 * ((x : Nat) : Int)), ((row (numS k) x ++ List.drop x l).getD (((x : Nat) : Int)).toNat (0, 0, 0, 0)).snd)).getD (((x :
      Nat) : Int)).toNat (0, 0, 0, 0)).snd.snd)).getD (((x : Nat) : Int)).toNat (0, 0, 0, 0)).snd.snd.snd)).getD (((x : Nat) : Int)).toNat (0, 0, 0, 0)).snd.fst, (((((row (numS k) x ++ List.drop x l).set
      (((x : Nat) : Int)).toNat (IntKind.i8.wrap (k + 4 * ((x : Nat) : Int)), ((row (numS k) x ++ List.drop x l).getD (((x : Nat) : Int)).toNat (0, 0, 0, 0)).snd)).set (((x : Nat) : Int)).toNat ((((row
      (numS k) x ++ List.drop x l).set (((x : Nat) : Int)).toNat (IntKind.i8.wrap (k + 4 * ((x : Nat) : Int)), ((row (numS k) x ++ List.drop x l).getD (((x : Nat) : Int)).toNat (0, 0, 0, 0)).snd)).getD
      (((x : Nat) : Int)).toNat (0, 0, 0, 0)).fst, IntKind.i8.wrap (k + 4 * ((x : Nat) : Int) + 1), (((row (numS k) x ++ List.drop x l).set (((x : Nat) : Int)).toNat (IntKind.i8.wrap (k + 4 * ((x : Nat) :
      Int)), ((row (numS k) x ++ List.drop x l).getD (((x : Nat) : Int)).toNat (0, 0, 0, 0)).snd)).getD (((x : Nat) : Int)).toNat (0, 0, 0, 0)).snd.snd)).set (((x : Nat) : Int)).toNat (((((row (numS k) x
      ++ List.drop x l).set (((x : Nat) : Int)).toNat (IntKind.i8.wrap (k + 4 * ((x : Nat) : Int)), ((row (numS k) x ++ List.drop x l).getD (((x : Nat) : Int)).toNat (0, 0, 0, 0)).snd)).set (((x : Nat) :
      Int)).toNat ((((row (numS k) x ++ List.drop x l).set (((x : Nat) : Int)).toNat (IntKind.i8.wrap (k + 4 * ((x : Nat) : Int)), ((row (numS k) x ++ List.drop x l).getD (((x : Nat) : Int)).toNat (0, 0,
      0, 0)).snd)).getD (((x : Nat) : Int)).toNat (0, 0, 0, 0)).fst, IntKind.i8.wrap (k + 4 * ((x : Nat) : Int) + 1), (((row (numS k) x ++ List.drop x l).set (((x : Nat) : Int)).toNat (IntKind.i8.wrap (k +
      4 * ((x : Nat) : Int)), ((row (numS k) x ++ List.drop x l).getD (((x : Nat) : Int)).toNat (0, 0, 0, 0)).snd)).getD (((x : Nat) : Int)).toNat (0, 0, 0, 0)).snd.snd)).getD (((x : Nat) : Int)).toNat (0,
      0, 0, 0)).fst, ((((row (numS k) x ++ List.drop x l).set (((x : Nat) : Int)).toNat (IntKind.i8.wrap (k + 4 * ((x : Nat) : Int)), ((row (numS k) x ++ List.drop x l).getD (((x : Nat) : Int)).toNat (0,
      0, 0, 0)).snd)).set (((x : Nat) : Int)).toNat ((((row (numS k) x ++ List.drop x l).set (((x : Nat) : Int)).toNat (IntKind.i8.wrap (k + 4 * ((x : Nat) : Int)), ((row (numS k) x ++ List.drop x l).getD
      (((x : Nat) : Int)).toNat (0, 0, 0, 0)).snd)).getD (((x : Nat) : Int)).toNat (0, 0, 0, 0)).fst, IntKind.i8.wrap (k + 4 * ((x : Nat) : Int) + 1), (((row (numS k) x ++ List.drop x l).set (((x : Nat) :
      Int)).toNat (IntKind.i8.wrap (k + 4 * ((x : Nat) : Int)), ((row (numS k) x ++ List.drop x l).getD (((x : Nat) : Int)).toNat (0, 0, 0, 0)).snd)).getD (((x : Nat) : Int)).toNat (0, 0, 0,
      0)).snd.snd)).getD (((x : Nat) : Int)).toNat (0, 0, 0, 0)).snd.fst, IntKind.i8.wrap (k + 4 * ((x : Nat) : Int) + 1 + 1), ((((row (numS k) x ++ List.drop x l).set (((x : Nat) : Int)).toNat
      (IntKind.i8.wrap (k + 4 * ((x : Nat) : Int)), ((row (numS k) x ++ List.drop x l).getD (((x : Nat) : Int)).toNat (0, 0, 0, 0)).snd)).set (((x : Nat) : Int)).toNat ((((row (numS k) x ++ List.drop x
      l).set (((x : Nat) : Int)).toNat (IntKind.i8.wrap (k + 4 * ((x : Nat) : Int)), ((row (numS k) x ++ List.drop x l).getD (((x : Nat) : Int)).toNat (0, 0, 0, 0)).snd)).getD (((x : Nat) : Int)).toNat (0,
      0, 0, 0)).fst, IntKind.i8.wrap (k + 4 * ((x : Nat) : Int) + 1), (((row (numS k) x ++ List.drop x l).set (((x : Nat) : Int)).toNat (IntKind.i8.wrap (k + 4 * ((x : Nat) : Int)), ((row (numS k) x ++
      List.drop x l).getD (((x : Nat) : Int)).toNat (0, 0, 0, 0)).snd)).getD (((x : Nat) : Int)).toNat (0, 0, 0, 0)).snd.snd)).getD (((x : Nat) : Int)).toNat (0, 0, 0, 0)).snd.snd.snd)).getD (((x : Nat) :
      Int)).toNat (0, 0, 0, 0)).snd.snd.fst, IntKind.i8.wrap (k + 4 * ((x : Nat) : Int) + 1 + 1 + 1))) = Slot.own (Ty.slice 46 slabT) (row (numS k) x' ++ List.drop x' l) ∧ Slot.val (D.dat (Ty.int
      IntKind.i64) (k + 4 * ((x : Nat) : Int) + 1 + 1 + 1 + 1)) = Slot.val (D.dat iT (k + 4 * ((x' : Nat) : Int))) ∧ Slot.val (D.dat (Ty.int IntKind.i64) (((x : Nat) : Int) + 1)) = Slot.val (D.dat iT ((x'
      : Nat) : Int))) ∧ x' ≤ l.length ∧ l.length - x' < l.length - x) (k + 4 * ((x : Nat) : Int) = k + 4 * ((l.length : Nat) : Int) ∧ row (numS k) x ++ List.drop x l = row (numS k) l.length)) := by
    intro _ _
    refine ⟨⟨0, ⟨rfl, by simp, rfl⟩, by omega⟩, fun i hi _ _ _ _ => split_of (fun h => ?_) (fun h => ?_)⟩
    · have h := of_decide_eq_true h
      have hLl := row_part_len (numS k) hi
      have hrow := row_set (numS k) (l := l) (i := i) (z := numS k i)
      generalize row (numS k) i ++ l.drop i = L at *
      simp only [Int.toNat_natCast, List.length_set, List.set_set, getD_set_same (show i < L.length by omega)]
      refine ⟨by omega, by omega, by omega, by omega, by omega, by omega, by omega, by omega, by omega, i + 1, ⟨?_, by rw [show k + 4 * ((i + 1 : Nat) : Int) = k + 4 * (i : Int) + 1 + 1 + 1 + 1 by omega], rfl⟩, by omega, by omega⟩
      rw [← hrow (by omega) rfl]; rfl
    · have h := of_decide_eq_false h
      rw [row_part_len _ hi] at h
      rw [show i = l.length by omega, List.drop_length, List.append_nil]
      exact ⟨rfl, rfl⟩
  refine @Eq.mpr _ _ (?_) key
  kernel_rfl
end Go.Proofs.Ytjicolekkojonaa
