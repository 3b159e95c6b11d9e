/- Joints. No statement is proved here. -/
import Derived.Test.YtmjijggkdbiijaaSi
namespace Go.Proofs.Ytmjijggkdbiijaa
open Go.RowKit
set_option linter.unusedVariables false
set_option linter.unusedSimpArgs false
set_option maxRecDepth 100000
set_option maxHeartbeats 4000000
def unlessI (t : Bool) (c : Int) : Int := if t then 0 else c
theorem unless_ev (t : Bool) (c : Int) : Ev Try.prog 121 [aB t, aI c] (compsOf [rI] (unlessI t c)) := by
  refine ev_of (l := [rI]) (r := (unlessI t c)) (types (resT) [] (fun _ _ => none)) follows Try.func121 (by kernel_rfl) (by rw [Try.ntmps121]; exact Nat.le_of_ble_eq_true rfl) ?_
  have key : (inR IntKind.i64 c → split t (0 = unlessI t c) (c = unlessI t c)) := by
    repeat' (first
      | (intro hh; try simp only [inR, loK, hiK] at hh)
      | exact trivial
      | (refine And.intro ?_ ?_)
      | (refine split_of (fun hh => ?_) (fun hh => ?_)))
    all_goals (first | omega | rfl | (simp_all [unlessI]; done) | (simp_all [unlessI]; omega))
  refine @Eq.mpr _ _ (?_) key
  kernel_rfl
def ptB (q : Sq) (p : Int × Int) : Bool := inB p.1 0 q.1 && inB p.2 0 q.2.1
theorem isPoint_ev (q : Sq) (p : Int × Int) : Ev Try.prog 124 [aQ q, aC p] (compsOf [rB] (ptB q p)) := by
  refine ev_of (l := [rB]) (r := (ptB q p)) (types (resT) [] (fun _ _ => none)) follows Try.func124 (by kernel_rfl) (by rw [Try.ntmps124]; exact Nat.le_of_ble_eq_true rfl) ?_
  have key : (inR IntKind.i8 q.fst → inR IntKind.i8 q.snd.fst → (q.snd.snd.length ≤ 9223372036854775807 ∧ ∀ (x : Int × Int × Int × Int), List.Mem x q.snd.snd → inR IntKind.i8 x.fst ∧ inR IntKind.i8 x.snd.fst ∧ inR
      IntKind.i8 x.snd.snd.fst ∧ inR IntKind.i8 x.snd.snd.snd) → inR IntKind.i8 p.fst → inR IntKind.i8 p.snd → inR IntKind.i8 p.fst → (-9223372036854775808 ≤ p.fst ∧ p.fst ≤ 9223372036854775807) ∧ (inR
      IntKind.i8 q.fst → (-9223372036854775808 ≤ q.fst ∧ q.fst ≤ 9223372036854775807) ∧ ∃ (r : Bool), Ev Try.prog 66 [Arg.imm (D.dat (Ty.int IntKind.i64) p.fst), Arg.imm (D.dat (Ty.int IntKind.i64) 0),
      Arg.imm (D.dat (Ty.int IntKind.i64) q.fst)] (compsOf [(false, Ty.bool)] r) ∧ split r (inR IntKind.i8 p.snd → (-9223372036854775808 ≤ p.snd ∧ p.snd ≤ 9223372036854775807) ∧ (inR IntKind.i8 q.snd.fst →
      (-9223372036854775808 ≤ q.snd.fst ∧ q.snd.fst ≤ 9223372036854775807) ∧ ∃ (r : Bool), Ev Try.prog 66 [Arg.imm (D.dat (Ty.int IntKind.i64) p.snd), Arg.imm (D.dat (Ty.int IntKind.i64) 0), Arg.imm (D.dat
      (Ty.int IntKind.i64) q.snd.fst)] (compsOf [(false, Ty.bool)] r) ∧ r = ptB q p)) (false = ptB q p))) := by
    repeat' (first
      | (intro hh; try simp only [inR, loK, hiK] at hh)
      | exact trivial
      | (refine ⟨_, within_ev _ _ _, ?_⟩)
      | (refine And.intro ?_ ?_)
      | (refine split_of (fun hh => ?_) (fun hh => ?_)))
    all_goals (first | omega | rfl | (simp_all [ptB]; done) | (simp_all [ptB]; omega))
  refine @Eq.mpr _ _ (?_) key
  kernel_rfl
theorem l06Is_ev (q : Sq) (p : Int × Int) : Ev Try.prog 119 [aQp q, aC p] (compsOf [rB] (ptB q p)) := by
  refine ev_of (l := [rB]) (r := (ptB q p)) (types (resT) [] (fun _ _ => none)) follows Try.func119 (by kernel_rfl) (by rw [Try.ntmps119]; exact Nat.le_of_ble_eq_true rfl) ?_
  have key : (inR IntKind.i8 p.fst → inR IntKind.i8 p.snd → inR IntKind.i8 p.fst → (-9223372036854775808 ≤ p.fst ∧ p.fst ≤ 9223372036854775807) ∧ (inR IntKind.i8 q.fst → (-9223372036854775808 ≤ q.fst ∧ q.fst ≤
      9223372036854775807) ∧ ∃ (r : Bool), Ev Try.prog 117 [Arg.imm (D.dat (Ty.int IntKind.i64) p.fst), Arg.imm (D.dat (Ty.int IntKind.i64) 0), Arg.imm (D.dat (Ty.int IntKind.i64) q.fst)] (compsOf [(false,
      Ty.bool)] r) ∧ split r (inR IntKind.i8 p.snd → (-9223372036854775808 ≤ p.snd ∧ p.snd ≤ 9223372036854775807) ∧ (inR IntKind.i8 q.snd.fst → (-9223372036854775808 ≤ q.snd.fst ∧ q.snd.fst ≤
      9223372036854775807) ∧ ∃ (r : Bool), Ev Try.prog 117 [Arg.imm (D.dat (Ty.int IntKind.i64) p.snd), Arg.imm (D.dat (Ty.int IntKind.i64) 0), Arg.imm (D.dat (Ty.int IntKind.i64) q.snd.fst)] (compsOf
      [(false, Ty.bool)] r) ∧ r = ptB q p)) (false = ptB q p))) := by
    repeat' (first
      | (intro hh; try simp only [inR, loK, hiK] at hh)
      | exact trivial
      | (refine ⟨_, l00In_ev _ _ _, ?_⟩)
      | (refine And.intro ?_ ?_)
      | (refine split_of (fun hh => ?_) (fun hh => ?_)))
    all_goals (first | omega | rfl | (simp_all [ptB]; done) | (simp_all [ptB]; omega))
  refine @Eq.mpr _ _ (?_) key
  kernel_rfl
theorem cornerCode1_ev (q : Sq) (p : Int × Int) : Ev Try.prog 123 [aC p, aQp q] (compsOf [rB] (!(ptB q p))) := by
  refine ev_of (l := [rB]) (r := (!(ptB q p))) (types (resT) [] (fun _ _ => none)) follows Try.func123 (by kernel_rfl) (by rw [Try.ntmps123]; exact Nat.le_of_ble_eq_true rfl) ?_
  have key : (inR IntKind.i8 p.fst → inR IntKind.i8 p.snd → inR IntKind.i8 q.fst → inR IntKind.i8 q.snd.fst → (q.snd.snd.length ≤ 9223372036854775807 ∧ ∀ (x : Int × Int × Int × Int), List.Mem x q.snd.snd → inR
      IntKind.i8 x.fst ∧ inR IntKind.i8 x.snd.fst ∧ inR IntKind.i8 x.snd.snd.fst ∧ inR IntKind.i8 x.snd.snd.snd) → inR IntKind.i8 p.fst → inR IntKind.i8 p.snd → ∃ (r : Bool), Ev Try.prog 124 [Arg.imm
      (D.dat (sqT 41) q), Arg.imm (D.dat cellT p)] (compsOf [(false, Ty.bool)] r) ∧ (!r) = !ptB q p) := by
    repeat' (first
      | (intro hh; try simp only [inR, loK, hiK] at hh)
      | exact trivial
      | (refine ⟨_, isPoint_ev _ _, ?_⟩)
      | (refine And.intro ?_ ?_)
      | (refine split_of (fun hh => ?_) (fun hh => ?_)))
    all_goals (first | omega | rfl | (simp_all []; done) | (simp_all []; omega))
  refine @Eq.mpr _ _ (?_) key
  kernel_rfl
noncomputable abbrev idxCInv (l : Cl) (p : Int × Int → Bool) (n : Nat) (σ : List Slot) : Option LoopInv := match n with
  | 2 => some ⟨hvAt Try.f154 2, Nat, fun i => [(8, .val (.dat (.int .i64) i))], fun i => i ≤ l.length ∧ ∀ j : Nat, j < i → p (l.getD j (0, 0)) = false, fun i => l.length - i⟩
  | _ => none
theorem indexFuncL_ev (l : Cl) (f : Nat) (d1 : D) (p : Int × Int → Bool) (hp : ∀ s ∈ l, Ev Try.prog f [aC s, .imm d1] (compsOf [rB] (p s))) : Ev Try.prog 154 [aL l, .imm (.clo f (.cn d1 .nl))] (compsOf [rI] (idxP p l)) := by
  refine ev_of (l := [rI]) (r := (idxP p l)) (types (fun _ => some [rB]) [] (idxCInv l p)) follows Try.func154 (by kernel_rfl) (by rw [Try.ntmps154]; exact Nat.le_of_ble_eq_true rfl) ?_
  have key : ((List.length l ≤ 9223372036854775807 ∧ ∀ (x : Int × Int), List.Mem x l → inR IntKind.i8 x.fst ∧ inR IntKind.i8 x.snd) → (((List.length l) : Nat) : Int) ≤ 9223372036854775807 → (∃ (x0 : Nat), Slot.val
      (D.dat (Ty.int IntKind.i64) 0) = Slot.val (D.dat (Ty.int IntKind.i64) ((x0 : Nat) : Int)) ∧ x0 ≤ List.length l ∧ ∀ (j : Nat), j < x0 → p (List.getD l j (0, 0)) = false) ∧ ∀ (x : Nat), (x ≤
      List.length l ∧ ∀ (j : Nat), j < x → p (List.getD l j (0, 0)) = false) → inR IntKind.i64 ((x : Nat) : Int) → split (decide (((x : Nat) : Int) < (((List.length l) : Nat) : Int))) ((0 ≤ ((x : Nat) :
      Int) ∧ ((x : Nat) : Int) < (((List.length l) : Nat) : Int)) ∧ (inR IntKind.i8 (List.getD l (((x : Nat) : Int)).toNat (0, 0)).fst → inR IntKind.i8 (List.getD l (((x : Nat) : Int)).toNat (0, 0)).snd →
      ∃ (r : Bool), Ev Try.prog f [Arg.imm (D.dat cellT (List.getD l (((x : Nat) : Int)).toNat (0, 0))), Arg.imm d1] (compsOf [(false, Ty.bool)] r) ∧ split r (((x : Nat) : Int) = idxP p l)
      ((-9223372036854775808 ≤ ((x : Nat) : Int) + 1 ∧ ((x : Nat) : Int) + 1 ≤ 9223372036854775807) ∧ ∃ (x' : Nat), Slot.val (D.dat (Ty.int IntKind.i64) (((x : Nat) : Int) + 1)) = Slot.val (D.dat (Ty.int
      IntKind.i64) ((x' : Nat) : Int)) ∧ (x' ≤ List.length l ∧ ∀ (j : Nat), j < x' → p (List.getD l j (0, 0)) = false) ∧ List.length l - x' < List.length l - x))) (-1 = idxP p l)) := by
    intro _ _
    refine ⟨⟨0, rfl, by omega, fun j hj => by omega⟩, fun i ⟨hi, hn⟩ _ => split_of (fun h => ?_) (fun h => ?_)⟩
    · have h := of_decide_eq_true h
      simp only [Int.toNat_natCast]
      have hm : l.getD i (0, 0) ∈ l := by
        have : l.getD i (0, 0) = l[i]'(by omega) := by simp [List.getD_eq_getElem?_getD, show i < l.length by omega]
        rw [this]; exact List.getElem_mem _
      exact ⟨by omega, fun _ _ => ⟨_, hp _ hm, split_of (fun h2 => idxP_found (by omega) h2 hn) (fun h2 => ⟨by omega, i + 1, rfl, ⟨by omega, upto_step hn h2⟩, by omega⟩)⟩⟩
    · have h := of_decide_eq_false h
      exact idxP_none fun j hj => hn j (by omega)
  refine @Eq.mpr _ _ (?_) key
  kernel_rfl
theorem containsFuncL_ev (l : Cl) (f : Nat) (d1 : D) (p : Int × Int → Bool) (hp : ∀ s ∈ l, Ev Try.prog f [aC s, .imm d1] (compsOf [rB] (p s))) : Ev Try.prog 122 [aL l, .imm (.clo f (.cn d1 .nl))] (compsOf [rB] (l.any p)) := by
  refine ev_of (l := [rB]) (r := (l.any p)) (types (resT) [] (fun _ _ => none)) follows Try.func122 (by kernel_rfl) (by rw [Try.ntmps122]; exact Nat.le_of_ble_eq_true rfl) ?_
  have key : ((List.length l ≤ 9223372036854775807 ∧ ∀ (x : Int × Int), List.Mem x l → inR IntKind.i8 x.fst ∧ inR IntKind.i8 x.snd) → ∃ (r : Int), Ev Try.prog 154 [Arg.imm (D.dat (Ty.slice 52 cellT) l), Arg.imm
      (D.clo f (d1.cn D.nl))] (compsOf [(false, Ty.int IntKind.i64)] r) ∧ (inR IntKind.i64 r → decide (0 ≤ r) = List.any l p)) := by
    intros
    exact ⟨_, indexFuncL_ev l f d1 p hp, fun _ => idxP_any⟩
  refine @Eq.mpr _ _ (?_) key
  kernel_rfl
def askedI (v f : Bool) : Int := if v then (if f then 0 else 2) else 1
noncomputable def cornerI (q : Sq) (l : Cl) : Int := askedI (okQ q) (!(l.any fun p => !(ptB q p)))
theorem cornerCode_ev (q : Sq) (l : Cl) : Ev Try.prog 70 [aQ q, aL l] (compsOf [rI] (cornerI q l)) := by
  refine ev_of (l := [rI]) (r := (cornerI q l)) (types (resT) [] (fun _ _ => none)) follows Try.func70 (by kernel_rfl) (by rw [Try.ntmps70]; exact Nat.le_of_ble_eq_true rfl) ?_
  have key : (inR IntKind.i8 q.fst → inR IntKind.i8 q.snd.fst → (q.snd.snd.length ≤ 9223372036854775807 ∧ ∀ (x : Int × Int × Int × Int), List.Mem x q.snd.snd → inR IntKind.i8 x.fst ∧ inR IntKind.i8 x.snd.fst ∧ inR
      IntKind.i8 x.snd.snd.fst ∧ inR IntKind.i8 x.snd.snd.snd) → (List.length l ≤ 9223372036854775807 ∧ ∀ (x : Int × Int), List.Mem x l → inR IntKind.i8 x.fst ∧ inR IntKind.i8 x.snd) → inR IntKind.i8 q.fst
      → inR IntKind.i8 q.snd.fst → (q.snd.snd.length ≤ 9223372036854775807 ∧ ∀ (x : Int × Int × Int × Int), List.Mem x q.snd.snd → inR IntKind.i8 x.fst ∧ inR IntKind.i8 x.snd.fst ∧ inR IntKind.i8
      x.snd.snd.fst ∧ inR IntKind.i8 x.snd.snd.snd) → ∃ (r : Bool), Ev Try.prog 61 [Arg.imm (D.dat (sqT 41) q)] (compsOf [(false, Ty.bool)] r) ∧ split (!r) (1 = cornerI q l) (∃ (r : Bool), Ev Try.prog 122
      [Arg.imm (D.dat (Ty.slice 52 cellT) l), Arg.imm (D.clo 123 ((D.dat (sqT 41) q).ref.cn D.nl))] (compsOf [(false, Ty.bool)] r) ∧ ∃ (r_1 : Int), Ev Try.prog 121 [Arg.imm (D.dat Ty.bool !r), Arg.imm
      (D.dat (Ty.int IntKind.i64) 2)] (compsOf [(false, Ty.int IntKind.i64)] r_1) ∧ (inR IntKind.i64 r_1 → r_1 = cornerI q l))) := by
    intros
    refine ⟨_, valid_ev q, split_of (fun h => by simp [cornerI, askedI, not_t h]) (fun h => ?_)⟩
    refine ⟨_, containsFuncL_ev l _ _ (fun p => !(ptB q p)) fun p _ => cornerCode1_ev q p, _, unless_ev _ _, fun _ => ?_⟩
    simp only [cornerI, askedI, not_f h, unlessI, if_true]
  refine @Eq.mpr _ _ (?_) key
  kernel_rfl
def atI (q : Sq) (x y : Int) : Int := idxP (covB x y) q.2.2
def jointC (q : Sq) (x y u v : Int) : Bool := decide (0 ≤ atI q x y) && decide (0 ≤ atI q u v) && !(decide (atI q x y = atI q u v))
theorem joint_ev (q : Sq) (x y u v : Int) : Ev Try.prog 155 [aQ q, aI x, aI y, aI u, aI v] (compsOf [rB] (jointC q x y u v)) := by
  refine ev_of (l := [rB]) (r := (jointC q x y u v)) (types (resT) [] (fun _ _ => none)) follows Try.func155 (by kernel_rfl) (by rw [Try.ntmps155]; exact Nat.le_of_ble_eq_true rfl) ?_
  have key : (inR IntKind.i8 q.fst → inR IntKind.i8 q.snd.fst → (q.snd.snd.length ≤ 9223372036854775807 ∧ ∀ (x : Int × Int × Int × Int), List.Mem x q.snd.snd → inR IntKind.i8 x.fst ∧ inR IntKind.i8 x.snd.fst ∧ inR
      IntKind.i8 x.snd.snd.fst ∧ inR IntKind.i8 x.snd.snd.snd) → inR IntKind.i64 x → inR IntKind.i64 y → inR IntKind.i64 u → inR IntKind.i64 v → inR IntKind.i8 q.fst → inR IntKind.i8 q.snd.fst →
      (q.snd.snd.length ≤ 9223372036854775807 ∧ ∀ (x : Int × Int × Int × Int), List.Mem x q.snd.snd → inR IntKind.i8 x.fst ∧ inR IntKind.i8 x.snd.fst ∧ inR IntKind.i8 x.snd.snd.fst ∧ inR IntKind.i8
      x.snd.snd.snd) → ∃ (r : Int), Ev Try.prog 135 [Arg.imm (D.dat (sqT 41) q), Arg.imm (D.dat (Ty.int IntKind.i64) x), Arg.imm (D.dat (Ty.int IntKind.i64) y)] (compsOf [(false, Ty.int IntKind.i64)] r) ∧
      (inR IntKind.i64 r → inR IntKind.i8 q.fst → inR IntKind.i8 q.snd.fst → (q.snd.snd.length ≤ 9223372036854775807 ∧ ∀ (x : Int × Int × Int × Int), List.Mem x q.snd.snd → inR IntKind.i8 x.fst ∧ inR
      IntKind.i8 x.snd.fst ∧ inR IntKind.i8 x.snd.snd.fst ∧ inR IntKind.i8 x.snd.snd.snd) → ∃ (r_1 : Int), Ev Try.prog 135 [Arg.imm (D.dat (sqT 41) q), Arg.imm (D.dat (Ty.int IntKind.i64) u), Arg.imm
      (D.dat (Ty.int IntKind.i64) v)] (compsOf [(false, Ty.int IntKind.i64)] r_1) ∧ (inR IntKind.i64 r_1 → split (decide (0 ≤ r)) (split (decide (0 ≤ r_1)) ((!decide (r = r_1)) = jointC q x y u v) (false =
      jointC q x y u v)) (false = jointC q x y u v)))) := by
    intros
    refine ⟨_, at_ev q x y, fun _ => ?_⟩
    intros
    refine ⟨_, at_ev q u v, fun _ => split_of (fun h => split_of (fun h2 => ?_) (fun h2 => ?_)) (fun h => ?_)⟩
    · unfold jointC atI; rw [h, h2]; rfl
    · unfold jointC atI; rw [h, h2]; rfl
    · unfold jointC atI; rw [h]; rfl
  refine @Eq.mpr _ _ (?_) key
  kernel_rfl
def sideV (q : Sq) (a b : Int × Int) : Int × Int × Bool :=
  if a.2 = b.2 ∧ b.1 = a.1 + 1 then (atI q a.1 a.2, atI q a.1 (a.2 - 1), jointC q a.1 a.2 a.1 (a.2 - 1))
  else if a.1 = b.1 ∧ b.2 = a.2 + 1 then (atI q a.1 a.2, atI q (a.1 - 1) a.2, jointC q a.1 a.2 (a.1 - 1) a.2)
  else (0, 0, false)
def sidesV (q : Sq) (a b : Int × Int) : Int × Int × Bool := if 0 < firstNZ [cmp8 a.2 b.2, cmp8 a.1 b.1] then sideV q b a else sideV q a b
theorem sidesOf_ev (q : Sq) (a b : Int × Int) : Ev Try.prog 125 [aQ q, aC a, aC b] (compsOf [rI, rI, rB] (sidesV q a b)) := by
  refine ev_of (l := [rI, rI, rB]) (r := (sidesV q a b)) (types (resT) [] (fun _ _ => none)) follows Try.func125 (by kernel_rfl) (by rw [Try.ntmps125]; exact Nat.le_of_ble_eq_true rfl) ?_
  have key : (inR IntKind.i8 q.fst → inR IntKind.i8 q.snd.fst → (q.snd.snd.length ≤ 9223372036854775807 ∧ ∀ (x : Int × Int × Int × Int), List.Mem x q.snd.snd → inR IntKind.i8 x.fst ∧ inR IntKind.i8 x.snd.fst ∧ inR
      IntKind.i8 x.snd.snd.fst ∧ inR IntKind.i8 x.snd.snd.snd) → inR IntKind.i8 a.fst → inR IntKind.i8 a.snd → inR IntKind.i8 b.fst → inR IntKind.i8 b.snd → inR IntKind.i8 a.fst → inR IntKind.i8 a.snd →
      inR IntKind.i8 b.fst → inR IntKind.i8 b.snd → ∃ (r : Int), Ev Try.prog 152 [Arg.imm (D.dat cellT a), Arg.imm (D.dat cellT b)] (compsOf [(false, Ty.int IntKind.i64)] r) ∧ (inR IntKind.i64 r → split
      (decide (0 < r)) (inR IntKind.i8 b.fst → inR IntKind.i8 b.snd → inR IntKind.i8 a.fst → inR IntKind.i8 a.snd → inR IntKind.i8 b.fst → (-9223372036854775808 ≤ b.fst ∧ b.fst ≤ 9223372036854775807) ∧
      (inR IntKind.i8 b.snd → (-9223372036854775808 ≤ b.snd ∧ b.snd ≤ 9223372036854775807) ∧ (inR IntKind.i8 b.snd → inR IntKind.i8 a.snd → split (decide (b.snd = a.snd)) (inR IntKind.i8 a.fst →
      (-9223372036854775808 ≤ a.fst ∧ a.fst ≤ 9223372036854775807) ∧ (-9223372036854775808 ≤ b.fst + 1 ∧ b.fst + 1 ≤ 9223372036854775807) ∧ split (decide (a.fst = b.fst + 1)) ((-9223372036854775808 ≤ b.snd
      - 1 ∧ b.snd - 1 ≤ 9223372036854775807) ∧ (inR IntKind.i8 q.fst → inR IntKind.i8 q.snd.fst → (q.snd.snd.length ≤ 9223372036854775807 ∧ ∀ (x : Int × Int × Int × Int), List.Mem x q.snd.snd → inR
      IntKind.i8 x.fst ∧ inR IntKind.i8 x.snd.fst ∧ inR IntKind.i8 x.snd.snd.fst ∧ inR IntKind.i8 x.snd.snd.snd) → ∃ (r : Int), Ev Try.prog 135 [Arg.imm (D.dat (sqT 41) q), Arg.imm (D.dat (Ty.int
      IntKind.i64) b.fst), Arg.imm (D.dat (Ty.int IntKind.i64) b.snd)] (compsOf [(false, Ty.int IntKind.i64)] r) ∧ (inR IntKind.i64 r → inR IntKind.i8 q.fst → inR IntKind.i8 q.snd.fst → (q.snd.snd.length ≤
      9223372036854775807 ∧ ∀ (x : Int × Int × Int × Int), List.Mem x q.snd.snd → inR IntKind.i8 x.fst ∧ inR IntKind.i8 x.snd.fst ∧ inR IntKind.i8 x.snd.snd.fst ∧ inR IntKind.i8 x.snd.snd.snd) → ∃ (r_1 :
      Int), Ev Try.prog 135 [Arg.imm (D.dat (sqT 41) q), Arg.imm (D.dat (Ty.int IntKind.i64) b.fst), Arg.imm (D.dat (Ty.int IntKind.i64) (b.snd - 1))] (compsOf [(false, Ty.int IntKind.i64)] r_1) ∧ (inR
      IntKind.i64 r_1 → inR IntKind.i8 q.fst → inR IntKind.i8 q.snd.fst → (q.snd.snd.length ≤ 9223372036854775807 ∧ ∀ (x : Int × Int × Int × Int), List.Mem x q.snd.snd → inR IntKind.i8 x.fst ∧ inR
      IntKind.i8 x.snd.fst ∧ inR IntKind.i8 x.snd.snd.fst ∧ inR IntKind.i8 x.snd.snd.snd) → ∃ (r_2 : Bool), Ev Try.prog 155 [Arg.imm (D.dat (sqT 41) q), Arg.imm (D.dat (Ty.int IntKind.i64) b.fst), Arg.imm
      (D.dat (Ty.int IntKind.i64) b.snd), Arg.imm (D.dat (Ty.int IntKind.i64) b.fst), Arg.imm (D.dat (Ty.int IntKind.i64) (b.snd - 1))] (compsOf [(false, Ty.bool)] r_2) ∧ r = (sidesV q a b).fst ∧ r_1 =
      (sidesV q a b).snd.fst ∧ r_2 = (sidesV q a b).snd.snd)))) (inR IntKind.i8 b.fst → inR IntKind.i8 a.fst → split (decide (b.fst = a.fst)) (inR IntKind.i8 a.snd → (-9223372036854775808 ≤ a.snd ∧ a.snd ≤
      9223372036854775807) ∧ (-9223372036854775808 ≤ b.snd + 1 ∧ b.snd + 1 ≤ 9223372036854775807) ∧ split (decide (a.snd = b.snd + 1)) ((-9223372036854775808 ≤ b.fst - 1 ∧ b.fst - 1 ≤ 9223372036854775807)
      ∧ (inR IntKind.i8 q.fst → inR IntKind.i8 q.snd.fst → (q.snd.snd.length ≤ 9223372036854775807 ∧ ∀ (x : Int × Int × Int × Int), List.Mem x q.snd.snd → inR IntKind.i8 x.fst ∧ inR IntKind.i8 x.snd.fst ∧
      inR IntKind.i8 x.snd.snd.fst ∧ inR IntKind.i8 x.snd.snd.snd) → ∃ (r : Int), Ev Try.prog 135 [Arg.imm (D.dat (sqT 41) q), Arg.imm (D.dat (Ty.int IntKind.i64) b.fst), Arg.imm (D.dat (Ty.int
      IntKind.i64) b.snd)] (compsOf [(false, Ty.int IntKind.i64)] r) ∧ (inR IntKind.i64 r → inR IntKind.i8 q.fst → inR IntKind.i8 q.snd.fst → (q.snd.snd.length ≤ 9223372036854775807 ∧ ∀ (x : Int × Int ×
      Int × Int), List.Mem x q.snd.snd → inR IntKind.i8 x.fst ∧ inR IntKind.i8 x.snd.fst ∧ inR IntKind.i8 x.snd.snd.fst ∧ inR IntKind.i8 x.snd.snd.snd) → ∃ (r_1 : Int), Ev Try.prog 135 [Arg.imm (D.dat (sqT
      41) q), Arg.imm (D.dat (Ty.int IntKind.i64) (b.fst - 1)), Arg.imm (D.dat (Ty.int IntKind.i64) b.snd)] (compsOf [(false, Ty.int IntKind.i64)] r_1) ∧ (inR IntKind.i64 r_1 → inR IntKind.i8 q.fst → inR
      IntKind.i8 q.snd.fst → (q.snd.snd.length ≤ 9223372036854775807 ∧ ∀ (x : Int × Int × Int × Int), List.Mem x q.snd.snd → inR IntKind.i8 x.fst ∧ inR IntKind.i8 x.snd.fst ∧ inR IntKind.i8 x.snd.snd.fst ∧
      inR IntKind.i8 x.snd.snd.snd) → ∃ (r_2 : Bool), Ev Try.prog 155 [Arg.imm (D.dat (sqT 41) q), Arg.imm (D.dat (Ty.int IntKind.i64) b.fst), Arg.imm (D.dat (Ty.int IntKind.i64) b.snd), Arg.imm (D.dat
      (Ty.int IntKind.i64) (b.fst - 1)), Arg.imm (D.dat (Ty.int IntKind.i64) b.snd)] (compsOf [(false, Ty.bool)] r_2) ∧ r = (sidesV q a b).fst ∧ r_1 = (sidesV q a b).snd.fst ∧ r_2 = (sidesV q a
      b).snd.snd)))) (0 = (sidesV q a b).fst ∧ 0 = (sidesV q a b).snd.fst ∧ false = (sidesV q a b).snd.snd)) (0 = (sidesV q a b).fst ∧ 0 = (sidesV q a b).snd.fst ∧ false = (sidesV q a b).snd.snd))) (inR
      IntKind.i8 b.fst → inR IntKind.i8 a.fst → split (decide (b.fst = a.fst)) (inR IntKind.i8 a.snd → (-9223372036854775808 ≤ a.snd ∧ a.snd ≤ 9223372036854775807) ∧ (-9223372036854775808 ≤ b.snd + 1 ∧
      b.snd + 1 ≤ 9223372036854775807) ∧ split (decide (a.snd = b.snd + 1)) ((-9223372036854775808 ≤ b.fst - 1 ∧ b.fst - 1 ≤ 9223372036854775807) ∧ (inR IntKind.i8 q.fst → inR IntKind.i8 q.snd.fst →
      (q.snd.snd.length ≤ 9223372036854775807 ∧ ∀ (x : Int × Int × Int × Int), List.Mem x q.snd.snd → inR IntKind.i8 x.fst ∧ inR IntKind.i8 x.snd.fst ∧ inR IntKind.i8 x.snd.snd.fst ∧ inR IntKind.i8
      x.snd.snd.snd) → ∃ (r : Int), Ev Try.prog 135 [Arg.imm (D.dat (sqT 41) q), Arg.imm (D.dat (Ty.int IntKind.i64) b.fst), Arg.imm (D.dat (Ty.int IntKind.i64) b.snd)] (compsOf [(false, Ty.int
      IntKind.i64)] r) ∧ (inR IntKind.i64 r → inR IntKind.i8 q.fst → inR IntKind.i8 q.snd.fst → (q.snd.snd.length ≤ 9223372036854775807 ∧ ∀ (x : Int × Int × Int × Int), List.Mem x q.snd.snd → inR
      IntKind.i8 x.fst ∧ inR IntKind.i8 x.snd.fst ∧ inR IntKind.i8 x.snd.snd.fst ∧ inR IntKind.i8 x.snd.snd.snd) → ∃ (r_1 : Int), Ev Try.prog 135 [Arg.imm (D.dat (sqT 41) q), Arg.imm (D.dat (Ty.int
      IntKind.i64) (b.fst - 1)), Arg.imm (D.dat (Ty.int IntKind.i64) b.snd)] (compsOf [(false, Ty.int IntKind.i64)] r_1) ∧ (inR IntKind.i64 r_1 → inR IntKind.i8 q.fst → inR IntKind.i8 q.snd.fst →
      (q.snd.snd.length ≤ 9223372036854775807 ∧ ∀ (x : Int × Int × Int × Int), List.Mem x q.snd.snd → inR IntKind.i8 x.fst ∧ inR IntKind.i8 x.snd.fst ∧ inR IntKind.i8 x.snd.snd.fst ∧ inR IntKind.i8
      x.snd.snd.snd) → ∃ (r_2 : Bool), Ev Try.prog 155 [Arg.imm (D.dat (sqT 41) q), Arg.imm (D.dat (Ty.int IntKind.i64) b.fst), Arg.imm (D.dat (Ty.int IntKind.i64) b.snd), Arg.imm (D.dat (Ty.int
      IntKind.i64) (b.fst - 1)), Arg.imm (D.dat (Ty.int IntKind.i64) b.snd)] (compsOf [(false, Ty.bool)] r_2) ∧ r = (sidesV q a b).fst ∧ r_1 = (sidesV q a b).snd.fst ∧ r_2 = (sidesV q a b).snd.snd)))) (0 =
      (sidesV q a b).fst ∧ 0 = (sidesV q a b).snd.fst ∧ false = (sidesV q a b).snd.snd)) (0 = (sidesV q a b).fst ∧ 0 = (sidesV q a b).snd.fst ∧ false = (sidesV q a b).snd.snd))))) (inR IntKind.i8 a.fst →
      (-9223372036854775808 ≤ a.fst ∧ a.fst ≤ 9223372036854775807) ∧ (inR IntKind.i8 a.snd → (-9223372036854775808 ≤ a.snd ∧ a.snd ≤ 9223372036854775807) ∧ (inR IntKind.i8 a.snd → inR IntKind.i8 b.snd →
      split (decide (a.snd = b.snd)) (inR IntKind.i8 b.fst → (-9223372036854775808 ≤ b.fst ∧ b.fst ≤ 9223372036854775807) ∧ (-9223372036854775808 ≤ a.fst + 1 ∧ a.fst + 1 ≤ 9223372036854775807) ∧ split
      (decide (b.fst = a.fst + 1)) ((-9223372036854775808 ≤ a.snd - 1 ∧ a.snd - 1 ≤ 9223372036854775807) ∧ (inR IntKind.i8 q.fst → inR IntKind.i8 q.snd.fst → (q.snd.snd.length ≤ 9223372036854775807 ∧ ∀ (x
      : Int × Int × Int × Int), List.Mem x q.snd.snd → inR IntKind.i8 x.fst ∧ inR IntKind.i8 x.snd.fst ∧ inR IntKind.i8 x.snd.snd.fst ∧ inR IntKind.i8 x.snd.snd.snd) → ∃ (r : Int), Ev Try.prog 135 [Arg.imm
      (D.dat (sqT 41) q), Arg.imm (D.dat (Ty.int IntKind.i64) a.fst), Arg.imm (D.dat (Ty.int IntKind.i64) a.snd)] (compsOf [(false, Ty.int IntKind.i64)] r) ∧ (inR IntKind.i64 r → inR IntKind.i8 q.fst → inR
      IntKind.i8 q.snd.fst → (q.snd.snd.length ≤ 9223372036854775807 ∧ ∀ (x : Int × Int × Int × Int), List.Mem x q.snd.snd → inR IntKind.i8 x.fst ∧ inR IntKind.i8 x.snd.fst ∧ inR IntKind.i8 x.snd.snd.fst ∧
      inR IntKind.i8 x.snd.snd.snd) → ∃ (r_1 : Int), Ev Try.prog 135 [Arg.imm (D.dat (sqT 41) q), Arg.imm (D.dat (Ty.int IntKind.i64) a.fst), Arg.imm (D.dat (Ty.int IntKind.i64) (a.snd - 1))] (compsOf
      [(false, Ty.int IntKind.i64)] r_1) ∧ (inR IntKind.i64 r_1 → inR IntKind.i8 q.fst → inR IntKind.i8 q.snd.fst → (q.snd.snd.length ≤ 9223372036854775807 ∧ ∀ (x : Int × Int × Int × Int), List.Mem x
      q.snd.snd → inR IntKind.i8 x.fst ∧ inR IntKind.i8 x.snd.fst ∧ inR IntKind.i8 x.snd.snd.fst ∧ inR IntKind.i8 x.snd.snd.snd) → ∃ (r_2 : Bool), Ev Try.prog 155 [Arg.imm (D.dat (sqT 41) q), Arg.imm
      (D.dat (Ty.int IntKind.i64) a.fst), Arg.imm (D.dat (Ty.int IntKind.i64) a.snd), Arg.imm (D.dat (Ty.int IntKind.i64) a.fst), Arg.imm (D.dat (Ty.int IntKind.i64) (a.snd - 1))] (compsOf [(false,
      Ty.bool)] r_2) ∧ r = (sidesV q a b).fst ∧ r_1 = (sidesV q a b).snd.fst ∧ r_2 = (sidesV q a b).snd.snd)))) (inR IntKind.i8 a.fst → inR IntKind.i8 b.fst → split (decide (a.fst = b.fst)) (inR IntKind.i8
      b.snd → (-9223372036854775808 ≤ b.snd ∧ b.snd ≤ 9223372036854775807) ∧ (-9223372036854775808 ≤ a.snd + 1 ∧ a.snd + 1 ≤ 9223372036854775807) ∧ split (decide (b.snd = a.snd + 1)) ((-9223372036854775808
      ≤ a.fst - 1 ∧ a.fst - 1 ≤ 9223372036854775807) ∧ (inR IntKind.i8 q.fst → inR IntKind.i8 q.snd.fst → (q.snd.snd.length ≤ 9223372036854775807 ∧ ∀ (x : Int × Int × Int × Int), List.Mem x q.snd.snd → inR
      IntKind.i8 x.fst ∧ inR IntKind.i8 x.snd.fst ∧ inR IntKind.i8 x.snd.snd.fst ∧ inR IntKind.i8 x.snd.snd.snd) → ∃ (r : Int), Ev Try.prog 135 [Arg.imm (D.dat (sqT 41) q), Arg.imm (D.dat (Ty.int
      IntKind.i64) a.fst), Arg.imm (D.dat (Ty.int IntKind.i64) a.snd)] (compsOf [(false, Ty.int IntKind.i64)] r) ∧ (inR IntKind.i64 r → inR IntKind.i8 q.fst → inR IntKind.i8 q.snd.fst → (q.snd.snd.length ≤
      9223372036854775807 ∧ ∀ (x : Int × Int × Int × Int), List.Mem x q.snd.snd → inR IntKind.i8 x.fst ∧ inR IntKind.i8 x.snd.fst ∧ inR IntKind.i8 x.snd.snd.fst ∧ inR IntKind.i8 x.snd.snd.snd) → ∃ (r_1 :
      Int), Ev Try.prog 135 [Arg.imm (D.dat (sqT 41) q), Arg.imm (D.dat (Ty.int IntKind.i64) (a.fst - 1)), Arg.imm (D.dat (Ty.int IntKind.i64) a.snd)] (compsOf [(false, Ty.int IntKind.i64)] r_1) ∧ (inR
      IntKind.i64 r_1 → inR IntKind.i8 q.fst → inR IntKind.i8 q.snd.fst → (q.snd.snd.length ≤ 9223372036854775807 ∧ ∀ (x : Int × Int × Int × Int), List.Mem x q.snd.snd → inR IntKind.i8 x.fst ∧ inR
      IntKind.i8 x.snd.fst ∧ inR IntKind.i8 x.snd.snd.fst ∧ inR IntKind.i8 x.snd.snd.snd) → ∃ (r_2 : Bool), Ev Try.prog 155 [Arg.imm (D.dat (sqT 41) q), Arg.imm (D.dat (Ty.int IntKind.i64) a.fst), Arg.imm
      (D.dat (Ty.int IntKind.i64) a.snd), Arg.imm (D.dat (Ty.int IntKind.i64) (a.fst - 1)), Arg.imm (D.dat (Ty.int IntKind.i64) a.snd)] (compsOf [(false, Ty.bool)] r_2) ∧ r = (sidesV q a b).fst ∧ r_1 =
      (sidesV q a b).snd.fst ∧ r_2 = (sidesV q a b).snd.snd)))) (0 = (sidesV q a b).fst ∧ 0 = (sidesV q a b).snd.fst ∧ false = (sidesV q a b).snd.snd)) (0 = (sidesV q a b).fst ∧ 0 = (sidesV q a b).snd.fst
      ∧ false = (sidesV q a b).snd.snd))) (inR IntKind.i8 a.fst → inR IntKind.i8 b.fst → split (decide (a.fst = b.fst)) (inR IntKind.i8 b.snd → (-9223372036854775808 ≤ b.snd ∧ b.snd ≤ 9223372036854775807)
      ∧ (-9223372036854775808 ≤ a.snd + 1 ∧ a.snd + 1 ≤ 9223372036854775807) ∧ split (decide (b.snd = a.snd + 1)) ((-9223372036854775808 ≤ a.fst - 1 ∧ a.fst - 1 ≤ 9223372036854775807) ∧ (inR IntKind.i8
      q.fst → inR IntKind.i8 q.snd.fst → (q.snd.snd.length ≤ 9223372036854775807 ∧ ∀ (x : Int × Int × Int × Int), List.Mem x q.snd.snd → inR IntKind.i8 x.fst ∧ inR IntKind.i8 x.snd.fst ∧ inR IntKind.i8
      x.snd.snd.fst ∧ inR IntKind.i8 x.snd.snd.snd) → ∃ (r : Int), Ev Try.prog 135 [Arg.imm (D.dat (sqT 41) q), Arg.imm (D.dat (Ty.int IntKind.i64) a.fst), Arg.imm (D.dat (Ty.int IntKind.i64) a.snd)]
      (compsOf [(false, Ty.int IntKind.i64)] r) ∧ (inR IntKind.i64 r → inR IntKind.i8 q.fst → inR IntKind.i8 q.snd.fst → (q.snd.snd.length ≤ 9223372036854775807 ∧ ∀ (x : Int × Int × Int × Int), List.Mem x
      q.snd.snd → inR IntKind.i8 x.fst ∧ inR IntKind.i8 x.snd.fst ∧ inR IntKind.i8 x.snd.snd.fst ∧ inR IntKind.i8 x.snd.snd.snd) → ∃ (r_1 : Int), Ev Try.prog 135 [Arg.imm (D.dat (sqT 41) q), Arg.imm (D.dat
      (Ty.int IntKind.i64) (a.fst - 1)), Arg.imm (D.dat (Ty.int IntKind.i64) a.snd)] (compsOf [(false, Ty.int IntKind.i64)] r_1) ∧ (inR IntKind.i64 r_1 → inR IntKind.i8 q.fst → inR IntKind.i8 q.snd.fst →
      (q.snd.snd.length ≤ 9223372036854775807 ∧ ∀ (x : Int × Int × Int × Int), List.Mem x q.snd.snd → inR IntKind.i8 x.fst ∧ inR IntKind.i8 x.snd.fst ∧ inR IntKind.i8 x.snd.snd.fst ∧ inR IntKind.i8
      x.snd.snd.snd) → ∃ (r_2 : Bool), Ev Try.prog 155 [Arg.imm (D.dat (sqT 41) q), Arg.imm (D.dat (Ty.int IntKind.i64) a.fst), Arg.imm (D.dat (Ty.int IntKind.i64) a.snd), Arg.imm (D.dat (Ty.int
      IntKind.i64) (a.fst - 1)), Arg.imm (D.dat (Ty.int IntKind.i64) a.snd)] (compsOf [(false, Ty.bool)] r_2) ∧ r = (sidesV q a b).fst ∧ r_1 = (sidesV q a b).snd.fst ∧ r_2 = (sidesV q a b).snd.snd)))) (0 =
      (sidesV q a b).fst ∧ 0 = (sidesV q a b).snd.fst ∧ false = (sidesV q a b).snd.snd)) (0 = (sidesV q a b).fst ∧ 0 = (sidesV q a b).snd.fst ∧ false = (sidesV q a b).snd.snd))))))) := by
    intros
    refine ⟨_, compareCells_ev a b, fun _ => split_of (fun h => ?_) (fun h => ?_)⟩
    · rw [show sidesV q a b = sideV q b a from if_pos (of_decide_eq_true h)]
      clear h
      repeat' (first
        | (intro hh; try simp only [inR, loK, hiK] at hh)
        | exact trivial
        | (refine ⟨_, at_ev _ _ _, ?_⟩)
        | (refine ⟨_, joint_ev _ _ _ _ _, ?_⟩)
        | (refine And.intro ?_ ?_)
        | (refine split_of (fun hh => ?_) (fun hh => ?_) <;> (try (first | replace hh := not_t hh | replace hh := not_f hh)) <;> (try (first | replace hh := of_decide_eq_true hh | replace hh := of_decide_eq_false hh))))
      all_goals (first | omega | (rw [sideV, if_pos ⟨by omega, by omega⟩] <;> rfl) | (rw [sideV, if_neg (by omega), if_pos ⟨by omega, by omega⟩] <;> rfl) | (rw [sideV, if_neg (by omega), if_neg (by omega)] <;> rfl))
    · rw [show sidesV q a b = sideV q a b from if_neg (of_decide_eq_false h)]
      clear h
      repeat' (first
        | (intro hh; try simp only [inR, loK, hiK] at hh)
        | exact trivial
        | (refine ⟨_, at_ev _ _ _, ?_⟩)
        | (refine ⟨_, joint_ev _ _ _ _ _, ?_⟩)
        | (refine And.intro ?_ ?_)
        | (refine split_of (fun hh => ?_) (fun hh => ?_) <;> (try (first | replace hh := not_t hh | replace hh := not_f hh)) <;> (try (first | replace hh := of_decide_eq_true hh | replace hh := of_decide_eq_false hh))))
      all_goals (first | omega | (rw [sideV, if_pos ⟨by omega, by omega⟩] <;> rfl) | (rw [sideV, if_neg (by omega), if_pos ⟨by omega, by omega⟩] <;> rfl) | (rw [sideV, if_neg (by omega), if_neg (by omega)] <;> rfl))
  refine @Eq.mpr _ _ (?_) key
  kernel_rfl
theorem isJoint_ev (q : Sq) (a b : Int × Int) : Ev Try.prog 71 [aQ q, aC a, aC b] (compsOf [rB] ((sidesV q a b).2.2)) := by
  refine ev_of (l := [rB]) (r := ((sidesV q a b).2.2)) (types (resT) [] (fun _ _ => none)) follows Try.func71 (by kernel_rfl) (by rw [Try.ntmps71]; exact Nat.le_of_ble_eq_true rfl) ?_
  have key : (inR IntKind.i8 q.fst → inR IntKind.i8 q.snd.fst → (q.snd.snd.length ≤ 9223372036854775807 ∧ ∀ (x : Int × Int × Int × Int), List.Mem x q.snd.snd → inR IntKind.i8 x.fst ∧ inR IntKind.i8 x.snd.fst ∧ inR
      IntKind.i8 x.snd.snd.fst ∧ inR IntKind.i8 x.snd.snd.snd) → inR IntKind.i8 a.fst → inR IntKind.i8 a.snd → inR IntKind.i8 b.fst → inR IntKind.i8 b.snd → inR IntKind.i8 q.fst → inR IntKind.i8 q.snd.fst
      → (q.snd.snd.length ≤ 9223372036854775807 ∧ ∀ (x : Int × Int × Int × Int), List.Mem x q.snd.snd → inR IntKind.i8 x.fst ∧ inR IntKind.i8 x.snd.fst ∧ inR IntKind.i8 x.snd.snd.fst ∧ inR IntKind.i8
      x.snd.snd.snd) → inR IntKind.i8 a.fst → inR IntKind.i8 a.snd → inR IntKind.i8 b.fst → inR IntKind.i8 b.snd → ∃ (r : Int × Int × Bool), Ev Try.prog 125 [Arg.imm (D.dat (sqT 41) q), Arg.imm (D.dat
      cellT a), Arg.imm (D.dat cellT b)] (compsOf [(false, Ty.int IntKind.i64), (false, Ty.int IntKind.i64), (false, Ty.bool)] r) ∧ (inR IntKind.i64 r.fst → inR IntKind.i64 r.snd.fst → r.snd.snd = (sidesV
      q a b).snd.snd)) := by
    intros
    refine ⟨_, sidesOf_ev q a b, ?_⟩
    intros
    rfl
  refine @Eq.mpr _ _ (?_) key
  kernel_rfl
noncomputable def isJointV (q : Sq) (a b : Int × Int) : Bool × Int := if cornerI q [a, b] = 0 then ((sidesV q a b).2.2, 0) else (false, cornerI q [a, b])
theorem implIsJoint_ev (q : Sq) (a b : Int × Int) : Ev Try.prog 31 [aQ q, aC a, aC b] (compsOf [rB, rI] (isJointV q a b)) := by
  refine ev_of (l := [rB, rI]) (r := (isJointV q a b)) (types (resT) [] (fun _ _ => none)) follows Try.func31 (by kernel_rfl) (by rw [Try.ntmps31]; exact Nat.le_of_ble_eq_true rfl) ?_
  have key : (inR IntKind.i8 q.fst → inR IntKind.i8 q.snd.fst → (q.snd.snd.length ≤ 9223372036854775807 ∧ ∀ (x : Int × Int × Int × Int), List.Mem x q.snd.snd → inR IntKind.i8 x.fst ∧ inR IntKind.i8 x.snd.fst ∧ inR
      IntKind.i8 x.snd.snd.fst ∧ inR IntKind.i8 x.snd.snd.snd) → inR IntKind.i8 a.fst → inR IntKind.i8 a.snd → inR IntKind.i8 b.fst → inR IntKind.i8 b.snd → inR IntKind.i8 q.fst → inR IntKind.i8 q.snd.fst
      → (q.snd.snd.length ≤ 9223372036854775807 ∧ ∀ (x : Int × Int × Int × Int), List.Mem x q.snd.snd → inR IntKind.i8 x.fst ∧ inR IntKind.i8 x.snd.fst ∧ inR IntKind.i8 x.snd.snd.fst ∧ inR IntKind.i8
      x.snd.snd.snd) → inR IntKind.i8 a.fst → inR IntKind.i8 a.snd → inR IntKind.i8 b.fst → inR IntKind.i8 b.snd → ∃ (r : Int), Ev Try.prog 70 [Arg.imm (D.dat (sqT 41) q), Arg.imm (D.dat (Ty.slice 52
      cellT) [a, b])] (compsOf [(false, Ty.int IntKind.i64)] r) ∧ (inR IntKind.i64 r → split (!decide (r = 0)) (false = (isJointV q a b).fst ∧ r = (isJointV q a b).snd) (inR IntKind.i8 q.fst → inR
      IntKind.i8 q.snd.fst → (q.snd.snd.length ≤ 9223372036854775807 ∧ ∀ (x : Int × Int × Int × Int), List.Mem x q.snd.snd → inR IntKind.i8 x.fst ∧ inR IntKind.i8 x.snd.fst ∧ inR IntKind.i8 x.snd.snd.fst ∧
      inR IntKind.i8 x.snd.snd.snd) → inR IntKind.i8 a.fst → inR IntKind.i8 a.snd → inR IntKind.i8 b.fst → inR IntKind.i8 b.snd → ∃ (r : Bool), Ev Try.prog 71 [Arg.imm (D.dat (sqT 41) q), Arg.imm (D.dat
      cellT a), Arg.imm (D.dat cellT b)] (compsOf [(false, Ty.bool)] r) ∧ r = (isJointV q a b).fst ∧ 0 = (isJointV q a b).snd))) := by
    intros
    refine ⟨_, cornerCode_ev q [a, b], fun _ => split_of (fun h => ?_) (fun h => ?_)⟩
    · have h := of_decide_eq_false (not_t h)
      simp [isJointV, h]
    · have h := of_decide_eq_true (not_f h)
      intros
      refine ⟨_, isJoint_ev q a b, ?_⟩
      simp [isJointV, h]
  refine @Eq.mpr _ _ (?_) key
  kernel_rfl
end Go.Proofs.Ytmjijggkdbiijaa
