/- Orders of laying: the closure that counts. No statement is proved here. -/
import Derived.Test.YtmjijggkdbiijaaWa
import Derived.Test.YtmjijggkdbiijaaWb
namespace Go.Proofs.Ytmjijggkdbiijaa
open Go.RowKit
set_option linter.unusedVariables false
set_option linter.unusedSimpArgs false
set_option maxRecDepth 100000
set_option maxHeartbeats 4000000
/-- The square with the slabs whose bits are set. -/
def sqM (q : Sq) (list : List Sl) (m : Nat) : Sq := withV q (q.2.2 ++ (bitsL list.length m).map (sAt list))
def mayB (q : Sq) (list : List Sl) (m i : Nat) : Bool := canLayB (sqM q list m) (sAt list i)
def nWays (q : Sq) (list : List Sl) (m : Nat) : Int := oWays list.length (mayB q list) m
def nWay (q : Sq) (list : List Sl) (m i : Nat) : Int := oWayT list.length (mayB q list) m i
theorem sqM_0 {q : Sq} (k : OkQ q) (list : List Sl) : sqM q list 0 = q := by
  have : bitsL list.length 0 = [] := by simp [bitsL]
  unfold sqM; rw [this, List.map_nil, List.append_nil, with_self k]
theorem sqM_len (q : Sq) (list : List Sl) (m : Nat) : (sqM q list m).2.2.length = q.2.2.length + (bitsL list.length m).length := by
  unfold sqM withV; simp [sortSl_len]
theorem sqM_put {q : Sq} {list : List Sl} {m i : Nat} (k : OkQ (sqM q list m)) (h : canPutB (sqM q list m) (sAt list i) = true) (hi : i < list.length) (hb : m.testBit i = false) : putV (sqM q list m) (sAt list i) = sqM q list (m ||| 2 ^ i) := by
  have hp : (q.2.2 ++ (bitsL list.length (m ||| 2 ^ i)).map (sAt list)).Perm (insS (sAt list i) (sqM q list m).2.2) := by
    refine List.Perm.trans ?_ (insS_perm _ _).symm
    refine List.Perm.trans (((bits_or _ m i hi hb).map (sAt list)).append_left _) ?_
    refine List.Perm.trans List.perm_middle (List.Perm.cons _ ?_)
    exact (sortSl_perm _).symm
  have := sortSl_uniq (xs := q.2.2 ++ (bitsL list.length (m ||| 2 ^ i)).map (sAt list)) (ys := insS (sAt list i) (sqM q list m).2.2) (fun x hx => by
    rcases insS_mem.1 hx with rfl | hx
    · exact put_r8 k h
    · exact ok_r8 k hx) (insS_pair (ok_pairs k) (put_total k h)) hp
  show (_, _, _) = (_, _, _)
  rw [this]; rfl
theorem sqM_room {q : Sq} {list : List Sl} {m i : Nat} (h : q.2.2.length + list.length ≤ 60) (hi : i < list.length) (hb : m.testBit i = false) : (sqM q list m).2.2.length < 60 := by
  have h1 := (bits_or _ m i hi hb).length_eq
  have h2 := bits_le list.length (m ||| 2 ^ i)
  simp only [List.length_cons] at h1
  rw [sqM_len]; omega
theorem sqM_ok {q : Sq} {list : List Sl} {m i : Nat} (k : OkQ (sqM q list m)) (h60 : q.2.2.length + list.length ≤ 60) (h : canLayB (sqM q list m) (sAt list i) = true) (hi : i < list.length) (hb : m.testBit i = false) :
    withV (sqM q list m) ((sqM q list m).2.2 ++ [sAt list i]) = sqM q list (m ||| 2 ^ i) ∧ OkQ (sqM q list (m ||| 2 ^ i)) := by
  have h1 := sqM_put k (canLay_put h) hi hb
  refine ⟨by rw [with_put k (canLay_put h), h1], ?_⟩
  rw [← h1]; exact put_ok k (canLay_put h) (sqM_room h60 hi hb)
abbrev dL (list : List Sl) : D := .ref (.dat (.slice 41 slabT) list)
abbrev wF (q : Sq) (list : List Sl) (y : Int) : Int := nWays q list y.toNat
noncomputable abbrev loInv (q : Sq) (list : List Sl) (m : Nat) (pl : Value) (gk gm gf : Nat) (xs : KV) (n : Nat) (σ : List Slot) : Option LoopInv := match n with
  | 8 => some ⟨3 :: hvAt Try.f137 8, Nat, fun i => [(3, .sem (mapF (wF q list) gk gm)), (10, .val (.dat iT (sumB (nWay q list m) i))), (29, .val (.dat iT (i : Int)))], fun i => i ≤ list.length, fun i => list.length - i⟩
  | 70000007 => match σ.getD 18 .dead, σ.getD 20 .dead with
    | .val _, .dead => some ⟨[3, 7], Unit, fun _ => [(3, .sem (mapF (wF q list) gk gm)), (7, .val (.dat iT 1))], fun _ => True, fun _ => 0⟩
    | _, _ => none
  | 70000020 => some ⟨[3, 20], Unit, fun _ => [(20, .sem (isV (.map (some gm))))], fun _ => True, fun _ => 0⟩
  | 70000022 => some ⟨[3, 20, 21, 22], Unit, fun _ => [(3, .sem (mapF (wF q list) gk gm)), (22, .tup [.val (.dat iT ((mget (.int .i64) (.int .i64) (some xs) (m : Int)).getD 0)), .val (.dat .bool (mget (.int .i64) (.int .i64) (some xs) (m : Int)).isSome)])], fun _ => True, fun _ => 0⟩
  | 70000045 => some ⟨[3, 4, 45], Unit, fun _ => [(3, .sem (isV (.pointer (some ⟨gk, 0, none⟩)))), (45, .sem (memoAt 137 (dL list) (wF q list) pl gk gm gf))], fun _ => True, fun _ => 0⟩
  | 70000054 => some ⟨[3, 45, 44, 53, 54], Int × Int, fun p => [(45, .sem (isV (cloM 137 pl gk gf))), (3, .sem (mapF (wF q list) gk gm)), (54, .val (.dat iT (p.1 + p.2)))], fun _ => True, fun _ => 0⟩
  | 70000056 => some ⟨[3, 56], Unit, fun _ => [(56, .sem (isV (.map (some gm))))], fun _ => True, fun _ => 0⟩
  | 70999999 => match σ.getD 56 .dead with
    | .sem _ => some ⟨[3, 56, 57, 58], Unit, fun _ => [(3, .sem (mapF (wF q list) gk gm))], fun _ => True, fun _ => 0⟩
    | _ => none
  | _ => none
theorem sh_nat (x : Nat) : (1 : Int) * 2 ^ ((x : Int).toNat) = ((2 ^ x : Nat) : Int) := by rw [Int.one_mul, Int.toNat_natCast]; simp [Int.natCast_pow]
theorem or_nat (m x : Nat) : (((m : Int).toNat ||| ((1 : Int) * 2 ^ ((x : Int).toNat)).toNat : Nat) : Int) = ((m ||| 2 ^ x : Nat) : Int) := by rw [sh_nat, Int.toNat_natCast, Int.toNat_natCast]
theorem div_nat (m x : Nat) : ((m : Int) / 2 ^ ((x : Int).toNat)) = ((m / 2 ^ x : Nat) : Int) := by rw [Int.toNat_natCast, Int.natCast_ediv, Int.natCast_pow]; rfl
theorem bit_nat (m x : Nat) : decide (((((m : Int) / 2 ^ ((x : Int).toNat)).toNat &&& Int.toNat 1 : Nat) : Int) = 0) = !(m.testBit x) := by
  rw [div_nat, Int.toNat_natCast, show Int.toNat 1 = 1 from rfl, Nat.and_one_is_mod, Nat.testBit_eq_decide_div_mod_eq]
  have := Nat.mod_lt (m / 2 ^ x) (show 0 < 2 by omega)
  by_cases h : m / 2 ^ x % 2 = 1
  · rw [h]; simp
  · have h0 : m / 2 ^ x % 2 = 0 := by omega
    rw [h0]; simp
theorem div_in (m x : Nat) (h : m < 1024) : (-9223372036854775808 : Int) ≤ (m : Int) / 2 ^ ((x : Int).toNat) ∧ (m : Int) / 2 ^ ((x : Int).toNat) ≤ 9223372036854775807 := by
  rw [div_nat]
  have := Nat.div_le_self m (2 ^ x)
  generalize m / 2 ^ x = z at *
  omega
theorem div_0 (m x : Nat) : 0 ≤ (m : Int) / 2 ^ ((x : Int).toNat) := by rw [div_nat]; exact Int.natCast_nonneg _
theorem and_in (m x : Nat) (h : m < 1024) : (-9223372036854775808 : Int) ≤ ((((m : Int) / 2 ^ ((x : Int).toNat)).toNat &&& Int.toNat 1 : Nat) : Int) ∧ ((((m : Int) / 2 ^ ((x : Int).toNat)).toNat &&& Int.toNat 1 : Nat) : Int) ≤ 9223372036854775807 := by
  rw [show Int.toNat 1 = 1 from rfl, Nat.and_one_is_mod]
  generalize ((m : Int) / 2 ^ ((x : Int).toNat)).toNat = z
  omega
theorem get_right {F : Int → Int} {xs : KV} {y : Int} (h : ∀ p ∈ xs, p.2 = F p.1) (hs : (mget (.int .i64) (.int .i64) (some xs) y).isSome = true) : (mget (.int .i64) (.int .i64) (some xs) y).getD 0 = F y := by
  unfold mget at hs ⊢
  cases hf : (((some xs).getD []).find? fun p => keyEq (.int .i64) p.1 y) with
  | none => rw [hf] at hs; cases hs
  | some p =>
    have h1 := h p (List.mem_of_find?_eq_some hf)
    have h2 := List.find?_some hf
    rw [keyEq_iff rfl] at h2
    subst h2
    exact h1
abbrev resC (n : Nat) : Option (List (Bool × Ty)) := if n = 60000000 then some [rI] else resT n
theorem lo1_ev (q : Sq) (list : List Sl) (m : Nat) (pl : Value) (gk gm gf : Nat) (xs : KV) (k : OkQ (sqM q list m)) (hn : list.length ≤ 10) (h60 : q.2.2.length + list.length ≤ 60) (hm : m < 2 ^ list.length) (hx : ∀ p ∈ xs, p.2 = wF q list p.1) (ih : ∀ m', m < m' → m' < 2 ^ list.length → OkQ (sqM q list m') → EvS Try.prog none (memoAt 137 (dL list) (wF q list) pl gk gm gf) [aQ (sqM q list m'), aI (m' : Int)] (compsOf [rI] (nWays q list m')) (memoAt 137 (dL list) (wF q list) pl gk gm gf)) : EvC Try.prog 137 [aQ (sqM q list m), aI (m : Int), .imm (dL list), .sem (mapT gk gm xs), .sem (selfT 137 (dL list) pl gk gf)] (compsOf [rI] (nWays q list m)) (3) (mapF (wF q list) gk gm) [(4, selfT 137 (dL list) pl gk gf)] := by
  refine evC_of (args := [aQ (sqM q list m), aI (m : Int), .imm (dL list), .sem (mapT gk gm xs), .sem (selfT 137 (dL list) pl gk gf)]) (l := [rI]) (r := (nWays q list m)) (types (resC) [60000000, 70000007, 70000020, 70000022, 70000045, 70000054, 70000056, 70999999] (loInv q list m pl gk gm gf xs)) follows Try.func137 (by kernel_rfl) (by rw [Try.ntmps137]; exact Nat.le_of_ble_eq_true rfl) (Nat.le_of_ble_eq_true rfl)
    (fun p hp => by simp only [List.mem_cons, List.not_mem_nil, or_false] at hp; (first | (rcases hp with rfl | rfl | rfl) | (rcases hp with rfl | rfl) | subst hp) <;> exact Nat.le_of_ble_eq_true rfl) ?_
  have key : (inR IntKind.i8 (sqM q list m).fst → inR IntKind.i8 (sqM q list m).snd.fst → ((sqM q list m).snd.snd.length ≤ 9223372036854775807 ∧ ∀ (x : Int × Int × Int × Int), List.Mem x (sqM q list
      m).snd.snd → inR IntKind.i8 x.fst ∧ inR IntKind.i8 x.snd.fst ∧ inR IntKind.i8 x.snd.snd.fst ∧ inR IntKind.i8 x.snd.snd.snd) → inR IntKind.i64 ((m : Nat) : Int) → (list.length ≤
      9223372036854775807 ∧ ∀ (x : Int × Int × Int × Int), List.Mem x list → inR IntKind.i8 x.fst ∧ inR IntKind.i8 x.snd.fst ∧ inR IntKind.i8 x.snd.snd.fst ∧ inR IntKind.i8 x.snd.snd.snd) →
      ((list.length : Nat) : Int) ≤ 9223372036854775807 → (0 ≤ ((list.length : Nat) : Int) ∧ ((list.length : Nat) : Int) ≤ 64) ∧ (-9223372036854775808 ≤ (1 : Int) * 2 ^ (((list.length : Nat) :
      Int)).toNat ∧ (1 : Int) * 2 ^ (((list.length : Nat) : Int)).toNat ≤ 9223372036854775807) ∧ (-9223372036854775808 ≤ (1 : Int) * 2 ^ (((list.length : Nat) : Int)).toNat - 1 ∧ (1 : Int) * 2 ^
      (((list.length : Nat) : Int)).toNat - 1 ≤ 9223372036854775807) ∧ split (decide (((m : Nat) : Int) = (1 : Int) * 2 ^ (((list.length : Nat) : Int)).toNat - 1)) (∃ (x : Unit), True ∧ Cust
      Try.prog [60000000, 70000007, 70000020, 70000022, 70000045, 70000054, 70000056, 70999999] { dst := some 7, op := Op.assign (Operand.const (Value.int IntKind.i64 1)), type := 2, pos := "l05_lifting.go:258", after := #[], guard := none }
      [3, 7] [Slot.val (D.dat (sqT 41) (sqM q list m)), Slot.val (D.dat (Ty.int IntKind.i64) ((m : Nat) : Int)), Slot.val (D.dat (Ty.slice 41 slabT) list).ref, Slot.sem (mapT gk gm xs), Slot.sem
      (selfT 137 (D.dat (Ty.slice 41 ((Ty.int IntKind.i8).prod ((Ty.int IntKind.i8).prod ((Ty.int IntKind.i8).prod (Ty.int IntKind.i8))))) list).ref pl gk gf), Slot.box (D.dat (sqT 41) (sqM q list
      m)), Slot.dead, Slot.val (D.dat (Ty.int IntKind.i64) 0), Slot.dead, Slot.dead, Slot.dead, Slot.dead, Slot.dead, Slot.val (D.dat (Ty.int IntKind.i64) ((m : Nat) : Int)), Slot.val (D.dat
      (Ty.slice 41 slabT) list), Slot.val (D.dat (Ty.int IntKind.i64) ((list.length : Nat) : Int)), Slot.val (D.dat (Ty.int IntKind.i64) ((1 : Int) * 2 ^ (((list.length : Nat) : Int)).toNat)),
      Slot.val (D.dat (Ty.int IntKind.i64) ((1 : Int) * 2 ^ (((list.length : Nat) : Int)).toNat - 1)), Slot.val (D.dat Ty.bool true), Slot.dead, Slot.dead, Slot.dead, Slot.dead, Slot.dead,
      Slot.dead, Slot.dead, Slot.dead, Slot.dead, Slot.dead, Slot.dead, Slot.dead, Slot.dead, Slot.dead, Slot.dead, Slot.dead, Slot.dead, Slot.dead, Slot.dead, Slot.dead, Slot.dead, Slot.dead,
      Slot.dead, Slot.dead, Slot.dead, Slot.dead, Slot.dead, Slot.dead, Slot.dead, Slot.dead, Slot.dead, Slot.dead, Slot.dead, Slot.dead, Slot.dead, Slot.dead, Slot.dead, Slot.dead, Slot.dead,
      Slot.dead, Slot.dead] [(3, Slot.sem (mapF (fun (y : Int) => nWays q list y.toNat) gk gm)), (7, Slot.val (D.dat iT 1))] ∧ 1 = nWays q list m ∧ Slot.sem (mapF (fun (y : Int) => nWays q list
      y.toNat) gk gm) = Slot.sem (mapF (fun (y : Int) => nWays q list y.toNat) gk gm) ∧ Slot.sem (selfT 137 (D.dat (Ty.slice 41 ((Ty.int IntKind.i8).prod ((Ty.int IntKind.i8).prod ((Ty.int
      IntKind.i8).prod (Ty.int IntKind.i8))))) list).ref pl gk gf) = Slot.sem (selfT 137 (D.dat (Ty.slice 41 ((Ty.int IntKind.i8).prod ((Ty.int IntKind.i8).prod ((Ty.int IntKind.i8).prod (Ty.int
      IntKind.i8))))) list).ref pl gk gf) ∧ True) (∃ (x : Unit), True ∧ Cust Try.prog [20, 21, 19, 60000000, 70000007, 70000020, 70000022, 70000045, 70000054, 70000056, 70999999] { dst := some 20, op := Op.load 155 (Operand.tmp 3), type := 155, pos := "l05_lifting.go:260", after := #[], guard := none }
      [3, 20] [Slot.val (D.dat (sqT 41) (sqM q list m)), Slot.val (D.dat (Ty.int IntKind.i64) ((m : Nat) : Int)), Slot.val (D.dat (Ty.slice 41 slabT) list).ref, Slot.sem (mapT gk gm xs), Slot.sem
      (selfT 137 (D.dat (Ty.slice 41 ((Ty.int IntKind.i8).prod ((Ty.int IntKind.i8).prod ((Ty.int IntKind.i8).prod (Ty.int IntKind.i8))))) list).ref pl gk gf), Slot.box (D.dat (sqT 41) (sqM q list
      m)), Slot.dead, Slot.val (D.dat (Ty.int IntKind.i64) 0), Slot.dead, Slot.dead, Slot.dead, Slot.dead, Slot.dead, Slot.val (D.dat (Ty.int IntKind.i64) ((m : Nat) : Int)), Slot.val (D.dat
      (Ty.slice 41 slabT) list), Slot.val (D.dat (Ty.int IntKind.i64) ((list.length : Nat) : Int)), Slot.val (D.dat (Ty.int IntKind.i64) ((1 : Int) * 2 ^ (((list.length : Nat) : Int)).toNat)),
      Slot.val (D.dat (Ty.int IntKind.i64) ((1 : Int) * 2 ^ (((list.length : Nat) : Int)).toNat - 1)), Slot.val (D.dat Ty.bool false), Slot.dead, Slot.dead, Slot.dead, Slot.dead, Slot.dead,
      Slot.dead, Slot.dead, Slot.dead, Slot.dead, Slot.dead, Slot.dead, Slot.dead, Slot.dead, Slot.dead, Slot.dead, Slot.dead, Slot.dead, Slot.dead, Slot.dead, Slot.dead, Slot.dead, Slot.dead,
      Slot.dead, Slot.dead, Slot.dead, Slot.dead, Slot.dead, Slot.dead, Slot.dead, Slot.dead, Slot.dead, Slot.dead, Slot.dead, Slot.dead, Slot.dead, Slot.dead, Slot.dead, Slot.dead, Slot.dead,
      Slot.dead, Slot.dead] [(20, Slot.sem (isV (Value.map (some gm))))] ∧ ∃ (x : Unit), True ∧ Cust Try.prog [20, 21, 19, 60000000, 70000007, 70000020, 70000022, 70000045, 70000054, 70000056,
      70999999] { dst := some 22, op := Op.lookup 155 (Operand.tmp 20) (Operand.tmp 21) true, type := 156, pos := "l05_lifting.go:260", after := #[{ on := 0, ground := Ground.data }, { on := 1, ground := Ground.data }], guard := none }
      [3, 20, 21, 22] [Slot.val (D.dat (sqT 41) (sqM q list m)), Slot.val (D.dat (Ty.int IntKind.i64) ((m : Nat) : Int)), Slot.val (D.dat (Ty.slice 41 slabT) list).ref, Slot.sem (mapT gk gm xs),
      Slot.sem (selfT 137 (D.dat (Ty.slice 41 ((Ty.int IntKind.i8).prod ((Ty.int IntKind.i8).prod ((Ty.int IntKind.i8).prod (Ty.int IntKind.i8))))) list).ref pl gk gf), Slot.box (D.dat (sqT 41)
      (sqM q list m)), Slot.dead, Slot.val (D.dat (Ty.int IntKind.i64) 0), Slot.dead, Slot.dead, Slot.dead, Slot.dead, Slot.dead, Slot.val (D.dat (Ty.int IntKind.i64) ((m : Nat) : Int)), Slot.val
      (D.dat (Ty.slice 41 slabT) list), Slot.val (D.dat (Ty.int IntKind.i64) ((list.length : Nat) : Int)), Slot.val (D.dat (Ty.int IntKind.i64) ((1 : Int) * 2 ^ (((list.length : Nat) :
      Int)).toNat)), Slot.val (D.dat (Ty.int IntKind.i64) ((1 : Int) * 2 ^ (((list.length : Nat) : Int)).toNat - 1)), Slot.val (D.dat Ty.bool false), Slot.dead, Slot.sem (isV (Value.map (some
      gm))), Slot.val (D.dat (Ty.int IntKind.i64) ((m : Nat) : Int)), Slot.dead, Slot.dead, Slot.dead, Slot.dead, Slot.dead, Slot.dead, Slot.dead, Slot.dead, Slot.dead, Slot.dead, Slot.dead,
      Slot.dead, Slot.dead, Slot.dead, Slot.dead, Slot.dead, Slot.dead, Slot.dead, Slot.dead, Slot.dead, Slot.dead, Slot.dead, Slot.dead, Slot.dead, Slot.dead, Slot.dead, Slot.dead, Slot.dead,
      Slot.dead, Slot.dead, Slot.dead, Slot.dead, Slot.dead, Slot.dead, Slot.dead, Slot.dead, Slot.dead, Slot.dead] [(3, Slot.sem (mapF (fun (y : Int) => nWays q list y.toNat) gk gm)), (22,
      Slot.tup [Comp.val (D.dat iT ((mget (Ty.int IntKind.i64) (Ty.int IntKind.i64) (some xs) ((m : Nat) : Int)).getD 0)), Comp.val (D.dat Ty.bool (mget (Ty.int IntKind.i64) (Ty.int IntKind.i64)
      (some xs) ((m : Nat) : Int)).isSome)])] ∧ split (mget (Ty.int IntKind.i64) (Ty.int IntKind.i64) (some xs) ((m : Nat) : Int)).isSome ((mget (Ty.int IntKind.i64) (Ty.int IntKind.i64) (some xs)
      ((m : Nat) : Int)).getD 0 = nWays q list m ∧ Slot.sem (mapF (fun (y : Int) => nWays q list y.toNat) gk gm) = Slot.sem (mapF (fun (y : Int) => nWays q list y.toNat) gk gm) ∧ Slot.sem (selfT
      137 (D.dat (Ty.slice 41 ((Ty.int IntKind.i8).prod ((Ty.int IntKind.i8).prod ((Ty.int IntKind.i8).prod (Ty.int IntKind.i8))))) list).ref pl gk gf) = Slot.sem (selfT 137 (D.dat (Ty.slice 41
      ((Ty.int IntKind.i8).prod ((Ty.int IntKind.i8).prod ((Ty.int IntKind.i8).prod (Ty.int IntKind.i8))))) list).ref pl gk gf) ∧ True) ((list.length ≤ 9223372036854775807 ∧ ∀ (x : Int × Int × Int
      × Int), List.Mem x list → inR IntKind.i8 x.fst ∧ inR IntKind.i8 x.snd.fst ∧ inR IntKind.i8 x.snd.snd.fst ∧ inR IntKind.i8 x.snd.snd.snd) → ((list.length : Nat) : Int) ≤ 9223372036854775807 →
      (∃ (x0 : Nat), (Slot.sem (mapF (fun (y : Int) => nWays q list y.toNat) gk gm) = Slot.sem (mapF (fun (y : Int) => nWays q list y.toNat) gk gm) ∧ Slot.val (D.dat (Ty.int IntKind.i64) 0) =
      Slot.val (D.dat iT (sumB (nWay q list m) x0)) ∧ Slot.val (D.dat (Ty.int IntKind.i64) 0) = Slot.val (D.dat iT ((x0 : Nat) : Int))) ∧ x0 ≤ list.length) ∧ ∀ (x : Nat), x ≤ list.length → inR
      IntKind.i64 (sumB (nWay q list m) x) → inR IntKind.i64 ((x : Nat) : Int) → split (decide (((x : Nat) : Int) < ((list.length : Nat) : Int))) ((0 ≤ ((x : Nat) : Int) ∧ ((x : Nat) : Int) <
      ((list.length : Nat) : Int)) ∧ (inR IntKind.i8 (list.getD (((x : Nat) : Int)).toNat (0, 0, 0, 0)).fst → inR IntKind.i8 (list.getD (((x : Nat) : Int)).toNat (0, 0, 0, 0)).snd.fst → inR
      IntKind.i8 (list.getD (((x : Nat) : Int)).toNat (0, 0, 0, 0)).snd.snd.fst → inR IntKind.i8 (list.getD (((x : Nat) : Int)).toNat (0, 0, 0, 0)).snd.snd.snd → (0 ≤ ((x : Nat) : Int) ∧ ((x : Nat)
      : Int) ≤ 64) ∧ (-9223372036854775808 ≤ ((m : Nat) : Int) / 2 ^ (((x : Nat) : Int)).toNat ∧ ((m : Nat) : Int) / 2 ^ (((x : Nat) : Int)).toNat ≤ 9223372036854775807) ∧ (0 ≤ ((m : Nat) : Int) /
      2 ^ (((x : Nat) : Int)).toNat ∧ (0 : Int) ≤ 1) ∧ (-9223372036854775808 ≤ ((((((m : Nat) : Int) / 2 ^ (((x : Nat) : Int)).toNat).toNat &&& Int.toNat 1) : Nat) : Int) ∧ ((((((m : Nat) : Int) /
      2 ^ (((x : Nat) : Int)).toNat).toNat &&& Int.toNat 1) : Nat) : Int) ≤ 9223372036854775807) ∧ split (decide (((((((m : Nat) : Int) / 2 ^ (((x : Nat) : Int)).toNat).toNat &&& Int.toNat 1) :
      Nat) : Int) = 0)) (inR IntKind.i8 (sqM q list m).fst → inR IntKind.i8 (sqM q list m).snd.fst → ((sqM q list m).snd.snd.length ≤ 9223372036854775807 ∧ ∀ (x : Int × Int × Int × Int), List.Mem x
      (sqM q list m).snd.snd → inR IntKind.i8 x.fst ∧ inR IntKind.i8 x.snd.fst ∧ inR IntKind.i8 x.snd.snd.fst ∧ inR IntKind.i8 x.snd.snd.snd) → inR IntKind.i8 (list.getD (((x : Nat) : Int)).toNat
      (0, 0, 0, 0)).fst → inR IntKind.i8 (list.getD (((x : Nat) : Int)).toNat (0, 0, 0, 0)).snd.fst → inR IntKind.i8 (list.getD (((x : Nat) : Int)).toNat (0, 0, 0, 0)).snd.snd.fst → inR IntKind.i8
      (list.getD (((x : Nat) : Int)).toNat (0, 0, 0, 0)).snd.snd.snd → ∃ (r : Bool), Ev Try.prog 62 [Arg.imm (D.dat (sqT 41) (sqM q list m)), Arg.imm (D.dat slabT (list.getD (((x : Nat) :
      Int)).toNat (0, 0, 0, 0)))] (compsOf [(false, Ty.bool)] r) ∧ split r (∃ (x_1 : Unit), True ∧ Cust Try.prog [44, 45, 46, 49, 50, 60000000, 70000007, 70000020, 70000022, 70000045, 70000054,
      70000056, 70999999] { dst := some 45, op := Op.load 119 (Operand.tmp 4), type := 119, pos := "l05_lifting.go:266", after := #[], guard := none } [3, 4, 45] [Slot.val (D.dat (sqT 41) (sqM q
      list m)), Slot.val (D.dat (Ty.int IntKind.i64) ((m : Nat) : Int)), Slot.val (D.dat (Ty.slice 41 slabT) list).ref, Slot.sem (mapF (fun (y : Int) => nWays q list y.toNat) gk gm), Slot.sem
      (selfT 137 (D.dat (Ty.slice 41 ((Ty.int IntKind.i8).prod ((Ty.int IntKind.i8).prod ((Ty.int IntKind.i8).prod (Ty.int IntKind.i8))))) list).ref pl gk gf), Slot.box (D.dat (sqT 41) (sqM q list
      m)), Slot.dead, Slot.val (D.dat (Ty.int IntKind.i64) 0), Slot.val (D.dat iT ((mget (Ty.int IntKind.i64) (Ty.int IntKind.i64) (some xs) ((m : Nat) : Int)).getD 0)), Slot.val (D.dat Ty.bool
      (mget (Ty.int IntKind.i64) (Ty.int IntKind.i64) (some xs) ((m : Nat) : Int)).isSome), Slot.val (D.dat iT (sumB (nWay q list m) x)), Slot.val (D.dat iT ((x : Nat) : Int)), Slot.box (D.dat
      slabT (list.getD (((x : Nat) : Int)).toNat (0, 0, 0, 0))), Slot.val (D.dat (Ty.int IntKind.i64) ((m : Nat) : Int)), Slot.val (D.dat (Ty.slice 41 slabT) list), Slot.val (D.dat (Ty.int
      IntKind.i64) ((list.length : Nat) : Int)), Slot.val (D.dat (Ty.int IntKind.i64) ((1 : Int) * 2 ^ (((list.length : Nat) : Int)).toNat)), Slot.val (D.dat (Ty.int IntKind.i64) ((1 : Int) * 2 ^
      (((list.length : Nat) : Int)).toNat - 1)), Slot.val (D.dat Ty.bool false), Slot.tup [Comp.val (D.dat iT ((mget (Ty.int IntKind.i64) (Ty.int IntKind.i64) (some xs) ((m : Nat) : Int)).getD 0)),
      Comp.val (D.dat Ty.bool (mget (Ty.int IntKind.i64) (Ty.int IntKind.i64) (some xs) ((m : Nat) : Int)).isSome)], Slot.sem (isV (Value.map (some gm))), Slot.val (D.dat (Ty.int IntKind.i64) ((m :
      Nat) : Int)), Slot.dead, Slot.val (D.dat iT ((mget (Ty.int IntKind.i64) (Ty.int IntKind.i64) (some xs) ((m : Nat) : Int)).getD 0)), Slot.val (D.dat Ty.bool (mget (Ty.int IntKind.i64) (Ty.int
      IntKind.i64) (some xs) ((m : Nat) : Int)).isSome), Slot.val (D.dat Ty.bool false), Slot.dead, Slot.val (D.dat (Ty.slice 41 slabT) list), Slot.val (D.dat (Ty.int IntKind.i64) ((list.length :
      Nat) : Int)), Slot.val (D.dat iT ((x : Nat) : Int)), Slot.val (D.dat Ty.bool true), Slot.val (D.dat iT ((x : Nat) : Int)), Slot.dead, Slot.val (D.dat slabT (list.getD (((x : Nat) :
      Int)).toNat (0, 0, 0, 0))), Slot.val (D.dat (Ty.int IntKind.i64) ((m : Nat) : Int)), Slot.val (D.dat iT ((x : Nat) : Int)), Slot.val (D.dat (Ty.int IntKind.i64) (((m : Nat) : Int) / 2 ^ (((x
      : Nat) : Int)).toNat)), Slot.val (D.dat (Ty.int IntKind.i64) ((((((m : Nat) : Int) / 2 ^ (((x : Nat) : Int)).toNat).toNat &&& Int.toNat 1) : Nat) : Int)), Slot.val (D.dat Ty.bool (decide
      (((((((m : Nat) : Int) / 2 ^ (((x : Nat) : Int)).toNat).toNat &&& Int.toNat 1) : Nat) : Int) = 0))), Slot.val (D.dat Ty.bool true), Slot.val (D.dat (sqT 41) (sqM q list m)), Slot.val (D.dat
      slabT (list.getD (((x : Nat) : Int)).toNat (0, 0, 0, 0))), Slot.val (D.dat Ty.bool r), Slot.val (D.dat Ty.bool true), Slot.val (D.dat iT (sumB (nWay q list m) x)), Slot.dead, Slot.dead,
      Slot.dead, Slot.dead, Slot.dead, Slot.dead, Slot.dead, Slot.dead, Slot.dead, Slot.dead, Slot.dead, Slot.dead, Slot.dead, Slot.dead, Slot.dead] [(3, Slot.sem (isV (Value.pointer (some { block := gk, off := 0 })))),
      (45, Slot.sem (memoAt 137 (D.dat (Ty.slice 41 ((Ty.int IntKind.i8).prod ((Ty.int IntKind.i8).prod ((Ty.int IntKind.i8).prod (Ty.int IntKind.i8))))) list).ref (fun (y : Int) => nWays q list
      y.toNat) pl gk gm gf))] ∧ (inR IntKind.i8 (sqM q list m).fst → inR IntKind.i8 (sqM q list m).snd.fst → ((sqM q list m).snd.snd.length ≤ 9223372036854775807 ∧ ∀ (x : Int × Int × Int × Int),
      List.Mem x (sqM q list m).snd.snd → inR IntKind.i8 x.fst ∧ inR IntKind.i8 x.snd.fst ∧ inR IntKind.i8 x.snd.snd.fst ∧ inR IntKind.i8 x.snd.snd.snd) → inR IntKind.i8 (list.getD (((x : Nat) :
      Int)).toNat (0, 0, 0, 0)).fst → inR IntKind.i8 (list.getD (((x : Nat) : Int)).toNat (0, 0, 0, 0)).snd.fst → inR IntKind.i8 (list.getD (((x : Nat) : Int)).toNat (0, 0, 0, 0)).snd.snd.fst → inR
      IntKind.i8 (list.getD (((x : Nat) : Int)).toNat (0, 0, 0, 0)).snd.snd.snd → ∃ (r_1 : Int × Int × List (Int × Int × Int × Int)), Ev Try.prog 96 [Arg.imm (D.dat (sqT 41) (sqM q list m)),
      Arg.imm (D.dat slabT (list.getD (((x : Nat) : Int)).toNat (0, 0, 0, 0)))] (compsOf [(true, (Ty.int IntKind.i8).prod ((Ty.int IntKind.i8).prod (Ty.slice 41 ((Ty.int IntKind.i8).prod ((Ty.int
      IntKind.i8).prod ((Ty.int IntKind.i8).prod (Ty.int IntKind.i8)))))))] r_1) ∧ (inR IntKind.i8 r_1.fst → inR IntKind.i8 r_1.snd.fst → (r_1.snd.snd.length ≤ 9223372036854775807 ∧ ∀ (x : Int ×
      Int × Int × Int), List.Mem x r_1.snd.snd → inR IntKind.i8 x.fst ∧ inR IntKind.i8 x.snd.fst ∧ inR IntKind.i8 x.snd.snd.fst ∧ inR IntKind.i8 x.snd.snd.snd) → (0 ≤ ((x : Nat) : Int) ∧ ((x : Nat)
      : Int) ≤ 64) ∧ (-9223372036854775808 ≤ (1 : Int) * 2 ^ (((x : Nat) : Int)).toNat ∧ (1 : Int) * 2 ^ (((x : Nat) : Int)).toNat ≤ 9223372036854775807) ∧ (0 ≤ ((m : Nat) : Int) ∧ 0 ≤ (1 : Int) *
      2 ^ (((x : Nat) : Int)).toNat) ∧ (-9223372036854775808 ≤ ((((((m : Nat) : Int)).toNat ||| ((1 : Int) * 2 ^ (((x : Nat) : Int)).toNat).toNat) : Nat) : Int) ∧ ((((((m : Nat) : Int)).toNat |||
      ((1 : Int) * 2 ^ (((x : Nat) : Int)).toNat).toNat) : Nat) : Int) ≤ 9223372036854775807) ∧ ∃ (r_2 : Int), ∃ (A' : Thg), EvS Try.prog none (memoAt 137 (D.dat (Ty.slice 41 ((Ty.int
      IntKind.i8).prod ((Ty.int IntKind.i8).prod ((Ty.int IntKind.i8).prod (Ty.int IntKind.i8))))) list).ref (fun (y : Int) => nWays q list y.toNat) pl gk gm gf) [Arg.imm (D.dat (sqT 41) r_1),
      Arg.imm (D.dat (Ty.int IntKind.i64) ((((((m : Nat) : Int)).toNat ||| ((1 : Int) * 2 ^ (((x : Nat) : Int)).toNat).toNat) : Nat) : Int))] (compsOf [(false, Ty.int IntKind.i64)] r_2) A' ∧ (inR
      IntKind.i64 r_2 → ∃ (x_2 : Int × Int), True ∧ Cust Try.prog [44, 45, 46, 49, 50, 60000000, 70000007, 70000020, 70000022, 70000045, 70000054, 70000056, 70999999] { dst := some 54, op := Op.binOp BinOp.add 2 (Operand.tmp 44) (Operand.tmp 53) 2, type := 2, pos := "l05_lifting.go:266", after := #[{ on := 0, ground := Ground.data }, { on := 9, ground := Ground.data }], guard := none }
      [3, 45, 44, 53, 54] [Slot.val (D.dat (sqT 41) (sqM q list m)), Slot.val (D.dat (Ty.int IntKind.i64) ((m : Nat) : Int)), Slot.val (D.dat (Ty.slice 41 slabT) list).ref, Slot.sem (isV
      (Value.pointer (some { block := gk, off := 0 }))), Slot.sem (selfT 137 (D.dat (Ty.slice 41 ((Ty.int IntKind.i8).prod ((Ty.int IntKind.i8).prod ((Ty.int IntKind.i8).prod (Ty.int
      IntKind.i8))))) list).ref pl gk gf), Slot.box (D.dat (sqT 41) (sqM q list m)), Slot.dead, Slot.val (D.dat (Ty.int IntKind.i64) 0), Slot.val (D.dat iT ((mget (Ty.int IntKind.i64) (Ty.int
      IntKind.i64) (some xs) ((m : Nat) : Int)).getD 0)), Slot.val (D.dat Ty.bool (mget (Ty.int IntKind.i64) (Ty.int IntKind.i64) (some xs) ((m : Nat) : Int)).isSome), Slot.val (D.dat iT (sumB
      (nWay q list m) x)), Slot.val (D.dat iT ((x : Nat) : Int)), Slot.box (D.dat slabT (list.getD (((x : Nat) : Int)).toNat (0, 0, 0, 0))), Slot.val (D.dat (Ty.int IntKind.i64) ((m : Nat) : Int)),
      Slot.val (D.dat (Ty.slice 41 slabT) list), Slot.val (D.dat (Ty.int IntKind.i64) ((list.length : Nat) : Int)), Slot.val (D.dat (Ty.int IntKind.i64) ((1 : Int) * 2 ^ (((list.length : Nat) :
      Int)).toNat)), Slot.val (D.dat (Ty.int IntKind.i64) ((1 : Int) * 2 ^ (((list.length : Nat) : Int)).toNat - 1)), Slot.val (D.dat Ty.bool false), Slot.tup [Comp.val (D.dat iT ((mget (Ty.int
      IntKind.i64) (Ty.int IntKind.i64) (some xs) ((m : Nat) : Int)).getD 0)), Comp.val (D.dat Ty.bool (mget (Ty.int IntKind.i64) (Ty.int IntKind.i64) (some xs) ((m : Nat) : Int)).isSome)],
      Slot.sem (isV (Value.map (some gm))), Slot.val (D.dat (Ty.int IntKind.i64) ((m : Nat) : Int)), Slot.dead, Slot.val (D.dat iT ((mget (Ty.int IntKind.i64) (Ty.int IntKind.i64) (some xs) ((m :
      Nat) : Int)).getD 0)), Slot.val (D.dat Ty.bool (mget (Ty.int IntKind.i64) (Ty.int IntKind.i64) (some xs) ((m : Nat) : Int)).isSome), Slot.val (D.dat Ty.bool false), Slot.dead, Slot.val (D.dat
      (Ty.slice 41 slabT) list), Slot.val (D.dat (Ty.int IntKind.i64) ((list.length : Nat) : Int)), Slot.val (D.dat iT ((x : Nat) : Int)), Slot.val (D.dat Ty.bool true), Slot.val (D.dat iT ((x :
      Nat) : Int)), Slot.dead, Slot.val (D.dat slabT (list.getD (((x : Nat) : Int)).toNat (0, 0, 0, 0))), Slot.val (D.dat (Ty.int IntKind.i64) ((m : Nat) : Int)), Slot.val (D.dat iT ((x : Nat) :
      Int)), Slot.val (D.dat (Ty.int IntKind.i64) (((m : Nat) : Int) / 2 ^ (((x : Nat) : Int)).toNat)), Slot.val (D.dat (Ty.int IntKind.i64) ((((((m : Nat) : Int) / 2 ^ (((x : Nat) :
      Int)).toNat).toNat &&& Int.toNat 1) : Nat) : Int)), Slot.val (D.dat Ty.bool (decide (((((((m : Nat) : Int) / 2 ^ (((x : Nat) : Int)).toNat).toNat &&& Int.toNat 1) : Nat) : Int) = 0))),
      Slot.val (D.dat Ty.bool true), Slot.val (D.dat (sqT 41) (sqM q list m)), Slot.val (D.dat slabT (list.getD (((x : Nat) : Int)).toNat (0, 0, 0, 0))), Slot.val (D.dat Ty.bool r), Slot.val (D.dat
      Ty.bool true), Slot.val (D.dat iT (sumB (nWay q list m) x)), Slot.sem A', Slot.val (D.dat (sqT 41) (sqM q list m)), Slot.val (D.dat slabT (list.getD (((x : Nat) : Int)).toNat (0, 0, 0, 0))),
      Slot.val (D.dat (sqT 41) r_1), Slot.val (D.dat (Ty.int IntKind.i64) ((m : Nat) : Int)), Slot.val (D.dat iT ((x : Nat) : Int)), Slot.val (D.dat (Ty.int IntKind.i64) ((1 : Int) * 2 ^ (((x :
      Nat) : Int)).toNat)), Slot.val (D.dat (Ty.int IntKind.i64) ((((((m : Nat) : Int)).toNat ||| ((1 : Int) * 2 ^ (((x : Nat) : Int)).toNat).toNat) : Nat) : Int)), Slot.val (D.dat (Ty.int
      IntKind.i64) r_2), Slot.dead, Slot.dead, Slot.dead, Slot.dead, Slot.dead, Slot.dead] [(45, Slot.sem (isV (cloM 137 pl gk gf))), (3, Slot.sem (mapF (fun (y : Int) => nWays q list y.toNat) gk
      gm)), (54, Slot.val (D.dat iT (x_2.fst + x_2.snd)))] ∧ (-9223372036854775808 ≤ ((x : Nat) : Int) + 1 ∧ ((x : Nat) : Int) + 1 ≤ 9223372036854775807) ∧ ∃ (x' : Nat), (Slot.sem (mapF (fun (y :
      Int) => nWays q list y.toNat) gk gm) = Slot.sem (mapF (fun (y : Int) => nWays q list y.toNat) gk gm) ∧ Slot.val (D.dat iT (x_2.fst + x_2.snd)) = Slot.val (D.dat iT (sumB (nWay q list m) x'))
      ∧ Slot.val (D.dat (Ty.int IntKind.i64) (((x : Nat) : Int) + 1)) = Slot.val (D.dat iT ((x' : Nat) : Int))) ∧ x' ≤ list.length ∧ list.length - x' < list.length - x)))) ((-9223372036854775808 ≤
      ((x : Nat) : Int) + 1 ∧ ((x : Nat) : Int) + 1 ≤ 9223372036854775807) ∧ ∃ (x' : Nat), (Slot.sem (mapF (fun (y : Int) => nWays q list y.toNat) gk gm) = Slot.sem (mapF (fun (y : Int) => nWays q
      list y.toNat) gk gm) ∧ Slot.val (D.dat iT (sumB (nWay q list m) x)) = Slot.val (D.dat iT (sumB (nWay q list m) x')) ∧ Slot.val (D.dat (Ty.int IntKind.i64) (((x : Nat) : Int) + 1)) = Slot.val
      (D.dat iT ((x' : Nat) : Int))) ∧ x' ≤ list.length ∧ list.length - x' < list.length - x)) ((-9223372036854775808 ≤ ((x : Nat) : Int) + 1 ∧ ((x : Nat) : Int) + 1 ≤ 9223372036854775807) ∧ ∃ (x'
      : Nat), (Slot.sem (mapF (fun (y : Int) => nWays q list y.toNat) gk gm) = Slot.sem (mapF (fun (y : Int) => nWays q list y.toNat) gk gm) ∧ Slot.val (D.dat iT (sumB (nWay q list m) x)) =
      Slot.val (D.dat iT (sumB (nWay q list m) x')) ∧ Slot.val (D.dat (Ty.int IntKind.i64) (((x : Nat) : Int) + 1)) = Slot.val (D.dat iT ((x' : Nat) : Int))) ∧ x' ≤ list.length ∧ list.length - x' <
      list.length - x))) (∃ (x_1 : Unit), True ∧ Cust Try.prog [56, 57, 58, 60000000, 70000007, 70000020, 70000022, 70000045, 70000054, 70000056, 70999999] { dst := some 56, op := Op.load 155 (Operand.tmp 3), type := 155, pos := "l05_lifting.go:269", after := #[], guard := none }
      [3, 56] [Slot.val (D.dat (sqT 41) (sqM q list m)), Slot.val (D.dat (Ty.int IntKind.i64) ((m : Nat) : Int)), Slot.val (D.dat (Ty.slice 41 slabT) list).ref, Slot.sem (mapF (fun (y : Int) =>
      nWays q list y.toNat) gk gm), Slot.sem (selfT 137 (D.dat (Ty.slice 41 ((Ty.int IntKind.i8).prod ((Ty.int IntKind.i8).prod ((Ty.int IntKind.i8).prod (Ty.int IntKind.i8))))) list).ref pl gk
      gf), Slot.box (D.dat (sqT 41) (sqM q list m)), Slot.dead, Slot.val (D.dat (Ty.int IntKind.i64) 0), Slot.val (D.dat iT ((mget (Ty.int IntKind.i64) (Ty.int IntKind.i64) (some xs) ((m : Nat) :
      Int)).getD 0)), Slot.val (D.dat Ty.bool (mget (Ty.int IntKind.i64) (Ty.int IntKind.i64) (some xs) ((m : Nat) : Int)).isSome), Slot.val (D.dat iT (sumB (nWay q list m) x)), Slot.dead,
      Slot.dead, Slot.val (D.dat (Ty.int IntKind.i64) ((m : Nat) : Int)), Slot.val (D.dat (Ty.slice 41 slabT) list), Slot.val (D.dat (Ty.int IntKind.i64) ((list.length : Nat) : Int)), Slot.val
      (D.dat (Ty.int IntKind.i64) ((1 : Int) * 2 ^ (((list.length : Nat) : Int)).toNat)), Slot.val (D.dat (Ty.int IntKind.i64) ((1 : Int) * 2 ^ (((list.length : Nat) : Int)).toNat - 1)), Slot.val
      (D.dat Ty.bool false), Slot.tup [Comp.val (D.dat iT ((mget (Ty.int IntKind.i64) (Ty.int IntKind.i64) (some xs) ((m : Nat) : Int)).getD 0)), Comp.val (D.dat Ty.bool (mget (Ty.int IntKind.i64)
      (Ty.int IntKind.i64) (some xs) ((m : Nat) : Int)).isSome)], Slot.sem (isV (Value.map (some gm))), Slot.val (D.dat (Ty.int IntKind.i64) ((m : Nat) : Int)), Slot.dead, Slot.val (D.dat iT ((mget
      (Ty.int IntKind.i64) (Ty.int IntKind.i64) (some xs) ((m : Nat) : Int)).getD 0)), Slot.val (D.dat Ty.bool (mget (Ty.int IntKind.i64) (Ty.int IntKind.i64) (some xs) ((m : Nat) : Int)).isSome),
      Slot.val (D.dat Ty.bool false), Slot.dead, Slot.val (D.dat (Ty.slice 41 slabT) list), Slot.val (D.dat (Ty.int IntKind.i64) ((list.length : Nat) : Int)), Slot.val (D.dat iT ((x : Nat) : Int)),
      Slot.val (D.dat Ty.bool false), Slot.dead, Slot.dead, Slot.dead, Slot.dead, Slot.dead, Slot.dead, Slot.dead, Slot.dead, Slot.dead, Slot.dead, Slot.dead, Slot.dead, Slot.dead, Slot.dead,
      Slot.dead, Slot.dead, Slot.dead, Slot.dead, Slot.dead, Slot.dead, Slot.dead, Slot.dead, Slot.dead, Slot.dead, Slot.dead, Slot.dead, Slot.dead, Slot.dead, Slot.dead] [(56, Slot.sem (isV
      (Value.map (some gm))))] ∧ ∃ (x_2 : Unit), True ∧ Cust Try.prog [56, 57, 58, 60000000, 70000007, 70000020, 70000022, 70000045, 70000054, 70000056, 70999999] { dst := none, op := Op.mapUpdate 155 (Operand.tmp 56) (Operand.tmp 57) (Operand.tmp 58), type := 0, pos := "l05_lifting.go:269", after := #[{ on := 0, ground := Ground.data }, { on := 1, ground := Ground.data }, { on := 2, ground := Ground.data }, { on := 0, ground := Ground.phase }, { on := 1, ground := Ground.phase }, { on := 2, ground := Ground.phase }], guard := none }
      [3, 56, 57, 58] [Slot.val (D.dat (sqT 41) (sqM q list m)), Slot.val (D.dat (Ty.int IntKind.i64) ((m : Nat) : Int)), Slot.val (D.dat (Ty.slice 41 slabT) list).ref, Slot.sem (mapF (fun (y :
      Int) => nWays q list y.toNat) gk gm), Slot.sem (selfT 137 (D.dat (Ty.slice 41 ((Ty.int IntKind.i8).prod ((Ty.int IntKind.i8).prod ((Ty.int IntKind.i8).prod (Ty.int IntKind.i8))))) list).ref
      pl gk gf), Slot.box (D.dat (sqT 41) (sqM q list m)), Slot.dead, Slot.val (D.dat (Ty.int IntKind.i64) 0), Slot.val (D.dat iT ((mget (Ty.int IntKind.i64) (Ty.int IntKind.i64) (some xs) ((m :
      Nat) : Int)).getD 0)), Slot.val (D.dat Ty.bool (mget (Ty.int IntKind.i64) (Ty.int IntKind.i64) (some xs) ((m : Nat) : Int)).isSome), Slot.val (D.dat iT (sumB (nWay q list m) x)), Slot.dead,
      Slot.dead, Slot.val (D.dat (Ty.int IntKind.i64) ((m : Nat) : Int)), Slot.val (D.dat (Ty.slice 41 slabT) list), Slot.val (D.dat (Ty.int IntKind.i64) ((list.length : Nat) : Int)), Slot.val
      (D.dat (Ty.int IntKind.i64) ((1 : Int) * 2 ^ (((list.length : Nat) : Int)).toNat)), Slot.val (D.dat (Ty.int IntKind.i64) ((1 : Int) * 2 ^ (((list.length : Nat) : Int)).toNat - 1)), Slot.val
      (D.dat Ty.bool false), Slot.tup [Comp.val (D.dat iT ((mget (Ty.int IntKind.i64) (Ty.int IntKind.i64) (some xs) ((m : Nat) : Int)).getD 0)), Comp.val (D.dat Ty.bool (mget (Ty.int IntKind.i64)
      (Ty.int IntKind.i64) (some xs) ((m : Nat) : Int)).isSome)], Slot.sem (isV (Value.map (some gm))), Slot.val (D.dat (Ty.int IntKind.i64) ((m : Nat) : Int)), Slot.dead, Slot.val (D.dat iT ((mget
      (Ty.int IntKind.i64) (Ty.int IntKind.i64) (some xs) ((m : Nat) : Int)).getD 0)), Slot.val (D.dat Ty.bool (mget (Ty.int IntKind.i64) (Ty.int IntKind.i64) (some xs) ((m : Nat) : Int)).isSome),
      Slot.val (D.dat Ty.bool false), Slot.dead, Slot.val (D.dat (Ty.slice 41 slabT) list), Slot.val (D.dat (Ty.int IntKind.i64) ((list.length : Nat) : Int)), Slot.val (D.dat iT ((x : Nat) : Int)),
      Slot.val (D.dat Ty.bool false), Slot.dead, Slot.dead, Slot.dead, Slot.dead, Slot.dead, Slot.dead, Slot.dead, Slot.dead, Slot.dead, Slot.dead, Slot.dead, Slot.dead, Slot.dead, Slot.dead,
      Slot.dead, Slot.dead, Slot.dead, Slot.dead, Slot.dead, Slot.dead, Slot.dead, Slot.dead, Slot.dead, Slot.dead, Slot.dead, Slot.sem (isV (Value.map (some gm))), Slot.val (D.dat (Ty.int
      IntKind.i64) ((m : Nat) : Int)), Slot.val (D.dat iT (sumB (nWay q list m) x)), Slot.dead] [(3, Slot.sem (mapF (fun (y : Int) => nWays q list y.toNat) gk gm))] ∧ sumB (nWay q list m) x = nWays
      q list m ∧ Slot.sem (mapF (fun (y : Int) => nWays q list y.toNat) gk gm) = Slot.sem (mapF (fun (y : Int) => nWays q list y.toNat) gk gm) ∧ Slot.sem (selfT 137 (D.dat (Ty.slice 41 ((Ty.int
      IntKind.i8).prod ((Ty.int IntKind.i8).prod ((Ty.int IntKind.i8).prod (Ty.int IntKind.i8))))) list).ref pl gk gf) = Slot.sem (selfT 137 (D.dat (Ty.slice 41 ((Ty.int IntKind.i8).prod ((Ty.int
      IntKind.i8).prod ((Ty.int IntKind.i8).prod (Ty.int IntKind.i8))))) list).ref pl gk gf) ∧ True)))) := by
    intros
    have h2 : 2 ^ list.length ≤ 1024 := Nat.le_trans (Nat.pow_le_pow_right (by omega) hn) (by decide : 2 ^ 10 ≤ 1024)
    have h2p : 0 < 2 ^ list.length := Nat.pow_pos (by omega)
    refine ⟨by omega, ⟨by rw [sh_nat]; omega, by rw [sh_nat]; omega⟩, ⟨by rw [sh_nat]; omega, by rw [sh_nat]; omega⟩, split_of (fun h => ?_) (fun h => ?_)⟩
    · have h : m = 2 ^ list.length - 1 := by have := of_decide_eq_true h; rw [sh_nat] at this; omega
      refine ⟨(), trivial, cust_weak (M := 3) (N := 7) (gk := gk) (gm := gm) (xs := xs) rfl rfl (by decide) (by decide) rfl ⟨rfl, fun u q => by cases q; rfl⟩ (by decide) hx rfl (fun lab w => int_rep ⟨by simp only [loK]; omega, by simp only [hiK]; omega⟩), ?_, rfl, rfl, trivial⟩
      unfold nWays; rw [ways_eq hm, if_pos h]
    · have h : m ≠ 2 ^ list.length - 1 := by have := of_decide_eq_false h; rw [sh_nat] at this; omega
      refine ⟨(), trivial, cust_loadMap (M := 3) (N := 20) (gk := gk) (gm := gm) (Try.underlying155) rfl rfl rfl (by decide) (by decide) rfl rfl (fun S B w v q => ⟨q.1, q.2.1.2⟩), (), trivial,
        cust_find (M := 3) (N := 22) (A1 := 20) (A2 := 21) (types resT [] (fun _ _ => none)) Try.underlying155 Try.underlying3 rfl rfl rfl (by decide) (by decide) (by decide) (by decide) rfl rfl rfl rfl (by decide) hx, split_of (fun h3 => ?_) (fun h3 => ?_)⟩
      · exact ⟨(get_right hx h3).trans rfl, rfl, rfl, trivial⟩
      · intros
        refine ⟨⟨0, ⟨rfl, rfl, rfl⟩, Nat.zero_le _⟩, fun i hi _ _ => split_of (fun h4 => ?_) (fun h4 => ?_)⟩
        · have h4 : i < list.length := by have := of_decide_eq_true h4; omega
          have hb0 := wayT_0 (A := mayB q list) hm h4
          have hb1 := wayT_big hn (A := mayB q list) hm h4
          have hs0 : 0 ≤ sumB (nWay q list m) i := sumB_nonneg i fun j hj => wayT_0 hm (by omega)
          have hs1 : sumB (nWay q list m) i ≤ i * 10000000000 := sumB_le i fun j hj => wayT_big hn hm (by omega)
          refine ⟨by omega, ?_⟩
          intros
          refine ⟨by omega, div_in m i (by omega), ⟨div_0 m i, by omega⟩, and_in m i (by omega), ?_⟩
          refine split_of (fun h5 => ?_) (fun h5 => ?_)
          · have hbit : m.testBit i = false := by rw [bit_nat] at h5; simpa using h5
            intros
            refine ⟨_, canLay_ev _ _, ?_⟩
            refine split_of (fun h6 => ?_) (fun h6 => ?_)
            · obtain ⟨e1, e2⟩ := sqM_ok k h60 h6 h4 hbit
              have hst : nWay q list m i = nWays q list (m ||| 2 ^ i) := by unfold nWay oWayT; rw [if_pos ⟨hbit, h6⟩]; rfl
              have hlt := or_lt hm h4
              refine ⟨(), trivial, cust_self (M1 := 3) (M2 := 4) (N := 45) Try.underlying119 rfl rfl rfl (by decide) (by decide) (by decide) rfl rfl rfl (by decide), ?_⟩
              intros
              refine ⟨_, put_ev _ _ (by have := sqM_room h60 h4 hbit; omega), ?_⟩
              have e1' := e1
              rw [e1]
              have hpw : 2 ^ i ≤ 1024 := Nat.le_trans (Nat.pow_le_pow_right (by omega) (by omega : i ≤ 10)) (by decide : 2 ^ 10 ≤ 1024)
              have hpw0 : (0 : Int) ≤ ((2 ^ i : Nat) : Int) := Int.natCast_nonneg _
              intros
              refine ⟨by omega, ⟨by rw [sh_nat]; omega, by rw [sh_nat]; omega⟩, ⟨by omega, by rw [sh_nat]; omega⟩, ⟨by rw [or_nat]; omega, by rw [or_nat]; omega⟩, ?_⟩
              rw [or_nat]
              refine ⟨_, _, ih _ (or_gt hbit) hlt e2, ?_⟩
              intros
              refine ⟨(sumB (nWay q list m) i, nWays q list (m ||| 2 ^ i)), trivial, cust_back (M1 := 3) (M2 := 45) (A1 := 44) (A2 := 53) (N := 54) rfl rfl (by decide) (by decide) (by decide) (by decide) (by decide) rfl rfl rfl rfl rfl (by decide) (by decide) (by decide) (by rw [← hst]; unfold nWay at hs0 hs1 ⊢; omega), by omega, i + 1, ⟨rfl, ?_, rfl⟩, by omega, by omega⟩
              rw [← hst]; rfl
            · have hst : nWay q list m i = 0 := by unfold nWay oWayT; rw [if_neg (fun z => by rw [show mayB q list m i = false from h6] at z; cases z.2)]
              refine ⟨by omega, i + 1, ⟨rfl, ?_, rfl⟩, by omega, by omega⟩
              rw [show sumB (nWay q list m) (i + 1) = sumB (nWay q list m) i + nWay q list m i from rfl, hst, Int.add_zero]
          · have hbit : m.testBit i = true := by rw [bit_nat] at h5; simpa using h5
            have hst : nWay q list m i = 0 := by unfold nWay oWayT; rw [if_neg (fun z => by rw [hbit] at z; cases z.1)]
            refine ⟨by omega, i + 1, ⟨rfl, ?_, rfl⟩, by omega, by omega⟩
            rw [show sumB (nWay q list m) (i + 1) = sumB (nWay q list m) i + nWay q list m i from rfl, hst, Int.add_zero]
        · obtain rfl : i = list.length := by have := of_decide_eq_false h4; omega
          have hF : nWays q list m = sumB (nWay q list m) list.length := by unfold nWays; rw [ways_eq hm, if_neg h]; rfl
          exact ⟨(), trivial, cust_loadMap (M := 3) (N := 56) (gk := gk) (gm := gm) (Try.underlying155) rfl rfl rfl (by decide) (by decide) rfl rfl (fun S B w v q => by obtain ⟨xs, _, q⟩ := q; exact ⟨q.1, q.2.1.2⟩), (), trivial,
            cust_update (M := 3) (A1 := 56) (A2 := 57) (A3 := 58) Try.underlying155 Try.underlying3 rfl rfl (by decide) (by decide) (by decide) (by decide) rfl rfl rfl rfl (by rw [Int.toNat_natCast, hF]), hF.symm, rfl, rfl, trivial⟩
  refine @Eq.mpr _ _ (?_) key
  kernel_rfl
end Go.Proofs.Ytmjijggkdbiijaa
