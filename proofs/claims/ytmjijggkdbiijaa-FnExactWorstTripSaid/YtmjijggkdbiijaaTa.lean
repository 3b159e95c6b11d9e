/- Slabs beside each other, and pairs of them, as the program tells them. No statement is proved here. -/
import Derived.Test.YtmjijggkdbiijaaSv
namespace Go.Proofs.Ytmjijggkdbiijaa
open Go.RowKit
set_option linter.unusedVariables false
set_option linter.unusedSimpArgs false
set_option maxRecDepth 100000
set_option maxHeartbeats 4000000
theorem sizeS_ev (l : List Sl) : Ev Try.prog 131 [aSs l] (compsOf [rI] ((l.length : Int))) := by
  refine ev_of (l := [rI]) (r := ((l.length : Int))) (types (resT) [] (fun _ _ => none)) follows Try.func131 (by kernel_rfl) (by rw [Try.ntmps131]; exact Nat.le_of_ble_eq_true rfl) ?_
  have key : ((l.length ≤ 9223372036854775807 ∧ ∀ (x : Int × Int × Int × Int), List.Mem x l → inR IntKind.i8 x.fst ∧ inR IntKind.i8 x.snd.fst ∧ inR IntKind.i8 x.snd.snd.fst ∧ inR IntKind.i8 x.snd.snd.snd) →
      ((l.length : Nat) : Int) ≤ 9223372036854775807 → ((l.length : Nat) : Int) = ((l.length : Nat) : Int)) := by
    repeat' (first
      | (intro hh; try simp only [inR, loK, hiK] at hh)
      | exact trivial
      | (refine And.intro ?_ ?_)
      | (refine split_of (fun hh => ?_) (fun hh => ?_)))
    all_goals (first | omega | rfl | (simp_all []; done) | (simp_all []; omega))
  refine @Eq.mpr _ _ (?_) key
  kernel_rfl
def wider (a : Sl) : Sl := (a.1 - 1, a.2.1, a.2.2.1 + 2, a.2.2.2)
def higher (a : Sl) : Sl := (a.1, a.2.1 - 1, a.2.2.1, a.2.2.2 + 2)
def sameS (a b : Sl) : Bool := decide (a.1 = b.1) && (decide (a.2.1 = b.2.1) && (decide (a.2.2.1 = b.2.2.1) && decide (a.2.2.2 = b.2.2.2)))
def areB (a b : Sl) : Bool := !(sameS a b) && (meetsB (wider a) b || meetsB (higher a) b)
structure SmallS (a : Sl) : Prop where
  x : 0 ≤ a.1 ∧ a.1 ≤ 12
  y : 0 ≤ a.2.1 ∧ a.2.1 ≤ 12
  w : 1 ≤ a.2.2.1 ∧ a.2.2.1 ≤ 12
  h : 1 ≤ a.2.2.2 ∧ a.2.2.2 ≤ 12
theorem areBeside_ev (a c : Sl) (k : SmallS a) : Ev Try.prog 157 [aS a, aS c] (compsOf [rB] (areB a c)) := by
  refine ev_of (l := [rB]) (r := (areB a c)) (types (resT) [10005009, 10005012, 10006017, 10006020] (fun _ _ => none)) follows Try.func157 (by kernel_rfl) (by rw [Try.ntmps157]; exact Nat.le_of_ble_eq_true rfl) ?_
  have key : (inR IntKind.i8 a.fst → inR IntKind.i8 a.snd.fst → inR IntKind.i8 a.snd.snd.fst → inR IntKind.i8 a.snd.snd.snd → inR IntKind.i8 c.fst → inR IntKind.i8 c.snd.fst → inR IntKind.i8 c.snd.snd.fst → inR
      IntKind.i8 c.snd.snd.snd → inR IntKind.i8 a.fst → inR IntKind.i8 a.snd.fst → inR IntKind.i8 a.snd.snd.fst → inR IntKind.i8 a.snd.snd.snd → inR IntKind.i8 a.fst → inR IntKind.i8 a.snd.fst → inR
      IntKind.i8 a.snd.snd.fst → inR IntKind.i8 a.snd.snd.snd → inR IntKind.i8 a.fst → (-128 ≤ a.fst - 1 ∧ a.fst - 1 ≤ 127) ∧ (inR IntKind.i8 a.snd.snd.fst → (-128 ≤ a.snd.snd.fst + 2 ∧ a.snd.snd.fst + 2 ≤
      127) ∧ (inR IntKind.i8 a.snd.fst → (-128 ≤ a.snd.fst - 1 ∧ a.snd.fst - 1 ≤ 127) ∧ (inR IntKind.i8 a.snd.snd.snd → (-128 ≤ a.snd.snd.snd + 2 ∧ a.snd.snd.snd + 2 ≤ 127) ∧ (inR IntKind.i8 a.fst → inR
      IntKind.i8 a.snd.fst → inR IntKind.i8 a.snd.snd.fst → inR IntKind.i8 a.snd.snd.snd → inR IntKind.i8 c.fst → inR IntKind.i8 c.snd.fst → inR IntKind.i8 c.snd.snd.fst → inR IntKind.i8 c.snd.snd.snd →
      split (!(decide (a.fst = c.fst) && (decide (a.snd.fst = c.snd.fst) && (decide (a.snd.snd.fst = c.snd.snd.fst) && decide (a.snd.snd.snd = c.snd.snd.snd))))) (inR IntKind.i8 (a.fst - 1) → inR
      IntKind.i8 a.snd.fst → inR IntKind.i8 (a.snd.snd.fst + 2) → inR IntKind.i8 a.snd.snd.snd → inR IntKind.i8 c.fst → inR IntKind.i8 c.snd.fst → inR IntKind.i8 c.snd.snd.fst → inR IntKind.i8
      c.snd.snd.snd → ∃ (r : Bool), Ev Try.prog 113 [Arg.imm (D.dat slabT (a.fst - 1, a.snd.fst, a.snd.snd.fst + 2, a.snd.snd.snd)), Arg.imm (D.dat slabT c)] (compsOf [(false, Ty.bool)] r) ∧ split (!r)
      (inR IntKind.i8 a.fst → inR IntKind.i8 (a.snd.fst - 1) → inR IntKind.i8 a.snd.snd.fst → inR IntKind.i8 (a.snd.snd.snd + 2) → inR IntKind.i8 c.fst → inR IntKind.i8 c.snd.fst → inR IntKind.i8
      c.snd.snd.fst → inR IntKind.i8 c.snd.snd.snd → ∃ (r : Bool), Ev Try.prog 113 [Arg.imm (D.dat slabT (a.fst, a.snd.fst - 1, a.snd.snd.fst, a.snd.snd.snd + 2)), Arg.imm (D.dat slabT c)] (compsOf
      [(false, Ty.bool)] r) ∧ r = areB a c) (true = areB a c)) (false = areB a c)))))) := by
    obtain ⟨x1, x2⟩ := k.x
    obtain ⟨y1, y2⟩ := k.y
    obtain ⟨w1, w2⟩ := k.w
    obtain ⟨h1, h2⟩ := k.h
    repeat' (first
      | (intro hh; try simp only [inR, loK, hiK] at hh)
      | exact trivial
      | (refine ⟨_, meets_ev _ _, ?_⟩)
      | (refine And.intro ?_ ?_)
      | (refine split_of (fun hh => ?_) (fun hh => ?_)))
    all_goals (first | omega | skip)
    all_goals (simp_all [areB, sameS, wider, higher]; done)
  refine @Eq.mpr _ _ (?_) key
  kernel_rfl
def besL (q : Sq) (i n : Nat) : List Int := ((List.range n).filter fun k => areB (sAt q.2.2 i) (sAt q.2.2 k)).map fun (k : Nat) => (k : Int)
theorem besL_succ (q : Sq) (i n : Nat) : besL q i (n + 1) = besL q i n ++ (if areB (sAt q.2.2 i) (sAt q.2.2 n) then [(n : Int)] else []) := by
  unfold besL
  rw [List.range_succ, List.filter_append, List.map_append]
  congr 1
  by_cases h : areB (sAt q.2.2 i) (sAt q.2.2 n) = true
  · rw [if_pos h]; simp only [List.filter_cons, List.filter_nil, h, if_true, List.map_cons, List.map_nil]
  · rw [if_neg h]; simp only [List.filter_cons, List.filter_nil, h, Bool.false_eq_true, if_false, List.map_nil]
theorem besL_len (q : Sq) (i n : Nat) : (besL q i n).length ≤ n := by
  unfold besL
  rw [List.length_map]
  exact Nat.le_trans (List.length_filter_le _ _) (by simp)
theorem besL_mem {q : Sq} {i n : Nat} {k : Int} (h : k ∈ besL q i n) : ∃ j : Nat, j < n ∧ k = (j : Int) ∧ areB (sAt q.2.2 i) (sAt q.2.2 j) = true := by
  unfold besL at h
  obtain ⟨j, hj, rfl⟩ := List.mem_map.1 h
  rw [List.mem_filter, List.mem_range] at hj
  exact ⟨j, hj.1, rfl, hj.2⟩
theorem ok_small {q : Sq} (k : OkQ q) {i : Nat} (hi : i < q.2.2.length) : SmallS (sAt q.2.2 i) := by
  have h1 := slabIn_b (k.sl i hi).inn
  have h2 := edge_b k.w
  have h3 := edge_b k.h
  exact ⟨⟨by omega, by omega⟩, ⟨by omega, by omega⟩, ⟨by omega, by omega⟩, ⟨by omega, by omega⟩⟩
noncomputable abbrev besideInv (q : Sq) (i : Nat) (n : Nat) (σ : List Slot) : Option LoopInv := match n with
  | 3 => some ⟨5 :: hvAt Try.f132 3, Nat, fun k => [(5, .own (.slice 2 iT) (besL q i k)), (12, .val (.dat iT (k : Int)))], fun k => k ≤ q.2.2.length, fun k => q.2.2.length - k⟩
  | _ => none
theorem beside_ev (q : Sq) (k : OkQ q) (i : Nat) (hi : i < q.2.2.length) : Ev Try.prog 132 [aQ q, aI (i : Int)] (compsOf [oIs] (besL q i q.2.2.length)) := by
  refine ev_of (l := [oIs]) (r := (besL q i q.2.2.length)) (types (resT) [] (besideInv q i)) follows Try.func132 (by kernel_rfl) (by rw [Try.ntmps132]; exact Nat.le_of_ble_eq_true rfl) ?_
  have key : (inR IntKind.i8 q.fst → inR IntKind.i8 q.snd.fst → (q.snd.snd.length ≤ 9223372036854775807 ∧ ∀ (x : Int × Int × Int × Int), List.Mem x q.snd.snd → inR IntKind.i8 x.fst ∧ inR IntKind.i8 x.snd.fst ∧ inR
      IntKind.i8 x.snd.snd.fst ∧ inR IntKind.i8 x.snd.snd.snd) → inR IntKind.i64 ((i : Nat) : Int) → (q.snd.snd.length ≤ 9223372036854775807 ∧ ∀ (x : Int × Int × Int × Int), List.Mem x q.snd.snd → inR
      IntKind.i8 x.fst ∧ inR IntKind.i8 x.snd.fst ∧ inR IntKind.i8 x.snd.snd.fst ∧ inR IntKind.i8 x.snd.snd.snd) → ((q.snd.snd.length : Nat) : Int) ≤ 9223372036854775807 → (∃ (x0 : Nat), (Slot.own
      (Ty.slice 2 (Ty.int IntKind.i64)) [] = Slot.own (Ty.slice 2 iT) (besL q i x0) ∧ Slot.val (D.dat (Ty.int IntKind.i64) 0) = Slot.val (D.dat iT ((x0 : Nat) : Int))) ∧ x0 ≤ q.snd.snd.length) ∧ ∀ (x :
      Nat), x ≤ q.snd.snd.length → ((besL q i x).length ≤ 9223372036854775807 ∧ ∀ (x_1 : Int), List.Mem x_1 (besL q i x) → inR IntKind.i64 x_1) → inR IntKind.i64 ((x : Nat) : Int) → split (decide (((x :
      Nat) : Int) < ((q.snd.snd.length : Nat) : Int))) ((0 ≤ ((x : Nat) : Int) ∧ ((x : Nat) : Int) < ((q.snd.snd.length : Nat) : Int)) ∧ (inR IntKind.i8 (q.snd.snd.getD (((x : Nat) : Int)).toNat (0, 0, 0,
      0)).fst → inR IntKind.i8 (q.snd.snd.getD (((x : Nat) : Int)).toNat (0, 0, 0, 0)).snd.fst → inR IntKind.i8 (q.snd.snd.getD (((x : Nat) : Int)).toNat (0, 0, 0, 0)).snd.snd.fst → inR IntKind.i8
      (q.snd.snd.getD (((x : Nat) : Int)).toNat (0, 0, 0, 0)).snd.snd.snd → (q.snd.snd.length ≤ 9223372036854775807 ∧ ∀ (x : Int × Int × Int × Int), List.Mem x q.snd.snd → inR IntKind.i8 x.fst ∧ inR
      IntKind.i8 x.snd.fst ∧ inR IntKind.i8 x.snd.snd.fst ∧ inR IntKind.i8 x.snd.snd.snd) → (0 ≤ ((i : Nat) : Int) ∧ ((i : Nat) : Int) < ((q.snd.snd.length : Nat) : Int)) ∧ (inR IntKind.i8 (q.snd.snd.getD
      (((i : Nat) : Int)).toNat (0, 0, 0, 0)).fst → inR IntKind.i8 (q.snd.snd.getD (((i : Nat) : Int)).toNat (0, 0, 0, 0)).snd.fst → inR IntKind.i8 (q.snd.snd.getD (((i : Nat) : Int)).toNat (0, 0, 0,
      0)).snd.snd.fst → inR IntKind.i8 (q.snd.snd.getD (((i : Nat) : Int)).toNat (0, 0, 0, 0)).snd.snd.snd → inR IntKind.i8 (q.snd.snd.getD (((x : Nat) : Int)).toNat (0, 0, 0, 0)).fst → inR IntKind.i8
      (q.snd.snd.getD (((x : Nat) : Int)).toNat (0, 0, 0, 0)).snd.fst → inR IntKind.i8 (q.snd.snd.getD (((x : Nat) : Int)).toNat (0, 0, 0, 0)).snd.snd.fst → inR IntKind.i8 (q.snd.snd.getD (((x : Nat) :
      Int)).toNat (0, 0, 0, 0)).snd.snd.snd → ∃ (r : Bool), Ev Try.prog 157 [Arg.imm (D.dat slabT (q.snd.snd.getD (((i : Nat) : Int)).toNat (0, 0, 0, 0))), Arg.imm (D.dat slabT (q.snd.snd.getD (((x : Nat)
      : Int)).toNat (0, 0, 0, 0)))] (compsOf [(false, Ty.bool)] r) ∧ split r ((besL q i x).length + [((x : Nat) : Int)].length ≤ 4294967296 ∧ (-9223372036854775808 ≤ ((x : Nat) : Int) + 1 ∧ ((x : Nat) :
      Int) + 1 ≤ 9223372036854775807) ∧ ∃ (x' : Nat), (Slot.own (Ty.slice 2 (Ty.int IntKind.i64)) (besL q i x ++ [((x : Nat) : Int)]) = Slot.own (Ty.slice 2 iT) (besL q i x') ∧ Slot.val (D.dat (Ty.int
      IntKind.i64) (((x : Nat) : Int) + 1)) = Slot.val (D.dat iT ((x' : Nat) : Int))) ∧ x' ≤ q.snd.snd.length ∧ q.snd.snd.length - x' < q.snd.snd.length - x) ((-9223372036854775808 ≤ ((x : Nat) : Int) + 1
      ∧ ((x : Nat) : Int) + 1 ≤ 9223372036854775807) ∧ ∃ (x' : Nat), (Slot.own (Ty.slice 2 iT) (besL q i x) = Slot.own (Ty.slice 2 iT) (besL q i x') ∧ Slot.val (D.dat (Ty.int IntKind.i64) (((x : Nat) :
      Int) + 1)) = Slot.val (D.dat iT ((x' : Nat) : Int))) ∧ x' ≤ q.snd.snd.length ∧ q.snd.snd.length - x' < q.snd.snd.length - x)))) (besL q i x = besL q i q.snd.snd.length)) := by
    intros
    refine ⟨⟨0, ⟨rfl, rfl⟩, Nat.zero_le _⟩, fun n hn _ _ => split_of (fun h => ?_) (fun h => ?_)⟩
    · have h := of_decide_eq_true h
      have hn2 := k.n
      have hl := besL_len q i n
      simp only [Int.toNat_natCast]
      refine ⟨by omega, ?_⟩
      intros
      refine ⟨by omega, ?_⟩
      intros
      refine ⟨_, areBeside_ev _ _ (ok_small k hi), split_of (fun h2 => ?_) (fun h2 => ?_)⟩
      · refine ⟨?_, by omega, n + 1, ⟨?_, by simp⟩, by omega, by omega⟩
        · simp only [List.length_cons, List.length_nil]; omega
        · rw [besL_succ, if_pos h2]
      · refine ⟨by omega, n + 1, ⟨?_, by simp⟩, by omega, by omega⟩
        rw [besL_succ, h2]; simp
    · have h := of_decide_eq_false h
      have : n = q.2.2.length := by omega
      rw [this]
  refine @Eq.mpr _ _ (?_) key
  kernel_rfl
abbrev pT : Ty := .arr 2 iT
abbrev oPs : Bool × Ty := (true, .slice 58 pT)
/-- The pairs that begin with i and go on with the first n of a list. -/
def pairI (i : Nat) (l : List Int) (n : Nat) : List (List Int) := ((l.take n).filter fun k => decide ((i : Int) < k)).map fun k => [(i : Int), k]
def pairsL (q : Sq) (n : Nat) : List (List Int) := (List.range n).flatMap fun i => pairI i (besL q i q.2.2.length) q.2.2.length
theorem pairI_succ (i : Nat) (l : List Int) {n : Nat} (hn : n < l.length) : pairI i l (n + 1) = pairI i l n ++ (if (i : Int) < l.getD n 0 then [[(i : Int), l.getD n 0]] else []) := by
  unfold pairI
  have : l.take (n + 1) = l.take n ++ [l.getD n 0] := by
    rw [List.take_add_one, List.getElem?_eq_getElem hn]
    simp [List.getD_eq_getElem?_getD, hn]
  rw [this, List.filter_append, List.map_append]
  congr 1
  by_cases h : (i : Int) < l.getD n 0
  · rw [if_pos h]; simp only [List.filter_cons, List.filter_nil, h, decide_true, if_true, List.map_cons, List.map_nil]
  · rw [if_neg h]; simp only [List.filter_cons, List.filter_nil, h, decide_false, Bool.false_eq_true, if_false, List.map_nil]
theorem pairI_len (i : Nat) (l : List Int) (n : Nat) : (pairI i l n).length ≤ l.length := by
  unfold pairI
  rw [List.length_map]
  exact Nat.le_trans (List.length_filter_le _ _) (by rw [List.length_take]; omega)
theorem pairI_all (i : Nat) {l : List Int} {n : Nat} (h : l.length ≤ n) : pairI i l n = pairI i l l.length := by
  unfold pairI
  rw [List.take_of_length_le h, List.take_of_length_le (Nat.le_refl _)]
theorem pairsL_succ (q : Sq) (n : Nat) : pairsL q (n + 1) = pairsL q n ++ pairI n (besL q n q.2.2.length) q.2.2.length := by simp [pairsL, List.range_succ]
theorem pairsL_len {q : Sq} (n : Nat) : (pairsL q n).length ≤ n * q.2.2.length := by
  induction n with
  | zero => simp [pairsL]
  | succ n ih =>
    have := pairI_len n (besL q n q.2.2.length) q.2.2.length
    have := besL_len q n q.2.2.length
    rw [pairsL_succ, List.length_append, Nat.succ_mul]; omega
theorem pairs_mem {q : Sq} {n : Nat} (hn : n ≤ q.2.2.length) {p : List Int} (h : p ∈ pairsL q n) : ∃ i j : Nat, i < q.2.2.length ∧ j < q.2.2.length ∧ p = [(i : Int), (j : Int)] := by
  unfold pairsL at h
  obtain ⟨i, hi, hp⟩ := List.mem_flatMap.1 h
  unfold pairI at hp
  obtain ⟨x, hx, rfl⟩ := List.mem_map.1 hp
  obtain ⟨j, hj, rfl, _⟩ := besL_mem (List.mem_of_mem_take (List.mem_filter.1 hx).1)
  exact ⟨i, j, by have := List.mem_range.1 hi; omega, hj, rfl⟩
noncomputable abbrev pairsInv (q : Sq) (n : Nat) (σ : List Slot) : Option LoopInv := match n with
  | 3 => some ⟨3 :: hvAt Try.f80 3, Nat, fun i => [(3, .own (.slice 58 pT) (pairsL q i)), (11, .val (.dat iT (i : Int)))], fun i => i ≤ q.2.2.length, fun i => q.2.2.length - i⟩
  | 6 => some ⟨3 :: hvAt Try.f80 6, Nat, fun k => [(3, .own (.slice 58 pT) (pairsL q (iAt σ 11).toNat ++ pairI (iAt σ 11).toNat (besL q (iAt σ 11).toNat q.2.2.length) k)), (18, .val (.dat iT (k : Int)))], fun k => k ≤ (besL q (iAt σ 11).toNat q.2.2.length).length, fun k => (besL q (iAt σ 11).toNat q.2.2.length).length - k⟩
  | _ => none
theorem pairs_ev (q : Sq) (k : OkQ q) : Ev Try.prog 80 [aQ q] (compsOf [oPs] (pairsL q q.2.2.length)) := by
  refine ev_of (l := [oPs]) (r := (pairsL q q.2.2.length)) (types (resT) [] (pairsInv q)) follows Try.func80 (by kernel_rfl) (by rw [Try.ntmps80]; exact Nat.le_of_ble_eq_true rfl) ?_
  have key : (inR IntKind.i8 q.fst → inR IntKind.i8 q.snd.fst → (q.snd.snd.length ≤ 9223372036854775807 ∧ ∀ (x : Int × Int × Int × Int), List.Mem x q.snd.snd → inR IntKind.i8 x.fst ∧ inR IntKind.i8 x.snd.fst ∧ inR
      IntKind.i8 x.snd.snd.fst ∧ inR IntKind.i8 x.snd.snd.snd) → (q.snd.snd.length ≤ 9223372036854775807 ∧ ∀ (x : Int × Int × Int × Int), List.Mem x q.snd.snd → inR IntKind.i8 x.fst ∧ inR IntKind.i8
      x.snd.fst ∧ inR IntKind.i8 x.snd.snd.fst ∧ inR IntKind.i8 x.snd.snd.snd) → ∃ (r : Int), Ev Try.prog 131 [Arg.imm (D.dat (Ty.slice 41 slabT) q.snd.snd)] (compsOf [(false, Ty.int IntKind.i64)] r) ∧
      (inR IntKind.i64 r → (∃ (x0 : Nat), (Slot.own (Ty.slice 58 (Ty.arr 2 (Ty.int IntKind.i64))) [] = Slot.own (Ty.slice 58 pT) (pairsL q x0) ∧ Slot.val (D.dat (Ty.int IntKind.i64) 0) = Slot.val (D.dat iT
      ((x0 : Nat) : Int))) ∧ x0 ≤ q.snd.snd.length) ∧ ∀ (x : Nat), x ≤ q.snd.snd.length → ((pairsL q x).length ≤ 9223372036854775807 ∧ ∀ (x_1 : List Int), List.Mem x_1 (pairsL q x) → x_1.length = 2 ∧ ∀ (x
      : Int), List.Mem x x_1 → inR IntKind.i64 x) → inR IntKind.i64 ((x : Nat) : Int) → split (decide (((x : Nat) : Int) < r)) (inR IntKind.i8 q.fst → inR IntKind.i8 q.snd.fst → (q.snd.snd.length ≤
      9223372036854775807 ∧ ∀ (x : Int × Int × Int × Int), List.Mem x q.snd.snd → inR IntKind.i8 x.fst ∧ inR IntKind.i8 x.snd.fst ∧ inR IntKind.i8 x.snd.snd.fst ∧ inR IntKind.i8 x.snd.snd.snd) → ∃ (r :
      List Int), Ev Try.prog 132 [Arg.imm (D.dat (sqT 41) q), Arg.imm (D.dat iT ((x : Nat) : Int))] (compsOf [(true, Ty.slice 2 (Ty.int IntKind.i64))] r) ∧ ((r.length ≤ 9223372036854775807 ∧ ∀ (x : Int),
      List.Mem x r → inR IntKind.i64 x) → ((r.length : Nat) : Int) ≤ 9223372036854775807 → (∃ (x0 : Nat), (Slot.own (Ty.slice 58 pT) (pairsL q x) = Slot.own (Ty.slice 58 pT) (pairsL q (((x : Nat) :
      Int)).toNat ++ pairI (((x : Nat) : Int)).toNat (besL q (((x : Nat) : Int)).toNat q.snd.snd.length) x0) ∧ Slot.val (D.dat (Ty.int IntKind.i64) 0) = Slot.val (D.dat iT ((x0 : Nat) : Int))) ∧ x0 ≤ (besL
      q (((x : Nat) : Int)).toNat q.snd.snd.length).length) ∧ ∀ (x_1 : Nat), x_1 ≤ (besL q (((x : Nat) : Int)).toNat q.snd.snd.length).length → ((pairsL q (((x : Nat) : Int)).toNat ++ pairI (((x : Nat) :
      Int)).toNat (besL q (((x : Nat) : Int)).toNat q.snd.snd.length) x_1).length ≤ 9223372036854775807 ∧ ∀ (x_2 : List Int), List.Mem x_2 (pairsL q (((x : Nat) : Int)).toNat ++ pairI (((x : Nat) :
      Int)).toNat (besL q (((x : Nat) : Int)).toNat q.snd.snd.length) x_1) → x_2.length = 2 ∧ ∀ (x : Int), List.Mem x x_2 → inR IntKind.i64 x) → inR IntKind.i64 ((x_1 : Nat) : Int) → split (decide (((x_1 :
      Nat) : Int) < ((r.length : Nat) : Int))) ((0 ≤ ((x_1 : Nat) : Int) ∧ ((x_1 : Nat) : Int) < ((r.length : Nat) : Int)) ∧ (inR IntKind.i64 (r.getD (((x_1 : Nat) : Int)).toNat 0) → split (decide (((x :
      Nat) : Int) < r.getD (((x_1 : Nat) : Int)).toNat 0)) ((pairsL q (((x : Nat) : Int)).toNat ++ pairI (((x : Nat) : Int)).toNat (besL q (((x : Nat) : Int)).toNat q.snd.snd.length) x_1).length + [[((x :
      Nat) : Int), r.getD (((x_1 : Nat) : Int)).toNat 0]].length ≤ 4294967296 ∧ (-9223372036854775808 ≤ ((x_1 : Nat) : Int) + 1 ∧ ((x_1 : Nat) : Int) + 1 ≤ 9223372036854775807) ∧ ∃ (x' : Nat), (Slot.own
      (Ty.slice 58 (Ty.arr 2 (Ty.int IntKind.i64))) (pairsL q (((x : Nat) : Int)).toNat ++ pairI (((x : Nat) : Int)).toNat (besL q (((x : Nat) : Int)).toNat q.snd.snd.length) x_1 ++ [[((x : Nat) : Int),
      r.getD (((x_1 : Nat) : Int)).toNat 0]]) = Slot.own (Ty.slice 58 pT) (pairsL q (((x : Nat) : Int)).toNat ++ pairI (((x : Nat) : Int)).toNat (besL q (((x : Nat) : Int)).toNat q.snd.snd.length) x') ∧
      Slot.val (D.dat (Ty.int IntKind.i64) (((x_1 : Nat) : Int) + 1)) = Slot.val (D.dat iT ((x' : Nat) : Int))) ∧ x' ≤ (besL q (((x : Nat) : Int)).toNat q.snd.snd.length).length ∧ (besL q (((x : Nat) :
      Int)).toNat q.snd.snd.length).length - x' < (besL q (((x : Nat) : Int)).toNat q.snd.snd.length).length - x_1) ((-9223372036854775808 ≤ ((x_1 : Nat) : Int) + 1 ∧ ((x_1 : Nat) : Int) + 1 ≤
      9223372036854775807) ∧ ∃ (x' : Nat), (Slot.own (Ty.slice 58 pT) (pairsL q (((x : Nat) : Int)).toNat ++ pairI (((x : Nat) : Int)).toNat (besL q (((x : Nat) : Int)).toNat q.snd.snd.length) x_1) =
      Slot.own (Ty.slice 58 pT) (pairsL q (((x : Nat) : Int)).toNat ++ pairI (((x : Nat) : Int)).toNat (besL q (((x : Nat) : Int)).toNat q.snd.snd.length) x') ∧ Slot.val (D.dat (Ty.int IntKind.i64) (((x_1
      : Nat) : Int) + 1)) = Slot.val (D.dat iT ((x' : Nat) : Int))) ∧ x' ≤ (besL q (((x : Nat) : Int)).toNat q.snd.snd.length).length ∧ (besL q (((x : Nat) : Int)).toNat q.snd.snd.length).length - x' <
      (besL q (((x : Nat) : Int)).toNat q.snd.snd.length).length - x_1))) ((-9223372036854775808 ≤ ((x : Nat) : Int) + 1 ∧ ((x : Nat) : Int) + 1 ≤ 9223372036854775807) ∧ ∃ (x' : Nat), (Slot.own (Ty.slice
      58 pT) (pairsL q (((x : Nat) : Int)).toNat ++ pairI (((x : Nat) : Int)).toNat (besL q (((x : Nat) : Int)).toNat q.snd.snd.length) x_1) = Slot.own (Ty.slice 58 pT) (pairsL q x') ∧ Slot.val (D.dat
      (Ty.int IntKind.i64) (((x : Nat) : Int) + 1)) = Slot.val (D.dat iT ((x' : Nat) : Int))) ∧ x' ≤ q.snd.snd.length ∧ q.snd.snd.length - x' < q.snd.snd.length - x))) (pairsL q x = pairsL q
      q.snd.snd.length))) := by
    intros
    refine ⟨_, sizeS_ev _, ?_⟩
    intros
    refine ⟨⟨0, ⟨rfl, rfl⟩, Nat.zero_le _⟩, fun i hi _ _ => split_of (fun h => ?_) (fun h => ?_)⟩
    · have h := of_decide_eq_true h
      have hn2 := k.n
      have hil : i < q.2.2.length := by omega
      have hl := pairsL_len (q := q) i
      have hl2 : i * q.2.2.length ≤ 60 * 60 := Nat.mul_le_mul (by omega) (by omega)
      have hb := besL_len q i q.2.2.length
      simp only [Int.toNat_natCast]
      intros
      refine ⟨_, beside_ev q k i hil, ?_⟩
      intros
      refine ⟨⟨0, ⟨by simp [pairI], rfl⟩, Nat.zero_le _⟩, fun n hn _ _ => split_of (fun h2 => ?_) (fun h2 => ?_)⟩
      · have h2 := of_decide_eq_true h2
        have hp := pairI_len i (besL q i q.2.2.length) n
        have hnl : n < (besL q i q.2.2.length).length := by omega
        refine ⟨by omega, ?_⟩
        intros
        refine split_of (fun h3 => ?_) (fun h3 => ?_)
        · have h3 := of_decide_eq_true h3
          refine ⟨?_, by omega, n + 1, ⟨?_, by simp⟩, by omega, by omega⟩
          · simp only [List.length_append, List.length_cons, List.length_nil]; omega
          · rw [pairI_succ i _ hnl, if_pos h3, List.append_assoc]
        · have h3 := of_decide_eq_false h3
          refine ⟨by omega, n + 1, ⟨?_, by simp⟩, by omega, by omega⟩
          rw [pairI_succ i _ hnl, if_neg h3, List.append_nil]
      · have h2 := of_decide_eq_false h2
        refine ⟨by omega, i + 1, ⟨?_, by simp⟩, by omega, by omega⟩
        have : n = (besL q i q.2.2.length).length := by omega
        subst this
        rw [pairsL_succ, pairI_all i hb]
    · have h := of_decide_eq_false h
      have : i = q.2.2.length := by omega
      rw [this]
  refine @Eq.mpr _ _ (?_) key
  kernel_rfl
def offV (l : List Int) (p : List Int) : Int := max2 (l.getD (p.getD 0 0).toNat 0 - l.getD (p.getD 1 0).toNat 0) (-(l.getD (p.getD 0 0).toNat 0 - l.getD (p.getD 1 0).toNat 0))
structure PairOk (l : List Int) (p : List Int) : Prop where
  fst : 0 ≤ p.getD 0 0 ∧ p.getD 0 0 < (l.length : Int)
  snd : 0 ≤ p.getD 1 0 ∧ p.getD 1 0 < (l.length : Int)
  lev : ∀ i : Nat, i < l.length → -100 ≤ l.getD i 0 ∧ l.getD i 0 ≤ 100
theorem difference_ev (l p : List Int) (k : PairOk l p) : Ev Try.prog 81 [aIs l, .imm (.dat pT p)] (compsOf [rI] (offV l p)) := by
  refine ev_of (l := [rI]) (r := (offV l p)) (types (resT) [] (fun _ _ => none)) follows Try.func81 (by kernel_rfl) (by rw [Try.ntmps81]; exact Nat.le_of_ble_eq_true rfl) ?_
  have key : ((l.length ≤ 9223372036854775807 ∧ ∀ (x : Int), List.Mem x l → inR IntKind.i64 x) → (p.length = 2 ∧ ∀ (x : Int), List.Mem x p → inR IntKind.i64 x) → ((0 : Int) ≤ 0 ∧ 0 < ((2 : Nat) : Int)) ∧ (inR
      IntKind.i64 (p.getD (Int.toNat 0) 0) → (0 ≤ p.getD (Int.toNat 0) 0 ∧ p.getD (Int.toNat 0) 0 < ((l.length : Nat) : Int)) ∧ (inR IntKind.i64 (l.getD (p.getD (Int.toNat 0) 0).toNat 0) → ((0 : Int) ≤ 1 ∧
      1 < ((2 : Nat) : Int)) ∧ (inR IntKind.i64 (p.getD (Int.toNat 1) 0) → (0 ≤ p.getD (Int.toNat 1) 0 ∧ p.getD (Int.toNat 1) 0 < ((l.length : Nat) : Int)) ∧ (inR IntKind.i64 (l.getD (p.getD (Int.toNat 1)
      0).toNat 0) → (-9223372036854775808 ≤ l.getD (p.getD (Int.toNat 0) 0).toNat 0 - l.getD (p.getD (Int.toNat 1) 0).toNat 0 ∧ l.getD (p.getD (Int.toNat 0) 0).toNat 0 - l.getD (p.getD (Int.toNat 1)
      0).toNat 0 ≤ 9223372036854775807) ∧ (-9223372036854775808 ≤ -(l.getD (p.getD (Int.toNat 0) 0).toNat 0 - l.getD (p.getD (Int.toNat 1) 0).toNat 0) ∧ -(l.getD (p.getD (Int.toNat 0) 0).toNat 0 - l.getD
      (p.getD (Int.toNat 1) 0).toNat 0) ≤ 9223372036854775807) ∧ (-9223372036854775808 ≤ -(l.getD (p.getD (Int.toNat 0) 0).toNat 0 - l.getD (p.getD (Int.toNat 1) 0).toNat 0) ∧ -(l.getD (p.getD (Int.toNat
      0) 0).toNat 0 - l.getD (p.getD (Int.toNat 1) 0).toNat 0) ≤ 9223372036854775807) ∧ max2 (l.getD (p.getD (Int.toNat 0) 0).toNat 0 - l.getD (p.getD (Int.toNat 1) 0).toNat 0) (-(l.getD (p.getD (Int.toNat
      0) 0).toNat 0 - l.getD (p.getD (Int.toNat 1) 0).toNat 0)) = offV l p))))) := by
    obtain ⟨a1, a2⟩ := k.fst
    obtain ⟨b1, b2⟩ := k.snd
    have c1 := k.lev (p.getD 0 0).toNat (by omega)
    have c2 := k.lev (p.getD 1 0).toNat (by omega)
    have e0 : Int.toNat 0 = 0 := rfl
    have e1 : Int.toNat 1 = 1 := rfl
    simp only [e0, e1]
    repeat' (first
      | (intro hh; try simp only [inR, loK, hiK] at hh)
      | exact trivial
      | (refine And.intro ?_ ?_)
      | (refine split_of (fun hh => ?_) (fun hh => ?_) <;> (try (first | replace hh := not_t hh | replace hh := not_f hh)) <;> (try (first | replace hh := of_decide_eq_true hh | replace hh := of_decide_eq_false hh))))
    all_goals (first | omega | rfl)
  refine @Eq.mpr _ _ (?_) key
  kernel_rfl
def bestF (l : List Int) (s : List Int × Int) (p : List Int) : List Int × Int := if s.2 < offV l p then (p, offV l p) else s
def bestV (l : List Int) (ps : List (List Int)) : List Int × Int := ps.foldl (bestF l) ([0, 0], -1)
theorem best_succ (l : List Int) (ps : List (List Int)) {i : Nat} (h : i < ps.length) : bestV l (ps.take (i + 1)) = bestF l (bestV l (ps.take i)) (ps.getD i [0, 0]) := by
  unfold bestV
  have : ps.take (i + 1) = ps.take i ++ [ps.getD i [0, 0]] := by
    rw [List.take_add_one, List.getElem?_eq_getElem h]
    simp [List.getD_eq_getElem?_getD, h]
  rw [this, List.foldl_append]; rfl
theorem pair_ok {q : Sq} {l : List Int} (h : levB q l (-100) 100 = true) {p : List Int} (hp : p ∈ pairsL q q.2.2.length) : PairOk l p := by
  obtain ⟨_, h2, h3⟩ := levB_at h
  obtain ⟨i, j, hi, hj, rfl⟩ := pairs_mem (Nat.le_refl _) hp
  exact ⟨by simp; omega, by simp; omega, h3⟩
theorem getD_mem {α : Type} {l : List α} {i : Nat} {d : α} (h : i < l.length) : l.getD i d ∈ l := by
  have : l.getD i d = l[i] := by simp [List.getD_eq_getElem?_getD, h]
  rw [this]; exact List.getElem_mem _
noncomputable def worstV (q : Sq) (l : List Int) : List Int × Int × Int := if levB q l (-100) 100 then (if (bestV l (pairsL q q.2.2.length)).2 < 0 then ([0, 0], 0, 6) else ((bestV l (pairsL q q.2.2.length)).1, (bestV l (pairsL q q.2.2.length)).2, 0)) else ([0, 0], 0, 1)
noncomputable abbrev worstInv (q : Sq) (l : List Int) (n : Nat) (σ : List Slot) : Option LoopInv := match n with
  | 5 => some ⟨7 :: hvAt Try.f35 5, Nat, fun i => [(7, .box (.dat pT (bestV l ((pairsL q q.2.2.length).take i)).1)), (8, .val (.dat iT (bestV l ((pairsL q q.2.2.length).take i)).2)), (21, .val (.dat iT (i : Int)))], fun i => i ≤ (pairsL q q.2.2.length).length, fun i => (pairsL q q.2.2.length).length - i⟩
  | _ => none
theorem implWorst_ev (q : Sq) (l : List Int) : Ev Try.prog 35 [aQ q, aIs l] (compsOf [(false, pT), rI, rI] (worstV q l)) := by
  refine ev_of (l := [(false, pT), rI, rI]) (r := (worstV q l)) (types (resT) [] (worstInv q l)) follows Try.func35 (by kernel_rfl) (by rw [Try.ntmps35]; exact Nat.le_of_ble_eq_true rfl) ?_
  have key : (inR IntKind.i8 q.fst → inR IntKind.i8 q.snd.fst → (q.snd.snd.length ≤ 9223372036854775807 ∧ ∀ (x : Int × Int × Int × Int), List.Mem x q.snd.snd → inR IntKind.i8 x.fst ∧ inR IntKind.i8 x.snd.fst ∧ inR
      IntKind.i8 x.snd.snd.fst ∧ inR IntKind.i8 x.snd.snd.snd) → (l.length ≤ 9223372036854775807 ∧ ∀ (x : Int), List.Mem x l → inR IntKind.i64 x) → inR IntKind.i8 q.fst → inR IntKind.i8 q.snd.fst →
      (q.snd.snd.length ≤ 9223372036854775807 ∧ ∀ (x : Int × Int × Int × Int), List.Mem x q.snd.snd → inR IntKind.i8 x.fst ∧ inR IntKind.i8 x.snd.fst ∧ inR IntKind.i8 x.snd.snd.fst ∧ inR IntKind.i8
      x.snd.snd.snd) → ∃ (r : Bool), Ev Try.prog 18 [Arg.imm (D.dat (sqT 41) q), Arg.imm (D.dat (Ty.slice 2 (Ty.int IntKind.i64)) l)] (compsOf [(false, Ty.bool)] r) ∧ split (!r) (List.replicate 2 0 =
      (worstV q l).fst ∧ 0 = (worstV q l).snd.fst ∧ 1 = (worstV q l).snd.snd) (inR IntKind.i8 q.fst → inR IntKind.i8 q.snd.fst → (q.snd.snd.length ≤ 9223372036854775807 ∧ ∀ (x : Int × Int × Int × Int),
      List.Mem x q.snd.snd → inR IntKind.i8 x.fst ∧ inR IntKind.i8 x.snd.fst ∧ inR IntKind.i8 x.snd.snd.fst ∧ inR IntKind.i8 x.snd.snd.snd) → ∃ (r : List (List Int)), Ev Try.prog 80 [Arg.imm (D.dat (sqT
      41) q)] (compsOf [(true, Ty.slice 58 (Ty.arr 2 (Ty.int IntKind.i64)))] r) ∧ ((r.length ≤ 9223372036854775807 ∧ ∀ (x : List Int), List.Mem x r → x.length = 2 ∧ ∀ (x_1 : Int), List.Mem x_1 x → inR
      IntKind.i64 x_1) → ((r.length : Nat) : Int) ≤ 9223372036854775807 → (∃ (x0 : Nat), (Slot.box (D.dat (Ty.arr 2 (Ty.int IntKind.i64)) (List.replicate 2 0)) = Slot.box (D.dat pT (bestV l (List.take x0
      (pairsL q q.snd.snd.length))).fst) ∧ Slot.val (D.dat (Ty.int IntKind.i64) (-1)) = Slot.val (D.dat iT (bestV l (List.take x0 (pairsL q q.snd.snd.length))).snd) ∧ Slot.val (D.dat (Ty.int IntKind.i64)
      0) = Slot.val (D.dat iT ((x0 : Nat) : Int))) ∧ x0 ≤ (pairsL q q.snd.snd.length).length) ∧ ∀ (x : Nat), x ≤ (pairsL q q.snd.snd.length).length → ((bestV l (List.take x (pairsL q
      q.snd.snd.length))).fst.length = 2 ∧ ∀ (x_1 : Int), List.Mem x_1 (bestV l (List.take x (pairsL q q.snd.snd.length))).fst → inR IntKind.i64 x_1) → inR IntKind.i64 (bestV l (List.take x (pairsL q
      q.snd.snd.length))).snd → inR IntKind.i64 ((x : Nat) : Int) → split (decide (((x : Nat) : Int) < ((r.length : Nat) : Int))) ((0 ≤ ((x : Nat) : Int) ∧ ((x : Nat) : Int) < ((r.length : Nat) : Int)) ∧
      (((r.getD (((x : Nat) : Int)).toNat (List.replicate 2 0)).length = 2 ∧ ∀ (x_1 : Int), List.Mem x_1 (r.getD (((x : Nat) : Int)).toNat (List.replicate 2 0)) → inR IntKind.i64 x_1) → ((r.getD (((x :
      Nat) : Int)).toNat (List.replicate 2 0)).length = 2 ∧ ∀ (x_1 : Int), List.Mem x_1 (r.getD (((x : Nat) : Int)).toNat (List.replicate 2 0)) → inR IntKind.i64 x_1) → ∃ (r_1 : Int), Ev Try.prog 81
      [Arg.imm (D.dat (Ty.slice 2 (Ty.int IntKind.i64)) l), Arg.imm (D.dat (Ty.arr 2 (Ty.int IntKind.i64)) (r.getD (((x : Nat) : Int)).toNat (List.replicate 2 0)))] (compsOf [(false, Ty.int IntKind.i64)]
      r_1) ∧ (inR IntKind.i64 r_1 → split (decide ((bestV l (List.take x (pairsL q q.snd.snd.length))).snd < r_1)) (((r.getD (((x : Nat) : Int)).toNat (List.replicate 2 0)).length = 2 ∧ ∀ (x_1 : Int),
      List.Mem x_1 (r.getD (((x : Nat) : Int)).toNat (List.replicate 2 0)) → inR IntKind.i64 x_1) → (-9223372036854775808 ≤ ((x : Nat) : Int) + 1 ∧ ((x : Nat) : Int) + 1 ≤ 9223372036854775807) ∧ ∃ (x' :
      Nat), (Slot.box (D.dat pT (r.getD (((x : Nat) : Int)).toNat (List.replicate 2 0))) = Slot.box (D.dat pT (bestV l (List.take x' (pairsL q q.snd.snd.length))).fst) ∧ Slot.val (D.dat (Ty.int
      IntKind.i64) r_1) = Slot.val (D.dat iT (bestV l (List.take x' (pairsL q q.snd.snd.length))).snd) ∧ Slot.val (D.dat (Ty.int IntKind.i64) (((x : Nat) : Int) + 1)) = Slot.val (D.dat iT ((x' : Nat) :
      Int))) ∧ x' ≤ (pairsL q q.snd.snd.length).length ∧ (pairsL q q.snd.snd.length).length - x' < (pairsL q q.snd.snd.length).length - x) ((-9223372036854775808 ≤ ((x : Nat) : Int) + 1 ∧ ((x : Nat) : Int)
      + 1 ≤ 9223372036854775807) ∧ ∃ (x' : Nat), (Slot.box (D.dat pT (bestV l (List.take x (pairsL q q.snd.snd.length))).fst) = Slot.box (D.dat pT (bestV l (List.take x' (pairsL q q.snd.snd.length))).fst)
      ∧ Slot.val (D.dat iT (bestV l (List.take x (pairsL q q.snd.snd.length))).snd) = Slot.val (D.dat iT (bestV l (List.take x' (pairsL q q.snd.snd.length))).snd) ∧ Slot.val (D.dat (Ty.int IntKind.i64)
      (((x : Nat) : Int) + 1)) = Slot.val (D.dat iT ((x' : Nat) : Int))) ∧ x' ≤ (pairsL q q.snd.snd.length).length ∧ (pairsL q q.snd.snd.length).length - x' < (pairsL q q.snd.snd.length).length - x))))
      (split (decide ((bestV l (List.take x (pairsL q q.snd.snd.length))).snd < 0)) (List.replicate 2 0 = (worstV q l).fst ∧ 0 = (worstV q l).snd.fst ∧ 6 = (worstV q l).snd.snd) (((bestV l (List.take x
      (pairsL q q.snd.snd.length))).fst.length = 2 ∧ ∀ (x_1 : Int), List.Mem x_1 (bestV l (List.take x (pairsL q q.snd.snd.length))).fst → inR IntKind.i64 x_1) → (bestV l (List.take x (pairsL q
      q.snd.snd.length))).fst = (worstV q l).fst ∧ (bestV l (List.take x (pairsL q q.snd.snd.length))).snd = (worstV q l).snd.fst ∧ 0 = (worstV q l).snd.snd))))) := by
    intros
    refine ⟨_, implValidLevels_ev _ _, split_of (fun h => ?_) (fun h => ?_)⟩
    · have h := not_t h
      unfold worstV; rw [h]; exact ⟨rfl, rfl, rfl⟩
    · have h := not_f h
      have k : OkQ q := okQ_iff.1 (levB_at h).1
      have hl := pairsL_len (q := q) q.2.2.length
      have hn2 := k.n
      have hl2 : q.2.2.length * q.2.2.length ≤ 60 * 60 := Nat.mul_le_mul (by omega) (by omega)
      intros
      refine ⟨_, pairs_ev q k, ?_⟩
      intros
      refine ⟨⟨0, ⟨rfl, rfl, rfl⟩, Nat.zero_le _⟩, fun n hn _ _ _ => split_of (fun h2 => ?_) (fun h2 => ?_)⟩
      · have h2 := of_decide_eq_true h2
        have hnl : n < (pairsL q q.2.2.length).length := by omega
        simp only [Int.toNat_natCast]
        refine ⟨by omega, ?_⟩
        intros
        refine ⟨_, difference_ev l _ (pair_ok h (getD_mem hnl)), ?_⟩
        intros
        have hb : bestV l ((pairsL q q.2.2.length).take (n + 1)) = bestF l (bestV l ((pairsL q q.2.2.length).take n)) ((pairsL q q.2.2.length).getD n (List.replicate 2 0)) := best_succ l (pairsL q q.2.2.length) hnl
        refine split_of (fun h3 => ?_) (fun h3 => ?_)
        · have h3 : _ < _ := of_decide_eq_true h3
          intros
          refine ⟨by omega, n + 1, ⟨?_, ?_, by simp⟩, by omega, by omega⟩
          · rw [hb, bestF, if_pos h3]
          · rw [hb, bestF, if_pos h3]
        · have h3 : ¬ _ < _ := of_decide_eq_false h3
          refine ⟨by omega, n + 1, ⟨?_, ?_, by simp⟩, by omega, by omega⟩
          · rw [hb, bestF, if_neg h3]
          · rw [hb, bestF, if_neg h3]
      · have h2 := of_decide_eq_false h2
        have e : n = (pairsL q q.2.2.length).length := by omega
        subst e
        rw [List.take_length]
        unfold worstV; rw [h, if_pos rfl]
        refine split_of (fun h3 => ?_) (fun h3 => ?_)
        · have h3 := of_decide_eq_true h3
          rw [if_pos h3]; exact ⟨rfl, rfl, rfl⟩
        · have h3 := of_decide_eq_false h3
          rw [if_neg h3]; exact fun _ => ⟨rfl, rfl, rfl⟩
  refine @Eq.mpr _ _ (?_) key
  kernel_rfl
end Go.Proofs.Ytmjijggkdbiijaa
