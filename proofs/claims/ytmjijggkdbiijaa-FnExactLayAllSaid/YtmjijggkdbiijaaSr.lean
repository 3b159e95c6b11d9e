/- The law on the number of joints. No statement is proved here. -/
import Derived.Test.YtmjijggkdbiijaaSq
namespace Go.Proofs.Ytmjijggkdbiijaa
open Go.RowKit
set_option linter.unusedVariables false
set_option linter.unusedSimpArgs false
set_option maxRecDepth 100000
set_option maxHeartbeats 4000000
def bit (b : Bool) : Nat := if b then 1 else 0
def sumL {α : Type} (f : α → Nat) : List α → Nat
  | [] => 0
  | a :: l => f a + sumL f l
theorem sumL_append {α : Type} (f : α → Nat) : ∀ l m : List α, sumL f (l ++ m) = sumL f l + sumL f m
  | [], m => by simp [sumL]
  | a :: l, m => by simp only [List.cons_append, sumL, sumL_append f l m]; omega
theorem sumL_snoc {α : Type} (f : α → Nat) {l : List α} {i : Nat} {d : α} (h : i < l.length) : sumL f (l.take (i + 1)) = sumL f (l.take i) + f (l.getD i d) := by
  rw [take_next' (d := d) h, sumL_append]; simp [sumL]
theorem sumL_le {α : Type} {f : α → Nat} {n : Nat} (h : ∀ a, f a ≤ n) : ∀ l : List α, sumL f l ≤ l.length * n
  | [] => by simp [sumL]
  | a :: l => by have := sumL_le h l; have := h a; simp only [sumL, List.length_cons, Nat.succ_mul]; omega
theorem sumL_take_le {α : Type} {f : α → Nat} {n : Nat} (h : ∀ a, f a ≤ n) (l : List α) (i : Nat) : sumL f (l.take i) ≤ l.length * n :=
  Nat.le_trans (sumL_le h _) (Nat.mul_le_mul_right _ (by rw [List.length_take]; omega))
theorem sumL_congr {α : Type} {f g : α → Nat} : ∀ {l : List α}, (∀ a ∈ l, f a = g a) → sumL f l = sumL g l
  | [], _ => rfl
  | a :: l, h => by rw [sumL, sumL, h a List.mem_cons_self, sumL_congr fun b hb => h b (List.mem_cons_of_mem _ hb)]
/-- The sum over the points of a box. -/
def sumR (f : Nat → Nat) : Nat → Nat
  | 0 => 0
  | n + 1 => sumR f n + f n
theorem sumR_congr {f g : Nat → Nat} : ∀ {n : Nat}, (∀ i, i < n → f i = g i) → sumR f n = sumR g n
  | 0, _ => rfl
  | n + 1, h => by rw [sumR, sumR, sumR_congr fun i hi => h i (by omega), h n (by omega)]
theorem sumR_add (f g : Nat → Nat) : ∀ n : Nat, sumR (fun i => f i + g i) n = sumR f n + sumR g n
  | 0 => rfl
  | n + 1 => by rw [sumR, sumR, sumR, sumR_add f g n]; omega
theorem sumR_shift (f : Nat → Nat) : ∀ n : Nat, sumR (fun i => f (i + 1)) n + f 0 = sumR f (n + 1)
  | 0 => by simp [sumR]
  | n + 1 => by rw [sumR, sumR, ← sumR_shift f n]; omega
theorem sumL_range {α : Type} (f : α → Nat) (g : Nat → List α) : ∀ n : Nat, sumL f ((List.range n).flatMap g) = sumR (fun i => sumL f (g i)) n
  | 0 => rfl
  | n + 1 => by rw [List.range_succ, List.flatMap_append, sumL_append, sumL_range f g n, sumR]; simp [sumL]
theorem sum_row (f : Int × Int → Nat) (y : Int) : ∀ w : Nat, sumL f (rowP (fun _ _ => true) y w) = sumR (fun x => f (x, y)) w
  | 0 => rfl
  | w + 1 => by rw [rowP_succ, if_pos rfl, sumL_append, sum_row f y w, sumR]; simp [sumL]
theorem sum_box (f : Int × Int → Nat) (w h : Nat) : sumL f (cellsN (fun _ _ => true) w h) = sumR (fun y => sumR (fun x => f (x, y)) w) h := by
  unfold cellsN
  rw [sumL_range]
  exact sumR_congr fun y _ => sum_row f y w
def ptsV (q : Sq) : Cl := cellsV (q.1 + 1, q.2.1 + 1, []) fun _ _ => true
theorem pts_b {q : Sq} {p : Int × Int} (k : OkQ q) (h : p ∈ ptsV q) : (0 ≤ p.1 ∧ p.1 ≤ 12) ∧ 0 ≤ p.2 ∧ p.2 ≤ 12 := by
  have hb1 := edge_b k.w
  have hb2 := edge_b k.h
  simp only [ptsV, cellsV, cellsN, rowP, List.mem_flatMap, List.mem_map, List.mem_filter, List.mem_range] at h
  obtain ⟨y, hy, x, ⟨hx, _⟩, rfl⟩ := h
  constructor <;> constructor <;> (simp only) <;> omega
theorem pts_le {q : Sq} (k : OkQ q) : (ptsV q).length ≤ 169 := by
  have hb1 := edge_b k.w
  have hb2 := edge_b k.h
  have e : (q.2.1 + 1).toNat * (q.1 + 1).toNat ≤ 13 * 13 := Nat.mul_le_mul (by omega) (by omega)
  exact Nat.le_trans (cellsN_le _ _ _) e
def wayC (q : Sq) (p : Int × Int) : Nat := (waysN q p 4).length
def edgeC (g : Gr) (p : Int × Int) : Nat := bit (edgeG g p 1) + bit (edgeG g p 2)
noncomputable def countV (q : Sq) : Int × Int := if okQ q then (((sumL (wayC q) (ptsV q) : Nat) : Int).tdiv 2, 0) else (0, 1)
theorem getD_mem' {α : Type} {l : List α} {i : Nat} {d : α} (h : i < l.length) : l.getD i d ∈ l := by
  rw [List.getD_eq_getElem?_getD, List.getElem?_eq_getElem h]; exact List.getElem_mem _
noncomputable abbrev countInv (q : Sq) (n : Nat) (σ : List Slot) : Option LoopInv := match n with
  | 5 => some ⟨hvAt Try.f33 5, Nat, fun i => [(4, .val (.dat (.int .i64) ((sumL (wayC q) ((ptsV q).take i) : Nat) : Int))), (13, .val (.dat (.int .i64) i))], fun i => i ≤ (ptsV q).length, fun i => (ptsV q).length - i⟩
  | _ => none
theorem countJoints_ev (q : Sq) : Ev Try.prog 33 [aQ q] (compsOf [rI, rI] (countV q)) := by
  refine ev_of (l := [rI, rI]) (r := (countV q)) (types (resT) [] (countInv q)) follows Try.func33 (by kernel_rfl) (by rw [Try.ntmps33]; exact Nat.le_of_ble_eq_true rfl) ?_
  have key : (inR IntKind.i8 q.fst → inR IntKind.i8 q.snd.fst → (q.snd.snd.length ≤ 9223372036854775807 ∧ ∀ (x : Int × Int × Int × Int), List.Mem x q.snd.snd → inR IntKind.i8 x.fst ∧ inR IntKind.i8 x.snd.fst ∧ inR
      IntKind.i8 x.snd.snd.fst ∧ inR IntKind.i8 x.snd.snd.snd) → inR IntKind.i8 q.fst → inR IntKind.i8 q.snd.fst → (q.snd.snd.length ≤ 9223372036854775807 ∧ ∀ (x : Int × Int × Int × Int), List.Mem x
      q.snd.snd → inR IntKind.i8 x.fst ∧ inR IntKind.i8 x.snd.fst ∧ inR IntKind.i8 x.snd.snd.fst ∧ inR IntKind.i8 x.snd.snd.snd) → ∃ (r : Bool), Ev Try.prog 61 [Arg.imm (D.dat (sqT 41) q)] (compsOf
      [(false, Ty.bool)] r) ∧ split (!r) (0 = (countV q).fst ∧ 1 = (countV q).snd) (inR IntKind.i8 q.fst → inR IntKind.i8 q.snd.fst → (q.snd.snd.length ≤ 9223372036854775807 ∧ ∀ (x : Int × Int × Int ×
      Int), List.Mem x q.snd.snd → inR IntKind.i8 x.fst ∧ inR IntKind.i8 x.snd.fst ∧ inR IntKind.i8 x.snd.snd.fst ∧ inR IntKind.i8 x.snd.snd.snd) → ∃ (r : List (Int × Int)), Ev Try.prog 74 [Arg.imm (D.dat
      (sqT 41) q)] (compsOf [(true, Ty.slice 52 ((Ty.int IntKind.i8).prod (Ty.int IntKind.i8)))] r) ∧ ((r.length ≤ 9223372036854775807 ∧ ∀ (x : Int × Int), List.Mem x r → inR IntKind.i8 x.fst ∧ inR
      IntKind.i8 x.snd) → ((r.length : Nat) : Int) ≤ 9223372036854775807 → (∃ (x0 : Nat), (Slot.val (D.dat (Ty.int IntKind.i64) 0) = Slot.val (D.dat (Ty.int IntKind.i64) (((sumL (wayC q) (List.take x0
      (ptsV q))) : Nat) : Int)) ∧ Slot.val (D.dat (Ty.int IntKind.i64) 0) = Slot.val (D.dat (Ty.int IntKind.i64) ((x0 : Nat) : Int))) ∧ x0 ≤ List.length (ptsV q)) ∧ ∀ (x : Nat), x ≤ List.length (ptsV q) →
      inR IntKind.i64 (((sumL (wayC q) (List.take x (ptsV q))) : Nat) : Int) → inR IntKind.i64 ((x : Nat) : Int) → split (decide (((x : Nat) : Int) < ((r.length : Nat) : Int))) ((0 ≤ ((x : Nat) : Int) ∧
      ((x : Nat) : Int) < ((r.length : Nat) : Int)) ∧ (inR IntKind.i8 (r.getD (((x : Nat) : Int)).toNat (0, 0)).fst → inR IntKind.i8 (r.getD (((x : Nat) : Int)).toNat (0, 0)).snd → inR IntKind.i8 q.fst →
      inR IntKind.i8 q.snd.fst → (q.snd.snd.length ≤ 9223372036854775807 ∧ ∀ (x : Int × Int × Int × Int), List.Mem x q.snd.snd → inR IntKind.i8 x.fst ∧ inR IntKind.i8 x.snd.fst ∧ inR IntKind.i8
      x.snd.snd.fst ∧ inR IntKind.i8 x.snd.snd.snd) → inR IntKind.i8 (r.getD (((x : Nat) : Int)).toNat (0, 0)).fst → inR IntKind.i8 (r.getD (((x : Nat) : Int)).toNat (0, 0)).snd → ∃ (r_1 : List Int), Ev
      Try.prog 76 [Arg.imm (D.dat (sqT 41) q), Arg.imm (D.dat cellT (r.getD (((x : Nat) : Int)).toNat (0, 0)))] (compsOf [(true, Ty.slice 2 (Ty.int IntKind.i64))] r_1) ∧ ((r_1.length ≤ 9223372036854775807
      ∧ ∀ (x : Int), List.Mem x r_1 → inR IntKind.i64 x) → ∃ (r : Int), Ev Try.prog 75 [Arg.imm (D.dat (Ty.slice 2 (Ty.int IntKind.i64)) r_1)] (compsOf [(false, Ty.int IntKind.i64)] r) ∧ (inR IntKind.i64 r
      → (-9223372036854775808 ≤ (((sumL (wayC q) (List.take x (ptsV q))) : Nat) : Int) + r ∧ (((sumL (wayC q) (List.take x (ptsV q))) : Nat) : Int) + r ≤ 9223372036854775807) ∧ (-9223372036854775808 ≤ ((x
      : Nat) : Int) + 1 ∧ ((x : Nat) : Int) + 1 ≤ 9223372036854775807) ∧ ∃ (x' : Nat), (Slot.val (D.dat (Ty.int IntKind.i64) ((((sumL (wayC q) (List.take x (ptsV q))) : Nat) : Int) + r)) = Slot.val (D.dat
      (Ty.int IntKind.i64) (((sumL (wayC q) (List.take x' (ptsV q))) : Nat) : Int)) ∧ Slot.val (D.dat (Ty.int IntKind.i64) (((x : Nat) : Int) + 1)) = Slot.val (D.dat (Ty.int IntKind.i64) ((x' : Nat) :
      Int))) ∧ x' ≤ List.length (ptsV q) ∧ List.length (ptsV q) - x' < List.length (ptsV q) - x)))) ((2 : Int) ≠ 0 ∧ (-9223372036854775808 ≤ ((((sumL (wayC q) (List.take x (ptsV q))) : Nat) : Int)).tdiv 2
      ∧ ((((sumL (wayC q) (List.take x (ptsV q))) : Nat) : Int)).tdiv 2 ≤ 9223372036854775807) ∧ ((((sumL (wayC q) (List.take x (ptsV q))) : Nat) : Int)).tdiv 2 = (countV q).fst ∧ 0 = (countV q).snd)))) := by
    intros
    refine ⟨_, valid_ev q, split_of (fun h => by simp [countV, not_t h]) (fun h => ?_)⟩
    have h := not_f h
    have k := okQ_iff.1 h
    have hb1 := edge_b k.w
    have hb2 := edge_b k.h
    have hl := pts_le k
    intros
    refine ⟨ptsV q, corners_ev q (by omega) (by omega), ?_⟩
    intros
    refine ⟨⟨0, ⟨rfl, rfl⟩, by omega⟩, fun i hi _ _ => split_of (fun h2 => ?_) (fun h2 => ?_)⟩
    · have h2 := of_decide_eq_true h2
      have hm : (ptsV q).getD i (0, 0) ∈ ptsV q := getD_mem' (by omega)
      have hp := pts_b k hm
      refine ⟨by omega, ?_⟩
      simp only [Int.toNat_natCast]
      intros
      refine ⟨_, ways_ev q _ hp.1 hp.2, ?_⟩
      intros
      refine ⟨_, sizeI_ev _, fun _ => ?_⟩
      have e := sumL_take_le (f := wayC q) (n := 4) (fun p => waysN_le q p 4) (ptsV q) i
      have e2 := waysN_le q ((ptsV q).getD i (0, 0)) 4
      refine ⟨by omega, by omega, i + 1, ⟨?_, rfl⟩, by omega, by omega⟩
      rw [sumL_snoc (wayC q) (d := (0, 0)) (by omega)]; rfl
    · have h2 := of_decide_eq_false h2
      have hi : i = (ptsV q).length := by omega
      have e := sumL_take_le (f := wayC q) (n := 4) (fun p => waysN_le q p 4) (ptsV q) i
      refine ⟨by omega, ?_, ?_⟩
      · rw [Int.tdiv_eq_ediv_of_nonneg (by omega)]; omega
      · rw [hi, List.take_length, countV, if_pos h]; exact ⟨rfl, rfl⟩
  refine @Eq.mpr _ _ (?_) key
  kernel_rfl
noncomputable def countS (q : Sq) : Int × Int := if okQ q then (((sumL (edgeC (layV q).1) (ptsV q) : Nat) : Int), 0) else (0, 1)
def edgeP (g : Gr) (p : Int × Int) (w : Int) : Nat := if w = 1 then 0 else if w = 2 then bit (edgeG g p 1) else edgeC g p
theorem bit_le (b : Bool) : bit b ≤ 1 := by cases b <;> decide
theorem edgeC_le (g : Gr) (p : Int × Int) : edgeC g p ≤ 2 := Nat.add_le_add (bit_le _) (bit_le _)
theorem edgeP_le (g : Gr) (p : Int × Int) (w : Int) : edgeP g p w ≤ 2 := by
  unfold edgeP
  have := bit_le (edgeG g p 1)
  have := edgeC_le g p
  split
  · omega
  · split <;> omega
theorem edgeP_step {g : Gr} {p : Int × Int} {w : Nat} (h : w = 1 ∨ w = 2) : edgeP g p ((w + 1 : Nat) : Int) = edgeP g p w + bit (edgeG g p w) := by
  rcases h with rfl | rfl
  · show bit (edgeG g p 1) = 0 + bit (edgeG g p 1)
    omega
  · rfl
noncomputable abbrev countSInv (q : Sq) (n : Nat) (σ : List Slot) : Option LoopInv := match n with
  | 7 => some ⟨6 :: hvAt Try.f32 7, Nat, fun i => [(6, .val (.dat (.int .i64) ((sumL (edgeC (layV q).1) ((ptsV q).take i) : Nat) : Int))), (8, .val (.dat (.int .i64) i))], fun i => i ≤ (ptsV q).length, fun i => (ptsV q).length - i⟩
  | 10 => some ⟨6 :: hvAt Try.f32 10, Nat, fun w => [(6, .val (.dat (.int .i64) ((sumL (edgeC (layV q).1) ((ptsV q).take (iAt σ 8).toNat) + edgeP (layV q).1 ((ptsV q).getD (iAt σ 8).toNat (0, 0)) w : Nat) : Int))), (9, .val (.dat (.int .i64) w))], fun w => 1 ≤ w ∧ w ≤ 3, fun w => 3 - w⟩
  | _ => none
theorem specCountJoints_ev (q : Sq) : Ev Try.prog 32 [aQ q] (compsOf [rI, rI] (countS q)) := by
  refine ev_of (l := [rI, rI]) (r := (countS q)) (types (resT) [] (countSInv q)) follows Try.func32 (by kernel_rfl) (by rw [Try.ntmps32]; exact Nat.le_of_ble_eq_true rfl) ?_
  have key : (inR IntKind.i8 q.fst → inR IntKind.i8 q.snd.fst → (q.snd.snd.length ≤ 9223372036854775807 ∧ ∀ (x : Int × Int × Int × Int), List.Mem x q.snd.snd → inR IntKind.i8 x.fst ∧ inR IntKind.i8 x.snd.fst ∧ inR
      IntKind.i8 x.snd.snd.fst ∧ inR IntKind.i8 x.snd.snd.snd) → ∃ (r : List (List Int) × Int), Ev Try.prog 68 [Arg.imm (D.dat (sqT 41) q).ref, Arg.imm (D.dat (Ty.slice 52 cellT) []), Arg.imm (D.dat
      Ty.bool true)] (compsOf [(false, Ty.arr 12 (Ty.arr 12 (Ty.int IntKind.i64))), (false, Ty.int IntKind.i64)] r) ∧ ((r.fst.length = 12 ∧ ∀ (x : List Int), List.Mem x r.fst → x.length = 12 ∧ ∀ (x_1 :
      Int), List.Mem x_1 x → inR IntKind.i64 x_1) → inR IntKind.i64 r.snd → split (!decide (r.snd = 0)) (0 = (countS q).fst ∧ r.snd = (countS q).snd) (∃ (r_1 : List (Int × Int)), Ev Try.prog 72 [Arg.imm
      (D.dat (sqT 41) q).ref] (compsOf [(true, Ty.slice 52 ((Ty.int IntKind.i8).prod (Ty.int IntKind.i8)))] r_1) ∧ ((r_1.length ≤ 9223372036854775807 ∧ ∀ (x : Int × Int), List.Mem x r_1 → inR IntKind.i8
      x.fst ∧ inR IntKind.i8 x.snd) → (∃ (x0 : Nat), (Slot.val (D.dat (Ty.int IntKind.i64) 0) = Slot.val (D.dat (Ty.int IntKind.i64) (((sumL (edgeC (layV q).fst) (List.take x0 (ptsV q))) : Nat) : Int)) ∧
      Slot.val (D.dat (Ty.int IntKind.i64) 0) = Slot.val (D.dat (Ty.int IntKind.i64) ((x0 : Nat) : Int))) ∧ x0 ≤ List.length (ptsV q)) ∧ ∀ (x : Nat), x ≤ List.length (ptsV q) → inR IntKind.i64 (((sumL
      (edgeC (layV q).fst) (List.take x (ptsV q))) : Nat) : Int) → inR IntKind.i64 ((x : Nat) : Int) → ((r_1.length : Nat) : Int) ≤ 9223372036854775807 → split (decide (((x : Nat) : Int) < ((r_1.length :
      Nat) : Int))) ((∃ (x0 : Nat), (Slot.val (D.dat (Ty.int IntKind.i64) (((sumL (edgeC (layV q).fst) (List.take x (ptsV q))) : Nat) : Int)) = Slot.val (D.dat (Ty.int IntKind.i64) (((sumL (edgeC (layV
      q).fst) (List.take (((x : Nat) : Int)).toNat (ptsV q)) + edgeP (layV q).fst (List.getD (ptsV q) (((x : Nat) : Int)).toNat (0, 0)) ((x0 : Nat) : Int)) : Nat) : Int)) ∧ Slot.val (D.dat (Ty.int
      IntKind.i64) 1) = Slot.val (D.dat (Ty.int IntKind.i64) ((x0 : Nat) : Int))) ∧ 1 ≤ x0 ∧ x0 ≤ 3) ∧ ∀ (x_1 : Nat), 1 ≤ x_1 ∧ x_1 ≤ 3 → inR IntKind.i64 (((sumL (edgeC (layV q).fst) (List.take (((x : Nat)
      : Int)).toNat (ptsV q)) + edgeP (layV q).fst (List.getD (ptsV q) (((x : Nat) : Int)).toNat (0, 0)) ((x_1 : Nat) : Int)) : Nat) : Int) → inR IntKind.i64 ((x_1 : Nat) : Int) → split (decide (((x_1 :
      Nat) : Int) ≤ 2)) ((0 ≤ ((x : Nat) : Int) ∧ ((x : Nat) : Int) < ((r_1.length : Nat) : Int)) ∧ (inR IntKind.i8 (r_1.getD (((x : Nat) : Int)).toNat (0, 0)).fst → inR IntKind.i8 (r_1.getD (((x : Nat) :
      Int)).toNat (0, 0)).snd → ∃ (r_2 : Bool), Ev Try.prog 73 [Arg.imm (D.dat (Ty.arr 12 (Ty.arr 12 (Ty.int IntKind.i64))) r.fst).ref, Arg.imm (D.dat cellT (r_1.getD (((x : Nat) : Int)).toNat (0, 0))),
      Arg.imm (D.dat (Ty.int IntKind.i64) ((x_1 : Nat) : Int))] (compsOf [(false, Ty.bool)] r_2) ∧ split r_2 ((-9223372036854775808 ≤ (((sumL (edgeC (layV q).fst) (List.take (((x : Nat) : Int)).toNat (ptsV
      q)) + edgeP (layV q).fst (List.getD (ptsV q) (((x : Nat) : Int)).toNat (0, 0)) ((x_1 : Nat) : Int)) : Nat) : Int) + 1 ∧ (((sumL (edgeC (layV q).fst) (List.take (((x : Nat) : Int)).toNat (ptsV q)) +
      edgeP (layV q).fst (List.getD (ptsV q) (((x : Nat) : Int)).toNat (0, 0)) ((x_1 : Nat) : Int)) : Nat) : Int) + 1 ≤ 9223372036854775807) ∧ (-9223372036854775808 ≤ ((x_1 : Nat) : Int) + 1 ∧ ((x_1 : Nat)
      : Int) + 1 ≤ 9223372036854775807) ∧ ∃ (x' : Nat), (Slot.val (D.dat (Ty.int IntKind.i64) ((((sumL (edgeC (layV q).fst) (List.take (((x : Nat) : Int)).toNat (ptsV q)) + edgeP (layV q).fst (List.getD
      (ptsV q) (((x : Nat) : Int)).toNat (0, 0)) ((x_1 : Nat) : Int)) : Nat) : Int) + 1)) = Slot.val (D.dat (Ty.int IntKind.i64) (((sumL (edgeC (layV q).fst) (List.take (((x : Nat) : Int)).toNat (ptsV q))
      + edgeP (layV q).fst (List.getD (ptsV q) (((x : Nat) : Int)).toNat (0, 0)) ((x' : Nat) : Int)) : Nat) : Int)) ∧ Slot.val (D.dat (Ty.int IntKind.i64) (((x_1 : Nat) : Int) + 1)) = Slot.val (D.dat
      (Ty.int IntKind.i64) ((x' : Nat) : Int))) ∧ (1 ≤ x' ∧ x' ≤ 3) ∧ 3 - x' < 3 - x_1) ((-9223372036854775808 ≤ ((x_1 : Nat) : Int) + 1 ∧ ((x_1 : Nat) : Int) + 1 ≤ 9223372036854775807) ∧ ∃ (x' : Nat),
      (Slot.val (D.dat (Ty.int IntKind.i64) (((sumL (edgeC (layV q).fst) (List.take (((x : Nat) : Int)).toNat (ptsV q)) + edgeP (layV q).fst (List.getD (ptsV q) (((x : Nat) : Int)).toNat (0, 0)) ((x_1 :
      Nat) : Int)) : Nat) : Int)) = Slot.val (D.dat (Ty.int IntKind.i64) (((sumL (edgeC (layV q).fst) (List.take (((x : Nat) : Int)).toNat (ptsV q)) + edgeP (layV q).fst (List.getD (ptsV q) (((x : Nat) :
      Int)).toNat (0, 0)) ((x' : Nat) : Int)) : Nat) : Int)) ∧ Slot.val (D.dat (Ty.int IntKind.i64) (((x_1 : Nat) : Int) + 1)) = Slot.val (D.dat (Ty.int IntKind.i64) ((x' : Nat) : Int))) ∧ (1 ≤ x' ∧ x' ≤
      3) ∧ 3 - x' < 3 - x_1))) ((-9223372036854775808 ≤ ((x : Nat) : Int) + 1 ∧ ((x : Nat) : Int) + 1 ≤ 9223372036854775807) ∧ ∃ (x' : Nat), (Slot.val (D.dat (Ty.int IntKind.i64) (((sumL (edgeC (layV
      q).fst) (List.take (((x : Nat) : Int)).toNat (ptsV q)) + edgeP (layV q).fst (List.getD (ptsV q) (((x : Nat) : Int)).toNat (0, 0)) ((x_1 : Nat) : Int)) : Nat) : Int)) = Slot.val (D.dat (Ty.int
      IntKind.i64) (((sumL (edgeC (layV q).fst) (List.take x' (ptsV q))) : Nat) : Int)) ∧ Slot.val (D.dat (Ty.int IntKind.i64) (((x : Nat) : Int) + 1)) = Slot.val (D.dat (Ty.int IntKind.i64) ((x' : Nat) :
      Int))) ∧ x' ≤ List.length (ptsV q) ∧ List.length (ptsV q) - x' < List.length (ptsV q) - x)) ((((sumL (edgeC (layV q).fst) (List.take x (ptsV q))) : Nat) : Int) = (countS q).fst ∧ 0 = (countS
      q).snd))))) := by
    intros
    refine ⟨_, l06Told_ev q [] true, fun _ => ?_⟩
    rw [show (toldV q [] true).2 = cornerI q [] from cornerI_told _ _, show (toldV q [] true).1 = (layV q).1 from rfl]
    refine fun _ => split_of (fun h => ?_) (fun h => ?_)
    · have h := of_decide_eq_false (not_t h)
      have h0 : okQ q = false := by cases r : okQ q with
        | false => rfl
        | true => exact absurd (by simp [cornerI, askedI, r]) h
      simp [countS, cornerI, askedI, h0]
    · have h := (corner0 (of_decide_eq_true (not_f h))).1
      have k := okQ_iff.1 h
      have hb1 := edge_b k.w
      have hb2 := edge_b k.h
      have hl := pts_le k
      refine ⟨ptsV q, points_ev q (by omega) (by omega), fun _ => ?_⟩
      refine ⟨⟨0, ⟨rfl, rfl⟩, by omega⟩, fun i hi _ _ _ => split_of (fun h2 => ?_) (fun h2 => ?_)⟩
      · have h2 := of_decide_eq_true h2
        have hm : (ptsV q).getD i (0, 0) ∈ ptsV q := getD_mem' (by omega)
        have hp := pts_b k hm
        have e := sumL_take_le (f := edgeC (layV q).1) (n := 2) (edgeC_le _) (ptsV q) i
        simp only [Int.toNat_natCast]
        refine ⟨⟨1, ⟨rfl, rfl⟩, by omega⟩, fun w hw _ _ => split_of (fun h3 => ?_) (fun h3 => ?_)⟩
        · have h3 := of_decide_eq_true h3
          refine ⟨by omega, ?_⟩
          intros
          refine ⟨_, l06Edge_ev _ _ _ hp.1 hp.2, ?_⟩
          have hc : w = 1 ∨ w = 2 := by omega
          have e4 := edgeP_le (layV q).1 ((ptsV q).getD i (0, 0)) w
          refine split_of (fun h4 => ⟨by omega, by omega, w + 1, ⟨?_, rfl⟩, by omega, by omega⟩) (fun h4 => ⟨by omega, w + 1, ⟨?_, rfl⟩, by omega, by omega⟩)
          · rw [edgeP_step hc, h4]; rfl
          · rw [edgeP_step hc, h4]; rfl
        · have h3 := of_decide_eq_false h3
          have hw : w = 3 := by omega
          rw [hw]
          refine ⟨by omega, i + 1, ⟨?_, rfl⟩, by omega, by omega⟩
          rw [sumL_snoc (edgeC (layV q).1) (d := (0, 0)) (by omega)]; rfl
      · have h2 := of_decide_eq_false h2
        have hi : i = (ptsV q).length := by omega
        rw [hi, List.take_length, countS, if_pos h]; exact ⟨rfl, rfl⟩
  refine @Eq.mpr _ _ (?_) key
  kernel_rfl
theorem way_is {q : Sq} (k : OkQ q) (p : Int × Int) (w : Nat) (h : w < 4) : (sidesV q p (nextC p w)).2.2 = edgeG (layV q).1 p w := by
  match w, h with
  | 0, _ => exact (sidesN q p (p.1, p.2 - 1) rfl rfl).trans (jointG_is k p.1 (p.2 - 1) false).symm
  | 1, _ => exact (sidesE q p (p.1 + 1, p.2) rfl rfl).trans (jointG_is k p.1 p.2 true).symm
  | 2, _ => exact (sidesS q p (p.1, p.2 + 1) rfl rfl).trans (jointG_is k p.1 p.2 false).symm
  | 3, _ => exact (sidesW q p (p.1 - 1, p.2) rfl rfl).trans (jointG_is k (p.1 - 1) p.2 true).symm
theorem wayC_is {q : Sq} (k : OkQ q) (p : Int × Int) : wayC q p = bit (jointG (layV q).1 p.1 (p.2 - 1) false) + bit (jointG (layV q).1 p.1 p.2 true) + bit (jointG (layV q).1 p.1 p.2 false) + bit (jointG (layV q).1 (p.1 - 1) p.2 true) := by
  have step : ∀ n, n < 4 → (waysN q p (n + 1)).length = (waysN q p n).length + bit (edgeG (layV q).1 p n) := by
    intro n hn
    rw [waysN_succ, way_is k p n hn]
    cases edgeG (layV q).1 p n
    · rfl
    · simp [bit]
  unfold wayC
  rw [step 3 (by omega), step 2 (by omega), step 1 (by omega), step 0 (by omega)]
  show 0 + _ + _ + _ + _ = _
  rw [Nat.zero_add]; rfl
theorem joint_in {q : Sq} (k : OkQ q) {x y : Int} {c : Bool} (h : jointG (layV q).1 x y c = true) : (0 ≤ x ∧ x < q.1) ∧ 0 ≤ y ∧ y < q.2.1 := by
  rw [jointG_is k] at h
  have hc : covI q.2.2 x y ≠ 0 := by
    cases c
    · exact (jointC_cov.1 (by simpa using h)).1
    · exact (jointC_cov.1 (by simpa using h)).1
  obtain ⟨t, ht, hc⟩ := List.any_eq_true.1 (covI_iff.1 hc)
  have hin := slabIn_b (ok_mem k ht)
  have := covB_iff.1 hc
  omega
theorem joint_no {q : Sq} (k : OkQ q) {x y : Int} {c : Bool} (h : ¬ ((0 ≤ x ∧ x < q.1) ∧ 0 ≤ y ∧ y < q.2.1)) : bit (jointG (layV q).1 x y c) = 0 := by
  cases r : jointG (layV q).1 x y c with
  | false => rfl
  | true => exact absurd (joint_in k r) h
theorem sumR_zero {f : Nat → Nat} : ∀ {n : Nat}, (∀ i, i < n → f i = 0) → sumR f n = 0
  | 0, _ => rfl
  | n + 1, h => by rw [sumR, sumR_zero fun i hi => h i (by omega), h n (by omega)]
theorem shift_same {f : Int → Nat} {n : Nat} (h0 : f (-1) = 0) (h1 : f n = 0) : sumR (fun i => f ((i : Int) - 1)) (n + 1) = sumR (fun i => f i) (n + 1) := by
  rw [← sumR_shift, sumR]
  have e : sumR (fun i => f (((i + 1 : Nat) : Int) - 1)) n = sumR (fun i => f i) n := sumR_congr fun i _ => by rw [show ((i + 1 : Nat) : Int) - 1 = i by omega]
  rw [e, h1]
  show _ + f (-1) = _
  rw [h0]
theorem sum_twice {q : Sq} (k : OkQ q) : sumL (wayC q) (ptsV q) = 2 * sumL (edgeC (layV q).1) (ptsV q) := by
  have hb1 := edge_b k.w
  have hb2 := edge_b k.h
  have ew : (q.1 + 1).toNat = q.1.toNat + 1 := by omega
  have eh : (q.2.1 + 1).toNat = q.2.1.toNat + 1 := by omega
  have cw : ((q.1.toNat : Nat) : Int) = q.1 := by omega
  have ch : ((q.2.1.toNat : Nat) : Int) = q.2.1 := by omega
  show sumL _ (cellsN _ (q.1 + 1).toNat (q.2.1 + 1).toNat) = 2 * sumL _ (cellsN _ (q.1 + 1).toNat (q.2.1 + 1).toNat)
  rw [sum_box, sum_box, ew, eh]
  have e1 : sumR (fun y => sumR (fun x => wayC q ((x : Int), (y : Int))) (q.1.toNat + 1)) (q.2.1.toNat + 1) =
      sumR (fun y => sumR (fun x => bit (jointG (layV q).1 x ((y : Int) - 1) false)) (q.1.toNat + 1)) (q.2.1.toNat + 1)
      + sumR (fun y => sumR (fun x => bit (jointG (layV q).1 x y true)) (q.1.toNat + 1)) (q.2.1.toNat + 1)
      + sumR (fun y => sumR (fun x => bit (jointG (layV q).1 x y false)) (q.1.toNat + 1)) (q.2.1.toNat + 1)
      + sumR (fun y => sumR (fun x => bit (jointG (layV q).1 ((x : Int) - 1) y true)) (q.1.toNat + 1)) (q.2.1.toNat + 1) := by
    rw [← sumR_add, ← sumR_add, ← sumR_add]
    refine sumR_congr fun y _ => ?_
    rw [← sumR_add, ← sumR_add, ← sumR_add]
    exact sumR_congr fun x _ => wayC_is k _
  have e2 : sumR (fun y => sumR (fun x => edgeC (layV q).1 ((x : Int), (y : Int))) (q.1.toNat + 1)) (q.2.1.toNat + 1) =
      sumR (fun y => sumR (fun x => bit (jointG (layV q).1 x y true)) (q.1.toNat + 1)) (q.2.1.toNat + 1)
      + sumR (fun y => sumR (fun x => bit (jointG (layV q).1 x y false)) (q.1.toNat + 1)) (q.2.1.toNat + 1) := by
    rw [← sumR_add]
    refine sumR_congr fun y _ => ?_
    rw [← sumR_add]
    exact sumR_congr fun x _ => rfl
  have e3 : sumR (fun y => sumR (fun x => bit (jointG (layV q).1 x ((y : Int) - 1) false)) (q.1.toNat + 1)) (q.2.1.toNat + 1) = sumR (fun y => sumR (fun x => bit (jointG (layV q).1 x y false)) (q.1.toNat + 1)) (q.2.1.toNat + 1) :=
    shift_same (f := fun y => sumR (fun x => bit (jointG (layV q).1 x y false)) (q.1.toNat + 1)) (sumR_zero fun i _ => joint_no k (by omega)) (sumR_zero fun i _ => joint_no k (by omega))
  have e4 : sumR (fun y => sumR (fun x => bit (jointG (layV q).1 ((x : Int) - 1) y true)) (q.1.toNat + 1)) (q.2.1.toNat + 1) = sumR (fun y => sumR (fun x => bit (jointG (layV q).1 x y true)) (q.1.toNat + 1)) (q.2.1.toNat + 1) :=
    sumR_congr fun y _ => shift_same (f := fun x => bit (jointG (layV q).1 x y true)) (joint_no k (by omega)) (joint_no k (by omega))
  rw [e1, e2, e3, e4]
  omega
theorem count_is (q : Sq) : countV q = countS q := by
  unfold countV countS
  cases h : okQ q with
  | false => rfl
  | true =>
    rw [if_pos rfl, if_pos rfl, sum_twice (okQ_iff.1 h), Int.tdiv_eq_ediv_of_nonneg (by omega)]
    have : ((2 * sumL (edgeC (layV q).1) (ptsV q) : Nat) : Int) / 2 = (sumL (edgeC (layV q).1) (ptsV q) : Nat) := by omega
    rw [this]
theorem lawCountJoints_ev (q : Sq) : Ev Try.prog 7 [aQ0 q] (compsOf [rB] (true)) := by
  refine ev_of (l := [rB]) (r := (true)) (types (resT) [] (fun _ _ => none)) follows Try.func7 (by kernel_rfl) (by rw [Try.ntmps7]; exact Nat.le_of_ble_eq_true rfl) ?_
  have key : (inR IntKind.i8 q.fst → inR IntKind.i8 q.snd.fst → (q.snd.snd.length ≤ 9223372036854775807 ∧ ∀ (x : Int × Int × Int × Int), List.Mem x q.snd.snd → inR IntKind.i8 x.fst ∧ inR IntKind.i8 x.snd.fst ∧ inR
      IntKind.i8 x.snd.snd.fst ∧ inR IntKind.i8 x.snd.snd.snd) → inR IntKind.i8 q.fst → inR IntKind.i8 q.snd.fst → (q.snd.snd.length ≤ 9223372036854775807 ∧ ∀ (x : Int × Int × Int × Int), List.Mem x
      q.snd.snd → inR IntKind.i8 x.fst ∧ inR IntKind.i8 x.snd.fst ∧ inR IntKind.i8 x.snd.snd.fst ∧ inR IntKind.i8 x.snd.snd.snd) → ∃ (r : Int), Ev Try.prog 14 [Arg.imm (D.dat (sqT 38) q), Arg.imm (D.dat
      (Ty.int IntKind.i64) 1048576)] (compsOf [(false, Ty.int IntKind.i64)] r) ∧ (inR IntKind.i64 r → split (decide (r < 0)) (true = true) (inR IntKind.i8 q.fst → inR IntKind.i8 q.snd.fst →
      (q.snd.snd.length ≤ 9223372036854775807 ∧ ∀ (x : Int × Int × Int × Int), List.Mem x q.snd.snd → inR IntKind.i8 x.fst ∧ inR IntKind.i8 x.snd.fst ∧ inR IntKind.i8 x.snd.snd.fst ∧ inR IntKind.i8
      x.snd.snd.snd) → ∃ (r : Int × Int × List (Int × Int × Int × Int)), Ev Try.prog 16 [Arg.imm (D.dat (sqT 38) q)] (compsOf [(true, (Ty.int IntKind.i8).prod ((Ty.int IntKind.i8).prod (Ty.slice 41
      ((Ty.int IntKind.i8).prod ((Ty.int IntKind.i8).prod ((Ty.int IntKind.i8).prod (Ty.int IntKind.i8)))))))] r) ∧ (inR IntKind.i8 r.fst → inR IntKind.i8 r.snd.fst → (r.snd.snd.length ≤
      9223372036854775807 ∧ ∀ (x : Int × Int × Int × Int), List.Mem x r.snd.snd → inR IntKind.i8 x.fst ∧ inR IntKind.i8 x.snd.fst ∧ inR IntKind.i8 x.snd.snd.fst ∧ inR IntKind.i8 x.snd.snd.snd) → ∃ (r_1 :
      Int × Int), Ev Try.prog 32 [Arg.imm (D.dat (sqT 41) r)] (compsOf [(false, Ty.int IntKind.i64), (false, Ty.int IntKind.i64)] r_1) ∧ (inR IntKind.i64 r_1.fst → inR IntKind.i64 r_1.snd → inR IntKind.i8
      q.fst → inR IntKind.i8 q.snd.fst → (q.snd.snd.length ≤ 9223372036854775807 ∧ ∀ (x : Int × Int × Int × Int), List.Mem x q.snd.snd → inR IntKind.i8 x.fst ∧ inR IntKind.i8 x.snd.fst ∧ inR IntKind.i8
      x.snd.snd.fst ∧ inR IntKind.i8 x.snd.snd.snd) → ∃ (r : Int × Int × List (Int × Int × Int × Int)), Ev Try.prog 16 [Arg.imm (D.dat (sqT 38) q)] (compsOf [(true, (Ty.int IntKind.i8).prod ((Ty.int
      IntKind.i8).prod (Ty.slice 41 ((Ty.int IntKind.i8).prod ((Ty.int IntKind.i8).prod ((Ty.int IntKind.i8).prod (Ty.int IntKind.i8)))))))] r) ∧ (inR IntKind.i8 r.fst → inR IntKind.i8 r.snd.fst →
      (r.snd.snd.length ≤ 9223372036854775807 ∧ ∀ (x : Int × Int × Int × Int), List.Mem x r.snd.snd → inR IntKind.i8 x.fst ∧ inR IntKind.i8 x.snd.fst ∧ inR IntKind.i8 x.snd.snd.fst ∧ inR IntKind.i8
      x.snd.snd.snd) → inR IntKind.i8 r.fst → inR IntKind.i8 r.snd.fst → (r.snd.snd.length ≤ 9223372036854775807 ∧ ∀ (x : Int × Int × Int × Int), List.Mem x r.snd.snd → inR IntKind.i8 x.fst ∧ inR
      IntKind.i8 x.snd.fst ∧ inR IntKind.i8 x.snd.snd.fst ∧ inR IntKind.i8 x.snd.snd.snd) → ∃ (r_2 : Int × Int), Ev Try.prog 33 [Arg.imm (D.dat (sqT 41) r)] (compsOf [(false, Ty.int IntKind.i64), (false,
      Ty.int IntKind.i64)] r_2) ∧ (inR IntKind.i64 r_2.fst → inR IntKind.i64 r_2.snd → split (!!decide (r_2.fst = r_1.fst)) (split (!decide (r_2.snd = r_1.snd)) (false = true) (inR IntKind.i8 r.fst → inR
      IntKind.i8 r.snd.fst → (r.snd.snd.length ≤ 9223372036854775807 ∧ ∀ (x : Int × Int × Int × Int), List.Mem x r.snd.snd → inR IntKind.i8 x.fst ∧ inR IntKind.i8 x.snd.fst ∧ inR IntKind.i8 x.snd.snd.fst ∧
      inR IntKind.i8 x.snd.snd.snd) → inR IntKind.i8 q.fst → inR IntKind.i8 q.snd.fst → (q.snd.snd.length ≤ 9223372036854775807 ∧ ∀ (x : Int × Int × Int × Int), List.Mem x q.snd.snd → inR IntKind.i8 x.fst
      ∧ inR IntKind.i8 x.snd.fst ∧ inR IntKind.i8 x.snd.snd.fst ∧ inR IntKind.i8 x.snd.snd.snd) → ∃ (r_3 : Int × Int × List (Int × Int × Int × Int)), Ev Try.prog 16 [Arg.imm (D.dat (sqT 38) q)] (compsOf
      [(true, (Ty.int IntKind.i8).prod ((Ty.int IntKind.i8).prod (Ty.slice 41 ((Ty.int IntKind.i8).prod ((Ty.int IntKind.i8).prod ((Ty.int IntKind.i8).prod (Ty.int IntKind.i8)))))))] r_3) ∧ (inR IntKind.i8
      r_3.fst → inR IntKind.i8 r_3.snd.fst → (r_3.snd.snd.length ≤ 9223372036854775807 ∧ ∀ (x : Int × Int × Int × Int), List.Mem x r_3.snd.snd → inR IntKind.i8 x.fst ∧ inR IntKind.i8 x.snd.fst ∧ inR
      IntKind.i8 x.snd.snd.fst ∧ inR IntKind.i8 x.snd.snd.snd) → ∃ (r_4 : Bool), Ev Try.prog 19 [Arg.imm (D.dat (sqT 41) r), Arg.imm (D.dat (sqT 41) r_3)] (compsOf [(false, Ty.bool)] r_4) ∧ split (!r_4)
      (false = true) (true = true)))) (false = true)))))))) := by
    intros
    refine ⟨_, szSquare_ev q, fun _ => split_of (fun _ => rfl) (fun h => ?_)⟩
    have hl := sz_pos (of_decide_eq_false h)
    intros
    refine ⟨_, toSquare_ev q hl, ?_⟩
    intros
    refine ⟨_, specCountJoints_ev _, ?_⟩
    intros
    refine ⟨_, toSquare_ev q hl, ?_⟩
    intros
    refine ⟨_, countJoints_ev _, ?_⟩
    rw [count_is]
    intros
    refine split_of (fun _ => split_of (fun h => by simp at h) (fun _ => ?_)) (fun h => by simp at h)
    intros
    refine ⟨_, toSquare_ev q hl, ?_⟩
    intros
    refine ⟨_, eqSquare_ev _, ?_⟩
    exact split_of (fun h => by simp at h) (fun _ => rfl)
  refine @Eq.mpr _ _ (?_) key
  kernel_rfl
end Go.Proofs.Ytmjijggkdbiijaa
