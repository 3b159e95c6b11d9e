/- Slabs that are laid in an order: the program and the reference. No statement is proved here. -/
import Derived.Test.YtmjijggkdbiijaaVd
namespace Go.Proofs.Ytmjijggkdbiijaa
open Go.RowKit
set_option linter.unusedVariables false
set_option linter.unusedSimpArgs false
set_option maxRecDepth 100000
set_option maxHeartbeats 4000000
def zQ : Sq := (0, 0, [])
/-- Slabs laid one behind the other. -/
def layS2 (list : List Sl) : Sq → List Int → Sq × Int
  | q, [] => (q, 0)
  | q, i :: r => if q.2.2.length = 60 then (zQ, 3) else if canLayB q (sAt list i.toNat) then layS2 list (putV q (sAt list i.toNat)) r else (zQ, 4)
noncomputable def layAllV (q : Sq) (list : List Sl) (order : List Int) : Sq × Int :=
  if okQ q then (if 10 < list.length then (zQ, 3) else if orderB order list.length then layS2 list q order else (zQ, 4)) else (zQ, 1)
theorem drop_next {l : List Int} {i : Nat} (h : i < l.length) : l.drop i = l.getD i 0 :: l.drop (i + 1) := by
  rw [List.drop_eq_getElem_cons h]
  simp [List.getD_eq_getElem?_getD, h]
theorem order_in {l : List Int} {n : Nat} (h : orderB l n = true) {i : Nat} (hi : i < l.length) : 0 ≤ l.getD i 0 ∧ l.getD i 0 < (n : Int) := by
  simp only [orderB, Bool.and_eq_true, Bool.not_eq_true'] at h
  have := List.any_eq_false.1 h.2.2 _ (getD_in (d := 0) hi)
  simp only [Bool.not_eq_true, Bool.not_eq_false'] at this
  have := inB_iff.1 this
  omega
theorem canLay_put {q : Sq} {s : Sl} (h : canLayB q s = true) : canPutB q s = true := by
  simp only [canLayB, Bool.and_eq_true] at h; exact h.1
theorem l01Put_is {q : Sq} (k : OkQ q) (s : Sl) : l01PutV q s = putV q s := by
  unfold l01PutV; rw [isort_put k s]; rfl
theorem lay_full {list : List Sl} {q : Sq} {l : List Int} {i : Nat} (hi : i < l.length) (h : q.2.2.length = 60) : layS2 list q (l.drop i) = (zQ, 3) := by
  rw [drop_next hi, layS2, if_pos h]
theorem lay_bad {list : List Sl} {q : Sq} {l : List Int} {i : Nat} (hi : i < l.length) (h : ¬ q.2.2.length = 60) (h2 : canLayB q (sAt list (l.getD i 0).toNat) = false) : layS2 list q (l.drop i) = (zQ, 4) := by
  rw [drop_next hi, layS2, if_neg h, if_neg (by rw [h2]; simp)]
theorem lay_go {list : List Sl} {q : Sq} {l : List Int} {i : Nat} (hi : i < l.length) (h : ¬ q.2.2.length = 60) (h2 : canLayB q (sAt list (l.getD i 0).toNat) = true) : layS2 list q (l.drop i) = layS2 list (putV q (sAt list (l.getD i 0).toNat)) (l.drop (i + 1)) := by
  rw [drop_next hi, layS2, if_neg h, if_pos h2]
theorem lay_done {list : List Sl} {q : Sq} {l : List Int} : layS2 list q (l.drop l.length) = (q, 0) := by
  rw [List.drop_length]; rfl
theorem layAll0 {q : Sq} {list : List Sl} {order : List Int} (h : okQ q = true) (h2 : ¬ 10 < list.length) (h3 : orderB order list.length = true) : layAllV q list order = layS2 list q order := by
  unfold layAllV; rw [h, if_pos rfl, if_neg h2, if_pos h3]
noncomputable abbrev layImplInv (q : Sq) (list : List Sl) (order : List Int) (n : Nat) (σ : List Slot) : Option LoopInv := match n with
  | 9 => some ⟨3 :: 6 :: hvAt Try.f56 9, Nat × Sq, fun s => [(3, .boxo (sqT 41) s.2), (6, .boxo (sqT 41) (0, 0, [])), (33, .val (.dat iT (s.1 : Int)))], fun s => s.1 ≤ order.length ∧ OkQ s.2 ∧ layS2 list s.2 (order.drop s.1) = layS2 list q order, fun s => order.length - s.1⟩
  | _ => none
noncomputable abbrev laySpecInv (q : Sq) (list : List Sl) (order : List Int) (n : Nat) (σ : List Slot) : Option LoopInv := match n with
  | 10 => some ⟨8 :: 6 :: hvAt Try.f55 10, Nat × Sq, fun s => [(8, .boxo (sqT 41) s.2), (6, .boxo (sqT 41) (0, 0, [])), (9, .val (.dat .bool false)), (10, .val (.dat iT (s.1 : Int)))], fun s => s.1 ≤ order.length ∧ OkQ s.2 ∧ layS2 list s.2 (order.drop s.1) = layS2 list q order, fun s => order.length - s.1⟩
  | _ => none
theorem implLayAll_ev (q : Sq) (list : List Sl) (order : List Int) : Ev Try.prog 56 [aQ q, aSs list, aIs order] (compsOf [oQ, rI] (layAllV q list order)) := by
  refine ev_of (l := [oQ, rI]) (r := (layAllV q list order)) (types (resT) [] (layImplInv q list order)) follows Try.func56 (by kernel_rfl) (by rw [Try.ntmps56]; exact Nat.le_of_ble_eq_true rfl) ?_
  have key : (inR IntKind.i8 q.fst → inR IntKind.i8 q.snd.fst → (q.snd.snd.length ≤ 9223372036854775807 ∧ ∀ (x : Int × Int × Int × Int), List.Mem x q.snd.snd → inR IntKind.i8 x.fst ∧ inR IntKind.i8 x.snd.fst ∧ inR
      IntKind.i8 x.snd.snd.fst ∧ inR IntKind.i8 x.snd.snd.snd) → (list.length ≤ 9223372036854775807 ∧ ∀ (x : Int × Int × Int × Int), List.Mem x list → inR IntKind.i8 x.fst ∧ inR IntKind.i8 x.snd.fst ∧ inR
      IntKind.i8 x.snd.snd.fst ∧ inR IntKind.i8 x.snd.snd.snd) → (order.length ≤ 9223372036854775807 ∧ ∀ (x : Int), List.Mem x order → inR IntKind.i64 x) → inR IntKind.i8 q.fst → inR IntKind.i8 q.snd.fst →
      (q.snd.snd.length ≤ 9223372036854775807 ∧ ∀ (x : Int × Int × Int × Int), List.Mem x q.snd.snd → inR IntKind.i8 x.fst ∧ inR IntKind.i8 x.snd.fst ∧ inR IntKind.i8 x.snd.snd.fst ∧ inR IntKind.i8
      x.snd.snd.snd) → ∃ (r : Bool), Ev Try.prog 61 [Arg.imm (D.dat (sqT 41) q)] (compsOf [(false, Ty.bool)] r) ∧ split (!r) ((0, 0, []) = (layAllV q list order).fst ∧ 1 = (layAllV q list order).snd)
      (((list.length : Nat) : Int) ≤ 9223372036854775807 → split (decide (10 < ((list.length : Nat) : Int))) ((0, 0, []) = (layAllV q list order).fst ∧ 3 = (layAllV q list order).snd) (((list.length : Nat)
      : Int) ≤ 9223372036854775807 → ∃ (r : Bool), Ev Try.prog 104 [Arg.imm (D.dat (Ty.slice 2 (Ty.int IntKind.i64)) order), Arg.imm (D.dat (Ty.int IntKind.i64) ((list.length : Nat) : Int))] (compsOf
      [(false, Ty.bool)] r) ∧ split (!r) ((0, 0, []) = (layAllV q list order).fst ∧ 4 = (layAllV q list order).snd) (inR IntKind.i8 q.fst → inR IntKind.i8 q.snd.fst → (q.snd.snd.length ≤
      9223372036854775807 ∧ ∀ (x : Int × Int × Int × Int), List.Mem x q.snd.snd → inR IntKind.i8 x.fst ∧ inR IntKind.i8 x.snd.fst ∧ inR IntKind.i8 x.snd.snd.fst ∧ inR IntKind.i8 x.snd.snd.snd) →
      (q.snd.snd.length ≤ 9223372036854775807 ∧ ∀ (x : Int × Int × Int × Int), List.Mem x q.snd.snd → inR IntKind.i8 x.fst ∧ inR IntKind.i8 x.snd.fst ∧ inR IntKind.i8 x.snd.snd.fst ∧ inR IntKind.i8
      x.snd.snd.snd) → ∃ (r : Int × Int × List (Int × Int × Int × Int)), Ev Try.prog 101 [Arg.imm (D.dat (sqT 41) q), Arg.imm (D.dat (Ty.slice 41 slabT) q.snd.snd)] (compsOf [(true, (Ty.int
      IntKind.i8).prod ((Ty.int IntKind.i8).prod (Ty.slice 41 ((Ty.int IntKind.i8).prod ((Ty.int IntKind.i8).prod ((Ty.int IntKind.i8).prod (Ty.int IntKind.i8)))))))] r) ∧ (inR IntKind.i8 r.fst → inR
      IntKind.i8 r.snd.fst → (r.snd.snd.length ≤ 9223372036854775807 ∧ ∀ (x : Int × Int × Int × Int), List.Mem x r.snd.snd → inR IntKind.i8 x.fst ∧ inR IntKind.i8 x.snd.fst ∧ inR IntKind.i8 x.snd.snd.fst ∧
      inR IntKind.i8 x.snd.snd.snd) → ((order.length : Nat) : Int) ≤ 9223372036854775807 → (∃ (x0 : Nat × Int × Int × List (Int × Int × Int × Int)), (Slot.boxo (sqT 41) r = Slot.boxo (sqT 41) x0.snd ∧
      Slot.boxo (sqT 41) (0, 0, []) = Slot.boxo (sqT 41) (0, 0, []) ∧ Slot.val (D.dat (Ty.int IntKind.i64) 0) = Slot.val (D.dat iT ((x0.fst : Nat) : Int))) ∧ x0.fst ≤ order.length ∧ OkQ x0.snd ∧ layS2 list
      x0.snd (List.drop x0.fst order) = layS2 list q order) ∧ ∀ (x : Nat × Int × Int × List (Int × Int × Int × Int)), x.fst ≤ order.length ∧ OkQ x.snd ∧ layS2 list x.snd (List.drop x.fst order) = layS2
      list q order → inR IntKind.i8 x.snd.fst → inR IntKind.i8 x.snd.snd.fst → (x.snd.snd.snd.length ≤ 9223372036854775807 ∧ ∀ (x_1 : Int × Int × Int × Int), List.Mem x_1 x.snd.snd.snd → inR IntKind.i8
      x_1.fst ∧ inR IntKind.i8 x_1.snd.fst ∧ inR IntKind.i8 x_1.snd.snd.fst ∧ inR IntKind.i8 x_1.snd.snd.snd) → inR IntKind.i8 0 → inR IntKind.i8 0 → ((0 : Nat) ≤ 9223372036854775807 ∧ ∀ (x : Int × Int ×
      Int × Int), List.Mem x [] → inR IntKind.i8 x.fst ∧ inR IntKind.i8 x.snd.fst ∧ inR IntKind.i8 x.snd.snd.fst ∧ inR IntKind.i8 x.snd.snd.snd) → inR IntKind.i64 ((x.fst : Nat) : Int) → split (decide
      (((x.fst : Nat) : Int) < ((order.length : Nat) : Int))) ((0 ≤ ((x.fst : Nat) : Int) ∧ ((x.fst : Nat) : Int) < ((order.length : Nat) : Int)) ∧ (inR IntKind.i64 (order.getD (((x.fst : Nat) :
      Int)).toNat 0) → (x.snd.snd.snd.length ≤ 9223372036854775807 ∧ ∀ (x_1 : Int × Int × Int × Int), List.Mem x_1 x.snd.snd.snd → inR IntKind.i8 x_1.fst ∧ inR IntKind.i8 x_1.snd.fst ∧ inR IntKind.i8
      x_1.snd.snd.fst ∧ inR IntKind.i8 x_1.snd.snd.snd) → ((x.snd.snd.snd.length : Nat) : Int) ≤ 9223372036854775807 → split (decide (((x.snd.snd.snd.length : Nat) : Int) = 60)) ((0, 0, []) = (layAllV q
      list order).fst ∧ 3 = (layAllV q list order).snd) (inR IntKind.i8 x.snd.fst → inR IntKind.i8 x.snd.snd.fst → (x.snd.snd.snd.length ≤ 9223372036854775807 ∧ ∀ (x_1 : Int × Int × Int × Int), List.Mem
      x_1 x.snd.snd.snd → inR IntKind.i8 x_1.fst ∧ inR IntKind.i8 x_1.snd.fst ∧ inR IntKind.i8 x_1.snd.snd.fst ∧ inR IntKind.i8 x_1.snd.snd.snd) → (0 ≤ order.getD (((x.fst : Nat) : Int)).toNat 0 ∧
      order.getD (((x.fst : Nat) : Int)).toNat 0 < ((list.length : Nat) : Int)) ∧ (inR IntKind.i8 (list.getD (order.getD (((x.fst : Nat) : Int)).toNat 0).toNat (0, 0, 0, 0)).fst → inR IntKind.i8 (list.getD
      (order.getD (((x.fst : Nat) : Int)).toNat 0).toNat (0, 0, 0, 0)).snd.fst → inR IntKind.i8 (list.getD (order.getD (((x.fst : Nat) : Int)).toNat 0).toNat (0, 0, 0, 0)).snd.snd.fst → inR IntKind.i8
      (list.getD (order.getD (((x.fst : Nat) : Int)).toNat 0).toNat (0, 0, 0, 0)).snd.snd.snd → ∃ (r : Bool), Ev Try.prog 62 [Arg.imm (D.dat (sqT 41) x.snd), Arg.imm (D.dat slabT (list.getD (order.getD
      (((x.fst : Nat) : Int)).toNat 0).toNat (0, 0, 0, 0)))] (compsOf [(false, Ty.bool)] r) ∧ split (!r) ((0, 0, []) = (layAllV q list order).fst ∧ 4 = (layAllV q list order).snd) (inR IntKind.i8 x.snd.fst
      → inR IntKind.i8 x.snd.snd.fst → (x.snd.snd.snd.length ≤ 9223372036854775807 ∧ ∀ (x_1 : Int × Int × Int × Int), List.Mem x_1 x.snd.snd.snd → inR IntKind.i8 x_1.fst ∧ inR IntKind.i8 x_1.snd.fst ∧ inR
      IntKind.i8 x_1.snd.snd.fst ∧ inR IntKind.i8 x_1.snd.snd.snd) → (0 ≤ order.getD (((x.fst : Nat) : Int)).toNat 0 ∧ order.getD (((x.fst : Nat) : Int)).toNat 0 < ((list.length : Nat) : Int)) ∧ (inR
      IntKind.i8 (list.getD (order.getD (((x.fst : Nat) : Int)).toNat 0).toNat (0, 0, 0, 0)).fst → inR IntKind.i8 (list.getD (order.getD (((x.fst : Nat) : Int)).toNat 0).toNat (0, 0, 0, 0)).snd.fst → inR
      IntKind.i8 (list.getD (order.getD (((x.fst : Nat) : Int)).toNat 0).toNat (0, 0, 0, 0)).snd.snd.fst → inR IntKind.i8 (list.getD (order.getD (((x.fst : Nat) : Int)).toNat 0).toNat (0, 0, 0,
      0)).snd.snd.snd → ∃ (r : Int × Int × List (Int × Int × Int × Int)), Ev Try.prog 96 [Arg.imm (D.dat (sqT 41) x.snd), Arg.imm (D.dat slabT (list.getD (order.getD (((x.fst : Nat) : Int)).toNat 0).toNat
      (0, 0, 0, 0)))] (compsOf [(true, (Ty.int IntKind.i8).prod ((Ty.int IntKind.i8).prod (Ty.slice 41 ((Ty.int IntKind.i8).prod ((Ty.int IntKind.i8).prod ((Ty.int IntKind.i8).prod (Ty.int
      IntKind.i8)))))))] r) ∧ (inR IntKind.i8 r.fst → inR IntKind.i8 r.snd.fst → (r.snd.snd.length ≤ 9223372036854775807 ∧ ∀ (x : Int × Int × Int × Int), List.Mem x r.snd.snd → inR IntKind.i8 x.fst ∧ inR
      IntKind.i8 x.snd.fst ∧ inR IntKind.i8 x.snd.snd.fst ∧ inR IntKind.i8 x.snd.snd.snd) → (-9223372036854775808 ≤ ((x.fst : Nat) : Int) + 1 ∧ ((x.fst : Nat) : Int) + 1 ≤ 9223372036854775807) ∧ ∃ (x' :
      Nat × Int × Int × List (Int × Int × Int × Int)), (Slot.boxo (sqT 41) r = Slot.boxo (sqT 41) x'.snd ∧ Slot.boxo (sqT 41) (0, 0, []) = Slot.boxo (sqT 41) (0, 0, []) ∧ Slot.val (D.dat (Ty.int
      IntKind.i64) (((x.fst : Nat) : Int) + 1)) = Slot.val (D.dat iT ((x'.fst : Nat) : Int))) ∧ (x'.fst ≤ order.length ∧ OkQ x'.snd ∧ layS2 list x'.snd (List.drop x'.fst order) = layS2 list q order) ∧
      order.length - x'.fst < order.length - x.fst))))))) (inR IntKind.i8 x.snd.fst → inR IntKind.i8 x.snd.snd.fst → (x.snd.snd.snd.length ≤ 9223372036854775807 ∧ ∀ (x_1 : Int × Int × Int × Int), List.Mem
      x_1 x.snd.snd.snd → inR IntKind.i8 x_1.fst ∧ inR IntKind.i8 x_1.snd.fst ∧ inR IntKind.i8 x_1.snd.snd.fst ∧ inR IntKind.i8 x_1.snd.snd.snd) → x.snd = (layAllV q list order).fst ∧ 0 = (layAllV q list
      order).snd)))))) := by
    intros
    refine ⟨_, valid_ev q, split_of (fun h => ?_) (fun h => fun _ => split_of (fun h2 => ?_) (fun h2 => fun _ => ⟨_, isOrder_ev order list.length (by have := of_decide_eq_false h2; omega), split_of (fun h3 => ?_) (fun h3 => ?_)⟩))⟩
    · unfold layAllV; rw [not_t h]; exact ⟨rfl, rfl⟩
    · have h2 := of_decide_eq_true h2
      unfold layAllV; rw [not_f h, if_pos rfl, if_pos (by omega)]; exact ⟨rfl, rfl⟩
    · have h2 := of_decide_eq_false h2
      unfold layAllV; rw [not_f h, if_pos rfl, if_neg (by omega), if_neg (by rw [not_t h3]; simp)]; exact ⟨rfl, rfl⟩
    · have h2 := of_decide_eq_false h2
      have hq := not_f h
      have h3 := not_f h3
      have k := okQ_iff.1 hq
      have kn := k.n
      rw [layAll0 hq (by omega) h3]
      intros
      refine ⟨_, with_ev q _ (by omega), ?_⟩
      rw [with_self k]
      intros
      refine ⟨⟨(0, q), ⟨rfl, rfl, rfl⟩, by omega, k, rfl⟩, fun s ⟨hs1, ks, hs⟩ => ?_⟩
      obtain ⟨i, q'⟩ := s
      simp only at hs1 ks hs
      have kn' := ks.n
      intros
      refine split_of (fun h4 => ?_) (fun h4 => ?_)
      · have h4 : (i : Int) < order.length := of_decide_eq_true h4
        have hil : i < order.length := by omega
        have ho := order_in h3 hil
        simp only [Int.toNat_natCast]
        refine ⟨by omega, ?_⟩
        intros
        refine split_of (fun h5 => ?_) (fun h5 => ?_)
        · have h5 := of_decide_eq_true h5
          rw [← hs, lay_full hil (by omega)]; exact ⟨rfl, rfl⟩
        · have h5 := of_decide_eq_false h5
          intros
          refine ⟨by omega, ?_⟩
          intros
          refine ⟨_, canLay_ev q' _, split_of (fun h6 => ?_) (fun h6 => ?_)⟩
          · rw [← hs, lay_bad hil (by omega) (not_t h6)]; exact ⟨rfl, rfl⟩
          · have h6 := not_f h6
            intros
            refine ⟨by omega, ?_⟩
            intros
            refine ⟨_, put_ev q' _ (by omega), ?_⟩
            rw [with_put ks (canLay_put h6)]
            intros
            refine ⟨by omega, (i + 1, putV q' (sAt list (order.getD i 0).toNat)), by simp, ⟨by simp only; omega, put_ok ks (canLay_put h6) (by omega), ?_⟩, by simp only; omega⟩
            rw [← hs, lay_go hil (by omega) h6]
      · have h4 : ¬ (i : Int) < order.length := of_decide_eq_false h4
        obtain rfl : i = order.length := by omega
        intros
        rw [← hs, lay_done]; exact ⟨rfl, rfl⟩
  refine @Eq.mpr _ _ (?_) key
  kernel_rfl
theorem specLayAll_ev (q : Sq) (list : List Sl) (order : List Int) : Ev Try.prog 55 [aQ q, aSs list, aIs order] (compsOf [oQ, rI] (layAllV q list order)) := by
  refine ev_of (l := [oQ, rI]) (r := (layAllV q list order)) (types (resT) [10031027, 10031029] (laySpecInv q list order)) follows Try.func55 (by kernel_rfl) (by rw [Try.ntmps55]; exact Nat.le_of_ble_eq_true rfl) ?_
  have key : (inR IntKind.i8 q.fst → inR IntKind.i8 q.snd.fst → (q.snd.snd.length ≤ 9223372036854775807 ∧ ∀ (x : Int × Int × Int × Int), List.Mem x q.snd.snd → inR IntKind.i8 x.fst ∧ inR IntKind.i8 x.snd.fst ∧ inR
      IntKind.i8 x.snd.snd.fst ∧ inR IntKind.i8 x.snd.snd.snd) → (list.length ≤ 9223372036854775807 ∧ ∀ (x : Int × Int × Int × Int), List.Mem x list → inR IntKind.i8 x.fst ∧ inR IntKind.i8 x.snd.fst ∧ inR
      IntKind.i8 x.snd.snd.fst ∧ inR IntKind.i8 x.snd.snd.snd) → (order.length ≤ 9223372036854775807 ∧ ∀ (x : Int), List.Mem x order → inR IntKind.i64 x) → ∃ (r : Bool), Ev Try.prog 59 [Arg.imm (D.dat (sqT
      41) q).ref] (compsOf [(false, Ty.bool)] r) ∧ split (!r) ((0, 0, []) = (layAllV q list order).fst ∧ 1 = (layAllV q list order).snd) (((list.length : Nat) : Int) ≤ 9223372036854775807 → split (decide
      (10 < ((list.length : Nat) : Int))) ((0, 0, []) = (layAllV q list order).fst ∧ 3 = (layAllV q list order).snd) (((list.length : Nat) : Int) ≤ 9223372036854775807 → ∃ (r : Bool), Ev Try.prog 102
      [Arg.imm (D.dat (Ty.int IntKind.i64) ((list.length : Nat) : Int)), Arg.imm (D.dat (Ty.slice 2 (Ty.int IntKind.i64)) order)] (compsOf [(false, Ty.bool)] r) ∧ split (!r) ((0, 0, []) = (layAllV q list
      order).fst ∧ 4 = (layAllV q list order).snd) (inR IntKind.i8 q.fst → inR IntKind.i8 q.snd.fst → (q.snd.snd.length ≤ 9223372036854775807 ∧ ∀ (x : Int × Int × Int × Int), List.Mem x q.snd.snd → inR
      IntKind.i8 x.fst ∧ inR IntKind.i8 x.snd.fst ∧ inR IntKind.i8 x.snd.snd.fst ∧ inR IntKind.i8 x.snd.snd.snd) → (0 : Nat) + q.snd.snd.length ≤ 4294967296 ∧ (∃ (x0 : Nat × Int × Int × List (Int × Int ×
      Int × Int)), (Slot.boxo (sqT 41) (q.fst, q.snd.fst, [] ++ q.snd.snd) = Slot.boxo (sqT 41) x0.snd ∧ Slot.boxo (sqT 41) (0, 0, []) = Slot.boxo (sqT 41) (0, 0, []) ∧ Slot.val (D.dat Ty.bool false) =
      Slot.val (D.dat Ty.bool false) ∧ Slot.val (D.dat (Ty.int IntKind.i64) 0) = Slot.val (D.dat iT ((x0.fst : Nat) : Int))) ∧ x0.fst ≤ order.length ∧ OkQ x0.snd ∧ layS2 list x0.snd (List.drop x0.fst
      order) = layS2 list q order) ∧ ∀ (x : Nat × Int × Int × List (Int × Int × Int × Int)), x.fst ≤ order.length ∧ OkQ x.snd ∧ layS2 list x.snd (List.drop x.fst order) = layS2 list q order → inR
      IntKind.i8 x.snd.fst → inR IntKind.i8 x.snd.snd.fst → (x.snd.snd.snd.length ≤ 9223372036854775807 ∧ ∀ (x_1 : Int × Int × Int × Int), List.Mem x_1 x.snd.snd.snd → inR IntKind.i8 x_1.fst ∧ inR
      IntKind.i8 x_1.snd.fst ∧ inR IntKind.i8 x_1.snd.snd.fst ∧ inR IntKind.i8 x_1.snd.snd.snd) → inR IntKind.i8 0 → inR IntKind.i8 0 → ((0 : Nat) ≤ 9223372036854775807 ∧ ∀ (x : Int × Int × Int × Int),
      List.Mem x [] → inR IntKind.i8 x.fst ∧ inR IntKind.i8 x.snd.fst ∧ inR IntKind.i8 x.snd.snd.fst ∧ inR IntKind.i8 x.snd.snd.snd) → inR IntKind.i64 ((x.fst : Nat) : Int) → ((order.length : Nat) : Int) ≤
      9223372036854775807 → split (decide (((x.fst : Nat) : Int) < ((order.length : Nat) : Int))) ((x.snd.snd.snd.length ≤ 9223372036854775807 ∧ ∀ (x_1 : Int × Int × Int × Int), List.Mem x_1 x.snd.snd.snd
      → inR IntKind.i8 x_1.fst ∧ inR IntKind.i8 x_1.snd.fst ∧ inR IntKind.i8 x_1.snd.snd.fst ∧ inR IntKind.i8 x_1.snd.snd.snd) → ((x.snd.snd.snd.length : Nat) : Int) ≤ 9223372036854775807 → split (decide
      (((x.snd.snd.snd.length : Nat) : Int) = 60)) ((0, 0, []) = (layAllV q list order).fst ∧ 3 = (layAllV q list order).snd) ((0 ≤ ((x.fst : Nat) : Int) ∧ ((x.fst : Nat) : Int) < ((order.length : Nat) :
      Int)) ∧ (inR IntKind.i64 (order.getD (((x.fst : Nat) : Int)).toNat 0) → (0 ≤ order.getD (((x.fst : Nat) : Int)).toNat 0 ∧ order.getD (((x.fst : Nat) : Int)).toNat 0 < ((list.length : Nat) : Int)) ∧
      (inR IntKind.i8 (list.getD (order.getD (((x.fst : Nat) : Int)).toNat 0).toNat (0, 0, 0, 0)).fst → inR IntKind.i8 (list.getD (order.getD (((x.fst : Nat) : Int)).toNat 0).toNat (0, 0, 0, 0)).snd.fst →
      inR IntKind.i8 (list.getD (order.getD (((x.fst : Nat) : Int)).toNat 0).toNat (0, 0, 0, 0)).snd.snd.fst → inR IntKind.i8 (list.getD (order.getD (((x.fst : Nat) : Int)).toNat 0).toNat (0, 0, 0,
      0)).snd.snd.snd → ∃ (r : Bool), Ev Try.prog 60 [Arg.imm (D.dat (sqT 41) x.snd).ref, Arg.imm (D.dat slabT (list.getD (order.getD (((x.fst : Nat) : Int)).toNat 0).toNat (0, 0, 0, 0)))] (compsOf
      [(false, Ty.bool)] r) ∧ split (!r) ((0, 0, []) = (layAllV q list order).fst ∧ 4 = (layAllV q list order).snd) ((0 ≤ ((x.fst : Nat) : Int) ∧ ((x.fst : Nat) : Int) < ((order.length : Nat) : Int)) ∧
      (inR IntKind.i64 (order.getD (((x.fst : Nat) : Int)).toNat 0) → (0 ≤ order.getD (((x.fst : Nat) : Int)).toNat 0 ∧ order.getD (((x.fst : Nat) : Int)).toNat 0 < ((list.length : Nat) : Int)) ∧ (inR
      IntKind.i8 (list.getD (order.getD (((x.fst : Nat) : Int)).toNat 0).toNat (0, 0, 0, 0)).fst → inR IntKind.i8 (list.getD (order.getD (((x.fst : Nat) : Int)).toNat 0).toNat (0, 0, 0, 0)).snd.fst → inR
      IntKind.i8 (list.getD (order.getD (((x.fst : Nat) : Int)).toNat 0).toNat (0, 0, 0, 0)).snd.snd.fst → inR IntKind.i8 (list.getD (order.getD (((x.fst : Nat) : Int)).toNat 0).toNat (0, 0, 0,
      0)).snd.snd.snd → ∃ (r : Int × Int × List (Int × Int × Int × Int)), Ev Try.prog 103 [Arg.imm (D.dat (sqT 41) x.snd).ref, Arg.imm (D.dat slabT (list.getD (order.getD (((x.fst : Nat) : Int)).toNat
      0).toNat (0, 0, 0, 0)))] (compsOf [(true, (Ty.int IntKind.i8).prod ((Ty.int IntKind.i8).prod (Ty.slice 41 ((Ty.int IntKind.i8).prod ((Ty.int IntKind.i8).prod ((Ty.int IntKind.i8).prod (Ty.int
      IntKind.i8)))))))] r) ∧ (inR IntKind.i8 r.fst → inR IntKind.i8 r.snd.fst → (r.snd.snd.length ≤ 9223372036854775807 ∧ ∀ (x : Int × Int × Int × Int), List.Mem x r.snd.snd → inR IntKind.i8 x.fst ∧ inR
      IntKind.i8 x.snd.fst ∧ inR IntKind.i8 x.snd.snd.fst ∧ inR IntKind.i8 x.snd.snd.snd) → (-9223372036854775808 ≤ ((x.fst : Nat) : Int) + 1 ∧ ((x.fst : Nat) : Int) + 1 ≤ 9223372036854775807) ∧ ∃ (x' :
      Nat × Int × Int × List (Int × Int × Int × Int)), (Slot.boxo (sqT 41) r = Slot.boxo (sqT 41) x'.snd ∧ Slot.boxo (sqT 41) (0, 0, []) = Slot.boxo (sqT 41) (0, 0, []) ∧ Slot.val (D.dat Ty.bool false) =
      Slot.val (D.dat Ty.bool false) ∧ Slot.val (D.dat (Ty.int IntKind.i64) (((x.fst : Nat) : Int) + 1)) = Slot.val (D.dat iT ((x'.fst : Nat) : Int))) ∧ (x'.fst ≤ order.length ∧ OkQ x'.snd ∧ layS2 list
      x'.snd (List.drop x'.fst order) = layS2 list q order) ∧ order.length - x'.fst < order.length - x.fst)))))))) (inR IntKind.i8 x.snd.fst → inR IntKind.i8 x.snd.snd.fst → (x.snd.snd.snd.length ≤
      9223372036854775807 ∧ ∀ (x_1 : Int × Int × Int × Int), List.Mem x_1 x.snd.snd.snd → inR IntKind.i8 x_1.fst ∧ inR IntKind.i8 x_1.snd.fst ∧ inR IntKind.i8 x_1.snd.snd.fst ∧ inR IntKind.i8
      x_1.snd.snd.snd) → x.snd = (layAllV q list order).fst ∧ 0 = (layAllV q list order).snd))))) := by
    intros
    refine ⟨_, l01Ok_ev q, ?_⟩
    rw [(layV_is q).1]
    refine split_of (fun h => ?_) (fun h => fun _ => split_of (fun h2 => ?_) (fun h2 => fun _ => ⟨_, l05Each_ev order list.length (by have := of_decide_eq_false h2; omega), split_of (fun h3 => ?_) (fun h3 => ?_)⟩))
    · unfold layAllV; rw [not_t h]; exact ⟨rfl, rfl⟩
    · have h2 := of_decide_eq_true h2
      unfold layAllV; rw [not_f h, if_pos rfl, if_pos (by omega)]; exact ⟨rfl, rfl⟩
    · have h2 := of_decide_eq_false h2
      unfold layAllV; rw [not_f h, if_pos rfl, if_neg (by omega), if_neg (by rw [not_t h3]; simp)]; exact ⟨rfl, rfl⟩
    · have h2 := of_decide_eq_false h2
      have hq := not_f h
      have h3 := not_f h3
      have k := okQ_iff.1 hq
      have kn := k.n
      rw [layAll0 hq (by omega) h3]
      intros
      refine ⟨by omega, ?_⟩
      refine ⟨⟨(0, q), ⟨rfl, rfl, rfl, rfl⟩, by omega, k, rfl⟩, fun s ⟨hs1, ks, hs⟩ => ?_⟩
      obtain ⟨i, q'⟩ := s
      simp only at hs1 ks hs
      have kn' := ks.n
      intros
      refine split_of (fun h4 => ?_) (fun h4 => ?_)
      · have h4 : (i : Int) < order.length := of_decide_eq_true h4
        have hil : i < order.length := by omega
        have ho := order_in h3 hil
        simp only [Int.toNat_natCast]
        intros
        refine split_of (fun h5 => ?_) (fun h5 => ?_)
        · have h5 := of_decide_eq_true h5
          rw [← hs, lay_full hil (by omega)]; exact ⟨rfl, rfl⟩
        · have h5 := of_decide_eq_false h5
          intros
          refine ⟨by omega, ?_⟩
          intros
          refine ⟨by omega, ?_⟩
          intros
          refine ⟨_, l05Can_ev q' _ ks, split_of (fun h6 => ?_) (fun h6 => ?_)⟩
          · rw [← hs, lay_bad hil (by omega) (not_t h6)]; exact ⟨rfl, rfl⟩
          · have h6 := not_f h6
            intros
            refine ⟨by omega, ?_⟩
            intros
            refine ⟨by omega, ?_⟩
            intros
            refine ⟨_, l01Put_ev q' _ (by omega), ?_⟩
            rw [l01Put_is ks]
            intros
            refine ⟨by omega, (i + 1, putV q' (sAt list (order.getD i 0).toNat)), by simp, ⟨by simp only; omega, put_ok ks (canLay_put h6) (by omega), ?_⟩, by simp only; omega⟩
            rw [← hs, lay_go hil (by omega) h6]
      · have h4 : ¬ (i : Int) < order.length := of_decide_eq_false h4
        obtain rfl : i = order.length := by omega
        intros
        rw [← hs, lay_done]; exact ⟨rfl, rfl⟩
  refine @Eq.mpr _ _ (?_) key
  kernel_rfl
end Go.Proofs.Ytmjijggkdbiijaa
