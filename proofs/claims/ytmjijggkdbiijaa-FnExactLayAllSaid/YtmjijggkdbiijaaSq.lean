/- Points and their joints. No statement is proved here. -/
import Derived.Test.YtmjijggkdbiijaaSn
namespace Go.Proofs.Ytmjijggkdbiijaa
open Go.RowKit
set_option linter.unusedVariables false
set_option linter.unusedSimpArgs false
set_option maxRecDepth 100000
set_option maxHeartbeats 4000000
def rowP (p : Int → Int → Bool) (y : Int) (w : Nat) : Cl := ((List.range w).filter fun x : Nat => p (x : Int) y).map fun x : Nat => ((x : Int), y)
def cellsN (p : Int → Int → Bool) (w h : Nat) : Cl := (List.range h).flatMap fun y : Nat => rowP p (y : Int) w
theorem rowP_succ (p : Int → Int → Bool) (y : Int) (w : Nat) : rowP p y (w + 1) = if p w y then rowP p y w ++ [((w : Int), y)] else rowP p y w := by
  unfold rowP
  rw [List.range_succ, List.filter_append]
  by_cases h : p w y = true
  · rw [if_pos h]; simp [List.filter_cons, h]
  · rw [if_neg h]; simp [List.filter_cons, h]
theorem cellsN_succ (p : Int → Int → Bool) (w h : Nat) : cellsN p w (h + 1) = cellsN p w h ++ rowP p h w := by
  unfold cellsN
  rw [List.range_succ, List.flatMap_append]; simp
theorem rowP_le (p : Int → Int → Bool) (y : Int) (w : Nat) : (rowP p y w).length ≤ w := by
  unfold rowP
  rw [List.length_map]
  exact Nat.le_trans (List.length_filter_le _ _) (by simp)
theorem cellsN_le (p : Int → Int → Bool) (w : Nat) : ∀ h, (cellsN p w h).length ≤ h * w
  | 0 => by simp [cellsN]
  | h + 1 => by
    rw [cellsN_succ, List.length_append, Nat.succ_mul]
    exact Nat.add_le_add (cellsN_le p w h) (rowP_le p h w)
def cellsV (q : Sq) (p : Int → Int → Bool) : Cl := cellsN p q.1.toNat q.2.1.toNat
noncomputable abbrev cellsInv (q : Sq) (p : Int → Int → Bool) (n : Nat) (σ : List Slot) : Option LoopInv := match n with
  | 3 => some ⟨5 :: hvAt Try.f127 3, Nat, fun y => [(5, .own (.slice 52 cellT) (cellsN p q.1.toNat y)), (12, .val (.dat (.int .i64) y))], fun y => y ≤ q.2.1.toNat, fun y => q.2.1.toNat - y⟩
  | 6 => some ⟨5 :: hvAt Try.f127 6, Nat, fun x => [(5, .own (.slice 52 cellT) (cellsN p q.1.toNat (iAt σ 12).toNat ++ rowP p (iAt σ 12) x)), (18, .val (.dat (.int .i64) x))], fun x => x ≤ q.1.toNat, fun x => q.1.toNat - x⟩
  | _ => none
theorem cells_ev (q : Sq) (d : D) (f : Nat) (p : Int → Int → Bool) (hp : ∀ x y, Ev Try.prog f [aI x, aI y] (compsOf [rB] (p x y))) : Ev Try.prog 127 [aQ q, .imm (.clo f .nl)] (compsOf [(true, .slice 52 cellT)] (cellsV q p)) := by
  refine ev_of (l := [(true, .slice 52 cellT)]) (r := (cellsV q p)) (types (fun _ => some [rB]) [] (cellsInv q p)) follows Try.func127 (by kernel_rfl) (by rw [Try.ntmps127]; exact Nat.le_of_ble_eq_true rfl) ?_
  have key : (inR IntKind.i8 q.fst → inR IntKind.i8 q.snd.fst → (q.snd.snd.length ≤ 9223372036854775807 ∧ ∀ (x : Int × Int × Int × Int), List.Mem x q.snd.snd → inR IntKind.i8 x.fst ∧ inR IntKind.i8 x.snd.fst ∧ inR
      IntKind.i8 x.snd.snd.fst ∧ inR IntKind.i8 x.snd.snd.snd) → inR IntKind.i8 q.snd.fst → (-9223372036854775808 ≤ q.snd.fst ∧ q.snd.fst ≤ 9223372036854775807) ∧ (∃ (x0 : Nat), (Slot.own (Ty.slice 52
      cellT) [] = Slot.own (Ty.slice 52 cellT) (cellsN p q.fst.toNat x0) ∧ Slot.val (D.dat (Ty.int IntKind.i64) 0) = Slot.val (D.dat (Ty.int IntKind.i64) ((x0 : Nat) : Int))) ∧ x0 ≤ q.snd.fst.toNat) ∧ ∀ (x
      : Nat), x ≤ q.snd.fst.toNat → (List.length (cellsN p q.fst.toNat x) ≤ 9223372036854775807 ∧ ∀ (x_1 : Int × Int), List.Mem x_1 (cellsN p q.fst.toNat x) → inR IntKind.i8 x_1.fst ∧ inR IntKind.i8
      x_1.snd) → inR IntKind.i64 ((x : Nat) : Int) → split (decide (((x : Nat) : Int) < q.snd.fst)) (inR IntKind.i8 q.fst → (-9223372036854775808 ≤ q.fst ∧ q.fst ≤ 9223372036854775807) ∧ (∃ (x0 : Nat),
      (Slot.own (Ty.slice 52 cellT) (cellsN p q.fst.toNat x) = Slot.own (Ty.slice 52 cellT) (cellsN p q.fst.toNat (((x : Nat) : Int)).toNat ++ rowP p (((x : Nat) : Int)) x0) ∧ Slot.val (D.dat (Ty.int
      IntKind.i64) 0) = Slot.val (D.dat (Ty.int IntKind.i64) ((x0 : Nat) : Int))) ∧ x0 ≤ q.fst.toNat) ∧ ∀ (x_1 : Nat), x_1 ≤ q.fst.toNat → ((cellsN p q.fst.toNat (((x : Nat) : Int)).toNat ++ rowP p (((x :
      Nat) : Int)) x_1).length ≤ 9223372036854775807 ∧ ∀ (x_2 : Int × Int), List.Mem x_2 (cellsN p q.fst.toNat (((x : Nat) : Int)).toNat ++ rowP p (((x : Nat) : Int)) x_1) → inR IntKind.i8 x_2.fst ∧ inR
      IntKind.i8 x_2.snd) → inR IntKind.i64 ((x_1 : Nat) : Int) → split (decide (((x_1 : Nat) : Int) < q.fst)) (∃ (r : Bool), Ev Try.prog f [Arg.imm (D.dat (Ty.int IntKind.i64) ((x_1 : Nat) : Int)),
      Arg.imm (D.dat (Ty.int IntKind.i64) ((x : Nat) : Int))] (compsOf [(false, Ty.bool)] r) ∧ split r ((-128 ≤ ((x_1 : Nat) : Int) ∧ ((x_1 : Nat) : Int) ≤ 127) ∧ (-128 ≤ ((x : Nat) : Int) ∧ ((x : Nat) :
      Int) ≤ 127) ∧ (cellsN p q.fst.toNat (((x : Nat) : Int)).toNat ++ rowP p (((x : Nat) : Int)) x_1).length + [(((x_1 : Nat) : Int), ((x : Nat) : Int))].length ≤ 4294967296 ∧ (-9223372036854775808 ≤
      ((x_1 : Nat) : Int) + 1 ∧ ((x_1 : Nat) : Int) + 1 ≤ 9223372036854775807) ∧ ∃ (x' : Nat), (Slot.own (Ty.slice 52 cellT) (cellsN p q.fst.toNat (((x : Nat) : Int)).toNat ++ rowP p (((x : Nat) : Int))
      x_1 ++ [(((x_1 : Nat) : Int), ((x : Nat) : Int))]) = Slot.own (Ty.slice 52 cellT) (cellsN p q.fst.toNat (((x : Nat) : Int)).toNat ++ rowP p (((x : Nat) : Int)) x') ∧ Slot.val (D.dat (Ty.int
      IntKind.i64) (((x_1 : Nat) : Int) + 1)) = Slot.val (D.dat (Ty.int IntKind.i64) ((x' : Nat) : Int))) ∧ x' ≤ q.fst.toNat ∧ q.fst.toNat - x' < q.fst.toNat - x_1) ((-9223372036854775808 ≤ ((x_1 : Nat) :
      Int) + 1 ∧ ((x_1 : Nat) : Int) + 1 ≤ 9223372036854775807) ∧ ∃ (x' : Nat), (Slot.own (Ty.slice 52 cellT) (cellsN p q.fst.toNat (((x : Nat) : Int)).toNat ++ rowP p (((x : Nat) : Int)) x_1) = Slot.own
      (Ty.slice 52 cellT) (cellsN p q.fst.toNat (((x : Nat) : Int)).toNat ++ rowP p (((x : Nat) : Int)) x') ∧ Slot.val (D.dat (Ty.int IntKind.i64) (((x_1 : Nat) : Int) + 1)) = Slot.val (D.dat (Ty.int
      IntKind.i64) ((x' : Nat) : Int))) ∧ x' ≤ q.fst.toNat ∧ q.fst.toNat - x' < q.fst.toNat - x_1)) ((-9223372036854775808 ≤ ((x : Nat) : Int) + 1 ∧ ((x : Nat) : Int) + 1 ≤ 9223372036854775807) ∧ ∃ (x' :
      Nat), (Slot.own (Ty.slice 52 cellT) (cellsN p q.fst.toNat (((x : Nat) : Int)).toNat ++ rowP p (((x : Nat) : Int)) x_1) = Slot.own (Ty.slice 52 cellT) (cellsN p q.fst.toNat x') ∧ Slot.val (D.dat
      (Ty.int IntKind.i64) (((x : Nat) : Int) + 1)) = Slot.val (D.dat (Ty.int IntKind.i64) ((x' : Nat) : Int))) ∧ x' ≤ q.snd.fst.toNat ∧ q.snd.fst.toNat - x' < q.snd.fst.toNat - x)) (cellsN p q.fst.toNat x
      = cellsV q p)) := by
    intro hq1 hq2 _ _
    simp only [inR, loK, hiK] at hq1 hq2
    refine ⟨by omega, ⟨0, ⟨rfl, rfl⟩, by omega⟩, fun y hy _ _ => split_of (fun h => fun _ => ?_) (fun h => ?_)⟩
    · have h := of_decide_eq_true h
      refine ⟨by omega, ⟨0, ⟨by simp only [Int.toNat_natCast]; simp [rowP], rfl⟩, by omega⟩, fun x hx _ _ => split_of (fun h2 => ?_) (fun h2 => ?_)⟩
      · have h2 := of_decide_eq_true h2
        simp only [Int.toNat_natCast]
        refine ⟨_, hp _ _, split_of (fun h3 => ⟨by omega, by omega, ?_, by omega, x + 1, ⟨?_, rfl⟩, by omega, by omega⟩) (fun h3 => ⟨by omega, x + 1, ⟨?_, rfl⟩, by omega, by omega⟩)⟩
        · have e1 := cellsN_le p q.1.toNat y
          have e2 := rowP_le p y x
          have e3 : y * q.1.toNat ≤ 127 * 127 := Nat.mul_le_mul (by omega) (by omega)
          simp only [List.length_append, List.length_cons, List.length_nil]; omega
        · rw [rowP_succ, if_pos h3, List.append_assoc]
        · rw [rowP_succ, if_neg (by rw [h3]; exact Bool.false_ne_true)]
      · have h2 := of_decide_eq_false h2
        refine ⟨by omega, y + 1, ⟨?_, rfl⟩, by omega, by omega⟩
        rw [Int.toNat_natCast, show x = q.1.toNat by omega, cellsN_succ]
    · have h := of_decide_eq_false h
      rw [show y = q.2.1.toNat by omega]; rfl
  refine @Eq.mpr _ _ (?_) key
  kernel_rfl
theorem corners1_ev (x y : Int) : Ev Try.prog 128 [aI x, aI y] (compsOf [rB] (true)) := by
  refine ev_of (l := [rB]) (r := (true)) (types (resT) [] (fun _ _ => none)) follows Try.func128 (by kernel_rfl) (by rw [Try.ntmps128]; exact Nat.le_of_ble_eq_true rfl) ?_
  have key : (inR IntKind.i64 x → inR IntKind.i64 y → true = true) := by
    intros
    rfl
  refine @Eq.mpr _ _ (?_) key
  kernel_rfl
theorem corners_ev (q : Sq) (h1 : 0 ≤ q.1 ∧ q.1 ≤ 12) (h2 : 0 ≤ q.2.1 ∧ q.2.1 ≤ 12) : Ev Try.prog 74 [aQ q] (compsOf [(true, .slice 52 cellT)] (cellsV (q.1 + 1, q.2.1 + 1, []) fun _ _ => true)) := by
  refine ev_of (l := [(true, .slice 52 cellT)]) (r := (cellsV (q.1 + 1, q.2.1 + 1, []) fun _ _ => true)) (types (resT) [] (fun _ _ => none)) follows Try.func74 (by kernel_rfl) (by rw [Try.ntmps74]; exact Nat.le_of_ble_eq_true rfl) ?_
  have key : (inR IntKind.i8 q.fst → inR IntKind.i8 q.snd.fst → (q.snd.snd.length ≤ 9223372036854775807 ∧ ∀ (x : Int × Int × Int × Int), List.Mem x q.snd.snd → inR IntKind.i8 x.fst ∧ inR IntKind.i8 x.snd.fst ∧ inR
      IntKind.i8 x.snd.snd.fst ∧ inR IntKind.i8 x.snd.snd.snd) → inR IntKind.i8 q.fst → (-128 ≤ q.fst + 1 ∧ q.fst + 1 ≤ 127) ∧ (inR IntKind.i8 q.snd.fst → (-128 ≤ q.snd.fst + 1 ∧ q.snd.fst + 1 ≤ 127) ∧ ∃
      (r : List (Int × Int)), Ev Try.prog 127 [Arg.imm (D.dat (sqT 41) (q.fst + 1, q.snd.fst + 1, [])), Arg.imm (D.clo 128 D.nl)] (compsOf [(true, Ty.slice 52 ((Ty.int IntKind.i8).prod (Ty.int
      IntKind.i8)))] r) ∧ ((r.length ≤ 9223372036854775807 ∧ ∀ (x : Int × Int), List.Mem x r → inR IntKind.i8 x.fst ∧ inR IntKind.i8 x.snd) → r = cellsV (q.fst + 1, q.snd.fst + 1, []) fun (x x_1 : Int) =>
      true))) := by
    intros
    refine ⟨by omega, fun _ => ⟨by omega, _, cells_ev _ .nl _ (fun _ _ => true) corners1_ev, fun _ => rfl⟩⟩
  refine @Eq.mpr _ _ (?_) key
  kernel_rfl
noncomputable abbrev ptsInv (q : Sq) (n : Nat) (σ : List Slot) : Option LoopInv := match n with
  | 3 => some ⟨3 :: hvAt Try.f72 3, Nat, fun y => [(3, .own (.slice 52 cellT) (cellsN (fun _ _ => true) (q.1 + 1).toNat y)), (4, .val (.dat (.int .i8) y))], fun y => y ≤ (q.2.1 + 1).toNat, fun y => (q.2.1 + 1).toNat - y⟩
  | 6 => some ⟨3 :: hvAt Try.f72 6, Nat, fun x => [(3, .own (.slice 52 cellT) (cellsN (fun _ _ => true) (q.1 + 1).toNat (iAt σ 4).toNat ++ rowP (fun _ _ => true) (iAt σ 4) x)), (5, .val (.dat (.int .i8) x))], fun x => x ≤ (q.1 + 1).toNat, fun x => (q.1 + 1).toNat - x⟩
  | _ => none
theorem points_ev (q : Sq) (h1 : 0 ≤ q.1 ∧ q.1 ≤ 12) (h2 : 0 ≤ q.2.1 ∧ q.2.1 ≤ 12) : Ev Try.prog 72 [aQp q] (compsOf [(true, .slice 52 cellT)] (cellsV (q.1 + 1, q.2.1 + 1, []) fun _ _ => true)) := by
  refine ev_of (l := [(true, .slice 52 cellT)]) (r := (cellsV (q.1 + 1, q.2.1 + 1, []) fun _ _ => true)) (types (resT) [] (ptsInv q)) follows Try.func72 (by kernel_rfl) (by rw [Try.ntmps72]; exact Nat.le_of_ble_eq_true rfl) ?_
  have key : ((∃ (x0 : Nat), (Slot.own (Ty.slice 52 cellT) [] = Slot.own (Ty.slice 52 cellT) (cellsN (fun (x x_1 : Int) => true) (q.fst + 1).toNat x0) ∧ Slot.val (D.dat (Ty.int IntKind.i8) 0) = Slot.val (D.dat
      (Ty.int IntKind.i8) ((x0 : Nat) : Int))) ∧ x0 ≤ (q.snd.fst + 1).toNat) ∧ ∀ (x : Nat), x ≤ (q.snd.fst + 1).toNat → (List.length (cellsN (fun (x x_1 : Int) => true) (q.fst + 1).toNat x) ≤
      9223372036854775807 ∧ ∀ (x_1 : Int × Int), List.Mem x_1 (cellsN (fun (x x_2 : Int) => true) (q.fst + 1).toNat x) → inR IntKind.i8 x_1.fst ∧ inR IntKind.i8 x_1.snd) → inR IntKind.i8 ((x : Nat) : Int)
      → inR IntKind.i8 q.snd.fst → split (decide (((x : Nat) : Int) ≤ q.snd.fst)) ((∃ (x0 : Nat), (Slot.own (Ty.slice 52 cellT) (cellsN (fun (x x_1 : Int) => true) (q.fst + 1).toNat x) = Slot.own (Ty.slice
      52 cellT) (cellsN (fun (x x_1 : Int) => true) (q.fst + 1).toNat (((x : Nat) : Int)).toNat ++ rowP (fun (x x_1 : Int) => true) (((x : Nat) : Int)) x0) ∧ Slot.val (D.dat (Ty.int IntKind.i8) 0) =
      Slot.val (D.dat (Ty.int IntKind.i8) ((x0 : Nat) : Int))) ∧ x0 ≤ (q.fst + 1).toNat) ∧ ∀ (x_1 : Nat), x_1 ≤ (q.fst + 1).toNat → ((cellsN (fun (x x_2 : Int) => true) (q.fst + 1).toNat (((x : Nat) :
      Int)).toNat ++ rowP (fun (x x_2 : Int) => true) (((x : Nat) : Int)) x_1).length ≤ 9223372036854775807 ∧ ∀ (x_2 : Int × Int), List.Mem x_2 (cellsN (fun (x x_3 : Int) => true) (q.fst + 1).toNat (((x :
      Nat) : Int)).toNat ++ rowP (fun (x x_3 : Int) => true) (((x : Nat) : Int)) x_1) → inR IntKind.i8 x_2.fst ∧ inR IntKind.i8 x_2.snd) → inR IntKind.i8 ((x_1 : Nat) : Int) → inR IntKind.i8 q.fst → split
      (decide (((x_1 : Nat) : Int) ≤ q.fst)) ((cellsN (fun (x x_2 : Int) => true) (q.fst + 1).toNat (((x : Nat) : Int)).toNat ++ rowP (fun (x x_2 : Int) => true) (((x : Nat) : Int)) x_1).length + [(((x_1 :
      Nat) : Int), ((x : Nat) : Int))].length ≤ 4294967296 ∧ (-128 ≤ ((x_1 : Nat) : Int) + 1 ∧ ((x_1 : Nat) : Int) + 1 ≤ 127) ∧ ∃ (x' : Nat), (Slot.own (Ty.slice 52 cellT) (cellsN (fun (x x_2 : Int) =>
      true) (q.fst + 1).toNat (((x : Nat) : Int)).toNat ++ rowP (fun (x x_2 : Int) => true) (((x : Nat) : Int)) x_1 ++ [(((x_1 : Nat) : Int), ((x : Nat) : Int))]) = Slot.own (Ty.slice 52 cellT) (cellsN
      (fun (x x_2 : Int) => true) (q.fst + 1).toNat (((x : Nat) : Int)).toNat ++ rowP (fun (x x_2 : Int) => true) (((x : Nat) : Int)) x') ∧ Slot.val (D.dat (Ty.int IntKind.i8) (((x_1 : Nat) : Int) + 1)) =
      Slot.val (D.dat (Ty.int IntKind.i8) ((x' : Nat) : Int))) ∧ x' ≤ (q.fst + 1).toNat ∧ (q.fst + 1).toNat - x' < (q.fst + 1).toNat - x_1) ((-128 ≤ ((x : Nat) : Int) + 1 ∧ ((x : Nat) : Int) + 1 ≤ 127) ∧ ∃
      (x' : Nat), (Slot.own (Ty.slice 52 cellT) (cellsN (fun (x x_2 : Int) => true) (q.fst + 1).toNat (((x : Nat) : Int)).toNat ++ rowP (fun (x x_2 : Int) => true) (((x : Nat) : Int)) x_1) = Slot.own
      (Ty.slice 52 cellT) (cellsN (fun (x x_2 : Int) => true) (q.fst + 1).toNat x') ∧ Slot.val (D.dat (Ty.int IntKind.i8) (((x : Nat) : Int) + 1)) = Slot.val (D.dat (Ty.int IntKind.i8) ((x' : Nat) : Int)))
      ∧ x' ≤ (q.snd.fst + 1).toNat ∧ (q.snd.fst + 1).toNat - x' < (q.snd.fst + 1).toNat - x)) (cellsN (fun (x x_1 : Int) => true) (q.fst + 1).toNat x = cellsV (q.fst + 1, q.snd.fst + 1, []) fun (x x_1 :
      Int) => true)) := by
    refine ⟨⟨0, ⟨rfl, rfl⟩, by omega⟩, fun y hy _ _ _ => split_of (fun h => ?_) (fun h => ?_)⟩
    · have h := of_decide_eq_true h
      refine ⟨⟨0, ⟨by simp only [Int.toNat_natCast]; simp [rowP], rfl⟩, by omega⟩, fun x hx _ _ _ => split_of (fun h2 => ?_) (fun h2 => ?_)⟩
      · have h2 := of_decide_eq_true h2
        simp only [Int.toNat_natCast]
        refine ⟨?_, by omega, x + 1, ⟨?_, rfl⟩, by omega, by omega⟩
        · have e1 := cellsN_le (fun _ _ => true) (q.1 + 1).toNat y
          have e2 := rowP_le (fun _ _ => true) y x
          have e3 : y * (q.1 + 1).toNat ≤ 127 * 127 := Nat.mul_le_mul (by omega) (by omega)
          simp only [List.length_append, List.length_cons, List.length_nil]; omega
        · rw [rowP_succ, if_pos rfl, List.append_assoc]
      · have h2 := of_decide_eq_false h2
        refine ⟨by omega, y + 1, ⟨?_, rfl⟩, by omega, by omega⟩
        rw [Int.toNat_natCast, show x = (q.1 + 1).toNat by omega, cellsN_succ]
    · have h := of_decide_eq_false h
      rw [show y = (q.2.1 + 1).toNat by omega]; rfl
  refine @Eq.mpr _ _ (?_) key
  kernel_rfl
theorem ahead_ev (p : Int × Int) (way : Int) (h1 : 0 ≤ p.1 ∧ p.1 ≤ 12) (h2 : 0 ≤ p.2 ∧ p.2 ≤ 12) : Ev Try.prog 129 [aC p, aI way] (compsOf [rC] (nextC p way)) := by
  refine ev_of (l := [rC]) (r := (nextC p way)) (types (resT) [] (fun _ _ => none)) follows Try.func129 (by kernel_rfl) (by rw [Try.ntmps129]; exact Nat.le_of_ble_eq_true rfl) ?_
  have key : (inR IntKind.i8 p.fst → inR IntKind.i8 p.snd → inR IntKind.i64 way → split (decide (way = 0)) (inR IntKind.i8 p.fst → inR IntKind.i8 p.snd → (-128 ≤ p.snd - 1 ∧ p.snd - 1 ≤ 127) ∧ (p.fst, p.snd - 1) =
      nextC p way) (split (decide (way = 1)) (inR IntKind.i8 p.fst → (-128 ≤ p.fst + 1 ∧ p.fst + 1 ≤ 127) ∧ (inR IntKind.i8 p.snd → (p.fst + 1, p.snd) = nextC p way)) (split (decide (way = 2)) (inR
      IntKind.i8 p.fst → inR IntKind.i8 p.snd → (-128 ≤ p.snd + 1 ∧ p.snd + 1 ≤ 127) ∧ (p.fst, p.snd + 1) = nextC p way) (inR IntKind.i8 p.fst → (-128 ≤ p.fst - 1 ∧ p.fst - 1 ≤ 127) ∧ (inR IntKind.i8 p.snd
      → (p.fst - 1, p.snd) = nextC p way))))) := by
    repeat' (first
      | (intro hh; try simp only [inR, loK, hiK] at hh)
      | exact trivial
      | (refine And.intro ?_ ?_)
      | (refine split_of (fun hh => ?_) (fun hh => ?_) <;> (try (first | replace hh := not_t hh | replace hh := not_f hh)) <;> (try (first | replace hh := of_decide_eq_true hh | replace hh := of_decide_eq_false hh))))
    all_goals (first | omega | (simp_all [nextC]; done) | (simp_all [nextC]; omega))
  refine @Eq.mpr _ _ (?_) key
  kernel_rfl
def waysN (q : Sq) (p : Int × Int) (n : Nat) : List Int := ((List.range n).filter fun w : Nat => (sidesV q p (nextC p (w : Int))).2.2).map fun w : Nat => (w : Int)
theorem waysN_succ (q : Sq) (p : Int × Int) (n : Nat) : waysN q p (n + 1) = if (sidesV q p (nextC p n)).2.2 then waysN q p n ++ [(n : Int)] else waysN q p n := by
  unfold waysN
  rw [List.range_succ, List.filter_append]
  by_cases h : (sidesV q p (nextC p n)).2.2 = true
  · rw [if_pos h]; simp [List.filter_cons, h]
  · rw [if_neg h]; simp [List.filter_cons, h]
theorem waysN_le (q : Sq) (p : Int × Int) (n : Nat) : (waysN q p n).length ≤ n := by
  unfold waysN
  rw [List.length_map]
  exact Nat.le_trans (List.length_filter_le _ _) (by simp)
noncomputable abbrev waysInv (q : Sq) (p : Int × Int) (n : Nat) (σ : List Slot) : Option LoopInv := match n with
  | 3 => some ⟨5 :: hvAt Try.f76 3, Nat, fun w => [(5, .own (.slice 2 (.int .i64)) (waysN q p w)), (8, .val (.dat (.int .i64) w))], fun w => w ≤ 4, fun w => 4 - w⟩
  | _ => none
theorem ways_ev (q : Sq) (p : Int × Int) (h1 : 0 ≤ p.1 ∧ p.1 ≤ 12) (h2 : 0 ≤ p.2 ∧ p.2 ≤ 12) : Ev Try.prog 76 [aQ q, aC p] (compsOf [(true, .slice 2 (.int .i64))] (waysN q p 4)) := by
  refine ev_of (l := [(true, .slice 2 (.int .i64))]) (r := (waysN q p 4)) (types (resT) [] (waysInv q p)) follows Try.func76 (by kernel_rfl) (by rw [Try.ntmps76]; exact Nat.le_of_ble_eq_true rfl) ?_
  have key : (inR IntKind.i8 q.fst → inR IntKind.i8 q.snd.fst → (q.snd.snd.length ≤ 9223372036854775807 ∧ ∀ (x : Int × Int × Int × Int), List.Mem x q.snd.snd → inR IntKind.i8 x.fst ∧ inR IntKind.i8 x.snd.fst ∧ inR
      IntKind.i8 x.snd.snd.fst ∧ inR IntKind.i8 x.snd.snd.snd) → inR IntKind.i8 p.fst → inR IntKind.i8 p.snd → (∃ (x0 : Nat), (Slot.own (Ty.slice 2 (Ty.int IntKind.i64)) [] = Slot.own (Ty.slice 2 (Ty.int
      IntKind.i64)) (waysN q p x0) ∧ Slot.val (D.dat (Ty.int IntKind.i64) 0) = Slot.val (D.dat (Ty.int IntKind.i64) ((x0 : Nat) : Int))) ∧ x0 ≤ 4) ∧ ∀ (x : Nat), x ≤ 4 → ((waysN q p x).length ≤
      9223372036854775807 ∧ ∀ (x_1 : Int), List.Mem x_1 (waysN q p x) → inR IntKind.i64 x_1) → inR IntKind.i64 ((x : Nat) : Int) → split (decide (((x : Nat) : Int) < 4)) (inR IntKind.i8 q.fst → inR
      IntKind.i8 q.snd.fst → (q.snd.snd.length ≤ 9223372036854775807 ∧ ∀ (x : Int × Int × Int × Int), List.Mem x q.snd.snd → inR IntKind.i8 x.fst ∧ inR IntKind.i8 x.snd.fst ∧ inR IntKind.i8 x.snd.snd.fst ∧
      inR IntKind.i8 x.snd.snd.snd) → inR IntKind.i8 p.fst → inR IntKind.i8 p.snd → inR IntKind.i8 p.fst → inR IntKind.i8 p.snd → ∃ (r : Int × Int), Ev Try.prog 129 [Arg.imm (D.dat cellT p), Arg.imm (D.dat
      (Ty.int IntKind.i64) ((x : Nat) : Int))] (compsOf [(false, (Ty.int IntKind.i8).prod (Ty.int IntKind.i8))] r) ∧ (inR IntKind.i8 r.fst → inR IntKind.i8 r.snd → ∃ (r_1 : Bool), Ev Try.prog 71 [Arg.imm
      (D.dat (sqT 41) q), Arg.imm (D.dat cellT p), Arg.imm (D.dat cellT r)] (compsOf [(false, Ty.bool)] r_1) ∧ split r_1 ((waysN q p x).length + [((x : Nat) : Int)].length ≤ 4294967296 ∧
      (-9223372036854775808 ≤ ((x : Nat) : Int) + 1 ∧ ((x : Nat) : Int) + 1 ≤ 9223372036854775807) ∧ ∃ (x' : Nat), (Slot.own (Ty.slice 2 (Ty.int IntKind.i64)) (waysN q p x ++ [((x : Nat) : Int)]) =
      Slot.own (Ty.slice 2 (Ty.int IntKind.i64)) (waysN q p x') ∧ Slot.val (D.dat (Ty.int IntKind.i64) (((x : Nat) : Int) + 1)) = Slot.val (D.dat (Ty.int IntKind.i64) ((x' : Nat) : Int))) ∧ x' ≤ 4 ∧ 4 - x'
      < 4 - x) ((-9223372036854775808 ≤ ((x : Nat) : Int) + 1 ∧ ((x : Nat) : Int) + 1 ≤ 9223372036854775807) ∧ ∃ (x' : Nat), (Slot.own (Ty.slice 2 (Ty.int IntKind.i64)) (waysN q p x) = Slot.own (Ty.slice 2
      (Ty.int IntKind.i64)) (waysN q p x') ∧ Slot.val (D.dat (Ty.int IntKind.i64) (((x : Nat) : Int) + 1)) = Slot.val (D.dat (Ty.int IntKind.i64) ((x' : Nat) : Int))) ∧ x' ≤ 4 ∧ 4 - x' < 4 - x))) (waysN q
      p x = waysN q p 4)) := by
    intros
    refine ⟨⟨0, ⟨rfl, rfl⟩, by omega⟩, fun w hw _ _ => split_of (fun h => ?_) (fun h => ?_)⟩
    · have h := of_decide_eq_true h
      intros
      refine ⟨_, ahead_ev _ _ h1 h2, ?_⟩
      intros
      refine ⟨_, isJoint_ev _ _ _, split_of (fun h3 => ⟨?_, by omega, w + 1, ⟨?_, rfl⟩, by omega, by omega⟩) (fun h3 => ⟨by omega, w + 1, ⟨?_, rfl⟩, by omega, by omega⟩)⟩
      · have e := waysN_le q p w
        simp only [List.length_cons, List.length_nil]; omega
      · rw [waysN_succ, if_pos h3]
      · rw [waysN_succ, if_neg (by rw [h3]; exact Bool.false_ne_true)]
    · have h := of_decide_eq_false h
      rw [show w = 4 by omega]
  refine @Eq.mpr _ _ (?_) key
  kernel_rfl
theorem sizeI_ev (l : List Int) : Ev Try.prog 75 [.imm (.dat (.slice 2 (.int .i64)) l)] (compsOf [rI] ((l.length : Int))) := by
  refine ev_of (l := [rI]) (r := ((l.length : Int))) (types (resT) [] (fun _ _ => none)) follows Try.func75 (by kernel_rfl) (by rw [Try.ntmps75]; exact Nat.le_of_ble_eq_true rfl) ?_
  have key : ((l.length ≤ 9223372036854775807 ∧ ∀ (x : Int), List.Mem x l → inR IntKind.i64 x) → ((l.length : Nat) : Int) ≤ 9223372036854775807 → ((l.length : Nat) : Int) = ((l.length : Nat) : Int)) := by
    intros
    rfl
  refine @Eq.mpr _ _ (?_) key
  kernel_rfl
end Go.Proofs.Ytmjijggkdbiijaa
