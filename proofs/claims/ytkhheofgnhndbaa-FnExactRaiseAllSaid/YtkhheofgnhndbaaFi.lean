/- Rows of points. No statement is proved here. -/
import Derived.Test.YtkhheofgnhndbaaFh
namespace Go.Proofs.Ytkhheofgnhndbaa
open Go.RowKit
set_option linter.unusedVariables false
set_option linter.unusedSimpArgs false
set_option maxRecDepth 100000
set_option maxHeartbeats 4000000
/-- Points of a row, of rows. -/
def rowC (y : Int) (n : Nat) : Cl := (List.range n).map fun x => (((x : Nat) : Int), y)
def rowsC (w : Int) (n : Nat) : Cl := (List.range n).flatMap fun (y : Nat) => rowC ((y : Nat) : Int) w.toNat
def allC (w h : Int) : Cl := rowsC w h.toNat
theorem rowC_succ (y : Int) (n : Nat) : rowC y (n + 1) = rowC y n ++ [(((n : Nat) : Int), y)] := by simp [rowC, List.range_succ]
theorem rowsC_succ (w : Int) (n : Nat) : rowsC w (n + 1) = rowsC w n ++ rowC ((n : Nat) : Int) w.toNat := by simp [rowsC, List.range_succ]
theorem rowC_len (y : Int) (n : Nat) : (rowC y n).length = n := by simp [rowC]
theorem rowsC_len (w : Int) (n : Nat) : (rowsC w n).length = n * w.toNat := by
  induction n with
  | zero => simp [rowsC]
  | succ n ih => rw [rowsC_succ, List.length_append, ih, rowC_len, Nat.succ_mul]
theorem allC_mem {w h : Int} {p : Int × Int} : p ∈ allC w h ↔ 0 ≤ p.1 ∧ p.1 < w ∧ 0 ≤ p.2 ∧ p.2 < h := by
  obtain ⟨x, y⟩ := p
  simp only [allC, rowsC, rowC, List.mem_flatMap, List.mem_range, List.mem_map, Prod.mk.injEq]
  constructor
  · rintro ⟨b, hb, a, ha, rfl, rfl⟩; omega
  · rintro ⟨h1, h2, h3, h4⟩
    exact ⟨y.toNat, by omega, x.toNat, by omega, by omega, by omega⟩
theorem own_eq {t : Ty} {x y : t.T} (h : x = y) : Slot.own t x = Slot.own t y := by rw [h]
theorem ownC_eq {n : Nat} {x y : Cl} (h : x = y) : Slot.own (.slice n cellT) x = Slot.own (.slice n cellT) y := by rw [h]
theorem val_eq {t : Ty} {x y : t.T} (h : x = y) : Slot.val (.dat t x) = Slot.val (.dat t y) := by rw [h]
theorem valI_eq {k : IntKind} {x y : Int} (h : x = y) : Slot.val (.dat (.int k) x) = Slot.val (.dat (.int k) y) := by rw [h]
theorem box_eq {t : Ty} {x y : t.T} (h : x = y) : Slot.box (.dat t x) = Slot.box (.dat t y) := by rw [h]
theorem boxo_eq {t : Ty} {x y : t.T} (h : x = y) : Slot.boxo t x = Slot.boxo t y := by rw [h]
theorem filter_yes {α : Type} {p : α → Bool} {l : List α} {a : α} (h : p a = true) : (l ++ [a]).filter p = l.filter p ++ [a] := by simp [h]
theorem filter_no {α : Type} {p : α → Bool} {l : List α} {a : α} (h : p a = false) : (l ++ [a]).filter p = l.filter p := by simp [h]
theorem rows_short {w : Int} {y x : Nat} {z : Int} (hw : w ≤ 12) (hy : y ≤ 12) (hx : x ≤ 12) : (rowsC w y ++ rowC z x).length ≤ 200 := by
  rw [List.length_append, rowsC_len, rowC_len]
  have := Nat.mul_le_mul hy (show w.toNat ≤ 12 by omega)
  omega
noncomputable abbrev l04AllInv (w h : Int) (n : Nat) (σ : List Slot) : Option LoopInv := match n with
  | 3 => some ⟨hvAt Try.f54 3, Nat, fun y => [(3, .own (.slice 40 cellT) (rowsC w y)), (4, .val (.dat (.int .i8) y))], fun y => (y : Int) ≤ h, fun y => (h - y).toNat⟩
  | 6 => some ⟨hvAt Try.f54 6, Nat, fun x => [(3, .own (.slice 40 cellT) (rowsC w (iAt σ 4).toNat ++ rowC (iAt σ 4) x)), (5, .val (.dat (.int .i8) x))], fun x => (x : Int) ≤ w, fun x => (w - x).toNat⟩
  | _ => none
theorem l04All_ev (g : G) (hw : 0 ≤ g.1 ∧ g.1 ≤ 9) (hh : 0 ≤ g.2.1 ∧ g.2.1 ≤ 9) : Ev Try.prog 54 [aGp g] (compsOf [oC] (allC g.1 g.2.1)) := by
  refine ev_of (l := [oC]) (r := (allC g.1 g.2.1)) (types (resT) [] (l04AllInv g.1 g.2.1)) follows Try.func54 (by kernel_rfl) (by rw [Try.ntmps54]; exact Nat.le_of_ble_eq_true rfl) ?_
  have key : ((∃ (x0 : Nat),
      (Slot.own (Ty.slice 40 cellT) [] = Slot.own (Ty.slice 40 cellT) (rowsC g.fst x0) ∧
          Slot.val (D.dat (Ty.int IntKind.i8) 0) = Slot.val (D.dat (Ty.int IntKind.i8) ((x0 : Nat) : Int))) ∧
        ((x0 : Nat) : Int) ≤ g.snd.fst) ∧
    ∀ (x : Nat),
      ((x : Nat) : Int) ≤ g.snd.fst →
        (List.length (rowsC g.fst x) ≤ 9223372036854775807 ∧
            ∀ (x_1 : Int × Int), List.Mem x_1 (rowsC g.fst x) → inR IntKind.i8 x_1.fst ∧ inR IntKind.i8 x_1.snd) →
          inR IntKind.i8 ((x : Nat) : Int) →
            inR IntKind.i8 g.snd.fst →
              split (decide (((x : Nat) : Int) < g.snd.fst))
                ((∃ (x0 : Nat),
                    (Slot.own (Ty.slice 40 cellT) (rowsC g.fst x) =
                          Slot.own (Ty.slice 40 cellT) (rowsC g.fst (((x : Nat) : Int)).toNat ++ rowC (((x : Nat) : Int)) x0) ∧
                        Slot.val (D.dat (Ty.int IntKind.i8) 0) = Slot.val (D.dat (Ty.int IntKind.i8) ((x0 : Nat) : Int))) ∧
                      ((x0 : Nat) : Int) ≤ g.fst) ∧
                  ∀ (x_1 : Nat),
                    ((x_1 : Nat) : Int) ≤ g.fst →
                      ((rowsC g.fst (((x : Nat) : Int)).toNat ++ rowC (((x : Nat) : Int)) x_1).length ≤ 9223372036854775807 ∧
                          ∀ (x_2 : Int × Int),
                            List.Mem x_2 (rowsC g.fst (((x : Nat) : Int)).toNat ++ rowC (((x : Nat) : Int)) x_1) →
                              inR IntKind.i8 x_2.fst ∧ inR IntKind.i8 x_2.snd) →
                        inR IntKind.i8 ((x_1 : Nat) : Int) →
                          inR IntKind.i8 g.fst →
                            split (decide (((x_1 : Nat) : Int) < g.fst))
                              ((rowsC g.fst (((x : Nat) : Int)).toNat ++ rowC (((x : Nat) : Int)) x_1).length + [(((x_1 : Nat) : Int), ((x : Nat) : Int))].length ≤ 4294967296 ∧
                                (-128 ≤ ((x_1 : Nat) : Int) + 1 ∧ ((x_1 : Nat) : Int) + 1 ≤ 127) ∧
                                  ∃ (x' : Nat),
                                    (Slot.own (Ty.slice 40 cellT)
                                            (rowsC g.fst (((x : Nat) : Int)).toNat ++ rowC (((x : Nat) : Int)) x_1 ++ [(((x_1 : Nat) : Int), ((x : Nat) : Int))]) =
                                          Slot.own (Ty.slice 40 cellT) (rowsC g.fst (((x : Nat) : Int)).toNat ++ rowC (((x : Nat) : Int)) x') ∧
                                        Slot.val (D.dat (Ty.int IntKind.i8) (((x_1 : Nat) : Int) + 1)) =
                                          Slot.val (D.dat (Ty.int IntKind.i8) ((x' : Nat) : Int))) ∧
                                      ((x' : Nat) : Int) ≤ g.fst ∧ (g.fst - ((x' : Nat) : Int)).toNat < (g.fst - ((x_1 : Nat) : Int)).toNat)
                              ((-128 ≤ ((x : Nat) : Int) + 1 ∧ ((x : Nat) : Int) + 1 ≤ 127) ∧
                                ∃ (x' : Nat),
                                  (Slot.own (Ty.slice 40 cellT) (rowsC g.fst (((x : Nat) : Int)).toNat ++ rowC (((x : Nat) : Int)) x_1) =
                                        Slot.own (Ty.slice 40 cellT) (rowsC g.fst x') ∧
                                      Slot.val (D.dat (Ty.int IntKind.i8) (((x : Nat) : Int) + 1)) =
                                        Slot.val (D.dat (Ty.int IntKind.i8) ((x' : Nat) : Int))) ∧
                                    ((x' : Nat) : Int) ≤ g.snd.fst ∧ (g.snd.fst - ((x' : Nat) : Int)).toNat < (g.snd.fst - ((x : Nat) : Int)).toNat))
                (rowsC g.fst x = allC g.fst g.snd.fst)) := by
    refine ⟨⟨0, ⟨rfl, rfl⟩, hh.1⟩, fun y hy _ hr _ => ?_⟩
    simp only [Int.toNat_natCast]
    refine split_of (fun h => ?_) (fun h => ?_)
    · have h := of_decide_eq_true h
      refine ⟨⟨0, ⟨ownC_eq (by simp [rowC]), rfl⟩, hw.1⟩, fun x hx _ hr2 _ => split_of (fun h2 => ?_) (fun h2 => ?_)⟩
      · have h2 := of_decide_eq_true h2
        have hl := rows_short (w := g.1) (y := y) (x := x) (z := y) (by omega) (by omega) (by omega)
        refine ⟨by simp only [List.length_cons, List.length_nil]; omega, by omega, x + 1, ⟨ownC_eq (by rw [rowC_succ, List.append_assoc]), valI_eq (by omega)⟩, by omega, by omega⟩
      · have h2 := of_decide_eq_false h2
        have e : x = g.1.toNat := by omega
        refine ⟨by omega, y + 1, ⟨ownC_eq (by rw [rowsC_succ, e]), valI_eq (by omega)⟩, by omega, by omega⟩
    · have h := of_decide_eq_false h
      have e : y = g.2.1.toNat := by omega
      rw [e]; rfl
  refine @Eq.mpr _ _ (?_) key
  kernel_rfl
noncomputable abbrev cellsInv (w h : Int) (p : Int × Int → Bool) (n : Nat) (σ : List Slot) : Option LoopInv := match n with
  | 3 => some ⟨hvAt Try.f94 3, Nat, fun y => [(5, .own (.slice 40 cellT) ((rowsC w y).filter p)), (12, .val (.dat (.int .i64) y))], fun y => (y : Int) ≤ h, fun y => (h - y).toNat⟩
  | 6 => some ⟨hvAt Try.f94 6, Nat, fun x => [(5, .own (.slice 40 cellT) ((rowsC w (iAt σ 6).toNat ++ rowC (iAt σ 6) x).filter p)), (18, .val (.dat (.int .i64) x))], fun x => (x : Int) ≤ w, fun x => (w - x).toNat⟩
  | _ => none
theorem cells_ev (q : Sq) (f : Nat) (d : D) (p : Int × Int → Bool) (hw : 0 ≤ q.1 ∧ q.1 ≤ 12) (hh : 0 ≤ q.2.1 ∧ q.2.1 ≤ 12) (hp : ∀ x y : Int, 0 ≤ x → x < q.1 → 0 ≤ y → y < q.2.1 → Ev Try.prog f [aI x, aI y, .imm d] (compsOf [rB] (p (x, y)))) : Ev Try.prog 94 [aQ q, .imm (.clo f (.cn d .nl))] (compsOf [oC] ((allC q.1 q.2.1).filter p)) := by
  refine ev_of (l := [oC]) (r := ((allC q.1 q.2.1).filter p)) (types (fun _ => some [rB]) [] (cellsInv q.1 q.2.1 p)) follows Try.func94 (by kernel_rfl) (by rw [Try.ntmps94]; exact Nat.le_of_ble_eq_true rfl) ?_
  have key : (inR IntKind.i8 q.fst →
    inR IntKind.i8 q.snd.fst →
      (q.snd.snd.length ≤ 9223372036854775807 ∧
          ∀ (x : Int × Int × Int × Int),
            List.Mem x q.snd.snd →
              inR IntKind.i8 x.fst ∧
                inR IntKind.i8 x.snd.fst ∧ inR IntKind.i8 x.snd.snd.fst ∧ inR IntKind.i8 x.snd.snd.snd) →
        inR IntKind.i8 q.snd.fst →
          (-9223372036854775808 ≤ q.snd.fst ∧ q.snd.fst ≤ 9223372036854775807) ∧
            (∃ (x0 : Nat),
                (Slot.own (Ty.slice 40 cellT) [] = Slot.own (Ty.slice 40 cellT) (List.filter p (rowsC q.fst x0)) ∧
                    Slot.val (D.dat (Ty.int IntKind.i64) 0) = Slot.val (D.dat (Ty.int IntKind.i64) ((x0 : Nat) : Int))) ∧
                  ((x0 : Nat) : Int) ≤ q.snd.fst) ∧
              ∀ (x : Nat),
                ((x : Nat) : Int) ≤ q.snd.fst →
                  ((List.filter p (rowsC q.fst x)).length ≤ 9223372036854775807 ∧
                      ∀ (x_1 : Int × Int),
                        List.Mem x_1 (List.filter p (rowsC q.fst x)) →
                          inR IntKind.i8 x_1.fst ∧ inR IntKind.i8 x_1.snd) →
                    inR IntKind.i64 ((x : Nat) : Int) →
                      split (decide (((x : Nat) : Int) < q.snd.fst))
                        (inR IntKind.i8 q.fst →
                          (-9223372036854775808 ≤ q.fst ∧ q.fst ≤ 9223372036854775807) ∧
                            (∃ (x0 : Nat),
                                (Slot.own (Ty.slice 40 cellT) (List.filter p (rowsC q.fst x)) =
                                      Slot.own (Ty.slice 40 cellT)
                                        (List.filter p (rowsC q.fst (((x : Nat) : Int)).toNat ++ rowC (((x : Nat) : Int)) x0)) ∧
                                    Slot.val (D.dat (Ty.int IntKind.i64) 0) =
                                      Slot.val (D.dat (Ty.int IntKind.i64) ((x0 : Nat) : Int))) ∧
                                  ((x0 : Nat) : Int) ≤ q.fst) ∧
                              ∀ (x_1 : Nat),
                                ((x_1 : Nat) : Int) ≤ q.fst →
                                  ((List.filter p (rowsC q.fst (((x : Nat) : Int)).toNat ++ rowC (((x : Nat) : Int)) x_1)).length ≤
                                        9223372036854775807 ∧
                                      ∀ (x_2 : Int × Int),
                                        List.Mem x_2 (List.filter p (rowsC q.fst (((x : Nat) : Int)).toNat ++ rowC (((x : Nat) : Int)) x_1)) →
                                          inR IntKind.i8 x_2.fst ∧ inR IntKind.i8 x_2.snd) →
                                    inR IntKind.i64 ((x_1 : Nat) : Int) →
                                      split (decide (((x_1 : Nat) : Int) < q.fst))
                                        (∃ (r : Bool),
                                          Ev Try.prog f
                                              [Arg.imm (D.dat (Ty.int IntKind.i64) ((x_1 : Nat) : Int)),
                                                Arg.imm (D.dat (Ty.int IntKind.i64) ((x : Nat) : Int)), Arg.imm d]
                                              (compsOf [(false, Ty.bool)] r) ∧
                                            split r
                                              ((-128 ≤ ((x_1 : Nat) : Int) ∧ ((x_1 : Nat) : Int) ≤ 127) ∧
                                                (-128 ≤ ((x : Nat) : Int) ∧ ((x : Nat) : Int) ≤ 127) ∧
                                                  (List.filter p (rowsC q.fst (((x : Nat) : Int)).toNat ++ rowC (((x : Nat) : Int)) x_1)).length +
                                                        [(((x_1 : Nat) : Int), ((x : Nat) : Int))].length ≤
                                                      4294967296 ∧
                                                    (-9223372036854775808 ≤ ((x_1 : Nat) : Int) + 1 ∧ ((x_1 : Nat) : Int) + 1 ≤ 9223372036854775807) ∧
                                                      ∃ (x' : Nat),
                                                        (Slot.own (Ty.slice 40 cellT)
                                                                (List.filter p
                                                                    (rowsC q.fst (((x : Nat) : Int)).toNat ++ rowC (((x : Nat) : Int)) x_1) ++
                                                                  [(((x_1 : Nat) : Int), ((x : Nat) : Int))]) =
                                                              Slot.own (Ty.slice 40 cellT)
                                                                (List.filter p
                                                                  (rowsC q.fst (((x : Nat) : Int)).toNat ++ rowC (((x : Nat) : Int)) x')) ∧
                                                            Slot.val (D.dat (Ty.int IntKind.i64) (((x_1 : Nat) : Int) + 1)) =
                                                              Slot.val (D.dat (Ty.int IntKind.i64) ((x' : Nat) : Int))) ∧
                                                          ((x' : Nat) : Int) ≤ q.fst ∧ (q.fst - ((x' : Nat) : Int)).toNat < (q.fst - ((x_1 : Nat) : Int)).toNat)
                                              ((-9223372036854775808 ≤ ((x_1 : Nat) : Int) + 1 ∧ ((x_1 : Nat) : Int) + 1 ≤ 9223372036854775807) ∧
                                                ∃ (x' : Nat),
                                                  (Slot.own (Ty.slice 40 cellT)
                                                          (List.filter p (rowsC q.fst (((x : Nat) : Int)).toNat ++ rowC (((x : Nat) : Int)) x_1)) =
                                                        Slot.own (Ty.slice 40 cellT)
                                                          (List.filter p (rowsC q.fst (((x : Nat) : Int)).toNat ++ rowC (((x : Nat) : Int)) x')) ∧
                                                      Slot.val (D.dat (Ty.int IntKind.i64) (((x_1 : Nat) : Int) + 1)) =
                                                        Slot.val (D.dat (Ty.int IntKind.i64) ((x' : Nat) : Int))) ∧
                                                    ((x' : Nat) : Int) ≤ q.fst ∧ (q.fst - ((x' : Nat) : Int)).toNat < (q.fst - ((x_1 : Nat) : Int)).toNat))
                                        ((-9223372036854775808 ≤ ((x : Nat) : Int) + 1 ∧ ((x : Nat) : Int) + 1 ≤ 9223372036854775807) ∧
                                          ∃ (x' : Nat),
                                            (Slot.own (Ty.slice 40 cellT)
                                                    (List.filter p (rowsC q.fst (((x : Nat) : Int)).toNat ++ rowC (((x : Nat) : Int)) x_1)) =
                                                  Slot.own (Ty.slice 40 cellT) (List.filter p (rowsC q.fst x')) ∧
                                                Slot.val (D.dat (Ty.int IntKind.i64) (((x : Nat) : Int) + 1)) =
                                                  Slot.val (D.dat (Ty.int IntKind.i64) ((x' : Nat) : Int))) ∧
                                              ((x' : Nat) : Int) ≤ q.snd.fst ∧ (q.snd.fst - ((x' : Nat) : Int)).toNat < (q.snd.fst - ((x : Nat) : Int)).toNat))
                        (List.filter p (rowsC q.fst x) = List.filter p (allC q.fst q.snd.fst))) := by
    intro _ _ _ _
    refine ⟨by omega, ⟨0, ⟨rfl, rfl⟩, hh.1⟩, fun y hy _ hr => ?_⟩
    simp only [Int.toNat_natCast]
    refine split_of (fun h => ?_) (fun h => ?_)
    · have h := of_decide_eq_true h
      intro _
      refine ⟨by omega, ⟨0, ⟨ownC_eq (by simp [rowC]), rfl⟩, hw.1⟩, fun x hx _ hr2 => split_of (fun h2 => ?_) (fun h2 => ?_)⟩
      · have h2 := of_decide_eq_true h2
        have hl := rows_short (w := q.1) (y := y) (x := x) (z := y) (by omega) (by omega) (by omega)
        have hl2 := List.length_filter_le p (rowsC q.1 y ++ rowC y x)
        refine ⟨_, hp x y (by omega) (by omega) (by omega) (by omega), split_of (fun h3 => ?_) (fun h3 => ?_)⟩
        · refine ⟨by omega, by omega, by simp only [List.length_cons, List.length_nil]; omega, by omega, x + 1, ⟨ownC_eq ?_, valI_eq (by omega)⟩, by omega, by omega⟩
          rw [rowC_succ, ← List.append_assoc, filter_yes h3]
        · refine ⟨by omega, x + 1, ⟨ownC_eq ?_, valI_eq (by omega)⟩, by omega, by omega⟩
          rw [rowC_succ, ← List.append_assoc, filter_no h3]
      · have h2 := of_decide_eq_false h2
        have e : x = q.1.toNat := by omega
        refine ⟨by omega, y + 1, ⟨ownC_eq (by rw [rowsC_succ, e]), valI_eq (by omega)⟩, by omega, by omega⟩
    · have h := of_decide_eq_false h
      have e : y = q.2.1.toNat := by omega
      rw [e]; rfl
  refine @Eq.mpr _ _ (?_) key
  kernel_rfl
end Go.Proofs.Ytkhheofgnhndbaa
