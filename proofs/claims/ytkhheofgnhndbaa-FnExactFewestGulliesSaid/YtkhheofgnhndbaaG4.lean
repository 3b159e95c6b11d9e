/- Cells and rows of cells: copies, comparisons. -/
import Derived.Test.YtkhheofgnhndbaaG3
namespace Go.Proofs.Ytkhheofgnhndbaa
set_option linter.unusedVariables false
set_option linter.unusedSimpArgs false
open Go.RowKit
set_option maxHeartbeats 400000 in
theorem toCell_is (x y : Int) (w : World) : Calls Try.prog 29 #[.agg #[.int .i8 x, .int .i8 y]] w fun e w' => e = .returned (.agg #[.int .i8 x, .int .i8 y]) ∧ Below w.heap.size w w' := by
  go_enter Try.func29, Try.ntmps29
  go_wp2
  exact bodyPost_ret (v := .agg #[.int .i8 x, .int .i8 y]) (by simp [results, Try.results29, go_sem]) rfl ⟨rfl, (((Below.refl _ _).alloc (Nat.le_refl _) _).alloc (by simp) _).alloc (by simp; omega) _⟩
theorem eqCell_t (x y : Int) (w : World) : Calls Try.prog 23 #[.agg #[.int .i8 x, .int .i8 y], .agg #[.int .i8 x, .int .i8 y]] w fun e w' => e = .returned (.bool true) ∧ Below w.heap.size w w' := by
  go_enter Try.func23, Try.ntmps23
  have h1 : (x != x) = false := by simp
  have h2 : (y != y) = false := by simp
  go_wp2
  go_ret
  exact ⟨rfl, ((Below.refl _ _).alloc (Nat.le_refl _) _).alloc (by simp) _⟩
/-- Element j of a row of cells. -/
def CellAt (w : World) (ad : Addr) (j : Nat) (p : Int × Int) : Prop :=
  w.cell? (ad.add (j * 2)) = some (.int .i8 p.1) ∧ w.cell? ⟨(ad.add (j * 2)).block, (ad.add (j * 2)).off + 1, none⟩ = some (.int .i8 p.2)
theorem CellAt.below {w w1 : World} {ad : Addr} {j : Nat} {p : Int × Int} (h : CellAt w ad j p) (hb : Below w.heap.size w w1) : CellAt w1 ad j p := ⟨cell_below hb h.1, cell_below hb h.2⟩
/-- A slice of cells that is read. -/
def Cs (w : World) (v : Value) (xs : List (Int × Int)) : Prop :=
  ∃ A c, v = .slice A xs.length c ∧ xs.length ≤ c ∧ c ≤ maxLen ∧ (0 < xs.length → ∃ ad, A = some ad ∧ ∀ j, j < xs.length → CellAt w ad j (xs.getD j (0, 0)))
theorem Cs.below {w w1 : World} {v : Value} {xs : List (Int × Int)} (h : Cs w v xs) (hb : Below w.heap.size w w1) : Cs w1 v xs := by
  obtain ⟨A, c, e, h1, h2, h3⟩ := h
  exact ⟨A, c, e, h1, h2, fun h0 => by obtain ⟨ad, e, h⟩ := h3 h0; exact ⟨ad, e, fun j hj => (h j hj).below hb⟩⟩
theorem wrap_sz (n : Nat) (hn : n ≤ maxLen) : wrap64 (1048576 - (n : Int)) = 1048576 - (n : Int) := by
  unfold maxLen at hn
  unfold wrap64
  omega
theorem szCellS_is (xs : List (Int × Int)) (v : Value) (w : World) (hv : Cs w v xs) (r : Int) (hr : (if 1048576 - (xs.length : Int) < 0 then -1 else 1048576 - (xs.length : Int)) = r) :
    Calls Try.prog 31 #[v, .int .i64 1048576] w fun e w' => e = .returned (.int .i64 r) ∧ w = w' := by
  obtain ⟨A, c, rfl, h1, h2, h3⟩ := hv
  have hw := wrap_sz xs.length (Nat.le_trans h1 h2)
  go_enter Try.func31, Try.ntmps31
  clear h3 h2 h1
  by_cases h : 1048576 - (xs.length : Int) < 0
  · rw [if_pos h] at hr
    subst hr
    go_wp2
    go_ret
    exact ⟨rfl, rfl⟩
  · rw [if_neg h] at hr
    have HR := Lib.hid hr
    clear hr
    go_wp2
    go_ret
    exact ⟨by rw [← HR.out]; rfl, rfl⟩
theorem Cs.slice {w : World} {xs : List (Int × Int)} {A : Option Addr} {n c : Nat} (h : Cs w (.slice A n c) xs) : n = xs.length := by
  obtain ⟨A', c', e, _⟩ := h
  injection e
def eqPost (w : World) (r : Bool) (e : Ending) (w' : World) : Prop := e = .returned (.bool r) ∧ Below w.heap.size w w'
set_option maxHeartbeats 800000 in
theorem eqCellS_t (xs : List (Int × Int)) (v u : Value) (w : World) (hv : Cs w v xs) (hu : Cs w u xs) (hl : xs.length ≤ 1048576) :
    Calls Try.prog 35 #[v, u] w (eqPost w true) := by
  obtain ⟨A, c, rfl, h1, h2, h3⟩ := hv
  obtain ⟨B, d, rfl, g1, g2, g3⟩ := hu
  clear h2 g2
  have H3 := Lib.hid h3
  have G3 := Lib.hid g3
  clear h3 g3
  go_enter Try.func35, Try.ntmps35
  have h1 : ((xs.length : Int) != (xs.length : Int)) = false := by simp
  go_wp2
  go_loopw [5] (fun i wr => ∃ k : Nat, k ≤ xs.length ∧ i = .int .i64 k ∧ Below w.heap.size w wr) (fun i _ => xs.length - (intOf i).toNat)
  case atStart => exact ⟨0, Nat.zero_le _, rfl, Below.refl _ _⟩
  case round =>
    obtain ⟨k, hk, rfl, hB⟩ := hrel
    by_cases hlt : k < xs.length
    · obtain ⟨ad, rfl, hc⟩ := H3.out (by omega)
      obtain ⟨be, rfl, hd⟩ := G3.out (by omega)
      have c1 := ext_cell ((hc k hlt).below hB).1
      have c2 := ext_cell ((hc k hlt).below hB).2
      have d1 := ext_cell ((hd k hlt).below hB).1
      have d2 := ext_cell ((hd k hlt).below hB).2
      clear hc hd
      go_wp2
      try simp only [Act.put, List.setIfInBounds_toArray, List.set_cons_zero, List.set_cons_succ]
      refine wp_region_ext (by kernel_rfl) (by kernel_rfl) ?_
      repeat (first
        | go_big_quiet_skip
        | (go_big_quiet_want
           go_big_quiet_op
           first
             | go_big_quiet_on
             | (apply Exists.intro
                refine ⟨fun _ => ?_, ?_⟩
                · first
                    | (go_at_call 23; exact Calls.ext_of (eqCell_t _ _ _))
                go_big_quiet_on)))
      refine wpQuiet_nil ?_
      intro w3 hb3
      go_wp2
      go_roundw
      case rel => exact ⟨k + 1, by omega, by go_num, below_trans hB hb3⟩
      case measure => simp [intOf]; omega
    · go_wp2
      go_ret
      exact ⟨rfl, hB⟩
end Go.Proofs.Ytkhheofgnhndbaa
