/- Grounds as data; small functions on points. -/
import Derived.Test.YtkhheofgnhndbaaG0
namespace Go.Proofs.Ytkhheofgnhndbaa
set_option linter.unusedVariables false
set_option linter.unusedSimpArgs false
open Go.RowKit
/-- A ground as numbers: sides, 81 heights, gullies. -/
structure Gd where
  W : Int
  H : Int
  hs : List Int
  gul : List (Int × Int)
/-- Its cells; gl: the slice of gullies. -/
def gc (G : Gd) (gl : Value) : Array Value := ((Value.int .i8 G.W :: Value.int .i8 G.H :: G.hs.map (Value.int .i16)) ++ [gl]).toArray
theorem gc_0 (G : Gd) (gl : Value) : (gc G gl)[0]? = some (.int .i8 G.W) := by simp [gc]
theorem gc_1 (G : Gd) (gl : Value) : (gc G gl)[1]? = some (.int .i8 G.H) := by simp [gc]
theorem gc_83 (G : Gd) (gl : Value) (h : G.hs.length = 81) : (gc G gl)[83]? = some gl := by
  simp [gc, h]
theorem gc_size (G : Gd) (gl : Value) (h : G.hs.length = 81) : (gc G gl).size = 84 := by simp [gc, h]
def hAt (G : Gd) (x y : Int) : Int := G.hs.getD (y.toNat * 9 + x.toNat) 0
theorem gc_h (G : Gd) (gl : Value) (h : G.hs.length = 81) (x y : Int) (hx0 : 0 ≤ x) (hx : x < 9) (hy0 : 0 ≤ y) (hy : y < 9) : (gc G gl)[2 + y.toNat * 9 + x.toNat]? = some (.int .i16 (hAt G x y)) := by
  have e : 2 + y.toNat * 9 + x.toNat = (y.toNat * 9 + x.toNat) + 1 + 1 := by omega
  simp only [gc, List.getElem?_toArray, e, List.cons_append, List.getElem?_cons_succ]
  rw [List.getElem?_append_left (by simp; omega)]
  simp [hAt, List.getD_eq_getElem?_getD, List.getElem?_eq_getElem (show y.toNat * 9 + x.toNat < G.hs.length by omega)]
def i8ok (a : Int) : Prop := -128 ≤ a ∧ a ≤ 127
def i16ok (a : Int) : Prop := -32768 ≤ a ∧ a ≤ 32767
structure GdOk (G : Gd) : Prop where
  W : i8ok G.W
  H : i8ok G.H
  len : G.hs.length = 81
  hs : ∀ h ∈ G.hs, i16ok h
  gul : ∀ p ∈ G.gul, i8ok p.1 ∧ i8ok p.2
theorem hAt_ok {G : Gd} (hG : GdOk G) (x y : Int) : -32768 ≤ hAt G x y ∧ hAt G x y ≤ 32767 := by
  unfold hAt
  rw [List.getD_eq_getElem?_getD]
  rcases Nat.lt_or_ge (y.toNat * 9 + x.toNat) G.hs.length with h | h
  · rw [List.getElem?_eq_getElem h]
    exact hG.hs _ (List.getElem_mem h)
  · rw [List.getElem?_eq_none h]
    simp
theorem gc_info (G : Gd) (gl : Value) (hG : GdOk G) : (Try.prog.info? 33).map (·.size) = some (gc G gl).size := by
  rw [gc_size G gl hG.len]
  kernel_rfl
attribute [irreducible] gc
set_option maxHeartbeats 400000 in
theorem height_is (G : Gd) (gl : Value) (hG : GdOk G) (x y : Int) (hx : 0 ≤ x ∧ x < 9) (hy : 0 ≤ y ∧ y < 9) (w : World) :
    Calls Try.prog 61 #[.agg (gc G gl), .agg #[.int .i8 x, .int .i8 y]] w fun e w' => e = .returned (.int .i64 (hAt G x y)) ∧ Below w.heap.size w w' := by
  obtain ⟨hx1, hx2⟩ := hx
  obtain ⟨hy1, hy2⟩ := hy
  go_enter Try.func61, Try.ntmps61
  go_wp2_with (first
    | (with_reducible refine wpList_box 2 rfl rfl 33 _ rfl (.agg (gc G gl)) rfl (gc G gl) rfl ?_; intro g1 w1 b1 hb1 _hs1)
    | (with_reducible refine wpList_box 3 rfl rfl 40 _ rfl (.agg #[.int .i8 x, .int .i8 y]) rfl #[.int .i8 x, .int .i8 y] rfl ?_; intro g2 w2 b2 hb2 _hs2))
  obtain ⟨hh1, hh2⟩ := hAt_ok hG x y
  have b1' := blk_below hb2 b1
  have c0 := ext_cell (v := .int .i8 x) ((blk_cell b2 0).trans rfl)
  have c1 := ext_cell (v := .int .i8 y) ((blk_cell b2 1).trans rfl)
  have cc := ext_cell ((blk_cell b1' _).trans (gc_h G gl hG.len x y hx1 hx2 hy1 hy2))
  try simp only [Act.put, List.setIfInBounds_toArray, List.set_cons_zero, List.set_cons_succ]
  refine wp_region_ext (by kernel_rfl) (by kernel_rfl) ?_
  repeat (first
    | go_big_quiet_skip
    | (go_big_quiet_want
       go_big_quiet_op
       first
         | go_big_quiet_on))
  refine wpQuiet_nil ?_
  intro w3 hb3
  go_wp2
  go_ret
  exact ⟨rfl, below_trans (below_trans hb1 hb2) hb3⟩
end Go.Proofs.Ytkhheofgnhndbaa
