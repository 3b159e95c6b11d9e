/- Grounds: sizes, copies, comparisons. -/
import Derived.Test.YtkhheofgnhndbaaG6
namespace Go.Proofs.Ytkhheofgnhndbaa
set_option linter.unusedVariables false
set_option linter.unusedSimpArgs false
open Go.RowKit
def gz : Gd := ⟨0, 0, List.replicate 81 0, []⟩
theorem gc_list (G : Gd) (gl : Value) : (gc G gl).toList = [Value.int .i8 G.W] ++ ([Value.int .i8 G.H] ++ (i16s G.hs ++ [gl])) := by simp [gc, i16s]
theorem gc_setW (G : Gd) (gl : Value) (x : Int) : ((gc G gl).toList.take 0 ++ #[Value.int .i8 x].toList ++ (gc G gl).toList.drop (0 + #[Value.int .i8 x].size)).toArray = gc { G with W := x } gl := by
  simp [gc]
theorem gc_setH (G : Gd) (gl : Value) (x : Int) : ((gc G gl).toList.take 1 ++ #[Value.int .i8 x].toList ++ (gc G gl).toList.drop (1 + #[Value.int .i8 x].size)).toArray = gc { G with H := x } gl := by
  simp [gc]
theorem gc_setHs (G : Gd) (gl : Value) (l : List Int) (h : G.hs.length = 81) (hl : l.length = 81) : ((gc G gl).toList.take 2 ++ (i16s l).toArray.toList ++ (gc G gl).toList.drop (2 + (i16s l).toArray.size)).toArray = gc { G with hs := l } gl := by
  simp [gc, i16s, hl, h]
theorem gc_setGl (G : Gd) (gl v : Value) (h : G.hs.length = 81) : ((gc G gl).toList.take 83 ++ #[v].toList ++ (gc G gl).toList.drop (83 + #[v].size)).toArray = gc G v := by
  simp [gc, h]
theorem gc_seg (G : Gd) (gl : Value) (k : Nat) (v : Value) (h : (i16s G.hs)[k]? = some v) : (gc G gl)[2 + k]? = some v := by
  have hk : k < (i16s G.hs).length := (List.getElem?_eq_some_iff.1 h).1
  have e : 2 + k = k + 1 + 1 := by omega
  simp only [gc, List.getElem?_toArray, e, List.cons_append, List.getElem?_cons_succ]
  rw [List.getElem?_append_left (by simpa [i16s] using hk)]
  exact h
theorem gc_one (G : Gd) (gl : Value) (hgl : gl.oneCell' = true) : ∀ u ∈ (gc G gl).toList, u.oneCell' = true := by
  intro u hu
  simp only [gc, List.mem_append, List.mem_cons, List.mem_map, List.not_mem_nil, or_false] at hu
  rcases hu with (rfl | rfl | ⟨x, _, rfl⟩) | rfl
  · rfl
  · rfl
  · rfl
  · exact hgl
theorem gc_whole (G G' : Gd) (gl v : Value) (h : G.hs.length = 81) (h' : G'.hs.length = 81) : ((gc G' v).toList.take 0 ++ (gc G gl).toList ++ (gc G' v).toList.drop (0 + (gc G gl).size)).toArray = gc G gl := by
  rw [gc_size G gl h]
  have : (gc G' v).toList.length = 84 := by rw [Array.length_toList, gc_size G' v h']
  simp [List.drop_of_length_le (show (gc G' v).toList.length ≤ 84 by omega)]
def toGPost (w : World) (G : Gd) (e : Ending) (w' : World) : Prop := ∃ v, e = .returned (.agg (gc G v)) ∧ MadeC w G.gul v w' ∧ Below w.heap.size w w'
theorem gsize (G : Gd) (gl : Value) (h : G.hs.length = 81) : (Try.prog.info? 33).map (·.size) = some (gc G gl).size := by
  rw [gc_size G gl h]; kernel_rfl
set_option maxHeartbeats 1000000 in
theorem toGround_is (G : Gd) (gl : Value) (hG : GdOk G) (w : World) (hv : Cs w gl G.gul) (hl : G.gul.length ≤ 1048576) :
    Calls Try.prog 16 #[.agg (gc G gl)] w (toGPost w G) := by
  obtain ⟨W, H, hs, gul⟩ := G
  have hlen : hs.length = 81 := hG.len
  dsimp only at hv hl
  go_enter Try.func16, Try.ntmps16
  go_wp2_with (first
    | (with_reducible refine wpList_box 1 rfl rfl 28 _ rfl (.agg (gc ⟨W, H, hs, gul⟩ gl)) rfl (gc ⟨W, H, hs, gul⟩ gl) rfl ?_; intro g1 w1 b1 hb1 _hs1)
    | (with_reducible refine wpList_allocB 2 rfl rfl 33 rfl (.agg (gc gz (.slice none 0 0))) (gc gz (.slice none 0 0)) (by kernel_rfl) rfl ?_; intro g2 w2 b2 hb2 _hs2; have n1_2 : g1 < g2 := Nat.lt_of_lt_of_le (blk_lt b1) _hs2; have b1 := blk_below hb2 b1; have hs2 : w.heap.size ≤ g2 := Nat.le_trans hb1.size _hs2)
    | (with_reducible refine wpList_allocB 3 rfl rfl 33 rfl (.agg (gc gz (.slice none 0 0))) (gc gz (.slice none 0 0)) (by kernel_rfl) rfl ?_; intro g3 w3 b3 hb3 _hs3; have n1_3 : g1 < g3 := Nat.lt_of_lt_of_le (blk_lt b1) _hs3; have n2_3 : g2 < g3 := Nat.lt_of_lt_of_le (blk_lt b2) _hs3; have b1 := blk_below hb3 b1; have b2 := blk_below hb3 b2; have cW := (blk_cell b1 0).trans (gc_0 _ _); have hs3 : w.heap.size ≤ g3 := Nat.le_trans (below_trans hb1 hb2).size _hs3)
    | (with_reducible refine wpList_storeB rfl 22 _ _ rfl g3 0 (.int .i8 W) #[.int .i8 W] rfl rfl rfl _ 33 b3 (by kernel_rfl) (by simp [Value.oneCell']) (by rw [gc_size _ _ (by simp [gz])]; simp) _ (gc_setW _ _ _) ?_; intro w4 b4 hS4; have cH := (blk_cell (hS4.blk b1 (by omega)) 1).trans (gc_1 _ _))
    | (with_reducible refine wpList_storeB rfl 22 _ _ rfl g3 1 (.int .i8 H) #[.int .i8 H] rfl rfl rfl _ 33 b4 (by kernel_rfl) (by simp [Value.oneCell']) (by rw [gc_size _ _ (by simp [gz])]; simp) _ (gc_setH _ _ _) ?_; intro w5 b5 hS5; have r5 : w5.rangeAt g1 2 (i16s hs) := range_of_blk (hS5.blk (hS4.blk b1 (by omega)) (by omega)) _ (fun k v h => gc_seg ⟨W, H, hs, gul⟩ gl k v h))
    | (with_reducible refine wpList_load_mid rfl 25 _ rfl g1 2 rfl (i16s hs) _ r5 Try.underlying25 rfl (by rw [i16s_len, hlen]; kernel_rfl) ?_)
    | (go_at_call 49; refine (toRows_is hs hlen _).mono ?_; rintro e w6 ⟨rfl, hb6⟩; have b5 := blk_below hb6 b5; have b1 := blk_below hb6 (hS5.blk (hS4.blk b1 (by omega)) (by omega)); have b2 := blk_below hb6 (hS5.blk (hS4.blk b2 (by omega)) (by omega)); have hB6 : Below w.heap.size w w6 := below_trans (hS5.below (hS4.below (below_trans (below_trans hb1 hb2) hb3) hs3) hs3) hb6)
    | (with_reducible refine wpList_storeB rfl 25 _ _ rfl g3 2 (.agg (i16s hs).toArray) (i16s hs).toArray rfl rfl rfl _ 33 b5 (by simp only [List.size_toArray, i16s_len, hlen]; kernel_rfl) (by simpa using i16s_one hs) (by rw [gc_size _ _ (by simp [gz])]; simp [i16s_len, hlen]) _ (gc_setHs _ _ _ (by simp [gz]) hlen) ?_; intro w7 b7 hS7; have c83 := (blk_cell (hS7.blk b1 (by omega)) 83).trans (gc_83 _ _ hlen))
    | (go_at_call 33; refine (toCellS_is gul gl _ (hv.below (hS7.below hB6 hs3)) hl).mono ?_; rintro e w8 ⟨v, rfl, hM, hb8⟩; have b7 := blk_below hb8 b7; have b2 := blk_below hb8 (hS7.blk b2 (by omega)); have hB8 : Below w.heap.size w w8 := below_trans (hS7.below hB6 hs3) hb8; obtain ⟨g4, rfl, b4', hs4⟩ := hM; have hs4' : w.heap.size ≤ g4 := Nat.le_trans (hS7.below hB6 hs3).size hs4; have n3_4 : g3 < g4 := Nat.lt_of_lt_of_le (by have := blk_lt b5; rw [hS7.size]; exact this) hs4; have n2_4 : g2 < g4 := by omega)
    | (with_reducible refine wpList_storeB rfl 31 _ _ rfl g3 83 (.slice (some ⟨g4, 0, none⟩) gul.length gul.length) #[.slice (some ⟨g4, 0, none⟩) gul.length gul.length] rfl rfl rfl _ 33 b7 (by kernel_rfl) (by simp [Value.oneCell']) (by rw [gc_size _ _ hlen]; simp) _ (gc_setGl _ _ _ hlen) ?_; intro w9 b9 hS9)
    | (with_reducible refine wpList_load_row rfl 33 _ rfl g3 rfl 33 _ (0, 0) _ b9 Try.underlying33 rfl (gsize _ _ hlen) ?_)
    | (with_reducible refine wpList_storeB rfl 33 _ _ rfl g2 0 (.agg (gc ⟨W, H, hs, gz.gul⟩ (.slice (some ⟨g4, 0, none⟩) gul.length gul.length))) (gc ⟨W, H, hs, gz.gul⟩ (.slice (some ⟨g4, 0, none⟩) gul.length gul.length)) rfl rfl rfl _ 33 (hS9.blk b2 (by omega)) (gsize _ _ hlen) (gc_one _ _ rfl) (by rw [gc_size _ _ hlen, gc_size _ _ (by simp [gz])]; simp) (gc ⟨W, H, hs, gz.gul⟩ (.slice (some ⟨g4, 0, none⟩) gul.length gul.length)) (gc_whole _ _ _ _ hlen (by simp [gz])) ?_; intro w10 b10 hS10))
  have e : gc ⟨W, H, hs, gz.gul⟩ (.slice (some ⟨g4, 0, none⟩) gul.length gul.length) = gc ⟨W, H, hs, gul⟩ (.slice (some ⟨g4, 0, none⟩) gul.length gul.length) := by unfold gc; rfl
  rw [e] at b10
  exact bodyPost_ret (v := .agg (gc ⟨W, H, hs, gul⟩ (.slice (some ⟨g4, 0, none⟩) gul.length gul.length))) (results_cell_row rfl _ _ g2 33 _ (0, 0) _ rfl b10 Try.underlying33 rfl (gsize _ _ hlen)) rfl ⟨_, rfl, ⟨g4, rfl, hS10.blk (hS9.blk b4' (by omega)) (by omega), hs4'⟩, hS10.below (hS9.below hB8 hs3) hs2⟩
end Go.Proofs.Ytkhheofgnhndbaa
