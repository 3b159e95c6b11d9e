/- Arrays of heights and whole grounds: copies, comparisons. -/
import Derived.Test.YtkhheofgnhndbaaG5
namespace Go.Proofs.Ytkhheofgnhndbaa
set_option linter.unusedVariables false
set_option linter.unusedSimpArgs false
open Go.RowKit
def i16s (l : List Int) : List Value := l.map (Value.int .i16)
theorem i16s_get (l : List Int) (k : Nat) (hk : k < l.length) : (i16s l)[k]? = some (.int .i16 (l.getD k 0)) := by
  simp [i16s, List.getD_eq_getElem?_getD, List.getElem?_eq_getElem hk]
theorem i16s_len (l : List Int) : (i16s l).length = l.length := by simp [i16s]
theorem i16s_one (l : List Int) : ∀ u ∈ i16s l, u.oneCell' = true := by
  intro u hu
  simp only [i16s, List.mem_map] at hu
  obtain ⟨x, _, rfl⟩ := hu
  rfl
theorem splice_seg (l : List Int) (n k m : Nat) (hl : l.length = n) (hk : k + m ≤ n) :
    (i16s (l.take k ++ List.replicate (n - k) 0)).take k ++ i16s ((l.drop k).take m) ++ (i16s (l.take k ++ List.replicate (n - k) 0)).drop (k + m) = i16s (l.take (k + m) ++ List.replicate (n - (k + m)) 0) := by
  simp only [i16s, ← List.map_take, ← List.map_drop, ← List.map_append]
  congr 1
  have h1 : (l.take k ++ List.replicate (n - k) 0).take k = l.take k := by
    rw [List.take_append_of_le_length (by simp; omega), List.take_take, Nat.min_self]
  have h2 : (l.take k ++ List.replicate (n - k) 0).drop (k + m) = List.replicate (n - (k + m)) 0 := by
    rw [List.drop_append, List.drop_of_length_le (by simp; omega)]
    simp
    omega
  rw [h1, h2, List.take_add]
theorem row_info (l : List Int) (hl : l.length = 9) : (Try.prog.info? 24).map (·.size) = some (i16s l).toArray.size := by simp only [List.size_toArray, i16s_len, hl]; kernel_rfl
set_option maxHeartbeats 800000 in
theorem toRow_is (l : List Int) (hl : l.length = 9) (w : World) :
    Calls Try.prog 88 #[.agg (i16s l).toArray] w fun e w' => e = .returned (.agg (i16s l).toArray) ∧ Below w.heap.size w w' := by
  go_enter Try.func88, Try.ntmps88
  go_wp2_with (first
    | (with_reducible refine wpList_box 1 rfl rfl 24 _ rfl (.agg (i16s l).toArray) rfl (i16s l).toArray rfl ?_; intro g1 w1 b1 hb1 _hs1)
    | (with_reducible refine wpList_allocB 2 rfl rfl 24 rfl (.agg (i16s (List.replicate 9 0)).toArray) (i16s (List.replicate 9 0)).toArray (by kernel_rfl) rfl ?_; intro g2 w2 b2 hb2 _hs2; have n1_2 : g1 < g2 := Nat.lt_of_lt_of_le (blk_lt b1) _hs2; have b1 := blk_below hb2 b1)
    | (with_reducible refine wpList_allocB 3 rfl rfl 24 rfl (.agg (i16s (List.replicate 9 0)).toArray) (i16s (List.replicate 9 0)).toArray (by kernel_rfl) rfl ?_; intro g3 w3 b3 hb3 _hs3; have n1_3 : g1 < g3 := Nat.lt_of_lt_of_le (blk_lt b1) _hs3; have b1 := blk_below hb3 b1; have n2_3 : g2 < g3 := Nat.lt_of_lt_of_le (blk_lt b2) _hs3; have b2 := blk_below hb3 b2))
  have hB0 : Below w.heap.size w w3 := below_trans (below_trans hb1 hb2) hb3
  have hs2 : w.heap.size ≤ g2 := Nat.le_trans hb1.size _hs2
  have hs3 : w.heap.size ≤ g3 := Nat.le_trans (below_trans hb1 hb2).size _hs3
  go_loopw [4] (fun i wr => ∃ k : Nat, k ≤ 9 ∧ i = .int .i64 k ∧ Below w.heap.size w wr ∧ wr.heap[g1]? = some (.cells (i16s l).toArray 24 (0, 0)) ∧ wr.heap[g2]? = some (.cells (i16s (List.replicate 9 0)).toArray 24 (0, 0)) ∧ wr.heap[g3]? = some (.cells (i16s (l.take k ++ List.replicate (9 - k) 0)).toArray 24 (0, 0))) (fun i _ => 9 - (intOf i).toNat)
  case atStart => exact ⟨0, Nat.zero_le _, rfl, hB0, b1, b2, by simpa using b3⟩
  case round =>
    obtain ⟨k, hk, rfl, hB, c1, c2, c3⟩ := hrel
    by_cases hlt : k < 9
    · have e1 : wr.cell? ⟨g1, k, none⟩ = some (.int .i16 (l.getD k 0)) := (blk_cell c1 k).trans (by simpa using i16s_get l k (by omega))
      go_wp2_with (first
        | (with_reducible refine wpList_storeB rfl 23 _ _ rfl g3 k (.int .i16 (l[k]'(by omega))) #[.int .i16 (l[k]'(by omega))] rfl rfl rfl _ 24 c3 (by kernel_rfl) (by simp [Value.oneCell']) (by simp [i16s_len]; omega) _ rfl ?_; intro w4 c4 hS4))
      refine ⟨⟨k + 1, by omega, by go_num, hS4.below hB hs3, hS4.blk c1 (by omega), hS4.blk c2 (by omega), ?_⟩, by simp [intOf]; omega⟩
      rw [c4, ← splice_seg l 9 k 1 hl (by omega), List.drop_eq_getElem_cons (show k < l.length by omega)]
      rfl
    · obtain rfl : k = 9 := by omega
      have c3' : wr.heap[g3]? = some (.cells (i16s l).toArray 24 (0, 0)) := by rw [c3]; simp [List.take_of_length_le (show l.length ≤ 9 by omega)]
      clear c3
      go_wp2_with (first
        | (with_reducible refine wpList_load_row rfl 24 _ rfl g3 rfl 24 (i16s l).toArray (0, 0) _ c3' Try.underlying24 rfl (row_info l hl) ?_)
        | (with_reducible refine wpList_storeB rfl 24 _ _ rfl g2 0 (.agg (i16s l).toArray) (i16s l).toArray rfl rfl rfl _ 24 c2 (row_info l hl) (by simpa using i16s_one l) (by simp [i16s_len, hl]) (i16s l).toArray (by simp [i16s_len, hl]) ?_; intro w4 c4 hS4))
      exact bodyPost_ret (v := .agg (i16s l).toArray) (results_cell_row rfl _ _ g2 24 (i16s l).toArray (0, 0) _ rfl c4 Try.underlying24 rfl (row_info l hl)) rfl ⟨rfl, hS4.below hB hs2⟩
theorem rows_info (l : List Int) (hl : l.length = 81) : (Try.prog.info? 25).map (·.size) = some (i16s l).toArray.size := by simp only [List.size_toArray, i16s_len, hl]; kernel_rfl
theorem i16s_seg (l : List Int) (k m : Nat) (i : Nat) (v : Value) (h : (i16s ((l.drop k).take m))[i]? = some v) : (i16s l).toArray[k + i]? = some v := by
  simp only [i16s, List.map_take, List.map_drop] at h
  rw [List.getElem?_take] at h
  split at h
  · rw [List.getElem?_drop] at h
    simpa [i16s] using h
  · cases h
set_option maxHeartbeats 800000 in
theorem toRows_is (l : List Int) (hl : l.length = 81) (w : World) :
    Calls Try.prog 49 #[.agg (i16s l).toArray] w fun e w' => e = .returned (.agg (i16s l).toArray) ∧ Below w.heap.size w w' := by
  go_enter Try.func49, Try.ntmps49
  go_wp2_with (first
    | (with_reducible refine wpList_box 1 rfl rfl 25 _ rfl (.agg (i16s l).toArray) rfl (i16s l).toArray rfl ?_; intro g1 w1 b1 hb1 _hs1)
    | (with_reducible refine wpList_allocB 2 rfl rfl 25 rfl (.agg (i16s (List.replicate 81 0)).toArray) (i16s (List.replicate 81 0)).toArray (by kernel_rfl) rfl ?_; intro g2 w2 b2 hb2 _hs2; have n1_2 : g1 < g2 := Nat.lt_of_lt_of_le (blk_lt b1) _hs2; have b1 := blk_below hb2 b1)
    | (with_reducible refine wpList_allocB 3 rfl rfl 25 rfl (.agg (i16s (List.replicate 81 0)).toArray) (i16s (List.replicate 81 0)).toArray (by kernel_rfl) rfl ?_; intro g3 w3 b3 hb3 _hs3; have n1_3 : g1 < g3 := Nat.lt_of_lt_of_le (blk_lt b1) _hs3; have b1 := blk_below hb3 b1; have n2_3 : g2 < g3 := Nat.lt_of_lt_of_le (blk_lt b2) _hs3; have b2 := blk_below hb3 b2))
  have hB0 : Below w.heap.size w w3 := below_trans (below_trans hb1 hb2) hb3
  have hs2 : w.heap.size ≤ g2 := Nat.le_trans hb1.size _hs2
  have hs3 : w.heap.size ≤ g3 := Nat.le_trans (below_trans hb1 hb2).size _hs3
  go_loopw [4] (fun i wr => ∃ k : Nat, k ≤ 9 ∧ i = .int .i64 k ∧ Below w.heap.size w wr ∧ wr.heap[g1]? = some (.cells (i16s l).toArray 25 (0, 0)) ∧ wr.heap[g2]? = some (.cells (i16s (List.replicate 81 0)).toArray 25 (0, 0)) ∧ wr.heap[g3]? = some (.cells (i16s (l.take (k * 9) ++ List.replicate (81 - k * 9) 0)).toArray 25 (0, 0))) (fun i _ => 9 - (intOf i).toNat)
  case atStart => exact ⟨0, Nat.zero_le _, rfl, hB0, b1, b2, by simpa using b3⟩
  case round =>
    obtain ⟨k, hk, rfl, hB, c1, c2, c3⟩ := hrel
    by_cases hlt : k < 9
    · obtain ⟨row, hrow⟩ : ∃ r, (l.drop (k * 9)).take 9 = r := ⟨_, rfl⟩
      have hrl : row.length = 9 := by rw [← hrow]; simp; omega
      have c1r : wr.rangeAt g1 (k * 9) (i16s row) := range_of_blk c1 _ (fun i v h => by rw [← hrow] at h; exact i16s_seg l _ _ i v h)
      have Hrow := Lib.hid hrow
      clear hrow
      go_wp2_with (first
        | (with_reducible refine wpList_load_mid rfl 24 _ rfl g1 (k * 9) rfl (i16s row) _ c1r Try.underlying24 rfl (by rw [i16s_len, hrl]; kernel_rfl) ?_)
        | (go_at_call 88; refine (toRow_is row hrl _).mono ?_; rintro e w5 ⟨rfl, hb5⟩; have c3 := blk_below hb5 c3; have c1 := blk_below hb5 c1; have c2 := blk_below hb5 c2)
        | (with_reducible refine wpList_storeB rfl 24 _ _ rfl g3 (k * 9) (.agg (i16s row).toArray) (i16s row).toArray rfl rfl rfl _ 25 c3 (row_info row hrl) (by simpa using i16s_one row) (by simp [i16s_len]; omega) _ rfl ?_; intro w6 c6 hS6))
      refine ⟨⟨k + 1, by omega, by go_num, hS6.below (below_trans hB hb5) hs3, hS6.blk c1 (by omega), hS6.blk c2 (by omega), ?_⟩, by simp [intOf]; omega⟩
      rw [c6, show (k + 1) * 9 = k * 9 + 9 by omega, ← splice_seg l 81 (k * 9) 9 hl (by omega), Hrow.out]
      simp [i16s_len, hrl]
    · obtain rfl : k = 9 := by omega
      have c3' : wr.heap[g3]? = some (.cells (i16s l).toArray 25 (0, 0)) := by rw [c3]; simp [List.take_of_length_le (show l.length ≤ 81 by omega)]
      clear c3
      go_wp2_with (first
        | (with_reducible refine wpList_load_row rfl 25 _ rfl g3 rfl 25 (i16s l).toArray (0, 0) _ c3' Try.underlying25 rfl (rows_info l hl) ?_)
        | (with_reducible refine wpList_storeB rfl 25 _ _ rfl g2 0 (.agg (i16s l).toArray) (i16s l).toArray rfl rfl rfl _ 25 c2 (rows_info l hl) (by simpa using i16s_one l) (by simp [i16s_len, hl]) (i16s l).toArray (by simp [i16s_len, hl]) ?_; intro w4 c4 hS4))
      exact bodyPost_ret (v := .agg (i16s l).toArray) (results_cell_row rfl _ _ g2 25 (i16s l).toArray (0, 0) _ rfl c4 Try.underlying25 rfl (rows_info l hl)) rfl ⟨rfl, hS4.below hB hs2⟩
set_option maxHeartbeats 800000 in
theorem eqRow_t (l : List Int) (hl : l.length = 9) (w : World) :
    Calls Try.prog 93 #[.agg (i16s l).toArray, .agg (i16s l).toArray] w fun e w' => e = .returned (.bool true) ∧ Below w.heap.size w w' := by
  go_enter Try.func93, Try.ntmps93
  go_wp2_with (first
    | (with_reducible refine wpList_box 2 rfl rfl 24 _ rfl (.agg (i16s l).toArray) rfl (i16s l).toArray rfl ?_; intro g1 w1 b1 hb1 _hs1)
    | (with_reducible refine wpList_box 3 rfl rfl 24 _ rfl (.agg (i16s l).toArray) rfl (i16s l).toArray rfl ?_; intro g2 w2 b2 hb2 _hs2; have n1_2 : g1 < g2 := Nat.lt_of_lt_of_le (blk_lt b1) _hs2; have b1 := blk_below hb2 b1))
  have hB0 : Below w.heap.size w w2 := below_trans hb1 hb2
  go_loopw [5] (fun i wr => ∃ k : Nat, k ≤ 9 ∧ i = .int .i64 k ∧ Below w2.heap.size w2 wr) (fun i _ => 9 - (intOf i).toNat)
  case atStart => exact ⟨0, Nat.zero_le _, rfl, Below.refl _ _⟩
  case round =>
    obtain ⟨k, hk, rfl, hB⟩ := hrel
    by_cases hlt : k < 9
    · have e1 := ext_cell ((blk_cell (blk_below hB b1) k).trans (by simpa using i16s_get l k (by omega)))
      have e2 := ext_cell ((blk_cell (blk_below hB b2) k).trans (by simpa using i16s_get l k (by omega)))
      go_wp2
      try simp only [Act.put, List.setIfInBounds_toArray, List.set_cons_zero, List.set_cons_succ]
      refine wp_region_ext (by kernel_rfl) (by kernel_rfl) ?_
      repeat (first
        | go_big_quiet_skip
        | (go_big_quiet_want
           go_big_quiet_op
           first
             | go_big_quiet_on))
      refine wpQuiet_nil ?_
      intro w3 hb3
      go_wp2
      go_roundw
      case rel => exact ⟨k + 1, by omega, by go_num, below_trans hB hb3⟩
      case measure => simp [intOf]; omega
    · go_wp2
      go_ret
      exact ⟨rfl, below_trans hB0 hB⟩
set_option maxHeartbeats 800000 in
theorem eqRows_t (l : List Int) (hl : l.length = 81) (w : World) :
    Calls Try.prog 53 #[.agg (i16s l).toArray, .agg (i16s l).toArray] w fun e w' => e = .returned (.bool true) ∧ Below w.heap.size w w' := by
  go_enter Try.func53, Try.ntmps53
  go_wp2_with (first
    | (with_reducible refine wpList_box 2 rfl rfl 25 _ rfl (.agg (i16s l).toArray) rfl (i16s l).toArray rfl ?_; intro g1 w1 b1 hb1 _hs1)
    | (with_reducible refine wpList_box 3 rfl rfl 25 _ rfl (.agg (i16s l).toArray) rfl (i16s l).toArray rfl ?_; intro g2 w2 b2 hb2 _hs2; have n1_2 : g1 < g2 := Nat.lt_of_lt_of_le (blk_lt b1) _hs2; have b1 := blk_below hb2 b1))
  have hB0 : Below w.heap.size w w2 := below_trans hb1 hb2
  go_loopw [5] (fun i wr => ∃ k : Nat, k ≤ 9 ∧ i = .int .i64 k ∧ Below w2.heap.size w2 wr) (fun i _ => 9 - (intOf i).toNat)
  case atStart => exact ⟨0, Nat.zero_le _, rfl, Below.refl _ _⟩
  case round =>
    obtain ⟨k, hk, rfl, hB⟩ := hrel
    by_cases hlt : k < 9
    · obtain ⟨row, hrow⟩ : ∃ r, (l.drop (k * 9)).take 9 = r := ⟨_, rfl⟩
      have hrl : row.length = 9 := by rw [← hrow]; simp; omega
      have r1 : wr.rangeAt g1 (k * 9) (i16s row) := range_of_blk (blk_below hB b1) _ (fun i v h => by rw [← hrow] at h; exact i16s_seg l _ _ i v h)
      have r2 : wr.rangeAt g2 (k * 9) (i16s row) := range_of_blk (blk_below hB b2) _ (fun i v h => by rw [← hrow] at h; exact i16s_seg l _ _ i v h)
      clear hrow
      go_wp2
      try simp only [Act.put, List.setIfInBounds_toArray, List.set_cons_zero, List.set_cons_succ]
      refine wp_region_ext (by kernel_rfl) (by kernel_rfl) ?_
      repeat (first
        | go_big_quiet_skip
        | (go_big_quiet_want; with_reducible refine quiet_loadB 24 _ rfl g1 (k * 9) rfl (i16s row) _ (by rintro _ ⟨p, rfl⟩; exact rangeAt.ext r1 p) Try.underlying24 rfl (by rw [i16s_len, hrl]; kernel_rfl) ?_; (simp only [Act.put, List.setIfInBounds_toArray, List.set_cons_zero, List.set_cons_succ]); go_big_quiet_on)
        | (go_big_quiet_want; with_reducible refine quiet_loadB 24 _ rfl g2 (k * 9) rfl (i16s row) _ (by rintro _ ⟨p, rfl⟩; exact rangeAt.ext r2 p) Try.underlying24 rfl (by rw [i16s_len, hrl]; kernel_rfl) ?_; (simp only [Act.put, List.setIfInBounds_toArray, List.set_cons_zero, List.set_cons_succ]); go_big_quiet_on)
        | (go_big_quiet_want
           go_big_quiet_op
           first
             | go_big_quiet_on
             | (apply Exists.intro
                refine ⟨fun _ => ?_, ?_⟩
                · first
                    | (go_at_call 93; exact Calls.ext_of (eqRow_t row hrl _))
                go_big_quiet_on)))
      refine wpQuiet_nil ?_
      intro w3 hb3
      go_wp2
      go_roundw
      case rel => exact ⟨k + 1, by omega, by go_num, below_trans hB hb3⟩
      case measure => simp [intOf]; omega
    · go_wp2
      go_ret
      exact ⟨rfl, below_trans hB0 hB⟩
end Go.Proofs.Ytkhheofgnhndbaa
