/- The program's answer on whether a ground is valid. -/
import Derived.Test.YtkhheofgnhndbaaG9
namespace Go.Proofs.Ytkhheofgnhndbaa
set_option linter.unusedVariables false
set_option linter.unusedSimpArgs false
open Go.RowKit
theorem isPoint_t (G : Gd) (gl : Value) (hG : GdOk G) (x y : Int) (w : World) (hx : i8ok x) (hy : i8ok y) (h : isPt G.W G.H x y) :
    Calls Try.prog 51 #[.agg (gc G gl), .agg #[.int .i8 x, .int .i8 y]] w (eqPost w true) := isPoint_is G gl hG x y w hx hy true (by simp [h])
theorem isPoint_f (G : Gd) (gl : Value) (hG : GdOk G) (x y : Int) (w : World) (hx : i8ok x) (hy : i8ok y) (h : ¬ isPt G.W G.H x y) :
    Calls Try.prog 51 #[.agg (gc G gl), .agg #[.int .i8 x, .int .i8 y]] w (eqPost w false) := isPoint_is G gl hG x y w hx hy false (by simp [h])
/-- A row of heights. -/
def rowN (G : Gd) (j : Nat) : List Int := (G.hs.drop (j * 9)).take 9
theorem rowN_len {G : Gd} (h : G.hs.length = 81) {j : Nat} (hj : j < 9) : (rowN G j).length = 9 := by simp [rowN]; omega
theorem rowN_get {G : Gd} (h : G.hs.length = 81) {j k : Nat} (hj : j < 9) (hk : k < 9) : (i16s (rowN G j))[k]? = some (.int .i16 (hN G k j)) := by
  rw [i16s_get _ _ (by rw [rowN_len h hj]; exact hk)]
  simp only [rowN, hN, List.getD_eq_getElem?_getD]
  rw [List.getElem?_take_of_lt hk, List.getElem?_drop]
theorem rowN_extract (G : Gd) (j : Nat) : (i16s G.hs).toArray.extract ((j : Int).toNat * 9) ((j : Int).toNat * 9 + 9) = (i16s (rowN G j)).toArray := by
  simp [i16s, rowN, List.map_drop, List.map_take]
def mostN (G : Gd) (x y : Nat) : Int := if isPt G.W G.H x y then 200 else 0
set_option linter.unusedSimpArgs false
set_option maxHeartbeats 2000000 in
set_option maxRecDepth 100000 in
theorem implValid_is (G : Gd) (gl : Value) (hG : GdOk G) (w : World) (hv : Cs w gl G.gul) (r : Bool) (hr : r = true ↔ GValid G) :
    Calls Try.prog 17 #[.agg (gc G gl)] w (eqPost w r) := by
  have hlen := hG.len
  obtain ⟨A, c, rfl, hv1, hv2, hv3⟩ := hv
  have HR := Lib.hid hr
  have HV := Lib.hid hv3
  clear hr hv3 hv2
  obtain ⟨hW1, hW2⟩ := hG.W
  obtain ⟨hH1, hH2⟩ := hG.H
  go_enter Try.func17, Try.ntmps17
  by_cases h1 : 1 ≤ G.W ∧ G.W ≤ 9
  · by_cases h2 : 1 ≤ G.H ∧ G.H ≤ 9
    · by_cases h3 : G.gul.length ≤ 8
      · have h3' : decide ((8 : Int) < (G.gul.length : Int)) = false := decide_eq_false (by omega)
        go_wp2_with (first
          | (with_reducible refine wpList_box 1 rfl rfl 33 _ rfl (.agg (gc G (.slice A G.gul.length c))) rfl (gc G (.slice A G.gul.length c)) rfl ?_; intro g1 w1 b1 hb1 _hs1;  have a0 := (blk_cell b1 0).trans (gc_0 _ _); have a1 := (blk_cell b1 1).trans (gc_1 _ _); have a83 := (blk_cell b1 83).trans (gc_83 _ _ hlen); have ra : w1.rangeAt g1 2 (i16s G.hs) := range_of_blk b1 _ (fun k v h => gc_seg _ _ k v h))
          | (go_at_call 50; refine (within_t _ _ _ (by omega) (by omega) _).mono ?_; rintro e w' ⟨rfl, rfl⟩)
          | (with_reducible refine wpList_load_mid rfl 25 _ rfl g1 2 rfl (i16s G.hs) _ ra Try.underlying25 rfl (by rw [i16s_len, hlen]; kernel_rfl) ?_))
        clear a0 a1 a83 ra
        go_loopw [30] (fun u wr => ∃ j : Nat, j ≤ 9 ∧ u = .int .i64 j ∧ Below w1.heap.size w1 wr ∧ hUp G j 0) (fun u _ => 9 - (intOf u).toNat)
        case atStart => exact ⟨0, Nat.zero_le _, rfl, Below.refl _ _, fun y x hy _ => absurd hy (Nat.not_lt_zero _), fun x hx => absurd hx (Nat.not_lt_zero _)⟩
        case round =>
          obtain ⟨j, hj, rfl, hB, hU⟩ := hrel
          have HU := Lib.hid hU
          clear hU
          by_cases hlt : j < 9
          · have hlt' : decide ((j : Int) < 9) = true := decide_eq_true (by omega)
            have hrl := rowN_len hlen hlt
            go_wp2_with (first
              | (with_reducible refine wpList_idxB rfl 25 _ _ rfl 24 9 9 (i16s G.hs).toArray _ j rfl rfl Try.underlying25 Try.underlying24 rfl (by kernel_rfl) (by omega) (by omega) _ (rowN_extract G j) ?_)
              | (with_reducible refine wpList_allocB 4 rfl rfl 24 rfl (.agg (i16s (List.replicate 9 0)).toArray) (i16s (List.replicate 9 0)).toArray (by kernel_rfl) rfl ?_; intro g4 w4 b4 hb4 _hs4)
              | (with_reducible refine wpList_storeB rfl 24 _ _ rfl g4 0 (.agg (i16s (rowN G j)).toArray) (i16s (rowN G j)).toArray rfl rfl rfl _ 24 b4 (row_info _ hrl) (by simpa using i16s_one _) (by simp [i16s_len, hrl]) (i16s (rowN G j)).toArray (by simp [i16s_len, hrl]) ?_; intro w5 b5 hS5)
              | (with_reducible refine wpList_load_row rfl 24 _ rfl g4 rfl 24 (i16s (rowN G j)).toArray (0, 0) _ b5 Try.underlying24 rfl (row_info _ hrl) ?_))
            have hB5 : Below w1.heap.size w1 w5 := hS5.below (below_trans hB hb4) (Nat.le_trans hB.size _hs4)
            go_loopw [35] (fun u wr => ∃ k : Nat, k ≤ 9 ∧ u = .int .i64 k ∧ Below w1.heap.size w1 wr ∧ Hid (hUp G j k)) (fun u _ => 9 - (intOf u).toNat)
            case atStart => exact ⟨0, Nat.zero_le _, rfl, hB5, HU⟩
            case round =>
              obtain ⟨k, hk, rfl, hB2, HU2⟩ := hrel
              have bg := blk_below hB2 b1
              by_cases hlk : k < 9
              · have hlk' : decide ((k : Int) < 9) = true := decide_eq_true (by omega)
                have hrow := rowN_get hlen hlt hlk
                have hwk : IntKind.i8.wrap (k : Int) = k := by simp [IntKind.wrap, IntKind.signed, IntKind.bits]; omega
                have hwj : IntKind.i8.wrap (j : Int) = j := by simp [IntKind.wrap, IntKind.signed, IntKind.bits]; omega
                obtain ⟨hh1, hh2⟩ := hN_ok hG k j
                by_cases hp : isPt G.W G.H k j
                · by_cases hr1 : 0 ≤ hN G k j ∧ hN G k j ≤ 200
                  · have HN := Lib.hid (hUp_next HU2.out (⟨hr1.1, hr1.2, fun _ => hp⟩ : hOK G k j))
                    go_wp2_with (first
                      | (with_reducible refine wpList_idx1 rfl 24 _ _ rfl 23 9 (i16s (rowN G j)).toArray _ k (.int .i16 (hN G k j)) rfl rfl Try.underlying24 Try.underlying23 rfl (by kernel_rfl) (by omega) (by omega) (by simpa using hrow) ?_)
                      | (with_reducible refine wpList_load_row rfl 33 _ rfl g1 rfl 33 _ (0, 0) _ bg Try.underlying33 rfl (gsize _ _ hlen) ?_)
                      | (go_at_call 51; refine (isPoint_t G _ hG k j _ (by unfold i8ok; omega) (by unfold i8ok; omega) hp).mono ?_; rintro e w6 ⟨rfl, hb6⟩)
                      | (go_at_call 50; refine (within_t _ _ _ (by omega) (by omega) _).mono ?_; rintro e w' ⟨rfl, rfl⟩))
                    go_roundw
                    case rel => exact ⟨k + 1, by omega, by go_num, below_trans hB2 hb6, HN⟩
                    case measure => simp [intOf]; omega
                  · have HF : Hid (r = false) := false_of HR.out (fun h => hr1 ⟨(h.h j k hlt hlk).1, (h.h j k hlt hlk).2.1⟩)
                    go_wp2_with (first
                      | (with_reducible refine wpList_idx1 rfl 24 _ _ rfl 23 9 (i16s (rowN G j)).toArray _ k (.int .i16 (hN G k j)) rfl rfl Try.underlying24 Try.underlying23 rfl (by kernel_rfl) (by omega) (by omega) (by simpa using hrow) ?_)
                      | (with_reducible refine wpList_load_row rfl 33 _ rfl g1 rfl 33 _ (0, 0) _ bg Try.underlying33 rfl (gsize _ _ hlen) ?_)
                      | (go_at_call 51; refine (isPoint_t G _ hG k j _ (by unfold i8ok; omega) (by unfold i8ok; omega) hp).mono ?_; rintro e w6 ⟨rfl, hb6⟩)
                      | (go_at_call 50; refine (within_f _ _ _ (by omega) _).mono ?_; rintro e w' ⟨rfl, rfl⟩))
                    go_ret
                    exact ⟨by rw [HF.out]; rfl, below_trans hb1 (below_trans hB2 hb6)⟩
                · by_cases hz : hN G k j = 0
                  · have HN := Lib.hid (hUp_next HU2.out (⟨by omega, by omega, fun h => absurd hz h⟩ : hOK G k j))
                    have hz1 : 0 ≤ hN G k j := by omega
                    have hz2 : hN G k j ≤ 0 := by omega
                    clear hz
                    go_wp2_with (first
                      | (with_reducible refine wpList_idx1 rfl 24 _ _ rfl 23 9 (i16s (rowN G j)).toArray _ k (.int .i16 (hN G k j)) rfl rfl Try.underlying24 Try.underlying23 rfl (by kernel_rfl) (by omega) (by omega) (by simpa using hrow) ?_)
                      | (with_reducible refine wpList_load_row rfl 33 _ rfl g1 rfl 33 _ (0, 0) _ bg Try.underlying33 rfl (gsize _ _ hlen) ?_)
                      | (go_at_call 51; refine (isPoint_f G _ hG k j _ (by unfold i8ok; omega) (by unfold i8ok; omega) hp).mono ?_; rintro e w6 ⟨rfl, hb6⟩)
                      | (go_at_call 50; refine (within_t _ _ _ (by omega) (by omega) _).mono ?_; rintro e w' ⟨rfl, rfl⟩))
                    go_roundw
                    case rel => exact ⟨k + 1, by omega, by go_num, below_trans hB2 hb6, HN⟩
                    case measure => simp [intOf]; omega
                  · have HF : Hid (r = false) := false_of HR.out (fun h => hp ((h.h j k hlt hlk).2.2 hz))
                    go_wp2_with (first
                      | (with_reducible refine wpList_idx1 rfl 24 _ _ rfl 23 9 (i16s (rowN G j)).toArray _ k (.int .i16 (hN G k j)) rfl rfl Try.underlying24 Try.underlying23 rfl (by kernel_rfl) (by omega) (by omega) (by simpa using hrow) ?_)
                      | (with_reducible refine wpList_load_row rfl 33 _ rfl g1 rfl 33 _ (0, 0) _ bg Try.underlying33 rfl (gsize _ _ hlen) ?_)
                      | (go_at_call 51; refine (isPoint_f G _ hG k j _ (by unfold i8ok; omega) (by unfold i8ok; omega) hp).mono ?_; rintro e w6 ⟨rfl, hb6⟩)
                      | (go_at_call 50; refine (within_f _ _ _ (by omega) _).mono ?_; rintro e w' ⟨rfl, rfl⟩))
                    go_ret
                    exact ⟨by rw [HF.out]; rfl, below_trans hb1 (below_trans hB2 hb6)⟩
              · obtain rfl : k = 9 := by omega
                go_wp2
                go_roundw
                case rel => exact ⟨j + 1, by omega, by go_num, hB2, hUp_row HU2.out⟩
                case measure => simp [intOf]; omega
          · have hlt' : decide ((j : Int) < 9) = false := decide_eq_false (by omega)
            have bg0 := blk_below hB b1
            have a83 := (blk_cell bg0 83).trans (gc_83 _ _ hlen)
            go_wp2
            obtain ⟨wo, hwo⟩ : ∃ wo : World, wo = wr := ⟨_, rfl⟩
            subst hwo
            go_loopw [56] (fun u wr => ∃ k : Nat, k ≤ G.gul.length ∧ u = .int .i64 k ∧ Below w1.heap.size w1 wr ∧ Hid (gUp G k)) (fun u _ => G.gul.length - (intOf u).toNat)
            case atStart => exact ⟨0, Nat.zero_le _, rfl, hB, fun k hk => absurd hk (Nat.not_lt_zero _)⟩
            case round =>
              obtain ⟨k, hk, rfl, hB2, HU2⟩ := hrel
              by_cases hlk : k < G.gul.length
              · obtain ⟨ad, rfl, hc⟩ := HV.out (by omega)
                have f1 : wr.cell? _ = some (.int .i8 (gAt G k).1) := ((hc k hlk).below (below_trans hb1 hB2)).1
                have f2 : wr.cell? _ = some (.int .i8 (gAt G k).2) := ((hc k hlk).below (below_trans hb1 hB2)).2
                have hcp := fun h0 : 0 < k => (hc (k - 1) (by omega)).below (below_trans hb1 hB2)
                have HCP := Lib.hid hcp
                clear hcp hc a83
                obtain ⟨hp1, hp2⟩ := gAt_ok hG k
                obtain ⟨hq1, hq2⟩ := gAt_ok hG (k - 1)
                go_wp2_with (first
                  | (with_reducible refine wpList_allocB 9 rfl rfl 40 rfl (.agg #[.int .i8 0, .int .i8 0]) #[.int .i8 0, .int .i8 0] (by kernel_rfl) rfl ?_; intro g4 w4 b4 hb4 _hs4)
                  | (with_reducible refine wpList_storeB rfl 40 _ _ rfl g4 0 (.agg #[.int .i8 (gAt G k).1, .int .i8 (gAt G k).2]) #[.int .i8 (gAt G k).1, .int .i8 (gAt G k).2] rfl rfl rfl _ 40 b4 (by kernel_rfl) (by simp [Value.oneCell']) (by simp) #[.int .i8 (gAt G k).1, .int .i8 (gAt G k).2] (by simp) ?_; intro w5 b5 hS5))
                have hB5 : Below w1.heap.size w1 w5 := hS5.below (below_trans hB2 hb4) (Nat.le_trans hB2.size _hs4)
                have hB5r : Below wr.heap.size wr w5 := hS5.below hb4 _hs4
                have bg := blk_below hB5 b1
                have x1 := ext_cell (v := .int .i8 (gAt G k).1) ((blk_cell b5 0).trans rfl)
                have x2 := ext_cell (v := .int .i8 (gAt G k).2) ((blk_cell b5 1).trans rfl)
                have x83 := ext_cell ((blk_cell bg 83).trans (gc_83 _ _ hlen))
                by_cases hp : isPt G.W G.H (gAt G k).1 (gAt G k).2
                · by_cases hk0 : 0 < k
                  · have f3 := ext_cell (v := .int .i8 (gAt G (k - 1)).1) (((HCP.out hk0).below hB5r).1)
                    have f4 := ext_cell (v := .int .i8 (gAt G (k - 1)).2) (((HCP.out hk0).below hB5r).2)
                    have hk0' : decide ((0 : Int) < (k : Int)) = true := decide_eq_true (by omega)
                    have hkm : IntKind.i64.wrap ((k : Int) - 1) = (k : Int) - 1 := by rw [IntKind.wrap_i64]; omega
                    have hkn : ((k : Int) - 1).toNat = k - 1 := by omega
                    by_cases hbf : befC (gAt G (k - 1)).1 (gAt G (k - 1)).2 (gAt G k).1 (gAt G k).2
                    · have HN := Lib.hid (gUp_next HU2.out (⟨hp, fun _ => hbf⟩ : gOK G k))
                      have hcm : decide (0 ≤ cmpC (gAt G (k - 1)).1 (gAt G (k - 1)).2 (gAt G k).1 (gAt G k).2) = false := decide_eq_false (by have := (cmpC_neg _ _ _ _).2 hbf; omega)
                      try simp only [Act.put, List.setIfInBounds_toArray, List.set_cons_zero, List.set_cons_succ]
                      refine wp_region_ext (by kernel_rfl) (by kernel_rfl) ?_
                      repeat (first
                        | go_big_quiet_skip
                        | (go_big_quiet_want; with_reducible refine quiet_load_row 33 _ rfl g1 rfl 33 _ (0, 0) _ (by rintro _ ⟨p, rfl⟩; exact ext_blk bg p) Try.underlying33 rfl (gsize _ _ hlen) ?_; (simp only [Act.put, List.setIfInBounds_toArray, List.set_cons_zero, List.set_cons_succ]); go_big_quiet_on)
                        | (go_big_quiet_want
                           go_big_quiet_op
                           first
                             | go_big_quiet_on
                             | (apply Exists.intro
                                refine ⟨fun _ => ?_, ?_⟩
                                · first
                                    | (go_at_call 51; exact Calls.ext_of (isPoint_t G _ hG _ _ _ hp1 hp2 hp))
                                    | (go_at_call 52; exact Calls.ext_of (compareCells_is _ _ _ _ _))
                                go_big_quiet_on)))
                      refine wpQuiet_nil ?_
                      intro w6 hb6
                      go_wp2
                      go_roundw
                      case rel => exact ⟨k + 1, by omega, by go_num, below_trans hB5 hb6, HN⟩
                      case measure => simp [intOf]; omega
                    · have HF : Hid (r = false) := false_of HR.out (fun h => hbf ((h.g k hlk).2 hk0))
                      have hcm : decide (0 ≤ cmpC (gAt G (k - 1)).1 (gAt G (k - 1)).2 (gAt G k).1 (gAt G k).2) = true := decide_eq_true (by have := (cmpC_neg (gAt G (k - 1)).1 (gAt G (k - 1)).2 (gAt G k).1 (gAt G k).2).1; exact Int.not_lt.1 (fun h => hbf (this h)))
                      try simp only [Act.put, List.setIfInBounds_toArray, List.set_cons_zero, List.set_cons_succ]
                      refine wp_region_ext (by kernel_rfl) (by kernel_rfl) ?_
                      repeat (first
                        | go_big_quiet_skip
                        | (go_big_quiet_want; with_reducible refine quiet_load_row 33 _ rfl g1 rfl 33 _ (0, 0) _ (by rintro _ ⟨p, rfl⟩; exact ext_blk bg p) Try.underlying33 rfl (gsize _ _ hlen) ?_; (simp only [Act.put, List.setIfInBounds_toArray, List.set_cons_zero, List.set_cons_succ]); go_big_quiet_on)
                        | (go_big_quiet_want
                           go_big_quiet_op
                           first
                             | go_big_quiet_on
                             | (apply Exists.intro
                                refine ⟨fun _ => ?_, ?_⟩
                                · first
                                    | (go_at_call 51; exact Calls.ext_of (isPoint_t G _ hG _ _ _ hp1 hp2 hp))
                                    | (go_at_call 52; exact Calls.ext_of (compareCells_is _ _ _ _ _))
                                go_big_quiet_on)))
                      refine wpQuiet_nil ?_
                      intro w6 hb6
                      go_wp2
                      go_ret
                      exact ⟨by rw [HF.out]; rfl, below_trans hb1 (below_trans hB5 hb6)⟩
                  · have hk0' : decide ((0 : Int) < (k : Int)) = false := decide_eq_false (by omega)
                    have hk1' : decide (0 < k) = false := decide_eq_false hk0
                    have HN := Lib.hid (gUp_next HU2.out (⟨hp, fun h => absurd h hk0⟩ : gOK G k))
                    clear hk0
                    try simp only [Act.put, List.setIfInBounds_toArray, List.set_cons_zero, List.set_cons_succ]
                    refine wp_region_ext (by kernel_rfl) (by kernel_rfl) ?_
                    repeat (first
                      | go_big_quiet_skip
                      | (go_big_quiet_want; with_reducible refine quiet_load_row 33 _ rfl g1 rfl 33 _ (0, 0) _ (by rintro _ ⟨p, rfl⟩; exact ext_blk bg p) Try.underlying33 rfl (gsize _ _ hlen) ?_; (simp only [Act.put, List.setIfInBounds_toArray, List.set_cons_zero, List.set_cons_succ]); go_big_quiet_on)
                      | (go_big_quiet_want
                         go_big_quiet_op
                         first
                           | go_big_quiet_on
                           | (apply Exists.intro
                              refine ⟨fun _ => ?_, ?_⟩
                              · first
                                  | (go_at_call 51; exact Calls.ext_of (isPoint_t G _ hG _ _ _ hp1 hp2 hp))
                              go_big_quiet_on)))
                    refine wpQuiet_nil ?_
                    intro w6 hb6
                    go_wp2
                    go_roundw
                    case rel => exact ⟨k + 1, by omega, by go_num, below_trans hB5 hb6, HN⟩
                    case measure => simp [intOf]; omega
                · have HF : Hid (r = false) := false_of HR.out (fun h => hp (h.g k hlk).1)
                  try simp only [Act.put, List.setIfInBounds_toArray, List.set_cons_zero, List.set_cons_succ]
                  refine wp_region_ext (by kernel_rfl) (by kernel_rfl) ?_
                  repeat (first
                    | go_big_quiet_skip
                    | (go_big_quiet_want; with_reducible refine quiet_load_row 33 _ rfl g1 rfl 33 _ (0, 0) _ (by rintro _ ⟨p, rfl⟩; exact ext_blk bg p) Try.underlying33 rfl (gsize _ _ hlen) ?_; (simp only [Act.put, List.setIfInBounds_toArray, List.set_cons_zero, List.set_cons_succ]); go_big_quiet_on)
                    | (go_big_quiet_want
                       go_big_quiet_op
                       first
                         | go_big_quiet_on
                         | (apply Exists.intro
                            refine ⟨fun _ => ?_, ?_⟩
                            · first
                                | (go_at_call 51; exact Calls.ext_of (isPoint_f G _ hG _ _ _ hp1 hp2 hp))
                            go_big_quiet_on)))
                  refine wpQuiet_nil ?_
                  intro w6 hb6
                  go_wp2
                  go_ret
                  exact ⟨by rw [HF.out]; rfl, below_trans hb1 (below_trans hB5 hb6)⟩
              · obtain rfl : k = G.gul.length := by omega
                have HT : Hid (r = true) := HR.out.2 ⟨h1, h2, h3, fun y x hy hx => HU.out.1 y x (by omega) hx, HU2.out⟩
                go_wp2
                go_ret
                exact ⟨by rw [HT.out]; rfl, below_trans hb1 hB2⟩
      · have h3' : decide ((8 : Int) < (G.gul.length : Int)) = true := decide_eq_true (by omega)
        go_wp2_with (first
          | (with_reducible refine wpList_box 1 rfl rfl 33 _ rfl (.agg (gc G (.slice A G.gul.length c))) rfl (gc G (.slice A G.gul.length c)) rfl ?_; intro g1 w1 b1 hb1 _hs1;  have a0 := (blk_cell b1 0).trans (gc_0 _ _); have a1 := (blk_cell b1 1).trans (gc_1 _ _); have a83 := (blk_cell b1 83).trans (gc_83 _ _ hlen))
          | (go_at_call 50; refine (within_t _ _ _ (by omega) (by omega) _).mono ?_; rintro e w' ⟨rfl, rfl⟩))
        go_ret
        exact ⟨by rw [false_of HR.out (fun h => h3 h.n)]; rfl, hb1⟩
    · go_wp2_with (first
        | (with_reducible refine wpList_box 1 rfl rfl 33 _ rfl (.agg (gc G (.slice A G.gul.length c))) rfl (gc G (.slice A G.gul.length c)) rfl ?_; intro g1 w1 b1 hb1 _hs1;  have a0 := (blk_cell b1 0).trans (gc_0 _ _); have a1 := (blk_cell b1 1).trans (gc_1 _ _))
        | (go_at_call 50; refine (within_t _ _ _ (by omega) (by omega) _).mono ?_; rintro e w' ⟨rfl, rfl⟩)
        | (go_at_call 50; refine (within_f _ _ _ (by omega) _).mono ?_; rintro e w' ⟨rfl, rfl⟩))
      go_ret
      exact ⟨by rw [false_of HR.out (fun h => h2 h.H)]; rfl, hb1⟩
  · go_wp2_with (first
      | (with_reducible refine wpList_box 1 rfl rfl 33 _ rfl (.agg (gc G (.slice A G.gul.length c))) rfl (gc G (.slice A G.gul.length c)) rfl ?_; intro g1 w1 b1 hb1 _hs1;  have a0 := (blk_cell b1 0).trans (gc_0 _ _))
      | (go_at_call 50; refine (within_f _ _ _ (by omega) _).mono ?_; rintro e w' ⟨rfl, rfl⟩))
    go_ret
    exact ⟨by rw [false_of HR.out (fun h => h1 h.W)]; rfl, hb1⟩
end Go.Proofs.Ytkhheofgnhndbaa
