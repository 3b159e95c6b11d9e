/- The reference's answer on whether a ground is valid. -/
import Derived.Test.YtkhheofgnhndbaaG8
namespace Go.Proofs.Ytkhheofgnhndbaa
set_option linter.unusedVariables false
set_option linter.unusedSimpArgs false
open Go.RowKit
theorem l04Is_t (W H x y : Int) (g : Nat) (w : World) (hW : i8ok W) (hH : i8ok H) (hx : i8ok x) (hy : i8ok y) (c0 : w.cell? ⟨g, 0, none⟩ = some (.int .i8 W)) (c1 : w.cell? ⟨g, 1, none⟩ = some (.int .i8 H)) (h : isPt W H x y) :
    Calls Try.prog 68 #[.pointer (some ⟨g, 0, none⟩), .agg #[.int .i8 x, .int .i8 y]] w (eqPost w true) := l04Is_is W H x y g w hW hH hx hy c0 c1 true (by simp [h])
theorem l04Is_f (W H x y : Int) (g : Nat) (w : World) (hW : i8ok W) (hH : i8ok H) (hx : i8ok x) (hy : i8ok y) (c0 : w.cell? ⟨g, 0, none⟩ = some (.int .i8 W)) (c1 : w.cell? ⟨g, 1, none⟩ = some (.int .i8 H)) (h : ¬ isPt W H x y) :
    Calls Try.prog 68 #[.pointer (some ⟨g, 0, none⟩), .agg #[.int .i8 x, .int .i8 y]] w (eqPost w false) := l04Is_is W H x y g w hW hH hx hy c0 c1 false (by simp [h])
theorem before_t (x y u v : Int) (h : befC x y u v) (w : World) : Calls Try.prog 87 #[.agg #[.int .i8 x, .int .i8 y], .agg #[.int .i8 u, .int .i8 v]] w (eqPost w true) := before_is x y u v true (by simp [h]) w
theorem before_f (x y u v : Int) (h : ¬ befC x y u v) (w : World) : Calls Try.prog 87 #[.agg #[.int .i8 x, .int .i8 y], .agg #[.int .i8 u, .int .i8 v]] w (eqPost w false) := before_is x y u v false (by simp [h]) w
theorem gAt_ok {G : Gd} (hG : GdOk G) (i : Nat) : i8ok (gAt G i).1 ∧ i8ok (gAt G i).2 := by
  unfold gAt
  rw [List.getD_eq_getElem?_getD]
  rcases Nat.lt_or_ge i G.gul.length with h | h
  · rw [List.getElem?_eq_getElem h]; exact hG.gul _ (List.getElem_mem h)
  · rw [List.getElem?_eq_none h]; simp [i8ok]
/-- Heights are fine up to a place. -/
def hUp (G : Gd) (j k : Nat) : Prop := (∀ y x, y < j → x < 9 → hOK G x y) ∧ ∀ x, x < k → hOK G x j
theorem hUp_next {G : Gd} {j k : Nat} (h : hUp G j k) (h' : hOK G k j) : hUp G j (k + 1) := ⟨h.1, fun x hx => by rcases Nat.lt_succ_iff_lt_or_eq.1 hx with h1 | rfl; exact h.2 x h1; exact h'⟩
theorem hUp_row {G : Gd} {j : Nat} (h : hUp G j 9) : hUp G (j + 1) 0 := ⟨fun y x hy hx => by rcases Nat.lt_succ_iff_lt_or_eq.1 hy with h1 | rfl; exact h.1 y x h1 hx; exact h.2 x hx, fun x hx => absurd hx (Nat.not_lt_zero _)⟩
def gUp (G : Gd) (i : Nat) : Prop := ∀ k, k < i → gOK G k
theorem gUp_next {G : Gd} {i : Nat} (h : gUp G i) (h' : gOK G i) : gUp G (i + 1) := fun k hk => by rcases Nat.lt_succ_iff_lt_or_eq.1 hk with h1 | rfl; exact h k h1; exact h'
set_option maxHeartbeats 2000000 in
theorem l04Ok_is (G : Gd) (gl : Value) (hG : GdOk G) (g : Nat) (w : World) (hv : Cs w gl G.gul) (hb : w.heap[g]? = some (.cells (gc G gl) 33 (0, 0))) (r : Bool) (hr : r = true ↔ GValid G) :
    Calls Try.prog 48 #[.pointer (some ⟨g, 0, none⟩)] w (eqPost w r) := by
  have hlen := hG.len
  obtain ⟨A, c, rfl, hv1, hv2, hv3⟩ := hv
  have HR := Lib.hid hr
  have HV := Lib.hid hv3
  clear hr hv3 hv2
  have a0 := (blk_cell hb 0).trans (gc_0 _ _)
  have a1 := (blk_cell hb 1).trans (gc_1 _ _)
  have a83 := (blk_cell hb 83).trans (gc_83 _ _ hlen)
  obtain ⟨hW1, hW2⟩ := hG.W
  obtain ⟨hH1, hH2⟩ := hG.H
  go_enter Try.func48, Try.ntmps48
  by_cases h1 : 1 ≤ G.W ∧ G.W ≤ 9
  · by_cases h2 : 1 ≤ G.H ∧ G.H ≤ 9
    · by_cases h3 : G.gul.length ≤ 8
      · have h3' : decide ((8 : Int) < (G.gul.length : Int)) = false := decide_eq_false (by omega)
        go_wp2_with (first
          | (go_at_call 64; refine (l00In_t _ _ _ (by omega) (by omega) _).mono ?_; rintro e w' ⟨rfl, rfl⟩))
        clear a0 a1 a83
        go_loopw [3] (fun u wr => ∃ j : Nat, j ≤ 9 ∧ u = .int .i8 j ∧ Below w.heap.size w wr ∧ hUp G j 0) (fun u _ => 9 - (intOf u).toNat)
        case atStart => exact ⟨0, Nat.zero_le _, rfl, Below.refl _ _, fun y x hy _ => absurd hy (Nat.not_lt_zero _), fun x hx => absurd hx (Nat.not_lt_zero _)⟩
        case round =>
          obtain ⟨j, hj, rfl, hB, hU⟩ := hrel
          have HU := Lib.hid hU
          clear hU
          by_cases hlt : j < 9
          · have hlt' : decide ((j : Int) < 9) = true := decide_eq_true (by omega)
            go_wp2
            obtain ⟨wo, hwo⟩ : ∃ wo : World, wo = wr := ⟨_, rfl⟩
            subst hwo
            go_loopw [4] (fun u wr => ∃ k : Nat, k ≤ 9 ∧ u = .int .i8 k ∧ Below w.heap.size w wr ∧ Hid (hUp G j k)) (fun u _ => 9 - (intOf u).toNat)
            case atStart => exact ⟨0, Nat.zero_le _, rfl, hB, HU⟩
            case round =>
              obtain ⟨k, hk, rfl, hB2, HU2⟩ := hrel
              by_cases hlk : k < 9
              · have e0 := (blk_cell (blk_below hB2 hb) 0).trans (gc_0 _ _)
                have e1 := (blk_cell (blk_below hB2 hb) 1).trans (gc_1 _ _)
                have eh := (blk_cell (blk_below hB2 hb) _).trans (gc_hN G _ hlen k j hlk hlt)
                obtain ⟨hh1, hh2⟩ := hN_ok hG k j
                by_cases hr1 : 0 ≤ hN G k j ∧ hN G k j ≤ 200
                · by_cases hz : hN G k j = 0
                  · have hz' : (hN G k j != 0) = false := bne_eq_false_iff_eq.2 hz
                    have HN := Lib.hid (hUp_next HU2.out (⟨hr1.1, hr1.2, fun h => absurd hz h⟩ : hOK G k j))
                    clear hz
                    go_wp2_with (first
                      | (go_at_call 64; refine (l00In_t _ _ _ (by omega) (by omega) _).mono ?_; rintro e w' ⟨rfl, rfl⟩))
                    go_roundw
                    case rel => exact ⟨k + 1, by omega, by go_num, hB2, HN⟩
                    case measure => simp [intOf]; omega
                  · have hz' : (hN G k j != 0) = true := bne_iff_ne.2 hz
                    by_cases hp : isPt G.W G.H k j
                    · have HN := Lib.hid (hUp_next HU2.out (⟨hr1.1, hr1.2, fun _ => hp⟩ : hOK G k j))
                      go_wp2_with (first
                        | (go_at_call 64; refine (l00In_t _ _ _ (by omega) (by omega) _).mono ?_; rintro e w' ⟨rfl, rfl⟩)
                        | (go_at_call 68; refine (l04Is_t _ _ _ _ g _ hG.W hG.H (by unfold i8ok; omega) (by unfold i8ok; omega) e0 e1 hp).mono ?_; rintro e w5 ⟨rfl, hb5⟩))
                      go_roundw
                      case rel => exact ⟨k + 1, by omega, by go_num, below_trans hB2 hb5, HN⟩
                      case measure => simp [intOf]; omega
                    · have HF : Hid (r = false) := false_of HR.out (fun h => hp ((h.h j k hlt hlk).2.2 hz))
                      go_wp2_with (first
                        | (go_at_call 64; refine (l00In_t _ _ _ (by omega) (by omega) _).mono ?_; rintro e w' ⟨rfl, rfl⟩)
                        | (go_at_call 68; refine (l04Is_f _ _ _ _ g _ hG.W hG.H (by unfold i8ok; omega) (by unfold i8ok; omega) e0 e1 hp).mono ?_; rintro e w5 ⟨rfl, hb5⟩))
                      go_ret
                      exact ⟨by rw [HF.out]; rfl, below_trans hB2 hb5⟩
                · have HF : Hid (r = false) := false_of HR.out (fun h => hr1 ⟨(h.h j k hlt hlk).1, (h.h j k hlt hlk).2.1⟩)
                  go_wp2_with (first
                    | (go_at_call 64; refine (l00In_f _ _ _ (by omega) _).mono ?_; rintro e w' ⟨rfl, rfl⟩))
                  go_ret
                  exact ⟨by rw [HF.out]; rfl, hB2⟩
              · obtain rfl : k = 9 := by omega
                go_wp2
                go_roundw
                case rel => exact ⟨j + 1, by omega, by go_num, hB2, hUp_row HU2.out⟩
                case measure => simp [intOf]; omega
          · obtain rfl : j = 9 := by omega
            go_wp2
            obtain ⟨wo, hwo⟩ : ∃ wo : World, wo = wr := ⟨_, rfl⟩
            subst hwo
            go_loopw [6] (fun u wr => ∃ k : Nat, k ≤ G.gul.length ∧ u = .int .i64 k ∧ Below w.heap.size w wr ∧ Hid (gUp G k)) (fun u _ => G.gul.length - (intOf u).toNat)
            case atStart => exact ⟨0, Nat.zero_le _, rfl, hB, fun k hk => absurd hk (Nat.not_lt_zero _)⟩
            case round =>
              obtain ⟨k, hk, rfl, hB2, HU2⟩ := hrel
              have e0 := (blk_cell (blk_below hB2 hb) 0).trans (gc_0 _ _)
              have e1 := (blk_cell (blk_below hB2 hb) 1).trans (gc_1 _ _)
              have e83 := (blk_cell (blk_below hB2 hb) 83).trans (gc_83 _ _ hlen)
              by_cases hlk : k < G.gul.length
              · obtain ⟨ad, rfl, hc⟩ := HV.out (by omega)
                have x83 := ext_cell e83
                have f1 := ext_cell (v := .int .i8 (gAt G k).1) ((hc k hlk).below hB2).1
                have f2 := ext_cell (v := .int .i8 (gAt G k).2) ((hc k hlk).below hB2).2
                obtain ⟨hp1, hp2⟩ := gAt_ok hG k
                by_cases hp : isPt G.W G.H (gAt G k).1 (gAt G k).2
                · by_cases hk0 : 0 < k
                  · have f3 := ext_cell (v := .int .i8 (gAt G (k - 1)).1) ((hc (k - 1) (by omega)).below hB2).1
                    have f4 := ext_cell (v := .int .i8 (gAt G (k - 1)).2) ((hc (k - 1) (by omega)).below hB2).2
                    have hk0' : decide ((0 : Int) < (k : Int)) = true := decide_eq_true (by omega)
                    have hkm : IntKind.i64.wrap ((k : Int) - 1) = (k : Int) - 1 := by rw [IntKind.wrap_i64]; omega
                    have hkn : ((k : Int) - 1).toNat = k - 1 := by omega
                    obtain ⟨hq1, hq2⟩ := gAt_ok hG (k - 1)
                    by_cases hbf : befC (gAt G (k - 1)).1 (gAt G (k - 1)).2 (gAt G k).1 (gAt G k).2
                    · have HN := Lib.hid (gUp_next HU2.out (⟨hp, fun _ => hbf⟩ : gOK G k))
                      go_wp2
                      try simp only [Act.put, List.setIfInBounds_toArray, List.set_cons_zero, List.set_cons_succ]
                      refine wp_region_ext (by kernel_rfl) (by kernel_rfl) ?_
                      repeat (first
                        | go_big_quiet_skip
                        | (go_big_quiet_want
                           go_big_quiet_op
                           first
                             | go_big_quiet_on
                             | (apply Exists.intro
                                refine ⟨fun _ => ?_, ?_⟩
                                · first
                                    | (go_at_call 68; exact Calls.ext_of (l04Is_t _ _ _ _ g _ hG.W hG.H hp1 hp2 (ext_cell e0 _) (ext_cell e1 _) hp))
                                    | (go_at_call 87; exact Calls.ext_of (before_t _ _ _ _ hbf _))
                                go_big_quiet_on)))
                      refine wpQuiet_nil ?_
                      intro w3 hb3
                      go_wp2
                      go_roundw
                      case rel => exact ⟨k + 1, by omega, by go_num, below_trans hB2 hb3, HN⟩
                      case measure => simp [intOf]; omega
                    · have HF : Hid (r = false) := false_of HR.out (fun h => hbf ((h.g k hlk).2 hk0))
                      go_wp2
                      try simp only [Act.put, List.setIfInBounds_toArray, List.set_cons_zero, List.set_cons_succ]
                      refine wp_region_ext (by kernel_rfl) (by kernel_rfl) ?_
                      repeat (first
                        | go_big_quiet_skip
                        | (go_big_quiet_want
                           go_big_quiet_op
                           first
                             | go_big_quiet_on
                             | (apply Exists.intro
                                refine ⟨fun _ => ?_, ?_⟩
                                · first
                                    | (go_at_call 68; exact Calls.ext_of (l04Is_t _ _ _ _ g _ hG.W hG.H hp1 hp2 (ext_cell e0 _) (ext_cell e1 _) hp))
                                    | (go_at_call 87; exact Calls.ext_of (before_f _ _ _ _ hbf _))
                                go_big_quiet_on)))
                      refine wpQuiet_nil ?_
                      intro w3 hb3
                      go_wp2
                      go_ret
                      exact ⟨by rw [HF.out]; rfl, below_trans hB2 hb3⟩
                  · have hk0' : decide ((0 : Int) < (k : Int)) = false := decide_eq_false (by omega)
                    have hk1' : decide (0 < k) = false := decide_eq_false hk0
                    have HN := Lib.hid (gUp_next HU2.out (⟨hp, fun h => absurd h hk0⟩ : gOK G k))
                    clear hk0
                    go_wp2
                    try simp only [Act.put, List.setIfInBounds_toArray, List.set_cons_zero, List.set_cons_succ]
                    refine wp_region_ext (by kernel_rfl) (by kernel_rfl) ?_
                    repeat (first
                      | go_big_quiet_skip
                      | (go_big_quiet_want
                         go_big_quiet_op
                         first
                           | go_big_quiet_on
                           | (apply Exists.intro
                              refine ⟨fun _ => ?_, ?_⟩
                              · first
                                  | (go_at_call 68; exact Calls.ext_of (l04Is_t _ _ _ _ g _ hG.W hG.H hp1 hp2 (ext_cell e0 _) (ext_cell e1 _) hp))
                              go_big_quiet_on)))
                    refine wpQuiet_nil ?_
                    intro w3 hb3
                    go_wp2
                    go_roundw
                    case rel => exact ⟨k + 1, by omega, by go_num, below_trans hB2 hb3, HN⟩
                    case measure => simp [intOf]; omega
                · have HF : Hid (r = false) := false_of HR.out (fun h => hp (h.g k hlk).1)
                  go_wp2
                  try simp only [Act.put, List.setIfInBounds_toArray, List.set_cons_zero, List.set_cons_succ]
                  refine wp_region_ext (by kernel_rfl) (by kernel_rfl) ?_
                  repeat (first
                    | go_big_quiet_skip
                    | (go_big_quiet_want
                       go_big_quiet_op
                       first
                         | go_big_quiet_on
                         | (apply Exists.intro
                            refine ⟨fun _ => ?_, ?_⟩
                            · first
                                | (go_at_call 68; exact Calls.ext_of (l04Is_f _ _ _ _ g _ hG.W hG.H hp1 hp2 (ext_cell e0 _) (ext_cell e1 _) hp))
                            go_big_quiet_on)))
                  refine wpQuiet_nil ?_
                  intro w3 hb3
                  go_wp2
                  go_ret
                  exact ⟨by rw [HF.out]; rfl, below_trans hB2 hb3⟩
              · obtain rfl : k = G.gul.length := by omega
                have HT : Hid (r = true) := HR.out.2 ⟨h1, h2, h3, fun y x hy hx => HU.out.1 y x hy hx, HU2.out⟩
                go_wp2
                go_ret
                exact ⟨by rw [HT.out]; rfl, hB2⟩
      · have h3' : decide ((8 : Int) < (G.gul.length : Int)) = true := decide_eq_true (by omega)
        go_wp2_with (first
          | (go_at_call 64; refine (l00In_t _ _ _ (by omega) (by omega) _).mono ?_; rintro e w' ⟨rfl, rfl⟩))
        go_ret
        exact ⟨by rw [false_of HR.out (fun h => h3 h.n)]; rfl, Below.refl _ _⟩
    · go_wp2_with (first
        | (go_at_call 64; refine (l00In_t _ _ _ (by omega) (by omega) _).mono ?_; rintro e w' ⟨rfl, rfl⟩)
        | (go_at_call 64; refine (l00In_f _ _ _ (by omega) _).mono ?_; rintro e w' ⟨rfl, rfl⟩))
      go_ret
      exact ⟨by rw [false_of HR.out (fun h => h2 h.H)]; rfl, Below.refl _ _⟩
  · go_wp2_with (first
      | (go_at_call 64; refine (l00In_f _ _ _ (by omega) _).mono ?_; rintro e w' ⟨rfl, rfl⟩))
    go_ret
    exact ⟨by rw [false_of HR.out (fun h => h1 h.W)]; rfl, Below.refl _ _⟩
set_option maxHeartbeats 400000 in
theorem specValid_is (G : Gd) (gl : Value) (hG : GdOk G) (w : World) (hv : Cs w gl G.gul) (r : Bool) (hr : r = true ↔ GValid G) :
    Calls Try.prog 15 #[.agg (gc G gl)] w (eqPost w r) := by
  have HR := Lib.hid hr
  clear hr
  go_enter Try.func15, Try.ntmps15
  go_wp2_with (first
    | (with_reducible refine wpList_box 1 rfl rfl 33 _ rfl (.agg (gc G gl)) rfl (gc G gl) rfl ?_; intro g1 w1 b1 hb1 _hs1)
    | (go_at_call 48; refine (l04Ok_is G gl hG g1 _ (hv.below hb1) b1 r HR.out).mono ?_; rintro e w2 ⟨rfl, hb2⟩))
  go_ret
  exact ⟨rfl, below_trans hb1 hb2⟩
end Go.Proofs.Ytkhheofgnhndbaa
