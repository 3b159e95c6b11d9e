/- The law on joints. No statement is proved here. -/
import Derived.Test.YtmjijggkdbiijaaSm
namespace Go.Proofs.Ytmjijggkdbiijaa
open Go.RowKit
set_option linter.unusedVariables false
set_option linter.unusedSimpArgs false
set_option maxRecDepth 100000
set_option maxHeartbeats 4000000
theorem cov_out {q : Sq} (k : OkQ q) {x y : Int} (h : x < 0 ∨ y < 0 ∨ 12 ≤ x ∨ 12 ≤ y) : covI q.2.2 x y = 0 := by
  have hb1 := edge_b k.w
  have hb2 := edge_b k.h
  refine Classical.byContradiction fun r => ?_
  obtain ⟨t, ht, hc⟩ := List.any_eq_true.1 (covI_iff.1 r)
  have hin := slabIn_b (ok_mem k ht)
  have := covB_iff.1 hc
  omega
theorem atI_cov (q : Sq) (x y : Int) : atI q x y = covI q.2.2 x y - 1 := by unfold atI covI; omega
theorem cov_nn (l : List Sl) (x y : Int) : 0 ≤ covI l x y := by
  have := (idxP_iff (p := covB x y) (l := l)).2
  unfold covI; omega
theorem jointC_cov {q : Sq} {x y u v : Int} : jointC q x y u v = true ↔ covI q.2.2 x y ≠ 0 ∧ covI q.2.2 u v ≠ 0 ∧ covI q.2.2 x y ≠ covI q.2.2 u v := by
  have h1 := cov_nn q.2.2 x y
  have h2 := cov_nn q.2.2 u v
  unfold jointC
  rw [atI_cov, atI_cov]
  simp only [Bool.and_eq_true, decide_eq_true_eq, Bool.not_eq_true', decide_eq_false_iff_not]
  omega
theorem jointG_cov {g : Gr} {x y : Int} {c : Bool} : jointG g x y c = true ↔ (0 ≤ x ∧ 0 ≤ y ∧ x < 12 ∧ y < 12) ∧ (c = true → y ≠ 0) ∧ (c = false → x ≠ 0) ∧ gget g x y ≠ 0 ∧ othG g x y c ≠ 0 ∧ gget g x y ≠ othG g x y c := by
  unfold jointG
  by_cases h1 : x < 0
  · rw [if_pos h1]; exact ⟨nofun, fun r => absurd r.1 (by omega)⟩
  rw [if_neg h1]
  by_cases h2 : y < 0
  · rw [if_pos h2]; exact ⟨nofun, fun r => absurd r.1 (by omega)⟩
  rw [if_neg h2]
  by_cases h3 : 12 ≤ x
  · rw [if_pos h3]; exact ⟨nofun, fun r => absurd r.1 (by omega)⟩
  rw [if_neg h3]
  by_cases h4 : 12 ≤ y
  · rw [if_pos h4]; exact ⟨nofun, fun r => absurd r.1 (by omega)⟩
  rw [if_neg h4]
  by_cases h5 : c = true ∧ y = 0
  · rw [if_pos h5]; exact ⟨nofun, fun r => absurd h5.2 (r.2.1 h5.1)⟩
  rw [if_neg h5]
  by_cases h6 : c = false ∧ x = 0
  · rw [if_pos h6]; exact ⟨nofun, fun r => absurd h6.2 (r.2.2.1 h6.1)⟩
  rw [if_neg h6]
  by_cases h7 : gget g x y = 0
  · rw [if_pos h7]; exact ⟨nofun, fun r => absurd h7 r.2.2.2.1⟩
  rw [if_neg h7]
  by_cases h8 : othG g x y c = 0
  · rw [if_pos h8]; exact ⟨nofun, fun r => absurd h8 r.2.2.2.2.1⟩
  rw [if_neg h8]
  simp only [Bool.not_eq_true', decide_eq_false_iff_not]
  exact ⟨fun r => ⟨by omega, fun a b => h5 ⟨a, b⟩, fun a b => h6 ⟨a, b⟩, h7, h8, r⟩, fun r => r.2.2.2.2.2⟩
theorem jointG_is {q : Sq} (k : OkQ q) (x y : Int) (c : Bool) : jointG (layV q).1 x y c = if c then jointC q x y x (y - 1) else jointC q x y (x - 1) y := by
  have hg := (layV_is q).2 k
  rw [Bool.eq_iff_iff, jointG_cov]
  cases c
  · simp only [Bool.false_eq_true, if_false, jointC_cov]
    by_cases h : x < 0 ∨ y < 0 ∨ 12 ≤ x ∨ 12 ≤ y
    · exact ⟨fun r => absurd r.1 (by omega), fun r => absurd (cov_out k h) r.1⟩
    by_cases h0 : x = 0
    · exact ⟨fun r => absurd h0 (r.2.2.1 trivial), fun r => absurd (cov_out k (by omega)) r.2.1⟩
    have e1 := hg x y (by omega) (by omega)
    have e2 : othG (layV q).1 x y false = covI q.2.2 (x - 1) y := hg (x - 1) y (by omega) (by omega)
    rw [e1, e2]
    exact ⟨fun r => r.2.2.2, fun r => ⟨by omega, nofun, fun _ => h0, r⟩⟩
  · simp only [if_true, jointC_cov]
    by_cases h : x < 0 ∨ y < 0 ∨ 12 ≤ x ∨ 12 ≤ y
    · exact ⟨fun r => absurd r.1 (by omega), fun r => absurd (cov_out k h) r.1⟩
    by_cases h0 : y = 0
    · exact ⟨fun r => absurd h0 (r.2.1 trivial), fun r => absurd (cov_out k (by omega)) r.2.1⟩
    have e1 := hg x y (by omega) (by omega)
    have e2 : othG (layV q).1 x y true = covI q.2.2 x (y - 1) := hg x (y - 1) (by omega) (by omega)
    rw [e1, e2]
    exact ⟨fun r => r.2.2.2, fun r => ⟨by omega, fun _ => h0, nofun, r⟩⟩
theorem cmp_pos {a b c d : Int} : 0 < firstNZ [cmp8 a b, cmp8 c d] ↔ b < a ∨ (a = b ∧ d < c) := by
  unfold firstNZ firstNZ firstNZ cmp8
  split <;> split <;> (try split) <;> (try split) <;> omega
theorem sidesE (q : Sq) (a b : Int × Int) (h1 : b.1 = a.1 + 1) (h2 : b.2 = a.2) : (sidesV q a b).2.2 = jointC q a.1 a.2 a.1 (a.2 - 1) := by
  rw [sidesV, if_neg (by rw [cmp_pos]; omega), sideV, if_pos ⟨h2.symm, h1⟩]
theorem sidesW (q : Sq) (a b : Int × Int) (h1 : b.1 = a.1 - 1) (h2 : b.2 = a.2) : (sidesV q a b).2.2 = jointC q b.1 b.2 b.1 (b.2 - 1) := by
  rw [sidesV, if_pos (by rw [cmp_pos]; omega), sideV, if_pos ⟨h2, by omega⟩]
theorem sidesS (q : Sq) (a b : Int × Int) (h1 : b.1 = a.1) (h2 : b.2 = a.2 + 1) : (sidesV q a b).2.2 = jointC q a.1 a.2 (a.1 - 1) a.2 := by
  rw [sidesV, if_neg (by rw [cmp_pos]; omega), sideV, if_neg (by omega), if_pos ⟨h1.symm, h2⟩]
theorem sidesN (q : Sq) (a b : Int × Int) (h1 : b.1 = a.1) (h2 : b.2 = a.2 - 1) : (sidesV q a b).2.2 = jointC q b.1 b.2 (b.1 - 1) b.2 := by
  rw [sidesV, if_pos (by rw [cmp_pos]; omega), sideV, if_neg (by omega), if_pos ⟨h1, by omega⟩]
theorem sidesO (q : Sq) (a b : Int × Int) (h0 : ¬ (b.1 = a.1 + 1 ∧ b.2 = a.2)) (h1 : ¬ (b.1 = a.1 - 1 ∧ b.2 = a.2)) (h2 : ¬ (b.1 = a.1 ∧ b.2 = a.2 + 1)) (h3 : ¬ (b.1 = a.1 ∧ b.2 = a.2 - 1)) : (sidesV q a b).2.2 = false := by
  unfold sidesV
  split
  · rw [sideV, if_neg (by omega), if_neg (by omega)]
  · rw [sideV, if_neg (by omega), if_neg (by omega)]
theorem betG_is {q : Sq} (k : OkQ q) (a b : Int × Int) : betG (layV q).1 a b = (sidesV q a b).2.2 := by
  obtain ⟨a1, a2⟩ := a
  obtain ⟨b1, b2⟩ := b
  unfold betG
  by_cases h0 : nextC (a1, a2) 0 = (b1, b2)
  · rw [if_pos h0]
    have e : (a1, a2 - 1) = (b1, b2) := h0
    obtain ⟨rfl, rfl⟩ := Prod.mk.inj e
    exact (jointG_is k _ _ false).trans (sidesN q (a1, a2) (a1, a2 - 1) rfl rfl).symm
  rw [if_neg h0]
  by_cases h1 : nextC (a1, a2) 1 = (b1, b2)
  · rw [if_pos h1]
    have e : (a1 + 1, a2) = (b1, b2) := h1
    obtain ⟨rfl, rfl⟩ := Prod.mk.inj e
    exact (jointG_is k _ _ true).trans (sidesE q (a1, a2) (a1 + 1, a2) rfl rfl).symm
  rw [if_neg h1]
  by_cases h2 : nextC (a1, a2) 2 = (b1, b2)
  · rw [if_pos h2]
    have e : (a1, a2 + 1) = (b1, b2) := h2
    obtain ⟨rfl, rfl⟩ := Prod.mk.inj e
    exact (jointG_is k _ _ false).trans (sidesS q (a1, a2) (a1, a2 + 1) rfl rfl).symm
  rw [if_neg h2]
  by_cases h3 : nextC (a1, a2) 3 = (b1, b2)
  · rw [if_pos h3]
    have e : (a1 - 1, a2) = (b1, b2) := h3
    obtain ⟨rfl, rfl⟩ := Prod.mk.inj e
    exact (jointG_is k _ _ true).trans (sidesW q (a1, a2) (a1 - 1, a2) rfl rfl).symm
  rw [if_neg h3]
  refine (sidesO q _ _ (fun r => h1 ?_) (fun r => h3 ?_) (fun r => h2 ?_) (fun r => h0 ?_)).symm
  · exact Prod.ext r.1.symm r.2.symm
  · exact Prod.ext r.1.symm r.2.symm
  · exact Prod.ext r.1.symm r.2.symm
  · exact Prod.ext r.1.symm r.2.symm
theorem all_any {α : Type} (p : α → Bool) : ∀ l : List α, l.all p = !(l.any fun a => !(p a))
  | [] => rfl
  | a :: r => by simp only [List.all_cons, List.any_cons, all_any p r, Bool.not_or, Bool.not_not]
theorem cornerI_told (q : Sq) (l : Cl) : (toldV q l true).2 = cornerI q l := by
  unfold toldV cornerI
  rw [Bool.true_and, all_any]
theorem corner0 {q : Sq} {l : Cl} (h : cornerI q l = 0) : okQ q = true ∧ ∀ p ∈ l, ptB q p = true := by
  rw [← cornerI_told] at h
  unfold toldV askedI at h
  cases h1 : okQ q with
  | false => rw [h1] at h; simp at h
  | true =>
    rw [h1] at h
    cases h2 : l.all (ptB q) with
    | false => rw [h2] at h; simp at h
    | true => exact ⟨rfl, fun p hp => List.all_eq_true.1 h2 p hp⟩
theorem pt_b {q : Sq} {p : Int × Int} (k : OkQ q) (h : ptB q p = true) : (0 ≤ p.1 ∧ p.1 ≤ 12) ∧ 0 ≤ p.2 ∧ p.2 ≤ 12 := by
  have hb1 := edge_b k.w
  have hb2 := edge_b k.h
  simp only [ptB, inB, Bool.and_eq_true, decide_eq_true_eq] at h
  omega
theorem specIsJoint_ev (q : Sq) (a b : Int × Int) : Ev Try.prog 29 [aQ q, aC a, aC b] (compsOf [rB, rI] (isJointV q a b)) := by
  refine ev_of (l := [rB, rI]) (r := (isJointV q a b)) (types (resT) [] (fun _ _ => none)) follows Try.func29 (by kernel_rfl) (by rw [Try.ntmps29]; exact Nat.le_of_ble_eq_true rfl) ?_
  have key : (inR IntKind.i8 q.fst → inR IntKind.i8 q.snd.fst → (q.snd.snd.length ≤ 9223372036854775807 ∧ ∀ (x : Int × Int × Int × Int), List.Mem x q.snd.snd → inR IntKind.i8 x.fst ∧ inR IntKind.i8 x.snd.fst ∧ inR
      IntKind.i8 x.snd.snd.fst ∧ inR IntKind.i8 x.snd.snd.snd) → inR IntKind.i8 a.fst → inR IntKind.i8 a.snd → inR IntKind.i8 b.fst → inR IntKind.i8 b.snd → inR IntKind.i8 a.fst → inR IntKind.i8 a.snd →
      inR IntKind.i8 b.fst → inR IntKind.i8 b.snd → ∃ (r : List (List Int) × Int), Ev Try.prog 68 [Arg.imm (D.dat (sqT 41) q).ref, Arg.imm (D.dat (Ty.slice 52 cellT) [a, b]), Arg.imm (D.dat Ty.bool true)]
      (compsOf [(false, Ty.arr 12 (Ty.arr 12 (Ty.int IntKind.i64))), (false, Ty.int IntKind.i64)] r) ∧ ((r.fst.length = 12 ∧ ∀ (x : List Int), List.Mem x r.fst → x.length = 12 ∧ ∀ (x_1 : Int), List.Mem x_1
      x → inR IntKind.i64 x_1) → inR IntKind.i64 r.snd → split (!decide (r.snd = 0)) (false = (isJointV q a b).fst ∧ r.snd = (isJointV q a b).snd) (inR IntKind.i8 a.fst → inR IntKind.i8 a.snd → inR
      IntKind.i8 b.fst → inR IntKind.i8 b.snd → ∃ (r_1 : Bool), Ev Try.prog 69 [Arg.imm (D.dat (Ty.arr 12 (Ty.arr 12 (Ty.int IntKind.i64))) r.fst).ref, Arg.imm (D.dat cellT a), Arg.imm (D.dat cellT b)]
      (compsOf [(false, Ty.bool)] r_1) ∧ r_1 = (isJointV q a b).fst ∧ 0 = (isJointV q a b).snd))) := by
    intros
    refine ⟨_, l06Told_ev q [a, b] true, fun _ => ?_⟩
    rw [show (toldV q [a, b] true).2 = cornerI q [a, b] from cornerI_told _ _]
    refine fun _ => split_of (fun h => ?_) (fun h => ?_)
    · have h := of_decide_eq_false (not_t h)
      simp [isJointV, h]
    · have h := of_decide_eq_true (not_f h)
      obtain ⟨h1, h2⟩ := corner0 h
      have k := okQ_iff.1 h1
      have ha := pt_b k (h2 a (by simp))
      intros
      refine ⟨_, l06Between_ev _ a b ha.1 ha.2, ?_⟩
      rw [show (toldV q [a, b] true).1 = (layV q).1 from rfl, betG_is k]
      simp [isJointV, h]
  refine @Eq.mpr _ _ (?_) key
  kernel_rfl
def toCellV (p : Int × Int) : Int × Int := (p.1, p.2)
theorem toCell_ev (p : Int × Int) : Ev Try.prog 30 [.imm (.dat cellT p)] (compsOf [rC] (toCellV p)) := by
  refine ev_of (l := [rC]) (r := (toCellV p)) (types (resT) [] (fun _ _ => none)) follows Try.func30 (by kernel_rfl) (by rw [Try.ntmps30]; exact Nat.le_of_ble_eq_true rfl) ?_
  have key : (inR IntKind.i8 p.fst → inR IntKind.i8 p.snd → inR IntKind.i8 p.fst → inR IntKind.i8 p.snd → inR IntKind.i8 p.fst → inR IntKind.i8 p.snd → (p.fst, p.snd) = toCellV p) := by
    repeat' (first
      | (intro hh; try simp only [inR, loK, hiK] at hh)
      | exact trivial
      | (refine And.intro ?_ ?_)
      | (refine split_of (fun hh => ?_) (fun hh => ?_)))
    all_goals (first | omega | rfl | (simp_all [toCellV]; done) | (simp_all [toCellV]; omega))
  refine @Eq.mpr _ _ (?_) key
  kernel_rfl
theorem lawIsJoint_ev (q : Sq) (a b : Int × Int) : Ev Try.prog 6 [aQ0 q, .imm (.dat cellT a), .imm (.dat cellT b)] (compsOf [rB] (true)) := by
  refine ev_of (l := [rB]) (r := (true)) (types (resT) [] (fun _ _ => none)) follows Try.func6 (by kernel_rfl) (by rw [Try.ntmps6]; exact Nat.le_of_ble_eq_true rfl) ?_
  have key : (inR IntKind.i8 q.fst → inR IntKind.i8 q.snd.fst → (q.snd.snd.length ≤ 9223372036854775807 ∧ ∀ (x : Int × Int × Int × Int), List.Mem x q.snd.snd → inR IntKind.i8 x.fst ∧ inR IntKind.i8 x.snd.fst ∧ inR
      IntKind.i8 x.snd.snd.fst ∧ inR IntKind.i8 x.snd.snd.snd) → inR IntKind.i8 a.fst → inR IntKind.i8 a.snd → inR IntKind.i8 b.fst → inR IntKind.i8 b.snd → inR IntKind.i8 q.fst → inR IntKind.i8 q.snd.fst
      → (q.snd.snd.length ≤ 9223372036854775807 ∧ ∀ (x : Int × Int × Int × Int), List.Mem x q.snd.snd → inR IntKind.i8 x.fst ∧ inR IntKind.i8 x.snd.fst ∧ inR IntKind.i8 x.snd.snd.fst ∧ inR IntKind.i8
      x.snd.snd.snd) → ∃ (r : Int), Ev Try.prog 14 [Arg.imm (D.dat (sqT 38) q), Arg.imm (D.dat (Ty.int IntKind.i64) 1048576)] (compsOf [(false, Ty.int IntKind.i64)] r) ∧ (inR IntKind.i64 r → split (decide
      (r < 0)) (true = true) (inR IntKind.i8 q.fst → inR IntKind.i8 q.snd.fst → (q.snd.snd.length ≤ 9223372036854775807 ∧ ∀ (x : Int × Int × Int × Int), List.Mem x q.snd.snd → inR IntKind.i8 x.fst ∧ inR
      IntKind.i8 x.snd.fst ∧ inR IntKind.i8 x.snd.snd.fst ∧ inR IntKind.i8 x.snd.snd.snd) → ∃ (r : Int × Int × List (Int × Int × Int × Int)), Ev Try.prog 16 [Arg.imm (D.dat (sqT 38) q)] (compsOf [(true,
      (Ty.int IntKind.i8).prod ((Ty.int IntKind.i8).prod (Ty.slice 41 ((Ty.int IntKind.i8).prod ((Ty.int IntKind.i8).prod ((Ty.int IntKind.i8).prod (Ty.int IntKind.i8)))))))] r) ∧ (inR IntKind.i8 r.fst →
      inR IntKind.i8 r.snd.fst → (r.snd.snd.length ≤ 9223372036854775807 ∧ ∀ (x : Int × Int × Int × Int), List.Mem x r.snd.snd → inR IntKind.i8 x.fst ∧ inR IntKind.i8 x.snd.fst ∧ inR IntKind.i8
      x.snd.snd.fst ∧ inR IntKind.i8 x.snd.snd.snd) → inR IntKind.i8 a.fst → inR IntKind.i8 a.snd → ∃ (r_1 : Int × Int), Ev Try.prog 30 [Arg.imm (D.dat cellT a)] (compsOf [(false, (Ty.int IntKind.i8).prod
      (Ty.int IntKind.i8))] r_1) ∧ (inR IntKind.i8 r_1.fst → inR IntKind.i8 r_1.snd → inR IntKind.i8 b.fst → inR IntKind.i8 b.snd → ∃ (r_2 : Int × Int), Ev Try.prog 30 [Arg.imm (D.dat cellT b)] (compsOf
      [(false, (Ty.int IntKind.i8).prod (Ty.int IntKind.i8))] r_2) ∧ (inR IntKind.i8 r_2.fst → inR IntKind.i8 r_2.snd → ∃ (r_3 : Bool × Int), Ev Try.prog 29 [Arg.imm (D.dat (sqT 41) r), Arg.imm (D.dat
      cellT r_1), Arg.imm (D.dat cellT r_2)] (compsOf [(false, Ty.bool), (false, Ty.int IntKind.i64)] r_3) ∧ (inR IntKind.i64 r_3.snd → inR IntKind.i8 q.fst → inR IntKind.i8 q.snd.fst → (q.snd.snd.length ≤
      9223372036854775807 ∧ ∀ (x : Int × Int × Int × Int), List.Mem x q.snd.snd → inR IntKind.i8 x.fst ∧ inR IntKind.i8 x.snd.fst ∧ inR IntKind.i8 x.snd.snd.fst ∧ inR IntKind.i8 x.snd.snd.snd) → ∃ (r : Int
      × Int × List (Int × Int × Int × Int)), Ev Try.prog 16 [Arg.imm (D.dat (sqT 38) q)] (compsOf [(true, (Ty.int IntKind.i8).prod ((Ty.int IntKind.i8).prod (Ty.slice 41 ((Ty.int IntKind.i8).prod ((Ty.int
      IntKind.i8).prod ((Ty.int IntKind.i8).prod (Ty.int IntKind.i8)))))))] r) ∧ (inR IntKind.i8 r.fst → inR IntKind.i8 r.snd.fst → (r.snd.snd.length ≤ 9223372036854775807 ∧ ∀ (x : Int × Int × Int × Int),
      List.Mem x r.snd.snd → inR IntKind.i8 x.fst ∧ inR IntKind.i8 x.snd.fst ∧ inR IntKind.i8 x.snd.snd.fst ∧ inR IntKind.i8 x.snd.snd.snd) → inR IntKind.i8 r.fst → inR IntKind.i8 r.snd.fst →
      (r.snd.snd.length ≤ 9223372036854775807 ∧ ∀ (x : Int × Int × Int × Int), List.Mem x r.snd.snd → inR IntKind.i8 x.fst ∧ inR IntKind.i8 x.snd.fst ∧ inR IntKind.i8 x.snd.snd.fst ∧ inR IntKind.i8
      x.snd.snd.snd) → inR IntKind.i8 a.fst → inR IntKind.i8 a.snd → ∃ (r_4 : Int × Int), Ev Try.prog 30 [Arg.imm (D.dat cellT a)] (compsOf [(false, (Ty.int IntKind.i8).prod (Ty.int IntKind.i8))] r_4) ∧
      (inR IntKind.i8 r_4.fst → inR IntKind.i8 r_4.snd → inR IntKind.i8 b.fst → inR IntKind.i8 b.snd → ∃ (r_5 : Int × Int), Ev Try.prog 30 [Arg.imm (D.dat cellT b)] (compsOf [(false, (Ty.int
      IntKind.i8).prod (Ty.int IntKind.i8))] r_5) ∧ (inR IntKind.i8 r_5.fst → inR IntKind.i8 r_5.snd → ∃ (r_6 : Bool × Int), Ev Try.prog 31 [Arg.imm (D.dat (sqT 41) r), Arg.imm (D.dat cellT r_4), Arg.imm
      (D.dat cellT r_5)] (compsOf [(false, Ty.bool), (false, Ty.int IntKind.i64)] r_6) ∧ (inR IntKind.i64 r_6.snd → split (!!r_6.fst == r_3.fst) (split (!decide (r_6.snd = r_3.snd)) (false = true) (inR
      IntKind.i8 r.fst → inR IntKind.i8 r.snd.fst → (r.snd.snd.length ≤ 9223372036854775807 ∧ ∀ (x : Int × Int × Int × Int), List.Mem x r.snd.snd → inR IntKind.i8 x.fst ∧ inR IntKind.i8 x.snd.fst ∧ inR
      IntKind.i8 x.snd.snd.fst ∧ inR IntKind.i8 x.snd.snd.snd) → inR IntKind.i8 q.fst → inR IntKind.i8 q.snd.fst → (q.snd.snd.length ≤ 9223372036854775807 ∧ ∀ (x : Int × Int × Int × Int), List.Mem x
      q.snd.snd → inR IntKind.i8 x.fst ∧ inR IntKind.i8 x.snd.fst ∧ inR IntKind.i8 x.snd.snd.fst ∧ inR IntKind.i8 x.snd.snd.snd) → ∃ (r_7 : Int × Int × List (Int × Int × Int × Int)), Ev Try.prog 16
      [Arg.imm (D.dat (sqT 38) q)] (compsOf [(true, (Ty.int IntKind.i8).prod ((Ty.int IntKind.i8).prod (Ty.slice 41 ((Ty.int IntKind.i8).prod ((Ty.int IntKind.i8).prod ((Ty.int IntKind.i8).prod (Ty.int
      IntKind.i8)))))))] r_7) ∧ (inR IntKind.i8 r_7.fst → inR IntKind.i8 r_7.snd.fst → (r_7.snd.snd.length ≤ 9223372036854775807 ∧ ∀ (x : Int × Int × Int × Int), List.Mem x r_7.snd.snd → inR IntKind.i8
      x.fst ∧ inR IntKind.i8 x.snd.fst ∧ inR IntKind.i8 x.snd.snd.fst ∧ inR IntKind.i8 x.snd.snd.snd) → ∃ (r_8 : Bool), Ev Try.prog 19 [Arg.imm (D.dat (sqT 41) r), Arg.imm (D.dat (sqT 41) r_7)] (compsOf
      [(false, Ty.bool)] r_8) ∧ split (!r_8) (false = true) (true = true)))) (false = true)))))))))))) := by
    intros
    refine ⟨_, szSquare_ev q, fun _ => split_of (fun _ => rfl) (fun h => ?_)⟩
    have hl := sz_pos (of_decide_eq_false h)
    intros
    refine ⟨_, toSquare_ev q hl, ?_⟩
    intros
    refine ⟨_, toCell_ev a, ?_⟩
    intros
    refine ⟨_, toCell_ev b, ?_⟩
    intros
    refine ⟨_, specIsJoint_ev _ _ _, ?_⟩
    intros
    refine ⟨_, toSquare_ev q hl, ?_⟩
    intros
    refine ⟨_, toCell_ev a, ?_⟩
    intros
    refine ⟨_, toCell_ev b, ?_⟩
    intros
    refine ⟨_, implIsJoint_ev _ _ _, ?_⟩
    intros
    refine split_of (fun _ => split_of (fun h => by simp at h) (fun _ => ?_)) (fun h => by simp at h)
    intros
    refine ⟨_, toSquare_ev q hl, ?_⟩
    intros
    refine ⟨_, eqSquare_ev _, ?_⟩
    exact split_of (fun h => by simp at h) (fun _ => rfl)
  refine @Eq.mpr _ _ (?_) key
  kernel_rfl
end Go.Proofs.Ytmjijggkdbiijaa
