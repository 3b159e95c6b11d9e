/- Loads: the search. No statement is proved here. -/
import Derived.Test.YtjicolekkojonaaMd
namespace Go.Proofs.Ytjicolekkojonaa
open Go.RowKit
set_option linter.unusedVariables false
set_option linter.unusedSimpArgs false
set_option maxRecDepth 100000
set_option maxHeartbeats 4000000
/-- Sums when a weight is put to the load k. -/
def bump (s : List Int) (k : Nat) (n : Int) : List Int := if k < s.length then s.set k (s.getD k 0 + n) else s ++ [n]
/-- The first loads that go on from some. -/
def fit (h : Int) (most : Nat) : List Int → List Int → List Int → Option (List Int)
  | [], _, b => some b
  | n :: r, s, b => (List.range (min (s.length + 1) most)).findSome? fun k => if h < (bump s k n).getD k 0 then none else fit h most r (bump s k n) (b ++ [(k : Int)])
def optV : Option (List Int) → List Int × Bool
  | some b => (b, true)
  | none => ([], false)
def tryV (h : Int) (most : Nat) (n : Int) (r s b : List Int) (k : Nat) : Option (List Int) := if h < (bump s k n).getD k 0 then none else fit h most r (bump s k n) (b ++ [(k : Int)])
structure SumsOk (h : Int) (s : List Int) : Prop where
  hh : 1 ≤ h ∧ h ≤ 600
  few : s.length ≤ 100
  all : ∀ x ∈ s, 0 ≤ x ∧ x ≤ h
theorem fs_some {α : Type} {f : Nat → Option α} {k m : Nat} {x : α} (hk : k < m) (hn : ∀ j : Nat, j < k → f j = none) (h : f k = some x) : (List.range m).findSome? f = some x := by
  rw [List.findSome?_eq_some_iff]
  refine ⟨List.range k, k, (List.range m).drop (k + 1), ?_, h, fun j hj => hn j (List.mem_range.1 hj)⟩
  have h1 := List.take_append_drop k (List.range m)
  rw [List.take_range, Nat.min_eq_left (by omega), List.drop_eq_getElem_cons (by simpa using hk)] at h1
  simpa using h1.symm
theorem fs_none {α : Type} {f : Nat → Option α} {m : Nat} (hn : ∀ j : Nat, j < m → f j = none) : (List.range m).findSome? f = none := by
  rw [List.findSome?_eq_none_iff]
  exact fun j hj => hn j (List.mem_range.1 hj)
theorem bump_last {s : List Int} {n : Int} : (s ++ [0]).set s.length ((s ++ [0]).getD s.length 0 + n) = bump s s.length n := by
  simp [bump, List.getD_eq_getElem?_getD]
theorem bump_in {s : List Int} {n : Int} {k : Nat} (h : k < s.length) : s.set k (s.getD k 0 + n) = bump s k n := by
  simp [bump, h]
theorem bump_len {s : List Int} {n : Int} {k : Nat} (h : k ≤ s.length) : (bump s k n).length = if k < s.length then s.length else s.length + 1 := by
  unfold bump
  split <;> simp
theorem bump_getD {s : List Int} {n : Int} {k : Nat} (h : k ≤ s.length) (j : Nat) : (bump s k n).getD j 0 = if j = k then s.getD k 0 + n else s.getD j 0 := by
  unfold bump
  by_cases c : k < s.length
  · rw [if_pos c, getD_set' c]
    by_cases e : k = j
    · rw [if_pos e, if_pos e.symm]
    · rw [if_neg e, if_neg (fun q => e q.symm)]
  · obtain rfl : k = s.length := by omega
    rw [if_neg c]
    by_cases e : j = s.length
    · subst e; simp [List.getD_eq_getElem?_getD]
    · rw [if_neg e]
      simp only [List.getD_eq_getElem?_getD]
      rcases Nat.lt_or_ge j s.length with q | q
      · rw [List.getElem?_append_left q]
      · rw [List.getElem?_eq_none (by simp; omega), List.getElem?_eq_none q]
theorem fit_at {h : Int} {most : Nat} {al s b : List Int} {t : Nat} (hb : t < al.length) : fit h most (al.drop t) s b = (List.range (min (s.length + 1) most)).findSome? (tryV h most (al.getD t 0) (al.drop (t + 1)) s b) := by
  rw [List.drop_eq_getElem_cons hb, fit]
  simp only [List.getD_eq_getElem?_getD, List.getElem?_eq_getElem hb, Option.getD_some]
  rfl
theorem SumsOk.get {h : Int} {s : List Int} (k : SumsOk h s) (j : Nat) : 0 ≤ s.getD j 0 ∧ s.getD j 0 ≤ h := by
  simp only [List.getD_eq_getElem?_getD]
  rcases Nat.lt_or_ge j s.length with q | q
  · rw [List.getElem?_eq_getElem q]; exact k.all _ (List.getElem_mem _)
  · rw [List.getElem?_eq_none q]; have := k.hh; simp; omega
theorem SumsOk.bump {h n : Int} {s : List Int} {j : Nat} (k : SumsOk h s) (hn : 0 ≤ n) (hj : j ≤ s.length) (hx : j < 100) (hh : (bump s j n).getD j 0 ≤ h) : SumsOk h (bump s j n) := by
  refine ⟨k.hh, ?_, fun x hx => ?_⟩
  · rw [bump_len hj]; have := k.few; split <;> omega
  · obtain ⟨i, hi, rfl⟩ := List.getElem_of_mem hx
    have e : (Go.Proofs.Ytjicolekkojonaa.bump s j n)[i] = (Go.Proofs.Ytjicolekkojonaa.bump s j n).getD i 0 := by simp [List.getD_eq_getElem?_getD, hi]
    rw [e, bump_getD hj]
    rw [bump_getD hj, if_pos rfl] at hh
    have := k.get j
    by_cases c : i = j
    · rw [if_pos c]; omega
    · rw [if_neg c]; exact k.get i
noncomputable abbrev loadInv (al : List Int) (h : Int) (most : Nat) (b s : List Int) (n : Nat) (σ : List Slot) : Option LoopInv := match n with
  | 5 => some ⟨hvAt Try.f27 5, Nat, fun k => [(33, .val (.dat iT (k : Int)))], fun k => k ≤ min (s.length + 1) most ∧ ∀ j : Nat, j < k → tryV h most (al.getD b.length 0) (al.drop (b.length + 1)) s b j = none, fun k => min (s.length + 1) most - k⟩
  | _ => none
theorem load1_ev (al : List Int) (h : Int) (most : Nat) (b s : List Int) (ha : al.length ≤ 100) (hn : ∀ x ∈ al, 0 ≤ x ∧ x ≤ h) (hb : b.length ≤ al.length) (hm : most ≤ 100) (k : SumsOk h s) (ih : ∀ k : Nat, b.length < al.length → k < min (s.length + 1) most → (bump s k (al.getD b.length 0)).getD k 0 ≤ h → Ev Try.prog 27 [aIs al, aI h, aI (most : Int), aIo (b ++ [(k : Int)]), aIs (bump s k (al.getD b.length 0))] (compsOf [oIs, rB] (optV (fit h most (al.drop (b.length + 1)) (bump s k (al.getD b.length 0)) (b ++ [(k : Int)]))))) : Ev Try.prog 27 [aIs al, aI h, aI (most : Int), aIo b, aIs s] (compsOf [oIs, rB] (optV (fit h most (al.drop b.length) s b))) := by
  refine ev_of (l := [oIs, rB]) (r := (optV (fit h most (al.drop b.length) s b))) (types (resT) [] (loadInv al h most b s)) follows Try.func27 (by kernel_rfl) (by rw [Try.ntmps27]; exact Nat.le_of_ble_eq_true rfl) ?_
  have key : ((al.length ≤ 9223372036854775807 ∧ ∀ (x : Int), List.Mem x al → inR IntKind.i64 x) → inR IntKind.i64 h → inR IntKind.i64 ((most : Nat) : Int) → (b.length ≤ 9223372036854775807 ∧ ∀ (x : Int), List.Mem
      x b → inR IntKind.i64 x) → (s.length ≤ 9223372036854775807 ∧ ∀ (x : Int), List.Mem x s → inR IntKind.i64 x) → ((b.length : Nat) : Int) ≤ 9223372036854775807 → ((al.length : Nat) : Int) ≤
      9223372036854775807 → split (decide (((b.length : Nat) : Int) = ((al.length : Nat) : Int))) (b = (optV (fit h most (List.drop b.length al) s b)).fst ∧ true = (optV (fit h most (List.drop b.length al)
      s b)).snd) (((b.length : Nat) : Int) ≤ 9223372036854775807 → (0 ≤ ((b.length : Nat) : Int) ∧ ((b.length : Nat) : Int) < ((al.length : Nat) : Int)) ∧ (inR IntKind.i64 (al.getD (((b.length : Nat) :
      Int)).toNat 0) → ∃ (r : Int), Ev Try.prog 49 [Arg.imm (D.dat (Ty.slice 2 (Ty.int IntKind.i64)) s)] (compsOf [(false, Ty.int IntKind.i64)] r) ∧ (inR IntKind.i64 r → (-9223372036854775808 ≤ r + 1 ∧ r +
      1 ≤ 9223372036854775807) ∧ (-9223372036854775808 ≤ ((most : Nat) : Int) ∧ ((most : Nat) : Int) ≤ 9223372036854775807) ∧ (∃ (x0 : Nat), Slot.val (D.dat (Ty.int IntKind.i64) 0) = Slot.val (D.dat iT
      ((x0 : Nat) : Int)) ∧ x0 ≤ min (s.length + 1) most ∧ ∀ (j : Nat), j < x0 → tryV h most (al.getD b.length 0) (List.drop (b.length + 1) al) s b j = none) ∧ ∀ (x : Nat), (x ≤ min (s.length + 1) most ∧ ∀
      (j : Nat), j < x → tryV h most (al.getD b.length 0) (List.drop (b.length + 1) al) s b j = none) → inR IntKind.i64 ((x : Nat) : Int) → split (decide (((x : Nat) : Int) < min2 (r + 1) ((most : Nat) :
      Int))) (∃ (r : List Int), Ev Try.prog 50 [Arg.imm (D.dat (Ty.slice 2 (Ty.int IntKind.i64)) s)] (compsOf [(true, Ty.slice 2 (Ty.int IntKind.i64))] r) ∧ ((r.length ≤ 9223372036854775807 ∧ ∀ (x : Int),
      List.Mem x r → inR IntKind.i64 x) → ∃ (r_1 : Int), Ev Try.prog 49 [Arg.imm (D.dat (Ty.slice 2 (Ty.int IntKind.i64)) s)] (compsOf [(false, Ty.int IntKind.i64)] r_1) ∧ (inR IntKind.i64 r_1 → split
      (decide (((x : Nat) : Int) = r_1)) (r.length + [0].length ≤ 4294967296 ∧ (0 ≤ ((x : Nat) : Int) ∧ ((x : Nat) : Int) < (((r ++ [0]).length : Nat) : Int)) ∧ (inR IntKind.i64 ((r ++ [0]).getD (((x :
      Nat) : Int)).toNat 0) → (-9223372036854775808 ≤ (r ++ [0]).getD (((x : Nat) : Int)).toNat 0 + al.getD (((b.length : Nat) : Int)).toNat 0 ∧ (r ++ [0]).getD (((x : Nat) : Int)).toNat 0 + al.getD
      (((b.length : Nat) : Int)).toNat 0 ≤ 9223372036854775807) ∧ (0 ≤ ((x : Nat) : Int) ∧ ((x : Nat) : Int) < (((r ++ [0]).length : Nat) : Int)) ∧ (0 ≤ ((x : Nat) : Int) ∧ ((x : Nat) : Int) < ((((r ++
      [0]).set (((x : Nat) : Int)).toNat ((r ++ [0]).getD (((x : Nat) : Int)).toNat 0 + al.getD (((b.length : Nat) : Int)).toNat 0)).length : Nat) : Int)) ∧ (inR IntKind.i64 (((r ++ [0]).set (((x : Nat) :
      Int)).toNat ((r ++ [0]).getD (((x : Nat) : Int)).toNat 0 + al.getD (((b.length : Nat) : Int)).toNat 0)).getD (((x : Nat) : Int)).toNat 0) → split (decide (h < ((r ++ [0]).set (((x : Nat) :
      Int)).toNat ((r ++ [0]).getD (((x : Nat) : Int)).toNat 0 + al.getD (((b.length : Nat) : Int)).toNat 0)).getD (((x : Nat) : Int)).toNat 0)) ((-9223372036854775808 ≤ ((x : Nat) : Int) + 1 ∧ ((x : Nat)
      : Int) + 1 ≤ 9223372036854775807) ∧ ∃ (x' : Nat), Slot.val (D.dat (Ty.int IntKind.i64) (((x : Nat) : Int) + 1)) = Slot.val (D.dat iT ((x' : Nat) : Int)) ∧ (x' ≤ min (s.length + 1) most ∧ ∀ (j : Nat),
      j < x' → tryV h most (al.getD b.length 0) (List.drop (b.length + 1) al) s b j = none) ∧ min (s.length + 1) most - x' < min (s.length + 1) most - x) (∃ (r_2 : List Int), Ev Try.prog 50 [Arg.imm (D.dat
      (Ty.slice 2 (Ty.int IntKind.i64)) b)] (compsOf [(true, Ty.slice 2 (Ty.int IntKind.i64))] r_2) ∧ ((r_2.length ≤ 9223372036854775807 ∧ ∀ (x : Int), List.Mem x r_2 → inR IntKind.i64 x) → r_2.length +
      [((x : Nat) : Int)].length ≤ 4294967296 ∧ ∃ (r_3 : List Int × Bool), Ev Try.prog 27 [Arg.imm (D.dat (Ty.slice 2 (Ty.int IntKind.i64)) al), Arg.imm (D.dat (Ty.int IntKind.i64) h), Arg.imm (D.dat
      (Ty.int IntKind.i64) ((most : Nat) : Int)), Arg.own (Ty.slice 2 (Ty.int IntKind.i64)) (r_2 ++ [((x : Nat) : Int)]), Arg.imm (D.dat (Ty.slice 2 (Ty.int IntKind.i64)) ((r ++ [0]).set (((x : Nat) :
      Int)).toNat ((r ++ [0]).getD (((x : Nat) : Int)).toNat 0 + al.getD (((b.length : Nat) : Int)).toNat 0)))] (compsOf [(true, Ty.slice 2 (Ty.int IntKind.i64)), (false, Ty.bool)] r_3) ∧ ((r_3.fst.length
      ≤ 9223372036854775807 ∧ ∀ (x : Int), List.Mem x r_3.fst → inR IntKind.i64 x) → split r_3.snd (r_3.fst = (optV (fit h most (List.drop b.length al) s b)).fst ∧ true = (optV (fit h most (List.drop
      b.length al) s b)).snd) ((-9223372036854775808 ≤ ((x : Nat) : Int) + 1 ∧ ((x : Nat) : Int) + 1 ≤ 9223372036854775807) ∧ ∃ (x' : Nat), Slot.val (D.dat (Ty.int IntKind.i64) (((x : Nat) : Int) + 1)) =
      Slot.val (D.dat iT ((x' : Nat) : Int)) ∧ (x' ≤ min (s.length + 1) most ∧ ∀ (j : Nat), j < x' → tryV h most (al.getD b.length 0) (List.drop (b.length + 1) al) s b j = none) ∧ min (s.length + 1) most -
      x' < min (s.length + 1) most - x))))))) ((0 ≤ ((x : Nat) : Int) ∧ ((x : Nat) : Int) < ((r.length : Nat) : Int)) ∧ (inR IntKind.i64 (r.getD (((x : Nat) : Int)).toNat 0) → (-9223372036854775808 ≤
      r.getD (((x : Nat) : Int)).toNat 0 + al.getD (((b.length : Nat) : Int)).toNat 0 ∧ r.getD (((x : Nat) : Int)).toNat 0 + al.getD (((b.length : Nat) : Int)).toNat 0 ≤ 9223372036854775807) ∧ (0 ≤ ((x :
      Nat) : Int) ∧ ((x : Nat) : Int) < ((r.length : Nat) : Int)) ∧ (0 ≤ ((x : Nat) : Int) ∧ ((x : Nat) : Int) < (((r.set (((x : Nat) : Int)).toNat (r.getD (((x : Nat) : Int)).toNat 0 + al.getD (((b.length
      : Nat) : Int)).toNat 0)).length : Nat) : Int)) ∧ (inR IntKind.i64 ((r.set (((x : Nat) : Int)).toNat (r.getD (((x : Nat) : Int)).toNat 0 + al.getD (((b.length : Nat) : Int)).toNat 0)).getD (((x : Nat)
      : Int)).toNat 0) → split (decide (h < (r.set (((x : Nat) : Int)).toNat (r.getD (((x : Nat) : Int)).toNat 0 + al.getD (((b.length : Nat) : Int)).toNat 0)).getD (((x : Nat) : Int)).toNat 0))
      ((-9223372036854775808 ≤ ((x : Nat) : Int) + 1 ∧ ((x : Nat) : Int) + 1 ≤ 9223372036854775807) ∧ ∃ (x' : Nat), Slot.val (D.dat (Ty.int IntKind.i64) (((x : Nat) : Int) + 1)) = Slot.val (D.dat iT ((x' :
      Nat) : Int)) ∧ (x' ≤ min (s.length + 1) most ∧ ∀ (j : Nat), j < x' → tryV h most (al.getD b.length 0) (List.drop (b.length + 1) al) s b j = none) ∧ min (s.length + 1) most - x' < min (s.length + 1)
      most - x) (∃ (r_2 : List Int), Ev Try.prog 50 [Arg.imm (D.dat (Ty.slice 2 (Ty.int IntKind.i64)) b)] (compsOf [(true, Ty.slice 2 (Ty.int IntKind.i64))] r_2) ∧ ((r_2.length ≤ 9223372036854775807 ∧ ∀ (x
      : Int), List.Mem x r_2 → inR IntKind.i64 x) → r_2.length + [((x : Nat) : Int)].length ≤ 4294967296 ∧ ∃ (r_3 : List Int × Bool), Ev Try.prog 27 [Arg.imm (D.dat (Ty.slice 2 (Ty.int IntKind.i64)) al),
      Arg.imm (D.dat (Ty.int IntKind.i64) h), Arg.imm (D.dat (Ty.int IntKind.i64) ((most : Nat) : Int)), Arg.own (Ty.slice 2 (Ty.int IntKind.i64)) (r_2 ++ [((x : Nat) : Int)]), Arg.imm (D.dat (Ty.slice 2
      (Ty.int IntKind.i64)) (r.set (((x : Nat) : Int)).toNat (r.getD (((x : Nat) : Int)).toNat 0 + al.getD (((b.length : Nat) : Int)).toNat 0)))] (compsOf [(true, Ty.slice 2 (Ty.int IntKind.i64)), (false,
      Ty.bool)] r_3) ∧ ((r_3.fst.length ≤ 9223372036854775807 ∧ ∀ (x : Int), List.Mem x r_3.fst → inR IntKind.i64 x) → split r_3.snd (r_3.fst = (optV (fit h most (List.drop b.length al) s b)).fst ∧ true =
      (optV (fit h most (List.drop b.length al) s b)).snd) ((-9223372036854775808 ≤ ((x : Nat) : Int) + 1 ∧ ((x : Nat) : Int) + 1 ≤ 9223372036854775807) ∧ ∃ (x' : Nat), Slot.val (D.dat (Ty.int IntKind.i64)
      (((x : Nat) : Int) + 1)) = Slot.val (D.dat iT ((x' : Nat) : Int)) ∧ (x' ≤ min (s.length + 1) most ∧ ∀ (j : Nat), j < x' → tryV h most (al.getD b.length 0) (List.drop (b.length + 1) al) s b j = none)
      ∧ min (s.length + 1) most - x' < min (s.length + 1) most - x)))))))))) ([] = (optV (fit h most (List.drop b.length al) s b)).fst ∧ false = (optV (fit h most (List.drop b.length al) s b)).snd))))) := by
    intro _ _ _ _ _ _ _
    refine split_of (fun e => ?_) (fun e => ?_)
    · have e := of_decide_eq_true e
      rw [List.drop_of_length_le (by omega)]
      exact ⟨rfl, rfl⟩
    · have e : b.length < al.length := by have := of_decide_eq_false e; omega
      rw [fit_at e]
      intros
      rw [Int.toNat_natCast]
      have hn0 : 0 ≤ al.getD b.length 0 ∧ al.getD b.length 0 ≤ h := by
        rw [show al.getD b.length 0 = al[b.length] by simp [List.getD_eq_getElem?_getD, e]]
        exact hn _ (List.getElem_mem _)
      have hh := k.hh
      have hf := k.few
      refine ⟨by omega, fun _ => ⟨_, size_ev s, fun _ => ⟨by omega, by omega, ⟨0, rfl, by omega, fun j hj => absurd hj (Nat.not_lt_zero _)⟩, fun x ⟨hx, hn⟩ _ => split_of (fun h1 => ?_) (fun h1 => ?_)⟩⟩⟩
      · have h1 : x < min (s.length + 1) most := by
          have := of_decide_eq_true h1
          unfold min2 at this
          split at this <;> omega
        have hg := k.get x
        have hbx : (bump s x (al.getD b.length 0)).getD x 0 = s.getD x 0 + al.getD b.length 0 := by rw [bump_getD (by omega), if_pos rfl]
        refine ⟨_, clone_ev s (by omega), fun _ => ⟨_, size_ev s, fun _ => split_of (fun h2 => ?_) (fun h2 => ?_)⟩⟩
        · have h2 : s.length = x := by have := of_decide_eq_true h2; omega
          have hbl : (s ++ [0]).set x ((s ++ [0]).getD x 0 + al.getD b.length 0) = bump s x (al.getD b.length 0) := by rw [← h2]; exact bump_last
          have hz : (s ++ [0]).getD x 0 = 0 := by rw [← h2]; simp [List.getD_eq_getElem?_getD]
          simp only [Int.toNat_natCast, hbl]
          refine ⟨by simp; omega, by simp; omega, fun _ => ⟨by omega, by simp; omega, by rw [bump_len (by omega)]; split <;> omega, fun _ => ?_⟩⟩
          refine split_of (fun h3 => ⟨by omega, x + 1, rfl, ⟨by omega, upto_step hn (by rw [tryV, if_pos (of_decide_eq_true h3)])⟩, by omega⟩) (fun h3 => ?_)
          have h3 := of_decide_eq_false h3
          refine ⟨_, clone_ev b (by omega), fun _ => ⟨by simp; omega, _, ih x e h1 (by omega), fun _ => ?_⟩⟩
          have ht : tryV h most (al.getD b.length 0) (al.drop (b.length + 1)) s b x = fit h most (al.drop (b.length + 1)) (bump s x (al.getD b.length 0)) (b ++ [(x : Int)]) := by rw [tryV, if_neg h3]
          cases q : fit h most (al.drop (b.length + 1)) (bump s x (al.getD b.length 0)) (b ++ [(x : Int)]) with
          | some o =>
            refine split_of (fun _ => ?_) (fun h => by simp [optV] at h)
            rw [fs_some h1 hn (ht.trans q)]; exact ⟨rfl, rfl⟩
          | none => exact split_of (fun h => by simp [optV] at h) (fun _ => ⟨by omega, x + 1, rfl, ⟨by omega, upto_step hn (ht.trans q)⟩, by omega⟩)
        · have h2 : x < s.length := by have := of_decide_eq_false h2; omega
          simp only [Int.toNat_natCast, bump_in h2]
          refine ⟨by omega, fun _ => ⟨by omega, by omega, by rw [bump_len (by omega)]; split <;> omega, fun _ => ?_⟩⟩
          refine split_of (fun h3 => ⟨by omega, x + 1, rfl, ⟨by omega, upto_step hn (by rw [tryV, if_pos (of_decide_eq_true h3)])⟩, by omega⟩) (fun h3 => ?_)
          have h3 := of_decide_eq_false h3
          refine ⟨_, clone_ev b (by omega), fun _ => ⟨by simp; omega, _, ih x e h1 (by omega), fun _ => ?_⟩⟩
          have ht : tryV h most (al.getD b.length 0) (al.drop (b.length + 1)) s b x = fit h most (al.drop (b.length + 1)) (bump s x (al.getD b.length 0)) (b ++ [(x : Int)]) := by rw [tryV, if_neg h3]
          cases q : fit h most (al.drop (b.length + 1)) (bump s x (al.getD b.length 0)) (b ++ [(x : Int)]) with
          | some o =>
            refine split_of (fun _ => ?_) (fun h => by simp [optV] at h)
            rw [fs_some h1 hn (ht.trans q)]; exact ⟨rfl, rfl⟩
          | none => exact split_of (fun h => by simp [optV] at h) (fun _ => ⟨by omega, x + 1, rfl, ⟨by omega, upto_step hn (ht.trans q)⟩, by omega⟩)
      · have h1 : ¬ x < min (s.length + 1) most := by
          have := of_decide_eq_false h1
          unfold min2 at this
          split at this <;> omega
        rw [fs_none fun j hj => hn j (by omega)]
        exact ⟨rfl, rfl⟩
  refine @Eq.mpr _ _ (?_) key
  kernel_rfl
/-- What is left in the barrows. -/
def leftV (h : Int) (most : Nat) (s : List Int) : List Int := row (fun j => h - s.getD j 0) most
theorem left_set {h n : Int} {most x : Nat} {s : List Int} (hx : x ≤ s.length) (hm : x < most) : (leftV h most s).set x (h - s.getD x 0 - n) = leftV h most (bump s x n) := by
  apply List.ext_getElem
  · simp [leftV, row]
  · intro j h1 h2
    have hj : j < most := by simpa [leftV, row] using h2
    have e := bump_getD (n := n) hx j
    rw [List.getElem_set]
    simp only [leftV, row, List.getElem_map, List.getElem_range] at *
    rw [e]
    by_cases c : x = j
    · subst c; simp; omega
    · rw [if_neg c, if_neg (fun q => c q.symm)]
theorem max_len {n : Int} {x : Nat} {s : List Int} (hx : x ≤ s.length) : maxI (s.length : Int) ((x : Int) + 1) = ((bump s x n).length : Int) := by
  rw [bump_len hx]; unfold maxI
  split <;> split <;> omega
noncomputable abbrev fitInv (l : List Sl) (h : Int) (most : Nat) (b s : List Int) (n : Nat) (σ : List Slot) : Option LoopInv := match n with
  | 6 => some ⟨hvAt Try.f24 6, Nat, fun k => [(12, .val (.dat iT (k : Int)))], fun k => k ≤ min (s.length + 1) most ∧ ∀ j : Nat, j < k → tryV h most ((wts l).getD b.length 0) ((wts l).drop (b.length + 1)) s b j = none, fun k => min (s.length + 1) most - k⟩
  | _ => none
theorem fit1_ev (l : List Sl) (h : Int) (most : Nat) (b s : List Int) (ha : l.length ≤ 100) (hn : ∀ x ∈ wts l, 0 ≤ x ∧ x ≤ h) (hb : b.length ≤ l.length) (hm : most ≤ 100) (k : SumsOk h s) (ih : ∀ k : Nat, b.length < l.length → k < min (s.length + 1) most → (bump s k ((wts l).getD b.length 0)).getD k 0 ≤ h → Ev Try.prog 24 [aSs l, aIs (leftV h most (bump s k ((wts l).getD b.length 0))), aIo (b ++ [(k : Int)]), aI ((bump s k ((wts l).getD b.length 0)).length : Int)] (compsOf [oIs, rB] (optV (fit h most ((wts l).drop (b.length + 1)) (bump s k ((wts l).getD b.length 0)) (b ++ [(k : Int)]))))) : Ev Try.prog 24 [aSs l, aIs (leftV h most s), aIo b, aI (s.length : Int)] (compsOf [oIs, rB] (optV (fit h most ((wts l).drop b.length) s b))) := by
  refine ev_of (l := [oIs, rB]) (r := (optV (fit h most ((wts l).drop b.length) s b))) (types (resT) [] (fitInv l h most b s)) follows Try.func24 (by kernel_rfl) (by rw [Try.ntmps24]; exact Nat.le_of_ble_eq_true rfl) ?_
  have key : ((l.length ≤ 9223372036854775807 ∧ ∀ (x : Int × Int × Int × Int), List.Mem x l → inR IntKind.i8 x.fst ∧ inR IntKind.i8 x.snd.fst ∧ inR IntKind.i8 x.snd.snd.fst ∧ inR IntKind.i8 x.snd.snd.snd) →
      ((leftV h most s).length ≤ 9223372036854775807 ∧ ∀ (x : Int), List.Mem x (leftV h most s) → inR IntKind.i64 x) → (b.length ≤ 9223372036854775807 ∧ ∀ (x : Int), List.Mem x b → inR IntKind.i64 x) → inR
      IntKind.i64 ((s.length : Nat) : Int) → ((b.length : Nat) : Int) ≤ 9223372036854775807 → ((l.length : Nat) : Int) ≤ 9223372036854775807 → split (decide (((b.length : Nat) : Int) = ((l.length : Nat) :
      Int))) (b = (optV (fit h most (List.drop b.length (wts l)) s b)).fst ∧ true = (optV (fit h most (List.drop b.length (wts l)) s b)).snd) ((0 ≤ ((b.length : Nat) : Int) ∧ ((b.length : Nat) : Int) <
      ((l.length : Nat) : Int)) ∧ (inR IntKind.i8 (l.getD (((b.length : Nat) : Int)).toNat (0, 0, 0, 0)).fst → inR IntKind.i8 (l.getD (((b.length : Nat) : Int)).toNat (0, 0, 0, 0)).snd.fst → inR IntKind.i8
      (l.getD (((b.length : Nat) : Int)).toNat (0, 0, 0, 0)).snd.snd.fst → inR IntKind.i8 (l.getD (((b.length : Nat) : Int)).toNat (0, 0, 0, 0)).snd.snd.snd → ∃ (r : Int), Ev Try.prog 44 [Arg.imm (D.dat
      slabT (l.getD (((b.length : Nat) : Int)).toNat (0, 0, 0, 0)))] (compsOf [(false, Ty.int IntKind.i64)] r) ∧ (inR IntKind.i64 r → (∃ (x0 : Nat), Slot.val (D.dat (Ty.int IntKind.i64) 0) = Slot.val
      (D.dat iT ((x0 : Nat) : Int)) ∧ x0 ≤ min (s.length + 1) most ∧ ∀ (j : Nat), j < x0 → tryV h most ((wts l).getD b.length 0) (List.drop (b.length + 1) (wts l)) s b j = none) ∧ ∀ (x : Nat), (x ≤ min
      (s.length + 1) most ∧ ∀ (j : Nat), j < x → tryV h most ((wts l).getD b.length 0) (List.drop (b.length + 1) (wts l)) s b j = none) → inR IntKind.i64 ((x : Nat) : Int) → split (decide (((x : Nat) :
      Int) ≤ ((s.length : Nat) : Int))) ((((leftV h most s).length : Nat) : Int) ≤ 9223372036854775807 → split (decide (((x : Nat) : Int) < (((leftV h most s).length : Nat) : Int))) ((0 ≤ ((x : Nat) : Int)
      ∧ ((x : Nat) : Int) < (((leftV h most s).length : Nat) : Int)) ∧ (inR IntKind.i64 ((leftV h most s).getD (((x : Nat) : Int)).toNat 0) → split (decide ((leftV h most s).getD (((x : Nat) : Int)).toNat
      0 < r)) ((-9223372036854775808 ≤ ((x : Nat) : Int) + 1 ∧ ((x : Nat) : Int) + 1 ≤ 9223372036854775807) ∧ ∃ (x' : Nat), Slot.val (D.dat (Ty.int IntKind.i64) (((x : Nat) : Int) + 1)) = Slot.val (D.dat
      iT ((x' : Nat) : Int)) ∧ (x' ≤ min (s.length + 1) most ∧ ∀ (j : Nat), j < x' → tryV h most ((wts l).getD b.length 0) (List.drop (b.length + 1) (wts l)) s b j = none) ∧ min (s.length + 1) most - x' <
      min (s.length + 1) most - x) (∃ (r_1 : List Int), Ev Try.prog 45 [Arg.imm (D.dat (Ty.slice 2 (Ty.int IntKind.i64)) (leftV h most s))] (compsOf [(true, Ty.slice 2 (Ty.int IntKind.i64))] r_1) ∧
      ((r_1.length ≤ 9223372036854775807 ∧ ∀ (x : Int), List.Mem x r_1 → inR IntKind.i64 x) → (0 ≤ ((x : Nat) : Int) ∧ ((x : Nat) : Int) < ((r_1.length : Nat) : Int)) ∧ (inR IntKind.i64 (r_1.getD (((x :
      Nat) : Int)).toNat 0) → (-9223372036854775808 ≤ r_1.getD (((x : Nat) : Int)).toNat 0 - r ∧ r_1.getD (((x : Nat) : Int)).toNat 0 - r ≤ 9223372036854775807) ∧ (0 ≤ ((x : Nat) : Int) ∧ ((x : Nat) : Int)
      < ((r_1.length : Nat) : Int)) ∧ ∃ (r_2 : List Int), Ev Try.prog 45 [Arg.imm (D.dat (Ty.slice 2 (Ty.int IntKind.i64)) b)] (compsOf [(true, Ty.slice 2 (Ty.int IntKind.i64))] r_2) ∧ ((r_2.length ≤
      9223372036854775807 ∧ ∀ (x : Int), List.Mem x r_2 → inR IntKind.i64 x) → r_2.length + [((x : Nat) : Int)].length ≤ 4294967296 ∧ (-9223372036854775808 ≤ ((x : Nat) : Int) + 1 ∧ ((x : Nat) : Int) + 1 ≤
      9223372036854775807) ∧ ∃ (r_3 : Int), Ev Try.prog 46 [Arg.imm (D.dat (Ty.int IntKind.i64) ((s.length : Nat) : Int)), Arg.imm (D.dat (Ty.int IntKind.i64) (((x : Nat) : Int) + 1))] (compsOf [(false,
      Ty.int IntKind.i64)] r_3) ∧ (inR IntKind.i64 r_3 → ∃ (r_4 : List Int × Bool), Ev Try.prog 24 [Arg.imm (D.dat (Ty.slice 46 slabT) l), Arg.imm (D.dat (Ty.slice 2 (Ty.int IntKind.i64)) (r_1.set (((x :
      Nat) : Int)).toNat (r_1.getD (((x : Nat) : Int)).toNat 0 - r))), Arg.own (Ty.slice 2 (Ty.int IntKind.i64)) (r_2 ++ [((x : Nat) : Int)]), Arg.imm (D.dat (Ty.int IntKind.i64) r_3)] (compsOf [(true,
      Ty.slice 2 (Ty.int IntKind.i64)), (false, Ty.bool)] r_4) ∧ ((r_4.fst.length ≤ 9223372036854775807 ∧ ∀ (x : Int), List.Mem x r_4.fst → inR IntKind.i64 x) → split r_4.snd (r_4.fst = (optV (fit h most
      (List.drop b.length (wts l)) s b)).fst ∧ true = (optV (fit h most (List.drop b.length (wts l)) s b)).snd) ((-9223372036854775808 ≤ ((x : Nat) : Int) + 1 ∧ ((x : Nat) : Int) + 1 ≤ 9223372036854775807)
      ∧ ∃ (x' : Nat), Slot.val (D.dat (Ty.int IntKind.i64) (((x : Nat) : Int) + 1)) = Slot.val (D.dat iT ((x' : Nat) : Int)) ∧ (x' ≤ min (s.length + 1) most ∧ ∀ (j : Nat), j < x' → tryV h most ((wts
      l).getD b.length 0) (List.drop (b.length + 1) (wts l)) s b j = none) ∧ min (s.length + 1) most - x' < min (s.length + 1) most - x))))))))) ([] = (optV (fit h most (List.drop b.length (wts l)) s
      b)).fst ∧ false = (optV (fit h most (List.drop b.length (wts l)) s b)).snd)) ([] = (optV (fit h most (List.drop b.length (wts l)) s b)).fst ∧ false = (optV (fit h most (List.drop b.length (wts l)) s
      b)).snd))))) := by
    intro _ _ _ _ _ _
    refine split_of (fun e => ?_) (fun e => ?_)
    · have e := of_decide_eq_true e
      rw [List.drop_of_length_le (by simp only [wts, List.length_map]; omega)]
      exact ⟨rfl, rfl⟩
    · have e : b.length < l.length := by have := of_decide_eq_false e; omega
      have e' : b.length < (wts l).length := by simp only [wts, List.length_map]; omega
      rw [fit_at e']
      have hw : weightV (l.getD b.length (0, 0, 0, 0)) = (wts l).getD b.length 0 := by
        simp [wts, List.getD_eq_getElem?_getD, e]
      have hn0 : 0 ≤ (wts l).getD b.length 0 ∧ (wts l).getD b.length 0 ≤ h := by
        rw [show (wts l).getD b.length 0 = (wts l)[b.length] by simp [List.getD_eq_getElem?_getD, e']]
        exact hn _ (List.getElem_mem _)
      refine ⟨by omega, ?_⟩
      intros
      rw [Int.toNat_natCast]
      have hh := k.hh
      have hf := k.few
      refine ⟨_, l05Weight_ev _, ?_⟩
      rw [hw, show (leftV h most s).length = most from row_len _ _]
      refine fun _ => ⟨⟨0, rfl, by omega, fun j hj => absurd hj (Nat.not_lt_zero _)⟩, fun x ⟨hx, hn⟩ _ => split_of (fun h1 => fun _ => split_of (fun h2 => ?_) (fun h2 => ?_)) (fun h1 => ?_)⟩
      · have h1 := of_decide_eq_true h1
        have h2 := of_decide_eq_true h2
        have h1 : x < min (s.length + 1) most := by omega
        have hg := k.get x
        have hbx : (bump s x ((wts l).getD b.length 0)).getD x 0 = s.getD x 0 + (wts l).getD b.length 0 := by rw [bump_getD (by omega), if_pos rfl]
        have hle : (leftV h most s).getD x 0 = h - s.getD x 0 := row_getD (fun j => h - s.getD j 0) (show x < most by omega) 0
        simp only [Int.toNat_natCast, hle]
        refine ⟨by omega, fun _ => split_of (fun h3 => ⟨by omega, x + 1, rfl, ⟨by omega, upto_step hn (by rw [tryV, if_pos (by have := of_decide_eq_true h3; omega)])⟩, by omega⟩) (fun h3 => ?_)⟩
        have h3 := of_decide_eq_false h3
        have hs := left_set (h := h) (n := (wts l).getD b.length 0) (show x ≤ s.length by omega) (show x < most by omega)
        refine ⟨_, l00Own_ev _ (by rw [show (leftV h most s).length = most from row_len _ _]; omega), fun _ => ⟨by rw [show (leftV h most s).length = most from row_len _ _]; omega, fun _ => ?_⟩⟩
        rw [hle, hs]
        refine ⟨by omega, by rw [show (leftV h most s).length = most from row_len _ _]; omega, _, l00Own_ev b (by omega), fun _ => ⟨by simp; omega, by omega, _, l00Max_ev _ _, fun _ => ?_⟩⟩
        rw [max_len (n := (wts l).getD b.length 0) (show x ≤ s.length by omega)]
        refine ⟨_, ih x e h1 (by omega), fun _ => ?_⟩
        have ht : tryV h most ((wts l).getD b.length 0) ((wts l).drop (b.length + 1)) s b x = fit h most ((wts l).drop (b.length + 1)) (bump s x ((wts l).getD b.length 0)) (b ++ [(x : Int)]) := by rw [tryV, if_neg (by omega)]
        cases q : fit h most ((wts l).drop (b.length + 1)) (bump s x ((wts l).getD b.length 0)) (b ++ [(x : Int)]) with
        | some o =>
          refine split_of (fun _ => ?_) (fun h => by simp [optV] at h)
          rw [fs_some h1 hn (ht.trans q)]; exact ⟨rfl, rfl⟩
        | none => exact split_of (fun h => by simp [optV] at h) (fun _ => ⟨by omega, x + 1, rfl, ⟨by omega, upto_step hn (ht.trans q)⟩, by omega⟩)
      · have h2 := of_decide_eq_false h2
        rw [fs_none fun j hj => hn j (by omega)]
        exact ⟨rfl, rfl⟩
      · have h1 := of_decide_eq_false h1
        rw [fs_none fun j hj => hn j (by omega)]
        exact ⟨rfl, rfl⟩
  refine @Eq.mpr _ _ (?_) key
  kernel_rfl
theorem load_ev (al : List Int) (h : Int) (most : Nat) (ha : al.length ≤ 100) (hn : ∀ x ∈ al, 0 ≤ x ∧ x ≤ h) (hm : most ≤ 100) : ∀ (m : Nat) (b s : List Int), al.length - b.length = m → b.length ≤ al.length → SumsOk h s →
    Ev Try.prog 27 [aIs al, aI h, aI (most : Int), aIo b, aIs s] (compsOf [oIs, rB] (optV (fit h most (al.drop b.length) s b)))
  | 0, b, s, hl, hb, k => load1_ev al h most b s ha hn hb hm k fun j h1 => absurd h1 (by omega)
  | m + 1, b, s, hl, hb, k => load1_ev al h most b s ha hn hb hm k fun j h1 h2 h3 => by
    have hn0 : 0 ≤ al.getD b.length 0 := by
      rw [show al.getD b.length 0 = al[b.length] by simp [List.getD_eq_getElem?_getD, h1]]
      exact (hn _ (List.getElem_mem _)).1
    have := load_ev al h most ha hn hm m (b ++ [(j : Int)]) (bump s j (al.getD b.length 0)) (by simp; omega) (by simp; omega) (k.bump hn0 (by omega) (by omega) h3)
    rwa [List.length_append] at this
theorem fit_ev (l : List Sl) (h : Int) (most : Nat) (ha : l.length ≤ 100) (hn : ∀ x ∈ wts l, 0 ≤ x ∧ x ≤ h) (hm : most ≤ 100) : ∀ (m : Nat) (b s : List Int), l.length - b.length = m → b.length ≤ l.length → SumsOk h s →
    Ev Try.prog 24 [aSs l, aIs (leftV h most s), aIo b, aI (s.length : Int)] (compsOf [oIs, rB] (optV (fit h most ((wts l).drop b.length) s b)))
  | 0, b, s, hl, hb, k => fit1_ev l h most b s ha hn hb hm k fun j h1 => absurd h1 (by omega)
  | m + 1, b, s, hl, hb, k => fit1_ev l h most b s ha hn hb hm k fun j h1 h2 h3 => by
    have e' : b.length < (wts l).length := by simp only [wts, List.length_map]; omega
    have hn0 : 0 ≤ (wts l).getD b.length 0 := by
      rw [show (wts l).getD b.length 0 = (wts l)[b.length] by simp [List.getD_eq_getElem?_getD, e']]
      exact (hn _ (List.getElem_mem _)).1
    have := fit_ev l h most ha hn hm m (b ++ [(j : Int)]) (bump s j ((wts l).getD b.length 0)) (by simp; omega) (by simp; omega) (k.bump hn0 (by omega) (by omega) h3)
    rwa [List.length_append] at this
end Go.Proofs.Ytjicolekkojonaa
