/- Grounds that are raised. No statement is proved here. -/
import Derived.Test.YtkhheofgnhndbaaJc
import Derived.Test.YtkhheofgnhndbaaFm
namespace Go.Proofs.Ytkhheofgnhndbaa
open Go.RowKit
set_option linter.unusedVariables false
set_option linter.unusedSimpArgs false
set_option maxRecDepth 100000
set_option maxHeartbeats 4000000
abbrev Hs := List (List Int)
abbrev hget (h : Hs) (p : Int × Int) : Int := (h.getD p.2.toNat (List.replicate 9 0)).getD p.1.toNat 0
def raise1 (n : Int) (h : Hs) (p : Int × Int) : Hs := h.set p.2.toNat ((h.getD p.2.toNat (List.replicate 9 0)).set p.1.toNat (hget h p + n))
def raiseH (n : Int) (h : Hs) (ps : Cl) : Hs := ps.foldl (raise1 n) h
theorem raise_succ (n : Int) (h : Hs) (ps : Cl) {i : Nat} (hi : i < ps.length) : raiseH n h (ps.take (i + 1)) = raise1 n (raiseH n h (ps.take i)) (ps.getD i (0, 0)) := by
  have : ps.take (i + 1) = ps.take i ++ [ps.getD i (0, 0)] := by
    rw [List.take_add_one, List.getElem?_eq_getElem hi]
    simp [List.getD_eq_getElem?_getD, hi]
  unfold raiseH
  rw [this, List.foldl_append]; rfl
/-- No height is beyond b. -/
def Within (b : Int) (h : Hs) : Prop := ∀ p : Int × Int, -b ≤ hget h p ∧ hget h p ≤ b
theorem getD_set_any {α : Type} (l : List α) (i j : Nat) (a d : α) : (l.set i a).getD j d = a ∨ (l.set i a).getD j d = l.getD j d := by
  simp only [List.getD_eq_getElem?_getD, List.getElem?_set]
  split
  · split
    · exact .inl rfl
    · rename_i h1 h2
      subst h1
      rw [List.getElem?_eq_none (by omega)]; exact .inr rfl
  · exact .inr rfl
theorem within_raise {b n : Int} (hb : 0 ≤ b) (hn : -200 ≤ n ∧ n ≤ 200) {h : Hs} (hw : Within b h) (p : Int × Int) : Within (b + 200) (raise1 n h p) := by
  intro q
  have hp := hw p
  have hq := hw q
  unfold raise1
  simp only [hget]
  rcases getD_set_any h p.2.toNat q.2.toNat ((h.getD p.2.toNat (List.replicate 9 0)).set p.1.toNat (hget h p + n)) (List.replicate 9 0) with e | e
  · rw [e]
    rcases getD_set_any (h.getD p.2.toNat (List.replicate 9 0)) p.1.toNat q.1.toNat (hget h p + n) 0 with e2 | e2
    · rw [e2]; omega
    · rw [e2]
      have := hw (q.1, p.2)
      simp only [hget] at this
      omega
  · rw [e]; simp only [hget] at hq; omega
theorem within_fold {n : Int} (hn : -200 ≤ n ∧ n ≤ 200) {h : Hs} (hw : Within 200 h) : ∀ (ps : Cl), Within (200 + 200 * (ps.length : Int)) (raiseH n h ps) := by
  intro ps
  induction hl : ps.length generalizing ps with
  | zero => rw [List.eq_nil_of_length_eq_zero hl]; simpa [raiseH] using hw
  | succ m ih =>
    have hne : ps ≠ [] := by intro e; rw [e] at hl; cases hl
    obtain ⟨r, a, rfl⟩ : ∃ r a, ps = r ++ [a] := ⟨ps.dropLast, ps.getLast hne, (List.dropLast_concat_getLast hne).symm⟩
    have hr : r.length = m := by simpa using hl
    have := within_raise (by omega) hn (ih r hr) a
    unfold raiseH at this ⊢
    rw [List.foldl_append]
    have e : 200 + 200 * ((m + 1 : Nat) : Int) = 200 + 200 * (m : Int) + 200 := by omega
    rw [e]
    exact this
theorem ok_within {g : G} (k : OkG g) (hl : g.2.2.1.length = 9) (hr : ∀ x, List.Mem x g.2.2.1 → x.length = 9) : Within 200 g.2.2.1 := by
  intro p
  simp only [hget]
  rcases Nat.lt_or_ge p.2.toNat 9 with q | q
  · have hm : g.2.2.1.getD p.2.toNat (List.replicate 9 0) ∈ g.2.2.1 := by
      have : g.2.2.1.getD p.2.toNat (List.replicate 9 0) = g.2.2.1[p.2.toNat]'(by omega) := by simp [List.getD_eq_getElem?_getD, show p.2.toNat < g.2.2.1.length by omega]
      rw [this]; exact List.getElem_mem _
    have hrl := hr _ hm
    rcases Nat.lt_or_ge p.1.toNat 9 with r | r
    · obtain ⟨h1, h2, _⟩ := k.hs p.2.toNat q p.1.toNat r
      simp only [hgt, Int.toNat_natCast] at h1 h2
      omega
    · have : (g.2.2.1.getD p.2.toNat (List.replicate 9 0)).getD p.1.toNat 0 = 0 := by
        rw [List.getD_eq_getElem?_getD, List.getElem?_eq_none (by omega)]; rfl
      rw [this]; omega
  · have : g.2.2.1.getD p.2.toNat (List.replicate 9 0) = List.replicate 9 0 := by
      rw [List.getD_eq_getElem?_getD, List.getElem?_eq_none (by omega)]; rfl
    rw [this]
    have : (List.replicate 9 (0 : Int)).getD p.1.toNat 0 = 0 := by
      rw [List.getD_eq_getElem?_getD, List.getElem?_replicate]; split <;> rfl
    rw [this]; omega
theorem inB_is {n lo hi : Int} : inB n lo hi = true ↔ lo ≤ n ∧ n ≤ hi := by simp [inB]
theorem all_len {g : G} (k : OkG g) : (allC g.1 g.2.1).length ≤ 81 := by
  have hw := k.wh
  unfold allC
  rw [rowsC_len]
  exact Nat.le_trans (Nat.mul_le_mul (show g.2.1.toNat ≤ 9 by omega) (show g.1.toNat ≤ 9 by omega)) (by omega)
theorem cl_mem {l : Cl} {i : Nat} (h : i < l.length) : l.getD i (0, 0) ∈ l := by
  have : l.getD i (0, 0) = l[i] := by simp [List.getD_eq_getElem?_getD, h]
  rw [this]; exact List.getElem_mem _
theorem raiseFn_ev (p : Int × Int) : Ev Try.prog 67 [aC p] (compsOf [rB] (true)) := by
  refine ev_of (l := [rB]) (r := (true)) (types (resT) [] (fun _ _ => none)) follows Try.func67 (by kernel_rfl) (by rw [Try.ntmps67]; exact Nat.le_of_ble_eq_true rfl) ?_
  have key : (inR IntKind.i8 p.fst → inR IntKind.i8 p.snd → true = true) := by
    repeat' (first
      | (intro hh; try simp only [inR, loK, hiK] at hh)
      | exact trivial
      | (refine And.intro ?_ ?_)
      | (refine split_of (fun hh => ?_) (fun hh => ?_)))
    all_goals (first | omega | rfl | (simp_all []; done) | (simp_all []; omega))
  refine @Eq.mpr _ _ (?_) key
  kernel_rfl
theorem points10_ev (x y : Int) (f : Nat) (acc : Int × Int → Bool) (hx : 0 ≤ x ∧ x < 9) (hy : 0 ≤ y ∧ y < 9) (hp : Ev Try.prog f [aC (x, y)] (compsOf [rB] (acc (x, y)))) : Ev Try.prog 95 [aI x, aI y, .imm (.ref (.clo f .nl))] (compsOf [rB] (acc (x, y))) := by
  refine ev_of (l := [rB]) (r := (acc (x, y))) (types (fun _ => some [rB]) [] (fun _ _ => none)) follows Try.func95 (by kernel_rfl) (by rw [Try.ntmps95]; exact Nat.le_of_ble_eq_true rfl) ?_
  have key : (inR IntKind.i64 x → inR IntKind.i64 y → (-128 ≤ x ∧ x ≤ 127) ∧ (-128 ≤ y ∧ y ≤ 127) ∧ ∃ (r : Bool), Ev Try.prog f [Arg.imm (D.dat cellT (x, y))] (compsOf [(false, Ty.bool)] r) ∧ r = acc (x, y)) := by
    intros
    exact ⟨by omega, by omega, _, hp, rfl⟩
  refine @Eq.mpr _ _ (?_) key
  kernel_rfl
theorem pointsAll_ev (g : G) (k : OkG g) : Ev Try.prog 57 [aG g, .imm (.clo 67 .nl)] (compsOf [oC] (allC g.1 g.2.1)) := by
  refine ev_of (l := [oC]) (r := (allC g.1 g.2.1)) (types (resT) [] (fun _ _ => none)) follows Try.func57 (by kernel_rfl) (by rw [Try.ntmps57]; exact Nat.le_of_ble_eq_true rfl) ?_
  have key : (inR IntKind.i8 g.fst → inR IntKind.i8 g.snd.fst → (g.snd.snd.fst.length = 9 ∧ ∀ (x : List Int), List.Mem x g.snd.snd.fst → x.length = 9 ∧ ∀ (x_1 : Int), List.Mem x_1 x → inR IntKind.i16 x_1) →
      (g.snd.snd.snd.length ≤ 9223372036854775807 ∧ ∀ (x : Int × Int), List.Mem x g.snd.snd.snd → inR IntKind.i8 x.fst ∧ inR IntKind.i8 x.snd) → inR IntKind.i8 g.fst → inR IntKind.i8 g.snd.fst →
      (g.snd.snd.fst.length = 9 ∧ ∀ (x : List Int), List.Mem x g.snd.snd.fst → x.length = 9 ∧ ∀ (x_1 : Int), List.Mem x_1 x → inR IntKind.i16 x_1) → (g.snd.snd.snd.length ≤ 9223372036854775807 ∧ ∀ (x : Int
      × Int), List.Mem x g.snd.snd.snd → inR IntKind.i8 x.fst ∧ inR IntKind.i8 x.snd) → ∃ (r : Int × Int × List (Int × Int × Int × Int)), Ev Try.prog 89 [Arg.imm (D.dat (groundT 40) g)] (compsOf [(false,
      (Ty.int IntKind.i8).prod ((Ty.int IntKind.i8).prod (Ty.slice 132 ((Ty.int IntKind.i8).prod ((Ty.int IntKind.i8).prod ((Ty.int IntKind.i8).prod (Ty.int IntKind.i8)))))))] r) ∧ (inR IntKind.i8 r.fst →
      inR IntKind.i8 r.snd.fst → (r.snd.snd.length ≤ 9223372036854775807 ∧ ∀ (x : Int × Int × Int × Int), List.Mem x r.snd.snd → inR IntKind.i8 x.fst ∧ inR IntKind.i8 x.snd.fst ∧ inR IntKind.i8
      x.snd.snd.fst ∧ inR IntKind.i8 x.snd.snd.snd) → ∃ (r_1 : List (Int × Int)), Ev Try.prog 94 [Arg.imm (D.dat sqT r), Arg.imm (D.clo 95 ((D.clo 67 D.nl).ref.cn D.nl))] (compsOf [(true, Ty.slice 40
      ((Ty.int IntKind.i8).prod (Ty.int IntKind.i8)))] r_1) ∧ ((r_1.length ≤ 9223372036854775807 ∧ ∀ (x : Int × Int), List.Mem x r_1 → inR IntKind.i8 x.fst ∧ inR IntKind.i8 x.snd) → r_1 = allC g.fst
      g.snd.fst))) := by
    have hw := k.wh
    intros
    refine ⟨_, frame_ev g, fun _ _ _ => ⟨_, cells_ev (frameV g) _ _ (fun _ => true) ⟨by show 0 ≤ g.1; omega, by show g.1 ≤ 12; omega⟩ ⟨by show 0 ≤ g.2.1; omega, by show g.2.1 ≤ 12; omega⟩ ?_, fun _ => List.filter_eq_self.2 fun _ _ => rfl⟩⟩
    intro x y h1 h2 h3 h4
    have h2 : x < g.1 := h2
    have h4 : y < g.2.1 := h4
    exact points10_ev x y _ (fun _ => true) ⟨h1, by omega⟩ ⟨h3, by omega⟩ (raiseFn_ev (x, y))
  refine @Eq.mpr _ _ (?_) key
  kernel_rfl
def raisedG (g : G) (n : Int) : G := (g.1, g.2.1, raiseH n g.2.2.1 (allC g.1 g.2.1), g.2.2.2)
def zeroG : G := (0, 0, List.replicate 9 (List.replicate 9 0), [])
noncomputable def raiseV (g : G) (n : Int) : G × Int := if okG g then (if inB n (-200) 200 then (if okG (raisedG g n) then (raisedG g n, 0) else (zeroG, 3)) else (zeroG, 2)) else (zeroG, 1)
theorem part_all (g : G) (n : Int) : (g.1, g.2.1, raiseH n g.2.2.1 ((allC g.1 g.2.1).take (allC g.1 g.2.1).length), g.2.2.2) = raisedG g n := by
  rw [List.take_length]; rfl
abbrev boG (g : G) : Slot := .boxo (groundT 40) g
def partG (g : G) (n : Int) (i : Nat) : G := (g.1, g.2.1, raiseH n g.2.2.1 ((allC g.1 g.2.1).take i), g.2.2.2)
noncomputable abbrev raiseInv (g : G) (n : Int) (m : Nat) (σ : List Slot) : Option LoopInv := match m with
  | 7 => some ⟨6 :: hvAt Try.f25 7, Nat, fun i => [(6, boG (partG g n i)), (26, .val (.dat iT (i : Int)))], fun i => i ≤ (allC g.1 g.2.1).length, fun i => (allC g.1 g.2.1).length - i⟩
  | _ => none
theorem implRaise_ev (g : G) (n : Int) : Ev Try.prog 25 [aG g, aI n] (compsOf [oG, rI] (raiseV g n)) := by
  refine ev_of (l := [oG, rI]) (r := (raiseV g n)) (types (resT) [] (raiseInv g n)) follows Try.func25 (by kernel_rfl) (by rw [Try.ntmps25]; exact Nat.le_of_ble_eq_true rfl) ?_
  have key : (inR IntKind.i8 g.fst → inR IntKind.i8 g.snd.fst → (g.snd.snd.fst.length = 9 ∧ ∀ (x : List Int), List.Mem x g.snd.snd.fst → x.length = 9 ∧ ∀ (x_1 : Int), List.Mem x_1 x → inR IntKind.i16 x_1) →
      (g.snd.snd.snd.length ≤ 9223372036854775807 ∧ ∀ (x : Int × Int), List.Mem x g.snd.snd.snd → inR IntKind.i8 x.fst ∧ inR IntKind.i8 x.snd) → inR IntKind.i64 n → inR IntKind.i8 g.fst → inR IntKind.i8
      g.snd.fst → (g.snd.snd.fst.length = 9 ∧ ∀ (x : List Int), List.Mem x g.snd.snd.fst → x.length = 9 ∧ ∀ (x_1 : Int), List.Mem x_1 x → inR IntKind.i16 x_1) → (g.snd.snd.snd.length ≤ 9223372036854775807
      ∧ ∀ (x : Int × Int), List.Mem x g.snd.snd.snd → inR IntKind.i8 x.fst ∧ inR IntKind.i8 x.snd) → ∃ (r : Bool), Ev Try.prog 17 [Arg.imm (D.dat (groundT 40) g)] (compsOf [(false, Ty.bool)] r) ∧ split
      (!r) ((0, 0, List.replicate 9 (List.replicate 9 0), []) = (raiseV g n).fst ∧ 1 = (raiseV g n).snd) (∃ (r : Bool), Ev Try.prog 50 [Arg.imm (D.dat (Ty.int IntKind.i64) n), Arg.imm (D.dat (Ty.int
      IntKind.i64) (-200)), Arg.imm (D.dat (Ty.int IntKind.i64) 200)] (compsOf [(false, Ty.bool)] r) ∧ split (!r) ((0, 0, List.replicate 9 (List.replicate 9 0), []) = (raiseV g n).fst ∧ 2 = (raiseV g
      n).snd) (inR IntKind.i8 g.fst → inR IntKind.i8 g.snd.fst → (g.snd.snd.fst.length = 9 ∧ ∀ (x : List Int), List.Mem x g.snd.snd.fst → x.length = 9 ∧ ∀ (x_1 : Int), List.Mem x_1 x → inR IntKind.i16 x_1)
      → (g.snd.snd.snd.length ≤ 9223372036854775807 ∧ ∀ (x : Int × Int), List.Mem x g.snd.snd.snd → inR IntKind.i8 x.fst ∧ inR IntKind.i8 x.snd) → (g.snd.snd.fst.length = 9 ∧ ∀ (x : List Int), List.Mem x
      g.snd.snd.fst → x.length = 9 ∧ ∀ (x_1 : Int), List.Mem x_1 x → inR IntKind.i16 x_1) → ∃ (r : Int × Int × List (List Int) × List (Int × Int)), Ev Try.prog 66 [Arg.imm (D.dat (groundT 40) g), Arg.imm
      (D.dat (Ty.arr 9 (Ty.arr 9 (Ty.int IntKind.i16))) g.snd.snd.fst)] (compsOf [(true, (Ty.int IntKind.i8).prod ((Ty.int IntKind.i8).prod ((Ty.arr 9 (Ty.arr 9 (Ty.int IntKind.i16))).prod (Ty.slice 40
      ((Ty.int IntKind.i8).prod (Ty.int IntKind.i8))))))] r) ∧ (inR IntKind.i8 r.fst → inR IntKind.i8 r.snd.fst → (r.snd.snd.fst.length = 9 ∧ ∀ (x : List Int), List.Mem x r.snd.snd.fst → x.length = 9 ∧ ∀
      (x_1 : Int), List.Mem x_1 x → inR IntKind.i16 x_1) → (r.snd.snd.snd.length ≤ 9223372036854775807 ∧ ∀ (x : Int × Int), List.Mem x r.snd.snd.snd → inR IntKind.i8 x.fst ∧ inR IntKind.i8 x.snd) → inR
      IntKind.i8 g.fst → inR IntKind.i8 g.snd.fst → (g.snd.snd.fst.length = 9 ∧ ∀ (x : List Int), List.Mem x g.snd.snd.fst → x.length = 9 ∧ ∀ (x_1 : Int), List.Mem x_1 x → inR IntKind.i16 x_1) →
      (g.snd.snd.snd.length ≤ 9223372036854775807 ∧ ∀ (x : Int × Int), List.Mem x g.snd.snd.snd → inR IntKind.i8 x.fst ∧ inR IntKind.i8 x.snd) → ∃ (r_1 : List (Int × Int)), Ev Try.prog 57 [Arg.imm (D.dat
      (groundT 40) g), Arg.imm (D.clo 67 D.nl)] (compsOf [(true, Ty.slice 40 ((Ty.int IntKind.i8).prod (Ty.int IntKind.i8)))] r_1) ∧ ((r_1.length ≤ 9223372036854775807 ∧ ∀ (x : Int × Int), List.Mem x r_1 →
      inR IntKind.i8 x.fst ∧ inR IntKind.i8 x.snd) → ((r_1.length : Nat) : Int) ≤ 9223372036854775807 → (∃ (x0 : Nat), (Slot.boxo (groundT 40) r = Slot.boxo (groundT 40) (partG g n x0) ∧ Slot.val (D.dat
      (Ty.int IntKind.i64) 0) = Slot.val (D.dat iT ((x0 : Nat) : Int))) ∧ x0 ≤ List.length (allC g.fst g.snd.fst)) ∧ ∀ (x : Nat), x ≤ List.length (allC g.fst g.snd.fst) → inR IntKind.i8 (partG g n x).fst →
      inR IntKind.i8 (partG g n x).snd.fst → ((partG g n x).snd.snd.fst.length = 9 ∧ ∀ (x_1 : List Int), List.Mem x_1 (partG g n x).snd.snd.fst → x_1.length = 9 ∧ ∀ (x : Int), List.Mem x x_1 → inR
      IntKind.i16 x) → ((partG g n x).snd.snd.snd.length ≤ 9223372036854775807 ∧ ∀ (x_1 : Int × Int), List.Mem x_1 (partG g n x).snd.snd.snd → inR IntKind.i8 x_1.fst ∧ inR IntKind.i8 x_1.snd) → inR
      IntKind.i64 ((x : Nat) : Int) → split (decide (((x : Nat) : Int) < ((r_1.length : Nat) : Int))) ((0 ≤ ((x : Nat) : Int) ∧ ((x : Nat) : Int) < ((r_1.length : Nat) : Int)) ∧ (inR IntKind.i8 (r_1.getD
      (((x : Nat) : Int)).toNat (0, 0)).fst → inR IntKind.i8 (r_1.getD (((x : Nat) : Int)).toNat (0, 0)).snd → inR IntKind.i8 (r_1.getD (((x : Nat) : Int)).toNat (0, 0)).snd → inR IntKind.i8 (r_1.getD (((x
      : Nat) : Int)).toNat (0, 0)).fst → (0 ≤ (r_1.getD (((x : Nat) : Int)).toNat (0, 0)).snd ∧ (r_1.getD (((x : Nat) : Int)).toNat (0, 0)).snd < ((9 : Nat) : Int)) ∧ (0 ≤ (r_1.getD (((x : Nat) :
      Int)).toNat (0, 0)).fst ∧ (r_1.getD (((x : Nat) : Int)).toNat (0, 0)).fst < ((9 : Nat) : Int)) ∧ (inR IntKind.i16 (((partG g n x).snd.snd.fst.getD (r_1.getD (((x : Nat) : Int)).toNat (0,
      0)).snd.toNat (List.replicate 9 0)).getD (r_1.getD (((x : Nat) : Int)).toNat (0, 0)).fst.toNat 0) → (-32768 ≤ n ∧ n ≤ 32767) ∧ (-32768 ≤ ((partG g n x).snd.snd.fst.getD (r_1.getD (((x : Nat) :
      Int)).toNat (0, 0)).snd.toNat (List.replicate 9 0)).getD (r_1.getD (((x : Nat) : Int)).toNat (0, 0)).fst.toNat 0 + n ∧ ((partG g n x).snd.snd.fst.getD (r_1.getD (((x : Nat) : Int)).toNat (0,
      0)).snd.toNat (List.replicate 9 0)).getD (r_1.getD (((x : Nat) : Int)).toNat (0, 0)).fst.toNat 0 + n ≤ 32767) ∧ (0 ≤ (r_1.getD (((x : Nat) : Int)).toNat (0, 0)).snd ∧ (r_1.getD (((x : Nat) :
      Int)).toNat (0, 0)).snd < ((9 : Nat) : Int)) ∧ (0 ≤ (r_1.getD (((x : Nat) : Int)).toNat (0, 0)).fst ∧ (r_1.getD (((x : Nat) : Int)).toNat (0, 0)).fst < ((9 : Nat) : Int)) ∧ (-9223372036854775808 ≤
      ((x : Nat) : Int) + 1 ∧ ((x : Nat) : Int) + 1 ≤ 9223372036854775807) ∧ ∃ (x' : Nat), (Slot.boxo (groundT 40) ((partG g n x).fst, (partG g n x).snd.fst, (partG g n x).snd.snd.fst.set (r_1.getD (((x :
      Nat) : Int)).toNat (0, 0)).snd.toNat (((partG g n x).snd.snd.fst.getD (r_1.getD (((x : Nat) : Int)).toNat (0, 0)).snd.toNat (List.replicate 9 0)).set (r_1.getD (((x : Nat) : Int)).toNat (0,
      0)).fst.toNat (((partG g n x).snd.snd.fst.getD (r_1.getD (((x : Nat) : Int)).toNat (0, 0)).snd.toNat (List.replicate 9 0)).getD (r_1.getD (((x : Nat) : Int)).toNat (0, 0)).fst.toNat 0 + n)), (partG g
      n x).snd.snd.snd) = Slot.boxo (groundT 40) (partG g n x') ∧ Slot.val (D.dat (Ty.int IntKind.i64) (((x : Nat) : Int) + 1)) = Slot.val (D.dat iT ((x' : Nat) : Int))) ∧ x' ≤ List.length (allC g.fst
      g.snd.fst) ∧ List.length (allC g.fst g.snd.fst) - x' < List.length (allC g.fst g.snd.fst) - x))) (inR IntKind.i8 (partG g n x).fst → inR IntKind.i8 (partG g n x).snd.fst → ((partG g n
      x).snd.snd.fst.length = 9 ∧ ∀ (x_1 : List Int), List.Mem x_1 (partG g n x).snd.snd.fst → x_1.length = 9 ∧ ∀ (x : Int), List.Mem x x_1 → inR IntKind.i16 x) → ((partG g n x).snd.snd.snd.length ≤
      9223372036854775807 ∧ ∀ (x_1 : Int × Int), List.Mem x_1 (partG g n x).snd.snd.snd → inR IntKind.i8 x_1.fst ∧ inR IntKind.i8 x_1.snd) → ∃ (r : Bool), Ev Try.prog 17 [Arg.imm (D.dat (groundT 40) (partG
      g n x))] (compsOf [(false, Ty.bool)] r) ∧ split (!r) ((0, 0, List.replicate 9 (List.replicate 9 0), []) = (raiseV g n).fst ∧ 3 = (raiseV g n).snd) (inR IntKind.i8 (partG g n x).fst → inR IntKind.i8
      (partG g n x).snd.fst → ((partG g n x).snd.snd.fst.length = 9 ∧ ∀ (x_1 : List Int), List.Mem x_1 (partG g n x).snd.snd.fst → x_1.length = 9 ∧ ∀ (x : Int), List.Mem x x_1 → inR IntKind.i16 x) →
      ((partG g n x).snd.snd.snd.length ≤ 9223372036854775807 ∧ ∀ (x_1 : Int × Int), List.Mem x_1 (partG g n x).snd.snd.snd → inR IntKind.i8 x_1.fst ∧ inR IntKind.i8 x_1.snd) → partG g n x = (raiseV g
      n).fst ∧ 0 = (raiseV g n).snd))))))) := by
    intro _ _ hs _ _ _ _ _ _
    refine ⟨_, valid_ev g, split_of (fun h1 => ?_) (fun h1 => ?_)⟩
    · have h1 : okG g = false := by simpa using h1
      simp [raiseV, h1, zeroG]
    have h1 : okG g = true := by simpa using h1
    have k := okG_iff.1 h1
    have hw := k.wh
    refine ⟨_, within_ev _ _ _, split_of (fun h2 => ?_) (fun h2 => ?_)⟩
    · have h2 : inB n (-200) 200 = false := by simpa using h2
      simp [raiseV, h1, h2, zeroG]
    have h2 : inB n (-200) 200 = true := by simpa using h2
    have hW := ok_within k hs.1 fun x hx => (hs.2 x hx).1
    intros
    refine ⟨_, with_ev g _ (by have := k.n; omega), ?_⟩
    intros
    refine ⟨_, pointsAll_ev g k, ?_⟩
    intros
    refine ⟨⟨0, ⟨rfl, rfl⟩, Nat.zero_le _⟩, fun i hi _ _ _ _ _ => split_of (fun h => ?_) (fun h => ?_)⟩
    · have h := of_decide_eq_true h
      have hx : i < (allC g.1 g.2.1).length := by omega
      obtain ⟨p1, p2, p3, p4⟩ := allC_mem.1 (cl_mem hx)
      have hf := within_fold (inB_is.1 h2) hW ((allC g.1 g.2.1).take i) ((allC g.1 g.2.1).getD i (0, 0))
      have hn := inB_is.1 h2
      have ha := all_len k
      rw [List.length_take] at hf
      simp only [hget] at hf
      simp only [Int.toNat_natCast]
      refine ⟨by omega, ?_⟩
      intros
      refine ⟨by omega, by omega, ?_⟩
      intros
      refine ⟨by omega, ?_, by omega, by omega, by omega, i + 1, ⟨?_, by simp⟩, by omega, by omega⟩
      · simp only [partG]; omega
      · show Slot.boxo (groundT 40) _ = Slot.boxo (groundT 40) (g.1, g.2.1, raiseH n g.2.2.1 ((allC g.1 g.2.1).take (i + 1)), g.2.2.2)
        rw [raise_succ _ _ _ hx]; rfl
    · have h := of_decide_eq_false h
      have e : i = (allC g.1 g.2.1).length := by omega
      subst e
      simp only [partG]
      rw [part_all]
      intros
      refine ⟨_, valid_ev _, split_of (fun h3 => ?_) (fun h3 => ?_)⟩
      · have h3 : okG (raisedG g n) = false := by simpa using h3
        simp [raiseV, h1, h2, h3, zeroG]
      · have h3 : okG (raisedG g n) = true := by simpa using h3
        intros
        simp [raiseV, h1, h2, h3]
  refine @Eq.mpr _ _ (?_) key
  kernel_rfl
noncomputable abbrev raiseSInv (g : G) (n : Int) (m : Nat) (σ : List Slot) : Option LoopInv := match m with
  | 7 => some ⟨7 :: hvAt Try.f24 7, Nat, fun i => [(7, boG (partG g n i)), (9, .val (.dat iT (i : Int)))], fun i => i ≤ (allC g.1 g.2.1).length, fun i => (allC g.1 g.2.1).length - i⟩
  | _ => none
theorem specRaise_ev (g : G) (n : Int) : Ev Try.prog 24 [aG g, aI n] (compsOf [oG, rI] (raiseV g n)) := by
  refine ev_of (l := [oG, rI]) (r := (raiseV g n)) (types (resT) [] (raiseSInv g n)) follows Try.func24 (by kernel_rfl) (by rw [Try.ntmps24]; exact Nat.le_of_ble_eq_true rfl) ?_
  have key : (inR IntKind.i8 g.fst → inR IntKind.i8 g.snd.fst → (g.snd.snd.fst.length = 9 ∧ ∀ (x : List Int), List.Mem x g.snd.snd.fst → x.length = 9 ∧ ∀ (x_1 : Int), List.Mem x_1 x → inR IntKind.i16 x_1) →
      (g.snd.snd.snd.length ≤ 9223372036854775807 ∧ ∀ (x : Int × Int), List.Mem x g.snd.snd.snd → inR IntKind.i8 x.fst ∧ inR IntKind.i8 x.snd) → inR IntKind.i64 n → ∃ (r : Bool), Ev Try.prog 64 [Arg.imm
      (D.dat (Ty.int IntKind.i64) n), Arg.imm (D.dat (Ty.int IntKind.i64) (-200)), Arg.imm (D.dat (Ty.int IntKind.i64) 200)] (compsOf [(false, Ty.bool)] r) ∧ ∃ (r_1 : Int), Ev Try.prog 63 [Arg.imm (D.dat
      (groundT 40) g).ref, Arg.imm (D.dat Ty.bool r)] (compsOf [(false, Ty.int IntKind.i64)] r_1) ∧ (inR IntKind.i64 r_1 → split (!decide (r_1 = 0)) ((0, 0, List.replicate 9 (List.replicate 9 0), []) =
      (raiseV g n).fst ∧ r_1 = (raiseV g n).snd) (∃ (r : Int × Int × List (List Int) × List (Int × Int)), Ev Try.prog 65 [Arg.imm (D.dat (groundT 40) g).ref] (compsOf [(true, (Ty.int IntKind.i8).prod
      ((Ty.int IntKind.i8).prod ((Ty.arr 9 (Ty.arr 9 (Ty.int IntKind.i16))).prod (Ty.slice 40 ((Ty.int IntKind.i8).prod (Ty.int IntKind.i8))))))] r) ∧ (inR IntKind.i8 r.fst → inR IntKind.i8 r.snd.fst →
      (r.snd.snd.fst.length = 9 ∧ ∀ (x : List Int), List.Mem x r.snd.snd.fst → x.length = 9 ∧ ∀ (x_1 : Int), List.Mem x_1 x → inR IntKind.i16 x_1) → (r.snd.snd.snd.length ≤ 9223372036854775807 ∧ ∀ (x : Int
      × Int), List.Mem x r.snd.snd.snd → inR IntKind.i8 x.fst ∧ inR IntKind.i8 x.snd) → ∃ (r_2 : List (Int × Int)), Ev Try.prog 54 [Arg.imm (D.dat (groundT 40) g).ref] (compsOf [(true, Ty.slice 40 ((Ty.int
      IntKind.i8).prod (Ty.int IntKind.i8)))] r_2) ∧ ((r_2.length ≤ 9223372036854775807 ∧ ∀ (x : Int × Int), List.Mem x r_2 → inR IntKind.i8 x.fst ∧ inR IntKind.i8 x.snd) → (∃ (x0 : Nat), (Slot.boxo
      (groundT 40) r = Slot.boxo (groundT 40) (partG g n x0) ∧ Slot.val (D.dat (Ty.int IntKind.i64) 0) = Slot.val (D.dat iT ((x0 : Nat) : Int))) ∧ x0 ≤ List.length (allC g.fst g.snd.fst)) ∧ ∀ (x : Nat), x
      ≤ List.length (allC g.fst g.snd.fst) → inR IntKind.i8 (partG g n x).fst → inR IntKind.i8 (partG g n x).snd.fst → ((partG g n x).snd.snd.fst.length = 9 ∧ ∀ (x_1 : List Int), List.Mem x_1 (partG g n
      x).snd.snd.fst → x_1.length = 9 ∧ ∀ (x : Int), List.Mem x x_1 → inR IntKind.i16 x) → ((partG g n x).snd.snd.snd.length ≤ 9223372036854775807 ∧ ∀ (x_1 : Int × Int), List.Mem x_1 (partG g n
      x).snd.snd.snd → inR IntKind.i8 x_1.fst ∧ inR IntKind.i8 x_1.snd) → inR IntKind.i64 ((x : Nat) : Int) → ((r_2.length : Nat) : Int) ≤ 9223372036854775807 → split (decide (((x : Nat) : Int) <
      ((r_2.length : Nat) : Int))) ((0 ≤ ((x : Nat) : Int) ∧ ((x : Nat) : Int) < ((r_2.length : Nat) : Int)) ∧ (inR IntKind.i8 (r_2.getD (((x : Nat) : Int)).toNat (0, 0)).snd → (0 ≤ ((x : Nat) : Int) ∧ ((x
      : Nat) : Int) < ((r_2.length : Nat) : Int)) ∧ (inR IntKind.i8 (r_2.getD (((x : Nat) : Int)).toNat (0, 0)).fst → (0 ≤ (r_2.getD (((x : Nat) : Int)).toNat (0, 0)).snd ∧ (r_2.getD (((x : Nat) :
      Int)).toNat (0, 0)).snd < ((9 : Nat) : Int)) ∧ (0 ≤ (r_2.getD (((x : Nat) : Int)).toNat (0, 0)).fst ∧ (r_2.getD (((x : Nat) : Int)).toNat (0, 0)).fst < ((9 : Nat) : Int)) ∧ (inR IntKind.i16 (((partG
      g n x).snd.snd.fst.getD (r_2.getD (((x : Nat) : Int)).toNat (0, 0)).snd.toNat (List.replicate 9 0)).getD (r_2.getD (((x : Nat) : Int)).toNat (0, 0)).fst.toNat 0) → (-32768 ≤ n ∧ n ≤ 32767) ∧ (-32768
      ≤ ((partG g n x).snd.snd.fst.getD (r_2.getD (((x : Nat) : Int)).toNat (0, 0)).snd.toNat (List.replicate 9 0)).getD (r_2.getD (((x : Nat) : Int)).toNat (0, 0)).fst.toNat 0 + n ∧ ((partG g n
      x).snd.snd.fst.getD (r_2.getD (((x : Nat) : Int)).toNat (0, 0)).snd.toNat (List.replicate 9 0)).getD (r_2.getD (((x : Nat) : Int)).toNat (0, 0)).fst.toNat 0 + n ≤ 32767) ∧ (0 ≤ (r_2.getD (((x : Nat)
      : Int)).toNat (0, 0)).snd ∧ (r_2.getD (((x : Nat) : Int)).toNat (0, 0)).snd < ((9 : Nat) : Int)) ∧ (0 ≤ (r_2.getD (((x : Nat) : Int)).toNat (0, 0)).fst ∧ (r_2.getD (((x : Nat) : Int)).toNat (0,
      0)).fst < ((9 : Nat) : Int)) ∧ (-9223372036854775808 ≤ ((x : Nat) : Int) + 1 ∧ ((x : Nat) : Int) + 1 ≤ 9223372036854775807) ∧ ∃ (x' : Nat), (Slot.boxo (groundT 40) ((partG g n x).fst, (partG g n
      x).snd.fst, (partG g n x).snd.snd.fst.set (r_2.getD (((x : Nat) : Int)).toNat (0, 0)).snd.toNat (((partG g n x).snd.snd.fst.getD (r_2.getD (((x : Nat) : Int)).toNat (0, 0)).snd.toNat (List.replicate
      9 0)).set (r_2.getD (((x : Nat) : Int)).toNat (0, 0)).fst.toNat (((partG g n x).snd.snd.fst.getD (r_2.getD (((x : Nat) : Int)).toNat (0, 0)).snd.toNat (List.replicate 9 0)).getD (r_2.getD (((x : Nat)
      : Int)).toNat (0, 0)).fst.toNat 0 + n)), (partG g n x).snd.snd.snd) = Slot.boxo (groundT 40) (partG g n x') ∧ Slot.val (D.dat (Ty.int IntKind.i64) (((x : Nat) : Int) + 1)) = Slot.val (D.dat iT ((x' :
      Nat) : Int))) ∧ x' ≤ List.length (allC g.fst g.snd.fst) ∧ List.length (allC g.fst g.snd.fst) - x' < List.length (allC g.fst g.snd.fst) - x)))) (∃ (r : Bool), Ev Try.prog 48 [Arg.imm (D.dat (groundT
      40) (partG g n x)).ref] (compsOf [(false, Ty.bool)] r) ∧ split (!r) ((0, 0, List.replicate 9 (List.replicate 9 0), []) = (raiseV g n).fst ∧ 3 = (raiseV g n).snd) (inR IntKind.i8 (partG g n x).fst →
      inR IntKind.i8 (partG g n x).snd.fst → ((partG g n x).snd.snd.fst.length = 9 ∧ ∀ (x_1 : List Int), List.Mem x_1 (partG g n x).snd.snd.fst → x_1.length = 9 ∧ ∀ (x : Int), List.Mem x x_1 → inR
      IntKind.i16 x) → ((partG g n x).snd.snd.snd.length ≤ 9223372036854775807 ∧ ∀ (x_1 : Int × Int), List.Mem x_1 (partG g n x).snd.snd.snd → inR IntKind.i8 x_1.fst ∧ inR IntKind.i8 x_1.snd) → partG g n x
      = (raiseV g n).fst ∧ 0 = (raiseV g n).snd))))))) := by
    intro _ _ hs _ _
    refine ⟨_, l00In_ev _ _ _, _, l04Asked_ev g _, fun _ => split_of (fun h0 => ?_) (fun h0 => ?_)⟩
    · have h0 : ¬ askedI (okG g) (inB n (-200) 200) = 0 := by simpa using h0
      unfold askedI at h0 ⊢
      cases h1 : okG g
      · simp [raiseV, h1, zeroG]
      · cases h2 : inB n (-200) 200
        · simp [raiseV, h1, h2, zeroG]
        · simp [h1, h2] at h0
    have h0 : askedI (okG g) (inB n (-200) 200) = 0 := by simpa using h0
    obtain ⟨h1, h2⟩ : okG g = true ∧ inB n (-200) 200 = true := by
      unfold askedI at h0
      cases h1 : okG g
      · simp [h1] at h0
      · cases h2 : inB n (-200) 200
        · simp [h1, h2] at h0
        · exact ⟨rfl, rfl⟩
    have k := okG_iff.1 h1
    have hw := k.wh
    have hW := ok_within k hs.1 fun x hx => (hs.2 x hx).1
    refine ⟨_, l04Own_ev g (by have := k.n; omega), ?_⟩
    intros
    refine ⟨_, l04All_ev g (by omega) (by omega), ?_⟩
    intros
    refine ⟨⟨0, ⟨rfl, rfl⟩, Nat.zero_le _⟩, fun i hi _ _ _ _ _ _ => split_of (fun h => ?_) (fun h => ?_)⟩
    · have h := of_decide_eq_true h
      have hx : i < (allC g.1 g.2.1).length := by omega
      obtain ⟨p1, p2, p3, p4⟩ := allC_mem.1 (cl_mem hx)
      have hf := within_fold (inB_is.1 h2) hW ((allC g.1 g.2.1).take i) ((allC g.1 g.2.1).getD i (0, 0))
      have hn := inB_is.1 h2
      have ha := all_len k
      rw [List.length_take] at hf
      simp only [hget] at hf
      simp only [Int.toNat_natCast]
      refine ⟨by omega, ?_⟩
      intros
      refine ⟨by omega, ?_⟩
      intros
      refine ⟨by omega, by omega, ?_⟩
      intros
      refine ⟨by omega, ?_, by omega, by omega, by omega, i + 1, ⟨?_, by simp⟩, by omega, by omega⟩
      · simp only [partG]; omega
      · show Slot.boxo (groundT 40) _ = Slot.boxo (groundT 40) (g.1, g.2.1, raiseH n g.2.2.1 ((allC g.1 g.2.1).take (i + 1)), g.2.2.2)
        rw [raise_succ _ _ _ hx]; rfl
    · have h := of_decide_eq_false h
      have e : i = (allC g.1 g.2.1).length := by omega
      subst e
      simp only [partG]
      rw [part_all]
      refine ⟨_, l04Ok_ev _, split_of (fun h3 => ?_) (fun h3 => ?_)⟩
      · have h3 : okG (raisedG g n) = false := by simpa using h3
        simp [raiseV, h1, h2, h3, zeroG]
      · have h3 : okG (raisedG g n) = true := by simpa using h3
        intros
        simp [raiseV, h1, h2, h3]
  refine @Eq.mpr _ _ (?_) key
  kernel_rfl
end Go.Proofs.Ytkhheofgnhndbaa
