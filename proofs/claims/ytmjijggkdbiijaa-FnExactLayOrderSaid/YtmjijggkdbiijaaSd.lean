/- Valid squares. No statement is proved here. -/
import Derived.Test.YtmjijggkdbiijaaSc
namespace Go.Proofs.Ytmjijggkdbiijaa
open Go.RowKit
set_option linter.unusedVariables false
set_option linter.unusedSimpArgs false
set_option maxRecDepth 100000
set_option maxHeartbeats 4000000
abbrev sAt (l : List Sl) (i : Nat) : Sl := l.getD i (0, 0, 0, 0)
structure SlOk (q : Sq) (i : Nat) : Prop where
  inn : slabIn q.1 q.2.1 (sAt q.2.2 i) = true
  apart : (q.2.2.take i).any (meetsB (sAt q.2.2 i)) = false
  ord : 0 < i → ordS (sAt q.2.2 (i - 1)) (sAt q.2.2 i) ≤ 0
structure OkQ (q : Sq) : Prop where
  w : edgeB q.1 = true
  h : edgeB q.2.1 = true
  n : q.2.2.length ≤ 60
  sl : ∀ i : Nat, i < q.2.2.length → SlOk q i
open Classical in
noncomputable def okQ (q : Sq) : Bool := decide (OkQ q)
theorem okF {q : Sq} (h : ¬ OkQ q) : false = okQ q := by simp [okQ, h]
theorem okT {q : Sq} (h : OkQ q) : true = okQ q := by simp [okQ, h]
theorem okQ_iff {q : Sq} : okQ q = true ↔ OkQ q := by simp [okQ]
noncomputable abbrev validInv (q : Sq) (n : Nat) (σ : List Slot) : Option LoopInv := match n with
  | 4 => some ⟨hvAt Try.f61 4, Nat, fun i => [(26, .val (.dat (.int .i64) i))], fun i => i ≤ q.2.2.length ∧ ∀ j : Nat, j < i → SlOk q j, fun i => q.2.2.length - i⟩
  | _ => none
theorem valid_ev (q : Sq) : Ev Try.prog 61 [aQ q] (compsOf [rB] (okQ q)) := by
  refine ev_of (l := [rB]) (r := (okQ q)) (types (resT) [] (validInv q)) follows Try.func61 (by kernel_rfl) (by rw [Try.ntmps61]; exact Nat.le_of_ble_eq_true rfl) ?_
  have key : (inR IntKind.i8 q.fst → inR IntKind.i8 q.snd.fst → (q.snd.snd.length ≤ 9223372036854775807 ∧ ∀ (x : Int × Int × Int × Int), List.Mem x q.snd.snd → inR IntKind.i8 x.fst ∧ inR IntKind.i8 x.snd.fst ∧ inR
      IntKind.i8 x.snd.snd.fst ∧ inR IntKind.i8 x.snd.snd.snd) → inR IntKind.i8 q.fst → (-9223372036854775808 ≤ q.fst ∧ q.fst ≤ 9223372036854775807) ∧ ∃ (r : Bool), Ev Try.prog 110 [Arg.imm (D.dat (Ty.int
      IntKind.i64) q.fst)] (compsOf [(false, Ty.bool)] r) ∧ split (!!r) (inR IntKind.i8 q.snd.fst → (-9223372036854775808 ≤ q.snd.fst ∧ q.snd.fst ≤ 9223372036854775807) ∧ ∃ (r : Bool), Ev Try.prog 110
      [Arg.imm (D.dat (Ty.int IntKind.i64) q.snd.fst)] (compsOf [(false, Ty.bool)] r) ∧ split (!!r) ((q.snd.snd.length ≤ 9223372036854775807 ∧ ∀ (x : Int × Int × Int × Int), List.Mem x q.snd.snd → inR
      IntKind.i8 x.fst ∧ inR IntKind.i8 x.snd.fst ∧ inR IntKind.i8 x.snd.snd.fst ∧ inR IntKind.i8 x.snd.snd.snd) → ((q.snd.snd.length : Nat) : Int) ≤ 9223372036854775807 → split (decide (60 <
      ((q.snd.snd.length : Nat) : Int))) (false = okQ q) ((q.snd.snd.length ≤ 9223372036854775807 ∧ ∀ (x : Int × Int × Int × Int), List.Mem x q.snd.snd → inR IntKind.i8 x.fst ∧ inR IntKind.i8 x.snd.fst ∧
      inR IntKind.i8 x.snd.snd.fst ∧ inR IntKind.i8 x.snd.snd.snd) → ((q.snd.snd.length : Nat) : Int) ≤ 9223372036854775807 → (∃ (x0 : Nat), Slot.val (D.dat (Ty.int IntKind.i64) 0) = Slot.val (D.dat
      (Ty.int IntKind.i64) ((x0 : Nat) : Int)) ∧ x0 ≤ q.snd.snd.length ∧ ∀ (j : Nat), j < x0 → SlOk q j) ∧ ∀ (x : Nat), (x ≤ q.snd.snd.length ∧ ∀ (j : Nat), j < x → SlOk q j) → inR IntKind.i64 ((x : Nat) :
      Int) → split (decide (((x : Nat) : Int) < ((q.snd.snd.length : Nat) : Int))) ((0 ≤ ((x : Nat) : Int) ∧ ((x : Nat) : Int) < ((q.snd.snd.length : Nat) : Int)) ∧ (inR IntKind.i8 (q.snd.snd.getD (((x :
      Nat) : Int)).toNat (0, 0, 0, 0)).fst → inR IntKind.i8 (q.snd.snd.getD (((x : Nat) : Int)).toNat (0, 0, 0, 0)).snd.fst → inR IntKind.i8 (q.snd.snd.getD (((x : Nat) : Int)).toNat (0, 0, 0,
      0)).snd.snd.fst → inR IntKind.i8 (q.snd.snd.getD (((x : Nat) : Int)).toNat (0, 0, 0, 0)).snd.snd.snd → inR IntKind.i8 (q.snd.snd.getD (((x : Nat) : Int)).toNat (0, 0, 0, 0)).fst → inR IntKind.i8
      (q.snd.snd.getD (((x : Nat) : Int)).toNat (0, 0, 0, 0)).snd.fst → inR IntKind.i8 (q.snd.snd.getD (((x : Nat) : Int)).toNat (0, 0, 0, 0)).snd.snd.fst → inR IntKind.i8 (q.snd.snd.getD (((x : Nat) :
      Int)).toNat (0, 0, 0, 0)).snd.snd.snd → inR IntKind.i8 q.fst → inR IntKind.i8 q.snd.fst → (q.snd.snd.length ≤ 9223372036854775807 ∧ ∀ (x : Int × Int × Int × Int), List.Mem x q.snd.snd → inR
      IntKind.i8 x.fst ∧ inR IntKind.i8 x.snd.fst ∧ inR IntKind.i8 x.snd.snd.fst ∧ inR IntKind.i8 x.snd.snd.snd) → ∃ (r : Bool), Ev Try.prog 111 [Arg.imm (D.dat slabT (q.snd.snd.getD (((x : Nat) :
      Int)).toNat (0, 0, 0, 0))), Arg.imm (D.dat (sqT 41) q)] (compsOf [(false, Ty.bool)] r) ∧ split (!!r) ((q.snd.snd.length ≤ 9223372036854775807 ∧ ∀ (x : Int × Int × Int × Int), List.Mem x q.snd.snd →
      inR IntKind.i8 x.fst ∧ inR IntKind.i8 x.snd.fst ∧ inR IntKind.i8 x.snd.snd.fst ∧ inR IntKind.i8 x.snd.snd.snd) → ((0 : Int) ≤ 0 ∧ 0 ≤ ((x : Nat) : Int) ∧ ((x : Nat) : Int) ≤ ((q.snd.snd.length : Nat)
      : Int)) ∧ (inR IntKind.i8 (q.snd.snd.getD (((x : Nat) : Int)).toNat (0, 0, 0, 0)).fst → inR IntKind.i8 (q.snd.snd.getD (((x : Nat) : Int)).toNat (0, 0, 0, 0)).snd.fst → inR IntKind.i8 (q.snd.snd.getD
      (((x : Nat) : Int)).toNat (0, 0, 0, 0)).snd.snd.fst → inR IntKind.i8 (q.snd.snd.getD (((x : Nat) : Int)).toNat (0, 0, 0, 0)).snd.snd.snd → ∃ (r : Bool), Ev Try.prog 112 [Arg.imm (D.dat (Ty.slice 41
      slabT) (List.drop (Int.toNat 0) (List.take (((x : Nat) : Int)).toNat q.snd.snd))), Arg.imm (D.bnd 113 ((D.dat slabT (q.snd.snd.getD (((x : Nat) : Int)).toNat (0, 0, 0, 0))).cn D.nl))] (compsOf
      [(false, Ty.bool)] r) ∧ split (!r) (split (decide (0 < ((x : Nat) : Int))) ((q.snd.snd.length ≤ 9223372036854775807 ∧ ∀ (x : Int × Int × Int × Int), List.Mem x q.snd.snd → inR IntKind.i8 x.fst ∧ inR
      IntKind.i8 x.snd.fst ∧ inR IntKind.i8 x.snd.snd.fst ∧ inR IntKind.i8 x.snd.snd.snd) → (-9223372036854775808 ≤ ((x : Nat) : Int) - 1 ∧ ((x : Nat) : Int) - 1 ≤ 9223372036854775807) ∧ (0 ≤ ((x : Nat) :
      Int) - 1 ∧ ((x : Nat) : Int) - 1 < ((q.snd.snd.length : Nat) : Int)) ∧ (inR IntKind.i8 (q.snd.snd.getD (((x : Nat) : Int) - 1).toNat (0, 0, 0, 0)).fst → inR IntKind.i8 (q.snd.snd.getD (((x : Nat) :
      Int) - 1).toNat (0, 0, 0, 0)).snd.fst → inR IntKind.i8 (q.snd.snd.getD (((x : Nat) : Int) - 1).toNat (0, 0, 0, 0)).snd.snd.fst → inR IntKind.i8 (q.snd.snd.getD (((x : Nat) : Int) - 1).toNat (0, 0, 0,
      0)).snd.snd.snd → inR IntKind.i8 (q.snd.snd.getD (((x : Nat) : Int)).toNat (0, 0, 0, 0)).fst → inR IntKind.i8 (q.snd.snd.getD (((x : Nat) : Int)).toNat (0, 0, 0, 0)).snd.fst → inR IntKind.i8
      (q.snd.snd.getD (((x : Nat) : Int)).toNat (0, 0, 0, 0)).snd.snd.fst → inR IntKind.i8 (q.snd.snd.getD (((x : Nat) : Int)).toNat (0, 0, 0, 0)).snd.snd.snd → ∃ (r : Int), Ev Try.prog 114 [Arg.imm (D.dat
      slabT (q.snd.snd.getD (((x : Nat) : Int) - 1).toNat (0, 0, 0, 0))), Arg.imm (D.dat slabT (q.snd.snd.getD (((x : Nat) : Int)).toNat (0, 0, 0, 0)))] (compsOf [(false, Ty.int IntKind.i64)] r) ∧ (inR
      IntKind.i64 r → split (decide (0 < r)) (false = okQ q) ((-9223372036854775808 ≤ ((x : Nat) : Int) + 1 ∧ ((x : Nat) : Int) + 1 ≤ 9223372036854775807) ∧ ∃ (x' : Nat), Slot.val (D.dat (Ty.int
      IntKind.i64) (((x : Nat) : Int) + 1)) = Slot.val (D.dat (Ty.int IntKind.i64) ((x' : Nat) : Int)) ∧ (x' ≤ q.snd.snd.length ∧ ∀ (j : Nat), j < x' → SlOk q j) ∧ q.snd.snd.length - x' < q.snd.snd.length
      - x)))) ((-9223372036854775808 ≤ ((x : Nat) : Int) + 1 ∧ ((x : Nat) : Int) + 1 ≤ 9223372036854775807) ∧ ∃ (x' : Nat), Slot.val (D.dat (Ty.int IntKind.i64) (((x : Nat) : Int) + 1)) = Slot.val (D.dat
      (Ty.int IntKind.i64) ((x' : Nat) : Int)) ∧ (x' ≤ q.snd.snd.length ∧ ∀ (j : Nat), j < x' → SlOk q j) ∧ q.snd.snd.length - x' < q.snd.snd.length - x)) (false = okQ q))) (false = okQ q))) (true = okQ
      q))) (false = okQ q)) (false = okQ q)) := by
    intro _ _ _ h8
    refine ⟨i8b h8, _, isEdge_ev _, split_of (fun h1 => ?_) (fun h1 => okF fun k => by simp [k.w] at h1)⟩
    intro h8'
    refine ⟨i8b h8', _, isEdge_ev _, split_of (fun h2 => ?_) (fun h2 => okF fun k => by simp [k.h] at h2)⟩
    intro hq hql
    refine split_of (fun h3 => okF fun k => by have := k.n; have := of_decide_eq_true h3; omega) (fun h3 => ?_)
    have h3 := of_decide_eq_false h3
    intro _ _
    refine ⟨⟨0, rfl, by omega, fun j hj => by omega⟩, fun i ⟨hi, hn⟩ _ => split_of (fun h4 => ?_) (fun h4 => ?_)⟩
    · have h4 := of_decide_eq_true h4
      have e1 : (((i : Nat) : Int) - 1).toNat = i - 1 := by omega
      simp only [Int.toNat_natCast, e1]
      have go : SlOk q i → (-9223372036854775808 ≤ ((i : Nat) : Int) + 1 ∧ ((i : Nat) : Int) + 1 ≤ 9223372036854775807) ∧ ∃ (x' : Nat), Slot.val (D.dat (Ty.int IntKind.i64) (((i : Nat) : Int) + 1)) = Slot.val (D.dat (Ty.int IntKind.i64) ((x' : Nat) : Int)) ∧ (x' ≤ q.2.2.length ∧ ∀ (j : Nat), j < x' → SlOk q j) ∧ q.2.2.length - x' < q.2.2.length - i := fun r =>
        ⟨by omega, i + 1, rfl, ⟨by omega, upto_step hn r⟩, by omega⟩
      have hk : OkQ q → SlOk q i := fun k => k.sl i (by omega)
      refine ⟨by omega, fun _ _ _ _ _ _ _ _ _ _ _ => ⟨_, isIn_ev _ _, split_of (fun h5 => ?_) (fun h5 => okF fun k => absurd h5 (by rw [(hk k).inn]; decide))⟩⟩
      intro _
      refine ⟨by omega, fun _ _ _ _ => ⟨_, containsFuncB_ev _ _ _ (meetsB (sAt q.2.2 i)) fun t _ => meets_ev _ t, split_of (fun h6 => ?_) (fun h6 => okF fun k => ?_)⟩⟩
      · have h6 : (q.2.2.take i).any (meetsB (sAt q.2.2 i)) = false := by simpa using h6
        refine split_of (fun h7 => ?_) (fun h7 => go ⟨by simpa using h5, h6, fun r => by have := of_decide_eq_false h7; omega⟩)
        have h7 := of_decide_eq_true h7
        refine fun _ => ⟨by omega, by omega, fun _ _ _ _ _ _ _ _ => ⟨_, compareSlabs_ev _ _, fun _ => split_of (fun h8 => okF fun k => ?_) (fun h8 => go ⟨by simpa using h5, h6, fun _ => ?_⟩)⟩⟩
        · have r : ordS (q.2.2.getD (i - 1) (0, 0, 0, 0)) (q.2.2.getD i (0, 0, 0, 0)) ≤ 0 := (hk k).ord (by omega)
          have := of_decide_eq_true h8; omega
        · have := of_decide_eq_false h8
          show ordS (q.2.2.getD (i - 1) (0, 0, 0, 0)) (q.2.2.getD i (0, 0, 0, 0)) ≤ 0
          omega
      · have h6 : (q.2.2.take i).any (meetsB (sAt q.2.2 i)) = true := by simpa using h6
        rw [(hk k).apart] at h6; cases h6
    · have h4 := of_decide_eq_false h4
      exact okT ⟨by simpa using h1, by simpa using h2, by omega, fun j hj => hn j (by omega)⟩
  refine @Eq.mpr _ _ (?_) key
  kernel_rfl
abbrev Gr := List (List Int)
abbrev gget (g : Gr) (x y : Int) : Int := (g.getD y.toNat (List.replicate 12 0)).getD x.toNat 0
abbrev gset (g : Gr) (x y v : Int) : Gr := g.set y.toNat ((g.getD y.toNat (List.replicate 12 0)).set x.toNat v)
abbrev grid0 : Gr := List.replicate 12 (List.replicate 12 0)
def layRow (v y : Int) : Nat → Int → Gr → Gr × Bool
  | 0, x, g => (g, true)
  | n + 1, x, g => if gget g x y = 0 then layRow v y n (x + 1) (gset g x y v) else (g, false)
def layBox (v x w : Int) : Nat → Int → Gr → Gr × Bool
  | 0, y, g => (g, true)
  | n + 1, y, g => if (layRow v y w.toNat x g).2 then layBox v x w n (y + 1) (layRow v y w.toNat x g).1 else ((layRow v y w.toNat x g).1, false)
def stepOk (q : Sq) (i : Nat) : Bool := slabIn q.1 q.2.1 (sAt q.2.2 i) && (decide (i = 0) || befS (sAt q.2.2 (i - 1)) (sAt q.2.2 i))
def layS (i : Nat) (s : Sl) (g : Gr) : Gr × Bool := layBox ((i : Int) + 1) s.1 s.2.2.1 s.2.2.2.toNat s.2.1 g
def layAll (q : Sq) : Nat → Nat → Gr → Gr × Bool
  | 0, i, g => (g, true)
  | n + 1, i, g => if stepOk q i then (if (layS i (sAt q.2.2 i) g).2 then layAll q n (i + 1) (layS i (sAt q.2.2 i) g).1 else ((layS i (sAt q.2.2 i) g).1, false)) else (g, false)
def layV (q : Sq) : Gr × Bool := if edgeB q.1 && edgeB q.2.1 && decide (q.2.2.length ≤ 60) then layAll q q.2.2.length 0 grid0 else (grid0, false)
abbrev slotS (σ : List Slot) (n : Nat) : Sl := match σ.getD n .dead with
  | .box (.dat (.prod (.int _) (.prod (.int _) (.prod (.int _) (.int _)))) x) => x
  | _ => (0, 0, 0, 0)
abbrev slotG (σ : List Slot) (n : Nat) : Gr := match σ.getD n .dead with
  | .box (.dat (.arr _ (.arr _ (.int _))) x) => x
  | _ => []
abbrev gT : Ty := .arr 12 (.arr 12 (.int .i64))
theorem layRow_go {v y x : Int} {g : Gr} {n m : Nat} (hn : n = m + 1) (h : gget g x y = 0) : layRow v y n x g = layRow v y m (x + 1) (gset g x y v) := by
  subst hn; simp only [layRow, if_pos h]
theorem layRow_stop {v y x : Int} {g : Gr} {n m : Nat} (hn : n = m + 1) (h : ¬ gget g x y = 0) : layRow v y n x g = (g, false) := by
  subst hn; simp only [layRow, if_neg h]
theorem layBox_go {v x w y : Int} {g g2 : Gr} {n m : Nat} (hn : n = m + 1) (h : layRow v y w.toNat x g = (g2, true)) : layBox v x w n y g = layBox v x w m (y + 1) g2 := by
  subst hn; simp only [layBox, h, if_true]
theorem layBox_stop {v x w y : Int} {g g2 : Gr} {n m : Nat} (hn : n = m + 1) (h : layRow v y w.toNat x g = (g2, false)) : layBox v x w n y g = (g2, false) := by
  subst hn; simp only [layBox, h]; simp
theorem layAll_go {q : Sq} {i n m : Nat} {g g2 : Gr} (hn : n = m + 1) (h : stepOk q i = true) (h2 : layS i (sAt q.2.2 i) g = (g2, true)) : layAll q n i g = layAll q m (i + 1) g2 := by
  subst hn; simp only [layAll, h, h2, if_true]
theorem layAll_stop {q : Sq} {i n m : Nat} {g g2 : Gr} (hn : n = m + 1) (h : stepOk q i = true) (h2 : layS i (sAt q.2.2 i) g = (g2, false)) : layAll q n i g = (g2, false) := by
  subst hn; simp only [layAll, h, h2, if_true]; simp
theorem layAll_bad {q : Sq} {i n m : Nat} {g : Gr} (hn : n = m + 1) (h : stepOk q i = false) : layAll q n i g = (g, false) := by
  subst hn; simp only [layAll, h]; simp
theorem slabIn_b {w h : Int} {s : Sl} (k : slabIn w h s = true) : 1 ≤ s.2.2.1 ∧ 1 ≤ s.2.2.2 ∧ 0 ≤ s.1 ∧ 0 ≤ s.2.1 ∧ s.1 + s.2.2.1 ≤ w ∧ s.2.1 + s.2.2.2 ≤ h := by
  simp only [slabIn, Bool.and_eq_true, decide_eq_true_eq] at k
  omega
theorem edge_b {n : Int} (k : edgeB n = true) : 1 ≤ n ∧ n ≤ 12 := by
  simp only [edgeB, inB, Bool.and_eq_true, decide_eq_true_eq] at k
  exact k
noncomputable abbrev layInv (q : Sq) (n : Nat) (σ : List Slot) : Option LoopInv := match n with
  | 5 => some ⟨2 :: 4 :: hvAt Try.f108 5, Gr × Nat, fun s => [(2, .box (.dat gT grid0)), (3, .val (.dat .bool false)), (4, .box (.dat gT s.1)), (5, .val (.dat (.int .i64) s.2))], fun s => s.2 ≤ q.2.2.length ∧ layAll q (q.2.2.length - s.2) s.2 s.1 = layV q, fun s => q.2.2.length - s.2⟩
  | 11 => some ⟨2 :: 4 :: hvAt Try.f108 11, Gr × Int, fun s => [(2, .box (.dat gT grid0)), (3, .val (.dat .bool false)), (4, .box (.dat gT s.1)), (7, .val (.dat (.int .i8) s.2))], fun s => (slotS σ 6).2.1 ≤ s.2 ∧ s.2 ≤ (slotS σ 6).2.1 + (slotS σ 6).2.2.2 ∧ layBox (iAt σ 5 + 1) (slotS σ 6).1 (slotS σ 6).2.2.1 ((slotS σ 6).2.1 + (slotS σ 6).2.2.2 - s.2).toNat s.2 s.1 = layS (iAt σ 5).toNat (slotS σ 6) (slotG σ 4), fun s => ((slotS σ 6).2.1 + (slotS σ 6).2.2.2 - s.2).toNat⟩
  | 14 => some ⟨2 :: 4 :: hvAt Try.f108 14, Gr × Int, fun s => [(2, .box (.dat gT grid0)), (3, .val (.dat .bool false)), (4, .box (.dat gT s.1)), (8, .val (.dat (.int .i8) s.2))], fun s => (slotS σ 6).1 ≤ s.2 ∧ s.2 ≤ (slotS σ 6).1 + (slotS σ 6).2.2.1 ∧ layRow (iAt σ 5 + 1) (iAt σ 7) ((slotS σ 6).1 + (slotS σ 6).2.2.1 - s.2).toNat s.2 s.1 = layRow (iAt σ 5 + 1) (iAt σ 7) (slotS σ 6).2.2.1.toNat (slotS σ 6).1 (slotG σ 4), fun s => ((slotS σ 6).1 + (slotS σ 6).2.2.1 - s.2).toNat⟩
  | _ => none
theorem lay_ev (q : Sq) : Ev Try.prog 108 [aQp q] (compsOf [(false, gT), rB] (layV q)) := by
  refine ev_of (l := [(false, gT), rB]) (r := (layV q)) (types (resT) [] (layInv q)) follows Try.func108 (by kernel_rfl) (by rw [Try.ntmps108]; exact Nat.le_of_ble_eq_true rfl) ?_
  have key : (inR IntKind.i8 q.fst → (-9223372036854775808 ≤ q.fst ∧ q.fst ≤ 9223372036854775807) ∧ ∃ (r : Bool), Ev Try.prog 148 [Arg.imm (D.dat (Ty.int IntKind.i64) q.fst)] (compsOf [(false, Ty.bool)] r) ∧ split
      (!!r) (inR IntKind.i8 q.snd.fst → (-9223372036854775808 ≤ q.snd.fst ∧ q.snd.fst ≤ 9223372036854775807) ∧ ∃ (r : Bool), Ev Try.prog 148 [Arg.imm (D.dat (Ty.int IntKind.i64) q.snd.fst)] (compsOf
      [(false, Ty.bool)] r) ∧ split (!!r) ((q.snd.snd.length ≤ 9223372036854775807 ∧ ∀ (x : Int × Int × Int × Int), List.Mem x q.snd.snd → inR IntKind.i8 x.fst ∧ inR IntKind.i8 x.snd.fst ∧ inR IntKind.i8
      x.snd.snd.fst ∧ inR IntKind.i8 x.snd.snd.snd) → ((q.snd.snd.length : Nat) : Int) ≤ 9223372036854775807 → split (decide (60 < ((q.snd.snd.length : Nat) : Int))) (((List.replicate 12 (List.replicate 12
      0)).length = 12 ∧ ∀ (x : List Int), List.Mem x (List.replicate 12 (List.replicate 12 0)) → x.length = 12 ∧ ∀ (x_1 : Int), List.Mem x_1 x → inR IntKind.i64 x_1) → List.replicate 12 (List.replicate 12
      0) = (layV q).fst ∧ false = (layV q).snd) ((∃ (x0 : List (List Int) × Nat), (Slot.box (D.dat (Ty.arr 12 (Ty.arr 12 (Ty.int IntKind.i64))) (List.replicate 12 (List.replicate 12 0))) = Slot.box (D.dat
      gT (List.replicate 12 (List.replicate 12 0))) ∧ Slot.val (D.dat Ty.bool false) = Slot.val (D.dat Ty.bool false) ∧ Slot.box (D.dat (Ty.arr 12 (Ty.arr 12 (Ty.int IntKind.i64))) (List.replicate 12
      (List.replicate 12 0))) = Slot.box (D.dat gT x0.fst) ∧ Slot.val (D.dat (Ty.int IntKind.i64) 0) = Slot.val (D.dat (Ty.int IntKind.i64) ((x0.snd : Nat) : Int))) ∧ x0.snd ≤ q.snd.snd.length ∧ layAll q
      (q.snd.snd.length - x0.snd) x0.snd x0.fst = layV q) ∧ ∀ (x : List (List Int) × Nat), x.snd ≤ q.snd.snd.length ∧ layAll q (q.snd.snd.length - x.snd) x.snd x.fst = layV q → ((List.replicate 12
      (List.replicate 12 0)).length = 12 ∧ ∀ (x : List Int), List.Mem x (List.replicate 12 (List.replicate 12 0)) → x.length = 12 ∧ ∀ (x_1 : Int), List.Mem x_1 x → inR IntKind.i64 x_1) → (x.fst.length = 12
      ∧ ∀ (x_1 : List Int), List.Mem x_1 x.fst → x_1.length = 12 ∧ ∀ (x : Int), List.Mem x x_1 → inR IntKind.i64 x) → inR IntKind.i64 ((x.snd : Nat) : Int) → (q.snd.snd.length ≤ 9223372036854775807 ∧ ∀ (x
      : Int × Int × Int × Int), List.Mem x q.snd.snd → inR IntKind.i8 x.fst ∧ inR IntKind.i8 x.snd.fst ∧ inR IntKind.i8 x.snd.snd.fst ∧ inR IntKind.i8 x.snd.snd.snd) → ((q.snd.snd.length : Nat) : Int) ≤
      9223372036854775807 → split (decide (((x.snd : Nat) : Int) < ((q.snd.snd.length : Nat) : Int))) ((q.snd.snd.length ≤ 9223372036854775807 ∧ ∀ (x : Int × Int × Int × Int), List.Mem x q.snd.snd → inR
      IntKind.i8 x.fst ∧ inR IntKind.i8 x.snd.fst ∧ inR IntKind.i8 x.snd.snd.fst ∧ inR IntKind.i8 x.snd.snd.snd) → (0 ≤ ((x.snd : Nat) : Int) ∧ ((x.snd : Nat) : Int) < ((q.snd.snd.length : Nat) : Int)) ∧
      (inR IntKind.i8 (q.snd.snd.getD (((x.snd : Nat) : Int)).toNat (0, 0, 0, 0)).fst → inR IntKind.i8 (q.snd.snd.getD (((x.snd : Nat) : Int)).toNat (0, 0, 0, 0)).snd.fst → inR IntKind.i8 (q.snd.snd.getD
      (((x.snd : Nat) : Int)).toNat (0, 0, 0, 0)).snd.snd.fst → inR IntKind.i8 (q.snd.snd.getD (((x.snd : Nat) : Int)).toNat (0, 0, 0, 0)).snd.snd.snd → inR IntKind.i8 (q.snd.snd.getD (((x.snd : Nat) :
      Int)).toNat (0, 0, 0, 0)).fst → inR IntKind.i8 (q.snd.snd.getD (((x.snd : Nat) : Int)).toNat (0, 0, 0, 0)).snd.fst → inR IntKind.i8 (q.snd.snd.getD (((x.snd : Nat) : Int)).toNat (0, 0, 0,
      0)).snd.snd.fst → inR IntKind.i8 (q.snd.snd.getD (((x.snd : Nat) : Int)).toNat (0, 0, 0, 0)).snd.snd.snd → ∃ (r : Bool), Ev Try.prog 149 [Arg.imm (D.dat (sqT 41) q).ref, Arg.imm (D.dat slabT
      (q.snd.snd.getD (((x.snd : Nat) : Int)).toNat (0, 0, 0, 0)))] (compsOf [(false, Ty.bool)] r) ∧ split (!!r) (split (decide (0 < ((x.snd : Nat) : Int))) ((q.snd.snd.length ≤ 9223372036854775807 ∧ ∀ (x
      : Int × Int × Int × Int), List.Mem x q.snd.snd → inR IntKind.i8 x.fst ∧ inR IntKind.i8 x.snd.fst ∧ inR IntKind.i8 x.snd.snd.fst ∧ inR IntKind.i8 x.snd.snd.snd) → (-9223372036854775808 ≤ ((x.snd :
      Nat) : Int) - 1 ∧ ((x.snd : Nat) : Int) - 1 ≤ 9223372036854775807) ∧ (0 ≤ ((x.snd : Nat) : Int) - 1 ∧ ((x.snd : Nat) : Int) - 1 < ((q.snd.snd.length : Nat) : Int)) ∧ (inR IntKind.i8 (q.snd.snd.getD
      (((x.snd : Nat) : Int) - 1).toNat (0, 0, 0, 0)).fst → inR IntKind.i8 (q.snd.snd.getD (((x.snd : Nat) : Int) - 1).toNat (0, 0, 0, 0)).snd.fst → inR IntKind.i8 (q.snd.snd.getD (((x.snd : Nat) : Int) -
      1).toNat (0, 0, 0, 0)).snd.snd.fst → inR IntKind.i8 (q.snd.snd.getD (((x.snd : Nat) : Int) - 1).toNat (0, 0, 0, 0)).snd.snd.snd → inR IntKind.i8 (q.snd.snd.getD (((x.snd : Nat) : Int)).toNat (0, 0,
      0, 0)).fst → inR IntKind.i8 (q.snd.snd.getD (((x.snd : Nat) : Int)).toNat (0, 0, 0, 0)).snd.fst → inR IntKind.i8 (q.snd.snd.getD (((x.snd : Nat) : Int)).toNat (0, 0, 0, 0)).snd.snd.fst → inR
      IntKind.i8 (q.snd.snd.getD (((x.snd : Nat) : Int)).toNat (0, 0, 0, 0)).snd.snd.snd → ∃ (r : Bool), Ev Try.prog 150 [Arg.imm (D.dat slabT (q.snd.snd.getD (((x.snd : Nat) : Int) - 1).toNat (0, 0, 0,
      0))), Arg.imm (D.dat slabT (q.snd.snd.getD (((x.snd : Nat) : Int)).toNat (0, 0, 0, 0)))] (compsOf [(false, Ty.bool)] r) ∧ split (!r) ((x.fst.length = 12 ∧ ∀ (x_1 : List Int), List.Mem x_1 x.fst →
      x_1.length = 12 ∧ ∀ (x : Int), List.Mem x x_1 → inR IntKind.i64 x) → x.fst = (layV q).fst ∧ false = (layV q).snd) (inR IntKind.i8 (q.snd.snd.getD (((x.snd : Nat) : Int)).toNat (0, 0, 0, 0)).snd.fst →
      (∃ (x0 : List (List Int) × Int), (Slot.box (D.dat gT (List.replicate 12 (List.replicate 12 0))) = Slot.box (D.dat gT (List.replicate 12 (List.replicate 12 0))) ∧ Slot.val (D.dat Ty.bool false) =
      Slot.val (D.dat Ty.bool false) ∧ Slot.box (D.dat gT x.fst) = Slot.box (D.dat gT x0.fst) ∧ Slot.val (D.dat (Ty.int IntKind.i8) (q.snd.snd.getD (((x.snd : Nat) : Int)).toNat (0, 0, 0, 0)).snd.fst) =
      Slot.val (D.dat (Ty.int IntKind.i8) x0.snd)) ∧ (q.snd.snd.getD (((x.snd : Nat) : Int)).toNat (0, 0, 0, 0)).snd.fst ≤ x0.snd ∧ x0.snd ≤ (q.snd.snd.getD (((x.snd : Nat) : Int)).toNat (0, 0, 0,
      0)).snd.fst + (q.snd.snd.getD (((x.snd : Nat) : Int)).toNat (0, 0, 0, 0)).snd.snd.snd ∧ layBox (((x.snd : Nat) : Int) + 1) (q.snd.snd.getD (((x.snd : Nat) : Int)).toNat (0, 0, 0, 0)).fst
      (q.snd.snd.getD (((x.snd : Nat) : Int)).toNat (0, 0, 0, 0)).snd.snd.fst ((q.snd.snd.getD (((x.snd : Nat) : Int)).toNat (0, 0, 0, 0)).snd.fst + (q.snd.snd.getD (((x.snd : Nat) : Int)).toNat (0, 0, 0,
      0)).snd.snd.snd - x0.snd).toNat x0.snd x0.fst = layS (((x.snd : Nat) : Int)).toNat (q.snd.snd.getD (((x.snd : Nat) : Int)).toNat (0, 0, 0, 0)) x.fst) ∧ ∀ (x_1 : List (List Int) × Int),
      (q.snd.snd.getD (((x.snd : Nat) : Int)).toNat (0, 0, 0, 0)).snd.fst ≤ x_1.snd ∧ x_1.snd ≤ (q.snd.snd.getD (((x.snd : Nat) : Int)).toNat (0, 0, 0, 0)).snd.fst + (q.snd.snd.getD (((x.snd : Nat) :
      Int)).toNat (0, 0, 0, 0)).snd.snd.snd ∧ layBox (((x.snd : Nat) : Int) + 1) (q.snd.snd.getD (((x.snd : Nat) : Int)).toNat (0, 0, 0, 0)).fst (q.snd.snd.getD (((x.snd : Nat) : Int)).toNat (0, 0, 0,
      0)).snd.snd.fst ((q.snd.snd.getD (((x.snd : Nat) : Int)).toNat (0, 0, 0, 0)).snd.fst + (q.snd.snd.getD (((x.snd : Nat) : Int)).toNat (0, 0, 0, 0)).snd.snd.snd - x_1.snd).toNat x_1.snd x_1.fst = layS
      (((x.snd : Nat) : Int)).toNat (q.snd.snd.getD (((x.snd : Nat) : Int)).toNat (0, 0, 0, 0)) x.fst → ((List.replicate 12 (List.replicate 12 0)).length = 12 ∧ ∀ (x : List Int), List.Mem x (List.replicate
      12 (List.replicate 12 0)) → x.length = 12 ∧ ∀ (x_2 : Int), List.Mem x_2 x → inR IntKind.i64 x_2) → (x_1.fst.length = 12 ∧ ∀ (x : List Int), List.Mem x x_1.fst → x.length = 12 ∧ ∀ (x_2 : Int),
      List.Mem x_2 x → inR IntKind.i64 x_2) → inR IntKind.i8 x_1.snd → inR IntKind.i8 (q.snd.snd.getD (((x.snd : Nat) : Int)).toNat (0, 0, 0, 0)).snd.fst → inR IntKind.i8 (q.snd.snd.getD (((x.snd : Nat) :
      Int)).toNat (0, 0, 0, 0)).snd.snd.snd → (-128 ≤ (q.snd.snd.getD (((x.snd : Nat) : Int)).toNat (0, 0, 0, 0)).snd.fst + (q.snd.snd.getD (((x.snd : Nat) : Int)).toNat (0, 0, 0, 0)).snd.snd.snd ∧
      (q.snd.snd.getD (((x.snd : Nat) : Int)).toNat (0, 0, 0, 0)).snd.fst + (q.snd.snd.getD (((x.snd : Nat) : Int)).toNat (0, 0, 0, 0)).snd.snd.snd ≤ 127) ∧ split (decide (x_1.snd < (q.snd.snd.getD
      (((x.snd : Nat) : Int)).toNat (0, 0, 0, 0)).snd.fst + (q.snd.snd.getD (((x.snd : Nat) : Int)).toNat (0, 0, 0, 0)).snd.snd.snd)) (inR IntKind.i8 (q.snd.snd.getD (((x.snd : Nat) : Int)).toNat (0, 0, 0,
      0)).fst → (∃ (x0 : List (List Int) × Int), (Slot.box (D.dat gT (List.replicate 12 (List.replicate 12 0))) = Slot.box (D.dat gT (List.replicate 12 (List.replicate 12 0))) ∧ Slot.val (D.dat Ty.bool
      false) = Slot.val (D.dat Ty.bool false) ∧ Slot.box (D.dat gT x_1.fst) = Slot.box (D.dat gT x0.fst) ∧ Slot.val (D.dat (Ty.int IntKind.i8) (q.snd.snd.getD (((x.snd : Nat) : Int)).toNat (0, 0, 0,
      0)).fst) = Slot.val (D.dat (Ty.int IntKind.i8) x0.snd)) ∧ (q.snd.snd.getD (((x.snd : Nat) : Int)).toNat (0, 0, 0, 0)).fst ≤ x0.snd ∧ x0.snd ≤ (q.snd.snd.getD (((x.snd : Nat) : Int)).toNat (0, 0, 0,
      0)).fst + (q.snd.snd.getD (((x.snd : Nat) : Int)).toNat (0, 0, 0, 0)).snd.snd.fst ∧ layRow (((x.snd : Nat) : Int) + 1) x_1.snd ((q.snd.snd.getD (((x.snd : Nat) : Int)).toNat (0, 0, 0, 0)).fst +
      (q.snd.snd.getD (((x.snd : Nat) : Int)).toNat (0, 0, 0, 0)).snd.snd.fst - x0.snd).toNat x0.snd x0.fst = layRow (((x.snd : Nat) : Int) + 1) x_1.snd (q.snd.snd.getD (((x.snd : Nat) : Int)).toNat (0, 0,
      0, 0)).snd.snd.fst.toNat (q.snd.snd.getD (((x.snd : Nat) : Int)).toNat (0, 0, 0, 0)).fst x_1.fst) ∧ ∀ (x_2 : List (List Int) × Int), (q.snd.snd.getD (((x.snd : Nat) : Int)).toNat (0, 0, 0, 0)).fst ≤
      x_2.snd ∧ x_2.snd ≤ (q.snd.snd.getD (((x.snd : Nat) : Int)).toNat (0, 0, 0, 0)).fst + (q.snd.snd.getD (((x.snd : Nat) : Int)).toNat (0, 0, 0, 0)).snd.snd.fst ∧ layRow (((x.snd : Nat) : Int) + 1)
      x_1.snd ((q.snd.snd.getD (((x.snd : Nat) : Int)).toNat (0, 0, 0, 0)).fst + (q.snd.snd.getD (((x.snd : Nat) : Int)).toNat (0, 0, 0, 0)).snd.snd.fst - x_2.snd).toNat x_2.snd x_2.fst = layRow (((x.snd :
      Nat) : Int) + 1) x_1.snd (q.snd.snd.getD (((x.snd : Nat) : Int)).toNat (0, 0, 0, 0)).snd.snd.fst.toNat (q.snd.snd.getD (((x.snd : Nat) : Int)).toNat (0, 0, 0, 0)).fst x_1.fst → ((List.replicate 12
      (List.replicate 12 0)).length = 12 ∧ ∀ (x : List Int), List.Mem x (List.replicate 12 (List.replicate 12 0)) → x.length = 12 ∧ ∀ (x_3 : Int), List.Mem x_3 x → inR IntKind.i64 x_3) → (x_2.fst.length =
      12 ∧ ∀ (x : List Int), List.Mem x x_2.fst → x.length = 12 ∧ ∀ (x_3 : Int), List.Mem x_3 x → inR IntKind.i64 x_3) → inR IntKind.i8 x_2.snd → inR IntKind.i8 (q.snd.snd.getD (((x.snd : Nat) :
      Int)).toNat (0, 0, 0, 0)).fst → inR IntKind.i8 (q.snd.snd.getD (((x.snd : Nat) : Int)).toNat (0, 0, 0, 0)).snd.snd.fst → (-128 ≤ (q.snd.snd.getD (((x.snd : Nat) : Int)).toNat (0, 0, 0, 0)).fst +
      (q.snd.snd.getD (((x.snd : Nat) : Int)).toNat (0, 0, 0, 0)).snd.snd.fst ∧ (q.snd.snd.getD (((x.snd : Nat) : Int)).toNat (0, 0, 0, 0)).fst + (q.snd.snd.getD (((x.snd : Nat) : Int)).toNat (0, 0, 0,
      0)).snd.snd.fst ≤ 127) ∧ split (decide (x_2.snd < (q.snd.snd.getD (((x.snd : Nat) : Int)).toNat (0, 0, 0, 0)).fst + (q.snd.snd.getD (((x.snd : Nat) : Int)).toNat (0, 0, 0, 0)).snd.snd.fst)) ((0 ≤
      x_1.snd ∧ x_1.snd < ((12 : Nat) : Int)) ∧ (0 ≤ x_2.snd ∧ x_2.snd < ((12 : Nat) : Int)) ∧ (inR IntKind.i64 ((x_2.fst.getD x_1.snd.toNat (List.replicate 12 0)).getD x_2.snd.toNat 0) → split (!decide
      ((x_2.fst.getD x_1.snd.toNat (List.replicate 12 0)).getD x_2.snd.toNat 0 = 0)) ((x_2.fst.length = 12 ∧ ∀ (x : List Int), List.Mem x x_2.fst → x.length = 12 ∧ ∀ (x_3 : Int), List.Mem x_3 x → inR
      IntKind.i64 x_3) → x_2.fst = (layV q).fst ∧ false = (layV q).snd) ((-9223372036854775808 ≤ ((x.snd : Nat) : Int) + 1 ∧ ((x.snd : Nat) : Int) + 1 ≤ 9223372036854775807) ∧ (0 ≤ x_1.snd ∧ x_1.snd < ((12
      : Nat) : Int)) ∧ (0 ≤ x_2.snd ∧ x_2.snd < ((12 : Nat) : Int)) ∧ (-128 ≤ x_2.snd + 1 ∧ x_2.snd + 1 ≤ 127) ∧ ∃ (x' : List (List Int) × Int), (Slot.box (D.dat gT (List.replicate 12 (List.replicate 12
      0))) = Slot.box (D.dat gT (List.replicate 12 (List.replicate 12 0))) ∧ Slot.val (D.dat Ty.bool false) = Slot.val (D.dat Ty.bool false) ∧ Slot.box (D.dat gT (x_2.fst.set x_1.snd.toNat ((x_2.fst.getD
      x_1.snd.toNat (List.replicate 12 0)).set x_2.snd.toNat (((x.snd : Nat) : Int) + 1)))) = Slot.box (D.dat gT x'.fst) ∧ Slot.val (D.dat (Ty.int IntKind.i8) (x_2.snd + 1)) = Slot.val (D.dat (Ty.int
      IntKind.i8) x'.snd)) ∧ ((q.snd.snd.getD (((x.snd : Nat) : Int)).toNat (0, 0, 0, 0)).fst ≤ x'.snd ∧ x'.snd ≤ (q.snd.snd.getD (((x.snd : Nat) : Int)).toNat (0, 0, 0, 0)).fst + (q.snd.snd.getD (((x.snd
      : Nat) : Int)).toNat (0, 0, 0, 0)).snd.snd.fst ∧ layRow (((x.snd : Nat) : Int) + 1) x_1.snd ((q.snd.snd.getD (((x.snd : Nat) : Int)).toNat (0, 0, 0, 0)).fst + (q.snd.snd.getD (((x.snd : Nat) :
      Int)).toNat (0, 0, 0, 0)).snd.snd.fst - x'.snd).toNat x'.snd x'.fst = layRow (((x.snd : Nat) : Int) + 1) x_1.snd (q.snd.snd.getD (((x.snd : Nat) : Int)).toNat (0, 0, 0, 0)).snd.snd.fst.toNat
      (q.snd.snd.getD (((x.snd : Nat) : Int)).toNat (0, 0, 0, 0)).fst x_1.fst) ∧ ((q.snd.snd.getD (((x.snd : Nat) : Int)).toNat (0, 0, 0, 0)).fst + (q.snd.snd.getD (((x.snd : Nat) : Int)).toNat (0, 0, 0,
      0)).snd.snd.fst - x'.snd).toNat < ((q.snd.snd.getD (((x.snd : Nat) : Int)).toNat (0, 0, 0, 0)).fst + (q.snd.snd.getD (((x.snd : Nat) : Int)).toNat (0, 0, 0, 0)).snd.snd.fst - x_2.snd).toNat))) ((-128
      ≤ x_1.snd + 1 ∧ x_1.snd + 1 ≤ 127) ∧ ∃ (x' : List (List Int) × Int), (Slot.box (D.dat gT (List.replicate 12 (List.replicate 12 0))) = Slot.box (D.dat gT (List.replicate 12 (List.replicate 12 0))) ∧
      Slot.val (D.dat Ty.bool false) = Slot.val (D.dat Ty.bool false) ∧ Slot.box (D.dat gT x_2.fst) = Slot.box (D.dat gT x'.fst) ∧ Slot.val (D.dat (Ty.int IntKind.i8) (x_1.snd + 1)) = Slot.val (D.dat
      (Ty.int IntKind.i8) x'.snd)) ∧ ((q.snd.snd.getD (((x.snd : Nat) : Int)).toNat (0, 0, 0, 0)).snd.fst ≤ x'.snd ∧ x'.snd ≤ (q.snd.snd.getD (((x.snd : Nat) : Int)).toNat (0, 0, 0, 0)).snd.fst +
      (q.snd.snd.getD (((x.snd : Nat) : Int)).toNat (0, 0, 0, 0)).snd.snd.snd ∧ layBox (((x.snd : Nat) : Int) + 1) (q.snd.snd.getD (((x.snd : Nat) : Int)).toNat (0, 0, 0, 0)).fst (q.snd.snd.getD (((x.snd :
      Nat) : Int)).toNat (0, 0, 0, 0)).snd.snd.fst ((q.snd.snd.getD (((x.snd : Nat) : Int)).toNat (0, 0, 0, 0)).snd.fst + (q.snd.snd.getD (((x.snd : Nat) : Int)).toNat (0, 0, 0, 0)).snd.snd.snd -
      x'.snd).toNat x'.snd x'.fst = layS (((x.snd : Nat) : Int)).toNat (q.snd.snd.getD (((x.snd : Nat) : Int)).toNat (0, 0, 0, 0)) x.fst) ∧ ((q.snd.snd.getD (((x.snd : Nat) : Int)).toNat (0, 0, 0,
      0)).snd.fst + (q.snd.snd.getD (((x.snd : Nat) : Int)).toNat (0, 0, 0, 0)).snd.snd.snd - x'.snd).toNat < ((q.snd.snd.getD (((x.snd : Nat) : Int)).toNat (0, 0, 0, 0)).snd.fst + (q.snd.snd.getD (((x.snd
      : Nat) : Int)).toNat (0, 0, 0, 0)).snd.snd.snd - x_1.snd).toNat)) ((-9223372036854775808 ≤ ((x.snd : Nat) : Int) + 1 ∧ ((x.snd : Nat) : Int) + 1 ≤ 9223372036854775807) ∧ ∃ (x' : List (List Int) ×
      Nat), (Slot.box (D.dat gT (List.replicate 12 (List.replicate 12 0))) = Slot.box (D.dat gT (List.replicate 12 (List.replicate 12 0))) ∧ Slot.val (D.dat Ty.bool false) = Slot.val (D.dat Ty.bool false)
      ∧ Slot.box (D.dat gT x_1.fst) = Slot.box (D.dat gT x'.fst) ∧ Slot.val (D.dat (Ty.int IntKind.i64) (((x.snd : Nat) : Int) + 1)) = Slot.val (D.dat (Ty.int IntKind.i64) ((x'.snd : Nat) : Int))) ∧
      (x'.snd ≤ q.snd.snd.length ∧ layAll q (q.snd.snd.length - x'.snd) x'.snd x'.fst = layV q) ∧ q.snd.snd.length - x'.snd < q.snd.snd.length - x.snd)))) (inR IntKind.i8 (q.snd.snd.getD (((x.snd : Nat) :
      Int)).toNat (0, 0, 0, 0)).snd.fst → (∃ (x0 : List (List Int) × Int), (Slot.box (D.dat gT (List.replicate 12 (List.replicate 12 0))) = Slot.box (D.dat gT (List.replicate 12 (List.replicate 12 0))) ∧
      Slot.val (D.dat Ty.bool false) = Slot.val (D.dat Ty.bool false) ∧ Slot.box (D.dat gT x.fst) = Slot.box (D.dat gT x0.fst) ∧ Slot.val (D.dat (Ty.int IntKind.i8) (q.snd.snd.getD (((x.snd : Nat) :
      Int)).toNat (0, 0, 0, 0)).snd.fst) = Slot.val (D.dat (Ty.int IntKind.i8) x0.snd)) ∧ (q.snd.snd.getD (((x.snd : Nat) : Int)).toNat (0, 0, 0, 0)).snd.fst ≤ x0.snd ∧ x0.snd ≤ (q.snd.snd.getD (((x.snd :
      Nat) : Int)).toNat (0, 0, 0, 0)).snd.fst + (q.snd.snd.getD (((x.snd : Nat) : Int)).toNat (0, 0, 0, 0)).snd.snd.snd ∧ layBox (((x.snd : Nat) : Int) + 1) (q.snd.snd.getD (((x.snd : Nat) : Int)).toNat
      (0, 0, 0, 0)).fst (q.snd.snd.getD (((x.snd : Nat) : Int)).toNat (0, 0, 0, 0)).snd.snd.fst ((q.snd.snd.getD (((x.snd : Nat) : Int)).toNat (0, 0, 0, 0)).snd.fst + (q.snd.snd.getD (((x.snd : Nat) :
      Int)).toNat (0, 0, 0, 0)).snd.snd.snd - x0.snd).toNat x0.snd x0.fst = layS (((x.snd : Nat) : Int)).toNat (q.snd.snd.getD (((x.snd : Nat) : Int)).toNat (0, 0, 0, 0)) x.fst) ∧ ∀ (x_1 : List (List Int)
      × Int), (q.snd.snd.getD (((x.snd : Nat) : Int)).toNat (0, 0, 0, 0)).snd.fst ≤ x_1.snd ∧ x_1.snd ≤ (q.snd.snd.getD (((x.snd : Nat) : Int)).toNat (0, 0, 0, 0)).snd.fst + (q.snd.snd.getD (((x.snd : Nat)
      : Int)).toNat (0, 0, 0, 0)).snd.snd.snd ∧ layBox (((x.snd : Nat) : Int) + 1) (q.snd.snd.getD (((x.snd : Nat) : Int)).toNat (0, 0, 0, 0)).fst (q.snd.snd.getD (((x.snd : Nat) : Int)).toNat (0, 0, 0,
      0)).snd.snd.fst ((q.snd.snd.getD (((x.snd : Nat) : Int)).toNat (0, 0, 0, 0)).snd.fst + (q.snd.snd.getD (((x.snd : Nat) : Int)).toNat (0, 0, 0, 0)).snd.snd.snd - x_1.snd).toNat x_1.snd x_1.fst = layS
      (((x.snd : Nat) : Int)).toNat (q.snd.snd.getD (((x.snd : Nat) : Int)).toNat (0, 0, 0, 0)) x.fst → ((List.replicate 12 (List.replicate 12 0)).length = 12 ∧ ∀ (x : List Int), List.Mem x (List.replicate
      12 (List.replicate 12 0)) → x.length = 12 ∧ ∀ (x_2 : Int), List.Mem x_2 x → inR IntKind.i64 x_2) → (x_1.fst.length = 12 ∧ ∀ (x : List Int), List.Mem x x_1.fst → x.length = 12 ∧ ∀ (x_2 : Int),
      List.Mem x_2 x → inR IntKind.i64 x_2) → inR IntKind.i8 x_1.snd → inR IntKind.i8 (q.snd.snd.getD (((x.snd : Nat) : Int)).toNat (0, 0, 0, 0)).snd.fst → inR IntKind.i8 (q.snd.snd.getD (((x.snd : Nat) :
      Int)).toNat (0, 0, 0, 0)).snd.snd.snd → (-128 ≤ (q.snd.snd.getD (((x.snd : Nat) : Int)).toNat (0, 0, 0, 0)).snd.fst + (q.snd.snd.getD (((x.snd : Nat) : Int)).toNat (0, 0, 0, 0)).snd.snd.snd ∧
      (q.snd.snd.getD (((x.snd : Nat) : Int)).toNat (0, 0, 0, 0)).snd.fst + (q.snd.snd.getD (((x.snd : Nat) : Int)).toNat (0, 0, 0, 0)).snd.snd.snd ≤ 127) ∧ split (decide (x_1.snd < (q.snd.snd.getD
      (((x.snd : Nat) : Int)).toNat (0, 0, 0, 0)).snd.fst + (q.snd.snd.getD (((x.snd : Nat) : Int)).toNat (0, 0, 0, 0)).snd.snd.snd)) (inR IntKind.i8 (q.snd.snd.getD (((x.snd : Nat) : Int)).toNat (0, 0, 0,
      0)).fst → (∃ (x0 : List (List Int) × Int), (Slot.box (D.dat gT (List.replicate 12 (List.replicate 12 0))) = Slot.box (D.dat gT (List.replicate 12 (List.replicate 12 0))) ∧ Slot.val (D.dat Ty.bool
      false) = Slot.val (D.dat Ty.bool false) ∧ Slot.box (D.dat gT x_1.fst) = Slot.box (D.dat gT x0.fst) ∧ Slot.val (D.dat (Ty.int IntKind.i8) (q.snd.snd.getD (((x.snd : Nat) : Int)).toNat (0, 0, 0,
      0)).fst) = Slot.val (D.dat (Ty.int IntKind.i8) x0.snd)) ∧ (q.snd.snd.getD (((x.snd : Nat) : Int)).toNat (0, 0, 0, 0)).fst ≤ x0.snd ∧ x0.snd ≤ (q.snd.snd.getD (((x.snd : Nat) : Int)).toNat (0, 0, 0,
      0)).fst + (q.snd.snd.getD (((x.snd : Nat) : Int)).toNat (0, 0, 0, 0)).snd.snd.fst ∧ layRow (((x.snd : Nat) : Int) + 1) x_1.snd ((q.snd.snd.getD (((x.snd : Nat) : Int)).toNat (0, 0, 0, 0)).fst +
      (q.snd.snd.getD (((x.snd : Nat) : Int)).toNat (0, 0, 0, 0)).snd.snd.fst - x0.snd).toNat x0.snd x0.fst = layRow (((x.snd : Nat) : Int) + 1) x_1.snd (q.snd.snd.getD (((x.snd : Nat) : Int)).toNat (0, 0,
      0, 0)).snd.snd.fst.toNat (q.snd.snd.getD (((x.snd : Nat) : Int)).toNat (0, 0, 0, 0)).fst x_1.fst) ∧ ∀ (x_2 : List (List Int) × Int), (q.snd.snd.getD (((x.snd : Nat) : Int)).toNat (0, 0, 0, 0)).fst ≤
      x_2.snd ∧ x_2.snd ≤ (q.snd.snd.getD (((x.snd : Nat) : Int)).toNat (0, 0, 0, 0)).fst + (q.snd.snd.getD (((x.snd : Nat) : Int)).toNat (0, 0, 0, 0)).snd.snd.fst ∧ layRow (((x.snd : Nat) : Int) + 1)
      x_1.snd ((q.snd.snd.getD (((x.snd : Nat) : Int)).toNat (0, 0, 0, 0)).fst + (q.snd.snd.getD (((x.snd : Nat) : Int)).toNat (0, 0, 0, 0)).snd.snd.fst - x_2.snd).toNat x_2.snd x_2.fst = layRow (((x.snd :
      Nat) : Int) + 1) x_1.snd (q.snd.snd.getD (((x.snd : Nat) : Int)).toNat (0, 0, 0, 0)).snd.snd.fst.toNat (q.snd.snd.getD (((x.snd : Nat) : Int)).toNat (0, 0, 0, 0)).fst x_1.fst → ((List.replicate 12
      (List.replicate 12 0)).length = 12 ∧ ∀ (x : List Int), List.Mem x (List.replicate 12 (List.replicate 12 0)) → x.length = 12 ∧ ∀ (x_3 : Int), List.Mem x_3 x → inR IntKind.i64 x_3) → (x_2.fst.length =
      12 ∧ ∀ (x : List Int), List.Mem x x_2.fst → x.length = 12 ∧ ∀ (x_3 : Int), List.Mem x_3 x → inR IntKind.i64 x_3) → inR IntKind.i8 x_2.snd → inR IntKind.i8 (q.snd.snd.getD (((x.snd : Nat) :
      Int)).toNat (0, 0, 0, 0)).fst → inR IntKind.i8 (q.snd.snd.getD (((x.snd : Nat) : Int)).toNat (0, 0, 0, 0)).snd.snd.fst → (-128 ≤ (q.snd.snd.getD (((x.snd : Nat) : Int)).toNat (0, 0, 0, 0)).fst +
      (q.snd.snd.getD (((x.snd : Nat) : Int)).toNat (0, 0, 0, 0)).snd.snd.fst ∧ (q.snd.snd.getD (((x.snd : Nat) : Int)).toNat (0, 0, 0, 0)).fst + (q.snd.snd.getD (((x.snd : Nat) : Int)).toNat (0, 0, 0,
      0)).snd.snd.fst ≤ 127) ∧ split (decide (x_2.snd < (q.snd.snd.getD (((x.snd : Nat) : Int)).toNat (0, 0, 0, 0)).fst + (q.snd.snd.getD (((x.snd : Nat) : Int)).toNat (0, 0, 0, 0)).snd.snd.fst)) ((0 ≤
      x_1.snd ∧ x_1.snd < ((12 : Nat) : Int)) ∧ (0 ≤ x_2.snd ∧ x_2.snd < ((12 : Nat) : Int)) ∧ (inR IntKind.i64 ((x_2.fst.getD x_1.snd.toNat (List.replicate 12 0)).getD x_2.snd.toNat 0) → split (!decide
      ((x_2.fst.getD x_1.snd.toNat (List.replicate 12 0)).getD x_2.snd.toNat 0 = 0)) ((x_2.fst.length = 12 ∧ ∀ (x : List Int), List.Mem x x_2.fst → x.length = 12 ∧ ∀ (x_3 : Int), List.Mem x_3 x → inR
      IntKind.i64 x_3) → x_2.fst = (layV q).fst ∧ false = (layV q).snd) ((-9223372036854775808 ≤ ((x.snd : Nat) : Int) + 1 ∧ ((x.snd : Nat) : Int) + 1 ≤ 9223372036854775807) ∧ (0 ≤ x_1.snd ∧ x_1.snd < ((12
      : Nat) : Int)) ∧ (0 ≤ x_2.snd ∧ x_2.snd < ((12 : Nat) : Int)) ∧ (-128 ≤ x_2.snd + 1 ∧ x_2.snd + 1 ≤ 127) ∧ ∃ (x' : List (List Int) × Int), (Slot.box (D.dat gT (List.replicate 12 (List.replicate 12
      0))) = Slot.box (D.dat gT (List.replicate 12 (List.replicate 12 0))) ∧ Slot.val (D.dat Ty.bool false) = Slot.val (D.dat Ty.bool false) ∧ Slot.box (D.dat gT (x_2.fst.set x_1.snd.toNat ((x_2.fst.getD
      x_1.snd.toNat (List.replicate 12 0)).set x_2.snd.toNat (((x.snd : Nat) : Int) + 1)))) = Slot.box (D.dat gT x'.fst) ∧ Slot.val (D.dat (Ty.int IntKind.i8) (x_2.snd + 1)) = Slot.val (D.dat (Ty.int
      IntKind.i8) x'.snd)) ∧ ((q.snd.snd.getD (((x.snd : Nat) : Int)).toNat (0, 0, 0, 0)).fst ≤ x'.snd ∧ x'.snd ≤ (q.snd.snd.getD (((x.snd : Nat) : Int)).toNat (0, 0, 0, 0)).fst + (q.snd.snd.getD (((x.snd
      : Nat) : Int)).toNat (0, 0, 0, 0)).snd.snd.fst ∧ layRow (((x.snd : Nat) : Int) + 1) x_1.snd ((q.snd.snd.getD (((x.snd : Nat) : Int)).toNat (0, 0, 0, 0)).fst + (q.snd.snd.getD (((x.snd : Nat) :
      Int)).toNat (0, 0, 0, 0)).snd.snd.fst - x'.snd).toNat x'.snd x'.fst = layRow (((x.snd : Nat) : Int) + 1) x_1.snd (q.snd.snd.getD (((x.snd : Nat) : Int)).toNat (0, 0, 0, 0)).snd.snd.fst.toNat
      (q.snd.snd.getD (((x.snd : Nat) : Int)).toNat (0, 0, 0, 0)).fst x_1.fst) ∧ ((q.snd.snd.getD (((x.snd : Nat) : Int)).toNat (0, 0, 0, 0)).fst + (q.snd.snd.getD (((x.snd : Nat) : Int)).toNat (0, 0, 0,
      0)).snd.snd.fst - x'.snd).toNat < ((q.snd.snd.getD (((x.snd : Nat) : Int)).toNat (0, 0, 0, 0)).fst + (q.snd.snd.getD (((x.snd : Nat) : Int)).toNat (0, 0, 0, 0)).snd.snd.fst - x_2.snd).toNat))) ((-128
      ≤ x_1.snd + 1 ∧ x_1.snd + 1 ≤ 127) ∧ ∃ (x' : List (List Int) × Int), (Slot.box (D.dat gT (List.replicate 12 (List.replicate 12 0))) = Slot.box (D.dat gT (List.replicate 12 (List.replicate 12 0))) ∧
      Slot.val (D.dat Ty.bool false) = Slot.val (D.dat Ty.bool false) ∧ Slot.box (D.dat gT x_2.fst) = Slot.box (D.dat gT x'.fst) ∧ Slot.val (D.dat (Ty.int IntKind.i8) (x_1.snd + 1)) = Slot.val (D.dat
      (Ty.int IntKind.i8) x'.snd)) ∧ ((q.snd.snd.getD (((x.snd : Nat) : Int)).toNat (0, 0, 0, 0)).snd.fst ≤ x'.snd ∧ x'.snd ≤ (q.snd.snd.getD (((x.snd : Nat) : Int)).toNat (0, 0, 0, 0)).snd.fst +
      (q.snd.snd.getD (((x.snd : Nat) : Int)).toNat (0, 0, 0, 0)).snd.snd.snd ∧ layBox (((x.snd : Nat) : Int) + 1) (q.snd.snd.getD (((x.snd : Nat) : Int)).toNat (0, 0, 0, 0)).fst (q.snd.snd.getD (((x.snd :
      Nat) : Int)).toNat (0, 0, 0, 0)).snd.snd.fst ((q.snd.snd.getD (((x.snd : Nat) : Int)).toNat (0, 0, 0, 0)).snd.fst + (q.snd.snd.getD (((x.snd : Nat) : Int)).toNat (0, 0, 0, 0)).snd.snd.snd -
      x'.snd).toNat x'.snd x'.fst = layS (((x.snd : Nat) : Int)).toNat (q.snd.snd.getD (((x.snd : Nat) : Int)).toNat (0, 0, 0, 0)) x.fst) ∧ ((q.snd.snd.getD (((x.snd : Nat) : Int)).toNat (0, 0, 0,
      0)).snd.fst + (q.snd.snd.getD (((x.snd : Nat) : Int)).toNat (0, 0, 0, 0)).snd.snd.snd - x'.snd).toNat < ((q.snd.snd.getD (((x.snd : Nat) : Int)).toNat (0, 0, 0, 0)).snd.fst + (q.snd.snd.getD (((x.snd
      : Nat) : Int)).toNat (0, 0, 0, 0)).snd.snd.snd - x_1.snd).toNat)) ((-9223372036854775808 ≤ ((x.snd : Nat) : Int) + 1 ∧ ((x.snd : Nat) : Int) + 1 ≤ 9223372036854775807) ∧ ∃ (x' : List (List Int) ×
      Nat), (Slot.box (D.dat gT (List.replicate 12 (List.replicate 12 0))) = Slot.box (D.dat gT (List.replicate 12 (List.replicate 12 0))) ∧ Slot.val (D.dat Ty.bool false) = Slot.val (D.dat Ty.bool false)
      ∧ Slot.box (D.dat gT x_1.fst) = Slot.box (D.dat gT x'.fst) ∧ Slot.val (D.dat (Ty.int IntKind.i64) (((x.snd : Nat) : Int) + 1)) = Slot.val (D.dat (Ty.int IntKind.i64) ((x'.snd : Nat) : Int))) ∧
      (x'.snd ≤ q.snd.snd.length ∧ layAll q (q.snd.snd.length - x'.snd) x'.snd x'.fst = layV q) ∧ q.snd.snd.length - x'.snd < q.snd.snd.length - x.snd))) ((x.fst.length = 12 ∧ ∀ (x_1 : List Int), List.Mem
      x_1 x.fst → x_1.length = 12 ∧ ∀ (x : Int), List.Mem x x_1 → inR IntKind.i64 x) → x.fst = (layV q).fst ∧ false = (layV q).snd))) ((x.fst.length = 12 ∧ ∀ (x_1 : List Int), List.Mem x_1 x.fst →
      x_1.length = 12 ∧ ∀ (x : Int), List.Mem x x_1 → inR IntKind.i64 x) → x.fst = (layV q).fst ∧ true = (layV q).snd))) (((List.replicate 12 (List.replicate 12 0)).length = 12 ∧ ∀ (x : List Int), List.Mem
      x (List.replicate 12 (List.replicate 12 0)) → x.length = 12 ∧ ∀ (x_1 : Int), List.Mem x_1 x → inR IntKind.i64 x_1) → List.replicate 12 (List.replicate 12 0) = (layV q).fst ∧ false = (layV q).snd))
      (((List.replicate 12 (List.replicate 12 0)).length = 12 ∧ ∀ (x : List Int), List.Mem x (List.replicate 12 (List.replicate 12 0)) → x.length = 12 ∧ ∀ (x_1 : Int), List.Mem x_1 x → inR IntKind.i64 x_1)
      → List.replicate 12 (List.replicate 12 0) = (layV q).fst ∧ false = (layV q).snd)) := by
    intro h8
    refine ⟨i8b h8, _, l01Edge_ev _, split_of (fun h1 => ?_) (fun h1 => ?_)⟩
    rotate_left
    · have h1 : edgeB q.1 = false := by simpa using h1
      intros
      simp only [layV, h1, Bool.false_and]; exact ⟨rfl, rfl⟩
    have h1 : edgeB q.1 = true := by simpa using h1
    intro h8'
    refine ⟨i8b h8', _, l01Edge_ev _, split_of (fun h2 => ?_) (fun h2 => ?_)⟩
    rotate_left
    · have h2 : edgeB q.2.1 = false := by simpa using h2
      intros
      simp only [layV, h2, Bool.and_false, Bool.false_and]; exact ⟨rfl, rfl⟩
    have h2 : edgeB q.2.1 = true := by simpa using h2
    intro hq hql
    refine split_of (fun h3 => ?_) (fun h3 => ?_)
    · have h3 := of_decide_eq_true h3
      intros
      simp only [layV, show decide (q.2.2.length ≤ 60) = false from decide_eq_false (by omega), Bool.and_false]; exact ⟨rfl, rfl⟩
    have h3 := of_decide_eq_false h3
    have hV : layV q = layAll q q.2.2.length 0 grid0 := by simp only [layV, h1, h2, show decide (q.2.2.length ≤ 60) = true from decide_eq_true (by omega), Bool.and_true, if_true]
    have b1 := edge_b h1
    have b2 := edge_b h2
    refine ⟨⟨(grid0, 0), ⟨rfl, rfl, rfl, rfl⟩, Nat.zero_le _, hV.symm⟩, fun ⟨g, i⟩ ⟨hi, hn⟩ _ _ _ _ _ => split_of (fun h4 => ?_) (fun h4 => ?_)⟩
    rotate_left
    · have h4 : ¬ ((i : Nat) : Int) < (q.2.2.length : Int) := of_decide_eq_false h4
      simp only at hi hn
      have e : q.2.2.length - i = 0 := by omega
      rw [e] at hn
      intros
      rw [← hn]
      exact ⟨rfl, rfl⟩
    have h4 : ((i : Nat) : Int) < (q.2.2.length : Int) := of_decide_eq_true h4
    simp only at hi hn
    have e1 : (((i : Nat) : Int) - 1).toNat = i - 1 := by omega
    have en : q.2.2.length - i = (q.2.2.length - (i + 1)) + 1 := by omega
    simp only [Int.toNat_natCast, e1]
    intro _
    have hst1 : slabIn q.1 q.2.1 (sAt q.2.2 i) = false → stepOk q i = false := fun r => by simp only [stepOk, r, Bool.false_and]
    have hst2 : slabIn q.1 q.2.1 (sAt q.2.2 i) = true → i = 0 → stepOk q i = true := fun r r2 => by unfold stepOk; rw [r, decide_eq_true r2]; rfl
    have hst3 : slabIn q.1 q.2.1 (sAt q.2.2 i) = true → 0 < i → stepOk q i = befS (sAt q.2.2 (i - 1)) (sAt q.2.2 i) := fun r r2 => by simp only [stepOk, r, show decide (i = 0) = false from decide_eq_false (by omega), Bool.true_and, Bool.false_or]
    have hbad : stepOk q i = false → layV q = (g, false) := fun r => by rw [← hn]; exact layAll_bad en r
    have hstop : ∀ g2, stepOk q i = true → layS i (sAt q.2.2 i) g = (g2, false) → layV q = (g2, false) := fun g2 r r2 => by rw [← hn]; exact layAll_stop en r r2
    have hgo : ∀ g2, stepOk q i = true → layS i (sAt q.2.2 i) g = (g2, true) → layAll q (q.2.2.length - (i + 1)) (i + 1) g2 = layV q := fun g2 r r2 => by rw [← hn]; exact (layAll_go en r r2).symm
    dsimp only [sAt] at hst1 hst2 hst3 hbad hstop hgo
    refine ⟨by omega, fun _ _ _ _ _ _ _ _ => ⟨_, l01Lies_ev q (q.2.2.getD i (0, 0, 0, 0)), split_of (fun h5 => ?_) (fun h5 => ?_)⟩⟩
    rotate_left
    · intros
      rw [hbad (hst1 (by simpa using h5))]; exact ⟨rfl, rfl⟩
    have h5 : slabIn q.1 q.2.1 (q.2.2.getD i (0, 0, 0, 0)) = true := by simpa using h5
    refine split_of (fun h6 => ?_) (fun h6 => ?_)
    · have h6 := of_decide_eq_true h6
      have hst3 := hst3 h5 (by omega)
      refine fun _ => ⟨by omega, by omega, fun _ _ _ _ _ _ _ _ => ⟨_, l01Before_ev _ _, split_of (fun h7 => ?_) (fun h7 => ?_)⟩⟩
      · intros
        rw [hbad (by rw [hst3]; simpa using h7)]; exact ⟨rfl, rfl⟩
      have hst : stepOk q i = true := by rw [hst3]; simpa using h7
      have hb := slabIn_b h5
      intro _
      refine ⟨⟨(g, (q.2.2.getD i (0, 0, 0, 0)).2.1), ⟨trivial, trivial, rfl, rfl⟩, Int.le_refl _, by show (q.2.2.getD i (0, 0, 0, 0)).2.1 ≤ (q.2.2.getD i (0, 0, 0, 0)).2.1 + (q.2.2.getD i (0, 0, 0, 0)).2.2.2; omega, ?_⟩, fun ⟨g1, y⟩ ⟨hy1, hy2, hB⟩ _ _ _ _ _ => ⟨by omega, split_of (fun h8 => ?_) (fun h8 => ?_)⟩⟩
      · show layBox ((i : Int) + 1) (q.2.2.getD i (0, 0, 0, 0)).1 (q.2.2.getD i (0, 0, 0, 0)).2.2.1 ((q.2.2.getD i (0, 0, 0, 0)).2.1 + (q.2.2.getD i (0, 0, 0, 0)).2.2.2 - (q.2.2.getD i (0, 0, 0, 0)).2.1).toNat (q.2.2.getD i (0, 0, 0, 0)).2.1 g = layS i (q.2.2.getD i (0, 0, 0, 0)) g
        rw [show (q.2.2.getD i (0, 0, 0, 0)).2.1 + (q.2.2.getD i (0, 0, 0, 0)).2.2.2 - (q.2.2.getD i (0, 0, 0, 0)).2.1 = (q.2.2.getD i (0, 0, 0, 0)).2.2.2 by omega]; rfl
      · have h8 : y < (q.2.2.getD i (0, 0, 0, 0)).2.1 + (q.2.2.getD i (0, 0, 0, 0)).2.2.2 := of_decide_eq_true h8
        simp only at hy1 hy2 hB
        have ey : ((q.2.2.getD i (0, 0, 0, 0)).2.1 + (q.2.2.getD i (0, 0, 0, 0)).2.2.2 - y).toNat = ((q.2.2.getD i (0, 0, 0, 0)).2.1 + (q.2.2.getD i (0, 0, 0, 0)).2.2.2 - (y + 1)).toNat + 1 := by omega
        intro _
        refine ⟨⟨(g1, (q.2.2.getD i (0, 0, 0, 0)).1), ⟨trivial, trivial, rfl, rfl⟩, Int.le_refl _, by show (q.2.2.getD i (0, 0, 0, 0)).1 ≤ (q.2.2.getD i (0, 0, 0, 0)).1 + (q.2.2.getD i (0, 0, 0, 0)).2.2.1; omega, ?_⟩, fun ⟨g2, x⟩ ⟨hx1, hx2, hR⟩ _ _ _ _ _ => ⟨by omega, split_of (fun h9 => ?_) (fun h9 => ?_)⟩⟩
        · show layRow ((i : Int) + 1) y ((q.2.2.getD i (0, 0, 0, 0)).1 + (q.2.2.getD i (0, 0, 0, 0)).2.2.1 - (q.2.2.getD i (0, 0, 0, 0)).1).toNat (q.2.2.getD i (0, 0, 0, 0)).1 g1 = layRow ((i : Int) + 1) y (q.2.2.getD i (0, 0, 0, 0)).2.2.1.toNat (q.2.2.getD i (0, 0, 0, 0)).1 g1
          rw [show (q.2.2.getD i (0, 0, 0, 0)).1 + (q.2.2.getD i (0, 0, 0, 0)).2.2.1 - (q.2.2.getD i (0, 0, 0, 0)).1 = (q.2.2.getD i (0, 0, 0, 0)).2.2.1 by omega]
        · have h9 : x < (q.2.2.getD i (0, 0, 0, 0)).1 + (q.2.2.getD i (0, 0, 0, 0)).2.2.1 := of_decide_eq_true h9
          simp only at hx1 hx2 hR
          have ex : ((q.2.2.getD i (0, 0, 0, 0)).1 + (q.2.2.getD i (0, 0, 0, 0)).2.2.1 - x).toNat = ((q.2.2.getD i (0, 0, 0, 0)).1 + (q.2.2.getD i (0, 0, 0, 0)).2.2.1 - (x + 1)).toNat + 1 := by omega
          refine ⟨by simp only; omega, by simp only; omega, fun _ => split_of (fun h10 => ?_) (fun h10 => ⟨by omega, by simp only; omega, by simp only; omega, by simp only; omega, (gset g2 x y ((i : Int) + 1), x + 1), ⟨trivial, trivial, rfl, rfl⟩, ⟨by show (q.2.2.getD i (0, 0, 0, 0)).1 ≤ x + 1; omega, by show x + 1 ≤ (q.2.2.getD i (0, 0, 0, 0)).1 + (q.2.2.getD i (0, 0, 0, 0)).2.2.1; omega, ?_⟩, by show ((q.2.2.getD i (0, 0, 0, 0)).1 + (q.2.2.getD i (0, 0, 0, 0)).2.2.1 - (x + 1)).toNat < ((q.2.2.getD i (0, 0, 0, 0)).1 + (q.2.2.getD i (0, 0, 0, 0)).2.2.1 - x).toNat; omega⟩)⟩
          · have h10 : ¬ gget g2 x y = 0 := by simpa using h10
            rw [layRow_stop ex h10] at hR
            rw [layBox_stop ey hR.symm] at hB
            intros
            rw [hstop g2 hst hB.symm]; exact ⟨rfl, rfl⟩
          · have h10 : gget g2 x y = 0 := by simpa using h10
            show layRow ((i : Int) + 1) y ((q.2.2.getD i (0, 0, 0, 0)).1 + (q.2.2.getD i (0, 0, 0, 0)).2.2.1 - (x + 1)).toNat (x + 1) (gset g2 x y ((i : Int) + 1)) = _
            rw [← hR, layRow_go ex h10]
        · have h9 : ¬ x < (q.2.2.getD i (0, 0, 0, 0)).1 + (q.2.2.getD i (0, 0, 0, 0)).2.2.1 := of_decide_eq_false h9
          simp only at hx1 hx2 hR
          rw [show ((q.2.2.getD i (0, 0, 0, 0)).1 + (q.2.2.getD i (0, 0, 0, 0)).2.2.1 - x).toNat = 0 by omega] at hR
          refine ⟨by simp only; omega, (g2, y + 1), ⟨trivial, trivial, rfl, rfl⟩, ⟨by show (q.2.2.getD i (0, 0, 0, 0)).2.1 ≤ y + 1; omega, by show y + 1 ≤ (q.2.2.getD i (0, 0, 0, 0)).2.1 + (q.2.2.getD i (0, 0, 0, 0)).2.2.2; omega, ?_⟩, by show ((q.2.2.getD i (0, 0, 0, 0)).2.1 + (q.2.2.getD i (0, 0, 0, 0)).2.2.2 - (y + 1)).toNat < ((q.2.2.getD i (0, 0, 0, 0)).2.1 + (q.2.2.getD i (0, 0, 0, 0)).2.2.2 - y).toNat; omega⟩
          show layBox ((i : Int) + 1) (q.2.2.getD i (0, 0, 0, 0)).1 (q.2.2.getD i (0, 0, 0, 0)).2.2.1 ((q.2.2.getD i (0, 0, 0, 0)).2.1 + (q.2.2.getD i (0, 0, 0, 0)).2.2.2 - (y + 1)).toNat (y + 1) g2 = layS i (q.2.2.getD i (0, 0, 0, 0)) g
          rw [← hB, layBox_go ey hR.symm]
      · have h8 : ¬ y < (q.2.2.getD i (0, 0, 0, 0)).2.1 + (q.2.2.getD i (0, 0, 0, 0)).2.2.2 := of_decide_eq_false h8
        simp only at hy1 hy2 hB
        rw [show ((q.2.2.getD i (0, 0, 0, 0)).2.1 + (q.2.2.getD i (0, 0, 0, 0)).2.2.2 - y).toNat = 0 by omega] at hB
        exact ⟨by omega, (g1, i + 1), ⟨trivial, trivial, rfl, rfl⟩, ⟨by omega, hgo g1 hst hB.symm⟩, by show q.2.2.length - (i + 1) < q.2.2.length - i; omega⟩
    · have h6 := of_decide_eq_false h6
      have hst := hst2 h5 (by omega)
      have hb := slabIn_b h5
      intro _
      refine ⟨⟨(g, (q.2.2.getD i (0, 0, 0, 0)).2.1), ⟨trivial, trivial, rfl, rfl⟩, Int.le_refl _, by show (q.2.2.getD i (0, 0, 0, 0)).2.1 ≤ (q.2.2.getD i (0, 0, 0, 0)).2.1 + (q.2.2.getD i (0, 0, 0, 0)).2.2.2; omega, ?_⟩, fun ⟨g1, y⟩ ⟨hy1, hy2, hB⟩ _ _ _ _ _ => ⟨by omega, split_of (fun h8 => ?_) (fun h8 => ?_)⟩⟩
      · show layBox ((i : Int) + 1) (q.2.2.getD i (0, 0, 0, 0)).1 (q.2.2.getD i (0, 0, 0, 0)).2.2.1 ((q.2.2.getD i (0, 0, 0, 0)).2.1 + (q.2.2.getD i (0, 0, 0, 0)).2.2.2 - (q.2.2.getD i (0, 0, 0, 0)).2.1).toNat (q.2.2.getD i (0, 0, 0, 0)).2.1 g = layS i (q.2.2.getD i (0, 0, 0, 0)) g
        rw [show (q.2.2.getD i (0, 0, 0, 0)).2.1 + (q.2.2.getD i (0, 0, 0, 0)).2.2.2 - (q.2.2.getD i (0, 0, 0, 0)).2.1 = (q.2.2.getD i (0, 0, 0, 0)).2.2.2 by omega]; rfl
      · have h8 : y < (q.2.2.getD i (0, 0, 0, 0)).2.1 + (q.2.2.getD i (0, 0, 0, 0)).2.2.2 := of_decide_eq_true h8
        simp only at hy1 hy2 hB
        have ey : ((q.2.2.getD i (0, 0, 0, 0)).2.1 + (q.2.2.getD i (0, 0, 0, 0)).2.2.2 - y).toNat = ((q.2.2.getD i (0, 0, 0, 0)).2.1 + (q.2.2.getD i (0, 0, 0, 0)).2.2.2 - (y + 1)).toNat + 1 := by omega
        intro _
        refine ⟨⟨(g1, (q.2.2.getD i (0, 0, 0, 0)).1), ⟨trivial, trivial, rfl, rfl⟩, Int.le_refl _, by show (q.2.2.getD i (0, 0, 0, 0)).1 ≤ (q.2.2.getD i (0, 0, 0, 0)).1 + (q.2.2.getD i (0, 0, 0, 0)).2.2.1; omega, ?_⟩, fun ⟨g2, x⟩ ⟨hx1, hx2, hR⟩ _ _ _ _ _ => ⟨by omega, split_of (fun h9 => ?_) (fun h9 => ?_)⟩⟩
        · show layRow ((i : Int) + 1) y ((q.2.2.getD i (0, 0, 0, 0)).1 + (q.2.2.getD i (0, 0, 0, 0)).2.2.1 - (q.2.2.getD i (0, 0, 0, 0)).1).toNat (q.2.2.getD i (0, 0, 0, 0)).1 g1 = layRow ((i : Int) + 1) y (q.2.2.getD i (0, 0, 0, 0)).2.2.1.toNat (q.2.2.getD i (0, 0, 0, 0)).1 g1
          rw [show (q.2.2.getD i (0, 0, 0, 0)).1 + (q.2.2.getD i (0, 0, 0, 0)).2.2.1 - (q.2.2.getD i (0, 0, 0, 0)).1 = (q.2.2.getD i (0, 0, 0, 0)).2.2.1 by omega]
        · have h9 : x < (q.2.2.getD i (0, 0, 0, 0)).1 + (q.2.2.getD i (0, 0, 0, 0)).2.2.1 := of_decide_eq_true h9
          simp only at hx1 hx2 hR
          have ex : ((q.2.2.getD i (0, 0, 0, 0)).1 + (q.2.2.getD i (0, 0, 0, 0)).2.2.1 - x).toNat = ((q.2.2.getD i (0, 0, 0, 0)).1 + (q.2.2.getD i (0, 0, 0, 0)).2.2.1 - (x + 1)).toNat + 1 := by omega
          refine ⟨by simp only; omega, by simp only; omega, fun _ => split_of (fun h10 => ?_) (fun h10 => ⟨by omega, by simp only; omega, by simp only; omega, by simp only; omega, (gset g2 x y ((i : Int) + 1), x + 1), ⟨trivial, trivial, rfl, rfl⟩, ⟨by show (q.2.2.getD i (0, 0, 0, 0)).1 ≤ x + 1; omega, by show x + 1 ≤ (q.2.2.getD i (0, 0, 0, 0)).1 + (q.2.2.getD i (0, 0, 0, 0)).2.2.1; omega, ?_⟩, by show ((q.2.2.getD i (0, 0, 0, 0)).1 + (q.2.2.getD i (0, 0, 0, 0)).2.2.1 - (x + 1)).toNat < ((q.2.2.getD i (0, 0, 0, 0)).1 + (q.2.2.getD i (0, 0, 0, 0)).2.2.1 - x).toNat; omega⟩)⟩
          · have h10 : ¬ gget g2 x y = 0 := by simpa using h10
            rw [layRow_stop ex h10] at hR
            rw [layBox_stop ey hR.symm] at hB
            intros
            rw [hstop g2 hst hB.symm]; exact ⟨rfl, rfl⟩
          · have h10 : gget g2 x y = 0 := by simpa using h10
            show layRow ((i : Int) + 1) y ((q.2.2.getD i (0, 0, 0, 0)).1 + (q.2.2.getD i (0, 0, 0, 0)).2.2.1 - (x + 1)).toNat (x + 1) (gset g2 x y ((i : Int) + 1)) = _
            rw [← hR, layRow_go ex h10]
        · have h9 : ¬ x < (q.2.2.getD i (0, 0, 0, 0)).1 + (q.2.2.getD i (0, 0, 0, 0)).2.2.1 := of_decide_eq_false h9
          simp only at hx1 hx2 hR
          rw [show ((q.2.2.getD i (0, 0, 0, 0)).1 + (q.2.2.getD i (0, 0, 0, 0)).2.2.1 - x).toNat = 0 by omega] at hR
          refine ⟨by simp only; omega, (g2, y + 1), ⟨trivial, trivial, rfl, rfl⟩, ⟨by show (q.2.2.getD i (0, 0, 0, 0)).2.1 ≤ y + 1; omega, by show y + 1 ≤ (q.2.2.getD i (0, 0, 0, 0)).2.1 + (q.2.2.getD i (0, 0, 0, 0)).2.2.2; omega, ?_⟩, by show ((q.2.2.getD i (0, 0, 0, 0)).2.1 + (q.2.2.getD i (0, 0, 0, 0)).2.2.2 - (y + 1)).toNat < ((q.2.2.getD i (0, 0, 0, 0)).2.1 + (q.2.2.getD i (0, 0, 0, 0)).2.2.2 - y).toNat; omega⟩
          show layBox ((i : Int) + 1) (q.2.2.getD i (0, 0, 0, 0)).1 (q.2.2.getD i (0, 0, 0, 0)).2.2.1 ((q.2.2.getD i (0, 0, 0, 0)).2.1 + (q.2.2.getD i (0, 0, 0, 0)).2.2.2 - (y + 1)).toNat (y + 1) g2 = layS i (q.2.2.getD i (0, 0, 0, 0)) g
          rw [← hB, layBox_go ey hR.symm]
      · have h8 : ¬ y < (q.2.2.getD i (0, 0, 0, 0)).2.1 + (q.2.2.getD i (0, 0, 0, 0)).2.2.2 := of_decide_eq_false h8
        simp only at hy1 hy2 hB
        rw [show ((q.2.2.getD i (0, 0, 0, 0)).2.1 + (q.2.2.getD i (0, 0, 0, 0)).2.2.2 - y).toNat = 0 by omega] at hB
        exact ⟨by omega, (g1, i + 1), ⟨trivial, trivial, rfl, rfl⟩, ⟨by omega, hgo g1 hst hB.symm⟩, by show q.2.2.length - (i + 1) < q.2.2.length - i; omega⟩
  refine @Eq.mpr _ _ (?_) key
  kernel_rfl
theorem l01Ok_ev (q : Sq) : Ev Try.prog 59 [aQp q] (compsOf [rB] ((layV q).2)) := by
  refine ev_of (l := [rB]) (r := ((layV q).2)) (types (resT) [] (fun _ _ => none)) follows Try.func59 (by kernel_rfl) (by rw [Try.ntmps59]; exact Nat.le_of_ble_eq_true rfl) ?_
  have key : (∃ (r : List (List Int) × Bool), Ev Try.prog 108 [Arg.imm (D.dat (sqT 41) q).ref] (compsOf [(false, Ty.arr 12 (Ty.arr 12 (Ty.int IntKind.i64))), (false, Ty.bool)] r) ∧ ((r.fst.length = 12 ∧ ∀ (x :
      List Int), List.Mem x r.fst → x.length = 12 ∧ ∀ (x_1 : Int), List.Mem x_1 x → inR IntKind.i64 x_1) → r.snd = (layV q).snd)) := by
    intros
    exact ⟨_, lay_ev q, by intros; rfl⟩
  refine @Eq.mpr _ _ (?_) key
  kernel_rfl
end Go.Proofs.Ytmjijggkdbiijaa
