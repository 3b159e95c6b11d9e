/- Orders of laying: the reference's first one. No statement is proved here. -/
import Derived.Test.YtmjijggkdbiijaaXa
import Derived.Test.YtmjijggkdbiijaaWm
import Derived.Test.YtmjijggkdbiijaaXe
namespace Go.Proofs.Ytmjijggkdbiijaa
open Go.RowKit
set_option linter.unusedVariables false
set_option linter.unusedSimpArgs false
set_option maxRecDepth 100000
set_option maxHeartbeats 4000000
abbrev rIs : Bool × Ty := (true, .slice 2 (.int .i64))
abbrev rIss : Bool × Ty := (true, .slice 26 (.slice 2 (.int .i64)))
def ownV (b : List Int) : List Int := b
theorem l00Own_ev (b : List Int) (hl : b.length ≤ 4294967296) : Ev Try.prog 138 [aIs b] (compsOf [rIs] (ownV b)) := by
  refine ev_of (l := [rIs]) (r := (ownV b)) (types (resT) [] (fun _ _ => none)) follows Try.func138 (by kernel_rfl) (by rw [Try.ntmps138]; exact Nat.le_of_ble_eq_true rfl) ?_
  have key : ((b.length ≤ 9223372036854775807 ∧ ∀ (x : Int), List.Mem x b → inR IntKind.i64 x) → (0 : Nat) + b.length ≤ 4294967296 ∧ [] ++ b = ownV b) := by
    intros
    exact ⟨by omega, rfl⟩
  refine @Eq.mpr _ _ (?_) key
  kernel_rfl
/-- What has been found before slab i is tried. -/
def ordI (q : Sq) (list : List Sl) (m : Nat) (b : List Int) (i : Nat) (out : List (List Int)) : Prop := i ≤ list.length ∧ ((out = [] ∧ ∀ j, j < i → goB q list m j = false) ∨ (out ≠ [] ∧ out = ordsV q list m b))
noncomputable abbrev ordInv (q : Sq) (list : List Sl) (m : Nat) (b : List Int) (r : Nat) (σ : List Slot) : Option LoopInv := match r with
  | 5 => some ⟨9 :: hvAt Try.f95 5, Nat × List (List Int), fun s => [(9, .own (.slice 26 (.slice 2 (.int .i64))) s.2), (10, .val (.dat iT (s.1 : Int)))], fun s => ordI q list m b s.1 s.2, fun s => list.length - s.1⟩
  | 70000062 => some ⟨[3, 11, 61, 62], Sq × List Int, fun z => [(62, .val (.dat iT 1)), (61, .val (.dat (.slice 2 (.int .i64)) z.2)), (11, .val (.ref (.dat (sqT 41) z.1)))], fun _ => True, fun _ => 0⟩
  | _ => none
theorem l05Orders_at (q : Sq) (list : List Sl) (m : Nat) (b : List Int) (k : OkQ (sqM q list m)) (hn : list.length ≤ 10) (h60 : q.2.2.length + list.length ≤ 60) (hm : m < 2 ^ list.length) (hb : Begun list.length m b) (ih : ∀ m' b', m < m' → m' < 2 ^ list.length → OkQ (sqM q list m') → Begun list.length m' b' → Ev Try.prog 95 [aQp (sqM q list m'), aSs list, aIs b', aI 1] (compsOf [rIss] (ordsV q list m' b'))) : Ev Try.prog 95 [aQp (sqM q list m), aSs list, aIs b, aI 1] (compsOf [rIss] (ordsV q list m b)) := by
  refine ev_of (l := [rIss]) (r := (ordsV q list m b)) (types (resT) [70000062] (ordInv q list m b)) follows Try.func95 (by kernel_rfl) (by rw [Try.ntmps95]; exact Nat.le_of_ble_eq_true rfl) ?_
  have key : ((list.length ≤ 9223372036854775807 ∧ ∀ (x : Int × Int × Int × Int), List.Mem x list → inR IntKind.i8 x.fst ∧ inR IntKind.i8 x.snd.fst ∧ inR IntKind.i8 x.snd.snd.fst ∧ inR IntKind.i8
      x.snd.snd.snd) → (b.length ≤ 9223372036854775807 ∧ ∀ (x : Int), List.Mem x b → inR IntKind.i64 x) → inR IntKind.i64 1 → ((b.length : Nat) : Int) ≤ 9223372036854775807 → ((list.length : Nat) :
      Int) ≤ 9223372036854775807 → split (decide (((b.length : Nat) : Int) = ((list.length : Nat) : Int))) (∃ (r : List Int), Ev Try.prog 138 [Arg.imm (D.dat (Ty.slice 2 (Ty.int IntKind.i64)) b)]
      (compsOf [(true, Ty.slice 2 (Ty.int IntKind.i64))] r) ∧ ((r.length ≤ 9223372036854775807 ∧ ∀ (x : Int), List.Mem x r → inR IntKind.i64 x) → [r] = ordsV q list m b)) ((∃ (x0 : Nat × List (List
      Int)), (Slot.own (Ty.slice 26 (Ty.slice 2 (Ty.int IntKind.i64))) [] = Slot.own (Ty.slice 26 (Ty.slice 2 (Ty.int IntKind.i64))) x0.snd ∧ Slot.val (D.dat (Ty.int IntKind.i64) 0) = Slot.val
      (D.dat iT ((x0.fst : Nat) : Int))) ∧ ordI q list m b x0.fst x0.snd) ∧ ∀ (x : Nat × List (List Int)), ordI q list m b x.fst x.snd → (x.snd.length ≤ 9223372036854775807 ∧ ∀ (x_1 : List Int),
      List.Mem x_1 x.snd → x_1.length ≤ 9223372036854775807 ∧ ∀ (x : Int), List.Mem x x_1 → inR IntKind.i64 x) → inR IntKind.i64 ((x.fst : Nat) : Int) → ((list.length : Nat) : Int) ≤
      9223372036854775807 → split (decide (((x.fst : Nat) : Int) < ((list.length : Nat) : Int))) (((x.snd.length : Nat) : Int) ≤ 9223372036854775807 → split (decide (((x.snd.length : Nat) : Int) <
      1)) (∃ (r : Bool), Ev Try.prog 98 [Arg.imm (D.dat (Ty.slice 2 (Ty.int IntKind.i64)) b), Arg.imm (D.dat iT ((x.fst : Nat) : Int))] (compsOf [(false, Ty.bool)] r) ∧ split (!r) ((0 ≤ ((x.fst :
      Nat) : Int) ∧ ((x.fst : Nat) : Int) < ((list.length : Nat) : Int)) ∧ (inR IntKind.i8 (list.getD (((x.fst : Nat) : Int)).toNat (0, 0, 0, 0)).fst → inR IntKind.i8 (list.getD (((x.fst : Nat) :
      Int)).toNat (0, 0, 0, 0)).snd.fst → inR IntKind.i8 (list.getD (((x.fst : Nat) : Int)).toNat (0, 0, 0, 0)).snd.snd.fst → inR IntKind.i8 (list.getD (((x.fst : Nat) : Int)).toNat (0, 0, 0,
      0)).snd.snd.snd → ∃ (r_1 : Bool), Ev Try.prog 60 [Arg.imm (D.dat (sqT 41) (sqM q list m)).ref, Arg.imm (D.dat slabT (list.getD (((x.fst : Nat) : Int)).toNat (0, 0, 0, 0)))] (compsOf [(false,
      Ty.bool)] r_1) ∧ split (!r_1) ((-9223372036854775808 ≤ ((x.fst : Nat) : Int) + 1 ∧ ((x.fst : Nat) : Int) + 1 ≤ 9223372036854775807) ∧ ∃ (x' : Nat × List (List Int)), (Slot.own (Ty.slice 26
      (Ty.slice 2 (Ty.int IntKind.i64))) x.snd = Slot.own (Ty.slice 26 (Ty.slice 2 (Ty.int IntKind.i64))) x'.snd ∧ Slot.val (D.dat (Ty.int IntKind.i64) (((x.fst : Nat) : Int) + 1)) = Slot.val
      (D.dat iT ((x'.fst : Nat) : Int))) ∧ ordI q list m b x'.fst x'.snd ∧ list.length - x'.fst < list.length - x.fst) ((0 ≤ ((x.fst : Nat) : Int) ∧ ((x.fst : Nat) : Int) < ((list.length : Nat) :
      Int)) ∧ (inR IntKind.i8 (list.getD (((x.fst : Nat) : Int)).toNat (0, 0, 0, 0)).fst → inR IntKind.i8 (list.getD (((x.fst : Nat) : Int)).toNat (0, 0, 0, 0)).snd.fst → inR IntKind.i8 (list.getD
      (((x.fst : Nat) : Int)).toNat (0, 0, 0, 0)).snd.snd.fst → inR IntKind.i8 (list.getD (((x.fst : Nat) : Int)).toNat (0, 0, 0, 0)).snd.snd.snd → ∃ (r_2 : Int × Int × List (Int × Int × Int ×
      Int)), Ev Try.prog 103 [Arg.imm (D.dat (sqT 41) (sqM q list m)).ref, Arg.imm (D.dat slabT (list.getD (((x.fst : Nat) : Int)).toNat (0, 0, 0, 0)))] (compsOf [(true, (Ty.int IntKind.i8).prod
      ((Ty.int IntKind.i8).prod (Ty.slice 41 ((Ty.int IntKind.i8).prod ((Ty.int IntKind.i8).prod ((Ty.int IntKind.i8).prod (Ty.int IntKind.i8)))))))] r_2) ∧ (inR IntKind.i8 r_2.fst → inR IntKind.i8
      r_2.snd.fst → (r_2.snd.snd.length ≤ 9223372036854775807 ∧ ∀ (x : Int × Int × Int × Int), List.Mem x r_2.snd.snd → inR IntKind.i8 x.fst ∧ inR IntKind.i8 x.snd.fst ∧ inR IntKind.i8
      x.snd.snd.fst ∧ inR IntKind.i8 x.snd.snd.snd) → ∃ (r_3 : List Int), Ev Try.prog 138 [Arg.imm (D.dat (Ty.slice 2 (Ty.int IntKind.i64)) b)] (compsOf [(true, Ty.slice 2 (Ty.int IntKind.i64))]
      r_3) ∧ ((r_3.length ≤ 9223372036854775807 ∧ ∀ (x : Int), List.Mem x r_3 → inR IntKind.i64 x) → r_3.length + [((x.fst : Nat) : Int)].length ≤ 4294967296 ∧ ∃ (x_1 : (Int × Int × List (Int × Int
      × Int × Int)) × List Int), True ∧ Cust Try.prog [55, 56, 57, 59, 62, 70000062] { dst := some 62, op := Op.move (Operand.tmp 3), type := 3, pos := "l05_lifting.go:276", after := #[], guard := none }
      [3, 11, 61, 62] [Slot.val (D.dat (sqT 41) (sqM q list m)).ref, Slot.val (D.dat (Ty.slice 41 slabT) list), Slot.val (D.dat (Ty.slice 2 (Ty.int IntKind.i64)) b), Slot.val (D.dat (Ty.int
      IntKind.i64) 1), Slot.dead, Slot.dead, Slot.dead, Slot.dead, Slot.own (Ty.slice 26 (Ty.slice 2 (Ty.int IntKind.i64))) [], Slot.own (Ty.slice 26 (Ty.slice 2 (Ty.int IntKind.i64))) x.snd,
      Slot.val (D.dat iT ((x.fst : Nat) : Int)), Slot.boxo (sqT 41) r_2, Slot.val (D.dat (Ty.slice 2 (Ty.int IntKind.i64)) b), Slot.val (D.dat (Ty.int IntKind.i64) ((b.length : Nat) : Int)),
      Slot.val (D.dat (Ty.slice 41 slabT) list), Slot.val (D.dat (Ty.int IntKind.i64) ((list.length : Nat) : Int)), Slot.val (D.dat Ty.bool false), Slot.dead, Slot.dead, Slot.dead, Slot.dead,
      Slot.val (D.dat iT ((x.fst : Nat) : Int)), Slot.val (D.dat (Ty.slice 41 slabT) list), Slot.val (D.dat (Ty.int IntKind.i64) ((list.length : Nat) : Int)), Slot.val (D.dat Ty.bool (decide
      (((x.fst : Nat) : Int) < ((list.length : Nat) : Int)))), Slot.val (D.dat Ty.bool true), Slot.val (D.dat (Ty.int IntKind.i64) 1), Slot.val (D.dat Ty.bool (decide ((1 : Int) = 0))), Slot.val
      (D.dat Ty.bool false), Slot.dead, Slot.val (D.dat (Ty.int IntKind.i64) ((x.snd.length : Nat) : Int)), Slot.val (D.dat (Ty.int IntKind.i64) 1), Slot.val (D.dat Ty.bool (decide (((x.snd.length
      : Nat) : Int) < 1))), Slot.val (D.dat Ty.bool (decide (((x.snd.length : Nat) : Int) < 1))), Slot.val (D.dat Ty.bool true), Slot.dead, Slot.dead, Slot.val (D.dat (Ty.slice 2 (Ty.int
      IntKind.i64)) b), Slot.val (D.dat iT ((x.fst : Nat) : Int)), Slot.val (D.dat Ty.bool r), Slot.val (D.dat Ty.bool false), Slot.val (D.dat (sqT 41) (sqM q list m)).ref, Slot.val (D.dat
      (Ty.slice 41 slabT) list), Slot.val (D.dat iT ((x.fst : Nat) : Int)), Slot.dead, Slot.val (D.dat slabT (list.getD (((x.fst : Nat) : Int)).toNat (0, 0, 0, 0))), Slot.val (D.dat Ty.bool r_1),
      Slot.val (D.dat Ty.bool !r_1), Slot.val (D.dat Ty.bool false), Slot.val (D.dat (sqT 41) (sqM q list m)).ref, Slot.val (D.dat (Ty.slice 41 slabT) list), Slot.val (D.dat iT ((x.fst : Nat) :
      Int)), Slot.dead, Slot.val (D.dat slabT (list.getD (((x.fst : Nat) : Int)).toNat (0, 0, 0, 0))), Slot.dead, Slot.frm 9 [], Slot.val (D.dat (Ty.slice 41 slabT) list), Slot.val (D.dat (Ty.slice
      2 (Ty.int IntKind.i64)) b), Slot.dead, Slot.val (D.dat iT ((x.fst : Nat) : Int)), Slot.own (Ty.slice 2 (Ty.int IntKind.i64)) [((x.fst : Nat) : Int)], Slot.own (Ty.slice 2 (Ty.int
      IntKind.i64)) (r_3 ++ [((x.fst : Nat) : Int)]), Slot.dead, Slot.dead, Slot.dead, Slot.dead] [(62, Slot.val (D.dat iT 1)), (61, Slot.val (D.dat (Ty.slice 2 (Ty.int IntKind.i64)) x_1.snd)),
      (11, Slot.val (D.dat (sqT 41) x_1.fst).ref)] ∧ ∃ (r : List (List Int)), Ev Try.prog 95 [Arg.imm (D.dat (sqT 41) x_1.fst).ref, Arg.imm (D.dat (Ty.slice 41 slabT) list), Arg.imm (D.dat
      (Ty.slice 2 (Ty.int IntKind.i64)) x_1.snd), Arg.imm (D.dat iT 1)] (compsOf [(true, Ty.slice 26 (Ty.slice 2 (Ty.int IntKind.i64)))] r) ∧ ((r.length ≤ 9223372036854775807 ∧ ∀ (x : List Int),
      List.Mem x r → x.length ≤ 9223372036854775807 ∧ ∀ (x_2 : Int), List.Mem x_2 x → inR IntKind.i64 x_2) → x.snd.length + r.length ≤ 4294967296 ∧ (-9223372036854775808 ≤ ((x.fst : Nat) : Int) + 1
      ∧ ((x.fst : Nat) : Int) + 1 ≤ 9223372036854775807) ∧ ∃ (x' : Nat × List (List Int)), (Slot.own (Ty.slice 26 (Ty.slice 2 (Ty.int IntKind.i64))) (x.snd ++ r) = Slot.own (Ty.slice 26 (Ty.slice 2
      (Ty.int IntKind.i64))) x'.snd ∧ Slot.val (D.dat (Ty.int IntKind.i64) (((x.fst : Nat) : Int) + 1)) = Slot.val (D.dat iT ((x'.fst : Nat) : Int))) ∧ ordI q list m b x'.fst x'.snd ∧ list.length -
      x'.fst < list.length - x.fst))))))) ((-9223372036854775808 ≤ ((x.fst : Nat) : Int) + 1 ∧ ((x.fst : Nat) : Int) + 1 ≤ 9223372036854775807) ∧ ∃ (x' : Nat × List (List Int)), (Slot.own (Ty.slice
      26 (Ty.slice 2 (Ty.int IntKind.i64))) x.snd = Slot.own (Ty.slice 26 (Ty.slice 2 (Ty.int IntKind.i64))) x'.snd ∧ Slot.val (D.dat (Ty.int IntKind.i64) (((x.fst : Nat) : Int) + 1)) = Slot.val
      (D.dat iT ((x'.fst : Nat) : Int))) ∧ ordI q list m b x'.fst x'.snd ∧ list.length - x'.fst < list.length - x.fst)) (x.snd = ordsV q list m b)) (x.snd = ordsV q list m b))) := by
    intros
    refine split_of (fun h => ?_) (fun h => ?_)
    · have h := of_decide_eq_true h
      refine ⟨_, l00Own_ev b (by have := hb.len; have := bits_le list.length m; omega), fun _ => ?_⟩
      have hl := hb.len
      have hf : m = 2 ^ list.length - 1 := full_of hm (by omega)
      rw [ords_full q list hf b]; rfl
    · have h := of_decide_eq_false h
      have hf : m ≠ 2 ^ list.length - 1 := fun e => h (by rw [hb.len, e, bits_len_full])
      refine ⟨⟨(0, []), ⟨rfl, rfl⟩, Nat.zero_le _, .inl ⟨rfl, fun j hj => absurd hj (Nat.not_lt_zero _)⟩⟩, fun s hs => ?_⟩
      obtain ⟨i, out⟩ := s
      obtain ⟨hi, ho⟩ := hs
      simp only at hi ho
      intros
      refine split_of (fun h1 => ?_) (fun h1 => ?_)
      · have g1 : i < list.length := by have := of_decide_eq_true h1; simp only at this; omega
        intros
        refine split_of (fun h2 => ?_) (fun h2 => ?_)
        · have h2 := of_decide_eq_true h2
          obtain ⟨rfl, h0⟩ := ho.resolve_right (fun z => z.1 (List.eq_nil_of_length_eq_zero (by simp only at h2; omega)))
          have go : goB q list m i = false → ordI q list m b (i + 1) [] := fun z => ⟨by omega, .inl ⟨rfl, fun j hj => by
            by_cases e : j = i
            · subst e; exact z
            · exact h0 j (by omega)⟩⟩
          refine ⟨_, l00Has_ev b _, ?_⟩
          simp only [hb.mem i g1]
          refine split_of (fun h3 => ?_) (fun h3 => ?_)
          · have h3 : m.testBit i = false := by simpa using h3
            refine ⟨⟨by omega, by omega⟩, ?_⟩
            simp only [Int.toNat_natCast]
            intros
            refine ⟨_, l05Can_ev _ _ k, ?_⟩
            refine split_of (fun h4 => ?_) (fun h4 => ?_)
            · have h4 : canLayB (sqM q list m) (sAt list i) = false := by simpa using h4
              have h5 : mayB q list m i = false := h4
              exact ⟨by omega, (i + 1, []), ⟨rfl, by simp⟩, go (by simp [goB, h5]), by simp only; omega⟩
            · have h4 : canLayB (sqM q list m) (sAt list i) = true := by simpa using h4
              obtain ⟨e1, e2⟩ := sqM_ok k h60 h4 g1 h3
              refine ⟨⟨by omega, by omega⟩, ?_⟩
              intros
              refine ⟨_, l01Put_ev _ _ (by have := sqM_room h60 g1 h3; omega), ?_⟩
              rw [l01Put_is k, sqM_put k (canLay_put h4) g1 h3]
              intros
              have hbl := hb.len
              have hbl2 := bits_le list.length m
              refine ⟨_, l00Own_ev b (by have := hb.len; have := bits_le list.length m; omega), fun _ => ⟨by simp only [ownV, List.length_cons, List.length_nil]; omega, ?_⟩⟩
              refine ⟨(sqM q list (m ||| 2 ^ i), b ++ [(i : Int)]), trivial, cust_frzR (ws := [(62, _), (61, _)]) (cust_frzR (ws := [(62, _)]) (cust_ev (types resT [70000062] (ordInv q list m b)) (pre := []) (fact := []) rfl trivial rfl rfl) (by decide) (by simp) (.own _ _)) (by decide) (by simp) (.boxo _ _), ?_⟩
              refine ⟨_, ih (m ||| 2 ^ i) (b ++ [(i : Int)]) (or_gt h3) (or_lt hm g1) e2 (begun_put hb g1 h3), fun _ => ?_⟩
              have hol := ords_len q list (m ||| 2 ^ i) (b ++ [(i : Int)])
              refine ⟨by simp only [List.length_nil]; omega, by omega, ?_⟩
              by_cases hp : 0 < nWays q list (m ||| 2 ^ i)
              · refine ⟨(i + 1, ordsV q list (m ||| 2 ^ i) (b ++ [(i : Int)])), ⟨rfl, by simp⟩, ⟨by simp only; omega, .inr ⟨?_, ?_⟩⟩, by simp only; omega⟩
                · unfold ordsV; rw [if_pos hp]; simp
                · exact (ords_step hm hf g1 (goB_iff.2 ⟨h3, h4, hp⟩) h0 b).symm
              · have e0 : ordsV q list (m ||| 2 ^ i) (b ++ [(i : Int)]) = [] := if_neg hp
                rw [e0]
                exact ⟨(i + 1, []), ⟨rfl, by simp⟩, go (by simp [goB, hp]), by simp only; omega⟩
          · have h3 : m.testBit i = true := by simpa using h3
            exact ⟨by omega, (i + 1, []), ⟨rfl, by simp⟩, go (by simp [goB, h3]), by simp only; omega⟩
        · have h2 := of_decide_eq_false h2
          exact (ho.resolve_left (fun z => h2 (by rw [z.1]; simp))).2
      · have h1 : ¬ i < list.length := by have := of_decide_eq_false h1; omega
        rcases ho with ⟨e, h0⟩ | ho
        · rw [e, ords_none hm hf (fun j hj => h0 j (by omega))]
        · exact ho.2
  refine @Eq.mpr _ _ (?_) key
  kernel_rfl
theorem l05Orders_ev (q : Sq) (list : List Sl) (hn : list.length ≤ 10) (h60 : q.2.2.length + list.length ≤ 60) : ∀ (d m : Nat) (b : List Int), 2 ^ list.length - m ≤ d → m < 2 ^ list.length → OkQ (sqM q list m) → Begun list.length m b →
    Ev Try.prog 95 [aQp (sqM q list m), aSs list, aIs b, aI 1] (compsOf [rIss] (ordsV q list m b))
  | 0, m, b, hd, hm, k, hb => by omega
  | d + 1, m, b, hd, hm, k, hb => l05Orders_at q list m b k hn h60 hm hb fun m' b' h1 h2 h3 h4 => l05Orders_ev q list hn h60 d m' b' (by omega) h2 h3 h4
abbrev resW (n : Nat) : Option (List (Bool × Ty)) := if n = 48 then some [(false, .slice 2 (.int .i64)), rI] else resT n
noncomputable abbrev frzInv (r : Nat) (σ : List Slot) : Option LoopInv := match r with
  | 70000015 => some ⟨[2, 15], Sq, fun z => [(15, .own (.slice 2 (.int .i64)) []), (15, .val (.dat (.slice 2 (.int .i64)) [])), (2, .val (.ref (.dat (sqT 41) z)))], fun _ => True, fun _ => 0⟩
  | _ => none
theorem specOrder_ev (q : Sq) (list : List Sl) : Ev Try.prog 48 [aQ q, aSs list] (compsOf [(false, .slice 2 (.int .i64)), rI] (firstV q list)) := by
  refine ev_of (l := [(false, .slice 2 (.int .i64)), rI]) (r := (firstV q list)) (types (resT) [70000015] (frzInv)) follows Try.func48 (by kernel_rfl) (by rw [Try.ntmps48]; exact Nat.le_of_ble_eq_true rfl) ?_
  have key : (inR IntKind.i8 q.fst → inR IntKind.i8 q.snd.fst → (q.snd.snd.length ≤ 9223372036854775807 ∧ ∀ (x : Int × Int × Int × Int), List.Mem x q.snd.snd → inR IntKind.i8 x.fst ∧ inR IntKind.i8
      x.snd.fst ∧ inR IntKind.i8 x.snd.snd.fst ∧ inR IntKind.i8 x.snd.snd.snd) → (list.length ≤ 9223372036854775807 ∧ ∀ (x : Int × Int × Int × Int), List.Mem x list → inR IntKind.i8 x.fst ∧ inR
      IntKind.i8 x.snd.fst ∧ inR IntKind.i8 x.snd.snd.fst ∧ inR IntKind.i8 x.snd.snd.snd) → ∃ (r : Int), Ev Try.prog 90 [Arg.imm (D.dat (sqT 41) q).ref, Arg.imm (D.dat (Ty.slice 41 slabT) list)]
      (compsOf [(false, Ty.int IntKind.i64)] r) ∧ (inR IntKind.i64 r → split (!decide (r = 0)) ([] = (firstV q list).fst ∧ r = (firstV q list).snd) (∃ (x : Int × Int × List (Int × Int × Int ×
      Int)), True ∧ Cust Try.prog [14, 70000015] { dst := some 15, op := Op.buildSlice 26 0 #[], type := 26, pos := "l05_lifting.go:296", after := #[], guard := none } [2, 15] [Slot.val (D.dat (sqT
      41) q), Slot.val (D.dat (Ty.slice 41 slabT) list), Slot.box (D.dat (sqT 41) q), Slot.dead, Slot.own (Ty.slice 2 (Ty.int IntKind.i64)) [], Slot.val (D.dat (Ty.int IntKind.i64) 0), Slot.val
      (D.dat (Ty.int IntKind.i64) r), Slot.dead, Slot.val (D.dat (Ty.slice 41 slabT) list), Slot.val (D.dat (Ty.int IntKind.i64) r), Slot.val (D.dat (Ty.int IntKind.i64) r), Slot.val (D.dat Ty.bool
      false), Slot.dead, Slot.dead, Slot.val (D.dat (Ty.slice 41 slabT) list), Slot.dead, Slot.dead, Slot.dead, Slot.dead, Slot.dead, Slot.dead, Slot.dead, Slot.dead, Slot.dead] [(15, Slot.own
      (Ty.slice 2 (Ty.int IntKind.i64)) []), (15, Slot.val (D.dat (Ty.slice 2 (Ty.int IntKind.i64)) [])), (2, Slot.val (D.dat (sqT 41) x).ref)] ∧ ∃ (r : List (List Int)), Ev Try.prog 95 [Arg.imm
      (D.dat (sqT 41) x).ref, Arg.imm (D.dat (Ty.slice 41 slabT) list), Arg.imm (D.dat (Ty.slice 2 (Ty.int IntKind.i64)) []), Arg.imm (D.dat (Ty.int IntKind.i64) 1)] (compsOf [(true, Ty.slice 26
      (Ty.slice 2 (Ty.int IntKind.i64)))] r) ∧ ((r.length ≤ 9223372036854775807 ∧ ∀ (x : List Int), List.Mem x r → x.length ≤ 9223372036854775807 ∧ ∀ (x_1 : Int), List.Mem x_1 x → inR IntKind.i64
      x_1) → ((r.length : Nat) : Int) ≤ 9223372036854775807 → split (decide (((r.length : Nat) : Int) = 0)) ([] = (firstV q list).fst ∧ 6 = (firstV q list).snd) (((0 : Int) ≤ 0 ∧ 0 < ((r.length :
      Nat) : Int)) ∧ (((r.getD (Int.toNat 0) []).length ≤ 9223372036854775807 ∧ ∀ (x : Int), List.Mem x (r.getD (Int.toNat 0) []) → inR IntKind.i64 x) → r.getD (Int.toNat 0) [] = (firstV q
      list).fst ∧ 0 = (firstV q list).snd)))))) := by
    intros
    refine ⟨_, l05Laid_ev q list, ?_⟩
    intros
    refine split_of (fun h => ?_) (fun h => ?_)
    · have h : layC q list ≠ 0 := by simpa using h
      unfold firstV; rw [if_neg h]; exact ⟨rfl, rfl⟩
    · have h : layC q list = 0 := by simpa using h
      obtain ⟨k, hn, h60⟩ := layC_ok h
      have hp : 0 < 2 ^ list.length := Nat.pow_pos (by omega)
      have hs := l05Orders_ev q list hn h60 _ 0 [] (Nat.le_refl _) hp (by rw [sqM_0 k]; exact k) (begun_0 _)
      rw [sqM_0 k] at hs
      refine ⟨q, trivial, cust_frzR (ws := [(15, _), (15, _)]) (cust_frzL (ws := []) (cust_ev (types resT [70000015] frzInv) (pre := []) (fact := []) rfl trivial rfl rfl) (.own _ _)) (by decide) (by simp) (.box _ _), _, hs, ?_⟩
      have e : ordsV q list 0 [] = if 0 < nWays q list 0 then [ordV q list 0] else [] := by unfold ordsV; rw [List.nil_append]
      unfold firstV
      rw [if_pos h, e]
      intros
      by_cases hw : 0 < nWays q list 0
      · rw [if_pos hw, if_pos hw]
        exact split_of (fun h => absurd (of_decide_eq_true h) (by simp)) (fun _ => ⟨⟨by omega, by simp⟩, fun _ => ⟨rfl, rfl⟩⟩)
      · rw [if_neg hw, if_neg hw]
        exact split_of (fun _ => ⟨rfl, rfl⟩) (fun h => absurd (of_decide_eq_false h) (by simp))
  refine @Eq.mpr _ _ (?_) key
  kernel_rfl
end Go.Proofs.Ytmjijggkdbiijaa
