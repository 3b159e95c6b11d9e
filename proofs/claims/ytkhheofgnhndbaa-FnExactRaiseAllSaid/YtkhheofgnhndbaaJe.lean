/- The law on grounds that are raised. No statement is proved here. -/
import Derived.Test.YtkhheofgnhndbaaJd
namespace Go.Proofs.Ytkhheofgnhndbaa
open Go.RowKit
set_option linter.unusedVariables false
set_option linter.unusedSimpArgs false
set_option maxRecDepth 100000
set_option maxHeartbeats 4000000
theorem sz_pos {n : Nat} (h : ¬ szI n 1048576 < 0) : n ≤ 1048576 := by
  unfold szI at h
  split at h <;> omega
theorem raiseV_len (g : G) (n : Int) : (raiseV g n).1.2.2.2.length ≤ 8 := by
  unfold raiseV
  split
  · rename_i h
    have k := okG_iff.1 h
    split
    · split
      · exact k.n
      · simp [zeroG]
    · simp [zeroG]
  · simp [zeroG]
theorem lawRaise_ev (g : G) (n : Int) : Ev Try.prog 6 [aG0 g, aI n] (compsOf [rB] (true)) := by
  refine ev_of (l := [rB]) (r := (true)) (types (resT) [] (fun _ _ => none)) follows Try.func6 (by kernel_rfl) (by rw [Try.ntmps6]; exact Nat.le_of_ble_eq_true rfl) ?_
  have key : (inR IntKind.i8 g.fst → inR IntKind.i8 g.snd.fst → (g.snd.snd.fst.length = 9 ∧ ∀ (x : List Int), List.Mem x g.snd.snd.fst → x.length = 9 ∧ ∀ (x_1 : Int), List.Mem x_1 x → inR IntKind.i16 x_1) →
      (g.snd.snd.snd.length ≤ 9223372036854775807 ∧ ∀ (x : Int × Int), List.Mem x g.snd.snd.snd → inR IntKind.i8 x.fst ∧ inR IntKind.i8 x.snd) → inR IntKind.i64 n → inR IntKind.i8 g.fst → inR IntKind.i8
      g.snd.fst → (g.snd.snd.fst.length = 9 ∧ ∀ (x : List Int), List.Mem x g.snd.snd.fst → x.length = 9 ∧ ∀ (x_1 : Int), List.Mem x_1 x → inR IntKind.i16 x_1) → (g.snd.snd.snd.length ≤ 9223372036854775807
      ∧ ∀ (x : Int × Int), List.Mem x g.snd.snd.snd → inR IntKind.i8 x.fst ∧ inR IntKind.i8 x.snd) → ∃ (r : Int), Ev Try.prog 14 [Arg.imm (D.dat (groundT 48) g), Arg.imm (D.dat (Ty.int IntKind.i64)
      1048576)] (compsOf [(false, Ty.int IntKind.i64)] r) ∧ (inR IntKind.i64 r → split (decide (r < 0)) (true = true) (inR IntKind.i8 g.fst → inR IntKind.i8 g.snd.fst → (g.snd.snd.fst.length = 9 ∧ ∀ (x :
      List Int), List.Mem x g.snd.snd.fst → x.length = 9 ∧ ∀ (x_1 : Int), List.Mem x_1 x → inR IntKind.i16 x_1) → (g.snd.snd.snd.length ≤ 9223372036854775807 ∧ ∀ (x : Int × Int), List.Mem x g.snd.snd.snd →
      inR IntKind.i8 x.fst ∧ inR IntKind.i8 x.snd) → ∃ (r : Int × Int × List (List Int) × List (Int × Int)), Ev Try.prog 16 [Arg.imm (D.dat (groundT 48) g)] (compsOf [(true, (Ty.int IntKind.i8).prod
      ((Ty.int IntKind.i8).prod ((Ty.arr 9 (Ty.arr 9 (Ty.int IntKind.i16))).prod (Ty.slice 40 ((Ty.int IntKind.i8).prod (Ty.int IntKind.i8))))))] r) ∧ (inR IntKind.i8 r.fst → inR IntKind.i8 r.snd.fst →
      (r.snd.snd.fst.length = 9 ∧ ∀ (x : List Int), List.Mem x r.snd.snd.fst → x.length = 9 ∧ ∀ (x_1 : Int), List.Mem x_1 x → inR IntKind.i16 x_1) → (r.snd.snd.snd.length ≤ 9223372036854775807 ∧ ∀ (x : Int
      × Int), List.Mem x r.snd.snd.snd → inR IntKind.i8 x.fst ∧ inR IntKind.i8 x.snd) → ∃ (r_1 : (Int × Int × List (List Int) × List (Int × Int)) × Int), Ev Try.prog 24 [Arg.imm (D.dat (groundT 40) r),
      Arg.imm (D.dat (Ty.int IntKind.i64) n)] (compsOf [(true, (Ty.int IntKind.i8).prod ((Ty.int IntKind.i8).prod ((Ty.arr 9 (Ty.arr 9 (Ty.int IntKind.i16))).prod (Ty.slice 40 ((Ty.int IntKind.i8).prod
      (Ty.int IntKind.i8)))))), (false, Ty.int IntKind.i64)] r_1) ∧ (inR IntKind.i8 r_1.fst.fst → inR IntKind.i8 r_1.fst.snd.fst → (r_1.fst.snd.snd.fst.length = 9 ∧ ∀ (x : List Int), List.Mem x
      r_1.fst.snd.snd.fst → x.length = 9 ∧ ∀ (x_1 : Int), List.Mem x_1 x → inR IntKind.i16 x_1) → (r_1.fst.snd.snd.snd.length ≤ 9223372036854775807 ∧ ∀ (x : Int × Int), List.Mem x r_1.fst.snd.snd.snd → inR
      IntKind.i8 x.fst ∧ inR IntKind.i8 x.snd) → inR IntKind.i64 r_1.snd → inR IntKind.i8 g.fst → inR IntKind.i8 g.snd.fst → (g.snd.snd.fst.length = 9 ∧ ∀ (x : List Int), List.Mem x g.snd.snd.fst →
      x.length = 9 ∧ ∀ (x_1 : Int), List.Mem x_1 x → inR IntKind.i16 x_1) → (g.snd.snd.snd.length ≤ 9223372036854775807 ∧ ∀ (x : Int × Int), List.Mem x g.snd.snd.snd → inR IntKind.i8 x.fst ∧ inR IntKind.i8
      x.snd) → ∃ (r : Int × Int × List (List Int) × List (Int × Int)), Ev Try.prog 16 [Arg.imm (D.dat (groundT 48) g)] (compsOf [(true, (Ty.int IntKind.i8).prod ((Ty.int IntKind.i8).prod ((Ty.arr 9 (Ty.arr
      9 (Ty.int IntKind.i16))).prod (Ty.slice 40 ((Ty.int IntKind.i8).prod (Ty.int IntKind.i8))))))] r) ∧ (inR IntKind.i8 r.fst → inR IntKind.i8 r.snd.fst → (r.snd.snd.fst.length = 9 ∧ ∀ (x : List Int),
      List.Mem x r.snd.snd.fst → x.length = 9 ∧ ∀ (x_1 : Int), List.Mem x_1 x → inR IntKind.i16 x_1) → (r.snd.snd.snd.length ≤ 9223372036854775807 ∧ ∀ (x : Int × Int), List.Mem x r.snd.snd.snd → inR
      IntKind.i8 x.fst ∧ inR IntKind.i8 x.snd) → inR IntKind.i8 r.fst → inR IntKind.i8 r.snd.fst → (r.snd.snd.fst.length = 9 ∧ ∀ (x : List Int), List.Mem x r.snd.snd.fst → x.length = 9 ∧ ∀ (x_1 : Int),
      List.Mem x_1 x → inR IntKind.i16 x_1) → (r.snd.snd.snd.length ≤ 9223372036854775807 ∧ ∀ (x : Int × Int), List.Mem x r.snd.snd.snd → inR IntKind.i8 x.fst ∧ inR IntKind.i8 x.snd) → ∃ (r_2 : (Int × Int
      × List (List Int) × List (Int × Int)) × Int), Ev Try.prog 25 [Arg.imm (D.dat (groundT 40) r), Arg.imm (D.dat (Ty.int IntKind.i64) n)] (compsOf [(true, (Ty.int IntKind.i8).prod ((Ty.int
      IntKind.i8).prod ((Ty.arr 9 (Ty.arr 9 (Ty.int IntKind.i16))).prod (Ty.slice 40 ((Ty.int IntKind.i8).prod (Ty.int IntKind.i8)))))), (false, Ty.int IntKind.i64)] r_2) ∧ (inR IntKind.i8 r_2.fst.fst →
      inR IntKind.i8 r_2.fst.snd.fst → (r_2.fst.snd.snd.fst.length = 9 ∧ ∀ (x : List Int), List.Mem x r_2.fst.snd.snd.fst → x.length = 9 ∧ ∀ (x_1 : Int), List.Mem x_1 x → inR IntKind.i16 x_1) →
      (r_2.fst.snd.snd.snd.length ≤ 9223372036854775807 ∧ ∀ (x : Int × Int), List.Mem x r_2.fst.snd.snd.snd → inR IntKind.i8 x.fst ∧ inR IntKind.i8 x.snd) → inR IntKind.i64 r_2.snd → inR IntKind.i8
      r_2.fst.fst → inR IntKind.i8 r_2.fst.snd.fst → (r_2.fst.snd.snd.fst.length = 9 ∧ ∀ (x : List Int), List.Mem x r_2.fst.snd.snd.fst → x.length = 9 ∧ ∀ (x_1 : Int), List.Mem x_1 x → inR IntKind.i16 x_1)
      → (r_2.fst.snd.snd.snd.length ≤ 9223372036854775807 ∧ ∀ (x : Int × Int), List.Mem x r_2.fst.snd.snd.snd → inR IntKind.i8 x.fst ∧ inR IntKind.i8 x.snd) → inR IntKind.i8 r_1.fst.fst → inR IntKind.i8
      r_1.fst.snd.fst → (r_1.fst.snd.snd.fst.length = 9 ∧ ∀ (x : List Int), List.Mem x r_1.fst.snd.snd.fst → x.length = 9 ∧ ∀ (x_1 : Int), List.Mem x_1 x → inR IntKind.i16 x_1) →
      (r_1.fst.snd.snd.snd.length ≤ 9223372036854775807 ∧ ∀ (x : Int × Int), List.Mem x r_1.fst.snd.snd.snd → inR IntKind.i8 x.fst ∧ inR IntKind.i8 x.snd) → ∃ (r_3 : Bool), Ev Try.prog 18 [Arg.imm (D.dat
      (groundT 40) r_2.fst), Arg.imm (D.dat (groundT 40) r_1.fst)] (compsOf [(false, Ty.bool)] r_3) ∧ split (!!r_3) (split (!decide (r_2.snd = r_1.snd)) (false = true) (inR IntKind.i8 r.fst → inR
      IntKind.i8 r.snd.fst → (r.snd.snd.fst.length = 9 ∧ ∀ (x : List Int), List.Mem x r.snd.snd.fst → x.length = 9 ∧ ∀ (x_1 : Int), List.Mem x_1 x → inR IntKind.i16 x_1) → (r.snd.snd.snd.length ≤
      9223372036854775807 ∧ ∀ (x : Int × Int), List.Mem x r.snd.snd.snd → inR IntKind.i8 x.fst ∧ inR IntKind.i8 x.snd) → inR IntKind.i8 g.fst → inR IntKind.i8 g.snd.fst → (g.snd.snd.fst.length = 9 ∧ ∀ (x :
      List Int), List.Mem x g.snd.snd.fst → x.length = 9 ∧ ∀ (x_1 : Int), List.Mem x_1 x → inR IntKind.i16 x_1) → (g.snd.snd.snd.length ≤ 9223372036854775807 ∧ ∀ (x : Int × Int), List.Mem x g.snd.snd.snd →
      inR IntKind.i8 x.fst ∧ inR IntKind.i8 x.snd) → ∃ (r_4 : Int × Int × List (List Int) × List (Int × Int)), Ev Try.prog 16 [Arg.imm (D.dat (groundT 48) g)] (compsOf [(true, (Ty.int IntKind.i8).prod
      ((Ty.int IntKind.i8).prod ((Ty.arr 9 (Ty.arr 9 (Ty.int IntKind.i16))).prod (Ty.slice 40 ((Ty.int IntKind.i8).prod (Ty.int IntKind.i8))))))] r_4) ∧ (inR IntKind.i8 r_4.fst → inR IntKind.i8 r_4.snd.fst
      → (r_4.snd.snd.fst.length = 9 ∧ ∀ (x : List Int), List.Mem x r_4.snd.snd.fst → x.length = 9 ∧ ∀ (x_1 : Int), List.Mem x_1 x → inR IntKind.i16 x_1) → (r_4.snd.snd.snd.length ≤ 9223372036854775807 ∧ ∀
      (x : Int × Int), List.Mem x r_4.snd.snd.snd → inR IntKind.i8 x.fst ∧ inR IntKind.i8 x.snd) → ∃ (r_5 : Bool), Ev Try.prog 18 [Arg.imm (D.dat (groundT 40) r), Arg.imm (D.dat (groundT 40) r_4)] (compsOf
      [(false, Ty.bool)] r_5) ∧ split (!r_5) (false = true) (inR IntKind.i8 r.fst → inR IntKind.i8 r.snd.fst → (r.snd.snd.fst.length = 9 ∧ ∀ (x : List Int), List.Mem x r.snd.snd.fst → x.length = 9 ∧ ∀ (x_1
      : Int), List.Mem x_1 x → inR IntKind.i16 x_1) → (r.snd.snd.snd.length ≤ 9223372036854775807 ∧ ∀ (x : Int × Int), List.Mem x r.snd.snd.snd → inR IntKind.i8 x.fst ∧ inR IntKind.i8 x.snd) → ∃ (r_6 :
      Int), ∃ (y : Int × Int × List (List Int) × List (Int × Int)), EvB Try.prog 26 ((Ty.int IntKind.i8).prod ((Ty.int IntKind.i8).prod ((Ty.arr 9 (Ty.arr 9 (Ty.int IntKind.i16))).prod (Ty.slice 40
      ((Ty.int IntKind.i8).prod (Ty.int IntKind.i8)))))) r [Arg.imm (D.dat (Ty.int IntKind.i64) 1)] (compsOf [(false, Ty.int IntKind.i64)] r_6) y ∧ (inR IntKind.i64 r_6 → inR IntKind.i8 y.fst → inR
      IntKind.i8 y.snd.fst → (y.snd.snd.fst.length = 9 ∧ ∀ (x : List Int), List.Mem x y.snd.snd.fst → x.length = 9 ∧ ∀ (x_1 : Int), List.Mem x_1 x → inR IntKind.i16 x_1) → (y.snd.snd.snd.length ≤
      9223372036854775807 ∧ ∀ (x : Int × Int), List.Mem x y.snd.snd.snd → inR IntKind.i8 x.fst ∧ inR IntKind.i8 x.snd) → split (!decide (r_6 < 0)) (inR IntKind.i8 r_2.fst.fst → inR IntKind.i8
      r_2.fst.snd.fst → (r_2.fst.snd.snd.fst.length = 9 ∧ ∀ (x : List Int), List.Mem x r_2.fst.snd.snd.fst → x.length = 9 ∧ ∀ (x_1 : Int), List.Mem x_1 x → inR IntKind.i16 x_1) →
      (r_2.fst.snd.snd.snd.length ≤ 9223372036854775807 ∧ ∀ (x : Int × Int), List.Mem x r_2.fst.snd.snd.snd → inR IntKind.i8 x.fst ∧ inR IntKind.i8 x.snd) → inR IntKind.i8 r_1.fst.fst → inR IntKind.i8
      r_1.fst.snd.fst → (r_1.fst.snd.snd.fst.length = 9 ∧ ∀ (x : List Int), List.Mem x r_1.fst.snd.snd.fst → x.length = 9 ∧ ∀ (x_1 : Int), List.Mem x_1 x → inR IntKind.i16 x_1) →
      (r_1.fst.snd.snd.snd.length ≤ 9223372036854775807 ∧ ∀ (x : Int × Int), List.Mem x r_1.fst.snd.snd.snd → inR IntKind.i8 x.fst ∧ inR IntKind.i8 x.snd) → ∃ (r : Bool), Ev Try.prog 18 [Arg.imm (D.dat
      (groundT 40) r_2.fst), Arg.imm (D.dat (groundT 40) r_1.fst)] (compsOf [(false, Ty.bool)] r) ∧ split (!!r) (split (!decide (r_2.snd = r_1.snd)) (false = true) (inR IntKind.i8 r_2.fst.fst → inR
      IntKind.i8 r_2.fst.snd.fst → (r_2.fst.snd.snd.fst.length = 9 ∧ ∀ (x : List Int), List.Mem x r_2.fst.snd.snd.fst → x.length = 9 ∧ ∀ (x_1 : Int), List.Mem x_1 x → inR IntKind.i16 x_1) →
      (r_2.fst.snd.snd.snd.length ≤ 9223372036854775807 ∧ ∀ (x : Int × Int), List.Mem x r_2.fst.snd.snd.snd → inR IntKind.i8 x.fst ∧ inR IntKind.i8 x.snd) → ∃ (r : Int), ∃ (y : Int × Int × List (List Int)
      × List (Int × Int)), EvB Try.prog 26 ((Ty.int IntKind.i8).prod ((Ty.int IntKind.i8).prod ((Ty.arr 9 (Ty.arr 9 (Ty.int IntKind.i16))).prod (Ty.slice 40 ((Ty.int IntKind.i8).prod (Ty.int
      IntKind.i8)))))) r_2.fst [Arg.imm (D.dat (Ty.int IntKind.i64) 1)] (compsOf [(false, Ty.int IntKind.i64)] r) y ∧ (inR IntKind.i64 r → inR IntKind.i8 y.fst → inR IntKind.i8 y.snd.fst →
      (y.snd.snd.fst.length = 9 ∧ ∀ (x : List Int), List.Mem x y.snd.snd.fst → x.length = 9 ∧ ∀ (x_1 : Int), List.Mem x_1 x → inR IntKind.i16 x_1) → (y.snd.snd.snd.length ≤ 9223372036854775807 ∧ ∀ (x : Int
      × Int), List.Mem x y.snd.snd.snd → inR IntKind.i8 x.fst ∧ inR IntKind.i8 x.snd) → inR IntKind.i8 y.fst → inR IntKind.i8 y.snd.fst → (y.snd.snd.fst.length = 9 ∧ ∀ (x : List Int), List.Mem x
      y.snd.snd.fst → x.length = 9 ∧ ∀ (x_1 : Int), List.Mem x_1 x → inR IntKind.i16 x_1) → (y.snd.snd.snd.length ≤ 9223372036854775807 ∧ ∀ (x : Int × Int), List.Mem x y.snd.snd.snd → inR IntKind.i8 x.fst
      ∧ inR IntKind.i8 x.snd) → ∃ (r_7 : Int), Ev Try.prog 27 [Arg.imm (D.dat (groundT 40) y), Arg.imm (D.dat (Ty.int IntKind.i64) 1)] (compsOf [(false, Ty.int IntKind.i64)] r_7) ∧ (inR IntKind.i64 r_7 →
      split (decide (r_7 < 0)) (false = true) (split (!decide (r_7 = r)) (false = true) (inR IntKind.i8 g.fst → inR IntKind.i8 g.snd.fst → (g.snd.snd.fst.length = 9 ∧ ∀ (x : List Int), List.Mem x
      g.snd.snd.fst → x.length = 9 ∧ ∀ (x_1 : Int), List.Mem x_1 x → inR IntKind.i16 x_1) → (g.snd.snd.snd.length ≤ 9223372036854775807 ∧ ∀ (x : Int × Int), List.Mem x g.snd.snd.snd → inR IntKind.i8 x.fst
      ∧ inR IntKind.i8 x.snd) → ∃ (r_8 : Int × Int × List (List Int) × List (Int × Int)), Ev Try.prog 16 [Arg.imm (D.dat (groundT 48) g)] (compsOf [(true, (Ty.int IntKind.i8).prod ((Ty.int IntKind.i8).prod
      ((Ty.arr 9 (Ty.arr 9 (Ty.int IntKind.i16))).prod (Ty.slice 40 ((Ty.int IntKind.i8).prod (Ty.int IntKind.i8))))))] r_8) ∧ (inR IntKind.i8 r_8.fst → inR IntKind.i8 r_8.snd.fst → (r_8.snd.snd.fst.length
      = 9 ∧ ∀ (x : List Int), List.Mem x r_8.snd.snd.fst → x.length = 9 ∧ ∀ (x_1 : Int), List.Mem x_1 x → inR IntKind.i16 x_1) → (r_8.snd.snd.snd.length ≤ 9223372036854775807 ∧ ∀ (x : Int × Int), List.Mem
      x r_8.snd.snd.snd → inR IntKind.i8 x.fst ∧ inR IntKind.i8 x.snd) → ∃ (r_9 : (Int × Int × List (List Int) × List (Int × Int)) × Int), Ev Try.prog 25 [Arg.imm (D.dat (groundT 40) r_8), Arg.imm (D.dat
      (Ty.int IntKind.i64) n)] (compsOf [(true, (Ty.int IntKind.i8).prod ((Ty.int IntKind.i8).prod ((Ty.arr 9 (Ty.arr 9 (Ty.int IntKind.i16))).prod (Ty.slice 40 ((Ty.int IntKind.i8).prod (Ty.int
      IntKind.i8)))))), (false, Ty.int IntKind.i64)] r_9) ∧ (inR IntKind.i8 r_9.fst.fst → inR IntKind.i8 r_9.fst.snd.fst → (r_9.fst.snd.snd.fst.length = 9 ∧ ∀ (x : List Int), List.Mem x r_9.fst.snd.snd.fst
      → x.length = 9 ∧ ∀ (x_1 : Int), List.Mem x_1 x → inR IntKind.i16 x_1) → (r_9.fst.snd.snd.snd.length ≤ 9223372036854775807 ∧ ∀ (x : Int × Int), List.Mem x r_9.fst.snd.snd.snd → inR IntKind.i8 x.fst ∧
      inR IntKind.i8 x.snd) → inR IntKind.i64 r_9.snd → inR IntKind.i8 r_9.fst.fst → inR IntKind.i8 r_9.fst.snd.fst → (r_9.fst.snd.snd.fst.length = 9 ∧ ∀ (x : List Int), List.Mem x r_9.fst.snd.snd.fst →
      x.length = 9 ∧ ∀ (x_1 : Int), List.Mem x_1 x → inR IntKind.i16 x_1) → (r_9.fst.snd.snd.snd.length ≤ 9223372036854775807 ∧ ∀ (x : Int × Int), List.Mem x r_9.fst.snd.snd.snd → inR IntKind.i8 x.fst ∧
      inR IntKind.i8 x.snd) → inR IntKind.i8 r_1.fst.fst → inR IntKind.i8 r_1.fst.snd.fst → (r_1.fst.snd.snd.fst.length = 9 ∧ ∀ (x : List Int), List.Mem x r_1.fst.snd.snd.fst → x.length = 9 ∧ ∀ (x_1 :
      Int), List.Mem x_1 x → inR IntKind.i16 x_1) → (r_1.fst.snd.snd.snd.length ≤ 9223372036854775807 ∧ ∀ (x : Int × Int), List.Mem x r_1.fst.snd.snd.snd → inR IntKind.i8 x.fst ∧ inR IntKind.i8 x.snd) → ∃
      (r_10 : Bool), Ev Try.prog 18 [Arg.imm (D.dat (groundT 40) r_9.fst), Arg.imm (D.dat (groundT 40) r_1.fst)] (compsOf [(false, Ty.bool)] r_10) ∧ split (!!r_10) (split (!decide (r_9.snd = r_1.snd))
      (false = true) (inR IntKind.i8 y.fst → inR IntKind.i8 y.snd.fst → (y.snd.snd.fst.length = 9 ∧ ∀ (x : List Int), List.Mem x y.snd.snd.fst → x.length = 9 ∧ ∀ (x_1 : Int), List.Mem x_1 x → inR
      IntKind.i16 x_1) → (y.snd.snd.snd.length ≤ 9223372036854775807 ∧ ∀ (x : Int × Int), List.Mem x y.snd.snd.snd → inR IntKind.i8 x.fst ∧ inR IntKind.i8 x.snd) → ∃ (r_11 : Int), Ev Try.prog 27 [Arg.imm
      (D.dat (groundT 40) y), Arg.imm (D.dat (Ty.int IntKind.i64) 1)] (compsOf [(false, Ty.int IntKind.i64)] r_11) ∧ (inR IntKind.i64 r_11 → split (decide (r_11 < 0)) (false = true) (split (!decide (r_11 =
      r)) (false = true) (true = true))))) (false = true))))))))) (false = true)) (false = true)))))) (false = true)))))))) := by
    intros
    refine ⟨_, szGround_ev g, fun _ => split_of (fun _ => rfl) (fun h => ?_)⟩
    have hl := sz_pos (of_decide_eq_false h)
    have hk := raiseV_len (toGroundV g) n
    intros
    refine ⟨_, toGround_ev g hl, ?_⟩
    intros
    refine ⟨_, specRaise_ev _ _, ?_⟩
    intros
    refine ⟨_, toGround_ev g hl, ?_⟩
    intros
    refine ⟨_, implRaise_ev _ _, ?_⟩
    intros
    refine ⟨_, eqGround_ev _, ?_⟩
    refine split_of (fun _ => split_of (fun h => by simp at h) (fun _ => ?_)) (fun h => by simp at h)
    intros
    refine ⟨_, toGround_ev g hl, ?_⟩
    intros
    refine ⟨_, eqGround_ev _, ?_⟩
    refine split_of (fun h => by simp at h) (fun _ => ?_)
    have hq : (toGroundV g).2.2.2.length ≤ 1048576 := hl
    intros
    refine ⟨_, _, markGround_ev _ 1 (by omega) (by omega), ?_⟩
    intros
    refine split_of (fun _ => ?_) (fun h => absurd (of_decide_eq_true (by simpa using h)) (by omega))
    intros
    refine ⟨_, eqGround_ev _, ?_⟩
    refine split_of (fun _ => split_of (fun h => by simp at h) (fun _ => ?_)) (fun h => by simp at h)
    intros
    refine ⟨_, _, markGround_ev _ 1 (by omega) (by omega), ?_⟩
    intros
    refine ⟨_, heldGround_ev _ _ _ _ 1 (by omega) (by omega), ?_⟩
    intros
    refine split_of (fun h => absurd (of_decide_eq_true h) (by omega)) (fun _ => split_of (fun h => by simp at h) (fun _ => ?_))
    intros
    refine ⟨_, toGround_ev g hl, ?_⟩
    intros
    refine ⟨_, implRaise_ev _ _, ?_⟩
    intros
    refine ⟨_, eqGround_ev _, ?_⟩
    refine split_of (fun _ => split_of (fun h => by simp at h) (fun _ => ?_)) (fun h => by simp at h)
    intros
    refine ⟨_, heldGround_ev _ _ _ _ 1 (by omega) (by omega), ?_⟩
    intros
    exact split_of (fun h => absurd (of_decide_eq_true h) (by omega)) (fun _ => split_of (fun h => by simp at h) (fun _ => rfl))
  refine @Eq.mpr _ _ (?_) key
  kernel_rfl
end Go.Proofs.Ytkhheofgnhndbaa
