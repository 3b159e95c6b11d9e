/- A ground's own gullies are marked; what a mark leaves as it was. -/
import Derived.Test.YtkhheofgnhndbaaHb
namespace Go.Proofs.Ytkhheofgnhndbaa
set_option linter.unusedVariables false
set_option linter.unusedSimpArgs false
open Go.RowKit
theorem Turned.grown {v : Value} {w w' : World} (h : Turned v w w') : w.grownBy w' v.ownBlock := ⟨h.os, h.tape, h.output, Nat.le_of_eq h.size.symm, fun k _ hk => h.block k (fun e => hk e.symm)⟩
theorem grown_of_below {w w1 w2 : World} {row : Option Nat} (hb : Below w.heap.size w w1) (h : w1.grownBy w2 row) : w.grownBy w2 row :=
  ⟨h.os.trans hb.os, h.tape.trans hb.tape, h.output.trans hb.output, Nat.le_trans hb.size h.size, fun k hk hn => (h.block k (Nat.lt_of_lt_of_le hk hb.size) hn).trans (hb.block k hk)⟩
theorem OwnC.grown {B : Nat} {w w' : World} {v : Value} {xs : List (Int × Int)} {row : Option Nat} (h : OwnC B w v xs) (hg : w.grownBy w' row) (hne : ∀ g, v.ownBlock = some g → row ≠ some g) : OwnC B w' v xs := by
  refine World.ownsRow.kept h hg ?_
  cases hv : v.ownBlock with
  | none => exact .inl rfl
  | some g => exact .inr (fun e => hne g hv e.symm)
theorem grown_blk {w w' : World} {row : Option Nat} {g : Nat} {o : Obj} (hg : w.grownBy w' row) (hb : w.heap[g]? = some o) (hne : row ≠ some g) : w'.heap[g]? = some o := (hg.block g (blk_lt hb) (fun e => hne e.symm)).trans hb
theorem grown_below {w0 w w' : World} {row : Option Nat} {B : Nat} (hb : Below B w0 w) (hg : w.grownBy w' row) (hB : B ≤ w.heap.size) (hr : ∀ g, row = some g → B ≤ g) : Below B w0 w' := hb.grown hg hB hr
theorem markGround_is (G : Gd) (v : Value) (hG : GdOk G) (B : Nat) (w : World) (hl : G.gul.length ≤ 1048576) (ho : OwnC B w v G.gul) :
    Calls Try.prog 26 #[.agg (gc G v), .int .i64 1] w fun e w' => e = .returned (.int .i64 (1 + 2 * (G.gul.length : Int))) ∧ w.grownBy w' v.ownBlock := by
  have hlen := hG.len
  go_enter Try.func26, Try.ntmps26
  go_wp2_with (first
    | (with_reducible refine wpList_box 2 rfl rfl 33 _ rfl (.agg (gc G v)) rfl (gc G v) rfl ?_; intro g1 w1 b1 hb1 _hs1;  have a83 := (blk_cell b1 83).trans (gc_83 _ _ hlen))
    | (go_at_call 36; refine (mark_is B v G.gul _ hl (ho.below hb1)).mono ?_; rintro e w2 ⟨rfl, hO2, hT⟩))
  go_ret
  exact ⟨rfl, grown_of_below hb1 hT.grown⟩
end Go.Proofs.Ytkhheofgnhndbaa
