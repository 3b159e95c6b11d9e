/- The seat's types. No statement is proved here. -/
import Derived.Test.YtjicolekkojonaaA4
import Derived.Test.YtjicolekkojonaaProg
import Derived.Laws.StructEq
namespace Go.Proofs.Ytjicolekkojonaa
open Go.RowKit
set_option linter.unusedVariables false
set_option linter.unusedSimpArgs false
abbrev slabT : Ty := .prod (.int .i8) (.prod (.int .i8) (.prod (.int .i8) (.int .i8)))
def tyL : List (Nat × Ty) := [(2, .int .i64), (3, .int .i64), (4, .bool), (22, .slice 48 slabT), (24, .slice 2 (.int .i64)), (27, .slice 46 slabT), (44, .int .i8), (45, slabT), (46, slabT), (48, slabT), (62, .slice 3 (.int .i64)), (81, .int .i64)]
def nfL (n : Nat) : Nat := if n = 45 ∨ n = 46 ∨ n = 48 then 4 else 0
def resL : List (Nat × List (Bool × Ty)) := [(0, []), (1, []), (2, []), (3, [(false, .bool)]), (4, [(false, .bool)]), (5, [(false, .bool)]), (6, [(false, .bool)]), (7, [(false, .int .i64)]), (8, [(true, .slice 2 (.int .i64)), (false, .int .i64), (false, .int .i64)]), (9, [(true, .slice 46 slabT)]), (10, [(true, .slice 2 (.int .i64)), (false, .int .i64), (false, .int .i64)]), (11, [(false, .bool)]), (12, [(false, .bool)]), (13, [(false, .int .i64)]), (14, [(false, .int .i64)]), (15, [(false, .int .i64)]), (16, [(false, .bool), (false, .int .i64)]), (17, [(true, .slice 2 (.int .i64))]), (18, [(false, .bool), (false, .int .i64)]), (19, [(true, .slice 2 (.int .i64)), (false, .int .i64)]), (20, [(true, .slice 2 (.int .i64)), (false, .int .i64)]), (21, [(true, .slice 2 (.int .i64)), (false, .int .i64), (false, .int .i64)]), (22, [(true, .slice 2 (.int .i64)), (false, .int .i64), (false, .int .i64)]), (23, [(false, .int .i64)]), (24, [(true, .slice 2 (.int .i64)), (false, .bool)]), (25, [(false, slabT)]), (26, [(true, .slice 2 (.int .i64)), (false, .int .i64)]), (27, [(true, .slice 2 (.int .i64)), (false, .bool)]), (28, [(false, .bool)]), (29, [(false, .int .i64)]), (30, [(false, .bool)]), (31, [(false, .int .i64)]), (32, [(false, .int .i64)]), (33, [(false, .bool)]), (34, [(false, .bool)]), (35, [(false, .bool)]), (36, [(false, .int .i64)]), (37, [(false, .bool)]), (38, [(false, .bool)]), (40, [(false, .int .i64)]), (41, [(false, .bool)]), (42, [(false, .int .i64)]), (43, [(false, .int .i64)]), (44, [(false, .int .i64)]), (45, [(true, .slice 2 (.int .i64))]), (46, [(false, .int .i64)]), (47, [(true, .slice 2 (.int .i64)), (false, .int .i64)]), (48, [(false, .bool)]), (49, [(false, .int .i64)]), (50, [(true, .slice 2 (.int .i64))]), (51, []), (52, [(false, .int .i64)]), (53, [(false, .bool)]), (54, [(false, .bool)]), (55, [(false, .int .i64)]), (56, [(false, .bool)]), (57, []), (58, [(false, .bool)]), (59, [(false, .int .i64)]), (60, [(false, .bool)]), (61, []), (62, [(false, .int .i64)]), (63, [(true, .slice 2 (.int .i64))]), (64, [(false, .bool)]), (65, [(false, .int .i64)]), (66, []), (67, []), (68, []), (69, [(false, .int .i64), (false, .int .i64)]), (70, []), (71, [(false, .bool)]), (72, [(false, .bool)]), (73, [(false, .int .i64)]), (74, [(false, .int .i64), (false, .bool)]), (75, [(false, .int .i64)]), (76, [(false, .int .i64)]), (77, []), (78, [(false, .int .u64)]), (79, [(false, .int .u64)]), (80, [(false, .int .i64)]), (81, [(false, .int .i64)]), (82, [(false, .bool)]), (83, [(false, .int .i64), (false, .int .i64)]), (84, [(false, .str)]), (85, []), (86, [(false, .str)]), (87, []), (88, [(false, .str)]), (89, []), (90, [(false, .str)]), (91, []), (92, [(false, .str)]), (93, []), (94, [(false, .str)]), (95, []), (96, [(false, .int .i64)]), (97, [(false, .str)]), (98, []), (99, [(false, .str)])]
def lkR : List (Nat × List (Bool × Ty)) → Nat → Option (List (Bool × Ty))
  | [], _ => none
  | (n, t) :: r, T => if n = T then some t else lkR r T
def resT (n : Nat) : Option (List (Bool × Ty)) := lkR resL n
def bkL : List Nat := [13, 14, 51]
def fnL : List Nat := [56, 64]
def csL : List (Nat × Nat) := [(27, 3), (24, 2), (63, 0)]
def gam (res : Nat → Option (List (Bool × Ty))) (live : List Nat) (inv : Nat → List Slot → Option LoopInv) : Ctx := ⟨nfL, lk tyL, fnL.contains, res, fun T => T == 46, live, inv, bkL.contains, lkN csL⟩
theorem tab_ok (res : Nat → Option (List (Bool × Ty))) (live : List Nat) (inv : Nat → List Slot → Option LoopInv) : tyL.all (fun x => tyB Try.prog (gam res live inv) x.1 x.2) = true := by kernel_rfl
theorem equal46 (a b c d x y u v : Int) (w : World) : (Op.equalIn 10000 46 (.agg #[.int .i8 a, .int .i8 b, .int .i8 c, .int .i8 d]) (.agg #[.int .i8 x, .int .i8 y, .int .i8 u, .int .i8 v])).run Try.prog w = .ok (a == x && (b == y && (c == u && d == v))) w := by
  have hS : Try.prog.underlying 46 = some (.struct (Try.prog.fieldsOf 46)) := by kernel_rfl
  have hp : Try.prog.stoodInHeld 46 = false := by kernel_rfl
  rw [show (10000 : Nat) = 9999 + 1 from rfl, run_equalIn_agg w 9999 46 _ _ hS hp]
  simp only [Program.fieldsOf, Try.underlying46]
  go_simp
  by_cases h1 : a = x <;> by_cases h2 : b = y <;> by_cases h3 : c = u <;> by_cases h4 : d = v <;> simp [h1, h2, h3, h4]
theorem imm_slab {w : World} {S : Nat → Prop} {x : slabT.T} {cs : List Value} (h : Imm w S slabT x cs) : cs = [.int .i8 x.1, .int .i8 x.2.1, .int .i8 x.2.2.1, .int .i8 x.2.2.2] := by
  simp only [slabT, Imm, Ty.sz] at h
  obtain ⟨⟨h1, _⟩, ⟨h2, _⟩, ⟨h3, _⟩, h4, _⟩ := h
  rw [← List.take_append_drop 1 cs, h1, ← List.take_append_drop 1 (List.drop 1 cs), h2, ← List.take_append_drop 1 (List.drop 1 (List.drop 1 cs)), h3, h4]; rfl
theorem types (res : Nat → Option (List (Bool × Ty))) (live : List Nat) (inv : Nat → List Slot → Option LoopInv) : TyOk Try.prog (gam res live inv) := by
  refine tyOk_of (l := tyL) (fl := fnL) rfl rfl (tab_ok res live inv) (by kernel_rfl) (fun T t ht hag he x y r hr => ?_) (fun T k e kt et h _ => (no_map (l := tyL) (by kernel_rfl) h).elim)
  obtain rfl : T = 46 := by simpa [gam] using he
  have : lk tyL 46 = some slabT := by decide
  rw [show (gam res live inv).ty 46 = lk tyL 46 from rfl, this] at ht
  obtain rfl := Option.some.inj ht
  refine ⟨by kernel_rfl, fun w S cs ds hc hd => ?_⟩
  rw [imm_slab hc, imm_slab hd]
  simp only [slabT, eqT, Option.some.injEq] at hr
  subst hr
  exact equal46 _ _ _ _ _ _ _ _ w
theorem follows : Try.prog.follows .mixedOrders = true := by kernel_rfl
/-- The code of a loop whose first region is n. -/
def loopAt (n : Nat) : Code → Option Code
  | .loop b => if Cod.fst b = n then some b else loopAt n b
  | .seq a b => match loopAt n a with
    | some c => some c
    | none => loopAt n b
  | .cond _ a b => match loopAt n a with
    | some c => some c
    | none => loopAt n b
  | .block _ b => loopAt n b
  | .scope b => loopAt n b
  | _ => none
/-- The slots that a loop's code writes. -/
def hvAt (f : Func) (n : Nat) : List Nat := match f.body with
  | some c => match loopAt n c with
    | some b => Cod.dsts b
    | none => []
  | none => []
/-- A number in a slot. -/
def iAt (σ : List Slot) (n : Nat) : Int := match σ.getD n .dead with
  | .val (.dat (.int _) x) => x
  | .box (.dat (.int _) x) => x
  | _ => 0
end Go.Proofs.Ytjicolekkojonaa
