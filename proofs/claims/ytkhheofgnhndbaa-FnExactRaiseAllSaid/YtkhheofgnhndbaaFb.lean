/- The seat's types. No statement is proved here. -/
import Derived.Test.YtkhheofgnhndbaaA4
import Derived.Test.YtkhheofgnhndbaaProg
import Derived.Laws.StructEq
namespace Go.Proofs.Ytkhheofgnhndbaa
open Go.RowKit
set_option linter.unusedVariables false
set_option linter.unusedSimpArgs false
abbrev cellT : Ty := .prod (.int .i8) (.int .i8)
abbrev slabT : Ty := .prod (.int .i8) (.prod (.int .i8) (.prod (.int .i8) (.int .i8)))
abbrev sqT : Ty := .prod (.int .i8) (.prod (.int .i8) (.slice 132 slabT))
abbrev groundT (n : Nat) : Ty := .prod (.int .i8) (.prod (.int .i8) (.prod (.arr 9 (.arr 9 (.int .i16))) (.slice n cellT)))
def tyL : List (Nat × Ty) := [(2, .int .i64), (3, .int .i64), (4, .bool), (22, .int .i8), (23, .int .i16), (24, .arr 9 (.int .i16)), (25, .arr 9 (.arr 9 (.int .i16))), (26, .slice 48 cellT), (28, groundT 48), (31, .slice 40 cellT), (33, groundT 40), (40, cellT), (48, cellT), (110, .slice 3 (.int .i64)), (95, .slice 132 slabT), (97, sqT), (132, slabT)]
def nfL (n : Nat) : Nat := if n = 28 ∨ n = 33 then 4 else if n = 40 ∨ n = 48 then 2 else if n = 97 then 3 else if n = 132 then 4 else 0
def resL : List (Nat × List (Bool × Ty)) := [(3, [(false, .bool)]), (4, [(false, .bool)]), (5, [(false, .bool)]), (6, [(false, .bool)]), (7, [(false, .bool)]), (8, [(false, .bool)]), (9, [(false, .bool)]), (10, [(false, .bool)]), (11, [(false, .bool)]), (12, [(false, .bool)]), (13, [(false, .bool)]), (14, [(false, .int .i64)]), (15, [(false, .bool)]), (16, [(true, groundT 40)]), (17, [(false, .bool)]), (18, [(false, .bool)]), (19, [(false, .int .i64), (false, .int .i64)]), (20, [(false, .int .i64), (false, .int .i64)]), (21, [(false, cellT), (false, cellT), (false, .int .i64), (false, .int .i64)]), (22, [(false, cellT), (false, cellT), (false, .int .i64), (false, .int .i64)]), (23, [(false, .bool)]), (24, [(true, groundT 40), (false, .int .i64)]), (25, [(true, groundT 40), (false, .int .i64)]), (26, [(false, .int .i64)]), (27, [(false, .int .i64)]), (28, [(false, cellT), (false, .int .i64), (false, .int .i64)]), (29, [(false, cellT)]), (30, [(false, cellT), (false, .int .i64), (false, .int .i64)]), (31, [(false, .int .i64)]), (32, [(true, groundT 40), (false, .int .i64)]), (33, [(true, .slice 40 cellT)]), (34, [(true, groundT 40), (false, .int .i64)]), (35, [(false, .bool)]), (36, [(false, .int .i64)]), (37, [(false, cellT), (false, .int .i64)]), (38, [(false, cellT), (false, .int .i64)]), (39, [(true, .slice 40 cellT), (false, .int .i64)]), (40, [(true, .slice 40 cellT), (false, .int .i64)]), (41, [(false, .int .i64)]), (42, [(false, .bool), (false, .int .i64)]), (43, [(false, .bool), (false, .int .i64)]), (44, [(false, .int .i64), (false, .int .i64)]), (45, [(false, .int .i64), (false, .int .i64)]), (46, [(true, .slice 40 cellT), (false, .int .i64)]), (47, [(true, .slice 40 cellT), (false, .int .i64)]), (48, [(false, .bool)]), (49, [(false, .arr 9 (.arr 9 (.int .i16)))]), (50, [(false, .bool)]), (51, [(false, .bool)]), (52, [(false, .int .i64)]), (53, [(false, .bool)]), (54, [(true, .slice 40 cellT)]), (55, [(true, .slice 40 cellT)]), (56, [(false, .int .i64)]), (57, [(true, .slice 40 cellT)]), (58, [(false, .bool)]), (59, [(true, .slice 40 cellT)]), (60, [(false, .int .i64)]), (61, [(false, .int .i64)]), (62, [(false, .bool)]), (63, [(false, .int .i64)]), (64, [(false, .bool)]), (65, [(true, groundT 40)]), (66, [(true, groundT 40)]), (67, [(false, .bool)]), (68, [(false, .bool)]), (69, [(false, cellT), (false, .bool)]), (70, [(false, .int .i64)]), (71, [(false, cellT), (false, .bool)]), (72, [(false, .int .i64)]), (73, [(false, .int .i64)]), (74, [(true, .slice 40 cellT)]), (75, [(false, .arr 9 (.arr 9 (.int .i16)))]), (76, [(false, .int .i64)]), (77, [(false, .int .i64)]), (78, [(false, cellT), (false, .bool)]), (79, [(true, .slice 40 cellT)]), (80, [(false, .bool)]), (81, [(false, cellT), (false, .bool)]), (82, [(false, .int .i64)]), (83, [(false, .int .i64)]), (84, [(false, .int .i64)]), (85, [(false, .bool)]), (86, [(false, .bool)]), (87, [(false, .bool)]), (88, [(false, .arr 9 (.int .i16))]), (89, [(false, sqT)]), (90, [(false, .bool)]), (91, [(false, .int .i64)]), (92, [(false, .int .i64)]), (93, [(false, .bool)]), (94, [(true, .slice 40 cellT)]), (95, [(false, .bool)]), (96, [(true, .slice 40 cellT)]), (97, [(false, .bool)]), (98, [(false, .int .i64)]), (99, [(false, .bool)]), (100, [(false, .bool)]), (101, [(true, .slice 40 cellT)]), (102, [(true, .slice 40 cellT)]), (103, [(false, .int .i64)]), (104, [(false, .bool)]), (105, [(false, .bool)]), (106, [(false, .int .i64)])]
def lkR : List (Nat × List (Bool × Ty)) → Nat → Option (List (Bool × Ty))
  | [], _ => none
  | (n, t) :: r, T => if n = T then some t else lkR r T
def resT (n : Nat) : Option (List (Bool × Ty)) := lkR resL n
def bkL : List Nat := [26, 36]
def fnL : List Nat := [70, 103]
def csL : List (Nat × Nat) := []
def gam (res : Nat → Option (List (Bool × Ty))) (live : List Nat) (inv : Nat → List Slot → Option LoopInv) : Ctx := ⟨nfL, lk tyL, fnL.contains, res, fun T => T == 40, live, inv, bkL.contains, lkN csL⟩
theorem tab_ok (res : Nat → Option (List (Bool × Ty))) (live : List Nat) (inv : Nat → List Slot → Option LoopInv) : tyL.all (fun x => tyB Try.prog (gam res live inv) x.1 x.2) = true := by kernel_rfl
theorem equal40 (x y u v : Int) (w : World) : (Op.equalIn 10000 40 (.agg #[.int .i8 x, .int .i8 y]) (.agg #[.int .i8 u, .int .i8 v])).run Try.prog w = .ok (x == u && y == v) w := by
  have hS : Try.prog.underlying 40 = some (.struct (Try.prog.fieldsOf 40)) := by kernel_rfl
  have hp : Try.prog.stoodInHeld 40 = false := by kernel_rfl
  rw [show (10000 : Nat) = 9999 + 1 from rfl, run_equalIn_agg w 9999 40 _ _ hS hp]
  simp only [Program.fieldsOf, Try.underlying40]
  go_simp
  by_cases h1 : x = u <;> by_cases h2 : y = v <;> simp [h1, h2]
theorem imm_cell {w : World} {S : Nat → Prop} {x : cellT.T} {cs : List Value} (h : Imm w S cellT x cs) : cs = [.int .i8 x.1, .int .i8 x.2] := by
  simp only [cellT, Imm, Ty.sz] at h
  obtain ⟨⟨h1, _⟩, h2, _⟩ := h
  rw [← List.take_append_drop 1 cs, h1, h2]; rfl
theorem types (res : Nat → Option (List (Bool × Ty))) (live : List Nat) (inv : Nat → List Slot → Option LoopInv) : TyOk Try.prog (gam res live inv) := by
  refine tyOk_of (l := tyL) (fl := fnL) rfl rfl (tab_ok res live inv) (by kernel_rfl) (fun T t ht hag he x y r hr => ?_) (fun T k e kt et h _ => (no_map (l := tyL) (by kernel_rfl) h).elim)
  have hT : T = 40 := by simpa [gam] using he
  subst hT
  have : lk tyL 40 = some cellT := by decide
  rw [show (gam res live inv).ty 40 = lk tyL 40 from rfl, this] at ht
  obtain rfl := Option.some.inj ht
  refine ⟨by kernel_rfl, fun w S cs ds hc hd => ?_⟩
  rw [imm_cell hc, imm_cell hd]
  simp only [cellT, eqT, Option.some.injEq] at hr
  subst hr
  exact equal40 _ _ _ _ w
/-- The code of a loop whose first region is n. -/
def loopAt (n : Nat) : Code → Option Code
  | .loop b => if Cod.fst b = n then some b else loopAt n b
  | .seq a b => match loopAt n a with
    | some c => some c
    | none => loopAt n b
  | .cond _ a b => match loopAt n a with
    | some c => some c
    | none => loopAt n b
  | .block _ b => loopAt n b
  | .scope b => loopAt n b
  | _ => none
/-- The slots that a loop's code writes. -/
def hvAt (f : Func) (n : Nat) : List Nat := match f.body with
  | some c => match loopAt n c with
    | some b => Cod.dsts b
    | none => []
  | none => []
/-- A number in a slot. -/
def iAt (σ : List Slot) (n : Nat) : Int := match σ.getD n .dead with
  | .val (.dat (.int _) x) => x
  | .box (.dat (.int _) x) => x
  | _ => 0
end Go.Proofs.Ytkhheofgnhndbaa
