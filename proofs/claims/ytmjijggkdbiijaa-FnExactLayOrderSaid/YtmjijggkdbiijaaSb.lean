/- The seat's types. No statement is proved here. -/
import Derived.Test.YtmjijggkdbiijaaA4
import Derived.Test.YtmjijggkdbiijaaProg
import Derived.Laws.StructEq
namespace Go.Proofs.Ytmjijggkdbiijaa
open Go.RowKit
set_option linter.unusedVariables false
set_option linter.unusedSimpArgs false
abbrev cellT : Ty := .prod (.int .i8) (.int .i8)
abbrev slabT : Ty := .prod (.int .i8) (.prod (.int .i8) (.prod (.int .i8) (.int .i8)))
abbrev sqT (n : Nat) : Ty := .prod (.int .i8) (.prod (.int .i8) (.slice n slabT))
def tyL : List (Nat × Ty) := [(2, .int .i64), (3, .int .i64), (4, .bool), (22, .int .i8), (23, .slice 38 slabT), (25, sqT 38), (26, .slice 2 (.int .i64)), (29, .slice 41 slabT), (31, sqT 41), (38, slabT), (41, slabT), (50, cellT), (52, cellT), (58, .arr 2 (.int .i64)), (62, .slice 50 cellT), (65, .slice 52 cellT), (93, .arr 12 (.int .i64)), (95, .arr 12 (.arr 12 (.int .i64))), (108, .slice 58 (.arr 2 (.int .i64))), (122, .slice 26 (.slice 2 (.int .i64))), (167, .slice 4 .bool), (174, .int .i64), (191, .slice 3 (.int .i64))]
def nfL (n : Nat) : Nat := if n = 25 ∨ n = 31 then 3 else if n = 38 ∨ n = 41 then 4 else if n = 50 ∨ n = 52 then 2 else 0
def resL : List (Nat × List (Bool × Ty)) := [(3, [(false, .bool)]), (4, [(false, .bool)]), (5, [(false, .bool)]), (6, [(false, .bool)]), (7, [(false, .bool)]), (8, [(false, .bool)]), (9, [(false, .bool)]), (10, [(false, .bool)]), (11, [(false, .bool)]), (12, [(false, .bool)]), (13, [(false, .bool)]), (14, [(false, .int .i64)]), (15, [(false, .bool)]), (16, [(true, sqT 41)]), (17, [(true, .slice 2 (.int .i64))]), (18, [(false, .bool)]), (19, [(false, .bool)]), (20, [(false, .bool)]), (21, [(false, .bool), (false, .int .i64)]), (22, [(false, slabT)]), (23, [(false, .bool), (false, .int .i64)]), (24, [(true, .slice 2 (.int .i64)), (false, .int .i64)]), (25, [(true, .slice 2 (.int .i64)), (false, .int .i64)]), (26, [(false, .int .i64)]), (27, [(false, .int .i64)]), (28, [(false, .int .i64)]), (29, [(false, .bool), (false, .int .i64)]), (30, [(false, cellT)]), (31, [(false, .bool), (false, .int .i64)]), (32, [(false, .int .i64), (false, .int .i64)]), (33, [(false, .int .i64), (false, .int .i64)]), (34, [(false, .arr 2 (.int .i64)), (false, .int .i64), (false, .int .i64)]), (35, [(false, .arr 2 (.int .i64)), (false, .int .i64), (false, .int .i64)]), (36, [(false, .bool)]), (37, [(false, .int .i64)]), (38, [(true, .slice 2 (.int .i64)), (false, .int .i64)]), (39, [(true, .slice 52 cellT)]), (40, [(true, .slice 2 (.int .i64)), (false, .int .i64)]), (41, [(false, .bool)]), (42, [(false, .int .i64)]), (43, [(false, .int .i64)]), (44, [(false, .int .i64), (false, .int .i64)]), (45, [(true, .slice 41 slabT)]), (46, [(false, .int .i64), (false, .int .i64)]), (47, [(false, .bool)]), (48, [(true, .slice 2 (.int .i64)), (false, .int .i64)]), (49, [(true, .slice 2 (.int .i64)), (false, .int .i64)]), (50, [(false, .int .i64)]), (51, [(true, sqT 41), (true, .slice 41 slabT), (false, .int .i64)]), (52, [(true, sqT 41), (true, .slice 41 slabT), (false, .int .i64)]), (53, [(false, .int .i64)]), (54, [(false, .int .i64)]), (55, [(true, sqT 41), (false, .int .i64)]), (56, [(true, sqT 41), (false, .int .i64)]), (57, [(false, .bool)]), (58, [(false, .bool)]), (59, [(false, .bool)]), (60, [(false, .bool)]), (61, [(false, .bool)]), (62, [(false, .bool)]), (63, [(false, .int .i64)]), (64, [(false, .bool)]), (65, [(true, .slice 2 (.int .i64))]), (66, [(false, .bool)]), (67, [(true, .slice 2 (.int .i64))]), (68, [(false, .arr 12 (.arr 12 (.int .i64))), (false, .int .i64)]), (69, [(false, .bool)]), (70, [(false, .int .i64)]), (71, [(false, .bool)]), (72, [(true, .slice 52 cellT)]), (73, [(false, .bool)]), (74, [(true, .slice 52 cellT)]), (75, [(false, .int .i64)]), (76, [(true, .slice 2 (.int .i64))]), (77, [(false, .int .i64)]), (78, [(true, .slice 58 (.arr 2 (.int .i64)))]), (79, [(false, .int .i64)]), (80, [(true, .slice 58 (.arr 2 (.int .i64)))]), (81, [(false, .int .i64)]), (82, [(false, .bool)]), (83, [(false, .bool)]), (84, [(true, .slice 2 (.int .i64))]), (85, [(false, .int .i64)]), (86, [(false, .bool)]), (87, [(false, .int .i64)]), (88, [(false, .bool)]), (89, [(false, .bool)]), (90, [(false, .int .i64)]), (91, [(true, .slice 2 (.int .i64))]), (92, [(false, .int .i64)]), (94, [(false, .bool)]), (95, [(true, .slice 26 (.slice 2 (.int .i64)))]), (96, [(true, sqT 41)]), (97, [(false, .bool)]), (98, [(false, .bool)]), (99, [(false, .int .i64)]), (100, [(false, .bool)]), (101, [(true, sqT 41)]), (102, [(false, .bool)]), (103, [(true, sqT 41)]), (104, [(false, .bool)]), (105, [(false, .bool)]), (106, [(false, .bool)]), (107, [(false, .bool)]), (108, [(false, .arr 12 (.arr 12 (.int .i64))), (false, .bool)]), (109, [(false, .bool)]), (110, [(false, .bool)]), (111, [(false, .bool)]), (112, [(false, .bool)]), (113, [(false, .bool)]), (114, [(false, .int .i64)]), (115, [(false, .bool)]), (116, [(false, .bool)]), (117, [(false, .bool)]), (118, [(false, .int .i64)]), (119, [(false, .bool)]), (120, [(false, cellT)]), (121, [(false, .int .i64)]), (122, [(false, .bool)]), (123, [(false, .bool)]), (124, [(false, .bool)]), (125, [(false, .int .i64), (false, .int .i64), (false, .bool)]), (126, [(false, .bool)]), (127, [(true, .slice 52 cellT)]), (128, [(false, .bool)]), (129, [(false, cellT)]), (130, [(true, .slice 2 (.int .i64))]), (131, [(false, .int .i64)]), (132, [(true, .slice 2 (.int .i64))]), (133, [(false, .bool)]), (134, [(false, .bool)]), (135, [(false, .int .i64)]), (136, [(false, .int .i64)]), (137, [(false, .int .i64)]), (138, [(true, .slice 2 (.int .i64))]), (139, [(true, .slice 41 slabT)]), (140, [(false, .bool)]), (141, [(true, .slice 2 (.int .i64))]), (143, [(true, .slice 2 (.int .i64))]), (145, [(true, .slice 41 slabT)]), (146, [(false, .bool)]), (147, [(false, .int .i64)]), (148, [(false, .bool)]), (149, [(false, .bool)]), (150, [(false, .bool)]), (151, [(false, .int .i64)]), (152, [(false, .int .i64)]), (153, [(false, cellT)]), (154, [(false, .int .i64)]), (155, [(false, .bool)]), (156, [(false, .int .i8)]), (157, [(false, .bool)]), (158, [(false, .bool)]), (159, [(false, .bool)]), (161, [(false, .int .i64)]), (163, [(false, .int .i64)]), (164, [(false, .int .i64)]), (168, [(false, .int .i64), (false, .int .i64)]), (170, [(false, .bool)]), (171, [(false, .bool)]), (172, [(false, .int .i64)]), (173, [(false, .int .i64), (false, .bool)]), (174, [(false, .int .i64)]), (175, [(false, .int .i64)]), (179, [(false, .int .i64), (false, .int .i64)]), (181, [(false, .bool)]), (182, [(false, .int .i64)]), (183, [(false, .int .i64), (false, .bool)]), (184, [(false, .bool)]), (188, [(false, .int .i64)]), (189, [(false, .int .i64)]), (190, [(false, .bool)]), (192, [(false, .int .i64)]), (193, [(false, .int .i64)]), (194, [(false, .int .i64), (false, .int .i64)]), (195, [(false, .int .i64), (false, .int .i64)]), (208, [(false, .int .i64)]), (211, [(false, .int .i64)]), (142, []), (144, []), (160, []), (162, []), (165, []), (166, []), (167, []), (169, []), (176, []), (177, []), (178, []), (180, []), (185, []), (191, [])]
def lkR : List (Nat × List (Bool × Ty)) → Nat → Option (List (Bool × Ty))
  | [], _ => none
  | (n, t) :: r, T => if n = T then some t else lkR r T
def resT (n : Nat) : Option (List (Bool × Ty)) := lkR resL n
def bkL : List Nat := [26, 27, 42, 50, 142, 144, 160, 162, 165, 166, 167, 169, 170, 172, 173, 176, 177, 178, 180, 181, 182, 183, 185, 191]
def fnL : List Nat := [88, 90, 137, 138, 143]
def csL : List (Nat × Nat) := [(143, 0)]
def gam (res : Nat → Option (List (Bool × Ty))) (live : List Nat) (inv : Nat → List Slot → Option LoopInv) : Ctx := ⟨nfL, lk tyL, fnL.contains, res, fun T => T == 52 || T == 41, live, inv, bkL.contains, lkN csL⟩
theorem tab_ok (res : Nat → Option (List (Bool × Ty))) (live : List Nat) (inv : Nat → List Slot → Option LoopInv) : tyL.all (fun x => tyB Try.prog (gam res live inv) x.1 x.2) = true := by kernel_rfl
theorem equal52 (x y u v : Int) (w : World) : (Op.equalIn 10000 52 (.agg #[.int .i8 x, .int .i8 y]) (.agg #[.int .i8 u, .int .i8 v])).run Try.prog w = .ok (x == u && y == v) w := by
  have hS : Try.prog.underlying 52 = some (.struct (Try.prog.fieldsOf 52)) := by kernel_rfl
  have hp : Try.prog.stoodInHeld 52 = false := by kernel_rfl
  rw [show (10000 : Nat) = 9999 + 1 from rfl, run_equalIn_agg w 9999 52 _ _ hS hp]
  simp only [Program.fieldsOf, Try.underlying52]
  go_simp
  by_cases h1 : x = u <;> by_cases h2 : y = v <;> simp [h1, h2]
theorem equal41 (a b c d x y u v : Int) (w : World) : (Op.equalIn 10000 41 (.agg #[.int .i8 a, .int .i8 b, .int .i8 c, .int .i8 d]) (.agg #[.int .i8 x, .int .i8 y, .int .i8 u, .int .i8 v])).run Try.prog w = .ok (a == x && (b == y && (c == u && d == v))) w := by
  have hS : Try.prog.underlying 41 = some (.struct (Try.prog.fieldsOf 41)) := by kernel_rfl
  have hp : Try.prog.stoodInHeld 41 = false := by kernel_rfl
  rw [show (10000 : Nat) = 9999 + 1 from rfl, run_equalIn_agg w 9999 41 _ _ hS hp]
  simp only [Program.fieldsOf, Try.underlying41]
  go_simp
  by_cases h1 : a = x <;> by_cases h2 : b = y <;> by_cases h3 : c = u <;> by_cases h4 : d = v <;> simp [h1, h2, h3, h4]
theorem imm_cell {w : World} {S : Nat → Prop} {x : cellT.T} {cs : List Value} (h : Imm w S cellT x cs) : cs = [.int .i8 x.1, .int .i8 x.2] := by
  simp only [cellT, Imm, Ty.sz] at h
  obtain ⟨⟨h1, _⟩, h2, _⟩ := h
  rw [← List.take_append_drop 1 cs, h1, h2]; rfl
theorem imm_slab {w : World} {S : Nat → Prop} {x : slabT.T} {cs : List Value} (h : Imm w S slabT x cs) : cs = [.int .i8 x.1, .int .i8 x.2.1, .int .i8 x.2.2.1, .int .i8 x.2.2.2] := by
  simp only [slabT, Imm, Ty.sz] at h
  obtain ⟨⟨h1, _⟩, ⟨h2, _⟩, ⟨h3, _⟩, h4, _⟩ := h
  rw [← List.take_append_drop 1 cs, h1, ← List.take_append_drop 1 (List.drop 1 cs), h2, ← List.take_append_drop 1 (List.drop 1 (List.drop 1 cs)), h3, h4]; rfl
theorem types (res : Nat → Option (List (Bool × Ty))) (live : List Nat) (inv : Nat → List Slot → Option LoopInv) : TyOk Try.prog (gam res live inv) := by
  refine tyOk_of (l := tyL) (fl := fnL) rfl rfl (tab_ok res live inv) (by kernel_rfl) (fun T t ht hag he x y r hr => ?_) (fun T k e kt et h _ => (no_map (l := tyL) (by kernel_rfl) h).elim)
  have hT : T = 52 ∨ T = 41 := by simpa [gam] using he
  rcases hT with rfl | rfl
  · have : lk tyL 52 = some cellT := by decide
    rw [show (gam res live inv).ty 52 = lk tyL 52 from rfl, this] at ht
    obtain rfl := Option.some.inj ht
    refine ⟨by kernel_rfl, fun w S cs ds hc hd => ?_⟩
    rw [imm_cell hc, imm_cell hd]
    simp only [cellT, eqT, Option.some.injEq] at hr
    subst hr
    exact equal52 _ _ _ _ w
  · have : lk tyL 41 = some slabT := by decide
    rw [show (gam res live inv).ty 41 = lk tyL 41 from rfl, this] at ht
    obtain rfl := Option.some.inj ht
    refine ⟨by kernel_rfl, fun w S cs ds hc hd => ?_⟩
    rw [imm_slab hc, imm_slab hd]
    simp only [slabT, eqT, Option.some.injEq] at hr
    subst hr
    exact equal41 _ _ _ _ _ _ _ _ w
theorem follows : Try.prog.follows .mixedOrders = true := by kernel_rfl
/-- The code of a loop whose first region is n. -/
def loopAt (n : Nat) : Code → Option Code
  | .loop b => if Cod.fst b = n then some b else loopAt n b
  | .seq a b => match loopAt n a with
    | some c => some c
    | none => loopAt n b
  | .cond _ a b => match loopAt n a with
    | some c => some c
    | none => loopAt n b
  | .block _ b => loopAt n b
  | .scope b => loopAt n b
  | _ => none
/-- The slots that a loop's code writes. -/
def hvAt (f : Func) (n : Nat) : List Nat := match f.body with
  | some c => match loopAt n c with
    | some b => Cod.dsts b
    | none => []
  | none => []
/-- A number in a slot. -/
def iAt (σ : List Slot) (n : Nat) : Int := match σ.getD n .dead with
  | .val (.dat (.int _) x) => x
  | .box (.dat (.int _) x) => x
  | _ => 0
end Go.Proofs.Ytmjijggkdbiijaa
