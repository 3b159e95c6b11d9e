/- Parts of the way from code to plain Lean, put together. No statement is proved here. -/
import Derived.Test.YtmjijggkdbiijaaA1
import Derived.Great.FillDense
import Derived.Great.BuildSlice
/- New slices, parts at an index, function values. No statement is proved here. -/
namespace Go.Proofs.Ytmjijggkdbiijaa
open Go.RowKit
set_option linter.unusedVariables false
set_option linter.unusedSimpArgs false
/-- What the slots of F hold may be held by others from now on: nobody writes it any more. -/
def frzL (F : List Nat) (lab : Lab) : Lab := fun g =>
  match lab g with
  | some (M, 0, m) => if F.contains M then none else some (M, 0, m)
  | x => x
theorem frzL_none {F : List Nat} {lab : Lab} {g : Nat} (h : lab g = none) : frzL F lab g = none := by simp [frzL, h]
theorem frzL_some {F : List Nat} {lab : Lab} {g : Nat} {p : Nat × Nat × Nat} (h : frzL F lab g = some p) : lab g = some p := by
  unfold frzL at h
  split at h
  · split at h
    · cases h
    · rename_i h1 _; rw [h1]; exact h
  · exact h
theorem frzL_other {F : List Nat} {lab : Lab} {g M k m : Nat} (hM : M ∉ F) (h : lab g = some (M, k, m)) : frzL F lab g = some (M, k, m) := by
  simp only [frzL, h]
  split
  · rename_i e
    simp only [Option.some.injEq, Prod.mk.injEq] at e
    obtain ⟨rfl, rfl, rfl⟩ := e
    rw [if_neg (by simpa using hM)]
  · rfl
theorem frzL_in {F : List Nat} {lab : Lab} {g M m : Nat} (hM : M ∈ F) (h : lab g = some (M, 0, m)) : frzL F lab g = none := by
  simp only [frzL, h]; rw [if_pos (by simpa using hM)]
section
variable {P : Program} {Γ : Ctx} {w0 : World} {K : Nat → Prop} {lab lab' : Lab} {σ : List Slot} {a : Act} {w w' : World} {C : List Nat} {o : Oper} {pre fact : List Prop} {ws : Wr}
theorem Fz.frz {F : List Nat} {g : Nat} (h : Fz lab w g) : Fz (frzL F lab) w g := ⟨frzL_none h.1, h.2⟩
theorem good_nilCheck (h : Sim w0 K lab σ a w) (hR : Rt C σ) (hC : True) {x : Operand} (ho : o.op = .nilCheck x)
    (hrun : (evNilCheck Γ C o x).run σ = some (.pure pre fact ws)) (hp : allP pre) : Good P C w0 K lab o σ a w fact ws := by
  cases x with
  | tmp n =>
    have hev : a.eval (.tmp n) = a.tmps.getD n undef := rfl
    have hn := h.slots n
    have key : ((∃ p, a.eval (.tmp n) = .pointer (some p)) ∨ ∃ f x y, a.eval (.tmp n) = .func (.func f) x y) → (evMove Γ C o (.tmp n)).run σ = some (.pure pre fact ws) → Good P C w0 K lab o σ a w fact ws := by
      intro hv hm
      refine good_mv h hR hC (.inl ?_) hm hp
      unfold execOp
      rcases hv with ⟨p, e⟩ | ⟨f, y, z, e⟩ <;> simp [ho, e]
    simp only [evNilCheck, RM.run] at hrun
    generalize hσ : σ.getD n .dead = s at hrun hn
    rw [← hev] at hn
    split at hrun
    · obtain ⟨cs, ⟨vs, rfl, _⟩, e⟩ := hn
      exact key (.inr ⟨_, _, _, e⟩) hrun
    · obtain ⟨cs, ⟨vs, rfl, _⟩, e⟩ := hn
      exact key (.inr ⟨_, _, _, e⟩) hrun
    · obtain ⟨cs, ⟨g, of, ds, rfl, _⟩, e⟩ := hn
      exact key (.inl ⟨_, e⟩) hrun
    · obtain ⟨g, ty, cs, e, _⟩ := hn
      exact key (.inl ⟨_, e⟩) hrun
    · obtain ⟨g, ty, cs, e, _⟩ := hn
      exact key (.inl ⟨_, e⟩) hrun
    · obtain ⟨g, of, t, u, _, _, _, _, e⟩ := hn
      exact key (.inl ⟨_, e⟩) hrun
    · obtain ⟨te, e', u, g, of, len, c, _, _, _, _, e⟩ := hn
      exact key (.inl ⟨_, e⟩) hrun
    · simp [RM.run] at hrun
  | _ => simp [evNilCheck, RM.run] at hrun
/-- A new slice of one's own. -/
theorem good_fresh (h : Sim w0 K lab σ a w) (hR : Rt C σ) (hC : True) {te : Nat} {e : Ty} {xs : (Ty.slice te e).T} {cells : Array Value} {ws0 : Wr} {pre0 fact0 : List Prop}
    (hrun : (put C o (.own (.slice te e) xs) ws0 pre0 fact0).run σ = some (.pure pre fact ws)) (hp : allP pre) (hf : allP pre0 → allP fact0)
    (hv : allP pre0 → Runs P o a w (.slice (some ⟨w.heap.size, 0, none⟩) xs.length xs.length) (w.alloc (.cells cells te)) ∧ cells.size = xs.length * e.sz ∧ xs.length ≤ 9223372036854775807 ∧ ∀ j (hj : j < xs.length), Imm w (Fz (dropL (ws0.map (·.1)) lab) w) e xs[j] ((cells.toList.drop (j * e.sz)).take e.sz))
    (hws : ∀ x ∈ ws0, x.2.root = none ∧ SlotOk (dropL (ws0.map (·.1)) lab) w [] #[] x.1 x.2 (a.tmps.getD x.1 undef) ∧ (x.2 = .dead ∨ (σ.getD x.1 .dead).root ≠ none ∨ (x.2.rty = (σ.getD x.1 .dead).rty ∧ x.2.vty = (σ.getD x.1 .dead).vty ∧ ∀ g, lab g = some (x.1, 0, 0) → w.heap[g]? = w.heap[g]?))) :
    Good P C w0 K lab o σ a w fact ws := by
  obtain ⟨N, kk, ks, hd, _, hne, _, _, e1⟩ := put_run hrun
  have hpre : pre = pre0 := by simp only [Eff.pure.injEq] at e1; exact e1.1
  have hp0 : allP pre0 := hpre ▸ hp
  obtain ⟨hv, hsz, hbd, hel⟩ := hv hp0
  obtain ⟨lab1, hl1⟩ : ∃ lab1, lab1 = dropL (ws0.map (·.1)) lab := ⟨_, rfl⟩
  rw [← hl1] at hws hel
  have lt1 : ∀ {g : Nat} {p : Nat × Nat × Nat}, lab1 g = some p → lab g = some p := fun hg => by rw [hl1] at hg; exact dropL_some hg
  have old : ∀ {g : Nat}, g < w.heap.size → newL w (N, 0, 1) lab1 g = lab1 g := fun hg => by simp only [newL]; rw [if_neg (by omega)]
  have som : ∀ {g : Nat} {p : Nat × Nat × Nat}, newL w (N, 0, 1) lab1 g = some p → g = w.heap.size ∨ lab1 g = some p := fun {g p} hg => by
    by_cases e : g = w.heap.size
    · exact .inl e
    · simp only [newL] at hg; rw [if_neg e] at hg; exact .inr hg
  have fz : ∀ g, Fz lab1 w g → Fz (newL w (N, 0, 1) lab1) (w.alloc (.cells cells te)) g ∧ (w.alloc (.cells cells te)).heap[g]? = w.heap[g]? := fun g hg =>
    ⟨⟨by rw [old hg.2]; exact hg.1, by simp; have := hg.2; omega⟩, heap_alloc_old w _ hg.2⟩
  refine good_putT h hR hC hrun hp (lab' := newL w (N, 0, 1) lab1) (w' := w.alloc (.cells cells te)) (fun _ => hv) hf (h.fr.alloc h.kb _) (fun g p hg => ?_) (fun g p hg => ?_) (fun g hg => fz g (by rw [hl1]; exact hg.drop)) (fun N' hd' M hM hMx g k m hg => ?_) (fun N' hd' => ?_) (fun N' hd' hne' x hx => ?_)
  · rcases som hg with e | e
    · simp; omega
    · have := h.lt g p (lt1 e); simp; omega
  · rcases som hg with e | e
    · intro hk; have := h.kb g hk; have := h.fr.size; omega
    · exact h.kl g p (lt1 e)
  · have := h.lt g _ hg
    refine ⟨?_, heap_alloc_old w _ this⟩
    rw [old this, hl1]
    refine dropL_other (fun hm => ?_) hg
    obtain ⟨x, hx, rfl⟩ := List.mem_map.1 hm
    exact hMx x hx rfl
  · rw [hd] at hd'; obtain rfl := Option.some.inj hd'
    refine ⟨rfl, [.slice (some ⟨w.heap.size, 0, none⟩) xs.length xs.length], rfl, ?_⟩
    simp only [Own]
    refine ⟨hbd, _, cells.toList, rfl, World.ownsRow_lit w cells xs.length (Nat.zero_le _) (by unfold maxLen; omega) hsz, fun g hg => ?_, fun j hj => (hel j hj).keep fz⟩
    simp only [Value.ownBlock, Option.some.injEq] at hg
    subst hg
    simp [Lb, newL]
  · obtain ⟨r1, r2, r3⟩ := hws x hx
    refine ⟨r1, ?_, ?_⟩
    · refine r2.keep ⟨fz, fun g k m hg => ?_⟩ (fun M hM => by rw [r1] at hM; cases hM)
      have hlt := h.lt g _ (lt1 hg)
      exact ⟨by rw [old hlt]; exact hg, heap_alloc_old w _ hlt⟩
    · rcases r3 with r3 | r3 | ⟨r3, r4, _⟩
      · exact .inl r3
      · exact .inr (.inl r3)
      · exact .inr (.inr ⟨r3, r4, fun g hg => heap_alloc_old w _ (h.lt g _ hg)⟩)
theorem made_part {z : Array Value} {sz n j : Nat} (hz : z.size = sz) (hp : 0 < sz) (hj : j < n) : ((madeCells z (n * sz)).toList.drop (j * sz)).take sz = z.toList := by
  have hle : j * sz + sz ≤ n * sz := by rw [← Nat.succ_mul]; exact Nat.mul_le_mul_right _ hj
  apply List.ext_getElem?
  intro r
  by_cases hr : r < sz
  · rw [List.getElem?_take_of_lt hr, List.getElem?_drop]
    have h1 : j * sz + r < (madeCells z (n * sz)).size := by rw [size_madeCells]; omega
    rw [Array.getElem?_toList, Array.getElem?_eq_getElem h1]
    simp only [madeCells, Array.getElem_map, Array.getElem_range]
    have h2 : (j * sz + r) % z.size = r := by rw [hz, Nat.mul_comm, Nat.mul_add_mod, Nat.mod_eq_of_lt hr]
    rw [h2, Array.getElem?_toList, Array.getElem?_eq_getElem (by omega)]
    simp [getElem!_pos, hz, hr]
  · rw [List.getElem?_eq_none (by simp; omega), List.getElem?_eq_none (by simp; omega)]
theorem good_makeSlice (h : Sim w0 K lab σ a w) (hR : Rt C σ) (hC : True) (hT : TyOk P Γ) {T : Nat} {x y : Operand} (ho : o.op = .makeSlice T x y)
    (hrun : (evMakeSlice Γ C o T x y).run σ = some (.pure pre fact ws)) (hp : allP pre) : Good P C w0 K lab o σ a w fact ws := by
  unfold evMakeSlice at hrun
  obtain ⟨⟨k, n⟩, h1, h2⟩ := bind_run hrun
  obtain ⟨⟨k', m⟩, h3, h4⟩ := bind_run h2
  obtain ⟨x1, _⟩ := rdInt_run h h1
  obtain ⟨y1, _⟩ := rdInt_run h h3
  simp only at h4
  split at h4
  · rename_i te e hTy
    split at h4
    · rename_i hk
      obtain ⟨rfl, rfl⟩ := hk
      obtain ⟨hu, hte, hsz⟩ := (hT.ty T _ hTy).slice te e rfl
      obtain ⟨i, hi, hisz, hby, z, hz1, hz2⟩ := (hT.ty te e hte).info
      have hzl : z.cells.size = e.sz := by
        have := (zero_imm (w := w) (S := fun _ => True) (t := e)).len
        rw [← hz2] at this; simpa using this
      refine good_fresh h hR hC h4 hp (fun _ => trivial) (cells := madeCells z.cells (n.toNat * e.sz)) (fun hp0 => ?_) (by simp)
      obtain ⟨⟨c1, c2, c3⟩, _⟩ := hp0
      subst c2
      have hl : (List.replicate n.toNat e.zero).length = n.toNat := List.length_replicate
      refine ⟨.inl ?_, ?_, ?_, fun j hj => ?_⟩
      · rw [hl]
        have hr := run_make (P := P) w T te i z hu hi hz1 .i64 .i64 n n c1 (Int.le_refl _) (by
          have : (i.bytes : Int) * n ≤ 32768 * n := Int.mul_le_mul_of_nonneg_right (by omega) c1
          omega) (by omega)
        unfold execOp
        simp [ho, x1, y1, hr, hisz]
      · rw [hl, size_madeCells]
      · rw [hl]; omega
      · rw [hl] at hj
        rw [made_part hzl hsz hj, hz2]
        have : (List.replicate n.toNat e.zero)[j]'(by rw [hl]; exact hj) = e.zero := List.getElem_replicate _
        rw [this]
        exact zero_imm
    · simp [RM.run] at h4
  · simp [RM.run] at h4
end
end Go.Proofs.Ytmjijggkdbiijaa
/- Parts at an index, function values. No statement is proved here. -/
namespace Go.Proofs.Ytmjijggkdbiijaa
open Go.RowKit
set_option linter.unusedVariables false
set_option linter.unusedSimpArgs false
section
variable {P : Program} {Γ : Ctx} {w0 : World} {K : Nat → Prop} {lab lab' : Lab} {σ : List Slot} {a : Act} {w w' : World} {C : List Nat} {o : Oper} {pre fact : List Prop} {ws : Wr}
theorem captures_run (h : Sim w0 K lab σ a w) : ∀ (xs : List Operand) (cs : List (D × Wr)), (captures xs).run σ = some cs → ∀ F : List Nat, (∀ e ∈ cs.flatMap (·.2), e.1 ∈ F) →
    RepC w (Fz (frzL F lab) w) (dsOf (cs.map (·.1))) (xs.map a.eval) ∧
    ∀ e ∈ cs.flatMap (·.2), e.2.root = none ∧ SlotOk (frzL F lab) w [] #[] e.1 e.2 (a.tmps.getD e.1 undef) ∧ (e.2 = .dead ∨ (σ.getD e.1 .dead).root ≠ none ∨ (e.2.rty = (σ.getD e.1 .dead).rty ∧ e.2.vty = (σ.getD e.1 .dead).vty ∧ ∀ g, lab g = some (e.1, 0, 0) → w.heap[g]? = w.heap[g]?))
  | [], cs, hr, F, hF => by
    simp only [captures, RM.run, Option.some.injEq] at hr; subst hr
    exact ⟨rfl, by simp⟩
  | x :: xs, cs, hr, F, hF => by
    cases x with
    | tmp n =>
      simp only [captures, RM.run] at hr
      have hn := h.slots n
      generalize hσ : σ.getD n .dead = s at hr hn
      have ref : ∀ {d : D} {g : Nat} {ty : TypeId} {ds : List Value}, n ∈ F → a.tmps.getD n undef = .pointer (some ⟨g, 0, none⟩) → lab g = some (n, 0, 0) → w.heap[g]? = some (.cells ds.toArray ty (0, 0)) → RepC w (Fz (frzL F lab) w) d ds →
          RepC w (Fz (frzL F lab) w) (.ref d) [a.tmps.getD n undef] := by
        intro d g ty ds hm e hl hc hrep
        refine ⟨g, 0, ds, by rw [e], ⟨frzL_in hm hl, h.lt _ _ hl⟩, fun j v hv => ?_, hrep⟩
        rw [Nat.zero_add, cell_of_row w g j ds.toArray ty (0, 0) hc]; simpa using hv
      split at hr
      · rename_i d
        obtain ⟨r, h1, h2⟩ := bind_run hr
        simp only [RM.run, Option.some.injEq] at h2; subst h2
        obtain ⟨q1, q2⟩ := captures_run h xs r h1 F (fun e he => hF e (by simp only [List.flatMap_cons]; exact List.mem_append_right _ he))
        obtain ⟨g, ty, ds, e1, e2, e3, e4⟩ := hn
        have hm : n ∈ F := hF (n, .val (.ref d)) (by simp)
        have hv : RepC w (Fz (frzL F lab) w) (.ref d) [a.tmps.getD n undef] := ref hm e1 e2 e3 (e4.keep fun g hg => ⟨hg.frz, rfl⟩)
        refine ⟨⟨[a.tmps.getD n undef], xs.map a.eval, rfl, hv, q1⟩, fun e he => ?_⟩
        simp only [List.flatMap_cons, List.mem_append, List.mem_singleton] at he
        rcases he with rfl | he
        · refine ⟨rfl, ⟨_, hv, rfl⟩, .inr (.inr ⟨?_, ?_, fun _ _ => rfl⟩)⟩
          · rw [hσ]; cases d <;> rfl
          · rw [hσ]; rfl
        · exact q2 e he
      · rename_i t y
        obtain ⟨r, h1, h2⟩ := bind_run hr
        simp only [RM.run, Option.some.injEq] at h2; subst h2
        obtain ⟨q1, q2⟩ := captures_run h xs r h1 F (fun e he => hF e (by simp only [List.flatMap_cons]; exact List.mem_append_right _ he))
        obtain ⟨g, ty, ds, e1, e2, e3, e4⟩ := hn
        have hm : n ∈ F := hF (n, .val (.ref (.dat t y))) (by simp)
        have hv : RepC w (Fz (frzL F lab) w) (.ref (.dat t y)) [a.tmps.getD n undef] := ref hm e1 e2 e3 (e4.imm (fun g hg => hg.frz) (fun i g hg => ⟨frzL_in hm hg, h.lt _ _ hg⟩))
        refine ⟨⟨[a.tmps.getD n undef], xs.map a.eval, rfl, hv, q1⟩, fun e he => ?_⟩
        simp only [List.flatMap_cons, List.mem_append, List.mem_singleton] at he
        rcases he with rfl | he
        · refine ⟨rfl, ⟨_, hv, rfl⟩, .inr (.inr ⟨?_, ?_, fun _ _ => rfl⟩)⟩
          · rw [hσ]; rfl
          · rw [hσ]; rfl
        · exact q2 e he
      · rename_i d
        obtain ⟨r, h1, h2⟩ := bind_run hr
        simp only [RM.run, Option.some.injEq] at h2; subst h2
        obtain ⟨q1, q2⟩ := captures_run h xs r h1 F (fun e he => hF e (by simp only [List.flatMap_cons]; exact List.mem_append_right _ he))
        obtain ⟨c1, e1, e2⟩ := hn
        refine ⟨⟨c1, xs.map a.eval, ?_, e1.keep fun g hg => ⟨hg.frz, rfl⟩, q1⟩, fun e he => ?_⟩
        · show a.tmps.getD n undef :: _ = _
          rw [e2]
        · simp only [List.flatMap_cons, List.nil_append] at he
          exact q2 e he
      · simp [RM.run] at hr
    | _ => simp [captures, RM.run] at hr
theorem good_makeFunc (h : Sim w0 K lab σ a w) (hR : Rt C σ) (hC : True) {fn : Fn} {x y : Array Operand} (ho : o.op = .makeFunc fn x y)
    (hrun : (evMakeFunc C o fn x.toList y.toList).run σ = some (.pure pre fact ws)) (hp : allP pre) : Good P C w0 K lab o σ a w fact ws := by
  unfold evMakeFunc at hrun
  split at hrun
  · rename_i f hx
    obtain ⟨cs, h1, h2⟩ := bind_run hrun
    obtain ⟨q1, q2⟩ := captures_run h _ _ h1 ((cs.flatMap (·.2)).map (·.1)) (fun e he => List.mem_map.2 ⟨e, he, rfl⟩)
    have hv : Runs P o a w (.func (.func f) #[] (y.toList.map a.eval).toArray) w := by
      refine .inl ?_
      have hx' : x = #[] := by simpa using hx
      unfold execOp
      have hy : y.map a.eval = (y.toList.map a.eval).toArray := by apply Array.ext'; simp
      simp [ho, Instr.makeFunc, hx', hy]
    refine good_putT h hR hC h2 hp (lab' := frzL ((cs.flatMap (·.2)).map (·.1)) lab) (fun _ => hv) (fun _ => trivial) h.fr (fun g p hg => h.lt g p (frzL_some hg)) (fun g p hg => h.kl g p (frzL_some hg)) (fun g hg => ⟨hg.frz, rfl⟩)
      (fun N hd M hM hMx g k m hg => ⟨frzL_other ?_ hg, rfl⟩) (fun N hd => ⟨rfl, ⟨_, ⟨_, rfl, q1⟩, rfl⟩⟩) (fun N hd hne e he => q2 e he)
    intro hm
    obtain ⟨e, he, rfl⟩ := List.mem_map.1 hm
    exact hMx e he rfl
  · rename_i f x0 xs hx
    split at hrun
    case isFalse => simp [RM.run] at hrun
    rename_i hye
    have hy0 : y = #[] := by simpa using hye
    obtain ⟨cs, h1, h2⟩ := bind_run hrun
    rw [← hx] at h1
    obtain ⟨q1, q2⟩ := captures_run h _ _ h1 ((cs.flatMap (·.2)).map (·.1)) (fun e he => List.mem_map.2 ⟨e, he, rfl⟩)
    have hv : Runs P o a w (.func (.func f) (x.toList.map a.eval).toArray #[]) w := by
      refine .inl ?_
      unfold execOp
      have hy : x.map a.eval = (x.toList.map a.eval).toArray := by apply Array.ext'; simp
      simp [ho, Instr.makeFunc, hy0, hy]
    refine good_putT h hR hC h2 hp (lab' := frzL ((cs.flatMap (·.2)).map (·.1)) lab) (fun _ => hv) (fun _ => trivial) h.fr (fun g p hg => h.lt g p (frzL_some hg)) (fun g p hg => h.kl g p (frzL_some hg)) (fun g hg => ⟨hg.frz, rfl⟩)
      (fun N hd M hM hMx g k m hg => ⟨frzL_other ?_ hg, rfl⟩) (fun N hd => ⟨rfl, ⟨_, ⟨_, rfl, q1⟩, rfl⟩⟩) (fun N hd hne e he => q2 e he)
    intro hm
    obtain ⟨e, he, rfl⟩ := List.mem_map.1 hm
    exact hMx e he rfl
  · simp [RM.run] at hrun
theorem good_index (h : Sim w0 K lab σ a w) (hR : Rt C σ) (hC : True) (hT : TyOk P Γ) {T : Nat} {x y : Operand} (ho : o.op = .index T x y)
    (hrun : (evIndex Γ C o T x y).run σ = some (.pure pre fact ws)) (hp : allP pre) : Good P C w0 K lab o σ a w fact ws := by
  unfold evIndex at hrun
  obtain ⟨⟨k, i⟩, h1, h2⟩ := bind_run hrun
  obtain ⟨y1, _⟩ := rdInt_run h h1
  simp only at h2
  obtain ⟨d, h3, h4⟩ := bind_run h2
  have h5 := rdD_run h h3
  split at h4
  · rename_i n e xs
    split at h4
    · rename_i hc
      simp only [Bool.and_eq_true, beq_iff_eq] at hc
      obtain ⟨hf, hty⟩ := hc
      obtain ⟨te, hu, hte⟩ := (hT.ty T _ hty).arr n e rfl
      obtain ⟨cs, c1, c2⟩ := h5
      simp only [RepC, Imm] at c1
      obtain ⟨c3, c4, c5⟩ := c1
      have hx : a.eval x = .agg cs.toArray := by rw [c2]; rfl
      have hsem : allP [0 ≤ i ∧ i < (n : Int)] → Imm w (All w) e (xs.getD i.toNat e.zero) ((cs.drop (i.toNat * e.sz)).take e.sz) := by
        rintro ⟨⟨i1, i2⟩, _⟩
        have hlt : i.toNat < xs.length := by rw [c3]; omega
        have := c5 i.toNat hlt
        rwa [show xs.getD i.toNat e.zero = xs[i.toNat] from by simp [List.getD_eq_getElem?_getD, hlt]]
      refine good_put h hR hC h4 (v := e.mk ((cs.drop (i.toNat * e.sz)).take e.sz)) (fun hp0 => fact_dat (hsem hp0).ok) (fun hp0 => .inl ?_) (fun hp0 N _ => RepV.flat hf (rep_mk (hsem hp0))) hp
      have himm := hsem hp0
      obtain ⟨⟨i1, i2⟩, _⟩ := hp0
      obtain ⟨du, hdu, hru⟩ := (hT.ty te e hte).row
      obtain ⟨ii, hi, hsz, _⟩ := (hT.ty te e hte).info
      have hpart : (part te cs.toArray (i.toNat * e.sz)).run P w = .ok (e.mk ((cs.drop (i.toNat * e.sz)).take e.sz)) w := by
        unfold part
        cases hg : e.agg with
        | true =>
          rw [hg] at hru
          rw [Sem.run_bind, isAgg_yes hdu hru w, mk_agg hg]
          simp [sizeOf, typeInfo, hi, hsz]
        | false =>
          rw [hg] at hru
          rw [Sem.run_bind, isAgg_no hdu hru w]
          have hl := himm.len.trans (sz_one hg)
          obtain ⟨v, hq⟩ := List.length_eq_one_iff.1 hl
          have e1 : ((cs.drop (i.toNat * e.sz)).take e.sz)[0]? = some v := by rw [hq]; rfl
          rw [List.getElem?_take_of_lt (by rw [sz_one hg]; omega), List.getElem?_drop, Nat.add_zero] at e1
          rw [hq, mk_one hg]
          simp [e1]
      unfold execOp
      simp [ho, hx, y1, Instr.index, run_underlying hu, asIntOf, sizeOf, typeInfo, hi, hsz, i1, i2, hpart]
    · simp [RM.run] at h4
  · rename_i s
    obtain ⟨cs, c1, c2⟩ := h5
    simp only [RepC, Imm] at c1
    obtain ⟨rfl, c3⟩ := c1
    have hx : a.eval x = .string s := c2
    split at h4
    · rename_i hst
      have hu := (hT.ty T _ hst).str rfl
      refine good_put h hR hC h4 (v := .int .u8 ((s.data.getD i.toNat 0).toNat : Int)) (fun _ => trivial) (fun hp0 => .inl ?_) (fun hp0 N _ => int_rep ?_) hp
      · obtain ⟨⟨i1, i2⟩, _⟩ := hp0
        have hlt : i.toNat < s.size := by omega
        have hs : s[i.toNat]? = some (s.data.getD i.toNat 0) := by
          rw [getElem?_pos s i.toNat hlt]
          congr 1
          have : i.toNat < s.data.size := hlt
          show s.data[i.toNat] = _
          simp [Array.getD, this, hlt]
        unfold execOp
        simp [ho, hx, y1, Instr.index, run_underlying hu, asIntOf, i1, hs]
      · have := (s.data.getD i.toNat 0).toNat_lt
        simp only [inR, loK, hiK]; omega
    · simp [RM.run] at h4
  · simp [RM.run] at h4
end
end Go.Proofs.Ytmjijggkdbiijaa
/- Lists and structs that are written out. No statement is proved here. -/
namespace Go.Proofs.Ytmjijggkdbiijaa
open Go.RowKit
set_option linter.unusedVariables false
set_option linter.unusedSimpArgs false
inductive Al2 {α β : Type} (R : α → β → Prop) : List α → List β → Prop where
  | nil : Al2 R [] []
  | cons {x : α} {y : β} {xs : List α} {ys : List β} (h : R x y) (t : Al2 R xs ys) : Al2 R (x :: xs) (y :: ys)
theorem Al2.imp {α β : Type} {R S : α → β → Prop} (f : ∀ x y, R x y → S x y) : ∀ {xs : List α} {ys : List β}, Al2 R xs ys → Al2 S xs ys
  | _, _, .nil => .nil
  | _, _, .cons h t => .cons (f _ _ h) (t.imp f)
theorem Al2.mem {α β : Type} {R : α → β → Prop} : ∀ {xs : List α} {ys : List β}, Al2 R xs ys → ∀ y ∈ ys, ∃ x ∈ xs, R x y
  | _, _, .nil, y, h => by cases h
  | _, _, .cons h t, y, hy => by
    rcases List.mem_cons.1 hy with rfl | hy
    · exact ⟨_, by simp, h⟩
    · obtain ⟨x, h1, h2⟩ := t.mem y hy
      exact ⟨x, by simp [h1], h2⟩
theorem Al2.with {α β : Type} {R : α → β → Prop} : ∀ {xs : List α} {ys : List β}, Al2 R xs ys → Al2 (fun x y => R x y ∧ y ∈ ys) xs ys
  | _, _, .nil => .nil
  | _, _, .cons h t => .cons ⟨h, by simp⟩ (t.with.imp fun x y hh => ⟨hh.1, by simp [hh.2]⟩)
section
variable {P : Program} {Γ : Ctx} {w0 : World} {K : Nat → Prop} {lab lab' : Lab} {σ : List Slot} {a : Act} {w w' : World} {C : List Nat} {o : Oper} {pre fact : List Prop} {ws : Wr}
def TkOk (lab : Lab) (σ : List Slot) (a : Act) (w : World) (x : Operand) (k : Tk) : Prop :=
  (k.own = false ∧ RepV w (Fz lab w) k.d (a.eval x) ∧ k.mv = [] ∧ k.fz = []) ∨ (k.own = true ∧ ∃ t y, k.d = .dat t y ∧ Src lab σ a w x t y k.mv k.fz)
theorem takes_run (h : Sim w0 K lab σ a w) : ∀ {ps : List (Nat × Operand)} {ts : List Ty} {ks : List (Nat × Tk)}, (takes ps ts).run σ = some ks → Al2 (fun p q => p.1 = q.1 ∧ TkOk lab σ a w p.2 q.2) ps ks
  | [], ts, ks, hr => by simp only [takes, RM.run, Option.some.injEq] at hr; subst hr; exact .nil
  | (i, x) :: ps, ts, ks, hr => by
    simp only [takes] at hr
    obtain ⟨k, h1, h2⟩ := bind_run hr
    obtain ⟨r, h3, h4⟩ := bind_run h2
    simp only [RM.run, Option.some.injEq] at h4; subst h4
    exact .cons ⟨rfl, (take_run h h1).2⟩ (takes_run h h3)
theorem TkOk.share (h : Sim w0 K lab σ a w) {x : Operand} {k : Tk} (hk : TkOk lab σ a w x k) {F : List Nat} (hF : ∀ e ∈ k.fz, e.1 ∈ F) : RepV w (Fz (dropL F lab) w) k.d (a.eval x) ∧
    ∀ e ∈ k.fz, e.2.root = none ∧ SlotOk (dropL F lab) w [] #[] e.1 e.2 (a.tmps.getD e.1 undef) ∧ (e.2 = .dead ∨ (σ.getD e.1 .dead).root ≠ none ∨ (e.2.rty = (σ.getD e.1 .dead).rty ∧ e.2.vty = (σ.getD e.1 .dead).vty ∧ ∀ g, lab g = some (e.1, 0, 0) → w.heap[g]? = w.heap[g]?)) := by
  rcases hk with ⟨_, h1, _, h2⟩ | ⟨_, t, y, h1, h2⟩
  · exact ⟨h1.keep fun g hg => ⟨hg.drop, rfl⟩, by rw [h2]; simp⟩
  · rw [h1]; exact h2.share h hF
theorem flat_part {sz : Nat} : ∀ (css : List (List Value)), (∀ cs ∈ css, cs.length = sz) → ∀ (j : Nat) (hj : j < css.length), (css.flatten.drop (j * sz)).take sz = css[j]
  | [], _, j, hj => by simp at hj
  | cs :: css, hl, 0, _ => by
    have := hl cs (by simp)
    simp only [Nat.zero_mul, List.drop_zero, List.flatten_cons, List.getElem_cons_zero]
    rw [List.take_append_of_le_length (by omega), List.take_of_length_le (by omega)]
  | cs :: css, hl, j + 1, hj => by
    have h1 := hl cs (by simp)
    have h2 := flat_part css (fun c hc => hl c (by simp [hc])) j (by simpa using hj)
    simp only [List.flatten_cons, List.getElem_cons_succ]
    rw [List.drop_append, List.drop_eq_nil_of_le (by rw [h1, Nat.succ_mul]; omega), List.nil_append, h1, show (j + 1) * sz - sz = j * sz by rw [Nat.succ_mul]; omega, h2]
theorem elems_run (h : Sim w0 K lab σ a w) {e : Ty} {F : List Nat} : ∀ {ps : List (Nat × Operand)} {ks : List (Nat × Tk)} {j : Nat} {xs : List e.T}, Al2 (fun p q => p.1 = q.1 ∧ TkOk lab σ a w p.2 q.2) ps ks → elems e ks j = some xs → (∀ z ∈ ks.flatMap (·.2.fz), z.1 ∈ F) →
    ∃ css : List (List Value), ps.map (fun p => (p.1, a.eval p.2)) = ((css.map e.mk).zipIdx j).map (fun v => (v.2, v.1)) ∧ Al2 (fun x cs => Imm w (Fz (dropL F lab) w) e x cs) xs css
  | [], ks, j, xs, h2, hr, hF => by
    cases h2
    simp only [elems, Option.some.injEq] at hr; subst hr
    exact ⟨[], rfl, .nil⟩
  | (i, x) :: ps, _, j, xs, .cons (y := (i', k)) hk ht, hr, hF => by
    obtain ⟨e1, hk⟩ := hk
    simp only at e1 hk
    subst e1
    simp only [elems] at hr
    split at hr
    · rename_i hij; subst hij
      split at hr
      · rename_i y ys hy hys
        simp only [Option.some.injEq] at hr; subst hr
        obtain ⟨css, q1, q2⟩ := elems_run h ht hys (fun z hz => hF z (by simp only [List.flatMap_cons]; exact List.mem_append_right _ hz))
        obtain ⟨r1, _⟩ := hk.share h (F := F) (fun z hz => hF z (by simp only [List.flatMap_cons]; exact List.mem_append_left _ hz))
        rw [as_some hy] at r1
        obtain ⟨cs, c1, c2⟩ := r1
        refine ⟨cs :: css, ?_, .cons c1 q2⟩
        simp only [List.map_cons, List.zipIdx_cons]
        rw [q1, c2]; rfl
      · cases hr
    · cases hr
theorem Al2.len {α β : Type} {R : α → β → Prop} : ∀ {xs : List α} {ys : List β}, Al2 R xs ys → xs.length = ys.length
  | _, _, .nil => rfl
  | _, _, .cons _ t => by simp [t.len]
theorem Al2.get {α β : Type} {R : α → β → Prop} : ∀ {xs : List α} {ys : List β}, Al2 R xs ys → ∀ (j : Nat) (h1 : j < xs.length) (h2 : j < ys.length), R xs[j] ys[j]
  | _, _, .nil, j, h1, _ => by simp at h1
  | _, _, .cons h t, 0, _, _ => h
  | _, _, .cons h t, j + 1, h1, h2 => t.get j (by simpa using h1) (by simpa using h2)
theorem good_buildSlice (h : Sim w0 K lab σ a w) (hR : Rt C σ) (hC : True) (hT : TyOk P Γ) {T n : Nat} {ps : Array (Nat × Operand)} (ho : o.op = .buildSlice T n ps)
    (hrun : (evBuildSlice Γ C o T n ps.toList).run σ = some (.pure pre fact ws)) (hp : allP pre) : Good P C w0 K lab o σ a w fact ws := by
  unfold evBuildSlice at hrun
  split at hrun
  · rename_i te e hTy
    obtain ⟨ks, h1, h2⟩ := bind_run hrun
    split at h2
    · rename_i xs hxs
      split at h2
      · rename_i hn
        obtain ⟨hn, hsm⟩ := hn
        subst hn
        obtain ⟨hu, hte, hsz⟩ := (hT.ty T _ hTy).slice te e rfl
        obtain ⟨i, hi, hisz, hby, z, hz1, hz2⟩ := (hT.ty te e hte).info
        have hal := takes_run h h1
        obtain ⟨css, q1, q2⟩ := elems_run h hal hxs (F := (ks.flatMap (·.2.fz)).map (·.1)) (fun e he => List.mem_map.2 ⟨e, he, rfl⟩)
        have hlen : css.length = xs.length := q2.len.symm
        have hcs : ∀ cs ∈ css, cs.length = e.sz ∧ (e.mk cs).cells = cs.toArray := fun cs hc => by
          obtain ⟨x, _, hx⟩ := q2.mem cs hc
          exact ⟨hx.len, mk_cells hx.len hx.one⟩
        have hfl : (css.map e.mk).flatMap (fun v => v.cells.toList) = css.flatten := by
          clear q1 q2 hlen
          induction css with
          | nil => rfl
          | cons c r ih =>
            simp only [List.map_cons, List.flatMap_cons, List.flatten_cons]
            rw [ih (fun cs hc => hcs cs (by simp [hc])), (hcs c (by simp)).2]
        have hfsz : css.flatten.length = xs.length * e.sz := by
          rw [← hlen]
          clear q1 q2 hlen hfl
          induction css with
          | nil => simp
          | cons c r ih =>
            simp only [List.flatten_cons, List.length_append, List.length_cons]
            rw [ih (fun cs hc => hcs cs (by simp [hc])), (hcs c (by simp)).1, Nat.succ_mul]; omega
        refine good_fresh h hR hC h2 hp (fun _ => trivial) (cells := css.flatten.toArray) (fun _ => ⟨.inl ?_, by simpa using hfsz, ?_, fun j hj => ?_⟩) (fun x hx => ?_)
        · have hfill : Instr.fill (fun i => some (i * e.sz, e.sz)) (madeCells z.cells (xs.length * e.sz)) (ps.toList.map fun p => (p.1, a.eval p.2)) = some css.flatten.toArray := by
            rw [q1, ← hfl]
            exact Great.fill_whole hsz (css.map e.mk) _ (fun v hv => by
              obtain ⟨cs, hc, rfl⟩ := List.mem_map.1 hv
              rw [(hcs cs hc).2]; simpa using (hcs cs hc).1) (by rw [size_madeCells, List.length_map, hlen])
          have hrn : (Instr.buildSlice T xs.length (ps.map fun (i, x) => (i, a.eval x))).run P w = .ok (.slice (some ⟨w.heap.size, 0, none⟩) xs.length xs.length) (w.alloc (.cells css.flatten.toArray te)) := by
            by_cases h0 : xs.length * i.size = 0
            · have h0' : xs.length * e.sz = 0 := by rw [← hisz]; exact h0
              have hx0 : xs.length = 0 := by rcases Nat.mul_eq_zero.1 h0' with q | q <;> omega
              have hf0 : css.flatten = [] := List.eq_nil_of_length_eq_zero (by rw [hfsz, h0'])
              have hps : ps.toList.map (fun p => (p.1, a.eval p.2)) = [] := by
                rw [q1]
                have : css = [] := List.eq_nil_of_length_eq_zero (by omega)
                rw [this]; rfl
              have hps' : ps = #[] := by simpa using hps
              subst hps'
              simp [Instr.buildSlice, run_underlying hu, sizeOf, typeInfo, hi, h0, hf0, newRow, Instr.fill, hx0, Array.range_zero']
            · refine run_buildSlice w T te _ _ _ i z hu hi hz1 (by rw [hisz]; omega) h0 ?_
              rw [hisz, Array.toList_map]
              exact hfill
          unfold execOp
          simp only [ho]
          rw [Sem.run_bind, hrn]
          rfl
        · have : xs.length ≤ xs.length * e.sz := Nat.le_mul_of_pos_right _ hsz
          omega
        · show Imm _ _ _ _ ((css.flatten.drop _).take _)
          rw [flat_part css (fun cs hc => (hcs cs hc).1) j (by omega)]
          exact q2.get j hj (by omega)
        · obtain ⟨q, hq, hx⟩ := List.mem_flatMap.1 hx
          obtain ⟨p, _, _, hk⟩ := hal.mem q hq
          exact (hk.share h (F := (ks.flatMap (·.2.fz)).map (·.1)) (fun e he => List.mem_map.2 ⟨e, List.mem_flatMap.2 ⟨q, hq, he⟩, rfl⟩)).2 x hx
      · simp [RM.run] at h2
    · simp [RM.run] at h2
  · simp [RM.run] at hrun
end
end Go.Proofs.Ytmjijggkdbiijaa
/- Structs that are written out. No statement is proved here. -/
namespace Go.Proofs.Ytmjijggkdbiijaa
open Go.RowKit
set_option linter.unusedVariables false
set_option linter.unusedSimpArgs false
section
variable {P : Program} {Γ : Ctx} {w0 : World} {K : Nat → Prop} {lab lab' : Lab} {σ : List Slot} {a : Act} {w w' : World} {C : List Nat} {o : Oper} {pre fact : List Prop} {ws : Wr}
theorem fill_one {cs ds : List Value} {off : Nat} (h : off + ds.length ≤ cs.length) : ds.toArray.zipIdx.foldl (fun cs (x : Value × Nat) => cs.setIfInBounds (off + x.2) x.1) cs.toArray = (splice cs off ds).toArray := by
  rw [← Array.foldl_toList, Array.toList_zipIdx]
  obtain ⟨h1, h2⟩ := Go.Great.foldl_set off ds 0 cs.toArray
  apply Array.ext_getElem?
  intro k
  rw [show ds.toArray.toList = ds from rfl, h2 k]
  simp only [List.getElem?_toArray, List.size_toArray, Nat.add_zero]
  rw [splice_at h]
  by_cases h3 : off ≤ k ∧ k < off + ds.length ∧ k < cs.length
  · rw [if_pos h3, if_neg (by omega), if_pos (by omega)]
  · rw [if_neg h3]
    by_cases h4 : k < off
    · rw [if_pos h4]
    · rw [if_neg h4, if_neg (by omega)]
theorem mapM_all {α β : Type} {f : α → Option β} {g : α → β} : ∀ (l : List α), (∀ x ∈ l, f x = some (g x)) → l.mapM f = some (l.map g)
  | [], _ => rfl
  | x :: l, h => by simp [List.mapM_cons, h x (by simp), mapM_all l fun y hy => h y (by simp [hy])]
/-- The parts go in one by one. -/
theorem fill_parts {t : Ty} {n : Nat} {place : Nat → Option (Nat × Nat)} {Q : t.T → List Value → Prop} {R : Nat → D → List Value → Prop} (hl : ∀ x cs, Q x cs → cs.length = t.sz)
    (hst : ∀ i u (y : u.T) ds x z cs, i < n → Q x cs → setS t x (fldPath n i) u y = some z → R i (.dat u y) ds → ds.length = u.sz ∧ (u.mk ds).cells = ds.toArray ∧ t.off (fldPath n i) + u.sz ≤ t.sz ∧ place i = some (t.off (fldPath n i), u.sz) ∧ Q z (splice cs (t.off (fldPath n i)) ds)) (ev : Operand → Value) :
    ∀ {ps : List (Nat × Operand)} {ks : List (Nat × Tk)} {x z : t.T} {cs : List Value}, Al2 (fun p q => p.1 = q.1 ∧ ∃ ds, ev p.2 = q.2.d.mk ds ∧ R p.1 q.2.d ds) ps ks → fillS n ks t x = some z → Q x cs →
    ∃ cs', Instr.fill place cs.toArray (ps.map fun p => (p.1, ev p.2)) = some cs'.toArray ∧ Q z cs'
  | [], ks, x, z, cs, h2, hr, hq => by
    cases h2
    simp only [fillS, Option.some.injEq] at hr; subst hr
    exact ⟨cs, rfl, hq⟩
  | (i, e) :: ps, _, x, z, cs, .cons (y := (i', k)) hk ht, hr, hq => by
    obtain ⟨e1, ds, h1, h2⟩ := hk
    simp only at e1 h1 h2
    subst e1
    simp only [fillS] at hr
    split at hr
    · rename_i hi
      split at hr
      · rename_i u y hd
        rw [hd] at h1 h2
        split at hr
        · rename_i z' hz
          obtain ⟨q1, q2, q3, q4, q5⟩ := hst i u y ds x z' cs hi hq hz h2
          obtain ⟨cs', r1, r2⟩ := fill_parts hl hst ev ht hr q5
          refine ⟨cs', ?_, r2⟩
          have hlen := hl x cs hq
          have hv : (ev e).cells = ds.toArray := by rw [h1]; exact q2
          simp only [List.map_cons]
          unfold Instr.fill
          simp only [q4, hv, List.size_toArray]
          rw [if_neg (by simp; omega), fill_one (by omega)]
          exact r1
        · cases hr
      · cases hr
    · cases hr
theorem places_some {T : Nat} {t : Ty} (hI : TyI P Γ T t) (hT : TyOk P Γ) (hn : 0 < Γ.nf T) : ∃ (fs : Array Field) (pl : List (Nat × Nat)), P.underlying T = some (.struct fs) ∧ fs.toList.mapM (fun f => (P.info? f.type).map fun i => (f.offset, i.size)) = some pl ∧
    ∀ k, k < Γ.nf T → ∃ u, t.at (fldPath (Γ.nf T) k) = some u ∧ pl[k]? = some (t.off (fldPath (Γ.nf T) k), u.sz) := by
  obtain ⟨fs, _, _, hfs, _⟩ := hI.fld 0 hn
  have hnum := hI.num fs hfs
  have key : ∀ k, k < Γ.nf T → ∃ f u i, fs[k]? = some f ∧ t.at (fldPath (Γ.nf T) k) = some u ∧ P.info? f.type = some i ∧ f.offset = t.off (fldPath (Γ.nf T) k) ∧ i.size = u.sz := by
    intro k hk
    obtain ⟨fs', f, u, h1, h2, h3, h4, h5, _⟩ := hI.fld k hk
    rw [hfs] at h1
    simp only [Option.some.injEq, TypeDesc.struct.injEq] at h1
    subst h1
    obtain ⟨i, hi, hs, _⟩ := (hT.ty _ u h3).info
    exact ⟨f, u, i, h2, h4, hi, h5.symm, hs⟩
  have hall : ∀ f ∈ fs.toList, ∃ i, P.info? f.type = some i := by
    intro f hf
    obtain ⟨k, hk, rfl⟩ := List.getElem_of_mem hf
    obtain ⟨f', u, i, h1, _, h2, _⟩ := key k (by rw [← hnum]; simpa using hk)
    have : fs[k]? = some fs.toList[k] := by simp
    rw [this] at h1
    obtain rfl := Option.some.inj h1
    exact ⟨i, h2⟩
  refine ⟨fs, fs.toList.map fun f => (f.offset, ((P.info? f.type).map (·.size)).getD 0), hfs, ?_, fun k hk => ?_⟩
  · refine mapM_all _ fun f hf => ?_
    obtain ⟨i, hi⟩ := hall f hf
    simp [hi]
  · obtain ⟨f, u, i, h1, h2, h3, h4, h5⟩ := key k hk
    refine ⟨u, h2, ?_⟩
    rw [List.getElem?_map]
    simp [h1, h3, h4, h5]
theorem owned_nil : ∀ {ks : List (Nat × Tk)}, owned ks = [] → ∀ k ∈ ks, k.2.own = false
  | [], _, k, hk => by cases hk
  | k :: ks, h, k', hk => by
    simp only [owned] at h
    split at h
    · cases h
    · rename_i hf
      rcases List.mem_cons.1 hk with rfl | hk
      · simpa using hf
      · exact owned_nil h k' hk
theorem owned_one {R : Nat × Operand → Nat × Tk → Prop} {k : Nat × Tk} : ∀ {ps : List (Nat × Operand)} {ks : List (Nat × Tk)}, Al2 R ps ks → owned ks = [k] → ∃ p, R p k ∧ k.2.own = true ∧ Al2 (fun p' q => R p' q ∧ (q.2.own = true → p' = p ∧ q = k)) ps ks
  | _, _, .nil, h => by simp [owned] at h
  | _, _, .cons (x := p) (y := q) (xs := ps) (ys := ks) hk ht, h => by
    simp only [owned] at h
    split at h
    · rename_i ho
      simp only [List.cons.injEq] at h
      obtain ⟨rfl, h2⟩ := h
      have h3 := owned_nil h2
      refine ⟨p, hk, ho, .cons ⟨hk, fun _ => ⟨rfl, rfl⟩⟩ ((Al2.with ht).imp fun x y hh => ⟨hh.1, fun q => ?_⟩)⟩
      rw [h3 y hh.2] at q; cases q
    · rename_i ho
      obtain ⟨p', r1, r2, r3⟩ := owned_one ht h
      exact ⟨p', r1, r2, .cons ⟨hk, fun q => absurd q ho⟩ r3⟩
theorem good_build (h : Sim w0 K lab σ a w) (hR : Rt C σ) (hC : True) (hT : TyOk P Γ) {T : Nat} {ps : Array (Nat × Operand)} (ho : o.op = .build T ps)
    (hrun : (evBuild Γ C o T ps.toList).run σ = some (.pure pre fact ws)) (hp : allP pre) : Good P C w0 K lab o σ a w fact ws := by
  unfold evBuild at hrun
  split at hrun
  · rename_i n e hTy
    split at hrun
    · rename_i hps
      have hps' : ps = #[] := by simpa using hps
      subst hps'
      obtain ⟨i, hi, _, _, z, hz1, hz2⟩ := (hT.ty T _ hTy).info
      obtain ⟨te, hu, hte⟩ := (hT.ty T _ hTy).arr n e rfl
      obtain ⟨ii, hii, _⟩ := (hT.ty te e hte).info
      refine good_put h hR hC hrun (v := .agg (zc (Ty.arr n e)).toArray) (fun _ => trivial) (fun _ => .inl ?_) (fun _ N _ => ⟨zc (.arr n e), zero_imm, rfl⟩) hp
      have hrn := run_build (P := P) w T #[] (zc (Ty.arr n e)).toArray (by
        simp only [Program.built, hi, hu, hz1, hii, Instr.fill]
        rw [← hz2])
      unfold execOp
      simp [ho, hrn]
    · obtain ⟨ks, h1, h2⟩ := bind_run hrun
      split at h2
      · rename_i xs hxs
        split at h2
        · rename_i hn
          obtain ⟨hn, hef, hsz⟩ := hn
          subst hn
          obtain ⟨i, hi, hisz, hby, z, hz1, hz2⟩ := (hT.ty T _ hTy).info
          obtain ⟨te, hu, hte⟩ := (hT.ty T _ hTy).arr xs.length e rfl
          obtain ⟨ii, hii, hiisz, _⟩ := (hT.ty te e hte).info
          have hal := takes_run h h1
          obtain ⟨css, q1, q2⟩ := elems_run h hal hxs (F := (ks.flatMap (·.2.fz)).map (·.1)) (fun e he => List.mem_map.2 ⟨e, he, rfl⟩)
          have hlen : css.length = xs.length := q2.len.symm
          have hcs : ∀ cs ∈ css, cs.length = e.sz ∧ (e.mk cs).cells = cs.toArray := fun cs hc => by
            obtain ⟨x, _, hx⟩ := q2.mem cs hc
            exact ⟨hx.len, mk_cells hx.len hx.one⟩
          have hfl : (css.map e.mk).flatMap (fun v => v.cells.toList) = css.flatten := by
            clear q1 q2 hlen
            induction css with
            | nil => rfl
            | cons c r ih =>
              simp only [List.map_cons, List.flatMap_cons, List.flatten_cons]
              rw [ih (fun cs hc => hcs cs (by simp [hc])), (hcs c (by simp)).2]
          have hfsz : css.flatten.length = xs.length * e.sz := by
            rw [← hlen]
            clear q1 q2 hlen hfl
            induction css with
            | nil => simp
            | cons c r ih =>
              simp only [List.flatten_cons, List.length_append, List.length_cons]
              rw [ih (fun cs hc => hcs cs (by simp [hc])), (hcs c (by simp)).1, Nat.succ_mul]; omega
          have hzl : z.cells.size = xs.length * e.sz := by
            have := (zero_imm (w := w) (S := fun _ => True) (t := .arr xs.length e)).len
            rw [← hz2] at this; simpa [Ty.sz] using this
          refine good_put h hR hC h2 (v := .agg css.flatten.toArray) (fun _ => trivial) (fun _ => .inl ?_) (fun _ N _ => ⟨css.flatten, ?_, rfl⟩) hp
          · have hfill : Instr.fill (fun i => some (i * e.sz, e.sz)) z.cells (ps.toList.map fun p => (p.1, a.eval p.2)) = some css.flatten.toArray := by
              rw [q1, ← hfl]
              exact Great.fill_whole hsz (css.map e.mk) _ (fun v hv => by
                obtain ⟨cs, hc, rfl⟩ := List.mem_map.1 hv
                rw [(hcs cs hc).2]; simpa using (hcs cs hc).1) (by rw [hzl, List.length_map, hlen])
            have hrn := run_build (P := P) w T (ps.map fun (i, x) => (i, a.eval x)) css.flatten.toArray (by
              simp only [Program.built, hi, hu, hz1, hii, hiisz, Array.toList_map]
              exact hfill)
            unfold execOp
            simp only [ho]
            rw [Sem.run_bind, hrn]
            rfl
          · simp only [RepC, Imm]
            refine ⟨trivial, hfsz, fun j hj => ?_⟩
            rw [flat_part css (fun cs hc => (hcs cs hc).1) j (by omega)]
            exact Imm.flat hef (q2.get j hj (by omega))
        · simp [RM.run] at h2
      · simp [RM.run] at h2
  · rename_i t hnar hTy
    split at hrun
    · rename_i hn
      obtain ⟨ks, h1, h2⟩ := bind_run hrun
      have hal := takes_run h h1
      have hI := hT.ty T t hTy
      obtain ⟨fs, pl, hfs, hpl, hplace⟩ := places_some hI hT hn
      obtain ⟨i, hi, hisz, _, z, hz1, hz2⟩ := hI.info
      have hag : t.agg = true := by
        obtain ⟨d, hd, hr⟩ := hI.row
        rw [hfs] at hd; obtain rfl := Option.some.inj hd
        rw [← hr]
      have hrn : ∀ cs' : List Value, Instr.fill (fun i => pl[i]?) (zc t).toArray (ps.toList.map fun p => (p.1, a.eval p.2)) = some cs'.toArray → (execOp a.eval o).run P w = .ok (.value (t.mk cs')) w := by
        intro cs' hf
        have hb := run_build (P := P) w T (ps.map fun (i, x) => (i, a.eval x)) cs'.toArray (by
          simp only [Program.built, hi, hfs, hz1, hpl, Array.toList_map, List.getElem?_toArray]
          have hz : z.cells = (zc t).toArray := by rw [← hz2]
          rw [hz]
          exact hf)
        unfold execOp
        simp only [ho]
        rw [Sem.run_bind, hb, mk_agg hag]
        rfl
      have off : ∀ {i : Nat} {u : Ty} {y : u.T} {x x' : t.T}, i < Γ.nf T → setS t x (fldPath (Γ.nf T) i) u y = some x' → t.off (fldPath (Γ.nf T) i) + u.sz ≤ t.sz ∧ pl[i]? = some (t.off (fldPath (Γ.nf T) i), u.sz) := by
        intro i u y x x' hi hs
        obtain ⟨u', q1, q2⟩ := hplace i hi
        have q3 := set_at hs
        rw [q1] at q3
        obtain rfl := Option.some.inj q3
        exact ⟨Ty.off_le q1 (Ty.inb_flds (fldPath_no _ _)), q2⟩
      split at h2
      · rename_i x hx
        -- shared, or nothing of one's own in it
        have shared : (put C o (.val (.dat t x)) (ks.flatMap (·.2.fz))).run σ = some (.pure pre fact ws) → Good P C w0 K lab o σ a w fact ws := by
          intro hr
          obtain ⟨F, hF⟩ : ∃ F, F = (ks.flatMap (·.2.fz)).map (·.1) := ⟨_, rfl⟩
          have hFm : ∀ q ∈ ks, ∀ e ∈ q.2.fz, e.1 ∈ F := fun q hq e he => by rw [hF]; exact List.mem_map.2 ⟨e, List.mem_flatMap.2 ⟨q, hq, he⟩, rfl⟩
          have hal2 : Al2 (fun p q => p.1 = q.1 ∧ ∃ ds, a.eval p.2 = q.2.d.mk ds ∧ RepC w (Fz (dropL F lab) w) q.2.d ds) ps.toList ks := (Al2.with hal).imp fun p q hh => by
            obtain ⟨⟨e1, hk⟩, hq⟩ := hh
            obtain ⟨⟨ds, r1, r2⟩, _⟩ := hk.share h (F := F) (hFm q hq)
            exact ⟨e1, ds, r2, r1⟩
          obtain ⟨cs', f1, f2⟩ := fill_parts (t := t) (n := Γ.nf T) (place := fun i => pl[i]?) (Q := fun x cs => Imm w (Fz (dropL F lab) w) t x cs) (R := fun _ d ds => RepC w (Fz (dropL F lab) w) d ds) (fun x cs hq => hq.len)
            (fun i u y ds x z cs hi hq hs hr => by
              have hr' : Imm w (Fz (dropL F lab) w) u y ds := hr
              obtain ⟨o1, o2⟩ := off hi hs
              exact ⟨hr'.len, mk_cells hr'.len hr'.one, o1, o2, Imm.set hq hs (Ty.inb_flds (fldPath_no _ _)) hr'⟩) a.eval hal2 hx zero_imm
          refine good_putT h hR hC hr hp (lab' := dropL F lab) (fun _ => .inl (hrn cs' f1)) (fun _ => trivial) h.fr (fun g p hg => h.lt g p (dropL_some hg)) (fun g p hg => h.kl g p (dropL_some hg)) (fun g hg => ⟨hg.drop, rfl⟩) (fun N hd M hM hMx g j m hg => ⟨dropL_other ?_ hg, rfl⟩)
            (fun N hd => ⟨rfl, ⟨cs', f2, rfl⟩⟩) (fun N hd hne e he => ?_)
          · intro hm
            rw [hF] at hm
            obtain ⟨e, he, rfl⟩ := List.mem_map.1 hm
            exact hMx e he rfl
          · obtain ⟨q, hq, he⟩ := List.mem_flatMap.1 he
            obtain ⟨p, _, _, hk⟩ := hal.mem q hq
            exact (hk.share h (F := F) (hFm q hq)).2 e he
        split at h2
        · exact shared h2
        · rename_i hc
          simp only [Bool.or_eq_true, decide_eq_true_eq, Bool.not_eq_true', not_or, Bool.not_eq_false] at hc
          have hfl := List.all_eq_true.1 hc.2
          split at h2
          · rename_i hown
            have hno := owned_nil hown
            have hal2 : Al2 (fun p q => p.1 = q.1 ∧ ∃ ds, a.eval p.2 = q.2.d.mk ds ∧ (q.2.d.flat = true ∧ RepC w (Fz lab w) q.2.d ds)) ps.toList ks := (Al2.with hal).imp fun p q hh => by
              obtain ⟨⟨e1, hk⟩, hq⟩ := hh
              rcases hk with ⟨_, ⟨ds, r1, r2⟩, _⟩ | ⟨r1, _⟩
              · refine ⟨e1, ds, r2, ?_, r1⟩
                have := hfl q hq
                rw [hno q hq] at this
                simpa using this
              · rw [hno q hq] at r1; cases r1
            have base : ∀ N, ∃ cs', Instr.fill (fun i => pl[i]?) (zc t).toArray (ps.toList.map fun p => (p.1, a.eval p.2)) = some cs'.toArray ∧ Own w (Fz lab w) (Lb lab N 0) 0 t x cs' := fun N =>
              fill_parts (t := t) (n := Γ.nf T) (place := fun i => pl[i]?) (Q := fun x cs => Own w (Fz lab w) (Lb lab N 0) 0 t x cs) (R := fun _ d ds => d.flat = true ∧ RepC w (Fz lab w) d ds) (fun x cs hq => hq.len)
              (fun i u y ds x z cs hi hq hs hr => by
                have hr' : Imm w (Fz lab w) u y ds := hr.2
                obtain ⟨o1, o2⟩ := off hi hs
                exact ⟨hr'.len, mk_cells hr'.len hr'.one, o1, o2, Own.set hq hs (Ty.inb_flds (fldPath_no _ _)) (fun _ => fldPath_no _ _) (Own.of_imm (Ty.flat_lv hr.1) hr')⟩) a.eval hal2 hx zero_own
            obtain ⟨N, hd⟩ : ∃ N, o.dst = some N := by obtain ⟨N, _, _, hd, _⟩ := put_run h2; exact ⟨N, hd⟩
            obtain ⟨cs', f1, f2⟩ := base N
            refine good_putT h hR hC h2 hp (lab' := lab) (fun _ => .inl (hrn cs' f1)) (fun _ => trivial) h.fr h.lt h.kl (fun g hg => ⟨hg, rfl⟩) (fun N hd M hM hMx g j m hg => ⟨hg, rfl⟩) (fun N' hd' => ?_) (fun N hd hne e he => by cases he)
            rw [hd] at hd'; obtain rfl := Option.some.inj hd'
            exact ⟨rfl, cs', rfl, f2⟩
          · rename_i k hown
            obtain ⟨p0, ⟨e0, hk0⟩, hko, hal1⟩ := owned_one hal hown
            rcases hk0 with ⟨q1, _⟩ | ⟨_, u0, y0, q2, q3⟩
            · rw [hko] at q1; cases q1
            · obtain ⟨N, kk, ks', hd, _, hne, _⟩ := put_run h2
              obtain ⟨lab1, m1, m2, m3, ⟨cs0, m4, m4'⟩, _, m5⟩ := q3.move h hne (t.off (fldPath (Γ.nf T) p0.1))
              have hal2 : Al2 (fun p q => p.1 = q.1 ∧ ∃ ds, a.eval p.2 = q.2.d.mk ds ∧ ∃ u y, q.2.d = .dat u y ∧ Own w (Fz lab1 w) (Lb lab1 N 0) (t.off (fldPath (Γ.nf T) p.1)) u y ds) ps.toList ks := (Al2.with hal1).imp fun p q hh => by
                obtain ⟨⟨⟨e1, hk⟩, hkk⟩, hq⟩ := hh
                rcases hk with ⟨r0, ⟨ds, r1, r2⟩, _⟩ | ⟨r1, _⟩
                · have hf := hfl q hq
                  rw [r0] at hf
                  simp only [Bool.false_or] at hf
                  cases hqd : q.2.d with
                  | dat u y =>
                    rw [hqd] at hf r1 r2
                    have r1' : Imm w (Fz lab w) u y ds := r1
                    refine ⟨e1, ds, r2, u, y, rfl, Own.of_imm (Ty.flat_lv hf) (r1'.keep fun g hg => ⟨⟨(m1 g).2 hg.1, hg.2⟩, rfl⟩)⟩
                  | _ => rw [hqd] at hf; cases hf
                · obtain ⟨rfl, rfl⟩ := hkk r1
                  exact ⟨e1, cs0, by rw [q2]; exact m4, u0, y0, q2, m4'⟩
              obtain ⟨cs', f1, f2⟩ := fill_parts (t := t) (n := Γ.nf T) (place := fun i => pl[i]?) (Q := fun x cs => Own w (Fz lab1 w) (Lb lab1 N 0) 0 t x cs) (R := fun i d ds => ∃ u y, d = .dat u y ∧ Own w (Fz lab1 w) (Lb lab1 N 0) (t.off (fldPath (Γ.nf T) i)) u y ds) (fun x cs hq => hq.len)
                (fun i u y ds x z cs hi hq hs hr => by
                  obtain ⟨u', y', he, hr'⟩ := hr
                  obtain ⟨rfl, he⟩ := D.dat.inj he
                  obtain rfl := eq_of_heq he
                  obtain ⟨o1, o2⟩ := off hi hs
                  exact ⟨hr'.len, mk_cells hr'.len hr'.one, o1, o2, Own.set hq hs (Ty.inb_flds (fldPath_no _ _)) (fun _ => fldPath_no _ _) (by rw [Nat.zero_add]; exact hr')⟩) a.eval hal2 hx zero_own
              refine good_putT h hR hC h2 hp (lab' := lab1) (fun _ => .inl (hrn cs' f1)) (fun _ => trivial) h.fr (fun g p hg => ?_) (fun g p hg => ?_) (fun g hg => ⟨⟨(m1 g).2 hg.1, hg.2⟩, rfl⟩) (fun N' hd' M hM hMx g k m hg => ⟨?_, rfl⟩) (fun N' hd' => ?_) (fun N' hd' hne' => m5)
              · obtain ⟨q, hq⟩ := m2 g p hg; exact h.lt g q hq
              · obtain ⟨q, hq⟩ := m2 g p hg; exact h.kl g q hq
              · rw [hd] at hd'; obtain rfl := Option.some.inj hd'; exact m3 M hMx g k m hg
              · rw [hd] at hd'; obtain rfl := Option.some.inj hd'; exact ⟨rfl, cs', rfl, f2⟩
          · exact shared h2
      · simp [RM.run] at h2
    · simp [RM.run] at hrun
  · simp [RM.run] at hrun
end
end Go.Proofs.Ytmjijggkdbiijaa
/- Calls: arguments that are lent, answers that are new. No statement is proved here. -/
namespace Go.Proofs.Ytmjijggkdbiijaa
open Go.RowKit
set_option linter.unusedVariables false
set_option linter.unusedSimpArgs false
theorem Own.flatS {w : World} {S S' : Nat → Prop} {L L' : Nat → Nat → Prop} (hL : ∀ i g, L i g → L' i g) : ∀ {t : Ty} {i : Nat} {x : t.T} {cs : List Value}, t.ownFlat = true → Own w S L i t x cs → Own w S' L' i t x cs
  | .int _, _, _, _, hf, h => by simp only [Own] at h ⊢; exact Imm.flat hf h
  | .bool, _, _, _, hf, h => by simp only [Own] at h ⊢; exact Imm.flat hf h
  | .str, _, _, _, hf, h => by simp only [Own] at h ⊢; exact Imm.flat hf h
  | .unit, _, _, _, hf, h => by simp only [Own] at h ⊢; exact Imm.flat hf h
  | .arr _ _, _, _, _, hf, h => by simp only [Own] at h ⊢; exact Imm.flat hf h
  | .prod a b, i, x, cs, hf, h => by
    simp only [Ty.ownFlat, Bool.and_eq_true] at hf
    simp only [Own] at h ⊢
    exact ⟨Own.flatS hL hf.1 h.1, Own.flatS hL hf.2 h.2⟩
  | .slice te e, i, xs, cs, hf, h => by
    simp only [Own] at h ⊢
    obtain ⟨hl, v, flat, h1, h2, h3, h4⟩ := h
    exact ⟨hl, v, flat, h1, h2, fun g hg => hL i g (h3 g hg), fun j hj => Imm.flat hf (h4 j hj)⟩
  | .map k e, j, m, cs, hf, h => by
    simp only [Ty.ownFlat, Bool.and_eq_true] at hf
    simp only [Own] at h ⊢
    rcases h with h | ⟨b, xs, es, ck, h1, h2, h3, h4, h5, h6, h8, h7⟩
    · exact .inl h
    · refine .inr ⟨b, xs, es, ck, h1, h2, hL j b h3, h4, h5, h6, h8, fun i hi => ?_⟩
      obtain ⟨en, kc, vc, q1, q2, q3, q4, q5⟩ := h7 i hi
      exact ⟨en, kc, vc, q1, q2, q3, Imm.flat hf.1 q4, OwnE.of_imm hf.2 (Imm.flat hf.2 (OwnE.to_imm hf.2 q5))⟩
  | .fn _ _, _, _, _, hf, h => by simp [Ty.ownFlat, Ty.flat] at hf
/-- What a call gets to know of the labels. -/
def callL (fl : Bool) (lab : Lab) : Lab := fun g =>
  match fl, lab g with
  | true, some _ => some (D0, 0, 0)
  | _, _ => none
/-- Labels after a call that began in w. -/
def backL (w : World) (N : Nat) (lab lab' : Lab) : Lab := fun g =>
  if g < w.heap.size then lab g else match lab' g with
    | some (0, k, m) => some (N, k, m)
    | _ => none
section
variable {P : Program} {Γ : Ctx} {w0 : World} {K : Nat → Prop} {lab lab' : Lab} {σ : List Slot} {a : Act} {w w' : World} {C : List Nat} {o : Oper} {pre fact : List Prop} {ws : Wr}
theorem const_rep {ty : Option Ty} {v : Value} {s : Slot} (h : (constSlot ty v).run σ = some s) : (∀ d, s = .val d → ∀ S, RepV w S d v) ∧ ∀ t y, s = .own t y → ∀ S, RepV w S (.dat t y) v := by
  unfold constSlot at h
  split at h
  · simp only [RM.run, Option.some.injEq] at h; subst h
    exact ⟨fun d hd S => by cases hd; exact bool_rep, fun t y hd => by cases hd⟩
  · split at h
    · rename_i k n hr
      simp only [RM.run, Option.some.injEq] at h; subst h
      exact ⟨fun d hd S => by cases hd; exact int_rep hr, fun t y hd => by cases hd⟩
    · simp [RM.run] at h
  · split at h
    · rename_i s' hr
      simp only [RM.run, Option.some.injEq] at h; subst h
      exact ⟨fun d hd S => by cases hd; exact ⟨[.string s'], by simp only [RepC, Imm]; exact ⟨trivial, by omega⟩, rfl⟩, fun t y hd => by cases hd⟩
    · simp [RM.run] at h
  · split at h
    · rename_i te e
      simp only [RM.run, Option.some.injEq] at h; subst h
      refine ⟨fun d hd => (by cases hd), fun t y hd S => ?_⟩
      cases hd
      exact ⟨[nilV], by simp only [RepC, Imm]; exact ⟨by simp, none, 0, [], rfl, by simp, by simp [maxLen], by simp, by simp, by simp⟩, rfl⟩
    · simp [RM.run] at h
  · simp [RM.run] at h
/-- What the arguments are, to one who may read all, or only what is shared. -/
theorem argsOf_run (h : Sim w0 K lab σ a w) : ∀ (xs : List Operand) (ts : List (Option Ty)) (z : List D × Bool), (argsOf xs ts).run σ = some z → ∀ S : Nat → Prop, (∀ g, Fz lab w g → S g) → (z.2 = false → ∀ g, All w g → S g) → Al2 (fun x d => RepV w S d (a.eval x)) xs z.1
  | [], ts, z, hr, S, _, _ => by simp only [argsOf, RM.run, Option.some.injEq] at hr; subst hr; exact .nil
  | x :: xs, ts, z, hr, S, hS, hS' => by
    have cns : (∀ n, x ≠ .tmp n) → (do let z ← argsOf xs (ts.drop 1); match ← opv (ts.getD 0 none) x with | .val d => RM.ret (d :: z.1, z.2) | .own t y => RM.ret (D.dat t y :: z.1, z.2) | _ => RM.fail : RM (List D × Bool)).run σ = some z → Al2 (fun x d => RepV w S d (a.eval x)) (x :: xs) z.1 := by
      intro hx hr
      obtain ⟨z', h1, h2⟩ := bind_run hr
      obtain ⟨s, h3, h4⟩ := bind_run h2
      have hrep : (∀ d, s = .val d → ∀ S, RepV w S d (a.eval x)) ∧ ∀ t y, s = .own t y → ∀ S, RepV w S (.dat t y) (a.eval x) := by
        cases x with
        | tmp n => exact absurd rfl (hx n)
        | const v => exact const_rep h3
        | func f =>
          simp only [opv, RM.run, Option.some.injEq] at h3; subst h3
          exact ⟨fun d hd S => by cases hd; exact ⟨_, ⟨[], rfl, rfl⟩, rfl⟩, fun t y hd => by cases hd⟩
        | global g => simp [opv, RM.run] at h3
      split at h4
      · simp only [RM.run, Option.some.injEq] at h4; subst h4
        exact .cons (hrep.1 _ rfl S) (argsOf_run h xs _ z' h1 S hS hS')
      · simp only [RM.run, Option.some.injEq] at h4; subst h4
        exact .cons (hrep.2 _ _ rfl S) (argsOf_run h xs _ z' h1 S hS hS')
      · simp [RM.run] at h4
    cases x with
    | tmp n =>
      simp only [argsOf] at hr
      obtain ⟨z', h1, h2⟩ := bind_run hr
      simp only [RM.run] at h2
      have hn := h.slots n
      generalize hσ : σ.getD n .dead = s at h2 hn
      have all : ∀ {d : D}, z.2 = false → RepV w (All w) d (a.tmps.getD n undef) → RepV w S d (a.eval (.tmp n)) := fun hz hd => hd.keep fun g hg => ⟨hS' hz g hg, rfl⟩
      split at h2
      · simp only [RM.run, Option.some.injEq] at h2; subst h2
        exact .cons (RepV.keep (fun g hg => ⟨hS g hg, rfl⟩) hn) (argsOf_run h xs _ z' h1 S hS hS')
      · simp only [RM.run, Option.some.injEq] at h2; subst h2
        exact .cons (all rfl (asD_run h hn (d := .dat _ _) rfl)) (argsOf_run h xs _ z' h1 S hS fun _ => hS' rfl)
      · obtain ⟨d, h3, h4⟩ := bind_run h2
        simp only [RM.run, Option.some.injEq] at h4; subst h4
        exact .cons (all rfl (asD_run h hn h3)) (argsOf_run h xs _ z' h1 S hS fun _ => hS' rfl)
      · obtain ⟨d, h3, h4⟩ := bind_run h2
        simp only [RM.run, Option.some.injEq] at h4; subst h4
        exact .cons (all rfl (asD_run h hn h3)) (argsOf_run h xs _ z' h1 S hS fun _ => hS' rfl)
      · simp only [RM.run, Option.some.injEq] at h2; subst h2
        refine .cons (all rfl ?_) (argsOf_run h xs _ z' h1 S hS fun _ => hS' rfl)
        obtain ⟨g, ty, cs, e1, e2, e3, e4⟩ := hn
        exact ⟨_, ⟨g, 0, cs, rfl, h.lt _ _ e2, fun j v hv => by rw [Nat.zero_add, cell_of_row w g j cs.toArray ty (0, 0) e3]; simpa using hv, e4.keep fun g hg => ⟨hg.all, rfl⟩⟩, e1⟩
      · simp only [RM.run, Option.some.injEq] at h2; subst h2
        refine .cons (all rfl ?_) (argsOf_run h xs _ z' h1 S hS fun _ => hS' rfl)
        obtain ⟨g, ty, cs, e1, e2, e3, e4⟩ := hn
        exact ⟨_, ⟨g, 0, cs, rfl, h.lt _ _ e2, fun j v hv => by rw [Nat.zero_add, cell_of_row w g j cs.toArray ty (0, 0) e3]; simpa using hv, e4.imm (fun g hg => hg.all) (fun i g hg => h.owns hg)⟩, e1⟩
      · simp [RM.run] at h2
    | const v => exact cns (by simp) hr
    | func f => exact cns (by simp) hr
    | global g => exact cns (by simp) hr
theorem chain_list {S : Nat → Prop} : ∀ {d : D} {vs : List Value}, d.chain = true → RepC w S d vs → Al2 (fun v d => RepV w S d v) vs d.list
  | .nl, vs, _, h => by obtain rfl : vs = [] := h; exact .nil
  | .cn d ds, vs, hc, h => by
    obtain ⟨c1, vs', rfl, h1, h2⟩ := h
    exact .cons ⟨c1, h1, rfl⟩ (chain_list (d := ds) hc h2)
  | .dat _ _, _, hc, _ => by simp [D.chain] at hc
  | .clo _ _, _, hc, _ => by simp [D.chain] at hc
  | .bnd _ _, _, hc, _ => by simp [D.chain] at hc
  | .ref _, _, hc, _ => by simp [D.chain] at hc
theorem Al2.append {α β : Type} {R : α → β → Prop} {xs xs' : List α} {ys ys' : List β} : Al2 R xs ys → Al2 R xs' ys' → Al2 R (xs ++ xs') (ys ++ ys')
  | .nil, h => h
  | .cons h t, h' => .cons h (t.append h')
theorem Al2.mapL {α β γ : Type} {R : γ → β → Prop} {f : α → γ} {xs : List α} {ys : List β} : Al2 (fun x y => R (f x) y) xs ys → Al2 R (xs.map f) ys
  | .nil => .nil
  | .cons h t => .cons h t.mapL
/-- What a call is: the function, its arguments. -/
theorem call_run (h : Sim w0 K lab σ a w) {c : Call} (ho : o.op = .call c) {f : Nat} {args : List Arg} {l : List (Bool × Ty)} {dst : Nat} {fl : Bool} (hrun : (evCall Γ C o c).run σ = some (.call f args l dst ws fl)) :
    o.dst = some dst ∧ (free C dst).run σ = some ws ∧ ∃ (ds : List D) (vs : List Value), args = ds.map .imm ∧ Al2 (fun v d => RepV w (Fz (callL fl lab) w) d v) vs ds ∧ execOp a.eval o = callFunc f vs.toArray := by
  have hS : ∀ g, Fz lab w g → Fz (callL fl lab) w g := fun g hg => ⟨by cases fl <;> simp [callL, hg.1], hg.2⟩
  have hS' : fl = false → ∀ g, All w g → Fz (callL fl lab) w g := fun e g hg => ⟨by rw [e]; rfl, hg⟩
  have hm : c.args.map a.eval = (c.args.toList.map a.eval).toArray := by apply Array.ext'; simp
  have hput : ∀ {s : Slot} {ws0 : Wr} {p q : List Prop}, (put C o s ws0 p q).run σ ≠ some (.call f args l dst ws fl) := fun {s ws0 p q} e => by
    obtain ⟨_, _, _, _, _, _, _, _, e'⟩ := put_run e
    cases e'
  unfold evCall at hrun
  split at hrun
  · exfalso
    split at hrun
    · split at hrun
      · unfold evLen at hrun
        obtain ⟨d, _, h2⟩ := bind_run hrun
        split at h2
        · split at h2
          · exact hput h2
          · simp [RM.run] at h2
        · split at h2
          · exact hput h2
          · simp [RM.run] at h2
        · simp [RM.run] at h2
      · simp [RM.run] at hrun
    · simp [RM.run] at hrun
  · exfalso
    split at hrun
    · unfold evAppend at hrun
      split at hrun
      · obtain ⟨k, _, h2⟩ := bind_run hrun
        obtain ⟨k', _, h3⟩ := bind_run h2
        split at h3
        · exact hput h3
        · simp [RM.run] at h3
      · simp [RM.run] at hrun
    · simp [RM.run] at hrun
  · rename_i f' N hcal hd
    obtain ⟨z, h1, h2⟩ := bind_run hrun
    obtain ⟨l', h3, h4⟩ := bind_run h2
    obtain ⟨ks, h5, h6⟩ := bind_run h4
    simp only [RM.run, Option.some.injEq, Eff.call.injEq] at h6
    obtain ⟨rfl, rfl, rfl, rfl, rfl, rfl⟩ := h6
    have hal := argsOf_run h _ _ z h1 _ hS hS'
    refine ⟨hd, h5, z.1, c.args.toList.map a.eval, rfl, hal.mapL, ?_⟩
    unfold execOp
    simp only [ho, resolve, hcal, hm]
    simp [Act.eval, Deferred.ofValue, invoke]
  · rename_i n N hcal hd
    simp only [RM.run] at hrun
    have hn := h.slots n
    have hev : a.eval (.tmp n) = a.tmps.getD n undef := rfl
    generalize hσ : σ.getD n .dead = s at hrun hn
    split at hrun
    · rename_i f' caps
      split at hrun
      · rename_i hch
        obtain ⟨z, h1, h2⟩ := bind_run hrun
        obtain ⟨l', h3, h4⟩ := bind_run h2
        obtain ⟨ks, h5, h6⟩ := bind_run h4
        simp only [RM.run, Option.some.injEq, Eff.call.injEq] at h6
        obtain ⟨rfl, rfl, rfl, rfl, rfl, rfl⟩ := h6
        have hal := argsOf_run h _ _ z h1 _ hS hS'
        obtain ⟨cs, ⟨vs, rfl, c1⟩, c2⟩ := hn
        have hcl := chain_list hch (c1.keep fun g hg => ⟨hS g hg, rfl⟩)
        refine ⟨hd, h5, z.1 ++ caps.list, c.args.toList.map a.eval ++ vs, rfl, hal.mapL.append hcl, ?_⟩
        have hv : a.eval (.tmp n) = .func (.func f') #[] vs.toArray := c2
        unfold execOp
        simp only [ho, resolve, hcal, hv, hm]
        simp [Deferred.ofValue, invoke]
      · simp [RM.run] at hrun
    · rename_i f' caps
      split at hrun
      · rename_i hch
        obtain ⟨z, h1, h2⟩ := bind_run hrun
        obtain ⟨l', h3, h4⟩ := bind_run h2
        obtain ⟨ks, h5, h6⟩ := bind_run h4
        simp only [RM.run, Option.some.injEq, Eff.call.injEq] at h6
        obtain ⟨rfl, rfl, rfl, rfl, rfl, rfl⟩ := h6
        have hal := argsOf_run h _ _ z h1 _ hS hS'
        obtain ⟨cs, ⟨vs, rfl, c1⟩, c2⟩ := hn
        have hcl := chain_list hch (c1.keep fun g hg => ⟨hS g hg, rfl⟩)
        refine ⟨hd, h5, caps.list ++ z.1, vs ++ c.args.toList.map a.eval, rfl, hcl.append hal.mapL, ?_⟩
        have hv : a.eval (.tmp n) = .func (.func f') vs.toArray #[] := c2
        unfold execOp
        simp only [ho, resolve, hcal, hv, hm]
        simp [Deferred.ofValue, invoke]
      · simp [RM.run] at hrun
    · simp [RM.run] at hrun
  · simp [RM.run] at hrun
end
/-! Maps. -/
theorem listB_iff {α : Type} {f : α → α → Bool} (hf : ∀ a b, f a b = true ↔ a = b) : ∀ {l m : List α}, listB f l m = true ↔ l = m
  | [], [] => by simp [listB]
  | [], b :: s => by simp [listB]
  | a :: r, [] => by simp [listB]
  | a :: r, b :: s => by simp [listB, hf, listB_iff hf (l := r) (m := s)]
theorem keyEq_iff : ∀ {t : Ty}, t.flat = true → ∀ x y : t.T, keyEq t x y = true ↔ x = y
  | .int _, _, x, y => by simp [keyEq]
  | .bool, _, x, y => by simp [keyEq]
  | .str, _, x, y => by simp [keyEq]
  | .unit, _, x, y => by simp [keyEq]
  | .prod a b, h, x, y => by
    simp only [Ty.flat, Bool.and_eq_true] at h
    simp only [keyEq, Bool.and_eq_true, keyEq_iff h.1, keyEq_iff h.2]
    exact Prod.ext_iff.symm
  | .arr _ e, h, x, y => listB_iff (fun a b => keyEq_iff (t := e) h a b)
  | .slice _ _, h, _, _ => by simp [Ty.flat] at h
  | .map _ _, h, _, _ => by simp [Ty.flat] at h
  | .fn _ _, h, _, _ => by simp [Ty.flat] at h
theorem blocks_eq {cs ds : List Value} {sz n : Nat} (h1 : cs.length = n * sz) (h2 : ds.length = n * sz) (h : ∀ i, i < n → (cs.drop (i * sz)).take sz = (ds.drop (i * sz)).take sz) : cs = ds := by
  apply List.ext_getElem (by omega)
  intro i hi1 hi2
  by_cases hz : sz = 0
  · rw [hz] at h1; omega
  · have hz' : 0 < sz := by omega
    have hq : i / sz < n := (Nat.div_lt_iff_lt_mul hz').2 (by rw [← h1]; exact hi1)
    have e1 : i = i / sz * sz + i % sz := by rw [Nat.mul_comm]; exact (Nat.div_add_mod i sz).symm
    have hr : i % sz < sz := Nat.mod_lt _ hz'
    have h3 := congrArg (fun l => l[i % sz]?) (h _ hq)
    simp only [List.getElem?_take, hr, if_true, List.getElem?_drop, ← e1] at h3
    rw [List.getElem?_eq_getElem hi1, List.getElem?_eq_getElem hi2] at h3
    exact Option.some.inj h3
/-- The cells of a datum without memory are told by it. -/
theorem Imm.cells_eq {w w' : World} {S S' : Nat → Prop} : ∀ {t : Ty} {x : t.T} {cs ds : List Value}, t.flat = true → Imm w S t x cs → Imm w' S' t x ds → cs = ds
  | .int _, _, _, _, _, h1, h2 => by simp only [Imm] at h1 h2; rw [h1.1, h2.1]
  | .bool, _, _, _, _, h1, h2 => by simp only [Imm] at h1 h2; rw [h1, h2]
  | .str, _, _, _, _, h1, h2 => by simp only [Imm] at h1 h2; rw [h1.1, h2.1]
  | .unit, _, _, _, _, h1, h2 => by simp only [Imm] at h1 h2; rw [h1, h2]
  | .prod a b, x, cs, ds, hf, h1, h2 => by
    simp only [Ty.flat, Bool.and_eq_true] at hf
    simp only [Imm] at h1 h2
    rw [← List.take_append_drop a.sz cs, ← List.take_append_drop a.sz ds, Imm.cells_eq hf.1 h1.1 h2.1, Imm.cells_eq hf.2 h1.2 h2.2]
  | .slice _ _, _, _, _, hf, _, _ => by simp [Ty.flat] at hf
  | .map _ _, _, _, _, hf, _, _ => by simp [Ty.flat] at hf
  | .fn _ _, _, _, _, hf, _, _ => by simp [Ty.flat] at hf
  | .arr n e, xs, cs, ds, hf, h1, h2 => by
    simp only [Imm] at h1 h2
    exact blocks_eq h1.2.1 h2.2.1 fun i hi => Imm.cells_eq (t := e) hf (h1.2.2 i (by rw [h1.1]; exact hi)) (h2.2.2 i (by rw [h1.1]; exact hi))
theorem Imm.inj {w w' : World} {S S' : Nat → Prop} : ∀ {t : Ty} {x y : t.T} {cs : List Value}, t.flat = true → Imm w S t x cs → Imm w' S' t y cs → x = y
  | .int _, _, _, _, _, h1, h2 => by simp only [Imm] at h1 h2; have := h1.1.symm.trans h2.1; simpa using this
  | .bool, _, _, _, _, h1, h2 => by simp only [Imm] at h1 h2; have := h1.symm.trans h2; simpa using this
  | .str, _, _, _, _, h1, h2 => by simp only [Imm] at h1 h2; have := h1.1.symm.trans h2.1; simpa using this
  | .unit, _, _, _, _, h1, h2 => rfl
  | .prod a b, x, y, cs, hf, h1, h2 => by
    simp only [Ty.flat, Bool.and_eq_true] at hf
    simp only [Imm] at h1 h2
    exact Prod.ext (Imm.inj hf.1 h1.1 h2.1) (Imm.inj hf.2 h1.2 h2.2)
  | .slice _ _, _, _, _, hf, _, _ => by simp [Ty.flat] at hf
  | .map _ _, _, _, _, hf, _, _ => by simp [Ty.flat] at hf
  | .fn _ _, _, _, _, hf, _, _ => by simp [Ty.flat] at hf
  | .arr n e, xs, ys, cs, hf, h1, h2 => by
    simp only [Imm] at h1 h2
    exact List.ext_getElem (by rw [h1.1, h2.1]) fun i hi1 hi2 => Imm.inj (t := e) hf (h1.2.2 i hi1) (h2.2.2 i hi2)
theorem Ty.sz_one {t : Ty} (h : t.agg = false) : t.sz = 1 := by cases t <;> simp_all [Ty.agg, Ty.sz]
theorem mk_injS {t : Ty} {cs ds : List Value} (h1 : cs.length = t.sz) (h2 : ds.length = t.sz) (h : t.mk cs = t.mk ds) : cs = ds := by
  unfold Ty.mk at h
  split at h
  · simpa using h
  · rename_i ha
    have hs := Ty.sz_one (t := t) (by simpa using ha)
    rw [hs] at h1 h2
    match cs, ds, h1, h2 with
    | [a], [b], _, _ => simpa using h
theorem mk_ok_inj {w w' : World} {S S' : Nat → Prop} {t : Ty} {x y : t.T} {cs ds : List Value} (hf : t.flat = true) (h1 : Imm w S t x cs) (h2 : Imm w' S' t y ds) : t.mk cs = t.mk ds ↔ x = y := by
  constructor
  · intro h
    have e := mk_injS h1.len h2.len h
    rw [← e] at h2
    exact Imm.inj hf h1 h2
  · rintro rfl
    rw [Imm.cells_eq hf h1 h2]
theorem find_uniq {α : Type} {p : α → Bool} : ∀ {l : List α} {j : Nat} (hj : j < l.length), p l[j] = true → (∀ i (hi : i < l.length), p l[i] = true → i = j) → l.find? p = some l[j]
  | [], _, hj, _, _ => by simp at hj
  | a :: r, 0, hj, h, _ => by simp at h; simp [h]
  | a :: r, j + 1, hj, h, hu => by
    have ha : p a = false := by
      cases q : p a
      · rfl
      · have := hu 0 (by simp) (by simpa using q); omega
    rw [List.find?_cons, ha]
    simp only [List.getElem_cons_succ] at h ⊢
    exact find_uniq (by simpa using hj) h fun i hi hp => by
      have := hu (i + 1) (by simpa using hi) (by simpa using hp); omega
section
variable {P : Program} {Γ : Ctx} {w0 : World} {K : Nat → Prop} {lab lab' : Lab} {σ : List Slot} {a : Act} {w w' : World} {C : List Nat} {o : Oper} {pre fact : List Prop} {ws : Wr}
/-- What is found in a map's entries. -/
theorem find_map {kt : TypeId} {k e : Ty} (hK : Maps.Keyed P kt) (hkey : ∀ (w : World) (S : Nat → Prop) (y : k.T) (cs : List Value), Imm w S k y cs → ∃ l, keyOf P kt (k.mk cs) = some l) (hf : k.flat = true)
    {S S' : Nat → Prop} {w1 w2 : World} {xs : List (k.T × e.T)} {es : Array MapEntry} (hsz : es.size = xs.length) (hpw : xs.Pairwise (fun p q => p.1 ≠ q.1))
    (hent : ∀ i (h : i < xs.length), ∃ (en : MapEntry) (kc : List Value), es[i]? = some en ∧ en.key = k.mk kc ∧ Imm w1 S k xs[i].1 kc) {y : k.T} {yc : List Value} (hy : Imm w2 S' k y yc) :
    ((∀ j (h : j < xs.length), xs[j].1 ≠ y) ∧ mget k e (some xs) y = none ∧ (Instr.findKey kt (k.mk yc) es.toList).run P w = .ok none w) ∨
    ∃ j, ∃ h : j < xs.length, xs[j].1 = y ∧ mget k e (some xs) y = some xs[j].2 ∧ ∃ en, es[j]? = some en ∧ en.key = k.mk yc ∧ (Instr.findKey kt (k.mk yc) es.toList).run P w = .ok (some (j, en.val)) w := by
  obtain ⟨ly, hly⟩ := hkey w2 S' y yc hy
  have hall : ∀ en ∈ es.toList, ∃ l, keyOf P kt en.key = some l := fun en hen => by
    obtain ⟨i, hi, rfl⟩ := List.getElem_of_mem hen
    have hi' : i < xs.length := by rw [← hsz]; simpa using hi
    obtain ⟨en', kc, q1, q2, q4⟩ := hent i hi'
    have : es.toList[i] = en' := by
      rw [Array.getElem?_eq_getElem (by simpa using hi)] at q1
      simpa using q1
    rw [this, q2]
    exact hkey w1 S _ kc q4
  rcases hK.find w hly es.toList hall with ⟨h1, h2⟩ | ⟨j, en, h1, h2, h3⟩
  · have hno : ∀ j (h : j < xs.length), xs[j].1 ≠ y := fun j hj he => by
      obtain ⟨en, kc, q1, q2, q4⟩ := hent j hj
      have hm : en ∈ es.toList := by
        rw [Array.getElem?_eq_some_iff] at q1
        obtain ⟨r1, r2⟩ := q1
        rw [← r2]; simp
      refine h2 en hm ?_
      rw [q2, (mk_ok_inj hf q4 hy)]
      exact he
    refine .inl ⟨hno, ?_, h1⟩
    unfold mget
    simp only [Option.getD_some, Option.map_eq_none_iff, List.find?_eq_none]
    intro p hp
    obtain ⟨i, hi, rfl⟩ := List.getElem_of_mem hp
    rw [keyEq_iff hf]
    exact hno i hi
  · have hj : j < xs.length := by
      have := (List.getElem?_eq_some_iff.1 h2).1
      rw [← hsz]; simpa using this
    obtain ⟨en', kc, q1, q2, q4⟩ := hent j hj
    have hen : es[j]? = some en := by simpa using h2
    rw [hen] at q1
    obtain rfl := Option.some.inj q1
    have hxy : xs[j].1 = y := by
      rw [← mk_ok_inj hf q4 hy, ← q2, h3]
    refine .inr ⟨j, hj, hxy, ?_, en, hen, h3, h1⟩
    unfold mget
    rw [Option.getD_some, find_uniq (j := j) hj (by rw [keyEq_iff hf]; exact hxy) fun i hi hp => ?_]
    · rfl
    · rw [keyEq_iff hf] at hp
      rcases Nat.lt_trichotomy i j with q | q | q
      · exact absurd (hp.trans hxy.symm) (List.pairwise_iff_getElem.1 hpw i j hi hj q)
      · exact q
      · exact absurd (hxy.trans hp.symm) (List.pairwise_iff_getElem.1 hpw j i hj hi q)
theorem good_makeMap (h : Sim w0 K lab σ a w) (hR : Rt C σ) (hC : True) (hT : TyOk P Γ) {T : Nat} {r : Option Operand} (ho : o.op = .makeMap T r)
    (hrun : (evMakeMap Γ C o T r).run σ = some (.pure pre fact ws)) (hp : allP pre) : Good P C w0 K lab o σ a w fact ws := by
  unfold evMakeMap at hrun
  split at hrun
  · rename_i k e hTy
    obtain ⟨kt, et, hu, hkt, het, hkf⟩ := (hT.ty T _ hTy).map k e rfl
    have go : (put C o (.own (.map k e) (some ([] : List (k.T × e.T))))).run σ = some (.pure pre fact ws) → Runs P o a w (.map (some w.heap.size)) (w.alloc (.map #[] 0)) → Good P C w0 K lab o σ a w fact ws := by
      intro hrun hv
      obtain ⟨N, kk, ks, hd, _, hne, _⟩ := put_run hrun
      have old : ∀ {g : Nat}, g < w.heap.size → newL w (N, 0, 1) lab g = lab g := fun hg => by simp only [newL]; rw [if_neg (by omega)]
      have som : ∀ {g : Nat} {p : Nat × Nat × Nat}, newL w (N, 0, 1) lab g = some p → g = w.heap.size ∨ lab g = some p := fun {g p} hg => by
        by_cases e : g = w.heap.size
        · exact .inl e
        · simp only [newL] at hg; rw [if_neg e] at hg; exact .inr hg
      have fz : ∀ g, Fz lab w g → Fz (newL w (N, 0, 1) lab) (w.alloc (.map #[] 0)) g ∧ (w.alloc (.map #[] 0)).heap[g]? = w.heap[g]? := fun g hg =>
        ⟨⟨by rw [old hg.2]; exact hg.1, by simp; have := hg.2; omega⟩, heap_alloc_old w _ hg.2⟩
      refine good_putT h hR hC hrun hp (lab' := newL w (N, 0, 1) lab) (w' := w.alloc (.map #[] 0)) (fun _ => hv) (fun _ => trivial) (h.fr.alloc h.kb _) (fun g p hg => ?_) (fun g p hg => ?_) fz (fun N' hd' M hM hMx g k m hg => ?_) (fun N' hd' => ?_) (fun N' hd' hne' x hx => by cases hx)
      · rcases som hg with e | e
        · simp; omega
        · have := h.lt g p e; simp; omega
      · rcases som hg with e | e
        · intro hk; have := h.kb g hk; have := h.fr.size; omega
        · exact h.kl g p e
      · have := h.lt g _ hg
        exact ⟨by rw [old this]; exact hg, heap_alloc_old w _ this⟩
      · rw [hd] at hd'; obtain rfl := Option.some.inj hd'
        have hl : newL w (N, 0, 1) lab w.heap.size = some (N, 0, 1) := by simp [newL]
        refine ⟨rfl, [.map (some w.heap.size)], rfl, ?_⟩
        simp only [Own]
        exact .inr ⟨w.heap.size, [], #[], 0, rfl, rfl, hl, heap_alloc_new w _, rfl, List.Pairwise.nil, fun i i' en en' g hi => by simp at hi, fun i hi => by simp at hi⟩
    split at hrun
    · exact go hrun (.inl (by unfold execOp; simp [ho, Instr.makeMap, go_sem]))
    · rename_i x
      obtain ⟨⟨q, n⟩, h1, h2⟩ := bind_run hrun
      obtain ⟨hx, _⟩ := rdInt_run h h1
      have hm : (Instr.makeMap T (some (.int q n))).run P w = .ok (.map (some w.heap.size)) (w.alloc (.map #[] 0)) := by simp [Instr.makeMap, run_underlying hu, asIntOf, go_sem]
      refine go h2 (.inl ?_)
      unfold execOp
      simp only [ho, Option.map_some, hx]
      rw [Sem.run_bind, hm]
      rfl
  · simp [RM.run] at hrun
theorem rdT_run (h : Sim w0 K lab σ a w) {t : Ty} {x : Operand} {y : t.T} (hr : (rdT t x).run σ = some y) : RepV w (All w) (.dat t y) (a.eval x) := by
  obtain ⟨d, h1, h2⟩ := bind_run hr
  have h3 := rdD_run h h1
  cases q : d.as t with
  | none => rw [q] at h2; simp [RM.of, RM.run] at h2
  | some z =>
    rw [q] at h2
    simp only [RM.of, RM.run, Option.some.injEq] at h2
    subst h2
    rw [as_some q] at h3
    exact h3
theorem mapOwner_run (h : Sim w0 K lab σ a w) {m : Operand} {n : Nat} (hr : (mapOwner m).run σ = some n) (hn : (σ.getD n .dead).rty = none) : a.eval m = a.tmps.getD n undef := by
  cases m with
  | tmp n' =>
    simp only [mapOwner, RM.run] at hr
    have hs := h.slots n'
    generalize σ.getD n' .dead = s at hr hs
    split at hr
    · simp only [RM.run, Option.some.injEq] at hr; subst hr; rfl
    · simp only [RM.run, Option.some.injEq] at hr; subst hr; rfl
    · rename_i M p
      split at hr
      · rename_i hp
        simp only [RM.run, Option.some.injEq] at hr; subst hr; subst hp
        obtain ⟨u, cs, ⟨_, hh⟩, hv⟩ := hs
        rcases hh with ⟨g, ofs, t', _, q, _⟩ | ⟨_, _, _, q⟩
        · rw [hn] at q; cases q
        · show a.tmps.getD n' undef = _
          rw [q]; exact hv
      · simp [RM.run] at hr
    · simp [RM.run] at hr
  | _ => simp [mapOwner, RM.run] at hr
theorem mapOf_some {k e : Ty} {s : Slot} {xs : List (k.T × e.T)} (h : mapOf k e s = some xs) : s = .own (.map k e) (some xs) := by
  cases s with
  | own t z =>
    simp only [mapOf] at h
    cases hz : D.as (.map k e) (.dat t z) with
    | none => rw [hz] at h; cases h
    | some mm =>
      rw [hz] at h
      have e0 := as_some hz
      obtain ⟨rfl, e1⟩ := D.dat.inj e0
      obtain rfl := eq_of_heq e1
      exact congrArg (Slot.own (.map k e)) h
  | _ => simp [mapOf] at h
/-- The slice at a key is taken out of a map of one's own. -/
theorem good_takeOut (h : Sim w0 K lab σ a w) (hR : Rt C σ) (hC : True) (hT : TyOk P Γ) {T : Nat} {x ix : Operand} (ho : o.op = .lookup T x ix false) {k e : Ty} (hTy : Γ.ty T = some (.map k e)) {y : k.T} (h5 : (rdT k ix).run σ = some y)
    {n : Nat} (h7 : (mapOwner x).run σ = some n) (hsl : e.isSl = true) {xs : List (k.T × e.T)} (hxs : mapOf k e (σ.getD n .dead) = some xs)
    (hrun : (put C o (.own e ((mget k e (some xs) y).getD e.zero)) [(n, .mhole k e (some xs) y)]).run σ = some (.pure pre fact ws)) (hp : allP pre) : Good P C w0 K lab o σ a w fact ws := by
  obtain ⟨kt, et, hu, hkt, het, hkf⟩ := (hT.ty T _ hTy).map k e rfl
  obtain ⟨hK, hkey⟩ := hT.key T k e kt et hTy hu
  cases e with
  | slice te el =>
    have hσ := mapOf_some hxs
    have hs := h.slots n
    rw [hσ] at hs
    obtain ⟨cs, hcs, hown⟩ := hs
    simp only [Own] at hown
    rcases hown with ⟨q, _⟩ | ⟨b, xs', es, ck, q, rfl, hb, hhp, hsz, hpw, hdj, hent⟩
    · cases q
    obtain rfl := Option.some.inj q
    have hxv : a.eval x = .map (some b) := by rw [mapOwner_run h h7 (by rw [hσ]; rfl), hcs]; rfl
    obtain ⟨yc, hy, hiy⟩ := rdT_run h h5
    have hiy' : a.eval ix = k.mk yc := hiy
    simp only [RepC] at hy
    obtain ⟨ly, hly⟩ := hkey w _ y yc hy
    have hchk := hK.check w es.isEmpty hly
    have hbl : lab b = some (n, 0, 1) := hb
    obtain ⟨N, kk, ks, hd, _, hne, _⟩ := put_run hrun
    have hnN : n ≠ N := hne (n, .mhole k (.slice te el) (some xs) y) (by simp)
    rcases find_map (P := P) (w := w) (w1 := w) (S := Fz lab w) (e := .slice te el) hK hkey hkf hsz hpw (fun i hi => by obtain ⟨en, kc, vc, r1, r2, _, r4, _⟩ := hent i hi; exact ⟨en, kc, r1, r2, r4⟩) hy with ⟨q1, q2, q3⟩ | ⟨j, hj, q1, q2, en, q3, _, q4⟩
    · obtain ⟨i, hi, _, _, z, hz1, hz2⟩ := (hT.ty et _ het).info
      have hzero : (zeroValue et).run P w = .ok z w := by simp [zeroValue, typeInfo, hi, hz1, go_sem]
      have hzv : z = nilV := (hT.ty et _ het).zv i z hi hz1
      have hv : Runs P o a w nilV w := by
        refine .inl ?_
        unfold execOp
        simp [ho, hxv, hiy', Instr.lookup, run_underlying hu, MapKept.run_getObj_map hhp, hchk, q3, hzero, hzv]
      rw [q2] at hrun
      refine good_putT h hR hC hrun hp (lab' := lab) (w' := w) (fun _ => hv) (fun _ => trivial) h.fr h.lt h.kl (fun g hg => ⟨hg, rfl⟩) (fun N' hd' M hM hMx g k m hg => ⟨hg, rfl⟩) (fun N' hd' => ?_) (fun N' hd' hne' x hx => ?_)
      · refine ⟨rfl, [nilV], rfl, ?_⟩
        exact zero_own (t := .slice te el)
      · simp only [List.mem_singleton] at hx; subst hx
        refine ⟨rfl, ⟨b, xs, es, ck, rfl, by rw [hcs]; rfl, hbl, hhp, hsz, hpw, fun i i' hi hi' en en' g _ _ => hdj i i' en en' g, fun i hi => ?_⟩, .inr (.inr ⟨by rw [hσ]; rfl, by rw [hσ]; rfl, fun g _ => rfl⟩)⟩
        obtain ⟨en, kc, vc, r1, r2, r3, r4, r5⟩ := hent i hi
        exact ⟨en, kc, r1, r2, r4, fun _ => ⟨vc, r3, r5⟩⟩
    · obtain ⟨en', kc, vc, r1, r2, r3, r4, r5⟩ := hent j hj
      rw [q3] at r1
      obtain rfl := Option.some.inj r1
      simp only [OwnE] at r5
      obtain ⟨hl, v, flat, rfl, hrow, hblk, hel⟩ := r5
      have hv0 : en.val = v := r3
      have hv : Runs P o a w v w := by
        refine .inl ?_
        unfold execOp
        simp [ho, hxv, hiy', Instr.lookup, run_underlying hu, MapKept.run_getObj_map hhp, hchk, q4, hv0]
      rw [q2] at hrun
      -- labels
      obtain ⟨lab', hlab'⟩ : ∃ lab' : Lab, lab' = fun g => if v.ownBlock = some g then some (N, 0, 1) else lab g := ⟨_, rfl⟩
      have lin : ∀ {g}, v.ownBlock = some g → lab' g = some (N, 0, 1) := fun hg => by rw [hlab']; simp [hg]
      have lout : ∀ {g}, v.ownBlock ≠ some g → lab' g = lab g := fun hg => by rw [hlab']; simp [hg]
      have som : ∀ {g : Nat} {p : Nat × Nat × Nat}, lab' g = some p → ∃ q, lab g = some q := fun {g p} hg => by
        by_cases e : v.ownBlock = some g
        · exact ⟨_, hblk g e⟩
        · rw [lout e] at hg; exact ⟨p, hg⟩
      have lold : ∀ {g}, v.ownBlock = some g → lab g = some (n, 0, 1) := fun hg => hblk _ hg
      have fz : ∀ g, Fz lab w g → Fz lab' w g ∧ w.heap[g]? = w.heap[g]? := fun g hg => ⟨⟨(lout fun e => by have h9 := lold e; rw [hg.1] at h9; cases h9).trans hg.1, hg.2⟩, rfl⟩
      have hbne : v.ownBlock ≠ some b := fun e => by
        rcases hrow.2 with ⟨q, _⟩ | ⟨g, cap, cur, q, _, q5, _⟩
        · rw [q] at e; cases e
        · rw [q] at e
          simp only [Value.ownBlock, Option.some.injEq] at e
          subst e
          rw [hhp] at q5; cases q5
      refine good_putT h hR hC hrun hp (lab' := lab') (w' := w) (fun _ => hv) (fun _ => trivial) h.fr (fun g p hg => ?_) (fun g p hg => ?_) fz (fun N' hd' M hM hMx g q m hg => ⟨?_, rfl⟩) (fun N' hd' => ?_) (fun N' hd' hne' x hx => ?_)
      · obtain ⟨r, hr⟩ := som hg; exact h.lt g r hr
      · obtain ⟨r, hr⟩ := som hg; exact h.kl g r hr
      · rw [lout fun e => ?_]
        · exact hg
        · have : lab g = some (n, 0, 1) := hblk g e
          rw [this] at hg
          simp only [Option.some.injEq, Prod.mk.injEq] at hg
          exact hMx (n, .mhole k (.slice te el) (some xs) y) (by simp) hg.1
      · rw [hd] at hd'; obtain rfl := Option.some.inj hd'
        refine ⟨rfl, [v], rfl, ?_⟩
        show Own w (Fz lab' w) (Lb lab' N 0) 0 (.slice te el) (xs[j].2 : List el.T) [v]
        simp only [Own]
        exact ⟨hl, v, flat, rfl, hrow, fun g hg => lin hg, fun i hi => (hel i hi).keep fz⟩
      · simp only [List.mem_singleton] at hx; subst hx
        refine ⟨rfl, ⟨b, xs, es, ck, rfl, by rw [hcs]; rfl, by rw [lout hbne]; exact hbl, hhp, hsz, hpw, fun i i' hi hi' en en' g _ _ => hdj i i' en en' g, fun i hi => ?_⟩, .inr (.inr ⟨by rw [hσ]; rfl, by rw [hσ]; rfl, fun g _ => rfl⟩)⟩
        obtain ⟨en2, kc2, vc2, s1, s2, s3, s4, s5⟩ := hent i hi
        refine ⟨en2, kc2, s1, s2, s4.keep fz, fun hyi => ⟨vc2, s3, ?_⟩⟩
        have hij : i ≠ j := fun e => hyi (by subst e; exact q1)
        simp only [OwnE] at s5
        obtain ⟨t0, v2, flat2, rfl, t2, t3, t4⟩ := s5
        have hv2 : en2.val = v2 := s3
        simp only [OwnE]
        refine ⟨t0, v2, flat2, rfl, t2, fun g hg => ?_, fun i hi => (t4 i hi).keep fz⟩
        show lab' g = some (n, 0, 1)
        rw [lout fun e => hij (hdj i j en2 en g s1 q3 (by rw [hv2]; exact hg) (by rw [hv0]; exact e))]
        exact t3 g hg
  | _ => simp [Ty.isSl] at hsl
theorem good_lookup (h : Sim w0 K lab σ a w) (hR : Rt C σ) (hC : True) (hT : TyOk P Γ) {T : Nat} {x ix : Operand} {ok : Bool} (ho : o.op = .lookup T x ix ok)
    (hrun : (evLookup Γ C o T x ix ok).run σ = some (.pure pre fact ws)) (hp : allP pre) : Good P C w0 K lab o σ a w fact ws := by
  unfold evLookup at hrun
  split at hrun
  · rename_i k e hTy
    obtain ⟨kt, et, hu, hkt, het, hkf⟩ := (hT.ty T _ hTy).map k e rfl
    obtain ⟨hK, hkey⟩ := hT.key T k e kt et hTy hu
    obtain ⟨d, h1, h2⟩ := bind_run hrun
    obtain ⟨fz, h3, h4⟩ := bind_run h2
    split at h4
    · rename_i m hm
      obtain ⟨y, h5, h6⟩ := bind_run h4
      split at h6
      · rename_i hfz
        have hd := as_some hm
        rw [hd] at h1
        -- the map, where nobody writes it
        obtain ⟨S, hS, hx⟩ : ∃ S : Nat → Prop, (e.flat = true ∨ S = Fz lab w) ∧ RepV w S (.dat (.map k e) m) (a.eval x) := by
          by_cases hef : e.flat = true
          · exact ⟨All w, .inl hef, rdD_run h h1⟩
          · have hfz' : fz = true := by simpa [hef] using hfz
            refine ⟨Fz lab w, .inr rfl, ?_⟩
            cases x with
            | tmp n =>
              simp only [rdD, opv, RM.slot] at h1
              obtain ⟨s, q1, q2⟩ := bind_run h1
              simp only [RM.run, Option.some.injEq] at q1
              simp only [frozenB, RM.run] at h3
              have hn := h.slots n
              rw [q1] at h3 hn
              cases s with
              | val d' =>
                simp only [asD, RM.run, Option.some.injEq] at q2
                subst q2
                exact hn
              | _ => simp [RM.run] at h3; rw [hfz'] at h3; cases h3
            | _ => simp [frozenB, RM.run] at h3; rw [hfz'] at h3; cases h3
        obtain ⟨yc, hy, hiy⟩ := rdT_run h h5
        have hiy' : a.eval ix = k.mk yc := hiy
        simp only [RepC] at hy
        obtain ⟨ly, hly⟩ := hkey w _ y yc hy
        obtain ⟨i, hi, _, _, z, hz1, hz2⟩ := (hT.ty et e het).info
        have hzero : (zeroValue et).run P w = .ok z w := by simp [zeroValue, typeInfo, hi, hz1, go_sem]
        have hzv : RepV w (Fz lab w) (.dat e e.zero) z := by
          exact ⟨zc e, zero_imm, (hT.ty et e het).zv i z hi hz1⟩
        -- the value found
        obtain ⟨v, hv, hrunv⟩ : ∃ v, RepV w (Fz lab w) (.dat e ((mget k e m y).getD e.zero)) v ∧ (execOp a.eval o).run P w = .ok (.value (if ok then .tuple #[v, .bool (mget k e m y).isSome] else v)) w := by
          have toF : ∀ {vc : List Value} {q : e.T}, Imm w S e q vc → Imm w (Fz lab w) e q vc := fun hq => by
            rcases hS with q | q
            · exact Imm.flat q hq
            · rw [← q]; exact hq
          obtain ⟨cs, hcs, hxe⟩ := hx
          simp only [RepC, Imm] at hcs
          rcases hcs with ⟨rfl, rfl⟩ | ⟨b, xs, es, ck, rfl, rfl, hb, hhp, hsz, hpw, hent⟩
          · refine ⟨z, hzv, ?_⟩
            have hxv : a.eval x = .map none := hxe
            have hfind : (Instr.findKey kt (k.mk yc) []).run P w = .ok none w := by
              rcases hK.find w hly [] (by simp) with ⟨q, _⟩ | ⟨j, en, _, q, _⟩
              · exact q
              · simp at q
            have hchk := hK.check w true hly
            unfold execOp
            cases ok <;> simp [ho, hxv, hiy', Instr.lookup, run_underlying hu, hchk, hfind, hzero, mget]
          · have hxv : a.eval x = .map (some b) := hxe
            have hchk := hK.check w es.isEmpty hly
            rcases find_map (P := P) (w := w) (w1 := w) (S := S) (e := e) hK hkey hkf hsz hpw (fun i hi => by obtain ⟨en, kc, vc, r1, r2, _, r4, _⟩ := hent i hi; exact ⟨en, kc, r1, r2, r4⟩) hy with ⟨_, q2, q3⟩ | ⟨j, hj, _, q2, en, q3, _, q4⟩
            · rw [q2]
              refine ⟨z, hzv, ?_⟩
              unfold execOp
              cases ok <;> simp [ho, hxv, hiy', Instr.lookup, run_underlying hu, MapKept.run_getObj_map hhp, hchk, q3, hzero]
            · rw [q2]
              obtain ⟨en', kc, vc, r1, r2, r3, r4, r5⟩ := hent j hj
              rw [q3] at r1
              obtain rfl := Option.some.inj r1
              refine ⟨en.val, ⟨vc, toF r5, r3⟩, ?_⟩
              unfold execOp
              cases ok <;> simp [ho, hxv, hiy', Instr.lookup, run_underlying hu, MapKept.run_getObj_map hhp, hchk, q4]
        have hfact : allP (e.fact ((mget k e m y).getD e.zero)) := by
          obtain ⟨vc, q, _⟩ := hv
          exact Ty.fact_of_ok (Imm.ok q)
        cases ok with
        | true =>
          simp only [if_true] at h6
          refine good_put h hR hC h6 (v := .tuple #[v, .bool (mget k e m y).isSome]) (fun _ => hfact) (fun _ => .inl (by simpa using hrunv)) (fun _ N _ => ⟨[v, .bool (mget k e m y).isSome], rfl, rfl, fun j c u hc hu => ?_⟩) hp
          match j with
          | 0 => simp only [List.getElem?_cons_zero, Option.some.injEq] at hc hu; subst hc hu; exact hv
          | 1 => simp only [List.getElem?_cons_succ, List.getElem?_cons_zero, Option.some.injEq] at hc hu; subst hc hu; exact bool_rep
          | j + 2 => simp at hc
        | false =>
          simp only [Bool.false_eq_true, if_false] at h6
          exact good_put h hR hC h6 (v := v) (fun _ => hfact) (fun _ => .inl (by simpa using hrunv)) (fun _ N _ => hv) hp
      · -- a slice is taken out of a map of one's own
        obtain ⟨n, h7, h8⟩ := bind_run h6
        split at h8
        · simp [RM.run] at h8
        · rename_i hok
          simp only [Bool.or_eq_true, not_or, Bool.not_eq_true, Bool.not_eq_false'] at hok
          obtain ⟨hok, hsl⟩ := hok
          simp only [RM.run] at h8
          split at h8
          · rename_i xs hxs
            exact good_takeOut h hR hC hT (by rw [hok] at ho; exact ho) hTy h5 h7 (by simpa using hsl) hxs h8 hp
          · simp [RM.run] at h8
    · simp [RM.run] at h4
  · simp [RM.run] at hrun
theorem holeOf_some {k e : Ty} {s : Slot} {xs : List (k.T × e.T)} {y : k.T} (h : holeOf k e s = some (xs, y)) : s = .mhole k e (some xs) y := by
  cases s with
  | mhole k' e' x z =>
    simp only [holeOf] at h
    cases hz : D.as k (.dat k' z) with
    | none => rw [hz] at h; cases h
    | some z' =>
      rw [hz] at h
      simp only at h
      cases hx : D.as (.map k e) (.dat (.map k' e') x) with
      | none => rw [hx] at h; cases h
      | some m =>
        rw [hx] at h
        have e0 := as_some hz
        obtain ⟨rfl, e1⟩ := D.dat.inj e0
        obtain rfl := eq_of_heq e1
        have e2 := as_some hx
        obtain ⟨e3, e4⟩ := D.dat.inj e2
        simp only [Ty.map.injEq, true_and] at e3
        subst e3
        obtain rfl := eq_of_heq e4
        cases x with
        | none => cases h
        | some ys =>
          simp only [Option.map_some, Option.some.injEq, Prod.mk.injEq] at h
          obtain ⟨rfl, rfl⟩ := h
          rfl
  | _ => simp [holeOf] at h
theorem ownAt_run {e : Ty} {x : Operand} {q : Nat × e.T} (hr : (ownAt e x).run σ = some q) : x = .tmp q.1 ∧ σ.getD q.1 .dead = .own e q.2 := by
  cases x with
  | tmp n =>
    simp only [ownAt, RM.run] at hr
    generalize hs : σ.getD n .dead = s at hr
    split at hr
    · rename_i t z
      split at hr
      · rename_i v hv
        simp only [RM.run, Option.some.injEq] at hr
        subst hr
        have e0 := as_some hv
        obtain ⟨rfl, e1⟩ := D.dat.inj e0
        obtain rfl := eq_of_heq e1
        exact ⟨rfl, hs⟩
      · simp [RM.run] at hr
    · simp [RM.run] at hr
  | _ => simp [ownAt, RM.run] at hr
/-- A store into a map: the entries behind it. E: what an entry's element is, R: of which entries it is told already. -/
theorem run_update {T kt et : TypeId} {k e : Ty} (hu : P.underlying T = some (.map kt et)) (hK : Maps.Keyed P kt) (hkey : ∀ (w : World) (S : Nat → Prop) (y : k.T) (cs : List Value), Imm w S k y cs → ∃ l, keyOf P kt (k.mk cs) = some l) (hkf : k.flat = true)
    {S : Nat → Prop} {b ck : Nat} {xs : List (k.T × e.T)} {es : Array MapEntry} (hhp : w.heap[b]? = some (.map es ck)) (hsz : es.size = xs.length) (hpw : xs.Pairwise (fun p q => p.1 ≠ q.1))
    (hent : ∀ i (h : i < xs.length), ∃ (en : MapEntry) (kc : List Value), es[i]? = some en ∧ en.key = k.mk kc ∧ Imm w S k xs[i].1 kc) {y : k.T} {yc : List Value} (hy : Imm w S k y yc) {v : e.T} {nv : Value} {E : e.T → Value → Prop} (hE : E v nv)
    (hold : ∀ i (h : i < xs.length) en, es[i]? = some en → xs[i].1 ≠ y → E xs[i].2 en.val) (hdj : ∀ (i i' : Nat) (hi : i < xs.length) (hi' : i' < xs.length) (en en' : MapEntry) (g : Nat), xs[i].1 ≠ y → xs[i'].1 ≠ y → es[i]? = some en → es[i']? = some en' → en.val.ownBlock = some g → en'.val.ownBlock = some g → i = i')
    (hnew : ∀ i (h : i < xs.length) en g, xs[i].1 ≠ y → es[i]? = some en → en.val.ownBlock = some g → nv.ownBlock = some g → False) :
    ∃ (es' : Array MapEntry) (ck' : Nat), (Instr.mapUpdate T (.map (some b)) (k.mk yc) nv).run P w = .ok () (ChangeMaps.setBlock w b (.map es' ck')) ∧ es'.size = (mput k e xs y v).length ∧ (mput k e xs y v).Pairwise (fun p q => p.1 ≠ q.1) ∧
      (∀ (i i' : Nat) (en en' : MapEntry) (g : Nat), es'[i]? = some en → es'[i']? = some en' → en.val.ownBlock = some g → en'.val.ownBlock = some g → i = i') ∧
      ∀ i (hi : i < (mput k e xs y v).length), ∃ (en : MapEntry) (kc : List Value), es'[i]? = some en ∧ en.key = k.mk kc ∧ Imm w S k (mput k e xs y v)[i].1 kc ∧ E (mput k e xs y v)[i].2 en.val := by
  obtain ⟨ly, hly⟩ := hkey w _ y yc hy
  have hchk := hK.check w false hly
  have hstay := hK.stays w hly
  rcases find_map (P := P) (w := w) (e := e) hK hkey hkf hsz hpw hent hy with ⟨q1, q2, q3⟩ | ⟨j, hj, q1, q2, en0, q3, q4, q5⟩
  · have hany : xs.any (fun p => keyEq k p.1 y) = false := by
      rw [List.any_eq_false]
      intro p hp
      obtain ⟨i, hi, rfl⟩ := List.getElem_of_mem hp
      rw [keyEq_iff hkf]; exact q1 i hi
    have hm : mput k e xs y v = xs ++ [(y, v)] := by unfold mput; rw [hany]; rfl
    have hget : ∀ i en, (es.push { key := k.mk yc, val := nv, born := ck })[i]? = some en → (i < xs.length ∧ es[i]? = some en) ∨ (i = xs.length ∧ en = { key := k.mk yc, val := nv, born := ck }) := fun i en hi => by
      rw [Array.getElem?_push] at hi
      split at hi
      · rename_i e1
        exact .inr ⟨by omega, (Option.some.inj hi).symm⟩
      · refine .inl ⟨?_, hi⟩
        rw [← hsz]
        exact (Array.getElem?_eq_some_iff.1 hi).1
    refine ⟨es.push { key := k.mk yc, val := nv, born := ck }, ck + 1, ?_, ?_, ?_, fun i i' en en' g h1 h2 h3 h4 => ?_, fun i hi => ?_⟩
    · simp [Instr.mapUpdate, run_underlying hu, MapKept.run_getObj_map hhp, hchk, q3, MapKept.run_setObj_map _ hhp, Result.andThen, ChangeMaps.setBlock]
    · rw [hm]; simp [hsz]
    · rw [hm, List.pairwise_append]
      refine ⟨hpw, by simp, fun p hp q hq => ?_⟩
      simp only [List.mem_singleton] at hq; subst hq
      obtain ⟨i, hi, rfl⟩ := List.getElem_of_mem hp
      exact q1 i hi
    · rcases hget i en h1 with ⟨a1, a2⟩ | ⟨a1, a2⟩ <;> rcases hget i' en' h2 with ⟨b1, b2⟩ | ⟨b1, b2⟩
      · exact hdj i i' a1 b1 en en' g (q1 i a1) (q1 i' b1) a2 b2 h3 h4
      · subst b2; exact (hnew i a1 en g (q1 i a1) a2 h3 h4).elim
      · subst a2; exact (hnew i' b1 en' g (q1 i' b1) b2 h4 h3).elim
      · omega
    · simp only [hm] at hi ⊢
      rcases Nat.lt_or_ge i xs.length with hlt | hge
      · obtain ⟨en, kc, r1, r2, r4⟩ := hent i hlt
        refine ⟨en, kc, ?_, r2, ?_, ?_⟩
        · rw [Array.getElem?_push_lt (by omega)]
          rw [Array.getElem?_eq_getElem (by omega)] at r1
          exact r1
        · rw [List.getElem_append_left hlt]; exact r4
        · rw [List.getElem_append_left hlt]; exact hold i hlt en r1 (q1 i hlt)
      · have hie : i = xs.length := by simp at hi; omega
        subst hie
        refine ⟨{ key := k.mk yc, val := nv, born := ck }, yc, by rw [← hsz]; exact Array.getElem?_push_size, rfl, ?_, ?_⟩
        · simp only [List.getElem_append_right (Nat.le_refl _), Nat.sub_self, List.getElem_cons_zero]; exact hy
        · simp only [List.getElem_append_right (Nat.le_refl _), Nat.sub_self, List.getElem_cons_zero]; exact hE
  · have hany : xs.any (fun p => keyEq k p.1 y) = true := by
      rw [List.any_eq_true]
      exact ⟨xs[j], List.getElem_mem hj, by rw [keyEq_iff hkf]; exact q1⟩
    have hm : mput k e xs y v = xs.map (fun p => if keyEq k p.1 y then (p.1, v) else p) := by unfold mput; rw [hany]; rfl
    have hoth : ∀ i (hi : i < xs.length), i ≠ j → xs[i].1 ≠ y := fun i hi hij qq => by
      rcases Nat.lt_or_gt_of_ne hij with q | q
      · exact List.pairwise_iff_getElem.1 hpw i j hi hj q (qq.trans q1.symm)
      · exact List.pairwise_iff_getElem.1 hpw j i hj hi q (q1.trans qq.symm)
    have hget : ∀ i en, (es.modify j (fun en => { en with key := k.mk yc, val := nv }))[i]? = some en → i < xs.length ∧ ((i ≠ j ∧ es[i]? = some en) ∨ (i = j ∧ en.val = nv)) := fun i en hi => by
      have hlt : i < xs.length := by
        have := (Array.getElem?_eq_some_iff.1 hi).1
        rw [← hsz]; simpa using this
      refine ⟨hlt, ?_⟩
      rw [Array.getElem?_modify] at hi
      split at hi
      · rename_i e1
        subst e1
        rw [q3] at hi
        simp only [Option.map_some, Option.some.injEq] at hi
        exact .inr ⟨rfl, by rw [← hi]⟩
      · rename_i e1
        exact .inl ⟨fun e => e1 e.symm, hi⟩
    refine ⟨es.modify j (fun en => { en with key := k.mk yc, val := nv }), ck, ?_, ?_, ?_, fun i i' en en' g h1 h2 h3 h4 => ?_, fun i hi => ?_⟩
    · simp [Instr.mapUpdate, run_underlying hu, MapKept.run_getObj_map hhp, hchk, q5, q3, q4, hstay, MapKept.run_setObj_map _ hhp, Result.andThen, ChangeMaps.setBlock]
    · rw [hm]; simp [hsz]
    · rw [hm, List.pairwise_map]
      refine hpw.imp fun {p q} hpq => ?_
      split <;> split <;> exact hpq
    · obtain ⟨a0, a⟩ := hget i en h1
      obtain ⟨b0, b⟩ := hget i' en' h2
      rcases a with ⟨a1, a2⟩ | ⟨a1, a2⟩ <;> rcases b with ⟨b1, b2⟩ | ⟨b1, b2⟩
      · exact hdj i i' a0 b0 en en' g (hoth i a0 a1) (hoth i' b0 b1) a2 b2 h3 h4
      · rw [b2] at h4; exact (hnew i a0 en g (hoth i a0 a1) a2 h3 h4).elim
      · rw [a2] at h3; exact (hnew i' b0 en' g (hoth i' b0 b1) b2 h4 h3).elim
      · omega
    · simp only [hm] at hi ⊢
      have hi' : i < xs.length := by simpa using hi
      rw [List.getElem_map]
      obtain ⟨en2, kc, r1, r2, r4⟩ := hent i hi'
      by_cases hij : i = j
      · subst hij
        have hk1 : keyEq k xs[i].1 y = true := by rw [keyEq_iff hkf]; exact q1
        refine ⟨{ en0 with key := k.mk yc, val := nv }, yc, ?_, rfl, ?_, ?_⟩
        · rw [Array.getElem?_modify, if_pos rfl, q3]; rfl
        · rw [hk1]; simp only [if_true]; rw [q1]; exact hy
        · rw [hk1]; simp only [if_true]; exact hE
      · have hk1 : keyEq k xs[i].1 y = false := by
          cases qq : keyEq k xs[i].1 y
          · rfl
          · rw [keyEq_iff hkf] at qq
            exact (hoth i hi' hij qq).elim
        refine ⟨en2, kc, ?_, r2, ?_, ?_⟩
        · rw [Array.getElem?_modify, if_neg (fun e => hij e.symm)]; exact r1
        · rw [hk1]; simp only [Bool.false_eq_true, if_false]; exact r4
        · rw [hk1]; simp only [Bool.false_eq_true, if_false]; exact hold i hi' en2 r1 (hoth i hi' hij)
theorem mk_noblock {t : Ty} {x : t.T} {cs : List Value} {S : Nat → Prop} (hf : t.flat = true) (h : Imm w S t x cs) : (t.mk cs).ownBlock = none := by
  cases t with
  | int q => simp only [Imm] at h; rw [h.1]; rfl
  | bool => simp only [Imm] at h; rw [h]; rfl
  | str => simp only [Imm] at h; rw [h.1]; rfl
  | slice _ _ => simp [Ty.flat] at hf
  | map _ _ => simp [Ty.flat] at hf
  | fn _ _ => simp [Ty.flat] at hf
  | _ => rfl
theorem good_mapUpdate (h : Sim w0 K lab σ a w) (hR : Rt C σ) (hT : TyOk P Γ) {T : Nat} {m kx x : Operand} (ho : o.op = .mapUpdate T m kx x)
    (hrun : (evMapUpdate Γ C o T m kx x).run σ = some (.pure pre fact ws)) (hp : allP pre) : Good P C w0 K lab o σ a w fact ws := by
  unfold evMapUpdate at hrun
  split at hrun
  · rename_i k e hTy
    obtain ⟨kt, et, hu, hkt, het, hkf⟩ := (hT.ty T _ hTy).map k e rfl
    obtain ⟨hK, hkey⟩ := hT.key T k e kt et hTy hu
    obtain ⟨n, h1, h2⟩ := bind_run hrun
    obtain ⟨y, h3, h4⟩ := bind_run h2
    obtain ⟨yc, hy, hky⟩ := rdT_run h h3
    have hky' : a.eval kx = k.mk yc := hky
    simp only [RepC] at hy
    have hyF : Imm w (Fz lab w) k y yc := Imm.flat hkf hy
    split at h4
    · simp [RM.run] at h4
    · rename_i hd0
      have hd : o.dst = none := by cases q : o.dst with | none => rfl | some _ => rw [q] at hd0; simp at hd0
      -- the world behind it, labels as they were or the value's block taken in
      have world : ∀ {b ck : Nat} {es : Array MapEntry} {es' : Array MapEntry} {ck' : Nat} {nv : Value} {xs : List (k.T × e.T)} {v : e.T} {lab2 : Lab} {dd kk : Wr}, lab b = some (n, 0, 1) → w.heap[b]? = some (.map es ck) → a.eval m = .map (some b) → a.eval x = nv → a.tmps.getD n undef = .map (some b) →
          (Instr.mapUpdate T (.map (some b)) (k.mk yc) nv).run P w = .ok () (ChangeMaps.setBlock w b (.map es' ck')) → es'.size = (mput k e xs y v).length → (mput k e xs y v).Pairwise (fun p q => p.1 ≠ q.1) →
          (∀ (i i' : Nat) (en en' : MapEntry) (g : Nat), es'[i]? = some en → es'[i']? = some en' → en.val.ownBlock = some g → en'.val.ownBlock = some g → i = i') →
          (∀ i (hi : i < (mput k e xs y v).length), ∃ (en : MapEntry) (kc : List Value), es'[i]? = some en ∧ en.key = k.mk kc ∧ Imm w (Fz lab w) k (mput k e xs y v)[i].1 kc ∧ ∃ vc, en.val = e.mk vc ∧ OwnE w (Fz lab w) (Lb lab2 n 0 0) e (mput k e xs y v)[i].2 vc) →
          (∀ g, lab g = none → lab2 g = none) → (∀ g p, lab2 g = some p → ∃ q, lab g = some q) → lab2 b = some (n, 0, 1) → (∀ M, M ≠ n → (∀ x ∈ dd, x.1 ≠ M) → ∀ g q mm, lab g = some (M, q, mm) → lab2 g = some (M, q, mm)) →
          (∀ x ∈ dd, x.2 = .dead ∧ x.1 ≠ n) → ((∀ x ∈ kk, x.2 = .dead ∧ (σ.getD x.1 .dead).root ≠ none) ∧ ∀ x ∈ dd, x.2 = .dead → ∀ M, M ≠ x.1 → (σ.getD M .dead).root = some x.1 → ∃ y ∈ kk, y.1 = M) →
          (σ.getD n .dead).rty = none → (σ.getD n .dead).vty = some (.map k e) → Good P C w0 K lab o σ a w [] (dd ++ [(n, Slot.own (.map k e) (some (mput k e xs y v)))] ++ kk) := by
        intro b ck es es' ck' nv xs v lab2 dd kk hbl hhp hmv hxv hnv hrunI hsz' hpw' hdj' hent' A1 A2 A3 A4 A5 A6 A7 A8
        have hrunU : Runs P o a w undef (ChangeMaps.setBlock w b (.map es' ck')) := by
          refine .inr ⟨?_, rfl⟩
          unfold execOp
          simp [ho, hmv, hky', hxv, hrunI]
        obtain ⟨w', hw'⟩ : ∃ w', w' = ChangeMaps.setBlock w b (.map es' ck') := ⟨_, rfl⟩
        have other : ∀ {g : Nat}, g ≠ b → w'.heap[g]? = w.heap[g]? := fun hne => by rw [hw']; exact ChangeMaps.heap_setBlock_other hhp _ hne
        have same : w'.heap[b]? = some (.map es' ck') := by rw [hw']; exact ChangeMaps.heap_setBlock_same hhp _
        have hsize : w'.heap.size = w.heap.size := by rw [hw']; simp [ChangeMaps.setBlock]
        have fz : ∀ g, Fz lab w g → Fz lab2 w' g ∧ w'.heap[g]? = w.heap[g]? := fun g hg => ⟨⟨A1 g hg.1, by rw [hsize]; exact hg.2⟩, other fun e => by rw [e] at hg; rw [hg.1] at hbl; cases hbl⟩
        have hfr : Fr w0 K w' := by
          refine ⟨?_, ?_, ?_, by rw [hsize]; exact h.fr.size, fun g hg => (other fun e => h.kl b _ hbl (e ▸ hg)).trans (h.fr.keep g hg)⟩
          · rw [hw']; exact h.fr.os
          · rw [hw']; exact h.fr.tape
          · rw [hw']; exact h.fr.output
        have kept : ∀ M, (∀ x ∈ dd ++ [(n, Slot.own (.map k e) (some (mput k e xs y v)))], x.1 ≠ M) → ∀ g q mm, lab g = some (M, q, mm) → lab2 g = some (M, q, mm) ∧ w'.heap[g]? = w.heap[g]? := fun M hM g q mm hg =>
          ⟨A4 M (fun e => hM _ (List.mem_append_right _ (List.mem_singleton.2 rfl)) e.symm) (fun x hx => hM x (by simp [hx])) g q mm hg, other fun e => by rw [e, hbl] at hg; simp only [Option.some.injEq, Prod.mk.injEq] at hg; exact hM _ (List.mem_append_right _ (List.mem_singleton.2 rfl)) hg.1⟩
        rw [← hw'] at hrunU
        refine ⟨trivial, undef, w', lab2, hrunU, ?_, ?_, fun M hM => kept M fun x hx => hM x (by simp only [List.mem_append] at hx ⊢; exact .inl hx)⟩
        · rw [hd, tmps_none]
          refine h.wrT hfr (fun g p hg => by rw [hsize]; obtain ⟨q, hq⟩ := A2 g p hg; exact h.lt g q hq) (fun g p hg => by obtain ⟨q, hq⟩ := A2 g p hg; exact h.kl g q hq) fz kept (fun x hx => ?_) ⟨A6.1, fun x hx hxd => ?_⟩
          · rcases List.mem_append.1 hx with hx | hx
            · obtain ⟨q1, q2⟩ := A5 x hx
              rw [q1]
              exact ⟨rfl, trivial, .inl rfl⟩
            · simp only [List.mem_singleton] at hx; subst hx
              refine ⟨rfl, ⟨[.map (some b)], hnv, ?_⟩, .inr (.inr (.inl ⟨by rw [A7]; rfl, by rw [A8]; rfl, fun g hg => other fun e => ?_⟩))⟩
              · simp only [Own]
                refine .inr ⟨b, _, es', ck', rfl, rfl, A3, same, hsz', hpw', hdj', fun i hi => ?_⟩
                obtain ⟨en, kc, r1, r2, r3, vc, r4, r5⟩ := hent' i hi
                refine ⟨en, kc, vc, r1, r2, r4, r3.keep fz, ?_⟩
                cases e with
                | slice te el =>
                  simp only [OwnE] at r5 ⊢
                  obtain ⟨t0, v2, flat2, rfl, t2, t3, t4⟩ := r5
                  refine ⟨t0, v2, flat2, rfl, ownsRow_same t2 fun g hg => other fun e => ?_, t3, fun i hi => (t4 i hi).keep fz⟩
                  subst e
                  rcases t2.2 with ⟨q, _⟩ | ⟨g', cap, cur, q, _, q5, _⟩
                  · rw [q] at hg; cases hg
                  · rw [q] at hg
                    simp only [Value.ownBlock, Option.some.injEq] at hg
                    subst hg
                    rw [hhp] at q5; cases q5
                | _ => exact Imm.keep fz r5
              · rw [e, hbl] at hg; simp at hg
          · rcases List.mem_append.1 hx with hx | hx
            · exact A6.2 x hx hxd
            · simp only [List.mem_singleton] at hx; subst hx; cases hxd
        · refine fun _ => hR.app fun x hx => ?_
          rcases List.mem_append.1 hx with hx | hx
          · rcases List.mem_append.1 hx with hx | hx
            · rw [(A5 x hx).1]; rfl
            · simp only [List.mem_singleton] at hx; subst hx; rfl
          · rw [(A6.1 x hx).1]; rfl
      split at h4
      · rename_i hef
        obtain ⟨v, h5, h6⟩ := bind_run h4
        simp only [RM.run] at h6
        split at h6
        · rename_i xs hxs
          simp only [RM.run, Option.some.injEq, Eff.pure.injEq] at h6
          obtain ⟨rfl, rfl, rfl⟩ := h6
          have hσ := mapOf_some hxs
          have hs := h.slots n
          rw [hσ] at hs
          obtain ⟨cs, hcs, hown⟩ := hs
          simp only [Own] at hown
          rcases hown with ⟨q, _⟩ | ⟨b, xs', es, ck, q, rfl, hb, hhp, hsz, hpw, hdj, hent⟩
          · cases q
          obtain rfl := Option.some.inj q
          have hmv : a.eval m = .map (some b) := by rw [mapOwner_run h h1 (by rw [hσ]; rfl), hcs]; rfl
          obtain ⟨vc, hv, hxv⟩ := rdT_run h h5
          simp only [RepC] at hv
          have hxv' : a.eval x = e.mk vc := hxv
          have hvF : Imm w (Fz lab w) e v vc := Imm.flat hef hv
          obtain ⟨es', ck', r1, r2, r3, r4, r5⟩ := run_update (P := P) (w := w) (S := Fz lab w) (E := fun q nv => ∃ vc, nv = e.mk vc ∧ OwnE w (Fz lab w) (Lb lab n 0 0) e q vc) hu hK hkey hkf hhp hsz hpw (fun i hi => by obtain ⟨en, kc, vc, r1, r2, _, r4, _⟩ := hent i hi; exact ⟨en, kc, r1, r2, r4⟩) hyF (v := v) (nv := e.mk vc) ⟨vc, rfl, OwnE.of_imm hef hvF⟩
            (fun i hi en he _ => by obtain ⟨en', kc, vc, r1, r2, r3, r4, r5⟩ := hent i hi; rw [he] at r1; obtain rfl := Option.some.inj r1; exact ⟨vc, r3, r5⟩) (fun i i' _ _ en en' g _ _ => hdj i i' en en' g) (fun i hi en g _ _ _ hg => by rw [mk_noblock hef hvF] at hg; cases hg)
          have := world (lab2 := lab) (dd := []) (kk := []) hb hhp hmv hxv' (by rw [hcs]; rfl) r1 r2 r3 r4 r5 (fun g hg => hg) (fun g p hg => ⟨p, hg⟩) hb (fun M _ _ g q mm hg => hg) (by simp) ⟨by simp, by simp⟩ (by rw [hσ]; rfl) (by rw [hσ]; rfl)
          simpa using this
        · simp [RM.run] at h6
      · rename_i hef
        obtain ⟨q, h5, h6⟩ := bind_run h4
        obtain ⟨kk, h7, h8⟩ := bind_run h6
        split at h8
        · simp [RM.run] at h8
        · rename_i hc
          simp only [Bool.or_eq_true, not_or, decide_eq_true_eq, Bool.not_eq_true, Bool.not_eq_false'] at hc
          obtain ⟨hqn, hsl⟩ := hc
          simp only [RM.run] at h8
          split at h8
          · rename_i z hz
            simp only [RM.run, Option.some.injEq, Eff.pure.injEq] at h8
            obtain ⟨rfl, rfl, rfl⟩ := h8
            have hyz : y = z.2 := hp.1
            obtain ⟨xs, y0⟩ := z
            simp only at hyz
            subst hyz
            have hσ := holeOf_some hz
            have hs := h.slots n
            rw [hσ] at hs
            obtain ⟨b, xs', es, ck, q0, hnv, hbl, hhp, hsz, hpw, hdj, hent⟩ := hs
            obtain rfl := Option.some.inj q0
            have hmv : a.eval m = .map (some b) := by rw [mapOwner_run h h1 (by rw [hσ]; rfl), hnv]
            obtain ⟨rfl, hqσ⟩ := ownAt_run h5
            have hqs := h.slots q.1
            rw [hqσ] at hqs
            cases e with
            | slice te el =>
              obtain ⟨vcs, hvv, hvo⟩ := hqs
              simp only [Own] at hvo
              obtain ⟨t0, v, flat, rfl, t2, t3, t4⟩ := hvo
              have hxv : a.eval (.tmp q.1) = v := hvv
              obtain ⟨lab2, hlab2⟩ : ∃ lab2 : Lab, lab2 = fun g => if v.ownBlock = some g then some (n, 0, 1) else lab g := ⟨_, rfl⟩
              have lin : ∀ {g}, v.ownBlock = some g → lab2 g = some (n, 0, 1) := fun hg => by rw [hlab2]; simp [hg]
              have lout : ∀ {g}, v.ownBlock ≠ some g → lab2 g = lab g := fun hg => by rw [hlab2]; simp [hg]
              have lold : ∀ {g}, v.ownBlock = some g → lab g = some (q.1, 0, 1) := fun hg => t3 _ hg
              have mine : ∀ {g}, lab g = some (n, 0, 1) → lab2 g = some (n, 0, 1) := fun {g} hg => by
                rw [lout fun e => ?_]
                · exact hg
                · rw [lold e] at hg; simp only [Option.some.injEq, Prod.mk.injEq] at hg; exact hqn hg.1
              obtain ⟨es', ck', r1, r2, r3, r4, r5⟩ := run_update (P := P) (w := w) (S := Fz lab w) (e := .slice te el) (E := fun q' nv => ∃ vc, nv = (Ty.slice te el).mk vc ∧ OwnE w (Fz lab w) (Lb lab2 n 0 0) (.slice te el) q' vc) hu hK hkey hkf hhp hsz hpw (fun i hi => by obtain ⟨en, kc, r1, r2, r4, _⟩ := hent i hi; exact ⟨en, kc, r1, r2, r4⟩) hyF (v := q.2) (nv := v)
                ⟨[v], rfl, by simp only [OwnE]; exact ⟨t0, v, flat, rfl, t2, fun g hg => lin hg, t4⟩⟩
                (fun i hi en he hne => by
                  obtain ⟨en', kc, r1, r2, r3, r4⟩ := hent i hi
                  rw [he] at r1; obtain rfl := Option.some.inj r1
                  obtain ⟨vc, s1, s2⟩ := r4 hne
                  exact ⟨vc, s1, s2.keep (fun g hg => ⟨hg, rfl⟩) fun g hg => ⟨mine hg, rfl⟩⟩) hdj
                (fun i hi en g hne he hg1 hg2 => by
                  obtain ⟨en', kc, r1, r2, r3, r4⟩ := hent i hi
                  rw [he] at r1; obtain rfl := Option.some.inj r1
                  obtain ⟨vc, s1, s2⟩ := r4 hne
                  simp only [OwnE] at s2
                  obtain ⟨_, v2, _, rfl, _, u3, _⟩ := s2
                  have : en.val = v2 := s1
                  rw [this] at hg1
                  have := u3 g hg1
                  have h9 : lab g = some (n, 0, 1) := this
                  rw [lold hg2] at h9
                  simp only [Option.some.injEq, Prod.mk.injEq] at h9
                  exact hqn h9.1)
              have hkk := frees_run h hR _ kk h7
              have := world (lab2 := lab2) (dd := [(q.1, .dead)]) (kk := kk) hbl hhp hmv hxv hnv r1 r2 r3 r4 r5 (fun g hg => by rw [lout fun e => by rw [lold e] at hg; cases hg]; exact hg) (fun g p hg => by
                  by_cases e : v.ownBlock = some g
                  · exact ⟨_, lold e⟩
                  · rw [lout e] at hg; exact ⟨p, hg⟩) (mine hbl) (fun M hM hM2 g q' mm hg => by
                  rw [lout fun e => ?_]
                  · exact hg
                  · rw [lold e] at hg; simp only [Option.some.injEq, Prod.mk.injEq] at hg; exact hM2 (q.1, .dead) (by simp) hg.1) (fun x hx => by simp only [List.mem_singleton] at hx; subst hx; exact ⟨rfl, hqn⟩) hkk (by rw [hσ]; rfl) (by rw [hσ]; rfl)
              simpa using this
            | _ => simp [Ty.isSl] at hsl
          · simp [RM.run] at h8
  · simp [RM.run] at hrun
end
end Go.Proofs.Ytmjijggkdbiijaa
/- Calls, and every operation, are what the slots say. No statement is proved here. -/
namespace Go.Proofs.Ytmjijggkdbiijaa
open Go.RowKit
set_option linter.unusedVariables false
set_option linter.unusedSimpArgs false
def flatRes (l : List (Bool × Ty)) : Bool := l.all fun x => if x.1 then x.2.ownFlat else x.2.flat
theorem compOf_is (o : Bool) (t : Ty) (x : t.T) : compOf o t x = (if o then .own t x else .val (.dat t x)) ∨ ∃ f c, t = .fn f c ∧ ∃ d, compOf o t x = .val (.clo f d) := by
  cases t with
  | fn f c => exact .inr ⟨f, c, rfl, _, rfl⟩
  | _ => exact .inl rfl
theorem compOf_flat {t : Ty} {x : t.T} (h : t.flat = true) : compOf false t x = .val (.dat t x) := by
  cases t with
  | fn f c => simp [Ty.flat] at h
  | _ => rfl
theorem compsOf_flat : ∀ {l : List (Bool × Ty)} {r : RTup l}, flatRes l = true → ∀ c ∈ compsOf l r, (∀ d, c = .val d → d.flat = true) ∧ ∀ t x, c = .own t x → t.ownFlat = true
  | [], r, h, c, hc => by simp [compsOf] at hc
  | [(b, t)], x, h, c, hc => by
    simp only [compsOf, List.mem_singleton] at hc; subst hc
    simp only [flatRes, List.all_cons, List.all_nil, Bool.and_true] at h
    rcases compOf_is b t x with e | ⟨f, c, rfl, d0, e⟩
    · rw [e]
      cases b with
      | true => exact ⟨fun d hd => (by cases hd), fun t x hd => by cases hd; simpa using h⟩
      | false => exact ⟨fun d hd => (by cases hd; simpa [D.flat] using h), fun t x hd => by cases hd⟩
    · cases b <;> simp [Ty.ownFlat, Ty.flat] at h
  | (b, t) :: b' :: l, x, h, c, hc => by
    simp only [flatRes, List.all_cons, Bool.and_eq_true] at h
    simp only [compsOf, List.mem_cons] at hc
    rcases hc with rfl | hc
    · rcases compOf_is b t x.1 with e | ⟨f, c, rfl, d0, e⟩
      · rw [e]
        cases b with
        | true => exact ⟨fun d hd => (by cases hd), fun t x hd => by cases hd; simpa using h.1⟩
        | false => exact ⟨fun d hd => (by cases hd; simpa [D.flat] using h.1), fun t x hd => by cases hd⟩
      · cases b <;> simp [Ty.ownFlat, Ty.flat] at h
    · exact compsOf_flat (l := b' :: l) (r := x.2) (by simp only [flatRes, List.all_cons, Bool.and_eq_true]; exact h.2) c hc
theorem compsOf_live : ∀ {l : List (Bool × Ty)} {r : RTup l}, ∀ c ∈ compsOf l r, c ≠ .dead
  | [], r, c, hc => by simp [compsOf] at hc
  | [(b, t)], x, c, hc => by
    simp only [compsOf, List.mem_singleton] at hc; subst hc
    rcases compOf_is b t x with e | ⟨f, c, rfl, d0, e⟩ <;> rw [e] <;> cases b <;> simp
  | (b, t) :: b' :: l, x, c, hc => by
    simp only [compsOf, List.mem_cons] at hc
    rcases hc with rfl | hc
    · rcases compOf_is b t x.1 with e | ⟨f, c, rfl, d0, e⟩ <;> rw [e] <;> cases b <;> simp
    · exact compsOf_live (l := b' :: l) (r := x.2) c hc
theorem factR_of : ∀ {l : List (Bool × Ty)} {r : RTup l}, (∀ c ∈ compsOf l r, c.ok) → allP (factR l r)
  | [], r, _ => trivial
  | [(b, t)], x, h => by
    have h1 := h (compOf b t x) (List.mem_singleton.2 rfl)
    rcases compOf_is b t x with e | ⟨f, c, rfl, d0, e⟩
    · rw [e] at h1; cases b <;> exact Ty.fact_of_ok h1
    · exact ⟨trivial, trivial⟩
  | (b, t) :: b' :: l, x, h => by
    refine allP_append.2 ⟨?_, factR_of (l := b' :: l) (r := x.2) fun c hc => h c (by simp [compsOf, hc])⟩
    have h1 := h (compOf b t x.1) (by simp [compsOf])
    rcases compOf_is b t x.1 with e | ⟨f, c, rfl, d0, e⟩
    · rw [e] at h1; cases b <;> exact Ty.fact_of_ok h1
    · exact ⟨trivial, trivial⟩
theorem CompOk.ok {lab : Lab} {w : World} {N k : Nat} {c : Comp} {v : Value} (h : CompOk lab w N k c v) : c.ok := by
  cases c with
  | dead => trivial
  | val d => obtain ⟨cs, h1, _⟩ := h; exact h1.ok
  | own t x => obtain ⟨cs, _, h1⟩ := h; exact h1.ok
section
variable {P : Program} {Γ : Ctx} {w0 : World} {K : Nat → Prop} {lab lab' : Lab} {σ : List Slot} {a : Act} {w w' : World} {C : List Nat} {o : Oper} {pre fact : List Prop} {ws : Wr}
/-- What stays on other slots. -/
def Kept (lab lab' : Lab) (w w' : World) (ws : Wr) : Prop := ∀ M, (∀ x ∈ ws, x.1 ≠ M) → ∀ g k m, lab g = some (M, k, m) → lab' g = some (M, k, m) ∧ w'.heap[g]? = w.heap[g]?
theorem call_good (h : Sim w0 K lab σ a w) (hR : Rt C σ) (hC : True) {c : Call} (ho : o.op = .call c) {f : Nat} {args : List Arg} {l : List (Bool × Ty)} {dst : Nat} {fl : Bool} (hrun : (evCall Γ C o c).run σ = some (.call f args l dst ws fl))
    {r : RTup l} (hev : Ev P f args (compsOf l r)) (hfl : fl = true ∨ flatRes l = true) :
    ∃ vs, (execOp a.eval o).run P w = .ok (.enter f vs) w ∧ Calls P f vs w fun e w' => ∃ v lab', e = .returned v ∧ Sim w0 K lab' (app σ (ws ++ [(dst, slotOf l r)])) (a.put o.dst v) w' ∧ Rt C (app σ (ws ++ [(dst, slotOf l r)])) ∧ allP (factR l r) ∧ Kept lab lab' w w' (ws ++ [(dst, slotOf l r)]) := by
  obtain ⟨hd, hks, ds, vs, rfl, hal, hex⟩ := call_run h ho hrun
  obtain ⟨hent, hcall⟩ := hev
  obtain ⟨ks', k1, k2, k3⟩ := free_run h hR dst
  rw [k1] at hks
  obtain rfl := Option.some.inj hks
  refine ⟨vs.toArray, by rw [hex]; exact hent _ _, ?_⟩
  have hclt : ∀ g p, callL fl lab g = some p → g < w.heap.size := by
    intro g p hg
    unfold callL at hg
    split at hg
    · rename_i q; exact h.lt g _ q
    · cases hg
  have hcD : ∀ g, callL fl lab g = none ∨ callL fl lab g = some (D0, 0, 0) := by
    intro g
    unfold callL
    split
    · exact .inr rfl
    · exact .inl rfl
  refine Calls.mono (hcall w (callL fl lab) vs hclt (by rw [List.length_map]; exact hal.len) ?_) ?_
  · intro j ar v ha hv
    have hj : j < vs.length := by rcases Nat.lt_or_ge j vs.length with q | q; exact q; rw [List.getElem?_eq_none q] at hv; cases hv
    have hj' : j < ds.length := by rw [← hal.len]; exact hj
    rw [List.getElem?_eq_getElem hj] at hv
    obtain rfl := Option.some.inj hv
    rw [List.getElem?_map, List.getElem?_eq_getElem hj'] at ha
    simp only [Option.map_some, Option.some.injEq] at ha
    subst ha
    exact hal.get j hj hj'
  · rintro e w' ⟨v, lab', rfl, c1, c2, c3, c4, c5⟩
    have hheap : ∀ g, g < w.heap.size → w'.heap[g]? = w.heap[g]? := fun g hg => c1.keep g ⟨hg, by
      rcases hcD g with q | q
      · exact .inl q
      · exact .inr ⟨0, 0, q⟩⟩
    have hsz := c1.size
    have old : ∀ {g : Nat}, g < w.heap.size → backL w dst lab lab' g = lab g := fun hg => by unfold backL; rw [if_pos hg]
    have fresh : ∀ {g k m : Nat}, lab' g = some (0, k, m) → ¬ g < w.heap.size := by
      intro g k m hg hlt
      rcases hcD g with q | q
      · rw [c2 g hlt q] at hg; cases hg
      · have := c3 g _ _ q
        rw [this] at hg
        simp [D0] at hg
    have hLb : ∀ k i g, Lb lab' 0 k i g → Lb (backL w dst lab lab') dst k i g ∧ w'.heap[g]? = w'.heap[g]? := by
      intro k i g hg
      have hg' : lab' g = some (0, k, i + 1) := hg
      refine ⟨?_, rfl⟩
      unfold Lb backL
      rw [if_neg (fresh hg'), hg']
      rfl
    have hFz : fl = true → ∀ g, Fz lab' w' g → Fz (backL w dst lab lab') w' g ∧ w'.heap[g]? = w'.heap[g]? := by
      intro hf g hg
      refine ⟨⟨?_, hg.2⟩, rfl⟩
      unfold backL
      split
      · rename_i hlt
        cases hl : lab g with
        | none => rfl
        | some p =>
          have : callL fl lab g = some (D0, 0, 0) := by rw [hf]; simp [callL, hl]
          have := c3 g _ _ this
          rw [hg.1] at this; cases this
      · rw [hg.1]
    have hcomp : ∀ (cc : Comp) (k : Nat) (u : Value), cc ∈ compsOf l r → CompOk lab' w' 0 k cc u → CompOk (backL w dst lab lab') w' dst k cc u := by
      intro cc k u hc hk
      rcases hfl with hf | hf
      · cases cc with
        | dead => trivial
        | val d => exact RepV.keep (hFz hf) hk
        | own t x =>
          obtain ⟨cs, q1, q2⟩ := hk
          exact ⟨cs, q1, q2.keep (hFz hf) (hLb k)⟩
      · obtain ⟨f1, f2⟩ := compsOf_flat hf cc hc
        cases cc with
        | dead => trivial
        | val d => exact RepV.flat (f1 d rfl) hk
        | own t x =>
          obtain ⟨cs, q1, q2⟩ := hk
          exact ⟨cs, q1, q2.flatS (fun i g hg => (hLb k i g hg).1) (f2 t x rfl)⟩
    have hnew : (slotOf l r).root = none ∧ SlotOk (backL w dst lab lab') w' [] #[] dst (slotOf l r) v := by
      have hcomp' := hcomp
      have hlive := compsOf_live (l := l) (r := r)
      unfold slotOf
      generalize compsOf l r = cs at c5 hcomp' hlive
      match cs, c5, hcomp', hlive with
      | [], c5, _, _ =>
        obtain ⟨us, rfl, q1, _⟩ := c5
        exact ⟨rfl, us, rfl, q1, fun k c u hc _ => by simp at hc⟩
      | [cc], c5, hcomp', hlive =>
        have := hcomp' cc 0 v (by simp) c5
        cases cc with
        | dead => exact absurd rfl (hlive .dead (by simp))
        | val d => exact ⟨rfl, this⟩
        | own t x => exact ⟨rfl, this⟩
      | c0 :: c1 :: cs, c5, hcomp', _ =>
        obtain ⟨us, rfl, q1, q2⟩ := c5
        exact ⟨rfl, us, rfl, q1, fun k c u hc hu => hcomp' c (k + 1) u (List.mem_of_getElem? hc) (q2 k c u hc hu)⟩
    have hfact : allP (factR l r) := by
      refine factR_of fun cc hc => ?_
      generalize compsOf l r = cs at c5 hc
      match cs, c5, hc with
      | [c0], c5, hc => simp only [List.mem_singleton] at hc; subst hc; exact CompOk.ok c5
      | c0 :: c1 :: cs, c5, hc =>
        obtain ⟨us, rfl, q1, q2⟩ := c5
        obtain ⟨k, hk, rfl⟩ := List.getElem_of_mem hc
        exact CompOk.ok (q2 k _ _ (List.getElem?_eq_getElem hk) (List.getElem?_eq_getElem (by rw [q1]; exact hk)))
    refine ⟨v, backL w dst lab lab', rfl, ?_, ?_, hfact, ?_⟩
    · rw [hd]
      have := h.putT (N := dst) (s := slotOf l r) (v := v) (ws := []) (kk := []) (ks := ks') (lab' := backL w dst lab lab') (w' := w')
        ⟨c1.os.trans h.fr.os, c1.tape.trans h.fr.tape, c1.output.trans h.fr.output, Nat.le_trans h.fr.size hsz, fun g hg => (hheap g (Nat.lt_of_lt_of_le (h.kb g hg) h.fr.size)).trans (h.fr.keep g hg)⟩
        (fun g p hg => by
          unfold backL at hg
          split at hg
          · omega
          · split at hg
            · rename_i q; exact c4 g _ q
            · cases hg)
        (fun g p hg => by
          unfold backL at hg
          split at hg
          · exact h.kl g p hg
          · rename_i q; intro hk; have := h.kb g hk; have := h.fr.size; omega)
        (fun g hg => ⟨⟨by rw [old hg.2]; exact hg.1, by have := hg.2; omega⟩, hheap g hg.2⟩)
        (fun M hM _ g k m hg => ⟨by rw [old (h.lt g _ hg)]; exact hg, hheap g (h.lt g _ hg)⟩)
        (by simp) hnew (by simp) ⟨by simp, by simp⟩ ⟨k2, k3⟩
      simpa using this
    · refine hR.app fun x hx => ?_
      rcases List.mem_append.1 hx with hx | hx
      · rw [(k2 x hx).1]; rfl
      · simp only [List.mem_singleton] at hx; subst hx; exact hnew.1
    · intro M _ g k m hg
      exact ⟨by rw [old (h.lt g _ hg)]; exact hg, hheap g (h.lt g _ hg)⟩
end
theorem mk_inj {t : Ty} {l1 l2 : List Value} (e : t.mk l1 = t.mk l2) (h1 : l1.length = t.sz) (h2 : l2.length = t.sz) : l1 = l2 := by
  unfold Ty.mk at e
  cases t with
  | unit | prod _ _ | arr _ _ => simpa [Ty.agg] using e
  | _ =>
    simp only [Ty.agg, Bool.false_eq_true, if_false, Ty.sz] at e h1 h2
    match l1, h1, l2, h2 with
    | [x1], _, [x2], _ => simpa using e
theorem range_same {w : World} {g o : Nat} {l1 l2 : List Value} (h1 : w.rangeAt g o l1) (h2 : w.rangeAt g o l2) (hl : l1.length = l2.length) : l1 = l2 := by
  apply List.ext_getElem hl
  intro i hi1 hi2
  have a1 := h1 i _ (List.getElem?_eq_getElem hi1)
  have a2 := h2 i _ (List.getElem?_eq_getElem hi2)
  rw [a1] at a2
  exact Option.some.inj a2
theorem setS_nil {t u : Ty} {x z : t.T} {y : u.T} (h : setS t x [] u y = some z) : ∃ e : u = t, z = castT e y := by
  have h' : (if h : u = t then some (castT h y) else none) = some z := by cases t <;> simpa only [setS] using h
  split at h'
  · rename_i e; exact ⟨e, (Option.some.inj h').symm⟩
  · cases h'
theorem Own.relab {w w' : World} {S S' S'' : Nat → Prop} {L L' : Nat → Nat → Prop} : ∀ {t : Ty} {i i' : Nat} {x y : t.T} {cs : List Value}, t.ownFlat = true → Own w S L i t x cs → Own w' S' L' i' t y cs → Own w' S'' L i t y cs
  | .int _, _, _, _, _, _, hf, _, h => by simp only [Own] at h ⊢; exact Imm.flat hf h
  | .bool, _, _, _, _, _, hf, _, h => by simp only [Own] at h ⊢; exact Imm.flat hf h
  | .str, _, _, _, _, _, hf, _, h => by simp only [Own] at h ⊢; exact Imm.flat hf h
  | .unit, _, _, _, _, _, hf, _, h => by simp only [Own] at h ⊢; exact Imm.flat hf h
  | .arr n e, _, _, _, _, _, hf, _, h => by simp only [Own] at h ⊢; exact Imm.flat hf h
  | .prod a b, _, _, _, _, _, hf, h1, h2 => by
    simp only [Ty.ownFlat, Bool.and_eq_true] at hf
    simp only [Own] at h1 h2 ⊢
    exact ⟨Own.relab hf.1 h1.1 h2.1, Own.relab hf.2 h1.2 h2.2⟩
  | .slice te e, _, _, _, _, _, hf, h1, h2 => by
    simp only [Own] at h1 h2 ⊢
    obtain ⟨_, v, flat, rfl, _, b3, _⟩ := h1
    obtain ⟨c1, v', flat', e1, c2, _, c4⟩ := h2
    simp only [List.cons.injEq, and_true] at e1
    subst e1
    exact ⟨c1, v, flat', rfl, c2, b3, fun j hj => Imm.flat hf (c4 j hj)⟩
  | .map k e, _, _, m, m', cs, hf, h1, h2 => by
    simp only [Ty.ownFlat, Bool.and_eq_true] at hf
    simp only [Own] at h1 h2 ⊢
    rcases h2 with h2 | ⟨b, xs, es, ck, c1, c2, c3, c4, c5, c6, c8, c7⟩
    · exact .inl h2
    · rcases h1 with ⟨_, rfl⟩ | ⟨b', xs', es', ck', _, rfl, d3, _⟩
      · cases c2
      · simp only [List.cons.injEq, Value.map.injEq, Option.some.injEq, and_true] at c2
        subst c2
        refine .inr ⟨b', xs, es, ck, c1, rfl, d3, c4, c5, c6, c8, fun i hi => ?_⟩
        obtain ⟨en, kc, vc, q1, q2, q3, q4, q5⟩ := c7 i hi
        exact ⟨en, kc, vc, q1, q2, q3, Imm.flat hf.1 q4, OwnE.of_imm hf.2 (Imm.flat hf.2 (OwnE.to_imm hf.2 q5))⟩
  | .fn _ _, _, _, _, _, _, hf, _, _ => by simp [Ty.ownFlat, Ty.flat] at hf
/-- What a call gets to know of the labels that may write slot M's content from place off on. -/
def lendL (M off sz : Nat) (lab : Lab) : Lab := fun g =>
  match lab g with
  | none => none
  | some (M', k, m) => if M' = M ∧ k = 0 ∧ off < m ∧ m ≤ off + sz then some (0, 0, m - off) else some (D0, 0, 0)
theorem compsOf_val : ∀ {l : List (Bool × Ty)} {r : RTup l}, (l.all fun x => !x.1 && x.2.flat) = true → ∀ c ∈ compsOf l r, ∃ d, c = .val d ∧ d.flat = true
  | [], r, h, c, hc => by simp [compsOf] at hc
  | [(b, t)], x, h, c, hc => by
    simp only [compsOf, List.mem_singleton] at hc; subst hc
    simp only [List.all_cons, List.all_nil, Bool.and_true, Bool.and_eq_true, Bool.not_eq_true'] at h
    obtain ⟨rfl, h2⟩ := h
    exact ⟨_, compOf_flat h2, h2⟩
  | (b, t) :: b' :: l, x, h, c, hc => by
    rw [List.all_cons, Bool.and_eq_true] at h
    simp only [compsOf, List.mem_cons] at hc
    rcases hc with rfl | hc
    · simp only [Bool.and_eq_true, Bool.not_eq_true'] at h
      obtain ⟨⟨rfl, h2⟩, _⟩ := h
      exact ⟨_, compOf_flat h2, h2⟩
    · exact compsOf_val (l := b' :: l) (r := x.2) h.2 c hc
section
variable {P : Program} {Γ : Ctx} {w0 : World} {K : Nat → Prop} {lab lab' : Lab} {σ : List Slot} {a : Act} {w w' : World} {C : List Nat} {o : Oper} {pre fact : List Prop} {ws : Wr}
theorem lend_run (h : Sim w0 K lab σ a w) {x : Operand} {q : Lent} (hr : (lendAt x).run σ = some q) : ∃ off cs, a.eval x = q.t.mk cs ∧ Own w (Fz lab w) (Lb lab q.M 0) off q.t q.x cs ∧ σ.getD q.M .dead = q.s ∧
    ∀ (w' : World) (y : q.t.T) (s : Slot), putBack q.p q.t y q.s = some s → (∀ g, Fz lab w g → Fz lab w' g ∧ w'.heap[g]? = w.heap[g]?) → (∀ g m, lab g = some (q.M, 0, m) → ¬ (off < m ∧ m ≤ off + q.t.sz) → w'.heap[g]? = w.heap[g]?) →
      Own w' (Fz lab w') (Lb lab q.M 0) off q.t y cs → s.root = none ∧ s.rty = q.s.rty ∧ s.vty = q.s.vty ∧ s ≠ .dead ∧ SlotOk lab w' [] #[] q.M s (a.tmps.getD q.M undef) := by
  cases x with
  | tmp n =>
    simp only [lendAt, RM.run] at hr
    have hn := h.slots n
    have hev : a.eval (.tmp n) = a.tmps.getD n undef := rfl
    generalize hσ : σ.getD n .dead = s0 at hr hn
    -- a slot of one's own
    have own : ∀ {M : Nat} {t : Ty} {x : t.T} {cs : List Value}, a.tmps.getD M undef = t.mk cs → ∀ (w' : World) (y : t.T) (s : Slot), putBack [] t y (.own t x) = some s → Own w' (Fz lab w') (Lb lab M 0) 0 t y cs → s.root = none ∧ s.rty = (Slot.own t x).rty ∧ s.vty = (Slot.own t x).vty ∧ s ≠ .dead ∧ SlotOk lab w' [] #[] M s (a.tmps.getD M undef) := by
      intro M t x cs hv w' y s hs ho
      simp only [putBack, if_true] at hs
      split at hs
      · rename_i z hz
        obtain ⟨e, rfl⟩ := setS_nil hz
        obtain rfl := Option.some.inj hs
        exact ⟨rfl, rfl, rfl, nofun, cs, hv, ho⟩
      · cases hs
    split at hr
    · rename_i t y
      simp only [RM.run, Option.some.injEq] at hr; subst hr
      obtain ⟨cs, h1, h2⟩ := hn
      exact ⟨0, cs, h1, h2, hσ, fun w' y s hs _ _ ho => own h1 w' y s hs ho⟩
    · rename_i M p
      obtain ⟨u, cs, q1, q2⟩ := hn
      simp only [RM.run] at hr
      have hM := h.slots M
      generalize hσM : σ.getD M .dead = sM at hr hM
      split at hr
      · rename_i t y
        split at hr
        · rename_i hp; subst hp
          simp only [RM.run, Option.some.injEq] at hr; subst hr
          obtain ⟨ds, h1, h2⟩ := hM
          rcases q1.2 with ⟨_, _, t', _, r, _⟩ | ⟨_, _, r, r2⟩
          · rw [hσM] at r; cases r
          · rw [hσM] at r
            simp only [Slot.vty, Option.some.injEq] at r
            subst r
            refine ⟨0, ds, ?_, h2, hσM, fun w' y s hs _ _ ho => own h1 w' y s hs ho⟩
            rw [hev, q2, ← r2, h1]
        · simp [RM.run] at hr
      · rename_i T X
        obtain ⟨g, ty, ds, b1, b2, b3, b4⟩ := hM
        have hds : w.rangeAt g 0 ds := fun j v hv => by rw [Nat.zero_add, cell_of_row w g j ds.toArray ty (0, 0) b3]; simpa using hv
        obtain ⟨hat, hrg⟩ : T.at p = some u ∧ w.rangeAt g (0 + T.off p) cs := by
          rcases q1.2 with ⟨g', o', t', r1, r2, r3, r4, r5⟩ | ⟨_, _, r, _⟩
          · rw [hσM] at r2
            simp only [Slot.rty, Option.some.injEq] at r2
            subst r2
            rw [b1] at r1
            simp only [Value.pointer.injEq, Option.some.injEq, Addr.mk.injEq] at r1
            obtain ⟨rfl, rfl, _⟩ := r1
            exact ⟨r4, r5⟩
          · rw [hσM] at r; cases r
        split at hr
        · rename_i hp; subst hp
          simp only [RM.run, Option.some.injEq] at hr; subst hr
          rw [Ty.at_nil] at hat
          obtain rfl := Option.some.inj hat
          have hoff : T.off [] = 0 := by cases T <;> rfl
          rw [hoff] at hrg
          obtain rfl := range_same hrg hds (by rw [q1.1, b4.len])
          refine ⟨0, cs, by rw [hev, q2], b4, hσM, fun w' y s hs hS hL ho => ?_⟩
          simp only [putBack] at hs
          split at hs
          · rename_i z hz
            obtain ⟨e, rfl⟩ := setS_nil hz
            obtain rfl := Option.some.inj hs
            exact ⟨rfl, rfl, rfl, nofun, g, ty, cs, b1, b2, (hL g 0 b2 (by omega)).trans b3, ho⟩
          · cases hs
        · split at hr
          · rename_i hnix
            have hno : ∀ s ∈ p, ∀ j, s ≠ .ix j := by
              intro s hs j e
              have := List.all_eq_true.1 hnix s hs
              subst e; simp at this
            split at hr
            · rename_i te e ys hgs
              simp only [RM.run, Option.some.injEq] at hr; subst hr
              obtain ⟨hat2, hown⟩ := Own.get b4 hgs (Ty.inb_flds hno) (fun _ => hno)
              rw [hat2] at hat
              obtain rfl := Option.some.inj hat
              have hcs : cs = (ds.drop (T.off p)).take (Ty.slice te e).sz := range_same hrg (range_part hds) (by rw [q1.1, hown.len])
              refine ⟨0 + T.off p, cs, by rw [hev, q2], by rw [hcs]; exact hown, hσM, fun w' y s hs hS hL ho => ?_⟩
              simp only [putBack] at hs
              split at hs
              · rename_i Z hZ
                obtain rfl := Option.some.inj hs
                refine ⟨rfl, rfl, rfl, nofun, g, ty, ds, b1, b2, (hL g 0 b2 (by omega)).trans b3, Own.upd hS b4 hZ hno (fun j g' hj hne hg' => ⟨hg', hL g' _ hg' ?_⟩) ?_⟩
                · rintro ⟨r1, r2⟩
                  have r2 : 0 + j + 1 ≤ 0 + T.off p + 1 := r2
                  omega
                · rw [hcs] at ho; exact ho
              · cases hs
            · simp [RM.run] at hr
          · simp [RM.run] at hr
      · simp [RM.run] at hr
    · simp [RM.run] at hr
  | _ => simp [lendAt, RM.run] at hr
theorem callB_good (h : Sim w0 K lab σ a w) (hR : Rt C σ) {c : Call} (ho : o.op = .call c) {f' : Nat} (hcal : c.callee = .value (.func f')) {f : Nat} {q : Lent} {args : List Arg} {l : List (Bool × Ty)} {dst : Option Nat}
    (hrun : (evCallB Γ C o f' c).run σ = some (.callb f q args l dst ws)) {r : RTup l} {y : q.t.T} (hev : EvB P f q.t q.x args (compsOf l r) y) (hof : q.t.ownFlat = true) (hfl : (l.all fun x => !x.1 && x.2.flat) = true) {s : Slot} (hs : putBack q.p q.t y q.s = some s) :
    o.dst = dst ∧ ∃ vs, (execOp a.eval o).run P w = .ok (.enter f vs) w ∧ Calls P f vs w fun e w' => ∃ v, e = .returned v ∧ Sim w0 K lab (app σ ((q.M, s) :: (ws ++ dst.toList.map fun n => (n, slotOf l r)))) (a.put o.dst v) w' ∧ Rt C (app σ ((q.M, s) :: (ws ++ dst.toList.map fun n => (n, slotOf l r)))) ∧ allP (factR l r ++ q.t.fact y) ∧
      Kept lab lab w w' ((q.M, s) :: (ws ++ dst.toList.map fun n => (n, slotOf l r))) := by
  obtain ⟨x, xs, z, hargs, h1, h3, hz, rfl, rfl, hd, hks⟩ : ∃ x xs z, c.args.toList = x :: xs ∧ (lendAt x).run σ = some q ∧ (argsOf xs ((c.argTypes.toList.drop 1).map Γ.ty)).run σ = some z ∧ z.2 = true ∧ args = z.1.map .imm ∧ f = f' ∧ o.dst = dst ∧
      ((dst = none ∧ ws = []) ∨ ∃ N, dst = some N ∧ N ≠ q.M ∧ (free C N).run σ = some ws) := by
    unfold evCallB at hrun
    split at hrun
    · rename_i x xs hargs
      obtain ⟨q', h1, h2⟩ := bind_run hrun
      obtain ⟨z, h3, h4⟩ := bind_run h2
      obtain ⟨l', h5, h6⟩ := bind_run h4
      split at h6
      · rename_i hz
        split at h6
        · rename_i N hN
          split at h6
          · simp [RM.run] at h6
          · rename_i hne
            obtain ⟨ks, h7, h8⟩ := bind_run h6
            simp only [RM.run, Option.some.injEq, Eff.callb.injEq] at h8
            obtain ⟨rfl, rfl, rfl, rfl, rfl, rfl⟩ := h8
            exact ⟨x, xs, z, hargs, h1, h3, hz, rfl, rfl, hN, .inr ⟨N, rfl, hne, h7⟩⟩
        · rename_i hN
          simp only [RM.run, Option.some.injEq, Eff.callb.injEq] at h6
          obtain ⟨rfl, rfl, rfl, rfl, rfl, rfl⟩ := h6
          exact ⟨x, xs, z, hargs, h1, h3, hz, rfl, rfl, hN, .inl ⟨rfl, rfl⟩⟩
      · simp [RM.run] at h6
    · simp [RM.run] at hrun
  obtain ⟨off, cs, e1, e2, e3, e4⟩ := lend_run h h1
  obtain ⟨hent, hcall⟩ := hev
  refine ⟨hd, (a.eval x :: xs.map a.eval).toArray, ?_, ?_⟩
  · have hm : c.args.map a.eval = (a.eval x :: xs.map a.eval).toArray := by
      apply Array.ext'; rw [Array.toList_map, hargs]; rfl
    have : execOp a.eval o = callFunc f (a.eval x :: xs.map a.eval).toArray := by
      unfold execOp
      simp only [ho, resolve, hcal, hm]
      simp [Act.eval, Deferred.ofValue, invoke]
    rw [this]; exact hent _ _
  have hnone : ∀ g, lab g = none → lendL q.M off q.t.sz lab g = none := fun g hg => by unfold lendL; rw [hg]
  have hnone' : ∀ g p, lendL q.M off q.t.sz lab g = some p → ∃ p', lab g = some p' := fun g p hg => by
    cases hl : lab g with
    | none => rw [hnone g hl] at hg; cases hg
    | some p' => exact ⟨p', rfl⟩
  have hdead : ∀ g M' k m, lab g = some (M', k, m) → ¬ (M' = q.M ∧ k = 0 ∧ off < m ∧ m ≤ off + q.t.sz) → lendL q.M off q.t.sz lab g = some (D0, 0, 0) := fun g M' k m hg hn => by
    unfold lendL; rw [hg]; simp only; rw [if_neg hn]
  have hSz : ∀ g, Fz lab w g → Fz (lendL q.M off q.t.sz lab) w g := fun g hg => ⟨hnone g hg.1, hg.2⟩
  have hal := argsOf_run h _ _ z h3 _ hSz (fun e => by rw [hz] at e; cases e)
  have hal' : Al2 (fun v d => RepV w (Fz (lendL q.M off q.t.sz lab) w) d v) (xs.map a.eval) z.1 := hal.mapL
  refine Calls.mono (hcall w (lendL q.M off q.t.sz lab) (a.eval x) (xs.map a.eval) (fun g p hg => by obtain ⟨p', hp⟩ := hnone' g p hg; exact h.lt g _ hp) (by rw [hal'.len, List.length_map]) ?_) ?_
  · intro j ar v ha hv
    cases j with
    | zero =>
      simp only [List.getElem?_cons_zero, Option.some.injEq] at ha hv
      subst ha hv
      refine ⟨cs, e1, Own.shift (fun g hg => ⟨hSz g hg, rfl⟩) (fun j g hj hg => ⟨?_, rfl⟩) e2⟩
      have hg' : lab g = some (q.M, 0, off + j + 1) := hg
      unfold Lb lendL
      rw [hg']
      simp only
      rw [if_pos (by refine ⟨?_, ?_, ?_, ?_⟩ <;> first | trivial | omega)]
      simp only [Option.some.injEq, Prod.mk.injEq, true_and]; omega
    | succ j =>
      simp only [List.getElem?_cons_succ] at ha hv
      have hj : j < (xs.map a.eval).length := by rcases Nat.lt_or_ge j (xs.map a.eval).length with q | q; exact q; rw [List.getElem?_eq_none q] at hv; cases hv
      have hj' : j < z.1.length := by rw [← hal'.len]; exact hj
      rw [List.getElem?_eq_getElem hj] at hv
      obtain rfl := Option.some.inj hv
      rw [List.getElem?_map, List.getElem?_eq_getElem hj'] at ha
      simp only [Option.map_some, Option.some.injEq] at ha
      subst ha
      exact hal'.get j hj hj'
  · rintro e w' ⟨v, lab', rfl, c1, c2, c3, c4, c5, cs1, d1, d2⟩
    have hcs : cs1 = cs := mk_inj (d1.symm.trans e1) d2.len e2.len
    subst hcs
    have hsz := c1.size
    have hkeep : ∀ g p, lendL q.M off q.t.sz lab g = none ∨ lendL q.M off q.t.sz lab g = some (D0, p) → g < w.heap.size → w'.heap[g]? = w.heap[g]? := fun g p hg hlt => c1.keep g ⟨hlt, by
      rcases hg with hg | hg
      · exact .inl hg
      · exact .inr ⟨p.1, p.2, hg⟩⟩
    have fz : ∀ g, Fz lab w g → Fz lab w' g ∧ w'.heap[g]? = w.heap[g]? := fun g hg => ⟨⟨hg.1, by have := hg.2; omega⟩, hkeep g (0, 0) (.inl (hnone g hg.1)) hg.2⟩
    have hoth : ∀ g M' k m, lab g = some (M', k, m) → ¬ (M' = q.M ∧ k = 0 ∧ off < m ∧ m ≤ off + q.t.sz) → w'.heap[g]? = w.heap[g]? := fun g M' k m hg hn => hkeep g (0, 0) (.inr (hdead g M' k m hg hn)) (h.lt g _ hg)
    obtain ⟨s1, s2, s3, s4, s5⟩ := e4 w' y s hs fz (fun g m hg hn => hoth g _ _ _ hg fun r => hn ⟨r.2.2.1, r.2.2.2⟩) (Own.relab hof e2 d2)
    have hfr : Fr w0 K w' := ⟨c1.os.trans h.fr.os, c1.tape.trans h.fr.tape, c1.output.trans h.fr.output, Nat.le_trans h.fr.size hsz, fun g hg => by
      have hlt : g < w.heap.size := Nat.lt_of_lt_of_le (h.kb g hg) h.fr.size
      refine (hkeep g (0, 0) (.inl (hnone g ?_)) hlt).trans (h.fr.keep g hg)
      cases hl : lab g with
      | none => rfl
      | some p => exact absurd hg (h.kl g p hl)⟩
    have hlt' : ∀ g p, lab g = some p → g < w'.heap.size := fun g p hg => Nat.lt_of_lt_of_le (h.lt g p hg) hsz
    have hval := compsOf_val (l := l) (r := r) hfl
    have hnew : ∀ N, (slotOf l r).root = none ∧ SlotOk lab w' [] #[] N (slotOf l r) v := by
      intro N
      unfold slotOf
      generalize compsOf l r = cc at c5 hval
      match cc, c5, hval with
      | [], c5, _ =>
        obtain ⟨us, rfl, q1, _⟩ := c5
        exact ⟨rfl, us, rfl, q1, fun k c u hc _ => by simp at hc⟩
      | [c0], c5, hval =>
        obtain ⟨d, rfl, hdf⟩ := hval c0 (by simp)
        exact ⟨rfl, RepV.flat hdf c5⟩
      | c0 :: c1 :: cc, c5, hval =>
        obtain ⟨us, rfl, q1, q2⟩ := c5
        refine ⟨rfl, us, rfl, q1, fun k c u hc hu => ?_⟩
        obtain ⟨d, rfl, hdf⟩ := hval c (List.mem_of_getElem? hc)
        exact RepV.flat hdf (q2 k _ u hc hu)
    have hfact : allP (factR l r ++ q.t.fact y) := by
      refine allP_append.2 ⟨factR_of fun cc hc => ?_, Ty.fact_of_ok d2.ok⟩
      generalize compsOf l r = cs at c5 hc
      match cs, c5, hc with
      | [c0], c5, hc => simp only [List.mem_singleton] at hc; subst hc; exact CompOk.ok c5
      | c0 :: c1 :: cs, c5, hc =>
        obtain ⟨us, rfl, q1, q2⟩ := c5
        obtain ⟨k, hk, rfl⟩ := List.getElem_of_mem hc
        exact CompOk.ok (q2 k _ _ (List.getElem?_eq_getElem hk) (List.getElem?_eq_getElem (by rw [q1]; exact hk)))
    have hkp : ∀ M', M' ≠ q.M → ∀ g k m, lab g = some (M', k, m) → lab g = some (M', k, m) ∧ w'.heap[g]? = w.heap[g]? := fun M' hne g k m hg => ⟨hg, hoth g M' k m hg fun r => hne r.1⟩
    have hslot : s.root = none ∧ SlotOk lab w' [] #[] q.M s (a.tmps.getD q.M undef) ∧ s.rty = (σ.getD q.M .dead).rty ∧ s.vty = (σ.getD q.M .dead).vty ∧ ∀ g, lab g = some (q.M, 0, 0) → w'.heap[g]? = w.heap[g]? :=
      ⟨s1, s5, by rw [s2, e3], by rw [s3, e3], fun g hg => hoth g _ _ _ hg fun r => by omega⟩
    rcases hks with ⟨rfl, rfl⟩ | ⟨N, rfl, hN, hks⟩
    · refine ⟨v, rfl, ?_, ?_, hfact, fun M' hM' => hkp M' fun e => hM' (q.M, s) (by simp) e.symm⟩
      · rw [hd, tmps_none]
        have := h.wrT (ws := [(q.M, s)]) (kk := []) (lab' := lab) (w' := w') hfr hlt' h.kl fz (fun M' hM' => hkp M' fun e => hM' (q.M, s) (by simp) e.symm) (fun e0 he0 => by
          simp only [List.mem_singleton] at he0; subst he0
          exact ⟨hslot.1, hslot.2.1, .inr (.inr (.inl hslot.2.2))⟩) ⟨by simp, fun e0 he0 hdead => by simp only [List.mem_singleton] at he0; subst he0; exact absurd hdead s4⟩
        simpa using this
      · exact hR.app fun e0 he0 => by simp at he0; subst he0; exact s1
    · obtain ⟨ks', k1, k2, k3⟩ := free_run h hR N
      rw [k1] at hks
      obtain rfl := Option.some.inj hks
      obtain ⟨n1, n2⟩ := hnew N
      refine ⟨v, rfl, ?_, ?_, hfact, fun M' hM' => hkp M' fun e => hM' (q.M, s) (by simp) e.symm⟩
      · rw [hd]
        have := h.putT (N := N) (s := slotOf l r) (v := v) (ws := [(q.M, s)]) (kk := []) (ks := ks') (lab' := lab) (w' := w') hfr hlt' h.kl fz (fun M' _ hM' => hkp M' fun e => hM' (q.M, s) (by simp) e.symm)
          (fun e0 he0 => by simp only [List.mem_singleton] at he0; subst he0; exact hN.symm) ⟨n1, n2⟩ (fun e0 he0 => by
          simp only [List.mem_singleton] at he0; subst he0
          exact ⟨hslot.1, hslot.2.1, .inr (.inr hslot.2.2)⟩) ⟨by simp, fun e0 he0 hdead => by simp only [List.mem_singleton] at he0; subst he0; exact absurd hdead s4⟩ ⟨k2, k3⟩
        simpa using this
      · refine hR.app fun x hx => ?_
        simp only [List.mem_cons, List.mem_append, Option.toList_some, List.map_cons, List.map_nil, List.not_mem_nil, or_false] at hx
        rcases hx with rfl | hx | rfl
        · exact s1
        · rw [(k2 x hx).1]; rfl
        · exact n1
theorem evMM_is {mx : Bool} {c : Call} {e : Eff} (hrun : (evMM C o mx c).run σ = some e) : ∃ pre fact ws, e = .pure pre fact ws := by
  unfold evMM at hrun
  split at hrun
  · obtain ⟨d1, h1, h2⟩ := bind_run hrun
    obtain ⟨d2, h3, h4⟩ := bind_run h2
    obtain ⟨_, _, _, _, _, _, _, _, e'⟩ := put_run h4
    exact ⟨_, _, _, e'⟩
  · simp [RM.run] at hrun
theorem good_mm (h : Sim w0 K lab σ a w) (hR : Rt C σ) (hC : True) {mx : Bool} {c : Call} (ho : o.op = .call c) (hcal : c.callee = .builtin (if mx then .max else .min)) (hrun : (evMM C o mx c).run σ = some (.pure pre fact ws)) (hp : allP pre) : Good P C w0 K lab o σ a w fact ws := by
  unfold evMM at hrun
  split at hrun
  · rename_i x y hargs
    obtain ⟨⟨k, n⟩, h1, h2⟩ := bind_run hrun
    obtain ⟨⟨k', m⟩, h3, h4⟩ := bind_run h2
    obtain ⟨e1, r1⟩ := rdInt_run h h1
    obtain ⟨e2, r2⟩ := rdInt_run h h3
    have hm : c.args.map a.eval = #[.int k n, .int k' m] := by
      apply Array.ext'; rw [Array.toList_map, hargs]; simp [e1, e2]
    refine good_put h hR hC h4 (v := .int k (mm mx n m)) (fun _ => trivial) (fun hq => runs_value ?_) (fun hq N _ => int_rep ?_) hp
    · cases mx with
      | true =>
        simp only [if_true] at hcal
        unfold execOp
        simp only [ho, resolve, hcal, hm]
        simp [invoke, builtin, run_max_int2, mm, max2]
      | false =>
        simp only [Bool.false_eq_true, if_false] at hcal
        unfold execOp
        simp only [ho, resolve, hcal, hm]
        simp [invoke, builtin, run_min_int2, mm, min2]
    · have hq := hq.1
      unfold inR at r1 ⊢
      cases mx <;> simp only [mm, max2, min2, Bool.false_eq_true, if_false, if_true] <;> split <;> omega
  · simp [RM.run] at hrun
/-- What does not hang on the slots X. -/
def SX (X : List Nat) (lab : Lab) (w : World) (g : Nat) : Prop := g < w.heap.size ∧ ∀ M k m, lab g = some (M, k, m) → M ∉ X
theorem argsC_run (h : Sim w0 K lab σ a w) {X : List Nat} : ∀ {xs : List Operand} {ts : List (Option Ty)} {ds : List D}, (argsC X xs ts).run σ = some ds → Al2 (fun v d => RepV w (SX X lab w) d v) (xs.map a.eval) ds
  | [], ts, ds, hr => by simp only [argsC, RM.run, Option.some.injEq] at hr; subst hr; exact .nil
  | x :: r, ts, ds, hr => by
    have fz : ∀ g, Fz lab w g → SX X lab w g ∧ w.heap[g]? = w.heap[g]? := fun g hg => ⟨⟨hg.2, fun M k m e => by rw [hg.1] at e; cases e⟩, rfl⟩
    have mine : ∀ {n : Nat} {t : Ty} {y : t.T}, n ∉ X → σ.getD n .dead = .own t y → RepV w (SX X lab w) (.dat t y) (a.tmps.getD n undef) := by
      intro n t y hn hσ
      have hs := h.slots n
      rw [hσ] at hs
      obtain ⟨cs, e, ho⟩ := hs
      exact ⟨cs, ho.imm (fun g hg => (fz g hg).1) fun i g hg => ⟨h.owns hg, fun M k m e => by
        have hg' : lab g = some (n, 0, i + 1) := hg
        rw [hg'] at e; simp only [Option.some.injEq, Prod.mk.injEq] at e; rw [← e.1]; exact hn⟩, e⟩
    have tmp : ∀ n, x = .tmp n → Al2 (fun v d => RepV w (SX X lab w) d v) ((x :: r).map a.eval) ds := by
      rintro n rfl
      simp only [argsC] at hr
      obtain ⟨z, h1, h2⟩ := bind_run hr
      have ih := argsC_run h h1
      simp only [RM.run] at h2
      have hn := h.slots n
      have hev : a.eval (.tmp n) = a.tmps.getD n undef := rfl
      split at h2
      · rename_i d hσ
        simp only [RM.run, Option.some.injEq] at h2; subst h2
        rw [hσ] at hn
        exact .cons (by rw [hev]; exact RepV.keep fz hn) ih
      · rename_i t y hσ
        split at h2
        · simp [RM.run] at h2
        · rename_i hX
          simp only [RM.run, Option.some.injEq] at h2; subst h2
          exact .cons (by rw [hev]; exact mine (by simpa using hX) hσ) ih
      · rename_i M p hσ
        split at h2
        · rename_i hp
          simp only [Bool.and_eq_true, decide_eq_true_eq, Bool.not_eq_true'] at hp
          obtain ⟨rfl, hX⟩ := hp
          simp only [RM.run] at h2
          split at h2
          · rename_i t y hM
            simp only [RM.run, Option.some.injEq] at h2; subst h2
            rw [hσ] at hn
            obtain ⟨u, cs, ⟨_, hh⟩, hv⟩ := hn
            refine .cons ?_ ih
            rcases hh with ⟨g, ofs, t', _, q, _⟩ | ⟨_, _, _, q⟩
            · rw [hM] at q; cases q
            · rw [hev, hv, ← q]
              exact mine (by simpa using hX) hM
          · simp [RM.run] at h2
        · simp [RM.run] at h2
      · simp [RM.run] at h2
    have other : (∀ n, x ≠ .tmp n) → Al2 (fun v d => RepV w (SX X lab w) d v) ((x :: r).map a.eval) ds := by
      intro hx
      have hr' : (do let z ← argsC X r (ts.drop 1); match ← opv (ts.getD 0 none) x with | .val d => RM.ret (d :: z) | .own t y => RM.ret (.dat t y :: z) | _ => RM.fail : RM (List D)).run σ = some ds := by
        cases x with
        | tmp n => exact absurd rfl (hx n)
        | _ => exact hr
      obtain ⟨z, h1, h2⟩ := bind_run hr'
      have ih := argsC_run h h1
      obtain ⟨s, h3, h4⟩ := bind_run h2
      have hs : (∀ d, s = .val d → RepV w (SX X lab w) d (a.eval x)) ∧ ∀ t y, s = .own t y → RepV w (SX X lab w) (.dat t y) (a.eval x) := by
        cases x with
        | tmp n => exact absurd rfl (hx n)
        | const v =>
          obtain ⟨c1, c2⟩ := const_rep (w := w) h3
          exact ⟨fun d e => c1 d e _, fun t y e => c2 t y e _⟩
        | func f =>
          simp only [opv, RM.run, Option.some.injEq] at h3
          subst h3
          obtain ⟨N, hN⟩ := opv_run h (ty := none) (x := .func f) (s := .val (.clo f .nl)) rfl
          exact ⟨fun d e => by cases e; exact RepV.keep fz hN, fun t y e => by cases e⟩
        | global g => simp [opv, RM.run] at h3
      split at h4
      · simp only [RM.run, Option.some.injEq] at h4; subst h4
        exact .cons (hs.1 _ rfl) ih
      · simp only [RM.run, Option.some.injEq] at h4; subst h4
        exact .cons (hs.2 _ _ rfl) ih
      · simp [RM.run] at h4
    by_cases hx : ∃ n, x = .tmp n
    · obtain ⟨n, e⟩ := hx; exact tmp n e
    · exact other fun n e => hx ⟨n, e⟩
/-- What a call gets to know of the labels: what goes over to slot N beforehand is its argument j; else what is somebody's is left alone if nothing of it is lent. -/
def giveC (N j : Nat) (lab : Lab) : Lab := fun g =>
  match lab g with
  | none => none
  | some (M, k, m) => if M = N then (if k = 0 then some (j, 0, m) else some (D0, 0, 0)) else none
/-- Labels after such a call. -/
def backC (w : World) (N : Nat) (lab lab' : Lab) : Lab := fun g =>
  if g < w.heap.size then (match lab g with
    | none => none
    | some (M, k, m) => if M = N then (match lab' g with
      | some (0, k', m') => some (N, k', m')
      | _ => none) else some (M, k, m))
  else match lab' g with
    | some (0, k, m) => some (N, k, m)
    | _ => none
theorem evCallC_is {f j : Nat} {c : Call} {e : Eff} (hrun : (evCallC Γ C o f j c).run σ = some e) : ∃ N x post k t, ∃ y : t.T, ∃ a1 a2 l kk ks, o.dst = some N ∧ c.args.toList.drop j = x :: post ∧ (take (Γ.ty (c.argTypes.getD j 0)) x).run σ = some k ∧ k.own = true ∧ k.d = .dat t y ∧
    (argsC (N :: k.mv.map (·.1)) (c.args.toList.take j) (c.argTypes.toList.map Γ.ty)).run σ = some a1 ∧ (argsC (N :: k.mv.map (·.1)) post ((c.argTypes.toList.drop (j + 1)).map Γ.ty)).run σ = some a2 ∧
    (∀ x ∈ k.mv, x.1 ≠ N) ∧ (frees C k.mv).run σ = some kk ∧ (free C N).run σ = some ks ∧ e = .callc f (a1.map .imm ++ .own t y :: a2.map .imm) l N k.mv (kk ++ ks) := by
  unfold evCallC at hrun
  split at hrun
  · rename_i N x post hd hx
    obtain ⟨k, h1, h2⟩ := bind_run hrun
    split at h2
    · rename_i t y hk1 hk2
      obtain ⟨a1, h3, h4⟩ := bind_run h2
      obtain ⟨a2, h5, h6⟩ := bind_run h4
      obtain ⟨l, h7, h8⟩ := bind_run h6
      split at h8
      · simp [RM.run] at h8
      · rename_i hne
        obtain ⟨kk, h9, h10⟩ := bind_run h8
        obtain ⟨ks, h11, h12⟩ := bind_run h10
        simp only [RM.run, Option.some.injEq] at h12
        exact ⟨N, x, post, k, t, y, a1, a2, l, kk, ks, hd, hx, h1, hk1, hk2, h3, h5, fun x hx e => hne (List.any_eq_true.2 ⟨x, hx, by simp [e]⟩), h9, h11, h12.symm⟩
    · simp [RM.run] at h2
  · simp [RM.run] at hrun
theorem callC_good (h : Sim w0 K lab σ a w) (hR : Rt C σ) {c : Call} (ho : o.op = .call c) {f' j : Nat} (hcal : c.callee = .value (.func f')) {f : Nat} {args : List Arg} {l : List (Bool × Ty)} {dst : Nat} {mv : Wr}
    (hrun : (evCallC Γ C o f' j c).run σ = some (.callc f args l dst mv ws)) {r : RTup l} (hev : Ev P f args (compsOf l r)) (hfl : flatRes l = true) :
    ∃ vs, (execOp a.eval o).run P w = .ok (.enter f vs) w ∧ Calls P f vs w fun e w' => ∃ v lab', e = .returned v ∧ Sim w0 K lab' (app σ (mv ++ ws ++ [(dst, slotOf l r)])) (a.put o.dst v) w' ∧ Rt C (app σ (mv ++ ws ++ [(dst, slotOf l r)])) ∧ allP (factR l r) ∧ Kept lab lab' w w' (mv ++ ws ++ [(dst, slotOf l r)]) := by
  obtain ⟨N, x, post, k, t, y, a1, a2, l', kk, ks, hd, hx, h1, hk1, hk2, h3, h5, hne, h9, h11, e0⟩ := evCallC_is hrun
  simp only [Eff.callc.injEq] at e0
  obtain ⟨rfl, rfl, rfl, rfl, rfl, rfl⟩ := e0
  obtain ⟨_, htk⟩ := take_run h h1
  obtain ⟨t', y', e1, hsrc⟩ : ∃ t' y', k.d = .dat t' y' ∧ Src lab σ a w x t' y' k.mv k.fz := by
    rcases htk with ⟨q, _⟩ | ⟨_, t', y', q1, q2⟩
    · rw [hk1] at q; cases q
    · exact ⟨t', y', q1, q2⟩
  rw [hk2] at e1
  obtain ⟨rfl, e2⟩ := D.dat.inj e1
  obtain rfl := eq_of_heq e2
  obtain ⟨lab1, m1, m2, m3, ⟨cs, mv1, mv2⟩, m4, m5⟩ := hsrc.move h hne
  obtain ⟨hent, hcall⟩ := hev
  have hargs : c.args.toList = c.args.toList.take j ++ x :: post := by rw [← hx, List.take_append_drop]
  have hm : c.args.map a.eval = ((c.args.toList.take j).map a.eval ++ a.eval x :: post.map a.eval).toArray := by
    apply Array.ext'
    rw [Array.toList_map]
    exact (congrArg (List.map a.eval) hargs).trans (by rw [List.map_append, List.map_cons])
  refine ⟨_, by
    have : execOp a.eval o = callFunc f ((c.args.toList.take j).map a.eval ++ a.eval x :: post.map a.eval).toArray := by
      unfold execOp
      simp only [ho, resolve, hcal, hm]
      simp [Act.eval, Deferred.ofValue, invoke]
    rw [this]; exact hent _ _, ?_⟩
  have hj : (c.args.toList.take j).length = j := by
    rw [List.length_take]
    have h0 := congrArg List.length hx
    rw [List.length_drop, List.length_cons] at h0
    omega
  have al1 := argsC_run h h3
  have al2 := argsC_run h h5
  have hl1 : a1.length = j := by rw [← al1.len, List.length_map, hj]
  have hSX : ∀ g, SX (dst :: k.mv.map (·.1)) lab w g → Fz (giveC dst j lab1) w g ∧ w.heap[g]? = w.heap[g]? := by
    rintro g ⟨hg1, hg2⟩
    refine ⟨⟨?_, hg1⟩, rfl⟩
    unfold giveC
    cases hl : lab g with
    | none => rw [(m1 g).2 hl]
    | some p =>
      obtain ⟨M, kq, m⟩ := p
      have hM := hg2 M kq m hl
      simp only [List.mem_cons, not_or] at hM
      have h9 := m3 M (fun e he e9 => hM.2 (List.mem_map.2 ⟨e, he, e9⟩)) g kq m hl
      rw [h9]
      simp only
      rw [if_neg hM.1]
  have nonC : ∀ {g : Nat}, lab1 g = none → giveC dst j lab1 g = none := fun hg => by unfold giveC; rw [hg]
  have inC : ∀ {g m : Nat}, lab1 g = some (dst, 0, m) → giveC dst j lab1 g = some (j, 0, m) := fun hg => by unfold giveC; rw [hg]; simp
  have outC : ∀ {g M kq m : Nat}, M ≠ dst → lab1 g = some (M, kq, m) → giveC dst j lab1 g = none := fun hM hg => by unfold giveC; rw [hg]; simp only; rw [if_neg hM]
  have oldC : ∀ {g kq m : Nat}, kq ≠ 0 → lab1 g = some (dst, kq, m) → giveC dst j lab1 g = some (D0, 0, 0) := fun hk hg => by unfold giveC; rw [hg]; simp [hk]
  refine Calls.mono (hcall w (giveC dst j lab1) _ (fun g p hg => ?_) ?_ (fun i ar v ha hv => ?_)) ?_
  · cases hl : lab1 g with
    | none => rw [nonC hl] at hg; cases hg
    | some q => obtain ⟨q', hq'⟩ := m2 g q hl; exact h.lt g q' hq'
  · have g1 := al1.len
    have g2 := al2.len
    rw [List.length_map] at g1 g2
    simp only [List.length_append, List.length_cons, List.length_map]
    omega
  · rcases Nat.lt_trichotomy i j with q | q | q
    · rw [List.getElem?_append_left (by rw [List.length_map]; omega), List.getElem?_map, List.getElem?_eq_getElem (by omega)] at ha
      rw [List.getElem?_append_left (by rw [List.length_map, hj]; omega), List.getElem?_eq_getElem (by rw [List.length_map, hj]; omega)] at hv
      simp only [Option.map_some, Option.some.injEq] at ha hv
      subst ha hv
      exact (al1.get i (by rw [List.length_map, hj]; omega) (by omega)).keep hSX
    · subst q
      rw [List.getElem?_append_right (by rw [List.length_map]; omega), List.length_map, hl1, Nat.sub_self, List.getElem?_cons_zero] at ha
      rw [List.getElem?_append_right (by rw [List.length_map, hj]; omega), List.length_map, hj, Nat.sub_self, List.getElem?_cons_zero] at hv
      simp only [Option.some.injEq] at ha hv
      subst ha hv
      exact ⟨cs, mv1, mv2.keep (fun g hg => ⟨⟨nonC hg.1, hg.2⟩, rfl⟩) fun i g hg => ⟨inC hg, rfl⟩⟩
    · obtain ⟨n, rfl⟩ : ∃ n, i = j + 1 + n := ⟨i - j - 1, by omega⟩
      rw [List.getElem?_append_right (by rw [List.length_map]; omega), List.length_map, hl1, show j + 1 + n - j = n + 1 by omega, List.getElem?_cons_succ, List.getElem?_map] at ha
      rw [List.getElem?_append_right (by rw [List.length_map, hj]; omega), List.length_map, hj, show j + 1 + n - j = n + 1 by omega, List.getElem?_cons_succ] at hv
      have hn : n < (post.map a.eval).length := by rcases Nat.lt_or_ge n (post.map a.eval).length with q | q; exact q; rw [List.getElem?_eq_none q] at hv; cases hv
      have hn2 : n < a2.length := by rw [← al2.len]; exact hn
      rw [List.getElem?_eq_getElem hn2] at ha
      rw [List.getElem?_eq_getElem hn] at hv
      simp only [Option.map_some, Option.some.injEq] at ha hv
      subst ha hv
      exact (al2.get n hn hn2).keep hSX
  · rintro e w' ⟨v, lab', rfl, c1, c2, c3, c4, c5⟩
    have hheap : ∀ g, g < w.heap.size → (∀ m, lab1 g ≠ some (dst, 0, m)) → w'.heap[g]? = w.heap[g]? := fun g hg hn => c1.keep g ⟨hg, by
      cases hl : lab1 g with
      | none => exact .inl (nonC hl)
      | some p =>
        obtain ⟨M, kq, m⟩ := p
        by_cases hM : M = dst
        · subst hM
          by_cases hk0 : kq = 0
          · subst hk0; exact absurd hl (hn m)
          · exact .inr ⟨0, 0, oldC hk0 hl⟩
        · exact .inl (outC hM hl)⟩
    have hsz := c1.size
    have b1 : ∀ {g : Nat}, g < w.heap.size → lab1 g = none → backC w dst lab1 lab' g = none := fun hg hl => by unfold backC; rw [if_pos hg, hl]
    have b2 : ∀ {g M kq m : Nat}, g < w.heap.size → M ≠ dst → lab1 g = some (M, kq, m) → backC w dst lab1 lab' g = some (M, kq, m) := fun hg hM hl => by unfold backC; rw [if_pos hg, hl]; simp only; rw [if_neg hM]
    have lt1 : ∀ {g : Nat} {p : Nat × Nat × Nat}, lab1 g = some p → g < w.heap.size := fun {g p} hl => by obtain ⟨q', hq'⟩ := m2 g p hl; exact h.lt g q' hq'
    have hLb : ∀ kq i g, Lb lab' 0 kq i g → Lb (backC w dst lab1 lab') dst kq i g := by
      intro kq i g hg
      have hg' : lab' g = some (0, kq, i + 1) := hg
      unfold Lb backC
      by_cases hlt : g < w.heap.size
      · rw [if_pos hlt]
        cases hl : lab1 g with
        | none => rw [c2 g hlt (nonC hl)] at hg'; cases hg'
        | some p =>
          obtain ⟨M, k2, m⟩ := p
          by_cases hM : M = dst
          · simp only; rw [if_pos hM, hg']; rfl
          · rw [c2 g hlt (outC hM hl)] at hg'; cases hg'
      · rw [if_neg hlt, hg']; rfl
    have hcomp : ∀ (cc : Comp) (kq : Nat) (u : Value), cc ∈ compsOf l r → CompOk lab' w' 0 kq cc u → CompOk (backC w dst lab1 lab') w' dst kq cc u := by
      intro cc kq u hc hk
      obtain ⟨f1, f2⟩ := compsOf_flat hfl cc hc
      cases cc with
      | dead => trivial
      | val d => exact RepV.flat (f1 d rfl) hk
      | own t x =>
        obtain ⟨cs, q1, q2⟩ := hk
        exact ⟨cs, q1, q2.flatS (fun i g hg => hLb kq i g hg) (f2 t x rfl)⟩
    have hnew : (slotOf l r).root = none ∧ SlotOk (backC w dst lab1 lab') w' [] #[] dst (slotOf l r) v := by
      have hcomp' := hcomp
      have hlive := compsOf_live (l := l) (r := r)
      unfold slotOf
      generalize compsOf l r = cs at c5 hcomp' hlive
      match cs, c5, hcomp', hlive with
      | [], c5, _, _ =>
        obtain ⟨us, rfl, q1, _⟩ := c5
        exact ⟨rfl, us, rfl, q1, fun k c u hc _ => by simp at hc⟩
      | [cc], c5, hcomp', hlive =>
        have := hcomp' cc 0 v (by simp) c5
        cases cc with
        | dead => exact absurd rfl (hlive .dead (by simp))
        | val d => exact ⟨rfl, this⟩
        | own t x => exact ⟨rfl, this⟩
      | c0 :: c1 :: cs, c5, hcomp', _ =>
        obtain ⟨us, rfl, q1, q2⟩ := c5
        exact ⟨rfl, us, rfl, q1, fun k c u hc hu => hcomp' c (k + 1) u (List.mem_of_getElem? hc) (q2 k c u hc hu)⟩
    have hfact : allP (factR l r) := by
      refine factR_of fun cc hc => ?_
      generalize compsOf l r = cs at c5 hc
      match cs, c5, hc with
      | [c0], c5, hc => simp only [List.mem_singleton] at hc; subst hc; exact CompOk.ok c5
      | c0 :: c1 :: cs, c5, hc =>
        obtain ⟨us, rfl, q1, q2⟩ := c5
        obtain ⟨k, hk, rfl⟩ := List.getElem_of_mem hc
        exact CompOk.ok (q2 k _ _ (List.getElem?_eq_getElem hk) (List.getElem?_eq_getElem (by rw [q1]; exact hk)))
    obtain ⟨ks', k1, k2, k3⟩ := free_run h hR dst
    rw [k1] at h11
    obtain rfl := Option.some.inj h11
    have hkk := frees_run h hR k.mv kk h9
    have fz1 : ∀ g, Fz lab1 w g → Fz (backC w dst lab1 lab') w' g ∧ w'.heap[g]? = w.heap[g]? := fun g hg => ⟨⟨b1 hg.2 hg.1, Nat.lt_of_lt_of_le hg.2 hsz⟩, hheap g hg.2 fun m e => by rw [hg.1] at e; cases e⟩
    have keepM : ∀ {M g kq m : Nat}, M ≠ dst → lab1 g = some (M, kq, m) → backC w dst lab1 lab' g = some (M, kq, m) ∧ w'.heap[g]? = w.heap[g]? := fun hM hl => ⟨b2 (lt1 hl) hM hl, hheap _ (lt1 hl) fun m e => by rw [hl] at e; simp only [Option.some.injEq, Prod.mk.injEq] at e; exact hM e.1⟩
    have lsts : k.mv ++ (kk ++ ks') ++ [(dst, slotOf l r)] = k.mv ++ kk ++ ks' ++ [(dst, slotOf l r)] := by simp
    refine ⟨v, backC w dst lab1 lab', rfl, ?_, ?_, hfact, ?_⟩
    · rw [hd, lsts]
      refine h.putT (N := dst) (s := slotOf l r) (v := v) (ws := k.mv) (kk := kk) (ks := ks') (lab' := backC w dst lab1 lab') (w' := w')
        ⟨c1.os.trans h.fr.os, c1.tape.trans h.fr.tape, c1.output.trans h.fr.output, Nat.le_trans h.fr.size hsz, fun g hg => (hheap g (Nat.lt_of_lt_of_le (h.kb g hg) h.fr.size) fun m e => by
          obtain ⟨q', hq'⟩ := m2 g _ e; exact h.kl g q' hq' hg).trans (h.fr.keep g hg)⟩
        (fun g p hg => ?_) (fun g p hg => ?_) (fun g hg => fz1 g ⟨(m1 g).2 hg.1, hg.2⟩) (fun M hM hMx g kq m hg => keepM hM (m3 M hMx g kq m hg)) hne hnew (fun x hx => ?_) hkk ⟨k2, k3⟩
      · unfold backC at hg
        split at hg
        · omega
        · split at hg
          · rename_i q; exact c4 g _ q
          · cases hg
      · unfold backC at hg
        split at hg
        · rename_i hlt
          cases hl : lab1 g with
          | none => rw [hl] at hg; cases hg
          | some q => obtain ⟨q', hq'⟩ := m2 g q hl; exact h.kl g q' hq'
        · rename_i q; intro hk; have := h.kb g hk; have := h.fr.size; omega
      · obtain ⟨q1, q2, q3⟩ := m5 x hx
        have hxN := hne x hx
        refine ⟨q1, q2.keep ⟨fz1, fun g kq m hg => keepM hxN hg⟩ (fun M hM => by rw [q1] at hM; cases hM), ?_⟩
        rcases q3 with q3 | q3 | ⟨q3, q4, _⟩
        · exact .inl q3
        · exact .inr (.inl q3)
        · exact .inr (.inr ⟨q3, q4, fun g hg => (keepM hxN (m4 g x.1 hg)).2⟩)
    · rw [lsts]; exact hR.app (fun x hx => (by
        rcases List.mem_append.1 hx with hx | hx
        · rcases List.mem_append.1 hx with hx | hx
          · rcases List.mem_append.1 hx with hx | hx
            · exact (m5 x hx).1
            · rw [(hkk.1 x hx).1]; rfl
          · rw [(k2 x hx).1]; rfl
        · simp only [List.mem_singleton] at hx; subst hx; exact hnew.1))
    · intro M hM g kq m hg
      have hM1 : M ≠ dst := fun e => hM (dst, slotOf l r) (by simp) e.symm
      exact keepM hM1 (m3 M (fun x hx => hM x (by simp [hx])) g kq m hg)
theorem fz_live {x : Operand} {k : Tk} (hk : TkOk lab σ a w x k) : ∀ e ∈ k.fz, e.2 ≠ .dead := by
  obtain ⟨ow, d, mv, fz⟩ := k
  rcases hk with ⟨_, _, _, q⟩ | ⟨_, t, y, _, q⟩
  · simp only at q ⊢; rw [q]; simp
  · simp only at q ⊢; cases q <;> simp
theorem tk_live : ∀ {n : Nat} {xs : List Operand} {ks : List (Nat × Tk)}, Al2 (fun p q => p.1 = q.1 ∧ TkOk lab σ a w p.2 q.2) (enum n xs) ks → ∀ k ∈ ks, ∀ e ∈ k.2.fz, e.2 = .dead → False
  | n, [], _, h, k, hk, e, he, hd => by cases h; simp at hk
  | n, x :: xs, _, .cons (y := y) h1 h2, k, hk, e, he, hd => by
    rcases List.mem_cons.1 hk with rfl | hk
    · exact fz_live h1.2 e he hd
    · exact tk_live (n := n + 1) h2 k hk e he hd
theorem evCallS_is {m : Option Nat} {x : Operand} {xs : List Operand} {ts : List Nat} {e : Eff} (hrun : (evCallS Γ C o m x xs ts).run σ = some e) : ∃ m M A args l dst fz ws, e = .calls m M A args l dst fz ws := by
  unfold evCallS at hrun
  obtain ⟨q, h1, h2⟩ := bind_run hrun
  obtain ⟨ks, h3, h4⟩ := bind_run h2
  obtain ⟨l', h5, h6⟩ := bind_run h4
  split at h6
  · split at h6
    · simp [RM.run] at h6
    · obtain ⟨kk, h7, h8⟩ := bind_run h6
      simp only [RM.run, Option.some.injEq] at h8
      exact ⟨_, _, _, _, _, _, _, _, h8.symm⟩
  · simp [RM.run] at h6
theorem evCallR_is {f : Nat} {c : Call} {e : Eff} (hrun : (evCallR Γ C o f c).run σ = some e) : ∃ f args dst ws, e = .callr f args dst ws := by
  unfold evCallR at hrun
  split at hrun
  · obtain ⟨z, h1, h2⟩ := bind_run hrun
    split at h2
    · obtain ⟨ks, h3, h4⟩ := bind_run h2
      simp only [RM.run, Option.some.injEq] at h4
      exact ⟨_, _, _, _, h4.symm⟩
    · simp [RM.run] at h2
  · simp [RM.run] at hrun
theorem takes_share (h : Sim w0 K lab σ a w) {F : List Nat} : ∀ {xs : List Operand} {n : Nat} {ks : List (Nat × Tk)}, Al2 (fun p q => p.1 = q.1 ∧ TkOk lab σ a w p.2 q.2) (enum n xs) ks → (∀ z ∈ ks.flatMap (·.2.fz), z.1 ∈ F) →
    Al2 (fun v d => RepV w (Fz (dropL F lab) w) d v) (xs.map a.eval) (ks.map (·.2.d)) ∧
    ∀ e ∈ ks.flatMap (·.2.fz), e.2.root = none ∧ SlotOk (dropL F lab) w [] #[] e.1 e.2 (a.tmps.getD e.1 undef) ∧ (e.2 = .dead ∨ (σ.getD e.1 .dead).root ≠ none ∨ (e.2.rty = (σ.getD e.1 .dead).rty ∧ e.2.vty = (σ.getD e.1 .dead).vty ∧ ∀ g, lab g = some (e.1, 0, 0) → w.heap[g]? = w.heap[g]?))
  | [], n, ks, h2, hF => by cases h2; exact ⟨.nil, by simp⟩
  | x :: xs, n, _, .cons (y := (i', k)) hk ht, hF => by
    obtain ⟨_, hk⟩ := hk
    obtain ⟨r1, r2⟩ := takes_share h (xs := xs) (n := n + 1) ht (fun z hz => hF z (by simp only [List.flatMap_cons]; exact List.mem_append_right _ hz))
    obtain ⟨q1, q2⟩ := TkOk.share h hk (F := F) (fun z hz => hF z (by simp only [List.flatMap_cons]; exact List.mem_append_left _ hz))
    refine ⟨.cons q1 r1, fun e he => ?_⟩
    simp only [List.flatMap_cons] at he
    rcases List.mem_append.1 he with he | he
    · exact q2 e he
    · exact r2 e he
/-- Labels of a call that lends slot M's thing. -/
def semL (M : Nat) (lab : Lab) : Lab := fun g =>
  match lab g with
  | none => none
  | some (M', k, m) => if M' = M ∧ k = 0 ∧ 0 < m then some (0, 0, m) else some (D0, 0, 0)
/-- Labels behind such a call that began in w. -/
def semB (w : World) (M N : Nat) (lab lab' : Lab) : Lab := fun g =>
  if g < w.heap.size ∧ (lab g = none ∨ semL M lab g = some (D0, 0, 0)) then lab g else match lab' g with
    | some (X, k, m) => if X = B0 then (if k = 0 then some (M, 0, m) else none) else if X = 0 then some (N, k, m) else none
    | none => none
theorem callS_good (h : Sim w0 K lab σ a w) (hR : Rt C σ) {c : Call} (ho : o.op = .call c) {m : Option Nat} {x : Operand} {xs : List Operand} {ts : List Nat}
    (hcal : (∃ f, m = some f ∧ c.callee = .value (.func f) ∧ c.args.toList = x :: xs) ∨ (m = none ∧ (∃ n, x = .tmp n ∧ c.callee = .value (.tmp n)) ∧ c.args.toList = xs)) {m' : Option Nat} {M dst : Nat} {A A' : Thg} {args : List Arg} {l : List (Bool × Ty)} {fz : Wr}
    (hrun : (evCallS Γ C o m x xs ts).run σ = some (.calls m' M A args l dst fz ws)) {r : RTup l} (hev : EvS P m' A args (compsOf l r) A') :
    ∃ f vs, (execOp a.eval o).run P w = .ok (.enter f vs) w ∧ Calls P f vs w fun e w' => ∃ v lab', e = .returned v ∧ Sim w0 K lab' (app σ (((M, Slot.sem A') :: fz) ++ ws ++ [(dst, slotOf l r)])) (a.put o.dst v) w' ∧ Rt C (app σ (((M, Slot.sem A') :: fz) ++ ws ++ [(dst, slotOf l r)])) ∧ allP (factR l r) ∧
      Kept lab lab' w w' (((M, Slot.sem A') :: fz) ++ ws ++ [(dst, slotOf l r)]) := by
  unfold evCallS at hrun
  obtain ⟨q, h1, h2⟩ := bind_run hrun
  obtain ⟨ks, h3, h4⟩ := bind_run h2
  obtain ⟨l', h5, h6⟩ := bind_run h4
  split at h6
  rotate_left
  · simp [RM.run] at h6
  rename_i N hd
  split at h6
  · simp [RM.run] at h6
  rename_i hc
  obtain ⟨kk, h7, h8⟩ := bind_run h6
  simp only [RM.run, Option.some.injEq, Eff.calls.injEq] at h8
  obtain ⟨rfl, rfl, rfl, rfl, rfl, rfl, rfl, rfl⟩ := h8
  obtain ⟨s1, s2, _, _, _⟩ := semAt_run h h1
  generalize q.1 = M at *
  generalize q.2.1 = A at *
  simp only [Bool.or_eq_true, decide_eq_true_eq, List.any_eq_true, beq_iff_eq, not_or, not_exists, not_and, Bool.not_eq_true', Bool.not_eq_false'] at hc
  obtain ⟨⟨hNM, hfz⟩, _⟩ := hc
  obtain ⟨F, hFd⟩ : ∃ F, F = (ks.flatMap (·.2.fz)).map (·.1) := ⟨_, rfl⟩
  have hF : ∀ z ∈ ks.flatMap (·.2.fz), z.1 ∈ F := fun z hz => by rw [hFd]; exact List.mem_map.2 ⟨z, hz, rfl⟩
  have hF' : ∀ n ∈ F, ∃ z ∈ ks.flatMap (·.2.fz), z.1 = n := fun n hn => by rw [hFd] at hn; exact List.mem_map.1 hn
  have hMF : M ∉ F := fun hm => by obtain ⟨z, hz, e⟩ := hF' M hm; exact (hfz z hz).1 e
  have hNF : N ∉ F := fun hm => by obtain ⟨z, hz, e⟩ := hF' N hm; exact (hfz z hz).2 e
  obtain ⟨hal, hsl⟩ := takes_share h (F := F) (takes_run h h3) hF
  generalize hfzE : ks.flatMap (·.2.fz) = fz at *
  obtain ⟨kk', k1, k2, k3⟩ := free_run h hR N
  rw [k1] at h7
  obtain rfl := Option.some.inj h7
  -- the labels
  obtain ⟨lab1, hlab1⟩ : ∃ lab1, lab1 = dropL F lab := ⟨_, rfl⟩
  rw [← hlab1] at hal hsl
  have n1 : ∀ g, lab g = none → lab1 g = none := fun g hg => by rw [hlab1]; exact dropL_none hg
  have o1 : ∀ {g p}, lab1 g = some p → lab g = some p := fun hg => by rw [hlab1] at hg; exact dropL_some hg
  have t1 : ∀ {g M' k m}, M' ∉ F → lab g = some (M', k, m) → lab1 g = some (M', k, m) := fun hM hg => by rw [hlab1]; exact dropL_other hM hg
  have n2 : ∀ g, lab1 g = none → semL M lab1 g = none := fun g hg => by unfold semL; rw [hg]
  have c2 : ∀ g, semL M lab1 g = none → lab1 g = none := fun g hg => by
    unfold semL at hg
    split at hg
    · assumption
    · split at hg <;> cases hg
  have d2 : ∀ {g M' k m}, lab1 g = some (M', k, m) → ¬ (M' = M ∧ k = 0 ∧ 0 < m) → semL M lab1 g = some (D0, 0, 0) := fun hg hn => by unfold semL; rw [hg]; simp only; rw [if_neg hn]
  have e2 : ∀ {g m}, lab1 g = some (M, 0, m + 1) → semL M lab1 g = some (0, 0, m + 1) := fun hg => by unfold semL; rw [hg]; simp
  have i2 : ∀ g p, semL M lab1 g = some p → ∃ p', lab1 g = some p' := fun g p hg => by
    cases hl : lab1 g with
    | none => rw [n2 g hl] at hg; cases hg
    | some p' => exact ⟨p', rfl⟩
  have j2 : ∀ g, semL M lab1 g = none ∨ semL M lab1 g = some (D0, 0, 0) ∨ ∃ m, lab1 g = some (M, 0, m + 1) := fun g => by
    cases hl : lab1 g with
    | none => exact .inl (n2 g hl)
    | some p =>
      obtain ⟨M', k, m⟩ := p
      by_cases hq : M' = M ∧ k = 0 ∧ 0 < m
      · obtain ⟨rfl, rfl, hm⟩ := hq
        obtain ⟨j, rfl⟩ : ∃ j, m = j + 1 := ⟨m - 1, by omega⟩
        exact .inr (.inr ⟨j, rfl⟩)
      · exact .inr (.inl (d2 hl hq))
  have hF1 : ∀ g, Fz lab w g → Fz (semL M lab1) w g := fun g hg => ⟨n2 g (n1 g hg.1), hg.2⟩
  have hF2 : ∀ g, Fz lab1 w g → Fz (semL M lab1) w g := fun g hg => ⟨n2 g hg.1, hg.2⟩
  have hsem := h.slots M
  rw [s1] at hsem
  have hpre : A.P (Fz (semL M lab1) w) (fun g => ∃ m, semL M lab1 g = some (0, 0, m + 1)) w (a.tmps.getD M undef) :=
    A.keep (fun g hg => ⟨hF1 g hg, rfl⟩) (fun g ⟨m, hg⟩ => ⟨⟨m, e2 (t1 hMF hg)⟩, rfl⟩) hsem
  have hcall := hev w (semL M lab1) (a.tmps.getD M undef) (xs.map a.eval) (fun g p hg => by obtain ⟨p', hp⟩ := i2 g p hg; exact h.lt g _ (o1 hp)) (by rw [hal.len, List.length_map, List.length_map]) hpre (fun j ar v ha hv => by
    have hj : j < (xs.map a.eval).length := by rcases Nat.lt_or_ge j (xs.map a.eval).length with q | q; exact q; rw [List.getElem?_eq_none q] at hv; cases hv
    have hj' : j < (ks.map (·.2.d)).length := by rw [← hal.len]; exact hj
    rw [List.getElem?_eq_getElem hj] at hv
    obtain rfl := Option.some.inj hv
    have hj2 : j < ks.length := by simpa using hj'
    rw [List.getElem?_map, List.getElem?_eq_getElem hj2] at ha
    simp only [Option.map_some, Option.some.injEq] at ha
    subst ha
    have := hal.get j hj hj'
    simp only [List.getElem_map] at this ⊢
    exact RepV.keep (fun g hg => ⟨hF2 g hg, rfl⟩) this)
  -- behind the call
  have post : ∀ (e : Ending) (w' : World), (∃ (v : Value) (lab' : Lab), e = .returned v ∧ Fr w (fun g => g < w.heap.size ∧ (semL M lab1 g = none ∨ ∃ k m, semL M lab1 g = some (D0, k, m))) w' ∧ (∀ g, g < w.heap.size → semL M lab1 g = none → lab' g = none) ∧ (∀ g k m, semL M lab1 g = some (D0, k, m) → lab' g = some (D0, k, m)) ∧
      (∀ g p, lab' g = some p → g < w'.heap.size) ∧ ResOk lab' w' 0 (compsOf l' r) v ∧ A'.P (Fz lab' w') (fun g => ∃ m, lab' g = some (B0, 0, m + 1)) w' (a.tmps.getD M undef)) →
      ∃ (v : Value) (lab' : Lab), e = .returned v ∧ Sim w0 K lab' (app σ (((M, Slot.sem A') :: fz) ++ kk' ++ [(N, slotOf l' r)])) (a.put o.dst v) w' ∧ Rt C (app σ (((M, Slot.sem A') :: fz) ++ kk' ++ [(N, slotOf l' r)])) ∧ allP (factR l' r) ∧ Kept lab lab' w w' (((M, Slot.sem A') :: fz) ++ kk' ++ [(N, slotOf l' r)]) := by
    rintro e w' ⟨v, lab', rfl, c1, cc2, cc3, c4, c5, c6⟩
    have hsz := c1.size
    have stay : ∀ g, g < w.heap.size → (semL M lab1 g = none ∨ semL M lab1 g = some (D0, 0, 0)) → w'.heap[g]? = w.heap[g]? := fun g hg hq => c1.keep g ⟨hg, by
      rcases hq with q | q
      · exact .inl q
      · exact .inr ⟨0, 0, q⟩⟩
    obtain ⟨lab3, hlab3⟩ : ∃ lab3, lab3 = semB w M N lab1 lab' := ⟨_, rfl⟩
    have old : ∀ {g : Nat}, g < w.heap.size → (lab1 g = none ∨ semL M lab1 g = some (D0, 0, 0)) → lab3 g = lab1 g := fun hg hq => by rw [hlab3]; unfold semB; rw [if_pos ⟨hg, hq⟩]
    have oldn : ∀ {g : Nat}, g < w.heap.size → lab1 g = none → lab3 g = none := fun hg hq => (old hg (.inl hq)).trans hq
    have hfzk : ∀ g, Fz lab' w' g → Fz lab3 w' g ∧ w'.heap[g]? = w'.heap[g]? := fun g hg => by
      refine ⟨⟨?_, hg.2⟩, rfl⟩
      rw [hlab3]; unfold semB
      split
      · rename_i hq
        rcases hq.2 with hq2 | hq2
        · exact hq2
        · have := cc3 g _ _ hq2
          rw [hg.1] at this; cases this
      · rw [hg.1]
    have new : ∀ {g X k m}, lab' g = some (X, k, m) → X ≠ D0 → lab3 g = if X = B0 then (if k = 0 then some (M, 0, m) else none) else if X = 0 then some (N, k, m) else none := fun {g X k m} hg hX => by
      rw [hlab3]; unfold semB
      rw [if_neg]
      · rw [hg]
      · rintro ⟨hq1, hq2 | hq2⟩
        · have := cc2 g hq1 (n2 g hq2); rw [hg] at this; cases this
        · have := cc3 g _ _ hq2; rw [hg] at this; simp only [Option.some.injEq, Prod.mk.injEq] at this; exact hX this.1
    have hLb : ∀ k i g, Lb lab' 0 k i g → Lb lab3 N k i g ∧ w'.heap[g]? = w'.heap[g]? := fun k i g hg => by
      have hg' : lab' g = some (0, k, i + 1) := hg
      refine ⟨?_, rfl⟩
      show lab3 g = some (N, k, i + 1)
      rw [new hg' (by decide)]; simp [B0]
    have hcomp : ∀ (cc : Comp) (k : Nat) (u : Value), CompOk lab' w' 0 k cc u → CompOk lab3 w' N k cc u := by
      intro cc k u hk
      cases cc with
      | dead => trivial
      | val d => exact RepV.keep hfzk hk
      | own t x =>
        obtain ⟨cs, q1, q2⟩ := hk
        exact ⟨cs, q1, q2.keep hfzk (hLb k)⟩
    have hnew : (slotOf l' r).root = none ∧ SlotOk lab3 w' [] #[] N (slotOf l' r) v := by
      have hlive := compsOf_live (l := l') (r := r)
      unfold slotOf
      generalize compsOf l' r = cs at c5 hlive
      match cs, c5, hlive with
      | [], c5, _ =>
        obtain ⟨us, rfl, q1, _⟩ := c5
        exact ⟨rfl, us, rfl, q1, fun k c u hc _ => by simp at hc⟩
      | [cc], c5, hlive =>
        have := hcomp cc 0 v c5
        cases cc with
        | dead => exact absurd rfl (hlive .dead (by simp))
        | val d => exact ⟨rfl, this⟩
        | own t x => exact ⟨rfl, this⟩
      | c0 :: c1 :: cs, c5, _ =>
        obtain ⟨us, rfl, q1, q2⟩ := c5
        exact ⟨rfl, us, rfl, q1, fun k c u hc hu => hcomp c (k + 1) u (q2 k c u hc hu)⟩
    have hfact : allP (factR l' r) := by
      refine factR_of fun cc hc => ?_
      generalize compsOf l' r = cs at c5 hc
      match cs, c5, hc with
      | [c0], c5, hc => simp only [List.mem_singleton] at hc; subst hc; exact CompOk.ok c5
      | c0 :: c1 :: cs, c5, hc =>
        obtain ⟨us, rfl, q1, q2⟩ := c5
        obtain ⟨k, hk, rfl⟩ := List.getElem_of_mem hc
        exact CompOk.ok (q2 k _ _ (List.getElem?_eq_getElem hk) (List.getElem?_eq_getElem (by rw [q1]; exact hk)))
    have hfrz : ∀ g, lab1 g = none → g < w.heap.size → w'.heap[g]? = w.heap[g]? := fun g hg hlt => stay g hlt (.inl (n2 g hg))
    have hkp : ∀ M', M' ≠ M → M' ∉ F → ∀ g k m, lab g = some (M', k, m) → lab3 g = some (M', k, m) ∧ w'.heap[g]? = w.heap[g]? := fun M' hM' hF0 g k m hg => by
      have hlt := h.lt g _ hg
      have q1 := t1 hF0 hg
      have q2 := d2 q1 fun q => hM' q.1
      exact ⟨(old hlt (.inr q2)).trans q1, stay g hlt (.inr q2)⟩
    have hfr : Fr w0 K w' := ⟨c1.os.trans h.fr.os, c1.tape.trans h.fr.tape, c1.output.trans h.fr.output, Nat.le_trans h.fr.size hsz, fun g hg => by
      have hlt : g < w.heap.size := Nat.lt_of_lt_of_le (h.kb g hg) h.fr.size
      refine (hfrz g (n1 g ?_) hlt).trans (h.fr.keep g hg)
      cases hl : lab g with
      | none => rfl
      | some p => exact absurd hg (h.kl g p hl)⟩
    have hlt3 : ∀ g p, lab3 g = some p → g < w'.heap.size := fun g p hg => by
      rw [hlab3] at hg; unfold semB at hg
      split at hg
      · rename_i hq; omega
      · split at hg
        · rename_i q; exact c4 g _ q
        · cases hg
    have hkl3 : ∀ g p, lab3 g = some p → ¬ K g := fun g p hg hk => by
      have hlt : g < w.heap.size := Nat.lt_of_lt_of_le (h.kb g hk) h.fr.size
      cases hl : lab g with
      | some p' => exact h.kl g p' hl hk
      | none => rw [oldn hlt (n1 g hl)] at hg; cases hg
    have hfz3 : ∀ g, Fz lab w g → Fz lab3 w' g ∧ w'.heap[g]? = w.heap[g]? := fun g hg => ⟨⟨oldn hg.2 (n1 g hg.1), by have := hg.2; omega⟩, hfrz g (n1 g hg.1) hg.2⟩
    have hws : ∀ x ∈ (M, Slot.sem A') :: fz, x.2.root = none ∧ SlotOk lab3 w' [] #[] x.1 x.2 (a.tmps.getD x.1 undef) ∧ (x.2 = .dead ∨ (σ.getD x.1 .dead).root ≠ none ∨ (x.2.rty = (σ.getD x.1 .dead).rty ∧ x.2.vty = (σ.getD x.1 .dead).vty ∧ ∀ g, lab g = some (x.1, 0, 0) → w'.heap[g]? = w.heap[g]?)) := by
      intro x hx
      rcases List.mem_cons.1 hx with rfl | hx
      · refine ⟨rfl, A'.keep hfzk (fun g ⟨m, hg⟩ => ⟨⟨m, ?_⟩, rfl⟩) c6, .inr (.inr ⟨by rw [s1]; rfl, by rw [s1]; rfl, fun g hg => ?_⟩)⟩
        · exact stay g (h.lt g _ hg) (.inr (d2 (t1 hMF hg) (by rintro ⟨_, _, q⟩; omega)))
        · rw [new hg (by decide)]; simp
      · obtain ⟨q1, q2, q3⟩ := hsl x hx
        refine ⟨q1, q2.keep ⟨fun g hg => ?_, fun g k m hg => ?_⟩ (fun R hR => by rw [q1] at hR; cases hR), ?_⟩
        · exact ⟨⟨oldn hg.2 hg.1, by have := hg.2; omega⟩, hfrz g hg.1 hg.2⟩
        · have hlt := h.lt g _ (o1 hg)
          have hne : x.1 ≠ M := fun e => hMF (e ▸ hF x hx)
          have q2 := d2 hg fun q => hne q.1
          exact ⟨(old hlt (.inr q2)).trans hg, stay g hlt (.inr q2)⟩
        · rcases q3 with q3 | q3 | ⟨q3, q4, _⟩
          · exact .inl q3
          · exact .inr (.inl q3)
          · refine .inr (.inr ⟨q3, q4, fun g hg => ?_⟩)
            have hlt := h.lt g _ hg
            have hne : x.1 ≠ M := fun e => hMF (e ▸ hF x hx)
            have hb : lab1 g = some (x.1, 0, 0) := by rw [hlab1]; exact dropL_box hg
            exact stay g hlt (.inr (d2 hb fun q => hne q.1))
    have hwN : ∀ x ∈ (M, Slot.sem A') :: fz, x.1 ≠ N := fun x hx => by
      rcases List.mem_cons.1 hx with rfl | hx
      · exact fun e => hNM e.symm
      · exact fun e => hNF (e ▸ hF x hx)
    have hlive : ∀ x ∈ (M, Slot.sem A') :: fz, x.2 = .dead → False := fun x hx hxd => by
      rcases List.mem_cons.1 hx with rfl | hx
      · cases hxd
      · have hz : x ∈ ks.flatMap (·.2.fz) := by rw [hfzE]; exact hx
        obtain ⟨k, hk, hxk⟩ := List.mem_flatMap.1 hz
        exact tk_live (takes_run h h3) k hk x hxk hxd
    refine ⟨v, lab3, rfl, ?_, ?_, hfact, ?_⟩
    · rw [hd]
      have := h.putT (N := N) (s := slotOf l' r) (v := v) (ws := (M, Slot.sem A') :: fz) (kk := []) (ks := kk') (lab' := lab3) (w' := w') hfr hlt3 hkl3 hfz3
        (fun M' _ hM' => hkp M' (fun e => hM' (M, Slot.sem A') (by simp) e.symm) (fun hm => by obtain ⟨z, hz, e⟩ := hF' M' hm; exact hM' z (by simp [hz]) e))
        hwN hnew hws ⟨by simp, fun x hx hxd => (hlive x hx hxd).elim⟩ ⟨k2, k3⟩
      simpa using this
    · refine hR.app fun x hx => ?_
      rcases List.mem_append.1 hx with hx | hx
      · rcases List.mem_append.1 hx with hx | hx
        · exact (hws x hx).1
        · rw [(k2 x hx).1]; rfl
      · simp only [List.mem_singleton] at hx; subst hx; exact hnew.1
    · intro M' hM' g k m hg
      exact hkp M' (fun e => hM' (M, Slot.sem A') (by simp) e.symm) (fun hm => by obtain ⟨z, hz, e⟩ := hF' M' hm; exact hM' z (by simp [hz]) e) g k m hg
  have hmA : c.args.map a.eval = (c.args.toList.map a.eval).toArray := by apply Array.ext'; simp
  rcases hcal with ⟨f, rfl, hcal, hargs⟩ | ⟨rfl, ⟨n, rfl, hcal⟩, hargs⟩
  · obtain ⟨hent, hcall⟩ := hcall
    refine ⟨f, _, ?_, hcall.mono fun e w' hq => post e w' hq⟩
    have : execOp a.eval o = callFunc f (a.tmps.getD M undef :: xs.map a.eval).toArray := by
      unfold execOp
      simp only [ho, resolve, hcal, hmA, hargs, List.map_cons, s2]
      simp [Act.eval, Deferred.ofValue, invoke]
    rw [this]; exact hent _
  · obtain ⟨f, caps, hv0, hent, hcall⟩ := hcall
    refine ⟨f, _, ?_, hcall.mono fun e w' hq => post e w' hq⟩
    have hv : a.eval (.tmp n) = .func (.func f) #[] caps := s2.trans hv0
    have : execOp a.eval o = callFunc f ((xs.map a.eval).toArray ++ caps) := by
      unfold execOp
      simp only [ho, resolve, hcal, hv, hmA, hargs]
      simp [Deferred.ofValue, invoke]
    rw [this]; exact hent _
/-- Labels behind a call that answers such a thing. -/
def backR (w : World) (N : Nat) (lab lab' : Lab) : Lab := fun g =>
  if g < w.heap.size then lab g else match lab' g with
    | some (0, 0, m) => some (N, 0, m)
    | _ => none
theorem callR_good (h : Sim w0 K lab σ a w) (hR : Rt C σ) {c : Call} (ho : o.op = .call c) {f : Nat} (hcal : c.callee = .value (.func f)) {f' : Nat} {args : List Arg} {dst : Nat}
    (hrun : (evCallR Γ C o f c).run σ = some (.callr f' args dst ws)) {A : Thg} (hev : EvR P f' args A) :
    ∃ vs, (execOp a.eval o).run P w = .ok (.enter f' vs) w ∧ Calls P f' vs w fun e w' => ∃ v lab', e = .returned v ∧ Sim w0 K lab' (app σ (ws ++ [(dst, Slot.sem A)])) (a.put o.dst v) w' ∧ Rt C (app σ (ws ++ [(dst, Slot.sem A)])) ∧ Kept lab lab' w w' (ws ++ [(dst, Slot.sem A)]) := by
  unfold evCallR at hrun
  split at hrun
  rotate_left
  · simp [RM.run] at hrun
  rename_i N hd
  obtain ⟨z, h1, h2⟩ := bind_run hrun
  split at h2
  rotate_left
  · simp [RM.run] at h2
  rename_i hz
  obtain ⟨ks, h3, h4⟩ := bind_run h2
  simp only [RM.run, Option.some.injEq, Eff.callr.injEq] at h4
  obtain ⟨rfl, rfl, rfl, rfl⟩ := h4
  obtain ⟨ks', k1, k2, k3⟩ := free_run h hR N
  rw [k1] at h3
  obtain rfl := Option.some.inj h3
  obtain ⟨hent, hcall⟩ := hev
  have hm : c.args.map a.eval = (c.args.toList.map a.eval).toArray := by apply Array.ext'; simp
  have hS : ∀ g, Fz lab w g → Fz (callL true lab) w g := fun g hg => ⟨by simp [callL, hg.1], hg.2⟩
  have hal : Al2 (fun v d => RepV w (Fz (callL true lab) w) d v) (c.args.toList.map a.eval) z.1 := (argsOf_run h _ _ z h1 _ hS (fun e => by rw [hz] at e; cases e)).mapL
  refine ⟨(c.args.toList.map a.eval).toArray, ?_, ?_⟩
  · have : execOp a.eval o = callFunc f (c.args.toList.map a.eval).toArray := by
      unfold execOp
      simp only [ho, resolve, hcal, hm]
      simp [Act.eval, Deferred.ofValue, invoke]
    rw [this]; exact hent _ _
  have hcD : ∀ g, callL true lab g = none ∨ callL true lab g = some (D0, 0, 0) := by
    intro g
    unfold callL
    split
    · exact .inr rfl
    · exact .inl rfl
  refine Calls.mono (hcall w (callL true lab) (c.args.toList.map a.eval) (fun g p hg => by
    unfold callL at hg
    split at hg
    · rename_i q; exact h.lt g _ q
    · cases hg) (by rw [List.length_map, List.length_map, ← hal.len, List.length_map]) ?_) ?_
  · intro j ar v ha hv
    have hj : j < (c.args.toList.map a.eval).length := by rcases Nat.lt_or_ge j (c.args.toList.map a.eval).length with q | q; exact q; rw [List.getElem?_eq_none q] at hv; cases hv
    have hj' : j < z.1.length := by rw [← hal.len]; exact hj
    rw [List.getElem?_eq_getElem hj] at hv
    obtain rfl := Option.some.inj hv
    rw [List.getElem?_map, List.getElem?_eq_getElem hj'] at ha
    simp only [Option.map_some, Option.some.injEq] at ha
    subst ha
    exact hal.get j hj hj'
  · rintro e w' ⟨v, lab', rfl, c1, cc2, cc3, c4, c5⟩
    have hheap : ∀ g, g < w.heap.size → w'.heap[g]? = w.heap[g]? := fun g hg => c1.keep g ⟨hg, by
      rcases hcD g with q | q
      · exact .inl q
      · exact .inr ⟨0, 0, q⟩⟩
    have hsz := c1.size
    have old : ∀ {g : Nat}, g < w.heap.size → backR w N lab lab' g = lab g := fun hg => by unfold backR; rw [if_pos hg]
    have fresh : ∀ {g k m : Nat}, lab' g = some (0, k, m) → ¬ g < w.heap.size := by
      intro g k m hg hlt
      rcases hcD g with q | q
      · rw [cc2 g hlt q] at hg; cases hg
      · have := cc3 g _ _ q
        rw [this] at hg
        simp [D0] at hg
    have hFz : ∀ g, Fz lab' w' g → Fz (backR w N lab lab') w' g ∧ w'.heap[g]? = w'.heap[g]? := by
      intro g hg
      refine ⟨⟨?_, hg.2⟩, rfl⟩
      unfold backR
      split
      · rename_i hlt
        cases hl : lab g with
        | none => rfl
        | some p =>
          have : callL true lab g = some (D0, 0, 0) := by simp [callL, hl]
          have := cc3 g _ _ this
          rw [hg.1] at this; cases this
      · rw [hg.1]
    have hnew : (Slot.sem A).root = none ∧ SlotOk (backR w N lab lab') w' [] #[] N (Slot.sem A) v := ⟨rfl, A.keep hFz (fun g ⟨m, hg⟩ => ⟨⟨m, by unfold backR; rw [if_neg (fresh hg), hg]; rfl⟩, rfl⟩) c5⟩
    refine ⟨v, backR w N lab lab', rfl, ?_, ?_, ?_⟩
    · rw [hd]
      have := h.putT (N := N) (s := Slot.sem A) (v := v) (ws := []) (kk := []) (ks := ks') (lab' := backR w N lab lab') (w' := w')
        ⟨c1.os.trans h.fr.os, c1.tape.trans h.fr.tape, c1.output.trans h.fr.output, Nat.le_trans h.fr.size hsz, fun g hg => (hheap g (Nat.lt_of_lt_of_le (h.kb g hg) h.fr.size)).trans (h.fr.keep g hg)⟩
        (fun g p hg => by
          unfold backR at hg
          split at hg
          · omega
          · split at hg
            · rename_i q; exact c4 g _ q
            · cases hg)
        (fun g p hg => by
          unfold backR at hg
          split at hg
          · exact h.kl g p hg
          · rename_i q; intro hk; have := h.kb g hk; have := h.fr.size; omega)
        (fun g hg => ⟨⟨by rw [old hg.2]; exact hg.1, by have := hg.2; omega⟩, hheap g hg.2⟩)
        (fun M hM _ g k m hg => ⟨by rw [old (h.lt g _ hg)]; exact hg, hheap g (h.lt g _ hg)⟩)
        (by simp) hnew (by simp) ⟨by simp, by simp⟩ ⟨k2, k3⟩
      simpa using this
    · refine hR.app fun x hx => ?_
      rcases List.mem_append.1 hx with hx | hx
      · rw [(k2 x hx).1]; rfl
      · simp only [List.mem_singleton] at hx; subst hx; rfl
    · intro M _ g k m hg
      exact ⟨by rw [old (h.lt g _ hg)]; exact hg, hheap g (h.lt g _ hg)⟩
theorem evCallB_is {f : Nat} {c : Call} {e : Eff} (hrun : (evCallB Γ C o f c).run σ = some e) : ∃ f q args l dst ws, e = .callb f q args l dst ws := by
  unfold evCallB at hrun
  split at hrun
  · obtain ⟨q', h1, h2⟩ := bind_run hrun
    obtain ⟨z, h3, h4⟩ := bind_run h2
    obtain ⟨l', h5, h6⟩ := bind_run h4
    split at h6
    · split at h6
      · split at h6
        · simp [RM.run] at h6
        · obtain ⟨ks, h7, h8⟩ := bind_run h6
          simp only [RM.run, Option.some.injEq] at h8
          exact ⟨_, _, _, _, _, _, h8.symm⟩
      · simp only [RM.run, Option.some.injEq] at h6
        exact ⟨_, _, _, _, _, _, h6.symm⟩
    · simp [RM.run] at h6
  · simp [RM.run] at hrun
theorem evCall_not {c : Call} {f : Nat} {q : Lent} {args : List Arg} {l : List (Bool × Ty)} {dst : Option Nat} : (evCall Γ C o c).run σ ≠ some (.callb f q args l dst ws) := by
  intro hrun
  have hput : ∀ {s : Slot} {ws0 : Wr} {p p' : List Prop}, (put C o s ws0 p p').run σ ≠ some (.callb f q args l dst ws) := fun {s ws0 p p'} e => by
    obtain ⟨_, _, _, _, _, _, _, _, e'⟩ := put_run e
    cases e'
  unfold evCall at hrun
  split at hrun
  · split at hrun
    · split at hrun
      · unfold evLen at hrun
        obtain ⟨d, _, h2⟩ := bind_run hrun
        split at h2
        · split at h2
          · exact hput h2
          · simp [RM.run] at h2
        · split at h2
          · exact hput h2
          · simp [RM.run] at h2
        · simp [RM.run] at h2
      · simp [RM.run] at hrun
    · simp [RM.run] at hrun
  · split at hrun
    · unfold evAppend at hrun
      split at hrun
      · obtain ⟨k, _, h2⟩ := bind_run hrun
        obtain ⟨k', _, h3⟩ := bind_run h2
        split at h3
        · exact hput h3
        · simp [RM.run] at h3
      · simp [RM.run] at hrun
    · simp [RM.run] at hrun
  · obtain ⟨z, h1, h2⟩ := bind_run hrun
    obtain ⟨l', h3, h4⟩ := bind_run h2
    obtain ⟨ks, h5, h6⟩ := bind_run h4
    simp [RM.run] at h6
  · simp only [RM.run] at hrun
    split at hrun
    · split at hrun
      · obtain ⟨z, h1, h2⟩ := bind_run hrun
        obtain ⟨l', h3, h4⟩ := bind_run h2
        obtain ⟨ks, h5, h6⟩ := bind_run h4
        simp [RM.run] at h6
      · simp [RM.run] at hrun
    · split at hrun
      · obtain ⟨z, h1, h2⟩ := bind_run hrun
        obtain ⟨l', h3, h4⟩ := bind_run h2
        obtain ⟨ks, h5, h6⟩ := bind_run h4
        simp [RM.run] at h6
      · simp [RM.run] at hrun
    · simp [RM.run] at hrun
  · simp [RM.run] at hrun
theorem evalOp_call {f : Nat} {args : List Arg} {l : List (Bool × Ty)} {dst : Nat} {fl : Bool} (h1 : (evalOp Γ C o).run σ = some (.call f args l dst ws fl)) : ∃ c, o.op = .call c ∧ (evCall Γ C o c).run σ = some (.call f args l dst ws fl) := by
  cases ho : o.op with
  | call c =>
    refine ⟨c, rfl, ?_⟩
    simp only [evalOp, ho] at h1
    split at h1
    · split at h1
      · split at h1
        · obtain ⟨_, _, _, _, _, _, _, _, e⟩ := evCallS_is h1; cases e
        · simp [RM.run] at h1
      split at h1
      · obtain ⟨_, _, _, _, e⟩ := evCallR_is h1; cases e
      split at h1
      · obtain ⟨_, _, _, _, _, _, e⟩ := evCallB_is h1; cases e
      · split at h1
        · obtain ⟨_, _, _, _, _, _, _, _, _, _, _, _, _, _, _, _, _, _, _, _, _, e⟩ := evCallC_is h1; cases e
        · exact h1
    · obtain ⟨_, _, _, e⟩ := evMM_is h1; cases e
    · obtain ⟨_, _, _, e⟩ := evMM_is h1; cases e
    · split at h1
      · obtain ⟨_, _, _, _, _, _, _, _, e⟩ := evCallS_is h1; cases e
      · exact h1
    · exact h1
  | _ =>
    simp only [evalOp, ho] at h1
    obtain ⟨e, _, g2⟩ := bind_run h1
    split at g2 <;> simp [RM.run] at g2
theorem evalOp_callb {f : Nat} {q : Lent} {args : List Arg} {l : List (Bool × Ty)} {dst : Option Nat} (h1 : (evalOp Γ C o).run σ = some (.callb f q args l dst ws)) : ∃ c f', o.op = .call c ∧ c.callee = .value (.func f') ∧ (evCallB Γ C o f' c).run σ = some (.callb f q args l dst ws) := by
  cases ho : o.op with
  | call c =>
    simp only [evalOp, ho] at h1
    split at h1
    · rename_i f' hcal
      split at h1
      · split at h1
        · obtain ⟨_, _, _, _, _, _, _, _, e⟩ := evCallS_is h1; cases e
        · simp [RM.run] at h1
      split at h1
      · obtain ⟨_, _, _, _, e⟩ := evCallR_is h1; cases e
      split at h1
      · exact ⟨c, f', rfl, hcal, h1⟩
      · split at h1
        · obtain ⟨_, _, _, _, _, _, _, _, _, _, _, _, _, _, _, _, _, _, _, _, _, e⟩ := evCallC_is h1; cases e
        · exact absurd h1 evCall_not
    · obtain ⟨_, _, _, e⟩ := evMM_is h1; cases e
    · obtain ⟨_, _, _, e⟩ := evMM_is h1; cases e
    · split at h1
      · obtain ⟨_, _, _, _, _, _, _, _, e⟩ := evCallS_is h1; cases e
      · exact absurd h1 evCall_not
    · exact absurd h1 evCall_not
  | _ =>
    simp only [evalOp, ho] at h1
    obtain ⟨e, _, g2⟩ := bind_run h1
    split at g2 <;> simp [RM.run] at g2
theorem evCall_notC {c : Call} {f : Nat} {args : List Arg} {l : List (Bool × Ty)} {dst : Nat} {mv : Wr} : (evCall Γ C o c).run σ ≠ some (.callc f args l dst mv ws) := by
  intro hrun
  have hput : ∀ {s : Slot} {ws0 : Wr} {p p' : List Prop}, (put C o s ws0 p p').run σ ≠ some (.callc f args l dst mv ws) := fun {s ws0 p p'} e => by
    obtain ⟨_, _, _, _, _, _, _, _, e'⟩ := put_run e
    cases e'
  unfold evCall at hrun
  split at hrun
  · split at hrun
    · split at hrun
      · unfold evLen at hrun
        obtain ⟨d, _, h2⟩ := bind_run hrun
        split at h2
        · split at h2
          · exact hput h2
          · simp [RM.run] at h2
        · split at h2
          · exact hput h2
          · simp [RM.run] at h2
        · simp [RM.run] at h2
      · simp [RM.run] at hrun
    · simp [RM.run] at hrun
  · split at hrun
    · unfold evAppend at hrun
      split at hrun
      · obtain ⟨k, _, h2⟩ := bind_run hrun
        obtain ⟨k', _, h3⟩ := bind_run h2
        split at h3
        · exact hput h3
        · simp [RM.run] at h3
      · simp [RM.run] at hrun
    · simp [RM.run] at hrun
  · obtain ⟨z, h1, h2⟩ := bind_run hrun
    obtain ⟨l', h3, h4⟩ := bind_run h2
    obtain ⟨ks, h5, h6⟩ := bind_run h4
    simp [RM.run] at h6
  · simp only [RM.run] at hrun
    split at hrun
    · split at hrun
      · obtain ⟨z, h1, h2⟩ := bind_run hrun
        obtain ⟨l', h3, h4⟩ := bind_run h2
        obtain ⟨ks, h5, h6⟩ := bind_run h4
        simp [RM.run] at h6
      · simp [RM.run] at hrun
    · split at hrun
      · obtain ⟨z, h1, h2⟩ := bind_run hrun
        obtain ⟨l', h3, h4⟩ := bind_run h2
        obtain ⟨ks, h5, h6⟩ := bind_run h4
        simp [RM.run] at h6
      · simp [RM.run] at hrun
    · simp [RM.run] at hrun
  · simp [RM.run] at hrun
theorem evalOp_callc {f : Nat} {args : List Arg} {l : List (Bool × Ty)} {dst : Nat} {mv : Wr} (h1 : (evalOp Γ C o).run σ = some (.callc f args l dst mv ws)) : ∃ c f' j, o.op = .call c ∧ c.callee = .value (.func f') ∧ (evCallC Γ C o f' j c).run σ = some (.callc f args l dst mv ws) := by
  cases ho : o.op with
  | call c =>
    simp only [evalOp, ho] at h1
    split at h1
    · rename_i f' hcal
      split at h1
      · split at h1
        · obtain ⟨_, _, _, _, _, _, _, _, e⟩ := evCallS_is h1; cases e
        · simp [RM.run] at h1
      split at h1
      · obtain ⟨_, _, _, _, e⟩ := evCallR_is h1; cases e
      split at h1
      · obtain ⟨_, _, _, _, _, _, e⟩ := evCallB_is h1; cases e
      · split at h1
        · rename_i j _
          exact ⟨c, f', j, rfl, hcal, h1⟩
        · exact absurd h1 evCall_notC
    · obtain ⟨_, _, _, e⟩ := evMM_is h1; cases e
    · obtain ⟨_, _, _, e⟩ := evMM_is h1; cases e
    · split at h1
      · obtain ⟨_, _, _, _, _, _, _, _, e⟩ := evCallS_is h1; cases e
      · exact absurd h1 evCall_notC
    · exact absurd h1 evCall_notC
  | _ =>
    simp only [evalOp, ho] at h1
    obtain ⟨e, _, g2⟩ := bind_run h1
    split at g2 <;> simp [RM.run] at g2
theorem evCall_notS {c : Call} {e : Eff} (he : (∃ m M A args l dst fz ws, e = .calls m M A args l dst fz ws) ∨ ∃ f args dst ws, e = .callr f args dst ws) : (evCall Γ C o c).run σ ≠ some e := by
  intro hrun
  have hput : ∀ {s : Slot} {ws0 : Wr} {p p' : List Prop}, (put C o s ws0 p p').run σ ≠ some e := fun {s ws0 p p'} e' => by
    obtain ⟨_, _, _, _, _, _, _, _, e''⟩ := put_run e'
    rw [e''] at he
    rcases he with ⟨_, _, _, _, _, _, _, _, he⟩ | ⟨_, _, _, _, he⟩ <;> cases he
  have hcall : ∀ {f args l dst ws fl}, e = .call f args l dst ws fl → False := fun e' => by
    rw [e'] at he
    rcases he with ⟨_, _, _, _, _, _, _, _, he⟩ | ⟨_, _, _, _, he⟩ <;> cases he
  unfold evCall at hrun
  split at hrun
  · split at hrun
    · split at hrun
      · unfold evLen at hrun
        obtain ⟨d, _, h2⟩ := bind_run hrun
        split at h2
        · split at h2
          · exact hput h2
          · simp [RM.run] at h2
        · split at h2
          · exact hput h2
          · simp [RM.run] at h2
        · simp [RM.run] at h2
      · simp [RM.run] at hrun
    · simp [RM.run] at hrun
  · split at hrun
    · unfold evAppend at hrun
      split at hrun
      · obtain ⟨k, _, h2⟩ := bind_run hrun
        obtain ⟨k', _, h3⟩ := bind_run h2
        split at h3
        · exact hput h3
        · simp [RM.run] at h3
      · simp [RM.run] at hrun
    · simp [RM.run] at hrun
  · obtain ⟨z, h1, h2⟩ := bind_run hrun
    obtain ⟨l', h3, h4⟩ := bind_run h2
    obtain ⟨ks, h5, h6⟩ := bind_run h4
    simp only [RM.run, Option.some.injEq] at h6
    exact hcall h6.symm
  · simp only [RM.run] at hrun
    split at hrun
    · split at hrun
      · obtain ⟨z, h1, h2⟩ := bind_run hrun
        obtain ⟨l', h3, h4⟩ := bind_run h2
        obtain ⟨ks, h5, h6⟩ := bind_run h4
        simp only [RM.run, Option.some.injEq] at h6
        exact hcall h6.symm
      · simp [RM.run] at hrun
    · split at hrun
      · obtain ⟨z, h1, h2⟩ := bind_run hrun
        obtain ⟨l', h3, h4⟩ := bind_run h2
        obtain ⟨ks, h5, h6⟩ := bind_run h4
        simp only [RM.run, Option.some.injEq] at h6
        exact hcall h6.symm
      · simp [RM.run] at hrun
    · simp [RM.run] at hrun
  · simp [RM.run] at hrun
theorem evalOp_calls {m : Option Nat} {M dst : Nat} {A : Thg} {args : List Arg} {l : List (Bool × Ty)} {fz : Wr} (h1 : (evalOp Γ C o).run σ = some (.calls m M A args l dst fz ws)) : ∃ c m' x xs ts, o.op = .call c ∧
    ((∃ f, m' = some f ∧ c.callee = .value (.func f) ∧ c.args.toList = x :: xs) ∨ (m' = none ∧ (∃ n, x = .tmp n ∧ c.callee = .value (.tmp n)) ∧ c.args.toList = xs)) ∧ (evCallS Γ C o m' x xs ts).run σ = some (.calls m M A args l dst fz ws) := by
  have no : ∀ c, ¬ (evCall Γ C o c).run σ = some (.calls m M A args l dst fz ws) := fun c => evCall_notS (.inl ⟨_, _, _, _, _, _, _, _, rfl⟩)
  cases ho : o.op with
  | call c =>
    simp only [evalOp, ho] at h1
    split at h1
    · rename_i f' hcal
      split at h1
      · split at h1
        · rename_i x xs hargs
          exact ⟨c, some f', x, xs, _, rfl, .inl ⟨f', rfl, hcal, hargs⟩, h1⟩
        · simp [RM.run] at h1
      split at h1
      · obtain ⟨_, _, _, _, e⟩ := evCallR_is h1; cases e
      split at h1
      · obtain ⟨_, _, _, _, _, _, e⟩ := evCallB_is h1; cases e
      · split at h1
        · obtain ⟨_, _, _, _, _, _, _, _, _, _, _, _, _, _, _, _, _, _, _, _, _, e⟩ := evCallC_is h1; cases e
        · exact absurd h1 (no c)
    · obtain ⟨_, _, _, e⟩ := evMM_is h1; cases e
    · obtain ⟨_, _, _, e⟩ := evMM_is h1; cases e
    · rename_i n hcal
      split at h1
      · exact ⟨c, none, .tmp n, c.args.toList, _, rfl, .inr ⟨rfl, ⟨n, rfl, hcal⟩, rfl⟩, h1⟩
      · exact absurd h1 (no c)
    · exact absurd h1 (no c)
  | _ =>
    simp only [evalOp, ho] at h1
    obtain ⟨e, _, g2⟩ := bind_run h1
    split at g2 <;> simp [RM.run] at g2
theorem evalOp_callr {f : Nat} {args : List Arg} {dst : Nat} (h1 : (evalOp Γ C o).run σ = some (.callr f args dst ws)) : ∃ c f', o.op = .call c ∧ c.callee = .value (.func f') ∧ (evCallR Γ C o f' c).run σ = some (.callr f args dst ws) := by
  have no : ∀ c, ¬ (evCall Γ C o c).run σ = some (.callr f args dst ws) := fun c => evCall_notS (.inr ⟨_, _, _, _, rfl⟩)
  cases ho : o.op with
  | call c =>
    simp only [evalOp, ho] at h1
    split at h1
    · rename_i f' hcal
      split at h1
      · split at h1
        · obtain ⟨_, _, _, _, _, _, _, _, e⟩ := evCallS_is h1; cases e
        · simp [RM.run] at h1
      split at h1
      · exact ⟨c, f', rfl, hcal, h1⟩
      split at h1
      · obtain ⟨_, _, _, _, _, _, e⟩ := evCallB_is h1; cases e
      · split at h1
        · obtain ⟨_, _, _, _, _, _, _, _, _, _, _, _, _, _, _, _, _, _, _, _, _, e⟩ := evCallC_is h1; cases e
        · exact absurd h1 (no c)
    · obtain ⟨_, _, _, e⟩ := evMM_is h1; cases e
    · obtain ⟨_, _, _, e⟩ := evMM_is h1; cases e
    · split at h1
      · obtain ⟨_, _, _, _, _, _, _, _, e⟩ := evCallS_is h1; cases e
      · exact absurd h1 (no c)
    · exact absurd h1 (no c)
  | _ =>
    simp only [evalOp, ho] at h1
    obtain ⟨e, _, g2⟩ := bind_run h1
    split at g2 <;> simp [RM.run] at g2
/-- Every operation that is no call of a function. -/
theorem good_op (h : Sim w0 K lab σ a w) (hR : Rt C σ) (hC : True) (hT : TyOk P Γ) (hrun : (evalOp Γ C o).run σ = some (.pure pre fact ws)) (hp : allP pre) : Good P C w0 K lab o σ a w fact ws := by
  have call : ∀ c, o.op = .call c → (evCall Γ C o c).run σ = some (.pure pre fact ws) → Good P C w0 K lab o σ a w fact ws := by
    intro c ho hrun
    unfold evCall at hrun
    split at hrun
    · rename_i x hcal hargs
      split at hrun
      · rename_i T hTy
        split at hrun
        · rename_i t ht
          exact good_len h hR hC hT ho hcal (by simpa using congrArg List.toArray hargs) hTy ht hrun hp
        · simp [RM.run] at hrun
      · simp [RM.run] at hrun
    · rename_i x y hcal hargs
      split at hrun
      · rename_i hty
        exact good_append h hR hC hT ho hcal (by simpa using congrArg List.toArray hargs) hty hrun hp
      · simp [RM.run] at hrun
    · rename_i f' N hcal hd
      obtain ⟨z, h1, h2⟩ := bind_run hrun
      obtain ⟨l', h3, h4⟩ := bind_run h2
      obtain ⟨ks, h5, h6⟩ := bind_run h4
      simp [RM.run] at h6
    · rename_i n N hcal hd
      simp only [RM.run] at hrun
      split at hrun
      · split at hrun
        · obtain ⟨z, h1, h2⟩ := bind_run hrun
          obtain ⟨l', h3, h4⟩ := bind_run h2
          obtain ⟨ks, h5, h6⟩ := bind_run h4
          simp [RM.run] at h6
        · simp [RM.run] at hrun
      · split at hrun
        · obtain ⟨z, h1, h2⟩ := bind_run hrun
          obtain ⟨l', h3, h4⟩ := bind_run h2
          obtain ⟨ks, h5, h6⟩ := bind_run h4
          simp [RM.run] at h6
        · simp [RM.run] at hrun
      · simp [RM.run] at hrun
    · simp [RM.run] at hrun
  have nc : (evalNC Γ C o).run σ = some (.pure pre fact ws) → Good P C w0 K lab o σ a w fact ws := by
    intro hrun
    unfold evalNC at hrun
    split at hrun
    · exact good_move h hR hC ‹_› hrun hp
    · exact good_assign h hR hC ‹_› hrun hp
    · exact good_pick h hR hC ‹_› hrun hp
    · exact good_alloc h hR hC hT ‹_› hrun hp
    · exact good_box h hR hC ‹_› hrun hp
    · exact good_build h hR hC hT ‹_› hrun hp
    · exact good_buildSlice h hR hC hT ‹_› hrun hp
    · exact good_load h hR hC hT ‹_› hrun hp
    · exact good_store h hR hT ‹_› hrun hp
    · exact good_nilCheck h hR hC ‹_› hrun hp
    · split at hrun
      · exact good_nileq h hR hC hT ‹_› ‹_› hrun hp
      · exact good_bin h hR hC hT ‹_› hrun hp
    · exact good_un h hR hC ‹_› hrun hp
    · exact good_convert h hR hC hT ‹_› hrun hp
    · exact good_makeFunc h hR hC ‹_› hrun hp
    · exact good_makeSlice h hR hC hT ‹_› hrun hp
    · exact good_slice h hR hC hT ‹_› hrun hp
    · exact good_fieldAddr h hR hC hT ‹_› hrun hp
    · exact good_field h hR hC hT ‹_› hrun hp
    · exact good_indexAddr h hR hC hT ‹_› hrun hp
    · exact good_index h hR hC hT ‹_› hrun hp
    · exact good_extract h hR hC ‹_› hrun hp
    · exact good_makeMap h hR hC hT ‹_› hrun hp
    · exact good_lookup h hR hC hT ‹_› hrun hp
    · exact good_mapUpdate h hR hT ‹_› hrun hp
    · simp [RM.run] at hrun
  unfold evalOp at hrun
  split at hrun
  · rename_i c ho
    split at hrun
    · split at hrun
      · split at hrun
        · obtain ⟨_, _, _, _, _, _, _, _, e⟩ := evCallS_is hrun; cases e
        · simp [RM.run] at hrun
      split at hrun
      · obtain ⟨_, _, _, _, e⟩ := evCallR_is hrun; cases e
      split at hrun
      · obtain ⟨_, _, _, _, _, _, e⟩ := evCallB_is hrun; cases e
      · split at hrun
        · obtain ⟨_, _, _, _, _, _, _, _, _, _, _, _, _, _, _, _, _, _, _, _, _, e⟩ := evCallC_is hrun; cases e
        · exact call c ho hrun
    · exact good_mm (mx := true) h hR hC ho ‹_› hrun hp
    · exact good_mm (mx := false) h hR hC ho ‹_› hrun hp
    · split at hrun
      · obtain ⟨_, _, _, _, _, _, _, _, e⟩ := evCallS_is hrun; cases e
      · exact call c ho hrun
    · exact call c ho hrun
  obtain ⟨e, h1, h2⟩ := bind_run hrun
  split at h2
  · simp only [RM.run, Option.some.injEq, Eff.pure.injEq] at h2
    obtain ⟨rfl, rfl, rfl⟩ := h2
    exact nc h1
  · simp [RM.run] at h2
end
end Go.Proofs.Ytmjijggkdbiijaa
