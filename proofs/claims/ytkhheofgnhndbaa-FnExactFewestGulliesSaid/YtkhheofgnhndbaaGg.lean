/- Rows of cells: the first that a function value takes; those that it takes are struck. -/
import Derived.Test.YtkhheofgnhndbaaGf
namespace Go.Proofs.Ytkhheofgnhndbaa
set_option linter.unusedVariables false
set_option linter.unusedSimpArgs false
open Go.RowKit
/-- A function value that takes an element and answers as p says. -/
structure PredE (f : Nat) (cs : Array Value) (B : Nat) (w : World) (xs : List (Int × Int)) (p : Int × Int → Bool) : Prop where
  enter : ∀ args w, (callFunc f args).run Try.prog w = .ok (.enter f args) w
  gives : ∀ i, i < xs.length → ∀ w', Below B w w' → Calls Try.prog f (#[.agg #[.int .i8 (xs.getD i (0, 0)).1, .int .i8 (xs.getD i (0, 0)).2]] ++ cs) w' (eqPost w' (p (xs.getD i (0, 0))))
def IdxR (p : Int × Int → Bool) (xs : List (Int × Int)) (r : Int) : Prop :=
  (r = -1 ∧ ∀ i, i < xs.length → p (xs.getD i (0, 0)) = false) ∨ ∃ k : Nat, k < xs.length ∧ r = k ∧ p (xs.getD k (0, 0)) = true ∧ ∀ i, i < k → p (xs.getD i (0, 0)) = false
set_option maxHeartbeats 1000000 in
theorem indexFunc_is (f : Nat) (cs : Array Value) (B : Nat) (w0 w : World) (xs : List (Int × Int)) (v : Value) (p : Int × Int → Bool) (hp : PredE f cs B w0 xs p) (hv : Cs w v xs) (hl : xs.length ≤ 1048576) (hB : Below B w0 w) (hBl : B ≤ w.heap.size) :
    Calls Try.prog 106 #[v, .func (.func f) #[] cs] w fun e w' => ∃ r, e = .returned (.int .i64 r) ∧ IdxR p xs r ∧ Below w.heap.size w w' := by
  obtain ⟨heg, hgv⟩ := hp
  have HG := Lib.hid hgv
  clear hgv
  obtain ⟨A, c, rfl, h1, h2, h3⟩ := hv
  have H3 := Lib.hid h3
  clear h2 h3
  go_enter Try.func106, Try.ntmps106
  go_wp2
  go_loopw [8] (fun u wr => ∃ k : Nat, k ≤ xs.length ∧ u = .int .i64 k ∧ Below w.heap.size w wr ∧ Hid (∀ i, i < k → p (xs.getD i (0, 0)) = false)) (fun u _ => xs.length - (intOf u).toNat)
  case atStart => exact ⟨0, Nat.zero_le _, rfl, Below.refl _ _, fun i hi => absurd hi (Nat.not_lt_zero _)⟩
  case round =>
    obtain ⟨k, hk, rfl, hBr, HU⟩ := hrel
    by_cases hlt : k < xs.length
    · obtain ⟨ad, rfl, hc⟩ := H3.out (by omega)
      have hck := (hc k hlt).below hBr
      have hca := HG.out k hlt wr (hB.trans (hBr.mono hBl))
      clear hc
      have HN : p (xs.getD k (0, 0)) = false → Hid (∀ i, i < k + 1 → p (xs.getD i (0, 0)) = false) := fun h i hi => by
        rcases Nat.lt_succ_iff_lt_or_eq.1 hi with h' | rfl
        · exact HU.out i h'
        · exact h
      have HE : p (xs.getD k (0, 0)) = true → Hid (IdxR p xs k) := fun h => .inr ⟨k, hlt, rfl, h, HU.out⟩
      have HN := Lib.hid HN
      have HE := Lib.hid HE
      revert hck hca HN HE
      generalize xs.getD k (0, 0) = q
      intro hck hca HN HE
      obtain ⟨qx, qy⟩ := q
      obtain ⟨c1, c2⟩ := hck
      dsimp only at c1 c2 hca
      cases hpq : p (qx, qy) with
      | true =>
        rw [hpq] at hca
        have HE := HE.out hpq
        clear HN
        go_wp2_with (first
          | (go_at_fn f; refine hca.mono ?_; rintro e w2 ⟨rfl, hb2⟩))
        go_ret
        exact ⟨_, rfl, HE.out, below_trans hBr hb2⟩
      | false =>
        rw [hpq] at hca
        have HN := HN.out hpq
        clear HE
        go_wp2_with (first
          | (go_at_fn f; refine hca.mono ?_; rintro e w2 ⟨rfl, hb2⟩))
        go_roundw
        case rel => exact ⟨k + 1, by omega, by go_num, below_trans hBr hb2, HN⟩
        case measure => simp [intOf]; omega
    · obtain rfl : k = xs.length := by omega
      go_wp2
      go_ret
      exact ⟨_, rfl, .inl ⟨rfl, HU.out⟩, hBr⟩
theorem IdxR.ex (p : Int × Int → Bool) (xs : List (Int × Int)) : ∃ r, IdxR p xs r := by
  have key : ∀ m, m ≤ xs.length → (∀ i, i < m → p (xs.getD i (0, 0)) = false) ∨ ∃ k : Nat, k < m ∧ p (xs.getD k (0, 0)) = true ∧ ∀ i, i < k → p (xs.getD i (0, 0)) = false := by
    intro m
    induction m with
    | zero => exact fun _ => .inl fun i hi => absurd hi (Nat.not_lt_zero _)
    | succ m ih =>
      intro hm
      rcases ih (by omega) with h | ⟨k, hk, h1, h2⟩
      · cases hp : p (xs.getD m (0, 0)) with
        | true => exact .inr ⟨m, by omega, hp, h⟩
        | false =>
          refine .inl fun i hi => ?_
          rcases Nat.lt_succ_iff_lt_or_eq.1 hi with h' | h'
          · exact h i h'
          · rw [h']; exact hp
      · exact .inr ⟨k, by omega, h1, h2⟩
  rcases key xs.length (Nat.le_refl _) with h | ⟨k, hk, h1, h2⟩
  · exact ⟨-1, .inl ⟨rfl, h⟩⟩
  · exact ⟨k, .inr ⟨k, hk, rfl, h1, h2⟩⟩
theorem IdxR.uniq {p : Int × Int → Bool} {xs : List (Int × Int)} {r r' : Int} (h : IdxR p xs r) (h' : IdxR p xs r') : r = r' := by
  rcases h with ⟨rfl, ha⟩ | ⟨k, hk, rfl, h1, h2⟩ <;> rcases h' with ⟨rfl, ha'⟩ | ⟨k', hk', rfl, h1', h2'⟩
  · rfl
  · rw [ha k' hk'] at h1'; cases h1'
  · rw [ha' k hk] at h1; cases h1
  · rcases Nat.lt_trichotomy k k' with h | rfl | h
    · rw [h2' k h] at h1; cases h1
    · rfl
    · rw [h2 k' h] at h1'; cases h1'
def delPost (g : Nat) (w : World) (n : Nat) (ys : List (Int × Int)) (e : Ending) (w' : World) : Prop :=
  e = .returned (.slice (some ⟨g, 0, none⟩) ys.length n) ∧ (∃ zs, w'.heap[g]? = some (.cells (pc (ys ++ zs)).toArray 40 (0, 0)) ∧ (ys ++ zs).length = n) ∧ Below g w w'
theorem pc_take (xs : List (Int × Int)) (i : Nat) : (pc xs).take (i * 2) = pc (xs.take i) := by
  induction xs generalizing i with
  | nil => simp [pc]
  | cons q xs ih =>
    cases i with
    | zero => simp [pc]
    | succ i =>
      have := ih i
      simp only [pc, List.flatMap_cons, List.take_succ_cons] at this ⊢
      have e : (i + 1) * 2 = i * 2 + 1 + 1 := by omega
      rw [e]
      simp only [List.cons_append, List.nil_append, List.take_succ_cons]
      rw [this]
theorem Cs.of_blk {w : World} {g : Nat} {xs : List (Int × Int)} (hg : w.heap[g]? = some (.cells (pc xs).toArray 40 (0, 0))) (hl : xs.length ≤ 1048576) : Cs w (.slice (some ⟨g, 0, none⟩) xs.length xs.length) xs := by
  refine ⟨_, _, rfl, Nat.le_refl _, by unfold maxLen; omega, fun _ => ⟨_, rfl, fun j hj => ?_⟩⟩
  have := pc_get xs j hj
  have ha : (⟨g, 0, none⟩ : Addr).add (j * 2) = ⟨g, j * 2, none⟩ := by rw [Addr.add_mid]; simp
  constructor
  · rw [ha, blk_cell hg]; simpa using this.1
  · rw [ha, blk_cell hg]; simpa using this.2
theorem cell_of_blk {w : World} {g : Nat} {xs : List (Int × Int)} (hg : w.heap[g]? = some (.cells (pc xs).toArray 40 (0, 0))) {j : Nat} (hj : j < xs.length) :
    w.cell? ⟨g, j * 2, none⟩ = some (.int .i8 (xs.getD j (0, 0)).1) ∧ w.cell? ⟨g, j * 2 + 1, none⟩ = some (.int .i8 (xs.getD j (0, 0)).2) := by
  have := pc_get xs j hj
  constructor
  · rw [blk_cell hg]; simpa using this.1
  · rw [blk_cell hg]; simpa using this.2
theorem wpList_clearC {ops : Array Oper} {rest : List Oper} {o : Oper} {a : Act} {w : World} {Q : Exit → Act → World → Prop} (hgd : o.guard = none) (s : Operand)
    (ho : o.op = .call { callee := .builtin .clear, args := #[s], argTypes := #[31] }) (g i m c : Nat) (hm : 0 < m) (xs : List (Int × Int)) (hs : a.eval s = .slice (some ⟨g, i * 2, none⟩) m c) (hg : w.heap[g]? = some (.cells (pc xs).toArray 40 (0, 0))) (hl : i + m = xs.length)
    (h : ∀ w', w'.heap[g]? = some (.cells (pc (xs.take i ++ List.replicate m (0, 0))).toArray 40 (0, 0)) → SetB g w w' → ∀ u, wpList Try.prog ops Q rest (a.put o.dst u) w') : wpList Try.prog ops Q (o :: rest) a w := by
  refine wpList_plain hgd fun K hK => ?_
  have hpl := pc_length xs
  have hmc : madeCells (Value.agg #[.int .i8 0, .int .i8 0]).cells (m * 2) = (pc (List.replicate m (0, 0))).toArray := made_pc m
  have hst := run_storeCells_at Try.prog g (i * 2) 40 (pc (List.replicate m (0, 0))) 0 (pc xs).toArray w hg (by simp [pc_length]; omega) (by
    intro u hu
    simp only [pc, List.mem_flatMap] at hu
    obtain ⟨q, _, hu⟩ := hu
    simp at hu
    rcases hu with rfl | rfl <;> rfl)
  simp only [Nat.add_zero] at hst
  have hz : (zeroValue 40).run Try.prog w = .ok (.agg #[.int .i8 0, .int .i8 0]) w := by
    obtain ⟨i, hi, hz, hsz, hby⟩ := info40
    simp [zeroValue, typeInfo, hi, hz]
  have hzc : (Builtin.zeroCells (Value.agg #[.int .i8 0, .int .i8 0]).cells m).toList = pc (List.replicate m (0, 0)) := by
    have : Builtin.zeroCells (Value.agg #[.int .i8 0, .int .i8 0]).cells m = madeCells (Value.agg #[.int .i8 0, .int .i8 0]).cells (m * 2) := rfl
    rw [this, hmc]
  obtain ⟨m', rfl⟩ : ∃ m', m = m' + 1 := ⟨m - 1, by omega⟩
  have hr : (execOp a.eval o).run Try.prog w = .ok (.value (.tuple #[])) (w.setRow g ((pc xs).take (i * 2) ++ pc (List.replicate (m' + 1) (0, 0)) ++ (pc xs).drop (i * 2 + (pc (List.replicate (m' + 1) (0, 0))).length)).toArray) := by
    unfold execOp
    simp [ho, hs, resolve, invoke, builtin, Builtin.clear_, run_underlying Try.underlying31, hz, hzc, hst]
  have hcs : (pc xs).take (i * 2) ++ pc (List.replicate (m' + 1) (0, 0)) ++ (pc xs).drop (i * 2 + (pc (List.replicate (m' + 1) (0, 0))).length) = pc (xs.take i ++ List.replicate (m' + 1) (0, 0)) := by
    rw [List.drop_of_length_le (by simp [pc_length]; omega), List.append_nil, pc_append, pc_take]
  unfold Oper.wp
  rw [hr, hcs]
  exact hK _ _ (h _ (setRow_heap w g _ _ 40 _ hg) (SetB.of_row _ _ _) _)
theorem filter_take_t {p : Int × Int → Bool} {xs : List (Int × Int)} {j : Nat} (hj : j < xs.length) (h : p (xs.getD j (0, 0)) = true) : (xs.take (j + 1)).filter p = (xs.take j).filter p ++ [xs.getD j (0, 0)] := by
  have e : xs.take (j + 1) = xs.take j ++ [xs.getD j (0, 0)] := by rw [List.take_add_one, List.getElem?_eq_getElem hj, List.getD_eq_getElem?_getD, List.getElem?_eq_getElem hj]; rfl
  rw [e, List.filter_append]
  simp only [List.getD_eq_getElem?_getD] at h ⊢
  simp [h]
theorem filter_take_f {p : Int × Int → Bool} {xs : List (Int × Int)} {j : Nat} (hj : j < xs.length) (h : p (xs.getD j (0, 0)) = false) : (xs.take (j + 1)).filter p = (xs.take j).filter p := by
  have e : xs.take (j + 1) = xs.take j ++ [xs.getD j (0, 0)] := by rw [List.take_add_one, List.getElem?_eq_getElem hj, List.getD_eq_getElem?_getD, List.getElem?_eq_getElem hj]; rfl
  rw [e, List.filter_append]
  simp only [List.getD_eq_getElem?_getD] at h ⊢
  simp [h]
theorem drop_getD {xs cur : List (Int × Int)} {j : Nat} (h : cur.drop j = xs.drop j) : cur.getD j (0, 0) = xs.getD j (0, 0) := by
  have := congrArg (fun l => l[0]?) h
  simp only [List.getElem?_drop, Nat.add_zero] at this
  rw [List.getD_eq_getElem?_getD, List.getD_eq_getElem?_getD, this]
/-- What the row holds while it is struck. -/
structure DelInv (p : Int × Int → Bool) (xs : List (Int × Int)) (i j : Nat) (cur : List (Int × Int)) : Prop where
  lt : i < j
  len : cur.length = xs.length
  low : cur.take i = (xs.take j).filter fun q => !p q
  high : cur.drop j = xs.drop j
theorem DelInv.keep {p : Int × Int → Bool} {xs : List (Int × Int)} {i j : Nat} {cur : List (Int × Int)} (h : DelInv p xs i j cur) (hj : j < xs.length) (hp : p (xs.getD j (0, 0)) = false) : DelInv p xs (i + 1) (j + 1) (cur.set i (xs.getD j (0, 0))) := by
  have hl := h.len
  have hi := h.lt
  refine ⟨by omega, by simpa using hl, ?_, ?_⟩
  · rw [filter_take_t hj (by rw [hp]; rfl), ← h.low, List.take_add_one, List.getElem?_set_self (by omega), List.take_set_of_le (Nat.le_refl _)]
    rfl
  · rw [List.drop_set_of_lt (by omega)]
    have := congrArg (List.drop 1) h.high
    simpa [List.drop_drop] using this
theorem DelInv.skip {p : Int × Int → Bool} {xs : List (Int × Int)} {i j : Nat} {cur : List (Int × Int)} (h : DelInv p xs i j cur) (hj : j < xs.length) (hp : p (xs.getD j (0, 0)) = true) : DelInv p xs i (j + 1) cur := by
  have hi := h.lt
  refine ⟨by omega, h.len, ?_, ?_⟩
  · rw [filter_take_f hj (by rw [hp]; rfl)]; exact h.low
  · have := congrArg (List.drop 1) h.high
    simpa [List.drop_drop] using this
theorem filter_all {p : Int × Int → Bool} {xs : List (Int × Int)} {k : Nat} (hk : k ≤ xs.length) (h : ∀ i, i < k → p (xs.getD i (0, 0)) = false) : (xs.take k).filter (fun q => !p q) = xs.take k := by
  apply List.filter_eq_self.2
  intro q hq
  obtain ⟨i, hi, rfl⟩ := List.mem_iff_getElem.1 hq
  simp only [List.length_take] at hi
  have := h i (by omega)
  rw [List.getD_eq_getElem?_getD, List.getElem?_eq_getElem (show i < xs.length by omega)] at this
  simp only [List.getElem_take]
  simp only [Option.getD_some] at this
  rw [this]; rfl
set_option maxHeartbeats 2000000 in
set_option maxRecDepth 100000 in
theorem deleteFunc_is (f : Nat) (cs : Array Value) (g : Nat) (w0 w : World) (xs : List (Int × Int)) (p : Int × Int → Bool) (hp : PredE f cs g w0 xs p) (hg : w.heap[g]? = some (.cells (pc xs).toArray 40 (0, 0))) (hl : xs.length ≤ 1048576) (hB : Below g w0 w) :
    Calls Try.prog 96 #[.slice (some ⟨g, 0, none⟩) xs.length xs.length, .func (.func f) #[] cs] w (delPost g w xs.length (xs.filter fun q => !p q)) := by
  have hgl := blk_lt hg
  have hix := indexFunc_is f cs g w0 w xs _ p hp (Cs.of_blk hg hl) hl hB (by omega)
  obtain ⟨heg, hgv⟩ := hp
  have HG := Lib.hid hgv
  clear hgv
  obtain ⟨r, hr⟩ := IdxR.ex p xs
  have hix : Calls Try.prog 106 #[.slice (some ⟨g, 0, none⟩) xs.length xs.length, .func (.func f) #[] cs] w fun e w' => e = .returned (.int .i64 r) ∧ Below w.heap.size w w' :=
    hix.mono fun e w' ⟨r', he, hr', hb⟩ => ⟨by rw [he, hr'.uniq hr], hb⟩
  go_enter Try.func96, Try.ntmps96
  rcases hr with ⟨rfl, hall⟩ | ⟨k0, hk0, rfl, hpk, hall⟩
  · have hf : (xs.filter fun q => !p q) = xs := by have := filter_all (Nat.le_refl _) hall; rwa [List.take_length] at this
    have HF := Lib.hid hf
    clear hf hall
    go_wp2_with (first
      | (go_at_call 106; refine hix.mono ?_; rintro e w1 ⟨rfl, hb1⟩; have hg1 := blk_below hb1 hg))
    go_ret
    exact ⟨by rw [HF.out]; rfl, ⟨[], by rw [HF.out, List.append_nil]; exact hg1, by rw [HF.out, List.append_nil]⟩, hb1.mono (by omega)⟩
  · have HI : Hid (DelInv p xs k0 (k0 + 1) xs) := ⟨by omega, rfl, by rw [filter_take_f hk0 (by rw [hpk]; rfl), filter_all (by omega) hall], rfl⟩
    have hn1 : ((k0 : Int) == -1) = false := beq_eq_false_iff_ne.2 (by omega)
    clear hall hpk
    go_wp2_with (first
      | (go_at_call 106; refine hix.mono ?_; rintro e w1 ⟨rfl, hb1⟩; have hg1 := blk_below hb1 hg))
    go_loopw [5, 6] (fun u v wr => ∃ (i j : Nat) (cur : List (Int × Int)), j ≤ xs.length ∧ u = .int .i64 i ∧ v = .int .i64 j ∧ Hid (DelInv p xs i j cur) ∧ wr.heap[g]? = some (.cells (pc cur).toArray 40 (0, 0)) ∧ Below g w wr) (fun _ v _ => xs.length - (intOf v).toNat)
    case atStart => exact ⟨k0, k0 + 1, xs, by omega, rfl, by go_num, HI, hg1, hb1.mono (by omega)⟩
    case round =>
      obtain ⟨i, j, cur, hj, rfl, rfl, HI2, hG, hBr⟩ := hrel
      clear HI hg1
      have hlen := HI2.out.len
      have hij := HI2.out.lt
      by_cases hlt : j < xs.length
      · have hcj := cell_of_blk hG (show j < cur.length by omega)
        rw [drop_getD HI2.out.high] at hcj
        have hca := HG.out j hlt
        have HK : p (xs.getD j (0, 0)) = false → Hid (DelInv p xs (i + 1) (j + 1) (cur.set i (xs.getD j (0, 0)))) := fun h => HI2.out.keep hlt h
        have HS : p (xs.getD j (0, 0)) = true → Hid (DelInv p xs i (j + 1) cur) := fun h => HI2.out.skip hlt h
        have HK := Lib.hid HK
        have HS := Lib.hid HS
        clear HI2
        revert hcj hca HK HS
        generalize xs.getD j (0, 0) = q
        intro hcj hca HK HS
        obtain ⟨qx, qy⟩ := q
        obtain ⟨c1, c2⟩ := hcj
        dsimp only at c1 c2 hca
        have hgs := blk_lt hG
        cases hpq : p (qx, qy) with
        | true =>
          have HS := HS.out hpq
          clear HK
          rw [hpq] at hca
          go_wp2_with (first
            | (with_reducible refine wpList_allocB 7 rfl rfl 40 rfl (.agg #[.int .i8 0, .int .i8 0]) #[.int .i8 0, .int .i8 0] (by kernel_rfl) rfl ?_; intro g2 w2 b2 hb2 _hs2)
            | (with_reducible refine wpList_storeB rfl 40 _ _ rfl g2 0 (.agg #[.int .i8 qx, .int .i8 qy]) #[.int .i8 qx, .int .i8 qy] rfl rfl rfl _ 40 b2 (by kernel_rfl) (by simp [Value.oneCell']) (by simp) #[.int .i8 qx, .int .i8 qy] (by simp) ?_; intro w3 b3 hS3; have hB3 : Below wr.heap.size wr w3 := hS3.below hb2 _hs2; have x0 : w3.cell? ⟨g2, 0, none⟩ = some (.int .i8 qx) := (blk_cell b3 0).trans rfl; have x1 : w3.cell? ⟨g2, 1, none⟩ = some (.int .i8 qy) := (blk_cell b3 1).trans rfl; have hBg : Below g w w3 := hBr.trans (hB3.mono (by omega)); have hca := hca w3 (hB.trans hBg))
            | (go_at_fn f; refine hca.mono ?_; rintro e w4 ⟨rfl, hb4⟩; have hB4 : Below wr.heap.size wr w4 := below_trans hB3 hb4))
          go_roundw
          case rel => exact ⟨i, j + 1, cur, by omega, rfl, by go_num, HS, blk_below hB4 hG, hBr.trans (hB4.mono (by omega))⟩
          case measure => simp [intOf]; omega
        | false =>
          have HK := HK.out hpq
          clear HS
          rw [hpq] at hca
          go_wp2_with (first
            | (with_reducible refine wpList_allocB 7 rfl rfl 40 rfl (.agg #[.int .i8 0, .int .i8 0]) #[.int .i8 0, .int .i8 0] (by kernel_rfl) rfl ?_; intro g2 w2 b2 hb2 _hs2)
            | (with_reducible refine wpList_storeB rfl 40 _ _ rfl g2 0 (.agg #[.int .i8 qx, .int .i8 qy]) #[.int .i8 qx, .int .i8 qy] rfl rfl rfl _ 40 b2 (by kernel_rfl) (by simp [Value.oneCell']) (by simp) #[.int .i8 qx, .int .i8 qy] (by simp) ?_; intro w3 b3 hS3; have hB3 : Below wr.heap.size wr w3 := hS3.below hb2 _hs2; have x0 : w3.cell? ⟨g2, 0, none⟩ = some (.int .i8 qx) := (blk_cell b3 0).trans rfl; have x1 : w3.cell? ⟨g2, 1, none⟩ = some (.int .i8 qy) := (blk_cell b3 1).trans rfl; have hBg : Below g w w3 := hBr.trans (hB3.mono (by omega)); have hca := hca w3 (hB.trans hBg))
            | (go_at_fn f; refine hca.mono ?_; rintro e w4 ⟨rfl, hb4⟩; have hB4 : Below wr.heap.size wr w4 := below_trans hB3 hb4; have hG4 := blk_below hB4 hG; have y0 := cell_below hb4 x0; have y1 := cell_below hb4 x1)
            | (with_reducible refine wpList_storeB rfl 40 _ _ rfl g (i * 2) (.agg #[.int .i8 qx, .int .i8 qy]) #[.int .i8 qx, .int .i8 qy] rfl rfl rfl _ 40 hG4 (by kernel_rfl) (by simp [Value.oneCell']) (by simp [pc_length]; omega) (pc (cur.set i (qx, qy))).toArray (by simp only [List.toList_toArray, List.size_toArray, List.length_cons, List.length_nil]; rw [pc_set _ _ (by omega)]) ?_; intro w5 hG5 hS5))
          go_roundw
          case rel => exact ⟨i + 1, j + 1, _, by omega, by go_num, by go_num, HK, hG5, hS5.below (hBr.trans (hB4.mono (by omega))) (Nat.le_refl _)⟩
          case measure => simp [intOf]; omega
      · obtain rfl : j = xs.length := by omega
        have hlow := HI2.out.low
        rw [List.take_length] at hlow
        have hnl : (xs.filter fun q => !p q).length = i := by rw [← hlow, List.length_take]; omega
        have HL := Lib.hid hlow
        have HN := Lib.hid hnl
        clear hlow hnl
        go_wp2_with (first
          | (with_reducible refine wpList_clearC rfl _ rfl g i (xs.length - i) (xs.length - i) (by omega) cur rfl hG (by omega) ?_; intro w5 hG5 hS5 _u))
        go_ret
        exact ⟨by rw [HN.out]; rfl, ⟨List.replicate (xs.length - i) (0, 0), by rw [← HL.out]; exact hG5, by rw [List.length_append, HN.out, List.length_replicate]; omega⟩, hS5.below hBr (Nat.le_refl _)⟩
end Go.Proofs.Ytkhheofgnhndbaa
