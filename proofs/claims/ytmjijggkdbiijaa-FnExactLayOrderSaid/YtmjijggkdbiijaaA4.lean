/- Parts of the way from code to plain Lean, put together. No statement is proved here. -/
import Derived.Test.YtmjijggkdbiijaaA5
import Derived.Below
import Derived.Deep.Slices
import Derived.OpenShut
/- A checker for the table of types. No statement is proved here. -/
namespace Go.Proofs.Ytmjijggkdbiijaa
open Go.RowKit
set_option linter.unusedVariables false
set_option linter.unusedSimpArgs false
def lk : List (Nat × Ty) → Nat → Option Ty
  | [], _ => none
  | (n, t) :: r, T => if n = T then some t else lk r T
def lkN : List (Nat × Nat) → Nat → Option Nat
  | [], _ => none
  | (n, t) :: r, T => if n = T then some t else lkN r T
theorem lk_mem : ∀ {l : List (Nat × Ty)} {T : Nat} {t : Ty}, lk l T = some t → (T, t) ∈ l
  | (n, u) :: r, T, t, h => by
    simp only [lk] at h
    split at h
    · rename_i e; subst e; cases h; simp
    · simp [lk_mem h]
def cellIs : Value → Value → Bool
  | .int k n, .int k' n' => k == k' && n == n'
  | .bool b, .bool b' => b == b'
  | .string s, .string s' => s.size == 0 && s'.size == 0
  | .slice none n c, .slice none n' c' => n == n' && c == c'
  | .map none, .map none => true
  | _, _ => false
theorem cellIs_eq {a b : Value} (h : cellIs a b = true) : a = b := by
  unfold cellIs at h
  split at h
  · simp only [Bool.and_eq_true, beq_iff_eq] at h; obtain ⟨rfl, rfl⟩ := h; rfl
  · simp only [beq_iff_eq] at h; rw [h]
  · simp only [Bool.and_eq_true, beq_iff_eq] at h
    rename_i s s'
    have h1 : s = ByteArray.empty := ByteArray.ext (Array.eq_empty_of_size_eq_zero h.1)
    have h2 : s' = ByteArray.empty := ByteArray.ext (Array.eq_empty_of_size_eq_zero h.2)
    rw [h1, h2]
  · simp only [Bool.and_eq_true, beq_iff_eq] at h; obtain ⟨rfl, rfl⟩ := h; rfl
  · rfl
  · cases h
def cellsAre : List Value → List Value → Bool
  | [], [] => true
  | a :: r, b :: s => cellIs a b && cellsAre r s
  | _, _ => false
theorem cellsAre_eq : ∀ {a b : List Value}, cellsAre a b = true → a = b
  | [], [], _ => rfl
  | a :: r, b :: s, h => by
    simp only [cellsAre, Bool.and_eq_true] at h
    rw [cellIs_eq h.1, cellsAre_eq h.2]
  | [], _ :: _, h => by simp [cellsAre] at h
  | _ :: _, [], h => by simp [cellsAre] at h
def infoB (P : Program) (T : Nat) (t : Ty) : Bool :=
  match P.info? T with
  | some i => i.size == t.sz && Nat.ble i.bytes 32768 && (match i.zero with | some z => cellsAre z.cells.toList (zc t) | none => false)
  | none => false
def kindB (P : Program) (Γ : Ctx) (T : Nat) (t : Ty) (d : TypeDesc) : Bool :=
  d.isRow == t.agg && (match t, d with
    | .int k, .int k' => k == k'
    | .bool, .bool => true
    | .str, .string => true
    | .slice te e, .slice te' => te == te' && Γ.ty te == some e && Nat.blt 0 e.sz
    | .arr n e, .array n' te => n == n' && Γ.ty te == some e
    | .prod _ _, .struct fs => fs.size == Γ.nf T
    | .unit, .struct fs => fs.size == Γ.nf T
    | .map k e, .map kt et => Γ.ty kt == some k && Γ.ty et == some e && k.flat
    | _, _ => false)
def fldB (P : Program) (Γ : Ctx) (T : Nat) (t : Ty) (k : Nat) : Bool :=
  match P.underlying T with
  | some (.struct fs) => match fs[k]? with
    | some f => match Γ.ty f.type with
      | some u => t.at (fldPath (Γ.nf T) k) == some u && t.off (fldPath (Γ.nf T) k) == f.offset && u.sz != 0
      | none => false
    | none => false
  | _ => false
def zvB (P : Program) (T : Nat) (t : Ty) : Bool :=
  match P.info? T with
  | some i => match i.zero with
    | some (.agg cs) => t.agg && cellsAre cs.toList (zc t)
    | some z => !t.agg && cellsAre [z] (zc t)
    | none => true
  | none => true
theorem zvB_sound {P : Program} {T : Nat} {t : Ty} (h : zvB P T t = true) {i : TypeInfo} {z : Value} (hi : P.info? T = some i) (hz : i.zero = some z) : z = t.mk (zc t) := by
  unfold zvB at h
  rw [hi] at h
  simp only [hz] at h
  unfold Ty.mk
  split at h
  · rename_i cs e
    cases e
    simp only [Bool.and_eq_true] at h
    rw [h.1, if_pos rfl, ← cellsAre_eq h.2]
  · rename_i z' _ e
    cases e
    simp only [Bool.and_eq_true, Bool.not_eq_true'] at h
    rw [h.1, ← cellsAre_eq h.2]; rfl
  · rename_i e; cases e
def tyB (P : Program) (Γ : Ctx) (T : Nat) (t : Ty) : Bool :=
  zvB P T t && infoB P T t && (match P.underlying T with | some d => kindB P Γ T t d | none => false) && (List.range (Γ.nf T)).all (fldB P Γ T t)
theorem tyB_sound {P : Program} {Γ : Ctx} {T : Nat} {t : Ty} (h : tyB P Γ T t = true) : TyI P Γ T t := by
  unfold tyB at h
  simp only [Bool.and_eq_true] at h
  obtain ⟨⟨⟨h0, h1⟩, h2⟩, h3⟩ := h
  obtain ⟨d, hd, h2⟩ : ∃ d, P.underlying T = some d ∧ kindB P Γ T t d = true := by
    cases hu : P.underlying T with
    | none => rw [hu] at h2; cases h2
    | some d => rw [hu] at h2; exact ⟨d, rfl, h2⟩
  simp only [kindB, Bool.and_eq_true, beq_iff_eq] at h2
  obtain ⟨h2a, h2b⟩ := h2
  refine ⟨?_, ⟨d, hd, h2a⟩, ?_, ?_, ?_, ?_, ?_, fun k hk => ?_, ?_, ?_, ?_⟩
  · unfold infoB at h1
    split at h1
    · rename_i i hi
      simp only [Bool.and_eq_true, beq_iff_eq, Nat.ble_eq] at h1
      obtain ⟨⟨q1, q2⟩, q3⟩ := h1
      split at q3
      · rename_i z hz
        exact ⟨i, hi, q1, q2, z, hz, cellsAre_eq q3⟩
      · cases q3
    · cases h1
  · rintro k rfl
    cases d <;> simp_all
  · rintro rfl
    cases d <;> simp_all
  · rintro rfl
    cases d <;> simp_all
  · rintro te e rfl
    cases d with
    | slice te' =>
      simp only [Bool.and_eq_true, beq_iff_eq, Nat.blt_eq] at h2b
      obtain ⟨⟨rfl, q⟩, r⟩ := h2b
      exact ⟨hd, q, r⟩
    | _ => simp at h2b
  · rintro n e rfl
    cases d <;> simp_all
  · have := List.all_eq_true.1 h3 k (by simpa using hk)
    unfold fldB at this
    split at this
    · rename_i fs hfs
      split at this
      · rename_i f hf
        split at this
        · rename_i u hu
          simp only [Bool.and_eq_true, beq_iff_eq, bne_iff_ne, ne_eq] at this
          exact ⟨fs, f, u, hfs, hf, hu, this.1.1, this.1.2, this.2⟩
        · cases this
      · cases this
    · cases this
  · intro fs hfs
    rw [hd] at hfs
    obtain rfl := Option.some.inj hfs
    cases t <;> simp_all
  · intro i z hi hz
    exact zvB_sound h0 hi hz
  · rintro k e rfl
    cases d with
    | map kt et =>
      simp only [Bool.and_eq_true, beq_iff_eq] at h2b
      exact ⟨kt, et, hd, h2b.1.1, h2b.1.2, h2b.2⟩
    | _ => simp at h2b
def fnB (P : Program) (T : Nat) : Bool :=
  (match P.underlying T with | some d => !d.isRow | none => false) && (match P.info? T with | some i => i.size == 1 | none => false)
def noMap : Ty → Bool
  | .map _ _ => false
  | _ => true
theorem no_map {l : List (Nat × Ty)} (h : l.all (fun x => noMap x.2) = true) {T : Nat} {k e : Ty} (ht : lk l T = some (.map k e)) : False := by
  have := List.all_eq_true.1 h _ (lk_mem ht)
  simp [noMap] at this
theorem tyOk_of {P : Program} {Γ : Ctx} {l : List (Nat × Ty)} {fl : List Nat} (hl : Γ.ty = lk l) (hf : Γ.fn = fl.contains) (h1 : l.all (fun x => tyB P Γ x.1 x.2) = true) (h2 : fl.all (fnB P) = true)
    (h3 : ∀ T t, Γ.ty T = some t → t.agg = true → Γ.eq T = true → ∀ (x y : t.T) (r : Bool), eqT t x y = some r → P.eqGuardType P.depth T = false ∧ ∀ (w : World) (S : Nat → Prop) (cs ds : List Value), Imm w S t x cs → Imm w S t y ds → (Op.equal T (t.mk cs) (t.mk ds)).run P w = .ok r w)
    (h4 : ∀ T k e kt et, Γ.ty T = some (.map k e) → P.underlying T = some (.map kt et) → Maps.Keyed P kt ∧ ∀ (w : World) (S : Nat → Prop) (y : k.T) (cs : List Value), Imm w S k y cs → ∃ l, keyOf P kt (k.mk cs) = some l) : TyOk P Γ := by
  refine ⟨fun T t ht => tyB_sound ?_, h3, fun T hT => ?_, h4⟩
  · rw [hl] at ht
    exact List.all_eq_true.1 h1 (T, t) (lk_mem ht)
  · rw [hf] at hT
    have := List.all_eq_true.1 h2 T (by simpa using hT)
    simp only [fnB, Bool.and_eq_true] at this
    obtain ⟨q1, q2⟩ := this
    split at q1
    · rename_i d hd
      split at q2
      · rename_i i hi
        exact ⟨⟨d, hd, by simpa using q1⟩, i, hi, by simpa using q2⟩
      · cases q2
    · cases q1
end Go.Proofs.Ytmjijggkdbiijaa
/- A law's own call: nothing that was there turns. No statement is proved here. -/
namespace Go.Proofs.Ytmjijggkdbiijaa
open Go.RowKit
set_option linter.unusedVariables false
set_option linter.unusedSimpArgs false
theorem ev_below {P : Program} {f : Nat} {ds : List D} {res : List Comp} (hev : Ev P f (ds.map .imm) res) {w : World} {vs : List Value} (h : Al2 (fun v d => RepV w (All w) d v) vs ds) :
    Calls P f vs.toArray w fun e w' => ∃ v lab', e = .returned v ∧ Below w.heap.size w w' ∧ ResOk lab' w' 0 res v := by
  refine Calls.mono (hev.2 w (fun _ => none) vs (fun g p hg => by cases hg) (by rw [List.length_map]; exact h.len) fun j a v ha hv => ?_) ?_
  · rw [List.getElem?_map] at ha
    cases hd : ds[j]? with
    | none => rw [hd] at ha; cases ha
    | some d =>
      rw [hd] at ha
      simp only [Option.map_some, Option.some.injEq] at ha
      subst ha
      have hj : j < ds.length := by
        rcases Nat.lt_or_ge j ds.length with q | q
        · exact q
        · rw [List.getElem?_eq_none q] at hd; cases hd
      have hj' : j < vs.length := by rw [h.len]; exact hj
      rw [List.getElem?_eq_getElem hj] at hd
      rw [List.getElem?_eq_getElem hj'] at hv
      obtain rfl := Option.some.inj hd
      obtain rfl := Option.some.inj hv
      exact RepV.keep (fun g hg => ⟨⟨rfl, hg⟩, rfl⟩) (h.get j hj' hj)
  · rintro e w' ⟨v, lab', rfl, c1, c2, c3, c4, c5⟩
    exact ⟨v, lab', rfl, ⟨c1.os, c1.tape, c1.output, c1.size, fun k hk => c1.keep k ⟨hk, .inl rfl⟩⟩, c5⟩
end Go.Proofs.Ytmjijggkdbiijaa
/- A law's arguments, opened by their types. No statement is proved here. -/
namespace Go.Proofs.Ytmjijggkdbiijaa
open Go.RowKit
set_option linter.unusedVariables false
set_option linter.unusedSimpArgs false
/-- A struct's type, by its fields'. -/
def mkS : List Ty → Ty
  | [] => .unit
  | [a] => .prod a .unit
  | [a, b] => .prod a b
  | a :: r => .prod a (mkS r)
def offsOk : Nat → List (Nat × Ty) → Bool
  | _, [] => true
  | k, (o, t) :: r => o == k && offsOk (k + t.sz) r
/-- The table's structs are made of their fields, its cells are counted. -/
def shapeB (P : Program) (Γ : Ctx) (T : Nat) (t : Ty) : Bool :=
  P.cellsOf T == t.sz && (match P.underlying T with
    | some (.struct fs) => match fs.toList.mapM (fun f => (Γ.ty f.type).map fun u => (f.offset, u)) with
      | some us => t == mkS (us.map (·.2)) && offsOk 0 us
      | none => false
    | _ => match t with
      | .prod _ _ => false
      | .unit => false
      | .map _ _ => false
      | .fn _ _ => false
      | _ => true)
theorem fields_imm {w : World} {S : Nat → Prop} : ∀ (us : List (Nat × Ty)) (k : Nat) (cs : List Value), offsOk k us = true → (∀ f ∈ us, ∃ y : f.2.T, Imm w S f.2 y ((cs.drop f.1).take f.2.sz)) → cs.length = k + (mkS (us.map (·.2))).sz → ∃ y, Imm w S (mkS (us.map (·.2))) y (cs.drop k)
  | [], k, cs, ho, hf, hl => by
    have hl' : cs.length = k + 0 := hl
    show ∃ y : Ty.unit.T, Imm w S .unit y (cs.drop k)
    refine ⟨(), ?_⟩
    simp only [Imm]
    exact List.drop_eq_nil_of_le (by omega)
  | [(o, a)], k, cs, ho, hf, hl => by
    simp only [offsOk, Bool.and_eq_true, beq_iff_eq] at ho
    obtain ⟨rfl, _⟩ := ho
    obtain ⟨y, hy⟩ := hf (o, a) (by simp)
    have hl' : cs.length = o + (a.sz + 0) := hl
    show ∃ y : (Ty.prod a .unit).T, Imm w S (.prod a .unit) y (cs.drop o)
    refine ⟨(y, ()), ?_⟩
    simp only [Imm]
    exact ⟨hy, List.drop_eq_nil_of_le (by rw [List.length_drop]; omega)⟩
  | [(o, a), (o', b)], k, cs, ho, hf, hl => by
    simp only [offsOk, Bool.and_eq_true, beq_iff_eq] at ho
    obtain ⟨rfl, rfl, _⟩ := ho
    obtain ⟨y, hy⟩ := hf (o, a) (by simp)
    obtain ⟨z, hz⟩ := hf (o + a.sz, b) (by simp)
    have hl' : cs.length = o + (a.sz + b.sz) := hl
    show ∃ y : (Ty.prod a b).T, Imm w S (.prod a b) y (cs.drop o)
    refine ⟨(y, z), ?_⟩
    simp only [Imm]
    refine ⟨hy, ?_⟩
    rw [List.drop_drop]
    rwa [List.take_of_length_le (by rw [List.length_drop]; show cs.length - (o + a.sz) ≤ b.sz; omega)] at hz
  | (o, a) :: b :: c :: us, k, cs, ho, hf, hl => by
    simp only [offsOk, Bool.and_eq_true, beq_iff_eq] at ho
    obtain ⟨rfl, ho⟩ := ho
    obtain ⟨y, hy⟩ := hf (o, a) (by simp)
    have hl' : cs.length = o + (a.sz + (mkS ((b :: c :: us).map (·.2))).sz) := hl
    obtain ⟨z, hz⟩ := fields_imm (b :: c :: us) (o + a.sz) cs (by simp only [offsOk, Bool.and_eq_true, beq_iff_eq]; exact ho) (fun f hf' => hf f (by simp only [List.mem_cons] at hf' ⊢; exact .inr hf')) (by omega)
    show ∃ y : (Ty.prod a (mkS ((b :: c :: us).map (·.2)))).T, Imm w S (.prod a (mkS ((b :: c :: us).map (·.2)))) y (cs.drop o)
    refine ⟨(y, z), ?_⟩
    simp only [Imm]
    refine ⟨hy, ?_⟩
    rw [List.drop_drop]
    exact hz
def tmz : Ty → Nat
  | .prod a b => tmz a + tmz b + 1
  | .slice _ e => tmz e + 1
  | .arr _ e => tmz e + 1
  | _ => 0
theorem tmz_mem : ∀ {us : List Ty} {u : Ty}, u ∈ us → tmz u < tmz (mkS us)
  | [], u, h => by cases h
  | [a], u, h => by
    simp only [List.mem_singleton] at h; subst h
    simp only [mkS, tmz]; omega
  | [a, b], u, h => by
    simp only [List.mem_cons, List.not_mem_nil, or_false] at h
    rcases h with rfl | rfl <;> simp only [mkS, tmz] <;> omega
  | a :: b :: c :: us, u, h => by
    simp only [mkS, tmz]
    rcases List.mem_cons.1 h with rfl | h
    · omega
    · have := tmz_mem (us := b :: c :: us) h
      omega
theorem ranged {w : World} {base : Nat} {a : Addr} {n : Nat} {cs : List Value} (h : w.cells? base a n = some cs) : w.rangeAt a.block a.off cs ∧ cs.length = n ∧ (0 < n → a.spot = none ∧ a.block < w.heap.size) := by
  obtain ⟨_, h1, h2⟩ := World.cells?_some h
  have hs : 0 < n → a.spot = none ∧ a.block < w.heap.size := fun hn => by
    have h0 := h2 0 hn
    rw [List.getElem?_eq_getElem (by omega)] at h0
    unfold World.cell? at h0
    split at h0
    · rename_i c _ _ hb
      split at h0
      · cases h0
      · rename_i hsp
        refine ⟨by simpa [Addr.add] using hsp, ?_⟩
        rcases Nat.lt_or_ge a.block w.heap.size with q | q
        · exact q
        · have e0 : (a.add 0).block = a.block := by simp [Addr.add]
          rw [e0] at hb
          rw [Array.getElem?_eq_none q] at hb; cases hb
    · cases h0
  refine ⟨fun j v hv => ?_, h1, hs⟩
  have hj : j < n := by
    rcases Nat.lt_or_ge j cs.length with q | q
    · omega
    · rw [List.getElem?_eq_none q] at hv; cases hv
  obtain ⟨hsp, _⟩ := hs (by omega)
  have := h2 j hj
  rw [hv] at this
  rw [← this]
  congr 1
  cases a
  simp only at hsp
  subst hsp
  simp [Addr.add]
end Go.Proofs.Ytmjijggkdbiijaa
/- A law's arguments, opened by their types: the proof. No statement is proved here. -/
namespace Go.Proofs.Ytmjijggkdbiijaa
open Go.RowKit
set_option linter.unusedVariables false
set_option linter.unusedSimpArgs false
theorem getD_all {α : Type} {p : Nat → α → Prop} {n : Nat} (h : ∀ i, i < n → ∃ y, p i y) : ∃ l : List α, l.length = n ∧ ∀ i (hi : i < l.length), p i l[i] := by
  induction n with
  | zero => exact ⟨[], rfl, fun i hi => by simp at hi⟩
  | succ n ih =>
    obtain ⟨l, h1, h2⟩ := ih fun i hi => h i (by omega)
    obtain ⟨y, hy⟩ := h n (by omega)
    refine ⟨l ++ [y], by simp [h1], fun i hi => ?_⟩
    by_cases hin : i < l.length
    · rw [List.getElem_append_left hin]; exact h2 i hin
    · have : i = n := by simp at hi; omega
      subst this
      rw [List.getElem_append_right (by omega)]
      simpa [h1] using hy
theorem wf_in {k : IntKind} {z : Int} (h : (Lit.int k z).wf = true) : inR k z := by
  cases k <;> simp [Lit.wf, IntKind.min, IntKind.max, IntKind.signed, IntKind.bits] at h <;> simp only [inR, loK, hiK] <;> omega
theorem mapM_back {α β : Type} {f : α → Option β} : ∀ {l : List α} {r : List β}, l.mapM f = some r → ∀ y ∈ r, ∃ (i : Nat) (x : α), l[i]? = some x ∧ f x = some y
  | [], r, h, y, hy => by simp at h; subst h; cases hy
  | a :: l, r, h, y, hy => by
    simp only [List.mapM_cons, Option.bind_eq_bind, Option.pure_def] at h
    cases ha : f a with
    | none => rw [ha] at h; simp at h
    | some z =>
      rw [ha] at h
      cases hl : l.mapM f with
      | none => rw [hl] at h; simp at h
      | some ys =>
        rw [hl] at h
        simp at h
        subst h
        rcases List.mem_cons.1 hy with rfl | hy
        · exact ⟨0, a, rfl, ha⟩
        · obtain ⟨i, x, h1, h2⟩ := mapM_back hl y hy
          exact ⟨i + 1, x, by simpa using h1, h2⟩
section
variable {H : Type} {enc : TypeId × Value → H} {P : Program} {Γ : Ctx} {w : World} {base : Nat} {spare : Nat → Bool} {held : Bool}
theorem trod_imm (hT : TyOk P Γ) (hS : ∀ T t, Γ.ty T = some t → shapeB P Γ T t = true) : ∀ (m : Nat) (t : Ty), tmz t ≤ m → ∀ (T n : Nat) (cs : List Value) (x : DataW H × List MemPlace), Γ.ty T = some t → DataW.trod enc P w base spare held n T cs = some x → ∃ y, Imm w (All w) t y cs := by
  intro m
  induction m using Nat.strongRecOn with
  | ind m ih =>
    intro t hm T n cs x ht h
    have hI := hT.ty T t ht
    have hsh := hS T t ht
    simp only [shapeB, Bool.and_eq_true, beq_iff_eq] at hsh
    obtain ⟨hcells, hsh⟩ := hsh
    have below : ∀ (u : Ty), tmz u < tmz t → ∀ (T' n' : Nat) (cs' : List Value) (x' : DataW H × List MemPlace), Γ.ty T' = some u → DataW.trod enc P w base spare held n' T' cs' = some x' → ∃ y, Imm w (All w) u y cs' := fun u hu => ih (tmz u) (by omega) u (Nat.le_refl _)
    have struct : ∀ fs, P.underlying T = some (.struct fs) → ∃ y, Imm w (All w) t y cs := by
      intro fs hfs
      obtain ⟨xs, n', _, _, hl, hx, hf⟩ := DataW.trod_struct hfs h
      rw [hfs] at hsh
      simp only at hsh
      split at hsh
      · rename_i us hus
        simp only [Bool.and_eq_true, beq_iff_eq] at hsh
        obtain ⟨rfl, hoff⟩ := hsh
        have := fields_imm (w := w) (S := All w) us 0 cs hoff (fun f hfm => ?_) (by rw [Nat.zero_add, hl, hcells])
        · simpa using this
        · obtain ⟨i, fl, h1, h2⟩ := mapM_back hus f hfm
          cases hty : Γ.ty fl.type with
          | none => rw [hty] at h2; simp at h2
          | some u =>
            rw [hty] at h2
            simp only [Option.map_some, Option.some.injEq] at h2
            subst h2
            have h3 := hf i fl (by simpa using h1)
            have hi : i < xs.length := by
              rw [hx]
              rcases Nat.lt_or_ge i fs.size with q | q
              · exact q
              · rw [List.getElem?_eq_none (by simpa using q)] at h1; cases h1
            rw [List.getElem?_eq_getElem hi] at h3
            have hc := hS fl.type u hty
            simp only [shapeB, Bool.and_eq_true, beq_iff_eq] at hc
            rw [hc.1] at h3
            exact below u (tmz_mem (List.mem_map.2 ⟨_, hfm, rfl⟩)) _ _ _ _ hty h3
      · cases hsh
    cases t with
    | int k =>
      obtain ⟨z, rfl, _, wf⟩ := DataW.trod_int (hI.int k rfl) h
      exact ⟨z, by simp only [Imm]; exact ⟨trivial, wf_in wf⟩⟩
    | bool =>
      obtain ⟨b, rfl, _⟩ := DataW.trod_bool (hI.bool rfl) h
      exact ⟨b, by simp only [Imm]⟩
    | str =>
      obtain ⟨z, rfl, _, hz⟩ := DataW.trod_string (hI.str rfl) h
      exact ⟨z, by simp only [Imm]; exact ⟨trivial, by unfold maxLen at hz; omega⟩⟩
    | prod a b =>
      cases hu : P.underlying T with
      | none => rw [hu] at hsh; cases hsh
      | some d =>
        cases d with
        | struct fs => exact struct fs hu
        | _ => rw [hu] at hsh; cases hsh
    | unit =>
      cases hu : P.underlying T with
      | none => rw [hu] at hsh; cases hsh
      | some d =>
        cases d with
        | struct fs => exact struct fs hu
        | _ => rw [hu] at hsh; cases hsh
    | map _ _ =>
      cases hu : P.underlying T with
      | none => rw [hu] at hsh; cases hsh
      | some d =>
        cases d with
        | struct fs => exact struct fs hu
        | _ => rw [hu] at hsh; cases hsh
    | fn _ _ =>
      cases hu : P.underlying T with
      | none => rw [hu] at hsh; cases hsh
      | some d =>
        cases d with
        | struct fs => exact struct fs hu
        | _ => rw [hu] at hsh; cases hsh
    | arr k e =>
      obtain ⟨te, hu, hte⟩ := hI.arr k e rfl
      obtain ⟨xs, n', _, _, hl, hx, hf⟩ := DataW.trod_array hu h
      have hc := hS te e hte
      simp only [shapeB, Bool.and_eq_true, beq_iff_eq] at hc
      obtain ⟨l, l1, l2⟩ := getD_all (p := fun i (y : e.T) => Imm w (All w) e y ((cs.drop (i * e.sz)).take e.sz)) (n := k) fun i hi => by
        have h3 := hf i hi
        rw [List.getElem?_eq_getElem (by omega), hc.1] at h3
        exact below e (by simp only [tmz]; omega) _ _ _ _ hte h3
      refine ⟨l, ?_⟩
      simp only [Imm]
      exact ⟨l1, by rw [hl, hcells]; rfl, l2⟩
    | slice te e =>
      obtain ⟨hu, hte, hsz⟩ := hI.slice te e rfl
      have hc := hS te e hte
      simp only [shapeB, Bool.and_eq_true, beq_iff_eq] at hc
      rcases Go.Deep.open_slice hu h with ⟨rfl, _⟩ | ⟨a, len, cap, m', n', D, Pl, rfl, _, hl, hcap, hmm, _, hel⟩
      · refine ⟨[], ?_⟩
        simp only [Imm]
        exact ⟨by simp, none, 0, [], rfl, by simp, by simp [maxLen], by simp, by simp, by simp⟩
      · have hlm : len ≤ m' := by rw [hmm]; split <;> omega
        obtain ⟨l, l1, l2⟩ := getD_all (α := e.T × List Value) (p := fun i z => Imm w (All w) e z.1 z.2 ∧ w.rangeAt a.block (a.off + i * e.sz) z.2 ∧ (i = 0 → a.spot = none) ∧ a.block < w.heap.size) (n := len) fun i hi => by
          obtain ⟨cs', h1, h2⟩ := hel i (by omega)
          rw [hc.1] at h1
          obtain ⟨y, hy⟩ := below e (by simp only [tmz]; omega) _ _ _ _ hte h2
          obtain ⟨r1, r2, r3⟩ := ranged h1
          obtain ⟨r4, r5⟩ := r3 hsz
          have e1 : (a.add (i * e.sz)).block = a.block := by unfold Addr.add; split <;> rfl
          have e2 : (a.add (i * e.sz)).off = a.off + i * e.sz := by
            unfold Addr.add; split
            · rename_i q; rw [q]; rfl
            · rfl
          rw [e1, e2] at r1
          rw [e1] at r5
          refine ⟨(y, cs'), hy, r1, fun q => ?_, r5⟩
          subst q
          rw [Nat.zero_mul] at r4
          exact r4
        have hcl : ∀ cs ∈ l.map (·.2), cs.length = e.sz := by
          intro cs hcs
          obtain ⟨z, hz, rfl⟩ := List.mem_map.1 hcs
          obtain ⟨i, hi, rfl⟩ := List.getElem_of_mem hz
          exact (l2 i hi).1.len
        have hfl : ∀ (css : List (List Value)), (∀ cs ∈ css, cs.length = e.sz) → css.flatten.length = css.length * e.sz := by
          intro css
          induction css with
          | nil => intro _; simp
          | cons c r ih2 =>
            intro hh
            simp only [List.flatten_cons, List.length_append, List.length_cons]
            rw [ih2 fun cs hcs => hh cs (by simp [hcs]), hh c (by simp), Nat.succ_mul]; omega
        have hflen : (l.map (·.2)).flatten.length = len * e.sz := by rw [hfl _ hcl, List.length_map, l1]
        refine ⟨l.map (·.1), ?_⟩
        simp only [Imm]
        refine ⟨by rw [List.length_map, l1]; unfold maxLen at hcap; omega, some a, cap, (l.map (·.2)).flatten, by rw [List.length_map, l1], by rw [List.length_map, l1]; exact hl, hcap, by rw [List.length_map, l1, hflen], fun i hi => ?_, fun hne => ?_⟩
        · have hi' : i < l.length := by simpa using hi
          rw [flat_part (l.map (·.2)) hcl i (by simpa using hi')]
          simp only [List.getElem_map]
          exact (l2 i hi').1
        · have h0 : 0 < l.length := by
            rcases Nat.eq_zero_or_pos l.length with q | q
            · exact absurd (by rw [List.eq_nil_of_length_eq_zero q]; rfl) hne
            · exact q
          obtain ⟨_, _, s1, s2⟩ := l2 0 h0
          have s1 := s1 rfl
          refine ⟨a.block, a.off, ?_, s2, fun j v hv => ?_⟩
          · cases a; simp only at s1; subst s1; rfl
          · have hj : j < len * e.sz := by
              rw [← hflen]
              rcases Nat.lt_or_ge j (l.map (·.2)).flatten.length with q | q
              · exact q
              · rw [List.getElem?_eq_none q] at hv; cases hv
            have hq : j / e.sz < l.length := by rw [l1]; exact (Nat.div_lt_iff_lt_mul hsz).2 hj
            have hr := (l2 _ hq).2.1
            have e1 : j = j / e.sz * e.sz + j % e.sz := by rw [Nat.mul_comm]; exact (Nat.div_add_mod j e.sz).symm
            have hp := flat_part (l.map (·.2)) hcl (j / e.sz) (by simpa using hq)
            have hv2 : (l[j / e.sz]).2[j % e.sz]? = some v := by
              have e4 : (((l.map (·.2)).flatten.drop (j / e.sz * e.sz)).take e.sz)[j % e.sz]? = some v := by
                rw [List.getElem?_take_of_lt (Nat.mod_lt _ hsz), List.getElem?_drop, ← e1]; exact hv
              rw [hp] at e4
              simpa using e4
            have := hr (j % e.sz) v hv2
            rw [Nat.add_assoc, ← e1] at this
            exact this
end
end Go.Proofs.Ytmjijggkdbiijaa
