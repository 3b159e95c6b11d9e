/- Parts of the way from code to plain Lean, put together. No statement is proved here. -/
import Derived.WalkKit
import Derived.Deep.MidRow
import Derived.Laws.AppendOwn
import Derived.Maps.AppendAt
import Derived.Maps.Keyed
/- Types and data of values that lie in memory; what of them a world holds. No statement is proved here. -/
namespace Go.Proofs.Ytmjijggkdbiijaa
open Go.RowKit
set_option linter.unusedVariables false
set_option linter.unusedSimpArgs false
/-- Types, as far as values are data. A slice bears its element type's number. -/
inductive Ty where
  | int (k : IntKind)
  | bool
  | str
  | unit
  | prod (a b : Ty)
  | slice (te : Nat) (e : Ty)
  | arr (n : Nat) (e : Ty)
  | map (k e : Ty)
  | fn (f : Nat) (c : Ty)
  deriving DecidableEq, Inhabited
@[reducible] def Ty.T : Ty → Type
  | .int _ => Int
  | .bool => Bool
  | .str => ByteArray
  | .unit => Unit
  | .prod a b => a.T × b.T
  | .slice _ e => List e.T
  | .arr _ e => List e.T
  | .map k e => Option (List (k.T × e.T))
  | .fn _ c => c.T
def Ty.zero : (t : Ty) → t.T
  | .int _ => (0 : Int)
  | .bool => false
  | .str => ByteArray.empty
  | .unit => ()
  | .prod a b => (a.zero, b.zero)
  | .slice _ _ => []
  | .arr n e => List.replicate n e.zero
  | .map k e => (none : Option (List (k.T × e.T)))
  | .fn _ c => c.zero
instance (t : Ty) : Inhabited t.T := ⟨t.zero⟩
def Ty.sz : Ty → Nat
  | .unit => 0
  | .prod a b => a.sz + b.sz
  | .arr n e => n * e.sz
  | _ => 1
/-- Is a value of the type an aggregate of cells? -/
def Ty.agg : Ty → Bool
  | .unit | .prod _ _ | .arr _ _ => true
  | _ => false
/-- How many slices lie in it, at the top. -/
def Ty.lv : Ty → Nat
  | .prod a b => a.lv + b.lv
  | .slice _ _ => 1
  | .map _ _ => 1
  | _ => 0
/-- No slice lies in it, at no depth. -/
def Ty.flat : Ty → Bool
  | .prod a b => a.flat && b.flat
  | .slice _ _ => false
  | .arr _ e => e.flat
  | .map _ _ => false
  | .fn _ _ => false
  | _ => true
def loK : IntKind → Int
  | .i8 => -128 | .i16 => -32768 | .i32 => -2147483648 | .i64 => -9223372036854775808 | _ => 0
def hiK : IntKind → Int
  | .i8 => 127 | .i16 => 32767 | .i32 => 2147483647 | .i64 => 9223372036854775807
  | .u8 => 255 | .u16 => 65535 | .u32 => 4294967295 | .u64 => 18446744073709551615
def inR (k : IntKind) (x : Int) : Prop := loK k ≤ x ∧ x ≤ hiK k
/-- Bounds of a datum. -/
def Ty.ok : (t : Ty) → t.T → Prop
  | .int k, x => inR k x
  | .bool, _ => True
  | .str, x => x.size ≤ 9223372036854775807
  | .unit, _ => True
  | .prod a b, x => a.ok x.1 ∧ b.ok x.2
  | .slice _ e, xs => xs.length ≤ 9223372036854775807 ∧ ∀ x ∈ xs, e.ok x
  | .arr n e, xs => xs.length = n ∧ ∀ x ∈ xs, e.ok x
  | .map k e, m => ∀ xs : List (k.T × e.T), m = some xs → ∀ p ∈ xs, k.ok p.1 ∧ e.ok p.2
  | .fn _ _, _ => True
def Ty.mk (t : Ty) (cs : List Value) : Value := if t.agg then .agg cs.toArray else cs.getD 0 undef
section
variable (w : World)
/-- The cells of a datum that nobody writes; S: the blocks that hold what it points to. -/
def Imm (S : Nat → Prop) : (t : Ty) → t.T → List Value → Prop
  | .int k, x, cs => cs = [.int k x] ∧ inR k x
  | .bool, x, cs => cs = [.bool x]
  | .str, x, cs => cs = [.string x] ∧ x.size ≤ 9223372036854775807
  | .unit, _, cs => cs = []
  | .prod a b, x, cs => Imm S a x.1 (cs.take a.sz) ∧ Imm S b x.2 (cs.drop a.sz)
  | .slice _ e, xs, cs => xs.length ≤ 9223372036854775807 ∧ ∃ a c flat, cs = [.slice a xs.length c] ∧ xs.length ≤ c ∧ c ≤ maxLen ∧
      flat.length = xs.length * e.sz ∧ (∀ i (h : i < xs.length), Imm S e xs[i] ((flat.drop (i * e.sz)).take e.sz)) ∧
      (xs ≠ [] → ∃ g o, a = some ⟨g, o, none⟩ ∧ S g ∧ w.rangeAt g o flat)
  | .arr n e, xs, cs => xs.length = n ∧ cs.length = n * e.sz ∧ ∀ i (h : i < xs.length), Imm S e xs[i] ((cs.drop (i * e.sz)).take e.sz)
  | .map k e, m, cs => (m = (none : Option (List (k.T × e.T))) ∧ cs = [.map none]) ∨ ∃ (b : Nat) (xs : List (k.T × e.T)) (es : Array MapEntry) (ck : Nat), m = some xs ∧ cs = [.map (some b)] ∧ S b ∧ w.heap[b]? = some (.map es ck) ∧ es.size = xs.length ∧ xs.Pairwise (fun p q => p.1 ≠ q.1) ∧
      ∀ i (h : i < xs.length), ∃ (en : MapEntry) (kc vc : List Value), es[i]? = some en ∧ en.key = k.mk kc ∧ en.val = e.mk vc ∧ Imm S k xs[i].1 kc ∧ Imm S e xs[i].2 vc
  | .fn _ _, _, cs => cs = [.slice none 0 0]
/-- What a map of one's own holds at a key: a slice in a block B; or what nobody writes. -/
def OwnE (S : Nat → Prop) (B : Nat → Prop) : (t : Ty) → t.T → List Value → Prop
  | .slice te e, xs, cs => xs.length ≤ 9223372036854775807 ∧ ∃ v flat, cs = [v] ∧ w.ownsRow 0 te e.sz v xs.length flat ∧ (∀ g, v.ownBlock = some g → B g) ∧
      (∀ j (h : j < xs.length), Imm w S e xs[j] ((flat.drop (j * e.sz)).take e.sz))
  | t, x, cs => Imm w S t x cs
/-- The cells of a datum of one's own: each slice at the top lies in a block of its own, L tells which, by the cell's place. -/
def Own (S : Nat → Prop) (L : Nat → Nat → Prop) : Nat → (t : Ty) → t.T → List Value → Prop
  | i, .prod a b, x, cs => Own S L i a x.1 (cs.take a.sz) ∧ Own S L (i + a.sz) b x.2 (cs.drop a.sz)
  | i, .slice te e, xs, cs => xs.length ≤ 9223372036854775807 ∧ ∃ v flat, cs = [v] ∧ w.ownsRow 0 te e.sz v xs.length flat ∧ (∀ g, v.ownBlock = some g → L i g) ∧
      (∀ j (h : j < xs.length), Imm w S e xs[j] ((flat.drop (j * e.sz)).take e.sz))
  | j, .map k e, m, cs => (m = (none : Option (List (k.T × e.T))) ∧ cs = [.map none]) ∨ ∃ (b : Nat) (xs : List (k.T × e.T)) (es : Array MapEntry) (ck : Nat), m = some xs ∧ cs = [.map (some b)] ∧ L j b ∧ w.heap[b]? = some (.map es ck) ∧ es.size = xs.length ∧ xs.Pairwise (fun p q => p.1 ≠ q.1) ∧
      (∀ (i i' : Nat) (en en' : MapEntry) (g : Nat), es[i]? = some en → es[i']? = some en' → en.val.ownBlock = some g → en'.val.ownBlock = some g → i = i') ∧ (∀ i (h : i < xs.length), ∃ (en : MapEntry) (kc vc : List Value), es[i]? = some en ∧ en.key = k.mk kc ∧ en.val = e.mk vc ∧ Imm w S k xs[i].1 kc ∧ OwnE w S (L j) e xs[i].2 vc)
  | _, t, x, cs => Imm w S t x cs
end
theorem Imm.len {w : World} {S : Nat → Prop} : ∀ {t : Ty} {x : t.T} {cs : List Value}, Imm w S t x cs → cs.length = t.sz
  | .int _, _, _, h => by simp only [Imm] at h; simp [h.1, Ty.sz]
  | .bool, _, _, h => by simp only [Imm] at h; simp [h, Ty.sz]
  | .str, _, _, h => by simp only [Imm] at h; simp [h.1, Ty.sz]
  | .unit, _, _, h => by simp only [Imm] at h; simp [h, Ty.sz]
  | .prod a b, x, cs, h => by
    simp only [Imm] at h
    have h1 := Imm.len h.1
    have h2 := Imm.len h.2
    simp only [List.length_take, List.length_drop] at h1 h2
    simp only [Ty.sz]
    omega
  | .slice _ e, xs, cs, h => by simp only [Imm] at h; obtain ⟨_, a, c, flat, rfl, _⟩ := h; simp [Ty.sz]
  | .arr n e, xs, cs, h => by simp only [Imm] at h; simp [Ty.sz, h.2.1]
  | .map k e, m, cs, h => by simp only [Imm] at h; rcases h with ⟨_, rfl⟩ | ⟨b, xs, es, ck, _, rfl, _⟩ <;> simp [Ty.sz]
  | .fn _ _, _, _, h => by simp only [Imm] at h; simp [h, Ty.sz]
theorem OwnE.len {w : World} {S B : Nat → Prop} {t : Ty} {x : t.T} {cs : List Value} (h : OwnE w S B t x cs) : cs.length = t.sz := by
  cases t with
  | slice te e => simp only [OwnE] at h; obtain ⟨hl, v, flat, rfl, _⟩ := h; simp [Ty.sz]
  | _ => exact Imm.len (w := w) (S := S) (x := x) h
theorem Own.len {w : World} {S : Nat → Prop} {L : Nat → Nat → Prop} : ∀ {t : Ty} {i : Nat} {x : t.T} {cs : List Value}, Own w S L i t x cs → cs.length = t.sz
  | .int _, _, _, _, h => by simp only [Own] at h; exact Imm.len h
  | .bool, _, _, _, h => by simp only [Own] at h; exact Imm.len h
  | .str, _, _, _, h => by simp only [Own] at h; exact Imm.len h
  | .unit, _, _, _, h => by simp only [Own] at h; exact Imm.len h
  | .prod a b, _, x, cs, h => by
    simp only [Own] at h
    have h1 := Own.len h.1
    have h2 := Own.len h.2
    simp only [List.length_take, List.length_drop] at h1 h2
    simp only [Ty.sz]
    omega
  | .slice _ e, _, xs, cs, h => by simp only [Own] at h; obtain ⟨_, v, flat, rfl, _⟩ := h; simp [Ty.sz]
  | .arr n e, _, _, _, h => by simp only [Own] at h; exact Imm.len h
  | .map k e, _, m, cs, h => by simp only [Own] at h; rcases h with ⟨_, rfl⟩ | ⟨b, xs, es, ck, _, rfl, _⟩ <;> simp [Ty.sz]
  | .fn _ _, _, _, _, h => by simp only [Own] at h; exact Imm.len h
theorem Imm.ok {w : World} {S : Nat → Prop} : ∀ {t : Ty} {x : t.T} {cs : List Value}, Imm w S t x cs → t.ok x
  | .int _, _, _, h => by simp only [Imm] at h; exact h.2
  | .bool, _, _, h => trivial
  | .str, _, _, h => by simp only [Imm] at h; exact h.2
  | .unit, _, _, h => trivial
  | .prod a b, x, cs, h => by simp only [Imm] at h; exact ⟨Imm.ok h.1, Imm.ok h.2⟩
  | .slice _ e, xs, cs, h => by
    simp only [Imm] at h
    obtain ⟨hl, _, _, flat, _, _, _, _, he, _⟩ := h
    refine ⟨hl, fun x hx => ?_⟩
    obtain ⟨i, hi, rfl⟩ := List.getElem_of_mem hx
    exact Imm.ok (he i hi)
  | .arr n e, xs, cs, h => by
    simp only [Imm] at h
    refine ⟨h.1, fun x hx => ?_⟩
    obtain ⟨i, hi, rfl⟩ := List.getElem_of_mem hx
    exact Imm.ok (h.2.2 i hi)
  | .map k e, m, cs, h => by
    intro xs hm p hp
    simp only [Imm] at h
    rcases h with ⟨h1, _⟩ | ⟨b, ys, es, ck, h1, _, _, _, _, _, h7⟩
    · rw [h1] at hm; cases hm
    · rw [h1] at hm; obtain rfl := Option.some.inj hm
      obtain ⟨i, hi, rfl⟩ := List.getElem_of_mem hp
      obtain ⟨en, kc, vc, _, _, _, q4, q5⟩ := h7 i hi
      exact ⟨Imm.ok q4, Imm.ok q5⟩
  | .fn _ _, _, _, h => trivial
theorem OwnE.ok {w : World} {S B : Nat → Prop} {t : Ty} {x : t.T} {cs : List Value} (h : OwnE w S B t x cs) : t.ok x := by
  cases t with
  | slice te e =>
    simp only [OwnE] at h
    obtain ⟨hl, v, flat, _, _, _, he⟩ := h
    refine ⟨hl, fun x hx => ?_⟩
    obtain ⟨i, hi, rfl⟩ := List.getElem_of_mem hx
    exact Imm.ok (he i hi)
  | _ => exact Imm.ok (w := w) (S := S) (x := x) h
theorem Own.ok {w : World} {S : Nat → Prop} {L : Nat → Nat → Prop} : ∀ {t : Ty} {i : Nat} {x : t.T} {cs : List Value}, Own w S L i t x cs → t.ok x
  | .int _, _, _, _, h => by simp only [Own] at h; exact Imm.ok h
  | .bool, _, _, _, h => trivial
  | .str, _, _, _, h => by simp only [Own] at h; exact Imm.ok h
  | .unit, _, _, _, h => trivial
  | .prod a b, _, x, cs, h => by simp only [Own] at h; exact ⟨Own.ok h.1, Own.ok h.2⟩
  | .slice _ e, _, xs, cs, h => by
    simp only [Own] at h
    obtain ⟨hl, v, flat, _, _, _, he⟩ := h
    refine ⟨hl, fun x hx => ?_⟩
    obtain ⟨i, hi, rfl⟩ := List.getElem_of_mem hx
    exact Imm.ok (he i hi)
  | .arr n e, _, _, _, h => by simp only [Own] at h; exact Imm.ok h
  | .map k e, _, m, cs, h => by
    intro xs hm p hp
    simp only [Own] at h
    rcases h with ⟨h1, _⟩ | ⟨b, ys, es, ck, h1, _, _, _, _, _, _, h7⟩
    · rw [h1] at hm; cases hm
    · rw [h1] at hm; obtain rfl := Option.some.inj hm
      obtain ⟨i, hi, rfl⟩ := List.getElem_of_mem hp
      obtain ⟨en, kc, vc, _, _, _, q4, q5⟩ := h7 i hi
      exact ⟨Imm.ok q4, OwnE.ok q5⟩
  | .fn _ _, _, _, _, h => trivial
theorem cellsame {w w' : World} {g : Nat} (h : w'.heap[g]? = w.heap[g]?) (o : Nat) : w'.cell? ⟨g, o, none⟩ = w.cell? ⟨g, o, none⟩ := World.cell?_of_block (w := w) (w' := w') (a := ⟨g, o, none⟩) h
theorem rangesame {w w' : World} {g o : Nat} {cs : List Value} (h : w.rangeAt g o cs) (hb : w'.heap[g]? = w.heap[g]?) : w'.rangeAt g o cs := fun j v hv => (cellsame hb _).trans (h j v hv)
/-- What nobody writes stays; S may turn with the world. -/
theorem Imm.keep {w w' : World} {S S' : Nat → Prop} (hS : ∀ g, S g → S' g ∧ w'.heap[g]? = w.heap[g]?) : ∀ {t : Ty} {x : t.T} {cs : List Value}, Imm w S t x cs → Imm w' S' t x cs
  | .int _, _, _, h => by simpa only [Imm] using h
  | .bool, _, _, h => by simpa only [Imm] using h
  | .str, _, _, h => by simpa only [Imm] using h
  | .unit, _, _, h => by simpa only [Imm] using h
  | .prod a b, x, cs, h => by simp only [Imm] at h ⊢; exact ⟨Imm.keep hS h.1, Imm.keep hS h.2⟩
  | .slice _ e, xs, cs, h => by
    simp only [Imm] at h ⊢
    obtain ⟨hl, a, c, flat, h1, h2, h3, h4, h5, h6⟩ := h
    refine ⟨hl, a, c, flat, h1, h2, h3, h4, fun i hi => Imm.keep hS (h5 i hi), fun hne => ?_⟩
    obtain ⟨g, o, e1, e2, e3⟩ := h6 hne
    exact ⟨g, o, e1, (hS g e2).1, rangesame e3 (hS g e2).2⟩
  | .arr n e, xs, cs, h => by simp only [Imm] at h ⊢; exact ⟨h.1, h.2.1, fun i hi => Imm.keep hS (h.2.2 i hi)⟩
  | .map k e, m, cs, h => by
    simp only [Imm] at h ⊢
    rcases h with h | ⟨b, xs, es, ck, h1, h2, h3, h4, h5, h6, h7⟩
    · exact .inl h
    · refine .inr ⟨b, xs, es, ck, h1, h2, (hS b h3).1, (hS b h3).2.trans h4, h5, h6, fun i hi => ?_⟩
      obtain ⟨en, kc, vc, q1, q2, q3, q4, q5⟩ := h7 i hi
      exact ⟨en, kc, vc, q1, q2, q3, Imm.keep hS q4, Imm.keep hS q5⟩
  | .fn _ _, _, _, h => by simpa only [Imm] using h
theorem ownsRow_same {w w' : World} {te sz : Nat} {v : Value} {n : Nat} {xs : List Value} (h : w.ownsRow 0 te sz v n xs) (hb : ∀ g, v.ownBlock = some g → w'.heap[g]? = w.heap[g]?) : w'.ownsRow 0 te sz v n xs := by
  refine ⟨h.1, ?_⟩
  rcases h.2 with h2 | ⟨g, cap, cur, rfl, e2, e3, e4⟩
  · exact .inl h2
  · exact .inr ⟨g, cap, cur, rfl, e2, (hb g rfl).trans e3, e4⟩
theorem OwnE.keep {w w' : World} {S S' B B' : Nat → Prop} (hS : ∀ g, S g → S' g ∧ w'.heap[g]? = w.heap[g]?) (hB : ∀ g, B g → B' g ∧ w'.heap[g]? = w.heap[g]?) {t : Ty} {x : t.T} {cs : List Value} (h : OwnE w S B t x cs) : OwnE w' S' B' t x cs := by
  cases t with
  | slice te e =>
    simp only [OwnE] at h ⊢
    obtain ⟨hl, v, flat, h1, h2, h3, h4⟩ := h
    exact ⟨hl, v, flat, h1, ownsRow_same h2 fun g hg => (hB g (h3 g hg)).2, fun g hg => (hB g (h3 g hg)).1, fun j hj => Imm.keep hS (h4 j hj)⟩
  | _ => exact Imm.keep hS h
theorem OwnE.of_imm {w : World} {S B : Nat → Prop} {t : Ty} {x : t.T} {cs : List Value} (hf : t.flat = true) (h : Imm w S t x cs) : OwnE w S B t x cs := by
  cases t with
  | slice te e => simp [Ty.flat] at hf
  | _ => exact h
theorem OwnE.to_imm {w : World} {S B : Nat → Prop} {t : Ty} {x : t.T} {cs : List Value} (hf : t.flat = true) (h : OwnE w S B t x cs) : Imm w S t x cs := by
  cases t with
  | slice te e => simp [Ty.flat] at hf
  | _ => exact h
theorem Own.keep {w w' : World} {S S' : Nat → Prop} {L L' : Nat → Nat → Prop} (hS : ∀ g, S g → S' g ∧ w'.heap[g]? = w.heap[g]?) (hL : ∀ i g, L i g → L' i g ∧ w'.heap[g]? = w.heap[g]?) :
    ∀ {t : Ty} {i : Nat} {x : t.T} {cs : List Value}, Own w S L i t x cs → Own w' S' L' i t x cs
  | .int _, _, _, _, h => by simp only [Own] at h ⊢; exact Imm.keep hS h
  | .bool, _, _, _, h => by simp only [Own] at h ⊢; exact Imm.keep hS h
  | .str, _, _, _, h => by simp only [Own] at h ⊢; exact Imm.keep hS h
  | .unit, _, _, _, h => by simp only [Own] at h ⊢; exact Imm.keep hS h
  | .prod a b, _, x, cs, h => by simp only [Own] at h ⊢; exact ⟨Own.keep hS hL h.1, Own.keep hS hL h.2⟩
  | .slice _ e, _, xs, cs, h => by
    simp only [Own] at h ⊢
    obtain ⟨hl, v, flat, h1, h2, h3, h4⟩ := h
    exact ⟨hl, v, flat, h1, ownsRow_same h2 fun g hg => (hL _ g (h3 g hg)).2, fun g hg => (hL _ g (h3 g hg)).1, fun j hj => Imm.keep hS (h4 j hj)⟩
  | .arr n e, _, _, _, h => by simp only [Own] at h ⊢; exact Imm.keep hS h
  | .map k e, j, m, cs, h => by
    simp only [Own] at h ⊢
    rcases h with h | ⟨b, xs, es, ck, h1, h2, h3, h4, h5, h6, h8, h7⟩
    · exact .inl h
    · refine .inr ⟨b, xs, es, ck, h1, h2, (hL j b h3).1, (hL j b h3).2.trans h4, h5, h6, h8, fun i hi => ?_⟩
      obtain ⟨en, kc, vc, q1, q2, q3, q4, q5⟩ := h7 i hi
      exact ⟨en, kc, vc, q1, q2, q3, Imm.keep hS q4, OwnE.keep hS (hL j) q5⟩
  | .fn _ _, _, _, _, h => by simp only [Own] at h ⊢; exact Imm.keep hS h
end Go.Proofs.Ytmjijggkdbiijaa
/- Paths into data: reading and writing at them, and where their cells lie. No statement is proved here. -/
namespace Go.Proofs.Ytmjijggkdbiijaa
open Go.RowKit
set_option linter.unusedVariables false
set_option linter.unusedSimpArgs false
inductive Stp where
  | fst | snd
  | ix (i : Nat)
  deriving DecidableEq, Inhabited
abbrev Path := List Stp
/-- Data: of a type; closures; pointers to what nobody writes; lists of these. -/
inductive D where
  | dat (t : Ty) (x : t.T)
  | clo (f : Nat) (caps : D)
  | bnd (f : Nat) (fs : D)
  | ref (d : D)
  | nl
  | cn (d ds : D)
/-- The type at a path. -/
def Ty.at : Ty → Path → Option Ty
  | t, [] => some t
  | .prod a _, .fst :: p => a.at p
  | .prod _ b, .snd :: p => b.at p
  | .arr _ e, .ix _ :: p => e.at p
  | _, _ => none
/-- Its first cell's place. -/
def Ty.off : Ty → Path → Nat
  | .prod a _, .fst :: p => a.off p
  | .prod a b, .snd :: p => a.sz + b.off p
  | .arr _ e, .ix i :: p => i * e.sz + e.off p
  | _, _ => 0
/-- Are the path's indices within the arrays? -/
def Ty.inb : Ty → Path → Prop
  | .prod a _, .fst :: p => a.inb p
  | .prod _ b, .snd :: p => b.inb p
  | .arr n e, .ix i :: p => i < n ∧ e.inb p
  | _, _ => True
def getS : (t : Ty) → t.T → Path → D
  | t, x, [] => .dat t x
  | .prod a _, x, .fst :: p => getS a x.1 p
  | .prod _ b, x, .snd :: p => getS b x.2 p
  | .arr _ e, xs, .ix i :: p => getS e (xs.getD i e.zero) p
  | _, _, _ => .nl
def castT {t u : Ty} (h : t = u) (x : t.T) : u.T := h ▸ x
/-- The datum with another one at the path. -/
def setS : (t : Ty) → t.T → Path → (u : Ty) → u.T → Option t.T
  | t, x, [], u, y => if h : u = t then some (castT h y) else none
  | .prod a b, x, .fst :: p, u, y => match setS a x.1 p u y with | some z => some (z, x.2) | none => none
  | .prod a b, x, .snd :: p, u, y => match setS b x.2 p u y with | some z => some (x.1, z) | none => none
  | .arr _ e, xs, .ix i :: p, u, y => match setS e (xs.getD i e.zero) p u y with | some z => some (xs.set i z) | none => none
  | _, _, _, _, _ => none
theorem Ty.flat_lv : ∀ {t : Ty}, t.flat = true → t.lv = 0
  | .int _, _ => rfl
  | .bool, _ => rfl
  | .str, _ => rfl
  | .unit, _ => rfl
  | .prod a b, h => by simp only [Ty.flat, Bool.and_eq_true] at h; simp [Ty.lv, Ty.flat_lv h.1, Ty.flat_lv h.2]
  | .arr _ e, _ => rfl
  | .map _ _, h => by simp [Ty.flat] at h
  | .fn _ _, _ => rfl
section
variable {w : World} {S : Nat → Prop} {L : Nat → Nat → Prop}
theorem take_take_drop {α : Type} (l : List α) (n m k : Nat) (h : m + k ≤ n) : ((l.take n).drop m).take k = (l.drop m).take k := by
  rw [List.drop_take, List.take_take]; congr 1; omega
theorem Ty.off_le : ∀ {t : Ty} {p : Path} {u : Ty}, t.at p = some u → t.inb p → t.off p + u.sz ≤ t.sz
  | t, [], u, h, _ => by simp [Ty.at] at h; subst h; cases t <;> simp [Ty.off]
  | .prod a b, .fst :: p, u, h, hi => by have := Ty.off_le (t := a) (p := p) h hi; simp only [Ty.off, Ty.sz]; omega
  | .prod a b, .snd :: p, u, h, hi => by have := Ty.off_le (t := b) (p := p) h hi; simp only [Ty.off, Ty.sz]; omega
  | .arr n e, .ix i :: p, u, h, hi => by
    have := Ty.off_le (t := e) (p := p) h hi.2
    simp only [Ty.off, Ty.sz]
    have h1 : (i + 1) * e.sz ≤ n * e.sz := Nat.mul_le_mul_right _ hi.1
    rw [Nat.add_mul] at h1
    omega
theorem Imm.get : ∀ {t : Ty} {x : t.T} {p : Path} {u : Ty} {y : u.T} {cs : List Value}, Imm w S t x cs → getS t x p = .dat u y → t.inb p → t.at p = some u ∧ Imm w S u y ((cs.drop (t.off p)).take u.sz)
  | t, x, [], u, y, cs, h, hg, _ => by
    have e : D.dat t x = .dat u y := by cases t <;> simpa [getS] using hg
    obtain ⟨rfl, e2⟩ := D.dat.inj e
    obtain rfl := eq_of_heq e2
    have hl := h.len
    refine ⟨by cases t <;> rfl, ?_⟩
    have : t.off [] = 0 := by cases t <;> rfl
    rw [this, List.drop_zero, List.take_of_length_le (by omega)]
    exact h
  | .prod a b, x, .fst :: p, u, y, cs, h, hg, hi => by
    simp only [Imm] at h
    obtain ⟨h1, h2⟩ := Imm.get h.1 hg hi
    refine ⟨h1, ?_⟩
    have := Ty.off_le h1 hi
    rw [take_take_drop _ _ _ _ this] at h2
    exact h2
  | .prod a b, x, .snd :: p, u, y, cs, h, hg, hi => by
    simp only [Imm] at h
    obtain ⟨h1, h2⟩ := Imm.get h.2 hg hi
    refine ⟨h1, ?_⟩
    rw [List.drop_drop] at h2
    exact h2
  | .arr n e, xs, .ix i :: p, u, y, cs, h, hg, hi => by
    simp only [Imm] at h
    obtain ⟨hn, hl, he⟩ := h
    have hi1 : i < xs.length := by rw [hn]; exact hi.1
    have hx := he i hi1
    have hg' : getS e (xs.getD i e.zero) p = .dat u y := hg
    rw [List.getD_eq_getElem?_getD, List.getElem?_eq_getElem hi1, Option.getD_some] at hg'
    obtain ⟨h1, h2⟩ := Imm.get hx hg' hi.2
    refine ⟨h1, ?_⟩
    have := Ty.off_le h1 hi.2
    rw [take_take_drop _ _ _ _ this, List.drop_drop] at h2
    exact h2
  | .int _, _, .fst :: _, _, _, _, _, hg, _ => by simp [getS] at hg
  | .int _, _, .snd :: _, _, _, _, _, hg, _ => by simp [getS] at hg
  | .int _, _, .ix _ :: _, _, _, _, _, hg, _ => by simp [getS] at hg
  | .bool, _, .fst :: _, _, _, _, _, hg, _ => by simp [getS] at hg
  | .bool, _, .snd :: _, _, _, _, _, hg, _ => by simp [getS] at hg
  | .bool, _, .ix _ :: _, _, _, _, _, hg, _ => by simp [getS] at hg
  | .str, _, .fst :: _, _, _, _, _, hg, _ => by simp [getS] at hg
  | .str, _, .snd :: _, _, _, _, _, hg, _ => by simp [getS] at hg
  | .str, _, .ix _ :: _, _, _, _, _, hg, _ => by simp [getS] at hg
  | .unit, _, .fst :: _, _, _, _, _, hg, _ => by simp [getS] at hg
  | .unit, _, .snd :: _, _, _, _, _, hg, _ => by simp [getS] at hg
  | .unit, _, .ix _ :: _, _, _, _, _, hg, _ => by simp [getS] at hg
  | .slice _ _, _, .fst :: _, _, _, _, _, hg, _ => by simp [getS] at hg
  | .map _ _, _, .fst :: _, _, _, _, _, hg, _ => by simp [getS] at hg
  | .fn _ _, _, .fst :: _, _, _, _, _, hg, _ => by simp [getS] at hg
  | .slice _ _, _, .snd :: _, _, _, _, _, hg, _ => by simp [getS] at hg
  | .map _ _, _, .snd :: _, _, _, _, _, hg, _ => by simp [getS] at hg
  | .fn _ _, _, .snd :: _, _, _, _, _, hg, _ => by simp [getS] at hg
  | .slice _ _, _, .ix _ :: _, _, _, _, _, hg, _ => by simp [getS] at hg
  | .map _ _, _, .ix _ :: _, _, _, _, _, hg, _ => by simp [getS] at hg
  | .fn _ _, _, .ix _ :: _, _, _, _, _, hg, _ => by simp [getS] at hg
  | .prod _ _, _, .ix _ :: _, _, _, _, _, hg, _ => by simp [getS] at hg
  | .arr _ _, _, .fst :: _, _, _, _, _, hg, _ => by simp [getS] at hg
  | .arr _ _, _, .snd :: _, _, _, _, _, hg, _ => by simp [getS] at hg
theorem Own.of_imm : ∀ {u : Ty} {i : Nat} {y : u.T} {cs : List Value}, u.lv = 0 → Imm w S u y cs → Own w S L i u y cs
| .int _, _, _, _, _, h => by simpa only [Own] using h
| .bool, _, _, _, _, h => by simpa only [Own] using h
| .str, _, _, _, _, h => by simpa only [Own] using h
| .unit, _, _, _, _, h => by simpa only [Own] using h
| .prod a b, _, _, _, hu, h => by
  simp only [Ty.lv, Nat.add_eq_zero_iff] at hu
  simp only [Imm] at h
  simp only [Own]
  exact ⟨Own.of_imm hu.1 h.1, Own.of_imm hu.2 h.2⟩
| .slice _ _, _, _, _, hu, _ => by simp [Ty.lv] at hu
| .map _ _, _, _, _, hu, _ => by simp [Ty.lv] at hu
| .fn _ _, _, _, _, _, h => by simpa only [Own] using h
| .arr _ _, _, _, _, _, h => by simpa only [Own] using h
theorem Own.imm_arr {i n : Nat} {e : Ty} {x : (Ty.arr n e).T} {cs : List Value} (h : Own w S L i (.arr n e) x cs) : Imm w S (.arr n e) x cs := by simpa only [Own] using h
/-- A part of one's own; behind an array's index nothing is of one's own. -/
theorem Own.get : ∀ {t : Ty} {i : Nat} {x : t.T} {p : Path} {u : Ty} {y : u.T} {cs : List Value}, Own w S L i t x cs → getS t x p = .dat u y → t.inb p → (u.lv ≠ 0 → ∀ s ∈ p, ∀ k, s ≠ .ix k) →
    t.at p = some u ∧ Own w S L (i + t.off p) u y ((cs.drop (t.off p)).take u.sz)
  | t, i, x, [], u, y, cs, h, hg, _, _ => by
    have e : D.dat t x = .dat u y := by cases t <;> simpa [getS] using hg
    obtain ⟨rfl, e2⟩ := D.dat.inj e
    obtain rfl := eq_of_heq e2
    have hl := h.len
    refine ⟨by cases t <;> rfl, ?_⟩
    have : t.off [] = 0 := by cases t <;> rfl
    rw [this, List.drop_zero, List.take_of_length_le (by omega)]
    exact h
  | .prod a b, i, x, .fst :: p, u, y, cs, h, hg, hi, hx => by
    simp only [Own] at h
    obtain ⟨h1, h2⟩ := Own.get h.1 hg hi (fun hu s hs => hx hu s (by simp [hs]))
    refine ⟨h1, ?_⟩
    have := Ty.off_le h1 hi
    rw [take_take_drop _ _ _ _ this] at h2
    exact h2
  | .prod a b, i, x, .snd :: p, u, y, cs, h, hg, hi, hx => by
    simp only [Own] at h
    obtain ⟨h1, h2⟩ := Own.get h.2 hg hi (fun hu s hs => hx hu s (by simp [hs]))
    refine ⟨h1, ?_⟩
    rw [List.drop_drop, Nat.add_assoc] at h2
    exact h2
  | .arr n e, i, xs, .ix k :: p, u, y, cs, h, hg, hi, hx => by
    obtain ⟨h1, h2⟩ := Imm.get (p := .ix k :: p) h.imm_arr hg hi
    refine ⟨h1, ?_⟩
    by_cases hu : u.lv = 0
    · exact Own.of_imm hu h2
    · exact absurd rfl (hx hu (.ix k) (by simp) k)
  | .int _, _, _, .fst :: _, _, _, _, _, hg, _, _ => by simp [getS] at hg
  | .int _, _, _, .snd :: _, _, _, _, _, hg, _, _ => by simp [getS] at hg
  | .int _, _, _, .ix _ :: _, _, _, _, _, hg, _, _ => by simp [getS] at hg
  | .bool, _, _, .fst :: _, _, _, _, _, hg, _, _ => by simp [getS] at hg
  | .bool, _, _, .snd :: _, _, _, _, _, hg, _, _ => by simp [getS] at hg
  | .bool, _, _, .ix _ :: _, _, _, _, _, hg, _, _ => by simp [getS] at hg
  | .str, _, _, .fst :: _, _, _, _, _, hg, _, _ => by simp [getS] at hg
  | .str, _, _, .snd :: _, _, _, _, _, hg, _, _ => by simp [getS] at hg
  | .str, _, _, .ix _ :: _, _, _, _, _, hg, _, _ => by simp [getS] at hg
  | .unit, _, _, .fst :: _, _, _, _, _, hg, _, _ => by simp [getS] at hg
  | .unit, _, _, .snd :: _, _, _, _, _, hg, _, _ => by simp [getS] at hg
  | .unit, _, _, .ix _ :: _, _, _, _, _, hg, _, _ => by simp [getS] at hg
  | .slice _ _, _, _, .fst :: _, _, _, _, _, hg, _, _ => by simp [getS] at hg
  | .map _ _, _, _, .fst :: _, _, _, _, _, hg, _, _ => by simp [getS] at hg
  | .fn _ _, _, _, .fst :: _, _, _, _, _, hg, _, _ => by simp [getS] at hg
  | .slice _ _, _, _, .snd :: _, _, _, _, _, hg, _, _ => by simp [getS] at hg
  | .map _ _, _, _, .snd :: _, _, _, _, _, hg, _, _ => by simp [getS] at hg
  | .fn _ _, _, _, .snd :: _, _, _, _, _, hg, _, _ => by simp [getS] at hg
  | .slice _ _, _, _, .ix _ :: _, _, _, _, _, hg, _, _ => by simp [getS] at hg
  | .map _ _, _, _, .ix _ :: _, _, _, _, _, hg, _, _ => by simp [getS] at hg
  | .fn _ _, _, _, .ix _ :: _, _, _, _, _, hg, _, _ => by simp [getS] at hg
  | .prod _ _, _, _, .ix _ :: _, _, _, _, _, hg, _, _ => by simp [getS] at hg
  | .arr _ _, _, _, .fst :: _, _, _, _, _, hg, _, _ => by simp [getS] at hg
  | .arr _ _, _, _, .snd :: _, _, _, _, _, hg, _, _ => by simp [getS] at hg
theorem Own.to_imm : ∀ {u : Ty} {i : Nat} {y : u.T} {cs : List Value}, u.lv = 0 → Own w S L i u y cs → Imm w S u y cs
  | .int _, _, _, _, _, h => by simpa only [Own] using h
  | .bool, _, _, _, _, h => by simpa only [Own] using h
  | .str, _, _, _, _, h => by simpa only [Own] using h
  | .unit, _, _, _, _, h => by simpa only [Own] using h
  | .prod a b, _, _, _, hu, h => by
    simp only [Ty.lv, Nat.add_eq_zero_iff] at hu
    simp only [Own] at h
    simp only [Imm]
    exact ⟨Own.to_imm hu.1 h.1, Own.to_imm hu.2 h.2⟩
  | .slice _ _, _, _, _, hu, _ => by simp [Ty.lv] at hu
  | .map _ _, _, _, _, hu, _ => by simp [Ty.lv] at hu
  | .fn _ _, _, _, _, _, h => by simpa only [Own] using h
  | .arr _ _, _, _, _, _, h => by simpa only [Own] using h
def splice (cs : List Value) (o : Nat) (ds : List Value) : List Value := cs.take o ++ ds ++ cs.drop (o + ds.length)
theorem splice_len {cs ds : List Value} {o : Nat} (h : o + ds.length ≤ cs.length) : (splice cs o ds).length = cs.length := by simp [splice]; omega
theorem splice_at {cs ds : List Value} {o : Nat} (h : o + ds.length ≤ cs.length) (j : Nat) : (splice cs o ds)[j]? = if j < o then cs[j]? else if j < o + ds.length then ds[j - o]? else cs[j]? := by
  unfold splice
  split
  · rename_i h1
    rw [List.append_assoc, List.getElem?_append_left (by simp; omega), List.getElem?_take_of_lt h1]
  · rename_i h1
    split
    · rename_i h2
      rw [List.append_assoc, List.getElem?_append_right (by simp; omega), List.getElem?_append_left (by simp; omega)]
      congr 1; simp; omega
    · rename_i h2
      rw [List.getElem?_append_right (by simp; omega), List.getElem?_drop]
      congr 1; simp; omega
theorem splice_take_of {cs ds : List Value} {o n : Nat} (h : o + ds.length ≤ n) (hn : n ≤ cs.length) : (splice cs o ds).take n = splice (cs.take n) o ds := by
  apply List.ext_getElem?; intro j
  rw [splice_at (by simp; omega), List.getElem?_take, splice_at (by omega)]
  by_cases hj : j < n
  · simp [hj]
  · simp only [hj, if_false]
    rw [if_neg (by omega), if_neg (by omega)]
    simp; omega
theorem splice_drop_of {cs ds : List Value} {o n : Nat} (h : o + ds.length ≤ n) (hn : n ≤ cs.length) : (splice cs o ds).drop n = cs.drop n := by
  apply List.ext_getElem?; intro j
  rw [List.getElem?_drop, splice_at (by omega), if_neg (by omega), if_neg (by omega), List.getElem?_drop]
theorem splice_take_le {cs ds : List Value} {o n : Nat} (h : n ≤ o) (hn : o + ds.length ≤ cs.length) : (splice cs o ds).take n = cs.take n := by
  apply List.ext_getElem?; intro j
  rw [List.getElem?_take, List.getElem?_take, splice_at hn]
  by_cases hj : j < n
  · rw [if_pos hj, if_pos hj, if_pos (by omega)]
  · rw [if_neg hj, if_neg hj]
theorem splice_drop_le {cs ds : List Value} {o n : Nat} (h : n ≤ o) (hn : o + ds.length ≤ cs.length) : (splice cs o ds).drop n = splice (cs.drop n) (o - n) ds := by
  apply List.ext_getElem?; intro j
  rw [List.getElem?_drop, splice_at hn, splice_at (by simp; omega), List.getElem?_drop]
  by_cases h1 : n + j < o
  · rw [if_pos h1, if_pos (show j < o - n by omega)]
  · rw [if_neg h1, if_neg (show ¬ j < o - n by omega)]
    by_cases h2 : n + j < o + ds.length
    · rw [if_pos h2, if_pos (show j < o - n + ds.length by omega)]; congr 1; omega
    · rw [if_neg h2, if_neg (show ¬ j < o - n + ds.length by omega)]
theorem splice_all {cs ds : List Value} (h : ds.length = cs.length) : splice cs 0 ds = ds := by simp [splice]; omega
theorem splice_block {cs ds : List Value} {o sz i j : Nat} (ho : o + ds.length ≤ sz) (hij : i ≠ j) (hc : i * sz + sz ≤ cs.length) : ((splice cs (i * sz + o) ds).drop (j * sz)).take sz = (cs.drop (j * sz)).take sz := by
  rcases Nat.lt_or_gt_of_ne hij with h | h
  · have h1 : (i + 1) * sz ≤ j * sz := Nat.mul_le_mul_right _ h
    rw [Nat.add_mul] at h1
    by_cases h3 : j * sz ≤ cs.length
    · rw [splice_drop_of (by omega) h3]
    · rw [List.drop_eq_nil_of_le (by rw [splice_len (by omega)]; omega), List.drop_eq_nil_of_le (by omega)]
  · have h1 : (j + 1) * sz ≤ i * sz := Nat.mul_le_mul_right _ h
    rw [Nat.add_mul] at h1
    rw [splice_drop_le (by omega) (by omega), splice_take_le (by omega) (by simp; omega)]
theorem splice_block_same {cs ds : List Value} {o sz i : Nat} (ho : o + ds.length ≤ sz) (hc : i * sz + sz ≤ cs.length) : ((splice cs (i * sz + o) ds).drop (i * sz)).take sz = splice ((cs.drop (i * sz)).take sz) o ds := by
  rw [splice_drop_le (by omega) (by omega), splice_take_of (by omega) (by simp; omega)]
  congr 1; omega
theorem set_at : ∀ {t : Ty} {x : t.T} {p : Path} {u : Ty} {y : u.T} {z : t.T}, setS t x p u y = some z → t.at p = some u
  | t, x, [], u, y, z, h => by
    have h' : (if h : u = t then some (castT h y) else none) = some z := by cases t <;> simpa only [setS] using h
    split at h'
    · rename_i e; subst e; cases u <;> rfl
    · cases h'
  | .prod a b, x, .fst :: p, u, y, z, h => by
    simp only [setS] at h
    split at h
    · rename_i q hq; exact set_at (t := a) hq
    · cases h
  | .prod a b, x, .snd :: p, u, y, z, h => by
    simp only [setS] at h
    split at h
    · rename_i q hq; exact set_at (t := b) hq
    · cases h
  | .arr n e, x, .ix i :: p, u, y, z, h => by
    simp only [setS] at h
    split at h
    · rename_i q hq; exact set_at (t := e) hq
    · cases h
  | .int _, _, .fst :: _, _, _, _, h => by simp [setS] at h
  | .int _, _, .snd :: _, _, _, _, h => by simp [setS] at h
  | .int _, _, .ix _ :: _, _, _, _, h => by simp [setS] at h
  | .bool, _, .fst :: _, _, _, _, h => by simp [setS] at h
  | .bool, _, .snd :: _, _, _, _, h => by simp [setS] at h
  | .bool, _, .ix _ :: _, _, _, _, h => by simp [setS] at h
  | .str, _, .fst :: _, _, _, _, h => by simp [setS] at h
  | .str, _, .snd :: _, _, _, _, h => by simp [setS] at h
  | .str, _, .ix _ :: _, _, _, _, h => by simp [setS] at h
  | .unit, _, .fst :: _, _, _, _, h => by simp [setS] at h
  | .unit, _, .snd :: _, _, _, _, h => by simp [setS] at h
  | .unit, _, .ix _ :: _, _, _, _, h => by simp [setS] at h
  | .slice _ _, _, .fst :: _, _, _, _, h => by simp [setS] at h
  | .map _ _, _, .fst :: _, _, _, _, h => by simp [setS] at h
  | .fn _ _, _, .fst :: _, _, _, _, h => by simp [setS] at h
  | .slice _ _, _, .snd :: _, _, _, _, h => by simp [setS] at h
  | .map _ _, _, .snd :: _, _, _, _, h => by simp [setS] at h
  | .fn _ _, _, .snd :: _, _, _, _, h => by simp [setS] at h
  | .slice _ _, _, .ix _ :: _, _, _, _, h => by simp [setS] at h
  | .map _ _, _, .ix _ :: _, _, _, _, h => by simp [setS] at h
  | .fn _ _, _, .ix _ :: _, _, _, _, h => by simp [setS] at h
  | .prod _ _, _, .ix _ :: _, _, _, _, h => by simp [setS] at h
  | .arr _ _, _, .fst :: _, _, _, _, h => by simp [setS] at h
  | .arr _ _, _, .snd :: _, _, _, _, h => by simp [setS] at h
theorem Imm.set : ∀ {t : Ty} {x : t.T} {p : Path} {u : Ty} {y : u.T} {z : t.T} {cs ds : List Value}, Imm w S t x cs → setS t x p u y = some z → t.inb p → Imm w S u y ds → Imm w S t z (splice cs (t.off p) ds)
  | t, x, [], u, y, z, cs, ds, h, hs, _, hd => by
    have h' : (if h : u = t then some (castT h y) else none) = some z := by cases t <;> simpa only [setS] using hs
    split at h'
    · rename_i e; subst e
      obtain rfl := Option.some.inj h'
      have : u.off [] = 0 := by cases u <;> rfl
      rw [this, splice_all (by rw [hd.len, h.len])]
      exact hd
    · cases h'
  | .prod a b, x, .fst :: p, u, y, z, cs, ds, h, hs, hi, hd => by
    simp only [setS] at hs
    split at hs
    · rename_i q hq
      obtain rfl := Option.some.inj hs
      have hl := h.len
      have h1 := Ty.off_le (set_at hq) hi
      have h2 := hd.len
      simp only [Ty.sz] at hl
      simp only [Imm, Ty.off] at h ⊢
      rw [splice_take_of (by omega) (by omega), splice_drop_of (by omega) (by omega)]
      exact ⟨Imm.set h.1 hq hi hd, h.2⟩
    · cases hs
  | .prod a b, x, .snd :: p, u, y, z, cs, ds, h, hs, hi, hd => by
    simp only [setS] at hs
    split at hs
    · rename_i q hq
      obtain rfl := Option.some.inj hs
      have hl := h.len
      have h1 := Ty.off_le (set_at hq) hi
      have h2 := hd.len
      simp only [Ty.sz] at hl
      simp only [Imm, Ty.off] at h ⊢
      rw [splice_take_le (by omega) (by omega), splice_drop_le (by omega) (by omega), Nat.add_sub_cancel_left]
      exact ⟨h.1, Imm.set h.2 hq hi hd⟩
    · cases hs
  | .arr n e, xs, .ix i :: p, u, y, z, cs, ds, h, hs, hi, hd => by
    simp only [setS] at hs
    split at hs
    · rename_i q hq
      obtain rfl := Option.some.inj hs
      simp only [Imm] at h ⊢
      obtain ⟨hn, hl, he⟩ := h
      have h1 := Ty.off_le (set_at (t := e) hq) hi.2
      have h2 := hd.len
      have hi1 : i < xs.length := by rw [hn]; exact hi.1
      have h3 : (i + 1) * e.sz ≤ n * e.sz := Nat.mul_le_mul_right _ hi.1
      rw [Nat.add_mul] at h3
      have hoff : (Ty.arr n e).off (.ix i :: p) = i * e.sz + e.off p := rfl
      rw [hoff]
      refine ⟨by simp [hn], by rw [splice_len (by omega), hl], fun j hj => ?_⟩
      have hj' : j < xs.length := by simpa using hj
      by_cases hij : i = j
      · subst hij
        rw [splice_block_same (by omega) (by omega)]
        have hx := he i hi1
        rw [List.getD_eq_getElem?_getD, List.getElem?_eq_getElem hi1, Option.getD_some] at hq
        have := Imm.set hx hq hi.2 hd
        simpa using this
      · rw [splice_block (by omega) hij (by omega)]
        have := he j hj'
        simpa [List.getElem_set_ne hij] using this
    · cases hs
  | .int _, _, .fst :: _, _, _, _, _, _, _, h, _, _ => by simp [setS] at h
  | .int _, _, .snd :: _, _, _, _, _, _, _, h, _, _ => by simp [setS] at h
  | .int _, _, .ix _ :: _, _, _, _, _, _, _, h, _, _ => by simp [setS] at h
  | .bool, _, .fst :: _, _, _, _, _, _, _, h, _, _ => by simp [setS] at h
  | .bool, _, .snd :: _, _, _, _, _, _, _, h, _, _ => by simp [setS] at h
  | .bool, _, .ix _ :: _, _, _, _, _, _, _, h, _, _ => by simp [setS] at h
  | .str, _, .fst :: _, _, _, _, _, _, _, h, _, _ => by simp [setS] at h
  | .str, _, .snd :: _, _, _, _, _, _, _, h, _, _ => by simp [setS] at h
  | .str, _, .ix _ :: _, _, _, _, _, _, _, h, _, _ => by simp [setS] at h
  | .unit, _, .fst :: _, _, _, _, _, _, _, h, _, _ => by simp [setS] at h
  | .unit, _, .snd :: _, _, _, _, _, _, _, h, _, _ => by simp [setS] at h
  | .unit, _, .ix _ :: _, _, _, _, _, _, _, h, _, _ => by simp [setS] at h
  | .slice _ _, _, .fst :: _, _, _, _, _, _, _, h, _, _ => by simp [setS] at h
  | .map _ _, _, .fst :: _, _, _, _, _, _, _, h, _, _ => by simp [setS] at h
  | .fn _ _, _, .fst :: _, _, _, _, _, _, _, h, _, _ => by simp [setS] at h
  | .slice _ _, _, .snd :: _, _, _, _, _, _, _, h, _, _ => by simp [setS] at h
  | .map _ _, _, .snd :: _, _, _, _, _, _, _, h, _, _ => by simp [setS] at h
  | .fn _ _, _, .snd :: _, _, _, _, _, _, _, h, _, _ => by simp [setS] at h
  | .slice _ _, _, .ix _ :: _, _, _, _, _, _, _, h, _, _ => by simp [setS] at h
  | .map _ _, _, .ix _ :: _, _, _, _, _, _, _, h, _, _ => by simp [setS] at h
  | .fn _ _, _, .ix _ :: _, _, _, _, _, _, _, h, _, _ => by simp [setS] at h
  | .prod _ _, _, .ix _ :: _, _, _, _, _, _, _, h, _, _ => by simp [setS] at h
  | .arr _ _, _, .fst :: _, _, _, _, _, _, _, h, _, _ => by simp [setS] at h
  | .arr _ _, _, .snd :: _, _, _, _, _, _, _, h, _, _ => by simp [setS] at h
theorem Own.set : ∀ {t : Ty} {i : Nat} {x : t.T} {p : Path} {u : Ty} {y : u.T} {z : t.T} {cs ds : List Value}, Own w S L i t x cs → setS t x p u y = some z → t.inb p → (u.lv ≠ 0 → ∀ s ∈ p, ∀ k, s ≠ .ix k) → Own w S L (i + t.off p) u y ds →
    Own w S L i t z (splice cs (t.off p) ds)
  | t, i, x, [], u, y, z, cs, ds, h, hs, _, _, hd => by
    have h' : (if h : u = t then some (castT h y) else none) = some z := by cases t <;> simpa only [setS] using hs
    split at h'
    · rename_i e; subst e
      obtain rfl := Option.some.inj h'
      have : u.off [] = 0 := by cases u <;> rfl
      rw [this, splice_all (by rw [hd.len, h.len])]
      rw [this] at hd
      exact hd
    · cases h'
  | .prod a b, i, x, .fst :: p, u, y, z, cs, ds, h, hs, hi, hx, hd => by
    simp only [setS] at hs
    split at hs
    · rename_i q hq
      obtain rfl := Option.some.inj hs
      have hl := h.len
      have h1 := Ty.off_le (set_at hq) hi
      have h2 := hd.len
      simp only [Ty.sz] at hl
      simp only [Own, Ty.off] at h hd ⊢
      rw [splice_take_of (by omega) (by omega), splice_drop_of (by omega) (by omega)]
      exact ⟨Own.set h.1 hq hi (fun hu s hs => hx hu s (by simp [hs])) hd, h.2⟩
    · cases hs
  | .prod a b, i, x, .snd :: p, u, y, z, cs, ds, h, hs, hi, hx, hd => by
    simp only [setS] at hs
    split at hs
    · rename_i q hq
      obtain rfl := Option.some.inj hs
      have hl := h.len
      have h1 := Ty.off_le (set_at hq) hi
      have h2 := hd.len
      simp only [Ty.sz] at hl
      simp only [Own, Ty.off] at h hd ⊢
      rw [splice_take_le (by omega) (by omega), splice_drop_le (by omega) (by omega), Nat.add_sub_cancel_left]
      rw [← Nat.add_assoc] at hd
      exact ⟨h.1, Own.set h.2 hq hi (fun hu s hs => hx hu s (by simp [hs])) hd⟩
    · cases hs
  | .arr n e, i, xs, .ix k :: p, u, y, z, cs, ds, h, hs, hi, hx, hd => by
    by_cases hu : u.lv = 0
    · have := Imm.set (p := .ix k :: p) h.imm_arr hs hi (Own.to_imm hu hd)
      simpa only [Own] using this
    · exact absurd rfl (hx hu (.ix k) (by simp) k)
  | .int _, _, _, .fst :: _, _, _, _, _, _, _, h, _, _, _ => by simp [setS] at h
  | .int _, _, _, .snd :: _, _, _, _, _, _, _, h, _, _, _ => by simp [setS] at h
  | .int _, _, _, .ix _ :: _, _, _, _, _, _, _, h, _, _, _ => by simp [setS] at h
  | .bool, _, _, .fst :: _, _, _, _, _, _, _, h, _, _, _ => by simp [setS] at h
  | .bool, _, _, .snd :: _, _, _, _, _, _, _, h, _, _, _ => by simp [setS] at h
  | .bool, _, _, .ix _ :: _, _, _, _, _, _, _, h, _, _, _ => by simp [setS] at h
  | .str, _, _, .fst :: _, _, _, _, _, _, _, h, _, _, _ => by simp [setS] at h
  | .str, _, _, .snd :: _, _, _, _, _, _, _, h, _, _, _ => by simp [setS] at h
  | .str, _, _, .ix _ :: _, _, _, _, _, _, _, h, _, _, _ => by simp [setS] at h
  | .unit, _, _, .fst :: _, _, _, _, _, _, _, h, _, _, _ => by simp [setS] at h
  | .unit, _, _, .snd :: _, _, _, _, _, _, _, h, _, _, _ => by simp [setS] at h
  | .unit, _, _, .ix _ :: _, _, _, _, _, _, _, h, _, _, _ => by simp [setS] at h
  | .slice _ _, _, _, .fst :: _, _, _, _, _, _, _, h, _, _, _ => by simp [setS] at h
  | .map _ _, _, _, .fst :: _, _, _, _, _, _, _, h, _, _, _ => by simp [setS] at h
  | .fn _ _, _, _, .fst :: _, _, _, _, _, _, _, h, _, _, _ => by simp [setS] at h
  | .slice _ _, _, _, .snd :: _, _, _, _, _, _, _, h, _, _, _ => by simp [setS] at h
  | .map _ _, _, _, .snd :: _, _, _, _, _, _, _, h, _, _, _ => by simp [setS] at h
  | .fn _ _, _, _, .snd :: _, _, _, _, _, _, _, h, _, _, _ => by simp [setS] at h
  | .slice _ _, _, _, .ix _ :: _, _, _, _, _, _, _, h, _, _, _ => by simp [setS] at h
  | .map _ _, _, _, .ix _ :: _, _, _, _, _, _, _, h, _, _, _ => by simp [setS] at h
  | .fn _ _, _, _, .ix _ :: _, _, _, _, _, _, _, h, _, _, _ => by simp [setS] at h
  | .prod _ _, _, _, .ix _ :: _, _, _, _, _, _, _, h, _, _, _ => by simp [setS] at h
  | .arr _ _, _, _, .fst :: _, _, _, _, _, _, _, h, _, _, _ => by simp [setS] at h
  | .arr _ _, _, _, .snd :: _, _, _, _, _, _, _, h, _, _, _ => by simp [setS] at h
end
end Go.Proofs.Ytmjijggkdbiijaa
/- Slots of a function's frame as data; what a world holds of them. No statement is proved here. -/
namespace Go.Proofs.Ytmjijggkdbiijaa
open Go.RowKit
set_option linter.unusedVariables false
set_option linter.unusedSimpArgs false
def D.agg : D → Bool
  | .dat t _ => t.agg
  | _ => false
def D.mk (d : D) (cs : List Value) : Value := if d.agg then .agg cs.toArray else cs.getD 0 undef
def D.ok : D → Prop
  | .dat t x => t.ok x
  | .clo _ caps => caps.ok
  | .bnd _ fs => fs.ok
  | .ref d => d.ok
  | .nl => True
  | .cn d ds => d.ok ∧ ds.ok
/-- No memory hangs on it. -/
def D.flat : D → Bool
  | .dat t _ => t.flat
  | _ => false
def RepC (w : World) (S : Nat → Prop) : D → List Value → Prop
  | .dat t x, cs => Imm w S t x cs
  | .clo f caps, cs => ∃ vs, cs = [.func (.func f) #[] vs.toArray] ∧ RepC w S caps vs
  | .bnd f fs, cs => ∃ vs, cs = [.func (.func f) vs.toArray #[]] ∧ RepC w S fs vs
  | .ref d, cs => ∃ g o ds, cs = [.pointer (some ⟨g, o, none⟩)] ∧ S g ∧ w.rangeAt g o ds ∧ RepC w S d ds
  | .nl, cs => cs = []
  | .cn d ds, cs => ∃ c1 vs, cs = d.mk c1 :: vs ∧ RepC w S d c1 ∧ RepC w S ds vs
def RepV (w : World) (S : Nat → Prop) (d : D) (v : Value) : Prop := ∃ cs, RepC w S d cs ∧ v = d.mk cs
theorem RepC.keep {w w' : World} {S S' : Nat → Prop} (hS : ∀ g, S g → S' g ∧ w'.heap[g]? = w.heap[g]?) : ∀ {d : D} {cs : List Value}, RepC w S d cs → RepC w' S' d cs
  | .dat t x, _, h => Imm.keep hS h
  | .clo f caps, cs, h => by
    obtain ⟨vs, h1, h2⟩ := h
    exact ⟨vs, h1, RepC.keep hS h2⟩
  | .bnd f fs, cs, h => by
    obtain ⟨vs, h1, h2⟩ := h
    exact ⟨vs, h1, RepC.keep hS h2⟩
  | .ref d, cs, h => by
    obtain ⟨g, o, ds, h1, h2, h3, h4⟩ := h
    exact ⟨g, o, ds, h1, (hS g h2).1, rangesame h3 (hS g h2).2, RepC.keep hS h4⟩
  | .nl, _, h => h
  | .cn d ds, cs, h => by
    obtain ⟨c1, vs, h1, h2, h3⟩ := h
    exact ⟨c1, vs, h1, RepC.keep hS h2, RepC.keep hS h3⟩
theorem RepV.keep {w w' : World} {S S' : Nat → Prop} (hS : ∀ g, S g → S' g ∧ w'.heap[g]? = w.heap[g]?) {d : D} {v : Value} (h : RepV w S d v) : RepV w' S' d v := by
  obtain ⟨cs, h1, h2⟩ := h
  exact ⟨cs, RepC.keep hS h1, h2⟩
theorem RepC.ok {w : World} {S : Nat → Prop} : ∀ {d : D} {cs : List Value}, RepC w S d cs → d.ok
  | .dat t x, _, h => Imm.ok h
  | .clo f caps, cs, h => by
    obtain ⟨vs, h1, h2⟩ := h
    exact RepC.ok (d := caps) h2
  | .bnd f fs, cs, h => by
    obtain ⟨vs, h1, h2⟩ := h
    exact RepC.ok (d := fs) h2
  | .ref d, cs, h => by
    obtain ⟨g, o, ds, h1, h2, h3, h4⟩ := h
    exact RepC.ok (d := d) h4
  | .nl, _, h => trivial
  | .cn d ds, cs, h => by
    obtain ⟨c1, vs, h1, h2, h3⟩ := h
    exact ⟨RepC.ok h2, RepC.ok h3⟩
/-- The parts of a call's answer. -/
inductive Comp where
  | dead
  | val (d : D)
  | own (t : Ty) (x : t.T)
/-- Something that lies in blocks of its own, told by a predicate: of the blocks that nobody writes, of its own ones, of the world, of the value. -/
structure Thg where
  P : (Nat → Prop) → (Nat → Prop) → World → Value → Prop
  keep : ∀ {S S' B B' : Nat → Prop} {w w' : World} {v : Value}, (∀ g, S g → S' g ∧ w'.heap[g]? = w.heap[g]?) → (∀ g, B g → B' g ∧ w'.heap[g]? = w.heap[g]?) → P S B w v → P S' B' w' v
/-- The type that stands for it. -/
def semT : Ty := .slice 999999999 .unit
/-- A slot: nothing known; a value; data of one's own; a variable in memory, its content not or wholly or but for a hole of one's own; a map of one's own whose slice at one key is taken out; a bool, true only if p; an address in such a variable, in a slice's element; a value that lies elsewhere; an answer of several parts. -/
inductive Slot where
  | dead
  | val (d : D)
  | own (t : Ty) (x : t.T)
  | box (d : D)
  | boxo (t : Ty) (x : t.T)
  | boxh (t : Ty) (x : t.T) (p : Path)
  | isnil (p : Prop)
  | mhole (k e : Ty) (x : (Ty.map k e).T) (y : k.T)
  | adr (M : Nat) (p : Path)
  | elt (M : Nat) (p : Path) (i : Nat) (q : Path)
  | frm (M : Nat) (p : Path)
  | sub (M : Nat) (p : Path) (l h : Nat)
  | sem (A : Thg)
  | tup (cs : List Comp)
abbrev Lab := Nat → Option (Nat × Nat × Nat)
def nilV : Value := .slice none 0 0
section
variable (lab : Lab) (w : World)
/-- The blocks that nobody writes. -/
def Fz (g : Nat) : Prop := lab g = none ∧ g < w.heap.size
def Lb (N k : Nat) (o g : Nat) : Prop := lab g = some (N, k, o + 1)
def CompOk (N k : Nat) : Comp → Value → Prop
  | .dead, _ => True
  | .val d, v => RepV w (Fz lab w) d v
  | .own t x, v => ∃ cs, v = t.mk cs ∧ Own w (Fz lab w) (Lb lab N k) 0 t x cs
/-- The type of what lies behind a pointer in a slot. -/
def Slot.rty : Slot → Option Ty
  | .box (.dat t _) => some t
  | .boxo t _ => some t
  | .boxh t _ _ => some t
  | .val (.ref (.dat t _)) => some t
  | _ => none
def Slot.vty : Slot → Option Ty
  | .val (.dat t _) => some t
  | .own t _ => some t
  | .mhole k e _ _ => some (.map k e)
  | .sem _ => some semT
  | _ => none
/-- The place (M, p) holds these cells, of type u. -/
def Holds (σ : List Slot) (tmps : Array Value) (M : Nat) (p : Path) (u : Ty) (cs : List Value) : Prop :=
  cs.length = u.sz ∧
  ((∃ g o t, tmps.getD M undef = .pointer (some ⟨g, o, none⟩) ∧ (σ.getD M .dead).rty = some t ∧ t.inb p ∧ t.at p = some u ∧ w.rangeAt g (o + t.off p) cs) ∨
   (p = [] ∧ u.flat = false ∧ (σ.getD M .dead).vty = some u ∧ tmps.getD M undef = u.mk cs))
def SlotOk (σ : List Slot) (tmps : Array Value) (N : Nat) : Slot → Value → Prop
  | .dead, _ => True
  | .val d, v => RepV w (Fz lab w) d v
  | .own t x, v => ∃ cs, v = t.mk cs ∧ Own w (Fz lab w) (Lb lab N 0) 0 t x cs
  | .box d, v => ∃ g ty cs, v = .pointer (some ⟨g, 0, none⟩) ∧ lab g = some (N, 0, 0) ∧ w.heap[g]? = some (.cells cs.toArray ty (0, 0)) ∧ RepC w (Fz lab w) d cs
  | .boxo t x, v => ∃ g ty cs, v = .pointer (some ⟨g, 0, none⟩) ∧ lab g = some (N, 0, 0) ∧ w.heap[g]? = some (.cells cs.toArray ty (0, 0)) ∧ Own w (Fz lab w) (Lb lab N 0) 0 t x cs
  | .boxh t x p, v => ∃ g ty cs, v = .pointer (some ⟨g, 0, none⟩) ∧ lab g = some (N, 0, 0) ∧ w.heap[g]? = some (.cells cs.toArray ty (0, 0)) ∧ t.off p < cs.length ∧
      Own w (Fz lab w) (Lb lab N 0) 0 t x (splice cs (t.off p) [nilV])
  | .isnil p, v => ∃ b : Bool, v = .bool b ∧ (b = true → p)
  | .mhole k e x y, v => ∃ (b : Nat) (xs : List (k.T × e.T)) (es : Array MapEntry) (ck : Nat), x = some xs ∧ v = .map (some b) ∧ lab b = some (N, 0, 1) ∧ w.heap[b]? = some (.map es ck) ∧ es.size = xs.length ∧ xs.Pairwise (fun p q => p.1 ≠ q.1) ∧
      (∀ (i i' : Nat) (hi : i < xs.length) (hi' : i' < xs.length) (en en' : MapEntry) (g : Nat), xs[i].1 ≠ y → xs[i'].1 ≠ y → es[i]? = some en → es[i']? = some en' → en.val.ownBlock = some g → en'.val.ownBlock = some g → i = i') ∧
      ∀ i (h : i < xs.length), ∃ (en : MapEntry) (kc : List Value), es[i]? = some en ∧ en.key = k.mk kc ∧ Imm w (Fz lab w) k xs[i].1 kc ∧ (xs[i].1 ≠ y → ∃ vc, en.val = e.mk vc ∧ OwnE w (Fz lab w) (Lb lab N 0 0) e xs[i].2 vc)
  | .adr M p, v => ∃ g o t u, tmps.getD M undef = .pointer (some ⟨g, o, none⟩) ∧ (σ.getD M .dead).rty = some t ∧ t.inb p ∧ t.at p = some u ∧ v = .pointer (some ⟨g, o + t.off p, none⟩)
  | .elt M p i q, v => ∃ te e u g o len c, Holds w σ tmps M p (.slice te e) [.slice (some ⟨g, o, none⟩) len c] ∧ i < len ∧ e.inb q ∧ e.at q = some u ∧ v = .pointer (some ⟨g, o + (i * e.sz + e.off q), none⟩)
  | .frm M p, v => ∃ u cs, Holds w σ tmps M p u cs ∧ v = u.mk cs
  | .sub M p l h, v => ∃ te e A len c, Holds w σ tmps M p (.slice te e) [.slice A len c] ∧ (l ≤ h ∧ h ≤ len ∧ len ≤ c) ∧ v = .slice (if c = l then A else A.map (·.add (l * e.sz))) (h - l) (c - l)
  | .sem A, v => A.P (Fz lab w) (fun g => ∃ m, lab g = some (N, 0, m + 1)) w v
  | .tup cs, v => ∃ vs : List Value, v = .tuple vs.toArray ∧ vs.length = cs.length ∧ ∀ k c u, cs[k]? = some c → vs[k]? = some u → CompOk lab w N (k + 1) c u
end
def Slot.root : Slot → Option Nat
  | .adr M _ => some M
  | .elt M _ _ _ => some M
  | .frm M _ => some M
  | .sub M _ _ _ => some M
  | _ => none
def Slot.ok : Slot → Prop
  | .val d => d.ok
  | .own t x => t.ok x
  | .box d => d.ok
  | .boxo t x => t.ok x
  | .boxh t x _ => t.ok x
  | _ => True
/-- What else stays as it was while a call runs. -/
structure Fr (w0 : World) (K : Nat → Prop) (w : World) : Prop where
  os : w.os = w0.os
  tape : w.tape = w0.tape
  output : w.output = w0.output
  size : w0.heap.size ≤ w.heap.size
  keep : ∀ g, K g → w.heap[g]? = w0.heap[g]?
structure Sim (w0 : World) (K : Nat → Prop) (lab : Lab) (σ : List Slot) (a : Act) (w : World) : Prop where
  len : σ.length = a.tmps.size
  nd : a.defers = []
  slots : ∀ N, SlotOk lab w σ a.tmps N (σ.getD N .dead) (a.tmps.getD N undef)
  lt : ∀ g p, lab g = some p → g < w.heap.size
  kl : ∀ g p, lab g = some p → ¬ K g
  kb : ∀ g, K g → g < w0.heap.size
  fr : Fr w0 K w
/-- Worlds and labels turn, but not what hangs on slot N. -/
structure Kp (lab lab' : Lab) (w w' : World) (N : Nat) : Prop where
  S : ∀ g, Fz lab w g → Fz lab' w' g ∧ w'.heap[g]? = w.heap[g]?
  L : ∀ g k o, lab g = some (N, k, o) → lab' g = some (N, k, o) ∧ w'.heap[g]? = w.heap[g]?
/-- What hangs on slot M may stay. -/
structure Rk (lab : Lab) (w w' : World) (σ σ' : List Slot) (tmps tmps' : Array Value) (M : Nat) : Prop where
  S : ∀ g, Fz lab w g → w'.heap[g]? = w.heap[g]?
  L : ∀ g, lab g = some (M, 0, 0) → w'.heap[g]? = w.heap[g]?
  rty : (σ'.getD M .dead).rty = (σ.getD M .dead).rty
  vty : (σ'.getD M .dead).vty = (σ.getD M .dead).vty
  tmp : tmps'.getD M undef = tmps.getD M undef
theorem Holds.keep {lab : Lab} {w w' : World} {σ σ' : List Slot} {tmps tmps' : Array Value} {M : Nat} {p : Path} {u : Ty} {cs : List Value} (h : Holds w σ tmps M p u cs)
    (hM : SlotOk lab w σ tmps M (σ.getD M .dead) (tmps.getD M undef)) (hk : Rk lab w w' σ σ' tmps tmps' M) : Holds w' σ' tmps' M p u cs := by
  refine ⟨h.1, ?_⟩
  rw [hk.rty, hk.vty, hk.tmp]
  rcases h.2 with ⟨g, o, t, h1, h2, h3, h4, h5⟩ | h2
  · refine .inl ⟨g, o, t, h1, h2, h3, h4, ?_⟩
    generalize σ.getD M .dead = s at h2 hM
    rw [h1] at hM
    have hs : w'.heap[g]? = w.heap[g]? := by
      cases s with
      | box d => obtain ⟨g', ty, cs', e, hl, _⟩ := hM; simp only [Value.pointer.injEq, Option.some.injEq, Addr.mk.injEq] at e; obtain ⟨rfl, _⟩ := e; exact hk.L _ hl
      | boxo t' x => obtain ⟨g', ty, cs', e, hl, _⟩ := hM; simp only [Value.pointer.injEq, Option.some.injEq, Addr.mk.injEq] at e; obtain ⟨rfl, _⟩ := e; exact hk.L _ hl
      | boxh t' x q => obtain ⟨g', ty, cs', e, hl, _⟩ := hM; simp only [Value.pointer.injEq, Option.some.injEq, Addr.mk.injEq] at e; obtain ⟨rfl, _⟩ := e; exact hk.L _ hl
      | val d =>
        cases d with
        | ref d' =>
          obtain ⟨cs', ⟨g', o', ds, rfl, hg, _⟩, e⟩ := hM
          simp [D.mk, D.agg] at e
          obtain ⟨rfl, rfl⟩ := e
          exact hk.S _ hg
        | _ => simp [Slot.rty] at h2
      | _ => simp [Slot.rty] at h2
    exact rangesame h5 hs
  · exact .inr h2
theorem SlotOk.keep {lab lab' : Lab} {w w' : World} {σ σ' : List Slot} {tmps tmps' : Array Value} {N : Nat} {s : Slot} {v : Value} (h : SlotOk lab w σ tmps N s v) (hk : Kp lab lab' w w' N)
    (hr : ∀ M, s.root = some M → SlotOk lab w σ tmps M (σ.getD M .dead) (tmps.getD M undef) ∧ Rk lab w w' σ σ' tmps tmps' M) : SlotOk lab' w' σ' tmps' N s v := by
  have hL : ∀ k i g, Lb lab N k i g → Lb lab' N k i g ∧ w'.heap[g]? = w.heap[g]? := fun k i g hg => hk.L g k _ hg
  cases s with
  | dead => trivial
  | val d => exact RepV.keep hk.S h
  | own t x =>
    obtain ⟨cs, h1, h2⟩ := h
    exact ⟨cs, h1, h2.keep hk.S (hL 0)⟩
  | box d =>
    obtain ⟨g, ty, cs, h1, h2, h3, h4⟩ := h
    exact ⟨g, ty, cs, h1, (hk.L _ _ _ h2).1, (hk.L _ _ _ h2).2.trans h3, h4.keep hk.S⟩
  | boxo t x =>
    obtain ⟨g, ty, cs, h1, h2, h3, h4⟩ := h
    exact ⟨g, ty, cs, h1, (hk.L _ _ _ h2).1, (hk.L _ _ _ h2).2.trans h3, h4.keep hk.S (hL 0)⟩
  | boxh t x p =>
    obtain ⟨g, ty, cs, h1, h2, h3, h4, h5⟩ := h
    exact ⟨g, ty, cs, h1, (hk.L _ _ _ h2).1, (hk.L _ _ _ h2).2.trans h3, h4, h5.keep hk.S (hL 0)⟩
  | isnil p => exact h
  | mhole k e x y =>
    obtain ⟨b, xs, es, ck, h1, h2, h3, h4, h5, h6, h7, h8⟩ := h
    refine ⟨b, xs, es, ck, h1, h2, (hk.L _ _ _ h3).1, (hk.L _ _ _ h3).2.trans h4, h5, h6, h7, fun i hi => ?_⟩
    obtain ⟨en, kc, q1, q2, q3, q4⟩ := h8 i hi
    exact ⟨en, kc, q1, q2, q3.keep hk.S, fun hy => by
      obtain ⟨vc, r1, r2⟩ := q4 hy
      exact ⟨vc, r1, r2.keep hk.S (hL 0 0)⟩⟩
  | adr M p =>
    obtain ⟨_, hk⟩ := hr M rfl
    obtain ⟨g, o, t, u, h1, h2, h3⟩ := h
    exact ⟨g, o, t, u, by rw [hk.tmp]; exact h1, by rw [hk.rty]; exact h2, h3⟩
  | elt M p i q =>
    obtain ⟨k2, hk'⟩ := hr M rfl
    obtain ⟨te, e, u, g, o, len, c, h1, h2⟩ := h
    exact ⟨te, e, u, g, o, len, c, h1.keep k2 hk', h2⟩
  | frm M p =>
    obtain ⟨k2, hk'⟩ := hr M rfl
    obtain ⟨u, cs, h1, h2⟩ := h
    exact ⟨u, cs, h1.keep k2 hk', h2⟩
  | sub M p l hh =>
    obtain ⟨k2, hk'⟩ := hr M rfl
    obtain ⟨te, e, A, len, c, h1, h2⟩ := h
    exact ⟨te, e, A, len, c, h1.keep k2 hk', h2⟩
  | sem A => exact A.keep hk.S (fun g ⟨m, hg⟩ => ⟨⟨m, (hk.L g _ _ hg).1⟩, (hk.L g _ _ hg).2⟩) h
  | tup cs =>
    obtain ⟨vs, h1, h2, h3⟩ := h
    refine ⟨vs, h1, h2, fun k c u hc hu => ?_⟩
    have h4 := h3 k c u hc hu
    cases c with
    | dead => trivial
    | val d => exact RepV.keep hk.S h4
    | own t x =>
      obtain ⟨ds, h5, h6⟩ := h4
      exact ⟨ds, h5, h6.keep hk.S (hL (k + 1))⟩
theorem SlotOk.ok {lab : Lab} {w : World} {σ : List Slot} {tmps : Array Value} {N : Nat} {s : Slot} {v : Value} (h : SlotOk lab w σ tmps N s v) : s.ok := by
  cases s with
  | val d => obtain ⟨cs, h1, _⟩ := h; exact h1.ok
  | own t x => obtain ⟨cs, _, h1⟩ := h; exact h1.ok
  | box d => obtain ⟨g, ty, cs, _, _, _, h1⟩ := h; exact h1.ok
  | boxo t x => obtain ⟨g, ty, cs, _, _, _, h1⟩ := h; exact h1.ok
  | boxh t x p => obtain ⟨g, ty, cs, _, _, _, _, h1⟩ := h; exact h1.ok
  | _ => trivial
def app (σ : List Slot) (ws : List (Nat × Slot)) : List Slot := ws.foldl (fun σ x => σ.set x.1 x.2) σ
end Go.Proofs.Ytmjijggkdbiijaa
/- What an operation does to slots; the condition that a function's code asks. No statement is proved here. -/
namespace Go.Proofs.Ytmjijggkdbiijaa
open Go.RowKit
set_option linter.unusedVariables false
set_option linter.unusedSimpArgs false
/-- Reading slots. -/
inductive RM (α : Type) where
  | ret (a : α)
  | fail
  | get (n : Nat) (k : Slot → RM α)
def RM.bind {α β : Type} : RM α → (α → RM β) → RM β
  | .ret a, f => f a
  | .fail, _ => .fail
  | .get n k, f => .get n fun s => (k s).bind f
instance : Monad RM where
  pure := RM.ret
  bind := RM.bind
def RM.run {α : Type} (σ : List Slot) : RM α → Option α
  | .ret a => some a
  | .fail => none
  | .get n k => (k (σ.getD n .dead)).run σ
def RM.reads {α : Type} (σ : List Slot) : RM α → List Nat
  | .ret _ => []
  | .fail => []
  | .get n k => n :: (k (σ.getD n .dead)).reads σ
def RM.of {α : Type} : Option α → RM α
  | some a => .ret a
  | none => .fail
def RM.slot (n : Nat) : RM Slot := .get n .ret
inductive Arg where
  | imm (d : D)
  | own (t : Ty) (x : t.T)
  | sem (A : Thg)
abbrev Wr := List (Nat × Slot)
/-- What is lent to be written: slot M's content at a path. -/
structure Lent where
  M : Nat
  p : Path
  t : Ty
  x : t.T
  s : Slot
/-- What an operation does: it asks pre, lays fact, writes; or it calls. -/
inductive Eff where
  | pure (pre fact : List Prop) (ws : Wr)
  | call (f : Nat) (args : List Arg) (l : List (Bool × Ty)) (dst : Nat) (ws : Wr) (flat : Bool)
  | callc (f : Nat) (args : List Arg) (l : List (Bool × Ty)) (dst : Nat) (mv ws : Wr)
  | callb (f : Nat) (q : Lent) (args : List Arg) (l : List (Bool × Ty)) (dst : Option Nat) (ws : Wr)
  | calls (m : Option Nat) (M : Nat) (A : Thg) (args : List Arg) (l : List (Bool × Ty)) (dst : Nat) (fz ws : Wr)
  | callr (f : Nat) (args : List Arg) (dst : Nat) (ws : Wr)
def RTup : List (Bool × Ty) → Type
  | [] => Unit
  | [(_, t)] => t.T
  | (_, t) :: b :: l => t.T × RTup (b :: l)
/-- Data that a closure holds, as pointers to them. -/
def refsD : (c : Ty) → c.T → D
  | .prod a b, x => .cn (.ref (.dat a x.1)) (refsD b x.2)
  | _, _ => .nl
def Ty.cloD : (t : Ty) → t.T → Option D
  | .fn f c, x => some (.clo f (refsD c x))
  | _, _ => none
def compOf (o : Bool) (t : Ty) (x : t.T) : Comp := match t.cloD x with
  | some d => .val d
  | none => if o then .own t x else .val (.dat t x)
def compsOf : (l : List (Bool × Ty)) → RTup l → List Comp
  | [], _ => []
  | [(o, t)], x => [compOf o t x]
  | (o, t) :: b :: l, x => compOf o t x.1 :: compsOf (b :: l) x.2
def Comp.slot : Comp → Slot
  | .dead => .dead
  | .val d => .val d
  | .own t x => .own t x
def slotOf (l : List (Bool × Ty)) (r : RTup l) : Slot :=
  match compsOf l r with
  | [c] => c.slot
  | cs => .tup cs
structure LoopInv where
  /-- all slots that are written -/
  hv : List Nat
  T : Type
  sl : T → Wr
  inv : T → Prop
  mu : T → Nat
structure Ctx where
  /-- how many fields a struct has -/
  nf : Nat → Nat
  /-- types that are data -/
  ty : Nat → Option Ty
  /-- types of functions -/
  fn : Nat → Bool
  /-- a function's answer -/
  res : Nat → Option (List (Bool × Ty))
  /-- types of several cells that are compared -/
  eq : Nat → Bool
  /-- values that are read behind their region -/
  live : List Nat
  inv : Nat → List Slot → Option LoopInv
  /-- functions that write what their first argument holds, and give it back -/
  bk : Nat → Bool
  /-- functions that take one argument for their own: which one -/
  cs : Nat → Option Nat
def D.as (t : Ty) : D → Option t.T
  | .dat u x => if h : u = t then some (castT h x) else none
  | _ => none
def constSlot (ty : Option Ty) : Value → RM Slot
  | .bool b => .ret (.val (.dat .bool b))
  | .int k n => if loK k ≤ n ∧ n ≤ hiK k then .ret (.val (.dat (.int k) n)) else .fail
  | .string s => if s.size ≤ 1000 then .ret (.val (.dat .str s)) else .fail
  | .slice none 0 0 => match ty with
    | some (.slice te e) => .ret (.own (.slice te e) [])
    | _ => .fail
  | _ => .fail
def opv (ty : Option Ty) : Operand → RM Slot
  | .tmp n => .slot n
  | .const v => constSlot ty v
  | .func f => .ret (.val (.clo f .nl))
  | .global _ => .fail
/-- A part of a list of data that hang on nothing. -/
def subD (l h : Nat) : D → RM D
  | .dat (.slice te e) xs => if e.flat then .ret (.dat (.slice te e) ((xs.take h).drop l)) else .fail
  | _ => .fail
/-- The datum in a slot, to be read. -/
def asD : Slot → RM D
  | .val d => .ret d
  | .own t x => .ret (.dat t x)
  | .frm M p => .get M fun
    | .own t x => .ret (getS t x p)
    | .boxo t x => .ret (getS t x p)
    | .box (.dat t x) => .ret (getS t x p)
    | .val (.dat t x) => .ret (getS t x p)
    | _ => .fail
  | .sub M p l h => .get M fun
    | .own t x => subD l h (getS t x p)
    | .boxo t x => subD l h (getS t x p)
    | .box (.dat t x) => subD l h (getS t x p)
    | .val (.dat t x) => subD l h (getS t x p)
    | _ => .fail
  | _ => .fail
def rdD (ty : Option Ty) (x : Operand) : RM D := do asD (← opv ty x)
def rdT (t : Ty) (x : Operand) : RM t.T := do RM.of ((← rdD (some t) x).as t)
def rdInt (x : Operand) : RM (IntKind × Int) := do
  match ← rdD none x with
  | .dat (.int k) n => .ret (k, n)
  | _ => .fail
/-- No slot's value can hang on this one. -/
def Slot.idle : Slot → Bool
  | .dead | .adr .. | .elt .. | .frm .. | .sub .. | .tup _ | .isnil _ => true
  | .val (.dat t _) => t.flat
  | .val (.clo _ _) | .val (.bnd _ _) | .val .nl | .val (.cn _ _) => true
  | .val (.ref (.dat _ _)) => false
  | .val (.ref _) => true
  | _ => false
/-- The slots among C that hang on slot M: they die. -/
def killOf (M : Nat) : List Nat → RM Wr
  | [] => .ret []
  | c :: C => .get c fun s => do
    let r ← killOf M C
    .ret (if s.root = some M then (c, .dead) :: r else r)
/-- May slot N hang on slot M? A code in C says that it never does. -/
def Cm (C : List Nat) (M N : Nat) : Bool := !C.contains (10000000 + 1000 * M + N)
/-- Slot N is to be written anew. -/
def free (C : List Nat) (N : Nat) : RM Wr := .get N fun s => if s.idle then .ret [] else killOf N (C.filter fun c => c != N && Cm C N c)
def frees (C : List Nat) : Wr → RM Wr
  | [] => .ret []
  | (M, .dead) :: ws => do
    let r ← frees C ws
    .ret (r ++ (← free C M))
  | _ :: ws => frees C ws
def put (C : List Nat) (o : Oper) (s : Slot) (ws : Wr := []) (pre fact : List Prop := []) : RM Eff :=
  match o.dst with
  | some N => if s.root = some N || ws.any (·.1 == N) then .fail else do
    let kk ← frees C ws
    let ks ← free C N
    .ret (.pure pre fact (ws ++ kk ++ ks ++ [(N, s)]))
  | none => .fail
/-- A slot's value, taken over: is it of one's own; the datum; what becomes of the places if it goes over, if it is shared. -/
structure Tk where
  own : Bool
  d : D
  mv : Wr
  fz : Wr
def takeAt (n : Nat) : Slot → RM Tk
  | .val d => .ret ⟨false, d, [], []⟩
  | .own t x => .ret ⟨true, .dat t x, [(n, .dead)], [(n, .val (.dat t x))]⟩
  | .frm M p => .get M fun
    | .own t x => if p = [] then .ret ⟨true, .dat t x, [(n, .dead), (M, .dead)], [(n, .val (.dat t x)), (M, .val (.dat t x))]⟩ else .fail
    | .val (.dat t x) => .ret ⟨false, getS t x p, [], []⟩
    | .box (.dat t x) => .ret ⟨false, getS t x p, [], []⟩
    | .boxo t x =>
      if p = [] then .ret ⟨true, .dat t x, [(n, .dead), (M, .dead)], [(n, .val (.dat t x)), (M, .box (.dat t x))]⟩
      else match getS t x p with
        | .dat (.slice te e) ys => match setS t x p (.slice te e) [] with
          | some x' => if p.all (fun s => match s with | .ix _ => false | _ => true) then .ret ⟨true, .dat (.slice te e) ys, [(n, .dead), (M, .boxh t x' p)], [(n, .val (.dat (.slice te e) ys)), (M, .box (.dat t x))]⟩ else .fail
          | none => .fail
        | _ => .fail
    | _ => .fail
  | _ => .fail
def take (ty : Option Ty) : Operand → RM Tk
  | .tmp n => .get n fun s => takeAt n s
  | x => do
    match ← opv ty x with
    | .val d => .ret ⟨false, d, [], []⟩
    | .own t x => .ret ⟨true, .dat t x, [], []⟩
    | _ => .fail
def slotD (own : Bool) : D → Slot
  | .dat t x => if own then .own t x else .val (.dat t x)
  | d => .val d
section
variable (Γ : Ctx) (C : List Nat)
def evMove (o : Oper) : Operand → RM Eff
  | .tmp n => .get n fun
    | .val d => put C o (.val d)
    | .own t x => if t.flat then put C o (.val (.dat t x)) else put C o (.frm n [])
    | .frm M p => put C o (.frm M p)
    | .sub M p l h => put C o (.sub M p l h)
    | .sem _ => put C o (.frm n [])
    | .adr M p => put C o (.adr M p)
    | .elt M p i q => put C o (.elt M p i q)
    | .tup cs => put C o (.tup cs) [(n, .dead)]
    | .box (.dat _ _) => put C o (.adr n [])
    | .boxo _ _ => put C o (.adr n [])
    | _ => .fail
  | x => do put C o (← opv (Γ.ty o.type) x)
def nilFn : Operand → Bool
  | .const .nilFunc => true
  | .const (.map none) => true
  | _ => false
/-- Where something told by a predicate lies. -/
def semAt : Operand → RM (Nat × Thg × Wr)
  | .tmp n => .get n fun
    | .sem A => .ret (n, A, [(n, .dead)])
    | .frm M p => if p = [] then .get M fun
        | .sem A => .ret (M, A, [(n, .dead), (M, .dead)])
        | _ => .fail
      else .fail
    | _ => .fail
  | _ => .fail
/-- Does an operand hold such a thing? -/
def isSem : Operand → RM Bool
  | .tmp n => .get n fun
    | .sem _ => .ret true
    | .frm M p => if p = [] then .get M fun
        | .sem _ => .ret true
        | _ => .ret false
      else .ret false
    | _ => .ret false
  | _ => .ret false
def evAssignS (o : Oper) (x : Operand) : RM Eff := do
  let q ← semAt x
  put C o (.sem q.2.1) q.2.2
def evAssign0 (o : Oper) (x : Operand) : RM Eff :=
  if nilFn x then put C o .dead else do
  let k ← take (Γ.ty o.type) x
  put C o (slotD k.own k.d) k.mv
def evAssign (o : Oper) (x : Operand) : RM Eff :=
  if Γ.live.contains 60000000 then do
    let b ← isSem x
    if b then evAssignS C o x else evAssign0 Γ C o x
  else evAssign0 Γ C o x
/-- Where an operand points: a slot and a path in it; or a slice's element. -/
inductive Place where
  | at (M : Nat) (p : Path)
  | el (M : Nat) (p : Path) (i : Nat) (q : Path)
def place : Operand → RM Place
  | .tmp n => .get n fun
    | .box _ => .ret (.at n [])
    | .boxo _ _ => .ret (.at n [])
    | .boxh _ _ _ => .ret (.at n [])
    | .val (.ref _) => .ret (.at n [])
    | .adr M p => .ret (.at M p)
    | .elt M p i q => .ret (.el M p i q)
    | _ => .fail
  | _ => .fail
def sliceIn (M : Nat) (p : Path) : RM D := .get M fun
  | .own t x => .ret (getS t x p)
  | .val (.dat t x) => .ret (getS t x p)
  | .boxo t x => .ret (getS t x p)
  | .box (.dat t x) => .ret (getS t x p)
  | .val (.ref (.dat t x)) => .ret (getS t x p)
  | _ => .fail
/-- What a load gives: a fact, a slot. -/
def loaded (own : Bool) (M : Nat) (p : Path) (d : D) : Slot :=
  if own && !d.flat then .frm M p else .val d
def Ty.fact : (t : Ty) → t.T → List Prop
  | .int k, x => [inR k x]
  | .prod a b, x => a.fact x.1 ++ b.fact x.2
  | .bool, _ => []
  | .unit, _ => []
  | t, x => [t.ok x]
def D.fact : D → List Prop
  | .dat t x => t.fact x
  | _ => []
/-- The type at a place. -/
def Slot.pty (s : Slot) (p : Path) : Option Ty :=
  match s.rty with
  | some t => t.at p
  | none => match s.vty with
    | some t => if p = [] then some t else none
    | none => none
def evLoad (o : Oper) (T : Nat) (x : Operand) : RM Eff := do
  match ← place x with
  | .at M p => .get M fun
    | .box (.dat t y) => if (t.at p).isSome && t.at p == Γ.ty T then put C o (.val (getS t y p)) [] [] (getS t y p).fact else .fail
    | .box (.clo f cs) => if p = [] && Γ.fn T then put C o (.val (.clo f cs)) else .fail
    | .boxo t y => if (t.at p).isSome && t.at p == Γ.ty T then put C o (loaded true M p (getS t y p)) [] [] (getS t y p).fact else .fail
    | .val (.ref (.dat t y)) => if (t.at p).isSome && t.at p == Γ.ty T then put C o (.val (getS t y p)) [] [] (getS t y p).fact else .fail
    | .val (.ref (.clo f cs)) => if p = [] && Γ.fn T then put C o (.val (.clo f cs)) else .fail
    | _ => .fail
  | .el M p i q => do
    match ← sliceIn M p with
    | .dat (.slice te e) ys => if (e.at q).isSome && e.at q == Γ.ty T then put C o (.val (getS e (ys.getD i e.zero) q)) [] [] (getS e (ys.getD i e.zero) q).fact else .fail
    | _ => .fail
/-- A store of a datum at a path of a variable: what the variable is then; does what is of one's own go over, or is it shared? -/
def storeAt (p : Path) (k : Tk) : Slot → Option (Slot × Wr)
  | .box (.dat t x) => match k.d with
    | .dat u y => match setS t x p u y with
      | some z => if k.own && u.lv == t.lv && p.all (fun s => match s with | .ix _ => false | _ => true) then some (.boxo t z, k.mv) else some (.box (.dat t z), k.fz)
      | none => none
    | _ => none
  | .box (.clo _ _) => match k.d with
    | .clo f cs => if p = [] then some (.box (.clo f cs), []) else none
    | _ => none
  | .boxo t x => match k.d with
    | .dat u y => match setS t x p u y with
      | some z =>
        if u.lv == 0 && !k.own then some (.boxo t z, [])
        else if k.own && p.all (fun s => match s with | .ix _ => false | _ => true) then some (.boxo t z, k.mv)
        else if !k.own then some (.box (.dat t z), []) else none
      | none => none
    | _ => none
  | .boxh t x h => match k.d with
    | .dat u y => match setS t x p u y with
      | some z => if p = h ∧ k.own = true ∧ (p.all (fun s => match s with | .ix _ => false | _ => true)) = true ∧ u.sz = 1 then some (.boxo t z, k.mv) else none
      | none => none
    | _ => none
  | _ => none
def killFrm (M : Nat) : List Nat → RM Wr
  | [] => .ret []
  | c :: C => .get c fun s => do
    let r ← killFrm M C
    .ret (match s with | .frm M' _ => if M' = M then (c, .dead) :: r else r | .elt M' _ _ _ => if M' = M then (c, .dead) :: r else r | .sub M' _ _ _ => if M' = M then (c, .dead) :: r else r | _ => r)
/-- A store into an element of a slice of one's own. -/
def storeEl (p : Path) (i : Nat) (q : Path) (d : D) : Slot → Option Slot
  | .own (.slice te e) xs =>
    if p = [] then match d with
      | .dat u y => match setS e (xs.getD i e.zero) q u y with
        | some z => some (.own (.slice te e) (xs.set i z))
        | none => none
      | _ => none
    else none
  | .boxo t X => if p.all (fun s => match s with | .ix _ => false | _ => true) then match getS t X p with
    | .dat (.slice te e) xs => match d with
      | .dat u y => match setS e (xs.getD i e.zero) q u y with
        | some z => match setS t X p (.slice te e) (xs.set i z) with
          | some X' => some (.boxo t X')
          | none => none
        | none => none
      | _ => none
    | _ => none
    else none
  | _ => none
def storeOk (T : Nat) : D → Bool
  | .dat u _ => Γ.ty T == some u
  | .clo _ _ => Γ.fn T
  | _ => false
def evStore (o : Oper) (T : Nat) (x y : Operand) : RM Eff := do
  let k ← take (Γ.ty T) y
  if o.dst.isSome || !storeOk Γ T k.d then .fail else
  match ← place x with
  | .at M p => .get M fun s => match storeAt p k s with
    | some (s', ws) => if ws.any (·.1 == M) then .fail else do
      let kk ← frees C ws
      let ks ← killFrm M (C.filter (Cm C M))
      .ret (.pure [] [] (ws ++ [(M, s')] ++ (kk ++ ks)))
    | none => .fail
  | .el M p i q => .get M fun s => match storeEl p i q k.d s with
    | some s' => if k.fz.any (·.1 == M) then .fail else .ret (.pure [] [] (k.fz ++ [(M, s')]))
    | none => .fail
/-- The path of field k of n. -/
def fldPath (n k : Nat) : Path :=
  if n = 1 then [.fst] else List.replicate k .snd ++ (if k + 1 = n then [] else [.fst])
def evFieldAddr (o : Oper) (T : Nat) (x : Operand) (k : Nat) : RM Eff := do
  match ← place x with
  | .at M p => .get M fun s => match s.rty with
    | some t => match t.at p with
      | some u => if Γ.ty T == some u && k < Γ.nf T then put C o (.adr M (p ++ fldPath (Γ.nf T) k)) else .fail
      | none => .fail
    | none => .fail
  | .el M p i q => .get M fun s => match s.pty p with
    | some (.slice te e) => match e.at q with
      | some u => if Γ.ty T == some u && k < Γ.nf T then put C o (.elt M p i (q ++ fldPath (Γ.nf T) k)) else .fail
      | none => .fail
    | _ => .fail
def evIndexAddr (o : Oper) (T : Nat) (x y : Operand) : RM Eff := do
  let (_, i) ← rdInt y
  match Γ.ty T with
  | some (.arr n e) => do
    match ← place x with
    | .at M p => .get M fun s => match s.rty with
      | some t => if t.at p == some (.arr n e) then put C o (.adr M (p ++ [.ix i.toNat])) [] [0 ≤ i ∧ i < n] else .fail
      | none => .fail
    | .el M p j q => .get M fun s => match s.pty p with
      | some (.slice te e') => if e'.at q == some (.arr n e) then put C o (.elt M p j (q ++ [.ix i.toNat])) [] [0 ≤ i ∧ i < n] else .fail
      | _ => .fail
  | some (.slice te e) => do
    match x with
    | .tmp n => .get n fun
      | .own t xs => match D.as (.slice te e) (.dat t xs) with
        | some ys => put C o (.elt n [] i.toNat []) [] [0 ≤ i ∧ i < (ys.length : Int)]
        | none => .fail
      | .val d => match D.as (.slice te e) d with
        | some ys => put C o (.elt n [] i.toNat []) [] [0 ≤ i ∧ i < (ys.length : Int)]
        | none => .fail
      | .frm M p => do
        match D.as (.slice te e) (← sliceIn M p) with
        | some ys => put C o (.elt M p i.toNat []) [] [0 ≤ i ∧ i < (ys.length : Int)]
        | none => .fail
      | _ => .fail
    | _ => .fail
  | _ => .fail
def eqT : (t : Ty) → t.T → t.T → Option Bool
  | .int _, x, y => some (decide (x = y))
  | .bool, x, y => some (x == y)
  | .unit, _, _ => some true
  | .prod a b, x, y => match eqT a x.1 y.1, eqT b x.2 y.2 with
    | some p, some q => some (p && q)
    | _, _ => none
  | _, _, _ => none
def arith (k : IntKind) (z : Int) (o : Oper) (pre : List Prop := []) : RM Eff := put C o (.val (.dat (.int k) z)) [] (pre ++ [loK k ≤ z ∧ z ≤ hiK k])
def bool (b : Bool) (o : Oper) : RM Eff := put C o (.val (.dat .bool b))
def bitsK : IntKind → Int
  | .i8 | .u8 => 8
  | .i16 | .u16 => 16
  | .i32 | .u32 => 32
  | .i64 | .u64 => 64
def evBin (o : Oper) (op : BinOp) (T : Nat) (x y : Operand) : RM Eff := do
  match ← rdD (Γ.ty T) x, ← rdD (Γ.ty T) y with
  | .dat (.int k) a, .dat (.int k') b => match op with
    | .add => if k = k' then arith C k (a + b) o else .fail
    | .sub => if k = k' then arith C k (a - b) o else .fail
    | .mul => if k = k' then arith C k (a * b) o else .fail
    | .quo => if k = k' then arith C k (a.tdiv b) o [b ≠ 0] else .fail
    | .rem => if k = k' then arith C k (a.tmod b) o [b ≠ 0] else .fail
    | .lss => if k = k' then bool C (decide (a < b)) o else .fail
    | .leq => if k = k' then bool C (decide (a ≤ b)) o else .fail
    | .gtr => if k = k' then bool C (decide (b < a)) o else .fail
    | .geq => if k = k' then bool C (decide (b ≤ a)) o else .fail
    | .eql => if k = k' then bool C (decide (a = b)) o else .fail
    | .neq => if k = k' then bool C (!decide (a = b)) o else .fail
    | .and => if k = k' then arith C k ((a.toNat &&& b.toNat : Nat) : Int) o [0 ≤ a ∧ 0 ≤ b] else .fail
    | .or => if k = k' then arith C k ((a.toNat ||| b.toNat : Nat) : Int) o [0 ≤ a ∧ 0 ≤ b] else .fail
    | .shl => arith C k (a * 2 ^ b.toNat) o [0 ≤ b ∧ b ≤ bitsK k]
    | .shr => arith C k (a / 2 ^ b.toNat) o [0 ≤ b ∧ b ≤ bitsK k]
    | _ => .fail
  | .dat t a, .dat u b =>
    if h : u = t then
      if Γ.ty T = some t ∧ (t.agg = true → Γ.eq T = true) then
        match eqT t a (castT h b) with
        | some r => match op with
          | .eql => bool C r o
          | .neq => bool C (!r) o
          | _ => .fail
        | none => .fail
      else .fail
    else .fail
  | _, _ => .fail
def isNilC : Operand → Bool
  | .const (.slice none _ _) => true
  | _ => false
/-- Is a slice nil? If so, nothing is in it. -/
def evNilEq (o : Oper) (T : Nat) (x : Operand) : RM Eff := do
  match ← rdD (Γ.ty T) x with
  | .dat (.slice te e) xs => if Γ.ty T = some (.slice te e) then put C o (.isnil (xs = [])) else .fail
  | _ => .fail
def evUn (o : Oper) (op : UnOp) (x : Operand) : RM Eff := do
  match op, ← rdD none x with
  | .not, .dat .bool b => bool C (!b) o
  | .neg, .dat (.int k) n => arith C k (-n) o
  | _, _ => .fail
def evConvert (o : Oper) (src dst : Nat) (x : Operand) : RM Eff := do
  match Γ.ty src, Γ.ty dst, ← rdD (Γ.ty src) x with
  | some _, some (.int k), .dat (.int _) n => if Γ.live.contains 999999 then put C o (.val (.dat (.int k) (k.wrap n))) else arith C k n o
  | _, _, _ => .fail
def evPick (o : Oper) (c a b : Operand) : RM Eff := do
  match ← rdT .bool c with
  | true => evMove Γ C o a
  | false => evMove Γ C o b
def evAlloc (o : Oper) (T : Nat) : RM Eff :=
  match Γ.ty T with
  | some t => if t.lv = 0 then put C o (.box (.dat t t.zero)) else put C o (.boxo t t.zero)
  | none => .fail
def evBox (o : Oper) (T : Nat) (x : Operand) : RM Eff := do
  let k ← take (Γ.ty T) x
  match k.own, k.d with
  | true, .dat t y => put C o (.boxo t y) k.mv
  | false, .dat t y => put C o (.box (.dat t y))
  | false, .clo f cs => put C o (.box (.clo f cs))
  | _, _ => .fail
def takes : List (Nat × Operand) → List Ty → RM (List (Nat × Tk))
  | [], _ => .ret []
  | (i, x) :: r, ts => do
    let k ← take ts[i]? x
    .ret ((i, k) :: (← takes r ts))
/-- A struct's fields' types. -/
def fieldsOf : Nat → Ty → List Ty
  | 0, _ => []
  | 1, .prod a .unit => [a]
  | 1, t => [t]
  | n + 1, .prod a b => a :: fieldsOf n b
  | _, _ => []
def fillS (n : Nat) : List (Nat × Tk) → (t : Ty) → t.T → Option t.T
  | [], _, x => some x
  | (i, k) :: r, t, x => if i < n then match k.d with
    | .dat u y => match setS t x (fldPath n i) u y with
      | some z => fillS n r t z
      | none => none
    | _ => none
    else none
def owned : List (Nat × Tk) → List (Nat × Tk)
  | [] => []
  | k :: r => if k.2.own then k :: owned r else owned r
def elems (e : Ty) : List (Nat × Tk) → Nat → Option (List e.T)
  | [], _ => some []
  | (i, k) :: r, j => if i = j then match k.d.as e, elems e r (j + 1) with
    | some y, some ys => some (y :: ys)
    | _, _ => none
    else none
def evBuild (o : Oper) (T : Nat) (parts : List (Nat × Operand)) : RM Eff :=
  match Γ.ty T with
  | some (.arr n e) => if parts.isEmpty then put C o (.val (.dat (.arr n e) (Ty.arr n e).zero)) else do
    let ks ← takes parts (List.replicate n e)
    match elems e ks 0 with
    | some xs => if xs.length = n ∧ e.flat = true ∧ 0 < e.sz then put C o (.val (.dat (.arr n e) xs)) else .fail
    | none => .fail
  | some t => if 0 < Γ.nf T then do
    let n := Γ.nf T
    let ks ← takes parts (if n = 1 then (match t with | .prod a _ => [a] | _ => []) else fieldsOf n t)
    match fillS n ks t t.zero with
    | some x =>
      if t.lv = 0 || !ks.all (fun k => k.2.own || k.2.d.flat) then put C o (.val (.dat t x)) (ks.flatMap (·.2.fz))
      else match owned ks with
        | [] => put C o (.own t x)
        | [k] => put C o (.own t x) k.2.mv
        | _ => put C o (.val (.dat t x)) (ks.flatMap (·.2.fz))
    | none => .fail
    else .fail
  | none => .fail
def evBuildSlice (o : Oper) (T n : Nat) (parts : List (Nat × Operand)) : RM Eff :=
  match Γ.ty T with
  | some (.slice te e) => do
    let ks ← takes parts (List.replicate n e)
    match elems e ks 0 with
    | some xs => if xs.length = n ∧ n * e.sz ≤ 16777216 then put C o (.own (.slice te e) xs) (ks.flatMap (·.2.fz)) else .fail
    | none => .fail
  | _ => .fail
def evExtract (o : Oper) (x : Operand) (k : Nat) : RM Eff :=
  match x with
  | .tmp n => .get n fun
    | .tup cs => match cs[k]? with
      | some (.val d) => put C o (.val d)
      | some (.own t y) => put C o (.own t y) [(n, .tup (cs.set k .dead))]
      | _ => .fail
    | _ => .fail
  | _ => .fail
def dsOf : List D → D
  | [] => .nl
  | d :: ds => .cn d (dsOf ds)
/-- The variables that a closure holds: they are not written any more. -/
def captures : List Operand → RM (List (D × Wr))
  | [] => .ret []
  | .tmp n :: r => .get n fun
    | .box d => do .ret ((.ref d, [(n, .val (.ref d))]) :: (← captures r))
    | .boxo t x => do .ret ((.ref (.dat t x), [(n, .val (.ref (.dat t x)))]) :: (← captures r))
    | .val d => do .ret ((d, []) :: (← captures r))
    | _ => .fail
  | _ :: _ => .fail
def evMakeFunc (o : Oper) (fn : Fn) (first captured : List Operand) : RM Eff :=
  match fn, first with
  | .func f, [] => do
    let cs ← captures captured
    put C o (.val (.clo f (dsOf (cs.map (·.1))))) (cs.flatMap (·.2))
  | .func f, x :: xs => if captured.isEmpty then do
    let cs ← captures (x :: xs)
    put C o (.val (.bnd f (dsOf (cs.map (·.1))))) (cs.flatMap (·.2))
    else .fail
  | _, _ => .fail
def D.list : D → List D
  | .cn d ds => d :: ds.list
  | _ => []
def D.chain : D → Bool
  | .nl => true
  | .cn _ ds => ds.chain
  | _ => false
/-- Arguments of a call: is nothing of one's own lent? -/
def argsOf : List Operand → List (Option Ty) → RM (List D × Bool)
  | [], _ => .ret ([], true)
  | .tmp n :: r, ts => do
    let z ← argsOf r (ts.drop 1)
    .get n fun
    | .val d => .ret (d :: z.1, z.2)
    | .own t y => .ret (.dat t y :: z.1, false)
    | .frm M p => do .ret ((← asD (.frm M p)) :: z.1, false)
    | .sub M p l h => do .ret ((← asD (.sub M p l h)) :: z.1, false)
    | .box (.dat t y) => .ret (.ref (.dat t y) :: z.1, false)
    | .boxo t y => .ret (.ref (.dat t y) :: z.1, false)
    | _ => .fail
  | x :: r, ts => do
    let z ← argsOf r (ts.drop 1)
    match ← opv (ts.getD 0 none) x with
    | .val d => .ret (d :: z.1, z.2)
    | .own t y => .ret (.dat t y :: z.1, z.2)
    | _ => .fail
/-- A slice whose elements are read. -/
def takeR (ty : Option Ty) : Operand → RM Tk
  | .tmp n => .get n fun s => match s with
    | .sub M p l h => do
      let d ← asD (.sub M p l h)
      .ret ⟨false, d, [], []⟩
    | s => takeAt n s
  | x => take ty x
def evAppend (o : Oper) (T : Nat) (x y : Operand) : RM Eff :=
  match Γ.ty T with
  | some (.slice te e) => do
    let k ← take (Γ.ty T) x
    let l ← takeR (Γ.ty T) y
    match k.own, k.d.as (.slice te e), l.d.as (.slice te e) with
    | true, some xs, some ys => put C o (.own (.slice te e) (xs ++ ys)) k.mv [xs.length + ys.length ≤ 4294967296]
    | _, _, _ => .fail
  | _ => .fail
def evLen (o : Oper) (t : Ty) (x : Operand) : RM Eff := do
  match ← rdD (some t) x with
  | .dat (.slice te e) xs => if t = .slice te e then put C o (.val (.dat (.int .i64) (xs.length : Int))) [] [] [(xs.length : Int) ≤ 9223372036854775807] else .fail
  | .dat .str s => if t = .str then put C o (.val (.dat (.int .i64) (s.size : Int))) [] [] [(s.size : Int) ≤ 9223372036854775807] else .fail
  | _ => .fail
def evCall (o : Oper) (c : Call) : RM Eff :=
  match c.callee, c.args.toList, o.dst with
  | .builtin .len, [x], _ => match c.argTypes[0]? with
    | some T => match Γ.ty T with
      | some t => evLen C o t x
      | none => .fail
    | none => .fail
  | .builtin .append, [x, y], _ => if c.argTypes = #[c.argTypes.getD 0 0, c.argTypes.getD 0 0] then evAppend Γ C o (c.argTypes.getD 0 0) x y else .fail
  | .value (.func f), xs, some N => do
    let z ← argsOf xs (c.argTypes.toList.map Γ.ty)
    let l ← RM.of (Γ.res f)
    let ks ← free C N
    .ret (.call f (z.1.map .imm) l N ks z.2)
  | .value (.tmp n), xs, some N => .get n fun
    | .val (.clo f caps) => if caps.chain then do
      let z ← argsOf xs (c.argTypes.toList.map Γ.ty)
      let l ← RM.of (Γ.res f)
      let ks ← free C N
      .ret (.call f ((z.1 ++ caps.list).map .imm) l N ks z.2)
      else .fail
    | .val (.bnd f fs) => if fs.chain then do
      let z ← argsOf xs (c.argTypes.toList.map Γ.ty)
      let l ← RM.of (Γ.res f)
      let ks ← free C N
      .ret (.call f ((fs.list ++ z.1).map .imm) l N ks z.2)
      else .fail
    | _ => .fail
  | _, _, _ => .fail
/-- Arguments beside one that is given away: nothing that hangs on the slots X. -/
def argsC (X : List Nat) : List Operand → List (Option Ty) → RM (List D)
  | [], _ => .ret []
  | .tmp n :: r, ts => do
    let z ← argsC X r (ts.drop 1)
    .get n fun
    | .val d => .ret (d :: z)
    | .own t y => if X.contains n then .fail else .ret (.dat t y :: z)
    | .frm M p => if p = [] && !X.contains M then .get M fun
        | .own t y => .ret (.dat t y :: z)
        | _ => .fail
      else .fail
    | _ => .fail
  | x :: r, ts => do
    let z ← argsC X r (ts.drop 1)
    match ← opv (ts.getD 0 none) x with
    | .val d => .ret (d :: z)
    | .own t y => .ret (.dat t y :: z)
    | _ => .fail
def evCallC (o : Oper) (f j : Nat) (c : Call) : RM Eff :=
  match o.dst, c.args.toList.drop j with
  | some N, x :: post => do
    let k ← take (Γ.ty (c.argTypes.getD j 0)) x
    match k.own, k.d with
    | true, .dat t y => do
      let a1 ← argsC (N :: k.mv.map (·.1)) (c.args.toList.take j) (c.argTypes.toList.map Γ.ty)
      let a2 ← argsC (N :: k.mv.map (·.1)) post ((c.argTypes.toList.drop (j + 1)).map Γ.ty)
      let l ← RM.of (Γ.res f)
      if k.mv.any (·.1 == N) then .fail else do
      let kk ← frees C k.mv
      let ks ← free C N
      .ret (.callc f (a1.map .imm ++ .own t y :: a2.map .imm) l N k.mv (kk ++ ks))
    | _, _ => .fail
  | _, _ => .fail
def noIx (p : Path) : Bool := p.all fun s => match s with
  | .ix _ => false
  | _ => true
def lendAt : Operand → RM Lent
  | .tmp n => .get n fun
    | .own t y => .ret ⟨n, [], t, y, .own t y⟩
    | .frm M p => .get M fun
      | .own t y => if p = [] then .ret ⟨M, [], t, y, .own t y⟩ else .fail
      | .boxo T X => if p = [] then .ret ⟨M, [], T, X, .boxo T X⟩ else if noIx p then match getS T X p with
          | .dat (.slice te e) y => .ret ⟨M, p, .slice te e, y, .boxo T X⟩
          | _ => .fail
        else .fail
      | _ => .fail
    | _ => .fail
  | _ => .fail
def putBack (p : Path) (u : Ty) (y : u.T) : Slot → Option Slot
  | .own t x => if p = [] then match setS t x [] u y with
      | some z => some (.own t z)
      | none => none
    else none
  | .boxo T X => match setS T X p u y with
    | some Z => some (.boxo T Z)
    | none => none
  | _ => none
def evCallB (o : Oper) (f : Nat) (c : Call) : RM Eff :=
  match c.args.toList with
  | x :: xs => do
    let q ← lendAt x
    let z ← argsOf xs ((c.argTypes.toList.drop 1).map Γ.ty)
    let l ← RM.of (Γ.res f)
    if z.2 then match o.dst with
      | some N => if N = q.M then .fail else do
        let ks ← free C N
        .ret (.callb f q (z.1.map .imm) l (some N) ks)
      | none => .ret (.callb f q (z.1.map .imm) l none [])
    else .fail
  | [] => .fail
def nodupB : List Nat → Bool
  | [] => true
  | n :: r => !r.contains n && nodupB r
def enum : Nat → List Operand → List (Nat × Operand)
  | _, [] => []
  | n, x :: r => (n, x) :: enum (n + 1) r
/-- A call with such a thing: of a function, as its first argument; or of the thing itself. -/
def evCallS (o : Oper) (m : Option Nat) (x : Operand) (xs : List Operand) (ts : List Nat) : RM Eff := do
  let q ← semAt x
  let ks ← takes (enum 0 xs) (ts.map fun T => (Γ.ty T).getD .unit)
  let l ← RM.of (Γ.res (m.getD 60000000))
  match o.dst with
  | some N => if N = q.1 || (ks.flatMap (·.2.fz)).any (fun e => e.1 == q.1 || e.1 == N) || !nodupB ((ks.flatMap (·.2.fz)).map (·.1)) then .fail else do
    let kk ← free C N
    .ret (.calls m q.1 q.2.1 (ks.map fun k => .imm k.2.d) l N (ks.flatMap (·.2.fz)) kk)
  | none => .fail
def evCallR (o : Oper) (f : Nat) (c : Call) : RM Eff :=
  match o.dst with
  | some N => do
    let z ← argsOf c.args.toList (c.argTypes.toList.map Γ.ty)
    if z.2 then do
      let ks ← free C N
      .ret (.callr f (z.1.map .imm) N ks)
    else .fail
  | none => .fail
def listB {α : Type} (f : α → α → Bool) : List α → List α → Bool
  | [], [] => true
  | a :: r, b :: s => f a b && listB f r s
  | _, _ => false
def keyEq : (t : Ty) → t.T → t.T → Bool
  | .int _, x, y => decide (x = y)
  | .bool, x, y => x == y
  | .str, x, y => decide (x = y)
  | .unit, _, _ => true
  | .prod a b, x, y => keyEq a x.1 y.1 && keyEq b x.2 y.2
  | .arr _ e, xs, ys => listB (keyEq e) xs ys
  | _, _, _ => false
/-- What a map holds at a key. -/
def mget (k e : Ty) (m : Option (List (k.T × e.T))) (y : k.T) : Option e.T := ((m.getD []).find? fun p => keyEq k p.1 y).map (·.2)
def mput (k e : Ty) (xs : List (k.T × e.T)) (y : k.T) (v : e.T) : List (k.T × e.T) :=
  if xs.any (fun p => keyEq k p.1 y) then xs.map (fun p => if keyEq k p.1 y then (p.1, v) else p) else xs ++ [(y, v)]
def evMakeMap (o : Oper) (T : Nat) (r : Option Operand) : RM Eff :=
  match Γ.ty T with
  | some (.map k e) => match r with
    | none => put C o (.own (.map k e) (some ([] : List (k.T × e.T))))
    | some x => do
      let _ ← rdInt x
      put C o (.own (.map k e) (some ([] : List (k.T × e.T))))
  | _ => .fail
def frozenB : Operand → RM Bool
  | .tmp n => .get n fun
    | .val _ => .ret true
    | _ => .ret false
  | _ => .ret false
def mapOwner : Operand → RM Nat
  | .tmp n => .get n fun
    | .own _ _ => .ret n
    | .mhole _ _ _ _ => .ret n
    | .frm M p => if p = [] then .ret M else .fail
    | _ => .fail
  | _ => .fail
def mapOf (k e : Ty) : Slot → Option (List (k.T × e.T))
  | .own t z => match D.as (.map k e) (.dat t z) with
    | some m => m
    | none => none
  | _ => none
def holeOf (k e : Ty) : Slot → Option (List (k.T × e.T) × k.T)
  | .mhole k' e' x y => match D.as k (.dat k' y) with
    | some z => match D.as (.map k e) (.dat (.map k' e') x) with
      | some m => m.map fun xs => (xs, z)
      | none => none
    | none => none
  | _ => none
def ownAt (e : Ty) : Operand → RM (Nat × e.T)
  | .tmp n => .get n fun
    | .own t z => match D.as e (.dat t z) with
      | some v => .ret (n, v)
      | none => .fail
    | _ => .fail
  | _ => .fail
def Ty.isSl : Ty → Bool
  | .slice _ _ => true
  | _ => false
def evLookup (o : Oper) (T : Nat) (x ix : Operand) (ok : Bool) : RM Eff :=
  match Γ.ty T with
  | some (.map k e) => do
    let d ← rdD (Γ.ty T) x
    let fz ← frozenB x
    match D.as (.map k e) d with
    | some m => do
      let y ← rdT k ix
      if e.flat || fz then
        if ok then put C o (.tup [.val (.dat e ((mget k e m y).getD e.zero)), .val (.dat .bool (mget k e m y).isSome)]) [] [] (e.fact ((mget k e m y).getD e.zero))
        else put C o (.val (.dat e ((mget k e m y).getD e.zero))) [] [] (e.fact ((mget k e m y).getD e.zero))
      else do
        let n ← mapOwner x
        if ok || !e.isSl then .fail else
        .get n fun s => match mapOf k e s with
          | some xs => put C o (.own e ((mget k e (some xs) y).getD e.zero)) [(n, .mhole k e (some xs) y)]
          | none => .fail
    | none => .fail
  | _ => .fail
def evMapUpdate (o : Oper) (T : Nat) (m kx x : Operand) : RM Eff :=
  match Γ.ty T with
  | some (.map k e) => do
    let n ← mapOwner m
    let y ← rdT k kx
    if o.dst.isSome then .fail else
    if e.flat then do
      let v ← rdT e x
      .get n fun s => match mapOf k e s with
        | some xs => .ret (.pure [] [] [(n, .own (.map k e) (some (mput k e xs y v)))])
        | none => .fail
    else do
      let q ← ownAt e x
      let kk ← frees C [(q.1, .dead)]
      if q.1 = n || !e.isSl then .fail else
      .get n fun s => match holeOf k e s with
        | some z => .ret (.pure [y = z.2] [] ([(q.1, .dead), (n, .own (.map k e) (some (mput k e z.1 y q.2)))] ++ kk))
        | none => .fail
  | _ => .fail
def max2 (a b : Int) : Int := if a < b then b else a
def min2 (a b : Int) : Int := if b < a then b else a
def mm : Bool → Int → Int → Int
  | true, a, b => max2 a b
  | false, a, b => min2 a b
def evMM (o : Oper) (mx : Bool) (c : Call) : RM Eff :=
  match c.args.toList with
  | [x, y] => do
    match ← rdInt x with
    | (k, a) => match ← rdInt y with
      | (_, b) => put C o (.val (.dat (.int k) (mm mx a b))) [] [loK k ≤ b ∧ b ≤ hiK k]
  | _ => .fail
def rdOr (d : Int) : Option Operand → RM Int
  | some y => do
    let r ← rdInt y
    .ret r.2
  | none => .ret d
/-- A part of a slice that is lent from the slot on which x hangs. -/
def evLent (o : Oper) (T te : Nat) (e : Ty) (x : Operand) (lo hi : Option Operand) : RM Eff :=
  match x with
  | .tmp n => .get n fun
    | .frm M p => do
      match (← asD (.frm M p)).as (.slice te e) with
      | some xs => do
        let l ← rdOr 0 lo
        let h ← rdOr (xs.length : Int) hi
        put C o (.sub M p l.toNat h.toNat) [] [0 ≤ l ∧ l ≤ h ∧ h ≤ (xs.length : Int)]
      | none => .fail
    | _ => .fail
  | _ => .fail
/-- The first elements of a slice of one's own: its place is given away. -/
def evCut (o : Oper) (T te : Nat) (e : Ty) (x : Operand) (lo hi : Option Operand) : RM Eff := do
  let k ← take (Γ.ty T) x
  match k.own, k.d.as (.slice te e), lo with
  | true, some xs, none => do
    let h ← rdOr (xs.length : Int) hi
    put C o (.own (.slice te e) (xs.take h.toNat)) k.mv [0 ≤ h ∧ h ≤ (xs.length : Int)]
  | _, _, _ => .fail
def evSlice (o : Oper) (T : Nat) (x : Operand) (lo hi mx : Option Operand) : RM Eff :=
  match Γ.ty T, mx with
  | some (.slice te e), none => if Γ.live.contains (20000000 + o.dst.getD 0) then evLent C o T te e x lo hi else if Γ.live.contains (30000000 + o.dst.getD 0) then evCut Γ C o T te e x lo hi else do
    let k ← take (Γ.ty T) x
    match k.d.as (.slice te e) with
    | some xs => do
      let l ← rdOr 0 lo
      let h ← rdOr (xs.length : Int) hi
      put C o (.val (.dat (.slice te e) ((xs.take h.toNat).drop l.toNat))) k.fz [0 ≤ l ∧ l ≤ h ∧ h ≤ (xs.length : Int)]
    | none => .fail
  | _, _ => .fail
def evField (o : Oper) (T : Nat) (x : Operand) (k : Nat) : RM Eff := do
  match ← rdD (Γ.ty T) x with
  | .dat t y => if (getS t y (fldPath (Γ.nf T) k)).flat && Γ.ty T == some t && k < Γ.nf T then put C o (.val (getS t y (fldPath (Γ.nf T) k))) [] [] (getS t y (fldPath (Γ.nf T) k)).fact else .fail
  | _ => .fail
def evIndex (o : Oper) (T : Nat) (x y : Operand) : RM Eff := do
  let (_, i) ← rdInt y
  match ← rdD (Γ.ty T) x with
  | .dat (.arr n e) xs => if e.flat && Γ.ty T == some (.arr n e) then put C o (.val (.dat e (xs.getD i.toNat e.zero))) [] [0 ≤ i ∧ i < n] (e.fact (xs.getD i.toNat e.zero)) else .fail
  | .dat .str s => if Γ.ty T = some .str then put C o (.val (.dat (.int .u8) ((s.data.getD i.toNat 0).toNat : Int))) [] [0 ≤ i ∧ i < s.size] else .fail
  | _ => .fail
def evMakeSlice (o : Oper) (T : Nat) (x y : Operand) : RM Eff := do
  let (k, n) ← rdInt x
  let (k', m) ← rdInt y
  match Γ.ty T with
  | some (.slice te e) => if k = .i64 ∧ k' = .i64 then put C o (.own (.slice te e) (List.replicate n.toNat e.zero)) [] [0 ≤ n ∧ n = m ∧ n ≤ 4294967296] else .fail
  | _ => .fail
def evNilCheck (o : Oper) (x : Operand) : RM Eff :=
  match x with
  | .tmp n => .get n fun
    | .val (.clo _ _) => evMove Γ C o x
    | .val (.bnd _ _) => evMove Γ C o x
    | .val (.ref _) => evMove Γ C o x
    | .box _ => evMove Γ C o x
    | .boxo _ _ => evMove Γ C o x
    | .adr _ _ => evMove Γ C o x
    | .elt _ _ _ _ => evMove Γ C o x
    | _ => .fail
  | _ => .fail
def evalNC (o : Oper) : RM Eff :=
  match o.op with
  | .move x => evMove Γ C o x
  | .assign x => evAssign Γ C o x
  | .pick c a b => evPick Γ C o c a b
  | .alloc T => evAlloc Γ C o T
  | .box T x => evBox Γ C o T x
  | .build T ps => evBuild Γ C o T ps.toList
  | .buildSlice T n ps => evBuildSlice Γ C o T n ps.toList
  | .load T x => evLoad Γ C o T x
  | .store T x y => evStore Γ C o T x y
  | .nilCheck x => evNilCheck Γ C o x
  | .binOp op T x y _ => match op, isNilC y with
    | .eql, true => evNilEq Γ C o T x
    | _, _ => evBin Γ C o op T x y
  | .unOp op _ x => evUn C o op x
  | .convert s d x => evConvert Γ C o s d x
  | .makeFunc fn a b => evMakeFunc C o fn a.toList b.toList
  | .makeSlice T x y => evMakeSlice Γ C o T x y
  | .slice T x lo hi mx => evSlice Γ C o T x lo hi mx
  | .fieldAddr T x k => evFieldAddr Γ C o T x k
  | .field T x k => evField Γ C o T x k
  | .indexAddr T x y => evIndexAddr Γ C o T x y
  | .index T x y => evIndex Γ C o T x y
  | .extract x k => evExtract C o x k
  | .makeMap T r => evMakeMap Γ C o T r
  | .lookup T x ix ok => evLookup Γ C o T x ix ok
  | .mapUpdate T m k x => evMapUpdate Γ C o T m k x
  | _ => .fail
def evalOp (o : Oper) : RM Eff :=
  match o.op with
  | .call c => match c.callee with
    | .value (.func f) => if Γ.live.contains (50000000 + f) then match c.args.toList with
        | x :: xs => evCallS Γ C o (some f) x xs (c.argTypes.toList.drop 1)
        | [] => .fail
      else if Γ.live.contains (40000000 + f) then evCallR Γ C o f c
      else if Γ.bk f then evCallB Γ C o f c else match Γ.cs f with
      | some j => evCallC Γ C o f j c
      | none => evCall Γ C o c
    | .builtin .max => evMM C o true c
    | .builtin .min => evMM C o false c
    | .value (.tmp n) => if Γ.live.contains 60000000 then evCallS Γ C o none (.tmp n) c.args.toList c.argTypes.toList else evCall Γ C o c
    | _ => evCall Γ C o c
  | _ => do match ← evalNC Γ C o with
    | .pure pre fact ws => .ret (.pure pre fact ws)
    | _ => .fail
end
end Go.Proofs.Ytmjijggkdbiijaa
/- The condition that a function's code asks, computed from the code. No statement is proved here. -/
namespace Go.Proofs.Ytmjijggkdbiijaa
open Go.RowKit
set_option linter.unusedVariables false
set_option linter.unusedSimpArgs false
def ArgOk (lab : Lab) (w : World) (j : Nat) : Arg → Value → Prop
  | .imm d, v => RepV w (Fz lab w) d v
  | .own t x, v => ∃ cs, v = t.mk cs ∧ Own w (Fz lab w) (Lb lab j 0) 0 t x cs
  | .sem A, v => A.P (Fz lab w) (fun g => ∃ m, lab g = some (j, 0, m + 1)) w v
def Arg.ok : Arg → Prop
  | .imm d => d.ok
  | .own t x => t.ok x
  | .sem _ => True
def Comp.ok : Comp → Prop
  | .dead => True
  | .val d => d.ok
  | .own t x => t.ok x
/-- The answer's parts, as a value holds them. -/
def ResOk (lab : Lab) (w : World) (N : Nat) : List Comp → Value → Prop
  | [c], v => CompOk lab w N 0 c v
  | cs, v => ∃ vs : List Value, v = .tuple vs.toArray ∧ vs.length = cs.length ∧ ∀ k c u, cs[k]? = some c → vs[k]? = some u → CompOk lab w N (k + 1) c u
/-- A slot that no function has: it marks what a call must leave alone. -/
def D0 : Nat := 1000000
/-- A call of f with these data answers these data, whatever lies in memory; of what was there only what it took for its own may turn. -/
def Ev (P : Program) (f : Nat) (args : List Arg) (res : List Comp) : Prop :=
  (∀ vs w, (callFunc f vs).run P w = .ok (.enter f vs) w) ∧
  ∀ (w : World) (lab : Lab) (vs : List Value), (∀ g p, lab g = some p → g < w.heap.size) → vs.length = args.length → (∀ j a v, args[j]? = some a → vs[j]? = some v → ArgOk lab w j a v) →
    Calls P f vs.toArray w fun e w' => ∃ v lab', e = .returned v ∧ Fr w (fun g => g < w.heap.size ∧ (lab g = none ∨ ∃ k m, lab g = some (D0, k, m))) w' ∧ (∀ g, g < w.heap.size → lab g = none → lab' g = none) ∧ (∀ g k m, lab g = some (D0, k, m) → lab' g = some (D0, k, m)) ∧
      (∀ g p, lab' g = some p → g < w'.heap.size) ∧ ResOk lab' w' 0 res v
/-- A slot that no function has: it marks what a call gives back. -/
def B0 : Nat := 1000001
/-- A call of f with a first argument of the caller's own, x, that it may write; when it comes back the argument holds y. -/
def EvB (P : Program) (f : Nat) (t : Ty) (x : t.T) (args : List Arg) (res : List Comp) (y : t.T) : Prop :=
  (∀ vs w, (callFunc f vs).run P w = .ok (.enter f vs) w) ∧
  ∀ (w : World) (lab : Lab) (v0 : Value) (vs : List Value), (∀ g p, lab g = some p → g < w.heap.size) → vs.length = args.length → (∀ j a v, (Arg.own t x :: args)[j]? = some a → (v0 :: vs)[j]? = some v → ArgOk lab w j a v) →
    Calls P f (v0 :: vs).toArray w fun e w' => ∃ v lab', e = .returned v ∧ Fr w (fun g => g < w.heap.size ∧ (lab g = none ∨ ∃ k m, lab g = some (D0, k, m))) w' ∧ (∀ g, g < w.heap.size → lab g = none → lab' g = none) ∧ (∀ g k m, lab g = some (D0, k, m) → lab' g = some (D0, k, m)) ∧
      (∀ g p, lab' g = some p → g < w'.heap.size) ∧ ResOk lab' w' 0 res v ∧ ∃ cs, v0 = t.mk cs ∧ Own w' (Fz lab' w') (Lb lab' B0 0) 0 t y cs
/-- A call of f with v0 ahead; or of the closure v0. -/
def Tgt (P : Program) (m : Option Nat) (v0 : Value) (vs : List Value) (w : World) (Q : Ending → World → Prop) : Prop :=
  match m with
  | some f => (∀ w, (callFunc f (v0 :: vs).toArray).run P w = .ok (.enter f (v0 :: vs).toArray) w) ∧ Calls P f (v0 :: vs).toArray w Q
  | none => ∃ f caps, v0 = .func (.func f) #[] caps ∧ (∀ w, (callFunc f (vs.toArray ++ caps)).run P w = .ok (.enter f (vs.toArray ++ caps)) w) ∧ Calls P f (vs.toArray ++ caps) w Q
/-- A call with something told by a predicate, which is then told by another one. -/
def EvS (P : Program) (m : Option Nat) (A : Thg) (args : List Arg) (res : List Comp) (A' : Thg) : Prop :=
  ∀ (w : World) (lab : Lab) (v0 : Value) (vs : List Value), (∀ g p, lab g = some p → g < w.heap.size) → vs.length = args.length → A.P (Fz lab w) (fun g => ∃ m, lab g = some (0, 0, m + 1)) w v0 → (∀ j a v, args[j]? = some a → vs[j]? = some v → ArgOk lab w (j + 1) a v) →
    Tgt P m v0 vs w fun e w' => ∃ v lab', e = .returned v ∧ Fr w (fun g => g < w.heap.size ∧ (lab g = none ∨ ∃ k m, lab g = some (D0, k, m))) w' ∧ (∀ g, g < w.heap.size → lab g = none → lab' g = none) ∧ (∀ g k m, lab g = some (D0, k, m) → lab' g = some (D0, k, m)) ∧
      (∀ g p, lab' g = some p → g < w'.heap.size) ∧ ResOk lab' w' 0 res v ∧ A'.P (Fz lab' w') (fun g => ∃ m, lab' g = some (B0, 0, m + 1)) w' v0
/-- A call that answers such a thing. -/
def EvR (P : Program) (f : Nat) (args : List Arg) (A : Thg) : Prop :=
  (∀ vs w, (callFunc f vs).run P w = .ok (.enter f vs) w) ∧
  ∀ (w : World) (lab : Lab) (vs : List Value), (∀ g p, lab g = some p → g < w.heap.size) → vs.length = args.length → (∀ j a v, args[j]? = some a → vs[j]? = some v → ArgOk lab w j a v) →
    Calls P f vs.toArray w fun e w' => ∃ v lab', e = .returned v ∧ Fr w (fun g => g < w.heap.size ∧ (lab g = none ∨ ∃ k m, lab g = some (D0, k, m))) w' ∧ (∀ g, g < w.heap.size → lab g = none → lab' g = none) ∧ (∀ g k m, lab g = some (D0, k, m) → lab' g = some (D0, k, m)) ∧
      (∀ g p, lab' g = some p → g < w'.heap.size) ∧ A.P (Fz lab' w') (fun g => ∃ m, lab' g = some (0, 0, m + 1)) w' v
def split (b : Bool) (A B : Prop) : Prop :=
  match b with
  | true => A
  | false => B
theorem split_of {b : Bool} {A B : Prop} (h : b = true → A) (h' : b = false → B) : split b A B := by
  cases b
  · exact h' rfl
  · exact h rfl
def andL : List Prop → Prop → Prop
  | [], X => X
  | p :: ps, X => p ∧ andL ps X
def impL : List Prop → Prop → Prop
  | [], X => X
  | p :: ps, X => p → impL ps X
def factR : (l : List (Bool × Ty)) → RTup l → List Prop
  | [], _ => []
  | [(_, t)], x => t.fact x
  | (_, t) :: b :: l, x => t.fact x.1 ++ factR (b :: l) x.2
/-- No memory of others hangs on it. -/
def Ty.ownFlat : Ty → Bool
  | .slice _ e => e.flat
  | .prod a b => a.ownFlat && b.ownFlat
  | .map k e => k.flat && e.flat
  | t => t.flat
/-- It hangs on nothing. -/
def hangB (C : List Nat) (x : Nat × Slot) : Bool := match x.2.root with
  | none => true
  | some M => C.contains x.1 && Cm C M x.1
/-- An operation that is told by hand: it reads the slots R, and writes ws. -/
def Cust (P : Program) (C : List Nat) (o : Oper) (R : List Nat) (σ : List Slot) (ws : Wr) : Prop :=
  ∀ (τ : List Slot), (∀ n ∈ R, τ.getD n .dead = σ.getD n .dead) → ∀ (w0 : World) (K : Nat → Prop) (lab : Lab) (a : Act) (w : World), Sim w0 K lab τ a w → (∀ N M, (τ.getD N .dead).root = some M → N ∈ C ∧ Cm C M N = true) →
    ∃ v w' lab', ((execOp a.eval o).run P w = .ok (.value v) w' ∨ ((execOp a.eval o).run P w = .ok .skip w' ∧ v = undef)) ∧ Sim w0 K lab' (app τ ws) (a.put o.dst v) w' ∧
      (∀ N M, ((app τ ws).getD N .dead).root = some M → N ∈ C ∧ Cm C M N = true) ∧ ∀ M, (∀ x ∈ ws, x.1 ≠ M) → ∀ g k m, lab g = some (M, k, m) → lab' g = some (M, k, m) ∧ w'.heap[g]? = w.heap[g]?
section
variable (P : Program) (Γ : Ctx) (pr : Nat → Bool)
abbrev Fp := List Nat × List Nat
def custAt (o : Oper) (σ : List Slot) : Option LoopInv := if Γ.live.contains (70000000 + o.dst.getD 999999) then Γ.inv (70000000 + o.dst.getD 999999) σ else none
def stepV (C : List Nat) (o : Oper) (g : List Nat) (K : Fp → List Slot → Prop) (σ : List Slot) : Prop :=
  match custAt Γ o σ with
  | some L => ∃ x : L.T, L.inv x ∧ Cust P C o L.hv σ (L.sl x) ∧ if (L.sl x).all fun y => !pr y.1 then K (g ++ L.hv, (L.sl x).map (·.1)) (app σ (L.sl x)) else False
  | none => match (evalOp Γ C o).run σ with
  | some (.pure pre fact ws) => if ws.all fun x => !pr x.1 && hangB C x then andL pre (impL fact (K (g ++ (evalOp Γ C o).reads σ, ws.map (·.1)) (app σ ws))) else False
  | some (.call f args l dst ws fl) =>
    if (ws.all fun x => !pr x.1) && !pr dst && (fl || l.all fun x => if x.1 then x.2.ownFlat else x.2.flat) then
      ∃ r : RTup l, Ev P f args (compsOf l r) ∧ impL (factR l r) (K (g ++ (evalOp Γ C o).reads σ, ws.map (·.1) ++ [dst]) (app σ (ws ++ [(dst, slotOf l r)])))
    else False
  | some (.callc f args l dst mv ws) =>
    if ((mv ++ ws).all fun x => !pr x.1) && !pr dst && (l.all fun x => if x.1 then x.2.ownFlat else x.2.flat) then
      ∃ r : RTup l, Ev P f args (compsOf l r) ∧ impL (factR l r) (K (g ++ (evalOp Γ C o).reads σ, (mv ++ ws).map (·.1) ++ [dst]) (app σ (mv ++ ws ++ [(dst, slotOf l r)])))
    else False
  | some (.callb f q args l dst ws) =>
    if (ws.all fun x => !pr x.1) && !pr q.M && (dst.toList.all fun n => !pr n) && q.t.ownFlat && (l.all fun x => !x.1 && x.2.flat) then
      ∃ r : RTup l, ∃ y : q.t.T, EvB P f q.t q.x args (compsOf l r) y ∧ match putBack q.p q.t y q.s with
        | some s' => impL (factR l r ++ q.t.fact y) (K (g ++ (evalOp Γ C o).reads σ, q.M :: (ws.map (·.1) ++ dst.toList)) (app σ ((q.M, s') :: (ws ++ dst.toList.map fun n => (n, slotOf l r)))))
        | none => False
    else False
  | some (.calls m M A args l dst fz ws) =>
    if ((fz ++ ws).all fun x => !pr x.1) && !pr M && !pr dst then
      ∃ r : RTup l, ∃ A' : Thg, EvS P m A args (compsOf l r) A' ∧ impL (factR l r) (K (g ++ (evalOp Γ C o).reads σ, (((M, Slot.sem A') :: fz) ++ ws).map (·.1) ++ [dst]) (app σ (((M, .sem A') :: fz) ++ ws ++ [(dst, slotOf l r)])))
    else False
  | some (.callr f args dst ws) =>
    if (ws.all fun x => !pr x.1) && !pr dst then
      ∃ A' : Thg, EvR P f args A' ∧ K (g ++ (evalOp Γ C o).reads σ, ws.map (·.1) ++ [dst]) (app σ (ws ++ [(dst, .sem A')]))
    else False
  | none => False
/-- An operation that is passed over. -/
def skipR (C : List Nat) (o : Oper) : RM Wr :=
  match o.dst with
  | none => .ret []
  | some d => do
    let ks ← free C d
    .ret (ks ++ [(d, .tup [])])
def skipV (C : List Nat) (o : Oper) (g : List Nat) (K : Fp → List Slot → Prop) (σ : List Slot) : Prop :=
  match (skipR C o).run σ with
  | some ws => if ws.all fun x => !pr x.1 then K (g ++ (skipR C o).reads σ, ws.map (·.1)) (app σ ws) else False
  | none => False
def boolAt (x : Operand) (σ : List Slot) : Option Bool :=
  match x with
  | .tmp n => match σ.getD n .dead with
    | .val (.dat .bool b) => some b
    | _ => none
  | _ => none
def nilAt (x : Operand) (σ : List Slot) : Option Prop :=
  match x with
  | .tmp n => match σ.getD n .dead with
    | .isnil p => some p
    | _ => none
  | _ => none
def setB (x : Operand) (b : Bool) (σ : List Slot) : List Slot :=
  match x with
  | .tmp n => if pr n then σ else σ.set n (.val (.dat .bool b))
  | _ => σ
def eqB : Bool → Bool → Bool
  | true, b => b
  | false, b => !b
/-- Which operations come ahead of which, as bits. -/
def edgesM (acc : List Nat) : List Edge → Nat
  | [] => 0
  | e :: r => if Region.binds .any e then (2 ^ e.on ||| acc.getD e.on 0) ||| edgesM acc r else edgesM acc r
def ancs : List Oper → List Nat → List Nat
  | [], acc => acc
  | o :: r, acc => ancs r (acc ++ [edgesM acc o.after.toList])
def edgesOk : Nat → List Oper → Bool
  | _, [] => true
  | j, o :: r => o.after.toList.all (fun e => !Region.binds .any e || Nat.blt e.on j) && edgesOk (j + 1) r
def conf (f g : Fp) : Bool := f.2.any (fun n => g.1.contains n || g.2.contains n) || g.2.any (fun n => f.1.contains n)
def confAll (m : Nat) (g : Fp) : Nat → List Fp → Bool
  | _, [] => true
  | i, f :: r => (!conf f g || m.testBit i) && confAll m g (i + 1) r
def confOk : List Fp → List Nat → List Fp → Bool
  | p, m :: ms, g :: r => confAll m g 0 p && confOk (p ++ [g]) ms r
  | _, _, [] => true
  | _, [], _ :: _ => false
/-- In whatever order the operations come up: the same comes out. -/
def drawnOk (ops : List Oper) (fps : List Fp) : Bool := edgesOk 0 ops && confOk [] (ancs ops []) fps
def opsV (C : List Nat) (ops : Array Oper) (K : List Slot → Prop) (dr : Bool) : List Oper → List Fp → List Slot → Prop
  | [], fps, σ => if dr then (if drawnOk ops.toList fps then K σ else False) else K σ
  | o :: rest, fps, σ =>
    match o.guard with
    | none => stepV P Γ pr C o [] (fun f => opsV C ops K dr rest (fps ++ [f])) σ
    | some (j, want) =>
      match (ops[j]?).bind (·.dst) with
      | some n =>
        match σ.getD n .dead with
        | .val (.dat .bool b) => split (eqB want b) (stepV P Γ pr C o [n] (fun f => opsV C ops K dr rest (fps ++ [f])) (setB pr (.tmp n) want σ)) (skipV pr C o [n] (fun f => opsV C ops K dr rest (fps ++ [f])) (setB pr (.tmp n) (!want) σ))
        | .tup [] => skipV pr C o [n] (fun f => opsV C ops K dr rest (fps ++ [f])) σ
        | _ => False
      | none => False
/-- Can what it gives hang on something? -/
def rooty (o : Oper) : Bool :=
  match o.op with
  | .move _ => !Γ.live.contains 80000000 || match Γ.ty o.type with
    | some t => !t.flat
    | none => true
  | .pick _ _ _ => true
  | .load T _ => match Γ.ty T with
    | some t => !t.flat
    | none => true
  | .fieldAddr _ _ _ => true
  | .indexAddr _ _ _ => true
  | .nilCheck _ => true
  | .slice _ _ _ _ _ => Γ.live.contains (20000000 + o.dst.getD 0)
  | _ => false
def cands (ops : Array Oper) : List Nat := (ops.toList.filter (rooty Γ)).filterMap (·.dst) ++ Γ.live.filter fun n => 10000000 ≤ n
def dstsOf (ops : Array Oper) : List Nat := ops.toList.filterMap (·.dst)
def mapAt (f : Nat → Slot → Slot) : Nat → List Slot → List Slot
  | _, [] => []
  | n, s :: r => f n s :: mapAt f (n + 1) r
/-- What hangs on other slots dies at a region's end. -/
def endSlot (C : List Nat) (n : Nat) (s : Slot) : Slot :=
  match s.root with
  | some _ => if C.contains n && !pr n then .dead else s
  | none => s
/-- A value that is read behind the region is shared with its place. -/
def share (n : Nat) (σ : List Slot) : List Slot :=
  match σ.getD n .dead with
  | .frm M p => match (takeAt n (.frm M p)).run σ with
    | some k => if k.fz.all fun x => !pr x.1 then app σ ((n, .val k.d) :: k.fz.filter (·.1 != n)) else σ
    | none => σ
  | _ => σ
def endReg (C : List Nat) (σ : List Slot) : List Slot := mapAt (endSlot pr C) 0 ((Γ.live.filter fun n => C.contains n && !pr n).foldl (fun σ n => share pr n σ) σ)
def Cod.fst : Code → Nat
  | .region id _ _ => id
  | .seq a _ => Cod.fst a
  | .block _ b => Cod.fst b
  | .loop b => Cod.fst b
  | .cond _ a _ => Cod.fst a
  | .scope b => Cod.fst b
  | _ => 0
def Cod.dsts : Code → List Nat
  | .region _ ops _ => dstsOf ops
  | .seq a b => Cod.dsts a ++ Cod.dsts b
  | .block _ b => Cod.dsts b
  | .loop b => Cod.dsts b
  | .cond _ a b => Cod.dsts a ++ Cod.dsts b
  | .scope b => Cod.dsts b
  | _ => []
def agree (σ : List Slot) : Wr → Prop
  | [] => True
  | [(N, s)] => σ.getD N .dead = s
  | (N, s) :: r => σ.getD N .dead = s ∧ agree σ r
def Slot.fact : Slot → List Prop
  | .val d => d.fact
  | .own t x => t.fact x
  | .box d => d.fact
  | .boxo t x => t.fact x
  | .boxh t x _ => t.fact x
  | _ => []
def factW : Wr → List Prop
  | [] => []
  | (_, s) :: r => s.fact ++ factW r
def dying (H : List Nat) : Wr := H.map fun n => (n, Slot.dead)
def wpc (P : Program) (Γ : Ctx) (pr : Nat → Bool) (Q : Exit → List Slot → Prop) : Code → List Slot → Prop
  | .skip, σ => Q .normal σ
  | .region _ ops dr, σ => opsV P Γ pr (cands Γ ops) ops (fun σ' => Q .normal (endReg Γ pr (cands Γ ops) σ')) dr ops.toList [] σ
  | .seq a b, σ => wpc P Γ pr (fun e σ' => match e with | .normal => wpc P Γ pr Q b σ' | e => Q e σ') a σ
  | .cond c a b, σ =>
    match boolAt c σ with
    | some t => split t (wpc P Γ pr Q a (setB pr c true σ)) (wpc P Γ pr Q b (setB pr c false σ))
    | none => match nilAt c σ with
      | some p => (p → wpc P Γ pr Q a σ) ∧ wpc P Γ pr Q b σ
      | none => False
  | .block id b, σ => wpc P Γ pr (fun e σ' => match e with | .exit id' => if id' = id then Q .normal σ' else Q (.exit id') σ' | e => Q e σ') b σ
  | .loop b, σ =>
    match Γ.inv (Cod.fst b) σ with
    | some L =>
      (∃ x0 : L.T, agree σ (L.sl x0) ∧ L.inv x0) ∧
      ∀ x : L.T, L.inv x → impL (factW (L.sl x)) (if ((L.sl x).all fun p => L.hv.contains p.1) && L.hv.all (fun n => !pr n) then wpc P Γ (fun n => !L.hv.contains n) (fun e σ' => match e with
        | .normal => ∃ x' : L.T, agree σ' (L.sl x') ∧ L.inv x' ∧ L.mu x' < L.mu x
        | e => Q e σ') b (app (app σ (dying L.hv)) (L.sl x)) else False)
    | none => False
  | .exit id, σ => Q (.exit id) σ
  | .ret, σ => Q .ret σ
  | _, _ => False
def Arg.slot : Arg → Slot
  | .imm d => .val d
  | .own t x => .own t x
  | .sem A => .sem A
def Ty.isFn : Ty → Bool
  | .fn _ _ => true
  | _ => false
/-- What a closure holds is told. -/
def capsAre : (c : Ty) → c.T → D → Prop
  | .prod a b, x, .cn (.ref (.dat u y)) ds => (if h : u = a then castT h y = x.1 else False) ∧ capsAre b x.2 ds
  | .unit, _, .nl => True
  | _, _, _ => False
def cloIs : (t : Ty) → t.T → Nat → D → Prop
  | .fn f c, x, f', d => if f' = f then capsAre c x d else False
  | _, _, _, _ => False
/-- A result's slot holds it. -/
def resIs (σ : List Slot) (o : Bool) (t : Ty) (x : t.T) : ResultVar → Prop
  | .tmp n => match σ.getD n .dead with
    | .val (.dat u y) => if h : u = t then (if o && u.lv != 0 || u.isFn then False else castT h y = x) else False
    | .own u y => if h : u = t then (if u.isFn then False else castT h y = x) else False
    | .val (.clo f d) => cloIs t x f d
    | _ => False
  | .cell n T => match σ.getD n .dead with
    | .box (.dat u y) => if h : u = t then (if Γ.ty T = some t then (if o && u.lv != 0 || u.isFn then False else castT h y = x) else False) else False
    | .boxo u y => if h : u = t then (if Γ.ty T = some t then (if u.isFn then False else castT h y = x) else False) else False
    | _ => False
def allRes (σ : List Slot) : (l : List (Bool × Ty)) → RTup l → List ResultVar → Prop
  | [], _, [] => True
  | [(o, t)], x, [v] => resIs Γ σ o t x v
  | (o, t) :: b :: l, x, v :: vs => resIs Γ σ o t x.1 v ∧ allRes σ (b :: l) x.2 vs
  | _, _, _ => False
def rvSlot : ResultVar → Nat
  | .tmp n => n
  | .cell n _ => n
def start (fn : Func) (args : List Arg) : List Slot := args.map Arg.slot ++ List.replicate (fn.ntmps - args.length) .dead
def Arg.fact : Arg → List Prop
  | .imm d => d.fact
  | .own t x => t.fact x
  | .sem _ => []
def fnV (fn : Func) (args : List Arg) (l : List (Bool × Ty)) (r : RTup l) : Prop :=
  match fn.body with
  | some c => impL (args.flatMap Arg.fact) (if nodupB (D0 :: fn.results.toList.map rvSlot) then wpc P Γ (fun n => n == D0) (fun e σ => match e with | .normal => allRes Γ σ l r fn.results.toList | .ret => allRes Γ σ l r fn.results.toList | _ => False) c (start fn args) else False)
  | none => False
/-- The first slot holds what goes back. -/
def backIs (σ : List Slot) (t : Ty) (y : t.T) : Prop :=
  match σ.getD 0 .dead with
  | .own u z => if h : u = t then castT h z = y else False
  | _ => False
def fnVB (fn : Func) (t : Ty) (x : t.T) (args : List Arg) (l : List (Bool × Ty)) (r : RTup l) (y : t.T) : Prop :=
  match fn.body with
  | some c => impL ((Arg.own t x :: args).flatMap Arg.fact) (if nodupB (D0 :: B0 :: 0 :: fn.results.toList.map rvSlot) && !(Cod.dsts c).contains 0 then wpc P Γ (fun n => n == D0) (fun e σ => match e with | .normal => allRes Γ σ l r fn.results.toList ∧ backIs σ t y | .ret => allRes Γ σ l r fn.results.toList ∧ backIs σ t y | _ => False) c (start fn (Arg.own t x :: args)) else False)
  | none => False
def semsIs (σ : List Slot) : List (Nat × Thg) → Prop
  | [] => True
  | p :: r => σ.getD p.1 .dead = .sem p.2 ∧ semsIs σ r
def fnVC (fn : Func) (args : List Arg) (l : List (Bool × Ty)) (r : RTup l) (b : Nat) (A' : Thg) (ps : List (Nat × Thg)) : Prop :=
  match fn.body with
  | some c => impL (args.flatMap Arg.fact) (if nodupB (D0 :: B0 :: b :: fn.results.toList.map rvSlot) && !(Cod.dsts c).contains b && (ps.all fun p => !(Cod.dsts c).contains p.1) then wpc P Γ (fun n => n == D0) (fun e σ => match e with | .normal => allRes Γ σ l r fn.results.toList ∧ semsIs σ ((b, A') :: ps) | .ret => allRes Γ σ l r fn.results.toList ∧ semsIs σ ((b, A') :: ps) | _ => False) c (start fn args) else False)
  | none => False
end
end Go.Proofs.Ytmjijggkdbiijaa
/- One step on slots is a step of the world: what holds of all operations. No statement is proved here. -/
namespace Go.Proofs.Ytmjijggkdbiijaa
open Go.RowKit
set_option linter.unusedVariables false
set_option linter.unusedSimpArgs false
theorem getD_set (σ : List Slot) (n m : Nat) (s : Slot) : (σ.set n s).getD m .dead = if n = m ∧ n < σ.length then s else σ.getD m .dead := by
  simp only [List.getD_eq_getElem?_getD, List.getElem?_set]
  by_cases h : n = m
  · subst h
    by_cases h2 : n < σ.length
    · simp [h2]
    · simp [h2]
  · simp [h]
theorem app_cons (σ : List Slot) (x : Nat × Slot) (ws : Wr) : app σ (x :: ws) = app (σ.set x.1 x.2) ws := rfl
theorem app_append (σ : List Slot) (ws vs : Wr) : app σ (ws ++ vs) = app (app σ ws) vs := by simp [app]
theorem app_len (σ : List Slot) (ws : Wr) : (app σ ws).length = σ.length := by
  induction ws generalizing σ with
  | nil => rfl
  | cons x ws ih => rw [app_cons, ih]; simp
theorem app_out (σ : List Slot) (ws : Wr) (N : Nat) (h : ∀ x ∈ ws, x.1 ≠ N) : (app σ ws).getD N .dead = σ.getD N .dead := by
  induction ws generalizing σ with
  | nil => rfl
  | cons x ws ih =>
    rw [app_cons, ih _ (fun y hy => h y (by simp [hy])), getD_set, if_neg]
    exact fun e => h x (by simp) e.1
theorem app_last (σ : List Slot) (ws : Wr) (N : Nat) (s : Slot) : (app σ (ws ++ [(N, s)])).getD N .dead = if N < σ.length then s else (app σ ws).getD N .dead := by
  rw [app_append]
  show ((app σ ws).set N s).getD N .dead = _
  rw [getD_set, app_len]
  simp
theorem getD_beyond {σ : List Slot} {N : Nat} (h : ¬ N < σ.length) : σ.getD N .dead = .dead := by
  rw [List.getD_eq_getElem?_getD, List.getElem?_eq_none (by omega)]; rfl
/-- A slot among ws: every write there is dead. -/
theorem app_dead (σ : List Slot) (ws : Wr) (N : Nat) (h : ∃ x ∈ ws, x.1 = N) (hd : ∀ x ∈ ws, x.1 = N → x.2 = .dead) : (app σ ws).getD N .dead = .dead := by
  induction ws generalizing σ with
  | nil => obtain ⟨x, hx, _⟩ := h; cases hx
  | cons x ws ih =>
    rw [app_cons]
    by_cases h2 : ∃ y ∈ ws, y.1 = N
    · exact ih _ h2 (fun y hy => hd y (by simp [hy]))
    · rw [app_out _ _ _ (fun y hy e => h2 ⟨y, hy, e⟩), getD_set]
      obtain ⟨y, hy, e⟩ := h
      rcases List.mem_cons.1 hy with rfl | hy
      · by_cases h3 : y.1 < σ.length
        · rw [if_pos ⟨e, h3⟩]; exact hd y (by simp) e
        · rw [if_neg (fun q => h3 q.2), getD_beyond (by rw [← e]; exact h3)]
      · exact absurd ⟨y, hy, e⟩ h2
theorem tmps_put (a : Act) (N M : Nat) (v : Value) : (a.put (some N) v).tmps.getD M undef = if N = M ∧ N < a.tmps.size then v else a.tmps.getD M undef := by
  simp only [Act.put, Array.getD_eq_getD_getElem?, Array.getElem?_setIfInBounds]
  by_cases h : N = M
  · subst h
    by_cases h2 : N < a.tmps.size
    · simp [h2]
    · simp [h2]
  · simp [h]
theorem tmps_none (a : Act) (v : Value) : a.put none v = a := rfl
theorem put_size (a : Act) (o : Option Nat) (v : Value) : (a.put o v).tmps.size = a.tmps.size := by cases o <;> simp [Act.put]
theorem put_defers (a : Act) (o : Option Nat) (v : Value) : (a.put o v).defers = a.defers := by cases o <;> simp [Act.put]
theorem Kp.refl (lab : Lab) (w : World) (N : Nat) : Kp lab lab w w N := ⟨fun g h => ⟨h, rfl⟩, fun g k o h => ⟨h, rfl⟩⟩
theorem Fr.refl (w : World) (K : Nat → Prop) : Fr w K w := ⟨rfl, rfl, rfl, Nat.le_refl _, fun _ _ => rfl⟩
section
variable {w0 : World} {K : Nat → Prop} {lab lab' : Lab} {σ σ' : List Slot} {a a' : Act} {w w' : World}
theorem Sim.upd (h : Sim w0 K lab σ a w) (hl : σ'.length = a'.tmps.size) (hd : a'.defers = []) (hfr : Fr w0 K w') (hlt : ∀ g p, lab' g = some p → g < w'.heap.size) (hkl : ∀ g p, lab' g = some p → ¬ K g)
    (hs : ∀ N, (σ'.getD N .dead = σ.getD N .dead ∧ a'.tmps.getD N undef = a.tmps.getD N undef ∧ Kp lab lab' w w' N ∧
      ∀ M, (σ.getD N .dead).root = some M → Rk lab w w' σ σ' a.tmps a'.tmps M) ∨ SlotOk lab' w' σ' a'.tmps N (σ'.getD N .dead) (a'.tmps.getD N undef)) :
    Sim w0 K lab' σ' a' w' := by
  refine ⟨hl, hd, fun N => ?_, hlt, hkl, h.kb, hfr⟩
  rcases hs N with ⟨e1, e2, k, hr⟩ | h2
  · rw [e1, e2]
    exact (h.slots N).keep k fun M hM => ⟨h.slots M, hr M hM⟩
  · exact h2
/-- What something hangs on hangs on nothing. -/
theorem root_of {s : Slot} {N M : Nat} {v : Value} {tmps : Array Value} (h : SlotOk lab w σ tmps N s v) (hr : s.root = some M) : (σ.getD M .dead).rty ≠ none ∨ ∃ u, (σ.getD M .dead).vty = some u ∧ u.flat = false := by
  cases s with
  | adr M' p =>
    simp only [Slot.root, Option.some.injEq] at hr; subst hr
    obtain ⟨g, o, t, u, _, h2, _⟩ := h
    exact .inl (by rw [h2]; simp)
  | elt M' p i q =>
    simp only [Slot.root, Option.some.injEq] at hr; subst hr
    obtain ⟨te, e, u, g, o, len, c, ⟨_, h1⟩, _⟩ := h
    rcases h1 with ⟨_, _, t, _, h2, _⟩ | ⟨_, h2, h3, _⟩
    · exact .inl (by rw [h2]; simp)
    · exact .inr ⟨_, h3, h2⟩
  | frm M' p =>
    simp only [Slot.root, Option.some.injEq] at hr; subst hr
    obtain ⟨u, cs, ⟨_, h1⟩, _⟩ := h
    rcases h1 with ⟨_, _, t, _, h2, _⟩ | ⟨_, h2, h3, _⟩
    · exact .inl (by rw [h2]; simp)
    · exact .inr ⟨_, h3, h2⟩
  | sub M' p l hh =>
    simp only [Slot.root, Option.some.injEq] at hr; subst hr
    obtain ⟨te, e, A, len, c, ⟨_, h1⟩, _⟩ := h
    rcases h1 with ⟨_, _, t, _, h2, _⟩ | ⟨_, h2, h3, _⟩
    · exact .inl (by rw [h2]; simp)
    · exact .inr ⟨_, h3, h2⟩
  | _ => simp [Slot.root] at hr
theorem not_idle {s : Slot} (h : s.rty ≠ none ∨ ∃ u, s.vty = some u ∧ u.flat = false) : s.idle = false ∧ s.root = none := by
  cases s with
  | val d =>
    cases d with
    | dat t x => simp [Slot.rty, Slot.vty] at h; simp [Slot.idle, Slot.root, h]
    | ref d' =>
      cases d' with
      | dat t x => simp [Slot.idle, Slot.root]
      | _ => simp [Slot.rty, Slot.vty] at h
    | _ => simp [Slot.rty, Slot.vty] at h
  | box d => simp [Slot.idle, Slot.root]
  | own t x => simp [Slot.idle, Slot.root]
  | boxo t x => simp [Slot.idle, Slot.root]
  | boxh t x p => simp [Slot.idle, Slot.root]
  | mhole k e x y => simp [Slot.idle, Slot.root]
  | sem A => simp [Slot.idle, Slot.root]
  | _ => simp [Slot.rty, Slot.vty] at h
theorem killOf_run (M : Nat) : ∀ (C : List Nat), ∃ ks, (killOf M C).run σ = some ks ∧ (∀ x ∈ ks, x.2 = .dead ∧ x.1 ∈ C ∧ (σ.getD x.1 .dead).root = some M) ∧ ∀ c ∈ C, (σ.getD c .dead).root = some M → ∃ x ∈ ks, x.1 = c
  | [] => ⟨[], rfl, by simp, by simp⟩
  | c :: C => by
    obtain ⟨ks, h1, h2, h3⟩ := killOf_run M C
    have hb : ∀ (m : RM Wr) (f : Wr → RM Wr) (r : Wr), m.run σ = some r → (m.bind f).run σ = (f r).run σ := by
      intro m f r hm
      induction m with
      | ret a => simp [RM.run] at hm; subst hm; rfl
      | fail => simp [RM.run] at hm
      | get n k ih => exact ih _ hm
    by_cases hc : (σ.getD c .dead).root = some M
    · refine ⟨(c, .dead) :: ks, ?_, ?_, ?_⟩
      · show ((killOf M C).bind _).run σ = _
        rw [hb _ _ _ h1]; simp only [RM.run]; rw [if_pos hc]
      · intro x hx
        rcases List.mem_cons.1 hx with rfl | hx
        · exact ⟨rfl, by simp, hc⟩
        · exact ⟨(h2 x hx).1, by simp [(h2 x hx).2.1], (h2 x hx).2.2⟩
      · intro d hd hr
        rcases List.mem_cons.1 hd with rfl | hd
        · exact ⟨_, List.mem_cons_self .., rfl⟩
        · obtain ⟨x, hx, e⟩ := h3 d hd hr
          exact ⟨x, by simp [hx], e⟩
    · refine ⟨ks, ?_, ?_, ?_⟩
      · show ((killOf M C).bind _).run σ = _
        rw [hb _ _ _ h1]; simp only [RM.run]; rw [if_neg hc]
      · exact fun x hx => ⟨(h2 x hx).1, by simp [(h2 x hx).2.1], (h2 x hx).2.2⟩
      · intro d hd hr
        rcases List.mem_cons.1 hd with rfl | hd
        · exact absurd hr hc
        · exact h3 d hd hr
theorem bind_run {α β : Type} {m : RM α} {f : α → RM β} {b : β} (h : (m.bind f).run σ = some b) : ∃ r, m.run σ = some r ∧ (f r).run σ = some b := by
  induction m with
  | ret a => exact ⟨a, rfl, h⟩
  | fail => simp [RM.bind, RM.run] at h
  | get n k ih => exact ih _ h
theorem bind_run' {α β : Type} {m : RM α} {f : α → RM β} {r : α} (h : m.run σ = some r) : (m.bind f).run σ = (f r).run σ := by
  induction m with
  | ret a => simp [RM.run] at h; subst h; rfl
  | fail => simp [RM.run] at h
  | get n k ih => exact ih _ h
/-- What hangs on a slot lies among C. -/
def hang (C : List Nat) (x : Nat × Slot) : Prop := ∀ M, x.2.root = some M → x.1 ∈ C ∧ Cm C M x.1 = true
def Rt (C : List Nat) (σ : List Slot) : Prop := ∀ N, hang C (N, σ.getD N .dead)
def Rz (σ : List Slot) : Prop := ∀ N, (σ.getD N .dead).root ≠ none → N ∈ ([] : List Nat)
theorem Rt.mem {C : List Nat} (h : Rt C σ) {N : Nat} (hN : (σ.getD N .dead).root ≠ none) : N ∈ C := by
  cases hr : (σ.getD N .dead).root with
  | none => exact absurd hr hN
  | some M => exact (h N M hr).1
theorem hangB_iff {C : List Nat} {x : Nat × Slot} (h : hangB C x = true) : hang C x := by
  intro M hM
  unfold hangB at h
  rw [hM] at h
  simpa using h
theorem free_run (h : Sim w0 K lab σ a w) {C : List Nat} (hR : Rt C σ) (N : Nat) : ∃ ks, (free C N).run σ = some ks ∧ (∀ x ∈ ks, x.2 = .dead ∧ x.1 ≠ N ∧ (σ.getD x.1 .dead).root = some N) ∧
    ∀ M, M ≠ N → (σ.getD M .dead).root = some N → ∃ x ∈ ks, x.1 = M := by
  by_cases hi : (σ.getD N .dead).idle = true
  · refine ⟨[], by unfold free; simp only [RM.run]; rw [if_pos hi]; rfl, by simp, fun M _ hr => ?_⟩
    have := not_idle (root_of (h.slots M) hr)
    rw [hi] at this; simp at this
  · obtain ⟨ks, h1, h2, h3⟩ := killOf_run (σ := σ) N (C.filter fun c => c != N && Cm C N c)
    refine ⟨ks, by unfold free; simp only [RM.run]; rw [if_neg hi]; exact h1, fun x hx => ?_, fun M hM hr => h3 M ?_ hr⟩
    · obtain ⟨a1, a2, a3⟩ := h2 x hx
      simp at a2
      exact ⟨a1, a2.2.1, a3⟩
    · simp [hM]
      exact hR M N hr
/-- What a slot's new value needs, where nothing else turns. -/
theorem Sim.put0 (h : Sim w0 K lab σ a w) {N : Nat} {s : Slot} {v : Value} {ks : Wr} (hks : ∀ x ∈ ks, x.2 = .dead ∧ x.1 ≠ N ∧ (σ.getD x.1 .dead).root = some N)
    (hroot : ∀ M, M ≠ N → (σ.getD M .dead).root = some N → ∃ x ∈ ks, x.1 = M)
    (hs : ∀ σ' tmps', (∀ M, M ≠ N → (σ.getD M .dead).root = none → σ'.getD M .dead = σ.getD M .dead ∧ tmps'.getD M undef = a.tmps.getD M undef) → SlotOk lab w σ' tmps' N s v) :
    Sim w0 K lab (app σ (ks ++ [(N, s)])) (a.put (some N) v) w := by
  have hout : ∀ M, M ≠ N → (∀ x ∈ ks, x.1 ≠ M) → (app σ (ks ++ [(N, s)])).getD M .dead = σ.getD M .dead := fun M h1 h2 => app_out _ _ _ fun x hx => by
    rcases List.mem_append.1 hx with hx | hx
    · exact h2 x hx
    · simp at hx; subst hx; exact fun e => h1 e.symm
  have hnk : ∀ M, (σ.getD M .dead).root = none → ∀ x ∈ ks, x.1 ≠ M := fun M hM x hx e => by have := (hks x hx).2.2; rw [e, hM] at this; cases this
  have htm : ∀ M, M ≠ N → (a.put (some N) v).tmps.getD M undef = a.tmps.getD M undef := fun M hM => by rw [tmps_put, if_neg (fun e => hM e.1.symm)]
  refine h.upd (by rw [app_len, put_size]; exact h.len) (by rw [put_defers]; exact h.nd) h.fr h.lt h.kl fun M => ?_
  by_cases hM : M = N
  · subst hM
    refine .inr ?_
    rw [app_last]
    by_cases hlt : M < σ.length
    · rw [if_pos hlt, tmps_put, if_pos ⟨rfl, by rw [← h.len]; exact hlt⟩]
      exact hs _ _ fun M' h1 h2 => ⟨hout M' h1 (hnk M' h2), htm M' h1⟩
    · rw [if_neg hlt, app_out _ _ _ (fun x hx => (hks x hx).2.1), getD_beyond hlt]
      trivial
  · by_cases hk : ∃ x ∈ ks, x.1 = M
    · refine .inr ?_
      rw [app_append]
      show SlotOk _ _ _ _ _ (((app σ ks).set N s).getD M .dead) _
      rw [getD_set, if_neg (fun e => hM e.1.symm), app_dead _ _ _ hk (fun x hx _ => (hks x hx).1)]
      trivial
    · have hk' : ∀ x ∈ ks, x.1 ≠ M := fun x hx e => hk ⟨x, hx, e⟩
      refine .inl ⟨hout M hM hk', htm M hM, Kp.refl .., fun M' hr => ?_⟩
      have hn := not_idle (root_of (h.slots M) hr)
      have hne : M' ≠ N := fun e => hk (hroot M hM (by rw [← e]; exact hr))
      exact ⟨fun _ _ => rfl, fun _ _ => rfl, by rw [hout M' hne (hnk M' hn.2)], by rw [hout M' hne (hnk M' hn.2)], htm M' hne⟩
/-- What hangs on something is written among C alone. -/
theorem Rt.mix {C : List Nat} : ∀ {ws : Wr} {σ : List Slot}, Rt C σ → (∀ x ∈ ws, hang C x) → Rt C (app σ ws)
  | [], _, hR, _ => hR
  | x :: ws, σ, hR, hw => by
    rw [app_cons]
    refine Rt.mix (ws := ws) (fun N M hM => ?_) (fun y hy => hw y (by simp [hy]))
    simp only [getD_set] at hM
    split at hM
    · rename_i q
      obtain ⟨rfl, _⟩ := q
      exact hw x (by simp) M hM
    · exact hR N M hM
theorem Rt.app {C : List Nat} (hR : Rt C σ) {ws : Wr} (hw : ∀ x ∈ ws, x.2.root = none) : Rt C (app σ ws) := hR.mix fun x hx M hM => by rw [hw x hx] at hM; cases hM
end
end Go.Proofs.Ytmjijggkdbiijaa
/- Operations that read: what they give. No statement is proved here. -/
namespace Go.Proofs.Ytmjijggkdbiijaa
open Go.RowKit
set_option linter.unusedVariables false
set_option linter.unusedSimpArgs false
theorem ownsRow_range {w : World} {te sz : Nat} {v : Value} {n : Nat} {xs : List Value} (h : w.ownsRow 0 te sz v n xs) : ∃ a c, v = .slice a n c ∧ n ≤ c ∧ c ≤ maxLen ∧ (a = none → xs = []) ∧ ∀ g o s, a = some ⟨g, o, s⟩ → o = 0 ∧ s = none ∧ w.rangeAt g 0 xs ∧ v.ownBlock = some g := by
  rcases h.2 with ⟨rfl, rfl⟩ | ⟨g, cap, cur, rfl, _, hg, h1, h2, h3, h4⟩
  · refine ⟨none, 0, rfl, Nat.le_refl _, by simp [maxLen], fun _ => List.eq_nil_of_length_eq_zero (by simpa using h.1), by simp⟩
  · refine ⟨_, cap, rfl, h1, h2, by simp, fun g' o s e => ?_⟩
    simp at e
    obtain ⟨rfl, rfl, rfl⟩ := e
    refine ⟨rfl, rfl, fun j u hu => ?_, rfl⟩
    rw [cell_of_row w g _ cur te (0, 0) hg]
    rw [← h4, List.getElem?_take] at hu
    split at hu
    · simpa using hu
    · cases hu
theorem OwnE.imm {w : World} {S S' B : Nat → Prop} (hS : ∀ g, S g → S' g) (hB : ∀ g, B g → S' g) {t : Ty} {x : t.T} {cs : List Value} (h : OwnE w S B t x cs) : Imm w S' t x cs := by
  cases t with
  | slice te e =>
    simp only [OwnE] at h
    simp only [Imm]
    obtain ⟨hl, v, flat, rfl, h2, h3, h4⟩ := h
    obtain ⟨a, c, rfl, e1, e2, e3, e4⟩ := ownsRow_range h2
    refine ⟨hl, a, c, flat, rfl, e1, e2, h2.1, fun j hj => (h4 j hj).keep fun g hg => ⟨hS g hg, rfl⟩, fun hne => ?_⟩
    rcases h2.2 with ⟨q, hn⟩ | ⟨g, cap, cur, q, _⟩
    · exact absurd (List.eq_nil_of_length_eq_zero hn) hne
    · simp only [Value.slice.injEq] at q
      obtain ⟨rfl, _, _⟩ := q
      obtain ⟨_, _, h5, h6⟩ := e4 g 0 none rfl
      exact ⟨g, 0, rfl, hB g (h3 g h6), h5⟩
  | _ => exact Imm.keep (fun g hg => ⟨hS g hg, rfl⟩) h
/-- What is one's own is there to be read. -/
theorem Own.imm {w : World} {S S' : Nat → Prop} {L : Nat → Nat → Prop} (hS : ∀ g, S g → S' g) (hL : ∀ i g, L i g → S' g) : ∀ {t : Ty} {i : Nat} {x : t.T} {cs : List Value}, Own w S L i t x cs → Imm w S' t x cs
  | .int _, _, _, _, h => by simp only [Own] at h; exact h.keep fun g hg => ⟨hS g hg, rfl⟩
  | .bool, _, _, _, h => by simp only [Own] at h; exact h.keep fun g hg => ⟨hS g hg, rfl⟩
  | .str, _, _, _, h => by simp only [Own] at h; exact h.keep fun g hg => ⟨hS g hg, rfl⟩
  | .unit, _, _, _, h => by simp only [Own] at h; exact h.keep fun g hg => ⟨hS g hg, rfl⟩
  | .arr _ _, _, _, _, h => by simp only [Own] at h; exact h.keep fun g hg => ⟨hS g hg, rfl⟩
  | .prod a b, _, x, cs, h => by simp only [Own] at h; simp only [Imm]; exact ⟨Own.imm hS hL h.1, Own.imm hS hL h.2⟩
  | .slice te e, i, xs, cs, h => by
    simp only [Own] at h
    simp only [Imm]
    obtain ⟨hl, v, flat, rfl, h2, h3, h4⟩ := h
    obtain ⟨a, c, rfl, e1, e2, e3, e4⟩ := ownsRow_range h2
    refine ⟨hl, a, c, flat, rfl, e1, e2, h2.1, fun j hj => (h4 j hj).keep fun g hg => ⟨hS g hg, rfl⟩, fun hne => ?_⟩
    rcases h2.2 with ⟨q, hn⟩ | ⟨g, cap, cur, q, _⟩
    · exact absurd (List.eq_nil_of_length_eq_zero hn) hne
    · simp only [Value.slice.injEq] at q
      obtain ⟨rfl, _, _⟩ := q
      obtain ⟨_, _, h5, h6⟩ := e4 g 0 none rfl
      exact ⟨g, 0, rfl, hL i g (h3 g h6), h5⟩
  | .map k e, j, m, cs, h => by
    simp only [Own] at h
    simp only [Imm]
    rcases h with h | ⟨b, xs, es, ck, h1, h2, h3, h4, h5, h6, h8, h7⟩
    · exact .inl h
    · refine .inr ⟨b, xs, es, ck, h1, h2, hL j b h3, h4, h5, h6, fun i hi => ?_⟩
      obtain ⟨en, kc, vc, q1, q2, q3, q4, q5⟩ := h7 i hi
      exact ⟨en, kc, vc, q1, q2, q3, q4.keep fun g hg => ⟨hS g hg, rfl⟩, q5.imm hS (hL j)⟩
  | .fn _ _, _, _, _, h => by simp only [Own] at h; exact h.keep fun g hg => ⟨hS g hg, rfl⟩
/-- A part of what is one's own: of one's own, or behind an array's index. -/
theorem Own.part {w : World} {S : Nat → Prop} {L : Nat → Nat → Prop} : ∀ {t : Ty} {i : Nat} {x : t.T} {p : Path} {u : Ty} {y : u.T} {cs : List Value}, Own w S L i t x cs → getS t x p = .dat u y → t.inb p →
    (t.at p = some u ∧ Own w S L (i + t.off p) u y ((cs.drop (t.off p)).take u.sz)) ∨ (t.at p = some u ∧ Imm w S u y ((cs.drop (t.off p)).take u.sz))
  | t, i, x, [], u, y, cs, h, hg, hi => .inl (Own.get h hg hi (fun _ s hs => by cases hs))
  | .prod a b, i, x, .fst :: p, u, y, cs, h, hg, hi => by
    simp only [Own] at h
    rcases Own.part h.1 hg hi with ⟨h1, h2⟩ | ⟨h1, h2⟩
    · refine .inl ⟨h1, ?_⟩
      rw [take_take_drop _ _ _ _ (Ty.off_le h1 hi)] at h2
      exact h2
    · refine .inr ⟨h1, ?_⟩
      rw [take_take_drop _ _ _ _ (Ty.off_le h1 hi)] at h2
      exact h2
  | .prod a b, i, x, .snd :: p, u, y, cs, h, hg, hi => by
    simp only [Own] at h
    rcases Own.part h.2 hg hi with ⟨h1, h2⟩ | ⟨h1, h2⟩
    · refine .inl ⟨h1, ?_⟩
      rw [List.drop_drop, Nat.add_assoc] at h2
      exact h2
    · refine .inr ⟨h1, ?_⟩
      rw [List.drop_drop] at h2
      exact h2
  | .arr n e, i, xs, .ix k :: p, u, y, cs, h, hg, hi => .inr (Imm.get (p := .ix k :: p) h.imm_arr hg hi)
  | .int _, _, _, .fst :: _, _, _, _, _, hg, _ => by simp [getS] at hg
  | .int _, _, _, .snd :: _, _, _, _, _, hg, _ => by simp [getS] at hg
  | .int _, _, _, .ix _ :: _, _, _, _, _, hg, _ => by simp [getS] at hg
  | .bool, _, _, .fst :: _, _, _, _, _, hg, _ => by simp [getS] at hg
  | .bool, _, _, .snd :: _, _, _, _, _, hg, _ => by simp [getS] at hg
  | .bool, _, _, .ix _ :: _, _, _, _, _, hg, _ => by simp [getS] at hg
  | .str, _, _, .fst :: _, _, _, _, _, hg, _ => by simp [getS] at hg
  | .str, _, _, .snd :: _, _, _, _, _, hg, _ => by simp [getS] at hg
  | .str, _, _, .ix _ :: _, _, _, _, _, hg, _ => by simp [getS] at hg
  | .unit, _, _, .fst :: _, _, _, _, _, hg, _ => by simp [getS] at hg
  | .unit, _, _, .snd :: _, _, _, _, _, hg, _ => by simp [getS] at hg
  | .unit, _, _, .ix _ :: _, _, _, _, _, hg, _ => by simp [getS] at hg
  | .slice _ _, _, _, .fst :: _, _, _, _, _, hg, _ => by simp [getS] at hg
  | .map _ _, _, _, .fst :: _, _, _, _, _, hg, _ => by simp [getS] at hg
  | .fn _ _, _, _, .fst :: _, _, _, _, _, hg, _ => by simp [getS] at hg
  | .slice _ _, _, _, .snd :: _, _, _, _, _, hg, _ => by simp [getS] at hg
  | .map _ _, _, _, .snd :: _, _, _, _, _, hg, _ => by simp [getS] at hg
  | .fn _ _, _, _, .snd :: _, _, _, _, _, hg, _ => by simp [getS] at hg
  | .slice _ _, _, _, .ix _ :: _, _, _, _, _, hg, _ => by simp [getS] at hg
  | .map _ _, _, _, .ix _ :: _, _, _, _, _, hg, _ => by simp [getS] at hg
  | .fn _ _, _, _, .ix _ :: _, _, _, _, _, hg, _ => by simp [getS] at hg
  | .prod _ _, _, _, .ix _ :: _, _, _, _, _, hg, _ => by simp [getS] at hg
  | .arr _ _, _, _, .fst :: _, _, _, _, _, hg, _ => by simp [getS] at hg
  | .arr _ _, _, _, .snd :: _, _, _, _, _, hg, _ => by simp [getS] at hg
def All (w : World) (g : Nat) : Prop := g < w.heap.size
theorem Imm.flat {w : World} {S S' : Nat → Prop} {w' : World} : ∀ {t : Ty} {x : t.T} {cs : List Value}, t.flat = true → Imm w S t x cs → Imm w' S' t x cs
  | .int _, _, _, _, h => by simpa only [Imm] using h
  | .bool, _, _, _, h => by simpa only [Imm] using h
  | .str, _, _, _, h => by simpa only [Imm] using h
  | .unit, _, _, _, h => by simpa only [Imm] using h
  | .prod a b, x, cs, hf, h => by
    simp only [Ty.flat, Bool.and_eq_true] at hf
    simp only [Imm] at h ⊢; exact ⟨Imm.flat hf.1 h.1, Imm.flat hf.2 h.2⟩
  | .slice _ e, _, _, hf, _ => by simp [Ty.flat] at hf
  | .map _ _, _, _, hf, _ => by simp [Ty.flat] at hf
  | .fn _ _, _, _, hf, _ => by simp [Ty.flat] at hf
  | .arr n e, xs, cs, hf, h => by simp only [Imm] at h ⊢; exact ⟨h.1, h.2.1, fun i hi => Imm.flat hf (h.2.2 i hi)⟩
theorem RepV.flat {w w' : World} {S S' : Nat → Prop} {d : D} {v : Value} (hf : d.flat = true) (h : RepV w S d v) : RepV w' S' d v := by
  cases d with
  | dat t x => obtain ⟨cs, h1, h2⟩ := h; exact ⟨cs, Imm.flat hf h1, h2⟩
  | _ => simp [D.flat] at hf
theorem Fz.all {lab : Lab} {w : World} {g : Nat} (h : Fz lab w g) : All w g := h.2
section
variable {w0 : World} {K : Nat → Prop} {lab : Lab} {σ : List Slot} {a : Act} {w : World}
theorem Sim.owns (h : Sim w0 K lab σ a w) {N k o g : Nat} (hl : Lb lab N k o g) : All w g := h.lt _ _ hl
/-- The place (M, p) holds a datum: of one's own, or such as nobody writes. -/
theorem Sim.at' (h : Sim w0 K lab σ a w) {M : Nat} {p : Path} {t : Ty} {x : t.T} {cs : List Value} {u : Ty} (hh : Holds w σ a.tmps M p u cs) {u' : Ty} {y : u'.T} (hg : getS t x p = .dat u' y)
    (hM : σ.getD M .dead = .own t x ∨ σ.getD M .dead = .val (.dat t x) ∨ σ.getD M .dead = .boxo t x ∨ σ.getD M .dead = .box (.dat t x) ∨ σ.getD M .dead = .val (.ref (.dat t x))) : u' = u ∧ (Own w (Fz lab w) (Lb lab M 0) (t.off p) u' y cs ∨ Imm w (Fz lab w) u' y cs) := by
  have hs := h.slots M
  have same : ∀ {g o : Nat} {l1 l2 : List Value}, w.rangeAt g o l1 → w.rangeAt g o l2 → l1.length = l2.length → l1 = l2 := by
    intro g o l1 l2 h1 h2 hl
    apply List.ext_getElem hl
    intro i hi1 hi2
    have a1 := h1 i _ (List.getElem?_eq_getElem hi1)
    have a2 := h2 i _ (List.getElem?_eq_getElem hi2)
    rw [a1] at a2
    exact Option.some.inj a2
  have part : ∀ {g o : Nat} {l : List Value} {n m : Nat}, w.rangeAt g o l → w.rangeAt g (o + n) ((l.drop n).take m) := by
    intro g o l n m hr j v hv
    rw [List.getElem?_take] at hv
    split at hv
    · rw [List.getElem?_drop] at hv
      have := hr _ _ hv
      rw [← Nat.add_assoc] at this
      exact this
    · cases hv
  have mkinj : ∀ {t : Ty} {l1 l2 : List Value}, t.mk l1 = t.mk l2 → l1.length = t.sz → l2.length = t.sz → l1 = l2 := by
    intro t l1 l2 e h1 h2
    unfold Ty.mk at e
    cases t with
    | unit | prod _ _ | arr _ _ => simpa [Ty.agg] using e
    | _ =>
      simp only [Ty.agg, Bool.false_eq_true, if_false, Ty.sz] at e h1 h2
      match l1, h1, l2, h2 with
      | [x1], _, [x2], _ => simpa using e
  have getO : ∀ {ds : List Value}, (Own w (Fz lab w) (Lb lab M 0) 0 t x ds ∨ Imm w (Fz lab w) t x ds) → getS t x p = .dat u' y → t.inb p → t.at p = some u' ∧ (Own w (Fz lab w) (Lb lab M 0) (t.off p) u' y ((ds.drop (t.off p)).take u'.sz) ∨ Imm w (Fz lab w) u' y ((ds.drop (t.off p)).take u'.sz)) ∧ ((ds.drop (t.off p)).take u'.sz).length = u'.sz := by
    intro ds hd hg hi
    rcases hd with hd | hd
    · rcases Own.part hd hg hi with ⟨h1, h2⟩ | ⟨h1, h2⟩
      · rw [Nat.zero_add] at h2
        exact ⟨h1, .inl h2, h2.len⟩
      · exact ⟨h1, .inr h2, h2.len⟩
    · obtain ⟨h1, h2⟩ := Imm.get hd hg hi
      exact ⟨h1, .inr h2, h2.len⟩
  -- the datum in a variable in memory
  have inmem : ∀ {g : Nat} {o : Nat} {ds : List Value}, a.tmps.getD M undef = .pointer (some ⟨g, o, none⟩) → (σ.getD M .dead).rty = some t → (σ.getD M .dead).vty = none → w.rangeAt g o ds → (Own w (Fz lab w) (Lb lab M 0) 0 t x ds ∨ Imm w (Fz lab w) t x ds) → u' = u ∧ (Own w (Fz lab w) (Lb lab M 0) (t.off p) u' y cs ∨ Imm w (Fz lab w) u' y cs) := by
    intro g o ds e1 e2 e2' e3 e4
    rcases hh.2 with ⟨g', o', t', q1, q2, q3, q4, q5⟩ | ⟨_, _, q3, _⟩
    · rw [e1] at q1
      simp only [Value.pointer.injEq, Option.some.injEq, Addr.mk.injEq] at q1
      obtain ⟨rfl, rfl, _⟩ := q1
      rw [e2] at q2
      obtain rfl := Option.some.inj q2
      obtain ⟨r1, r2, r3⟩ := getO e4 hg q3
      rw [q4] at r1
      obtain rfl := Option.some.inj r1
      refine ⟨rfl, ?_⟩
      rw [same q5 (part e3) (by rw [hh.1, r3])]
      exact r2
    · rw [e2'] at q3; cases q3
  have inval : ∀ {ds : List Value}, a.tmps.getD M undef = t.mk ds → (σ.getD M .dead).rty = none → (σ.getD M .dead).vty = some t → (Own w (Fz lab w) (Lb lab M 0) 0 t x ds ∨ Imm w (Fz lab w) t x ds) → u' = u ∧ (Own w (Fz lab w) (Lb lab M 0) (t.off p) u' y cs ∨ Imm w (Fz lab w) u' y cs) := by
    intro ds e1 e2 e3 e4
    rcases hh.2 with ⟨g', o', t', q1, q2, _⟩ | ⟨q1, _, q3, q4⟩
    · rw [e2] at q2; cases q2
    · rw [e3] at q3
      obtain rfl := Option.some.inj q3
      subst q1
      have e : D.dat t x = .dat u' y := by cases t <;> simpa [getS] using hg
      obtain ⟨rfl, e'⟩ := D.dat.inj e
      obtain rfl := eq_of_heq e'
      refine ⟨rfl, ?_⟩
      rw [e1] at q4
      rw [← mkinj q4 (e4.elim Own.len Imm.len) hh.1]
      have : t.off [] = 0 := by cases t <;> rfl
      rw [this]
      exact e4
  rcases hM with e | e | e | e | e <;> rw [e] at hs
  · obtain ⟨ds, h1, h2⟩ := hs
    exact inval h1 (by rw [e]; rfl) (by rw [e]; rfl) (.inl h2)
  · obtain ⟨ds, h1, h2⟩ := hs
    exact inval h2 (by rw [e]; rfl) (by rw [e]; rfl) (.inr h1)
  · obtain ⟨g, ty, ds, h1, h2, h3, h4⟩ := hs
    exact inmem h1 (by rw [e]; rfl) (by rw [e]; rfl) (fun j v hv => by rw [Nat.zero_add, cell_of_row w g j ds.toArray ty (0, 0) h3]; simpa using hv) (.inl h4)
  · obtain ⟨g, ty, ds, h1, h2, h3, h4⟩ := hs
    exact inmem h1 (by rw [e]; rfl) (by rw [e]; rfl) (fun j v hv => by rw [Nat.zero_add, cell_of_row w g j ds.toArray ty (0, 0) h3]; simpa using hv) (.inr h4)
  · obtain ⟨c1, ⟨g, o, ds, rfl, h2, h3, h4⟩, h5⟩ := hs
    exact inmem h5 (by rw [e]; rfl) (by rw [e]; rfl) h3 (.inr h4)
/-- .. to be read. -/
theorem Sim.at (h : Sim w0 K lab σ a w) {M : Nat} {p : Path} {t : Ty} {x : t.T} {cs : List Value} {u : Ty} (hh : Holds w σ a.tmps M p u cs) {u' : Ty} {y : u'.T} (hg : getS t x p = .dat u' y)
    (hM : σ.getD M .dead = .own t x ∨ σ.getD M .dead = .val (.dat t x) ∨ σ.getD M .dead = .boxo t x ∨ σ.getD M .dead = .box (.dat t x) ∨ σ.getD M .dead = .val (.ref (.dat t x))) : u' = u ∧ Imm w (All w) u' y cs := by
  obtain ⟨h1, h2⟩ := h.at' hh hg hM
  refine ⟨h1, ?_⟩
  rcases h2 with h2 | h2
  · exact h2.imm (fun g hg => hg.all) (fun i g hg => h.owns hg)
  · exact Imm.keep (fun g hg => ⟨hg.all, rfl⟩) h2
end
end Go.Proofs.Ytmjijggkdbiijaa
/- Operands and what they hold; operations that only compute. No statement is proved here. -/
namespace Go.Proofs.Ytmjijggkdbiijaa
open Go.RowKit
set_option linter.unusedVariables false
set_option linter.unusedSimpArgs false
theorem getS_of_at : ∀ {t : Ty} {x : t.T} {p : Path} {u : Ty}, t.at p = some u → ∃ y, getS t x p = .dat u y
  | t, x, [], u, h => by
    have e : t = u := by cases t <;> simpa [Ty.at] using h
    subst e
    exact ⟨x, by cases t <;> rfl⟩
  | .prod a b, x, .fst :: p, u, h => getS_of_at (t := a) h
  | .prod a b, x, .snd :: p, u, h => getS_of_at (t := b) h
  | .arr n e, xs, .ix i :: p, u, h => getS_of_at (t := e) h
  | .int _, _, .fst :: _, _, h => by simp [Ty.at] at h
  | .int _, _, .snd :: _, _, h => by simp [Ty.at] at h
  | .int _, _, .ix _ :: _, _, h => by simp [Ty.at] at h
  | .bool, _, .fst :: _, _, h => by simp [Ty.at] at h
  | .bool, _, .snd :: _, _, h => by simp [Ty.at] at h
  | .bool, _, .ix _ :: _, _, h => by simp [Ty.at] at h
  | .str, _, .fst :: _, _, h => by simp [Ty.at] at h
  | .str, _, .snd :: _, _, h => by simp [Ty.at] at h
  | .str, _, .ix _ :: _, _, h => by simp [Ty.at] at h
  | .unit, _, .fst :: _, _, h => by simp [Ty.at] at h
  | .unit, _, .snd :: _, _, h => by simp [Ty.at] at h
  | .unit, _, .ix _ :: _, _, h => by simp [Ty.at] at h
  | .slice _ _, _, .fst :: _, _, h => by simp [Ty.at] at h
  | .map _ _, _, .fst :: _, _, h => by simp [Ty.at] at h
  | .fn _ _, _, .fst :: _, _, h => by simp [Ty.at] at h
  | .slice _ _, _, .snd :: _, _, h => by simp [Ty.at] at h
  | .map _ _, _, .snd :: _, _, h => by simp [Ty.at] at h
  | .fn _ _, _, .snd :: _, _, h => by simp [Ty.at] at h
  | .slice _ _, _, .ix _ :: _, _, h => by simp [Ty.at] at h
  | .map _ _, _, .ix _ :: _, _, h => by simp [Ty.at] at h
  | .fn _ _, _, .ix _ :: _, _, h => by simp [Ty.at] at h
  | .prod _ _, _, .ix _ :: _, _, h => by simp [Ty.at] at h
  | .arr _ _, _, .fst :: _, _, h => by simp [Ty.at] at h
  | .arr _ _, _, .snd :: _, _, h => by simp [Ty.at] at h
theorem Ty.at_nil (t : Ty) : t.at [] = some t := by cases t <;> rfl
/-- What an operation gives. -/
def Runs (P : Program) (o : Oper) (a : Act) (w : World) (v : Value) (w' : World) : Prop :=
  (execOp a.eval o).run P w = .ok (.value v) w' ∨ ((execOp a.eval o).run P w = .ok .skip w' ∧ v = undef)
def allP : List Prop → Prop
  | [] => True
  | p :: ps => p ∧ allP ps
theorem allP_append {ps qs : List Prop} : allP (ps ++ qs) ↔ allP ps ∧ allP qs := by
  induction ps with
  | nil => simp [allP]
  | cons p ps ih => simp [allP, ih, and_assoc]
theorem Ty.fact_of_ok : ∀ {t : Ty} {x : t.T}, t.ok x → allP (t.fact x)
  | .int _, _, h => ⟨h, trivial⟩
  | .bool, _, _ => trivial
  | .unit, _, _ => trivial
  | .str, _, h => ⟨h, trivial⟩
  | .slice _ _, _, h => ⟨h, trivial⟩
  | .map _ _, _, h => ⟨h, trivial⟩
  | .fn _ _, _, h => ⟨h, trivial⟩
  | .arr _ _, _, h => ⟨h, trivial⟩
  | .prod a b, x, h => allP_append.2 ⟨Ty.fact_of_ok h.1, Ty.fact_of_ok h.2⟩
theorem D.fact_of_ok {d : D} (h : d.ok) : allP d.fact := by
  cases d with
  | dat t x => exact Ty.fact_of_ok h
  | _ => trivial
/-- A step that does what the slots say. -/
def Good (P : Program) (C : List Nat) (w0 : World) (K : Nat → Prop) (lab : Lab) (o : Oper) (σ : List Slot) (a : Act) (w : World) (fact : List Prop) (ws : Wr) : Prop :=
  allP fact ∧ ∃ v w' lab', Runs P o a w v w' ∧ Sim w0 K lab' (app σ ws) (a.put o.dst v) w' ∧ ((∀ x ∈ ws, hang C x) → Rt C (app σ ws)) ∧ ∀ M, (∀ x ∈ ws, x.1 ≠ M) → ∀ g k m, lab g = some (M, k, m) → lab' g = some (M, k, m) ∧ w'.heap[g]? = w.heap[g]?
section
variable {P : Program} {w0 : World} {K : Nat → Prop} {lab : Lab} {σ : List Slot} {a : Act} {w : World} {C : List Nat}
theorem SlotOk.free {s : Slot} {N : Nat} {v : Value} {σ' : List Slot} {tmps tmps' : Array Value} (hr : s.root = none) (h : SlotOk lab w σ tmps N s v) : SlotOk lab w σ' tmps' N s v := by
  cases s with
  | adr _ _ | elt _ _ _ _ | frm _ _ | sub _ _ _ _ => simp [Slot.root] at hr
  | _ => exact h
theorem Holds.same {σ σ' : List Slot} {tmps tmps' : Array Value} {M : Nat} {p : Path} {u : Ty} {cs : List Value} (h : Holds w σ tmps M p u cs) (e1 : σ'.getD M .dead = σ.getD M .dead) (e2 : tmps'.getD M undef = tmps.getD M undef) : Holds w σ' tmps' M p u cs := by
  unfold Holds at h ⊢; rw [e1, e2]; exact h
theorem put_run {o : Oper} {s : Slot} {ws : Wr} {pre fact : List Prop} {e : Eff} (h : (put C o s ws pre fact).run σ = some e) : ∃ N kk ks, o.dst = some N ∧ s.root ≠ some N ∧ (∀ x ∈ ws, x.1 ≠ N) ∧ (frees C ws).run σ = some kk ∧ (Go.Proofs.Ytmjijggkdbiijaa.free C N).run σ = some ks ∧ e = .pure pre fact (ws ++ kk ++ ks ++ [(N, s)]) := by
  unfold put at h
  cases hd : o.dst with
  | none => simp [hd, RM.run] at h
  | some N =>
    simp only [hd] at h
    split at h
    · simp [RM.run] at h
    · rename_i hr
      obtain ⟨kk, h0, h⟩ := bind_run h
      obtain ⟨ks, h1, h2⟩ := bind_run h
      simp only [RM.run, Option.some.injEq] at h2
      simp only [Bool.or_eq_true, decide_eq_true_eq, not_or] at hr
      refine ⟨N, kk, ks, rfl, hr.1, fun x hx e => hr.2 ?_, h0, h1, h2.symm⟩
      exact List.any_eq_true.2 ⟨x, hx, by simp [e]⟩
/-- An operation that writes its own slot alone. -/
theorem good_put (h : Sim w0 K lab σ a w) (hR : Rt C σ) {o : Oper} (hC : True) {s : Slot} {pre fact pre' fact' : List Prop} {ws : Wr} (hrun : (put C o s [] pre fact).run σ = some (.pure pre' fact' ws)) {v : Value}
    (hf : allP pre → allP fact) (hv : allP pre → Runs P o a w v w) (hs : allP pre → ∀ N, s.root ≠ some N → SlotOk lab w σ a.tmps N s v) (hp : allP pre') : Good P C w0 K lab o σ a w fact' ws := by
  obtain ⟨N, kk, ks, hd, hr, _, h0, h1, h2⟩ := put_run hrun
  simp only [frees, RM.run, Option.some.injEq] at h0
  subst h0
  simp only [Eff.pure.injEq, List.nil_append] at h2
  obtain ⟨rfl, rfl, rfl⟩ := h2
  obtain ⟨ks', k1, k2, k3⟩ := free_run h hR N
  rw [k1] at h1
  obtain rfl := Option.some.inj h1
  refine ⟨hf hp, v, w, lab, hv hp, ?_, ?_, fun _ _ _ _ _ h => ⟨h, rfl⟩⟩
  · rw [hd]
    refine h.put0 k2 k3 fun σ' tmps' hsame => ?_
    have h0 := hs hp N hr
    cases hroot : s.root with
    | none => exact h0.free hroot
    | some M =>
      have hMN : M ≠ N := fun e => hr (by rw [hroot, e])
      have hn := (not_idle (root_of h0 hroot)).2
      obtain ⟨e1, e2⟩ := hsame M hMN hn
      cases s with
      | adr M' p => simp only [Slot.root, Option.some.injEq] at hroot; subst hroot; simpa only [SlotOk, e1, e2] using h0
      | elt M' p i q =>
        simp only [Slot.root, Option.some.injEq] at hroot; subst hroot
        obtain ⟨te, e, u, g, o, len, c, q1, q2⟩ := h0
        exact ⟨te, e, u, g, o, len, c, q1.same e1 e2, q2⟩
      | frm M' p =>
        simp only [Slot.root, Option.some.injEq] at hroot; subst hroot
        obtain ⟨u, cs, q1, q2⟩ := h0
        exact ⟨u, cs, q1.same e1 e2, q2⟩
      | sub M' p l hh =>
        simp only [Slot.root, Option.some.injEq] at hroot; subst hroot
        obtain ⟨te, e, A, len, c, q1, q2⟩ := h0
        exact ⟨te, e, A, len, c, q1.same e1 e2, q2⟩
      | _ => simp [Slot.root] at hroot
  · exact hR.mix
theorem constSlot_run {ty : Option Ty} {v : Value} {s : Slot} {N : Nat} {tmps : Array Value} (h : (constSlot ty v).run σ = some s) : SlotOk lab w σ tmps N s v ∧ s.root = none := by
  unfold constSlot at h
  split at h
  · rename_i b
    simp only [RM.run, Option.some.injEq] at h; subst h
    exact ⟨⟨[.bool b], by simp only [RepC, Imm], rfl⟩, rfl⟩
  · split at h
    · rename_i k n hr
      simp only [RM.run, Option.some.injEq] at h; subst h
      exact ⟨⟨[.int k n], by simp only [RepC, Imm]; exact ⟨trivial, hr⟩, rfl⟩, rfl⟩
    · simp [RM.run] at h
  · split at h
    · rename_i s' hr
      simp only [RM.run, Option.some.injEq] at h; subst h
      exact ⟨⟨[.string s'], by simp only [RepC, Imm]; exact ⟨trivial, by omega⟩, rfl⟩, rfl⟩
    · simp [RM.run] at h
  · split at h
    · rename_i te e
      simp only [RM.run, Option.some.injEq] at h; subst h
      refine ⟨⟨[nilV], rfl, ?_⟩, rfl⟩
      simp only [Own]
      exact ⟨by simp, nilV, [], rfl, World.ownsRow_nil w 0 te e.sz, by simp [nilV, Value.ownBlock], by simp⟩
    · simp [RM.run] at h
  · simp [RM.run] at h
/-- What an operand is. -/
theorem opv_run (h : Sim w0 K lab σ a w) {ty : Option Ty} {x : Operand} {s : Slot} (hr : (opv ty x).run σ = some s) : ∃ N, SlotOk lab w σ a.tmps N s (a.eval x) := by
  cases x with
  | tmp n => simp only [opv, RM.slot, RM.run, Option.some.injEq] at hr; subst hr; exact ⟨n, h.slots n⟩
  | const v => exact ⟨0, (constSlot_run hr).1⟩
  | func f =>
    simp only [opv, RM.run, Option.some.injEq] at hr; subst hr
    exact ⟨0, _, ⟨[], rfl, rfl⟩, rfl⟩
  | global g => simp [opv, RM.run] at hr
/-- What hangs on a slot, to be read. -/
theorem frm_run (h : Sim w0 K lab σ a w) {M : Nat} {p : Path} {d : D} {N : Nat} {v : Value} (hs : SlotOk lab w σ a.tmps N (.frm M p) v) (hr : (asD (.frm M p)).run σ = some d) :
    ∃ u cs, ∃ y : u.T, Holds w σ a.tmps M p u cs ∧ v = u.mk cs ∧ d = .dat u y ∧ RepC w (All w) (.dat u y) cs := by
  obtain ⟨u, cs, h1, h2⟩ := hs
  simp only [asD, RM.run] at hr
  have key : ∀ {t : Ty} {x : t.T}, (σ.getD M .dead = .own t x ∨ σ.getD M .dead = .val (.dat t x) ∨ σ.getD M .dead = .boxo t x ∨ σ.getD M .dead = .box (.dat t x) ∨ σ.getD M .dead = .val (.ref (.dat t x))) → d = getS t x p → ∃ u cs, ∃ y : u.T, Holds w σ a.tmps M p u cs ∧ v = u.mk cs ∧ d = .dat u y ∧ RepC w (All w) (.dat u y) cs := by
    intro t x hM hd
    have hat : t.at p = some u := by
      rcases h1.2 with ⟨_, _, t', _, q2, _, q3, _⟩ | ⟨q1, _, q2, _⟩
      · rcases hM with e | e | e | e | e <;> rw [e] at q2 <;> simp only [Slot.rty, Option.some.injEq, reduceCtorEq] at q2 <;> subst q2 <;> exact q3
      · rcases hM with e | e | e | e | e <;> rw [e] at q2 <;> simp only [Slot.vty, Option.some.injEq, reduceCtorEq] at q2 <;> subst q1 q2 <;> exact Ty.at_nil _
    obtain ⟨y, hy⟩ := getS_of_at (x := x) hat
    obtain ⟨_, h3⟩ := h.at h1 hy hM
    exact ⟨u, cs, y, h1, h2, hd.trans hy, h3⟩
  generalize hσ : σ.getD M .dead = s' at hr key
  split at hr
  · simp only [RM.run, Option.some.injEq] at hr; exact key (.inl rfl) hr.symm
  · simp only [RM.run, Option.some.injEq] at hr; exact key (.inr (.inr (.inl rfl))) hr.symm
  · simp only [RM.run, Option.some.injEq] at hr; exact key (.inr (.inr (.inr (.inl rfl)))) hr.symm
  · simp only [RM.run, Option.some.injEq] at hr; exact key (.inr (.inl rfl)) hr.symm
  · simp [RM.run] at hr
theorem addr_add' (g o n : Nat) : (⟨g, o, none⟩ : Addr).add n = ⟨g, o + n, none⟩ := by
  unfold Addr.add; split <;> simp_all
theorem range_cut {w : World} {g o : Nat} {l : List Value} {n m : Nat} (hr : w.rangeAt g o l) : w.rangeAt g (o + n) ((l.drop n).take m) := by
  intro j v hv
  rw [List.getElem?_take] at hv
  split at hv
  · rw [List.getElem?_drop] at hv
    have := hr _ _ hv
    rw [← Nat.add_assoc] at this
    exact this
  · cases hv
/-- A part of a slice is a slice. -/
theorem rep_sub {w : World} {S : Nat → Prop} {te : Nat} {e : Ty} {xs : List e.T} {A : Option Addr} {c l hh : Nat} (hlh : l ≤ hh) (hx : hh ≤ xs.length) (hr : RepV w S (.dat (.slice te e) xs) (.slice A xs.length c)) :
    RepV w S (.dat (.slice te e) ((xs.take hh).drop l)) (.slice (if c = l then A else A.map (·.add (l * e.sz))) (hh - l) (c - l)) := by
  obtain ⟨cs, r1, r2⟩ := hr
  simp only [RepC, Imm] at r1
  obtain ⟨r3, A', c', flat, rfl, r4, r5, r6, r7, r8⟩ := r1
  have hx' : Value.slice A xs.length c = Value.slice A' xs.length c' := r2
  simp only [Value.slice.injEq, true_and] at hx'
  obtain ⟨rfl, rfl⟩ := hx'
  have hlen : ((xs.take hh).drop l).length = hh - l := by simp; omega
  have hmul : (hh - l) * e.sz + l * e.sz ≤ flat.length := by
    rw [← Nat.add_mul, r6]; exact Nat.mul_le_mul_right _ (by omega)
  refine ⟨[.slice (if c = l then A else A.map (·.add (l * e.sz))) (hh - l) (c - l)], ?_, rfl⟩
  simp only [RepC, Imm]
  refine ⟨by rw [hlen]; omega, _, _, (flat.drop (l * e.sz)).take ((hh - l) * e.sz), by rw [hlen], by rw [hlen]; omega, by omega, by rw [hlen]; simp; omega, fun i hi => ?_, fun hne => ?_⟩
  · rw [hlen] at hi
    have hi2 : l + i < xs.length := by omega
    have := r7 (l + i) hi2
    have e1 : ((xs.take hh).drop l)[i]'(by rw [hlen]; exact hi) = xs[l + i] := by simp
    rw [e1]
    have e2 : (((flat.drop (l * e.sz)).take ((hh - l) * e.sz)).drop (i * e.sz)).take e.sz = (flat.drop ((l + i) * e.sz)).take e.sz := by
      have : i * e.sz + e.sz ≤ (hh - l) * e.sz := by rw [← Nat.succ_mul]; exact Nat.mul_le_mul_right _ hi
      rw [take_take_drop _ _ _ _ this, List.drop_drop, Nat.add_mul]
    rw [e2]; exact this
  · have hxs0 : xs ≠ [] := by rintro rfl; simp at hne
    obtain ⟨g, ofs, rfl, s1, s2⟩ := r8 hxs0
    have hc : ¬ c = l := by
      intro q
      have : ((xs.take hh).drop l).length = 0 := by rw [hlen]; omega
      exact hne (List.eq_nil_of_length_eq_zero this)
    rw [if_neg hc]
    exact ⟨g, ofs + l * e.sz, by simp [addr_add'], s1, range_cut s2⟩
/-- A part that is lent, to be read. -/
theorem sub_run (h : Sim w0 K lab σ a w) {M : Nat} {p : Path} {l hh : Nat} {d : D} {N : Nat} {v : Value} (hs : SlotOk lab w σ a.tmps N (.sub M p l hh) v) (hr : (asD (.sub M p l hh)).run σ = some d) :
    ∃ te e, ∃ xs : List e.T, e.flat = true ∧ d = .dat (.slice te e) xs ∧ RepV w (All w) d v := by
  obtain ⟨te, e, A, len, c, h1, ⟨h2, h3, h4⟩, rfl⟩ := hs
  have hf : SlotOk lab w σ a.tmps N (.frm M p) (.slice A len c) := ⟨.slice te e, [.slice A len c], h1, rfl⟩
  simp only [asD, RM.run] at hr
  obtain ⟨d0, q1, q2⟩ : ∃ d0, (asD (.frm M p)).run σ = some d0 ∧ (subD l hh d0).run σ = some d := by
    simp only [asD, RM.run]
    generalize σ.getD M .dead = s' at hr
    split at hr
    · exact ⟨_, rfl, hr⟩
    · exact ⟨_, rfl, hr⟩
    · exact ⟨_, rfl, hr⟩
    · exact ⟨_, rfl, hr⟩
    · simp [RM.run] at hr
  obtain ⟨u, cs, y, r1, r2, r3, r4⟩ := frm_run h hf q1
  unfold subD at q2
  split at q2
  · rename_i te' e' xs
    obtain ⟨rfl, e3⟩ := D.dat.inj r3
    obtain rfl := eq_of_heq e3
    split at q2
    · rename_i hfl
      simp only [RM.run, Option.some.injEq] at q2
      have hcs : cs = [.slice A len c] := by
        have hl := r1.1
        simp only [Ty.sz] at hl
        obtain ⟨z, rfl⟩ := List.length_eq_one_iff.1 hl
        rw [r2]; rfl
      have r5 := r4
      simp only [RepC, Imm] at r5
      obtain ⟨_, A', c', flat, e1, _⟩ := r5
      rw [hcs] at e1
      simp only [List.cons.injEq, Value.slice.injEq, and_true] at e1
      obtain ⟨rfl, rfl, rfl⟩ := e1
      -- the place's type
      have hsz : e'.sz = e.sz := by
        rcases h1.2 with ⟨_, _, t, _, a2, _, a3, _⟩ | ⟨a1, _, a2, _⟩
        · rcases r1.2 with ⟨_, _, t', _, b2, _, b3, _⟩ | ⟨b1, _, b2, _⟩
          · rw [a2] at b2; obtain rfl := Option.some.inj b2; rw [a3] at b3; have := Option.some.inj b3; simp only [Ty.slice.injEq] at this; rw [this.2]
          · subst b1
            cases hs' : σ.getD M .dead <;> rw [hs'] at a2 b2 <;> simp [Slot.rty, Slot.vty] at a2 b2
            rename_i d'
            cases d' <;> simp at a2 b2
        · subst a1
          rcases r1.2 with ⟨_, _, t', _, b2, _, b3, _⟩ | ⟨b1, _, b2, _⟩
          · cases hs' : σ.getD M .dead <;> rw [hs'] at a2 b2 <;> simp [Slot.rty, Slot.vty] at a2 b2
            rename_i d'
            cases d' <;> simp at a2 b2
          · rw [a2] at b2; have := Option.some.inj b2; simp only [Ty.slice.injEq] at this; rw [this.2]
      refine ⟨te', e', _, hfl, q2.symm, ?_⟩
      rw [← q2, ← hsz]
      exact rep_sub h2 h3 ⟨cs, r4, by rw [hcs]; rfl⟩
    · simp [RM.run] at q2
  · simp [RM.run] at q2
theorem asD_run (h : Sim w0 K lab σ a w) {s : Slot} {d : D} {N : Nat} {v : Value} (hs : SlotOk lab w σ a.tmps N s v) (hr : (asD s).run σ = some d) : RepV w (All w) d v := by
  cases s with
  | val d' =>
    simp only [asD, RM.run, Option.some.injEq] at hr; subst hr
    exact RepV.keep (fun g hg => ⟨hg.all, rfl⟩) hs
  | own t x =>
    simp only [asD, RM.run, Option.some.injEq] at hr; subst hr
    obtain ⟨cs, h1, h2⟩ := hs
    exact ⟨cs, h2.imm (fun g hg => hg.all) (fun i g hg => h.owns hg), h1⟩
  | frm M p =>
    obtain ⟨u, cs, y, _, r2, rfl, r4⟩ := frm_run h hs hr
    exact ⟨cs, r4, r2⟩
  | sub M p l hh =>
    obtain ⟨_, _, _, _, _, r⟩ := sub_run h hs hr
    exact r
  | _ => simp [asD, RM.run] at hr
theorem rdD_run (h : Sim w0 K lab σ a w) {ty : Option Ty} {x : Operand} {d : D} (hr : (rdD ty x).run σ = some d) : RepV w (All w) d (a.eval x) := by
  obtain ⟨s, h1, h2⟩ := bind_run hr
  obtain ⟨N, h3⟩ := opv_run h h1
  exact asD_run h h3 h2
theorem rep_int {S : Nat → Prop} {k : IntKind} {n : Int} {v : Value} (h : RepV w S (.dat (.int k) n) v) : v = .int k n ∧ inR k n := by
  obtain ⟨cs, h1, h2⟩ := h
  simp only [RepC, Imm] at h1
  obtain ⟨rfl, h3⟩ := h1
  exact ⟨h2, h3⟩
theorem int_rep {S : Nat → Prop} {k : IntKind} {n : Int} (h : inR k n) : RepV w S (.dat (.int k) n) (.int k n) := ⟨[.int k n], by simp only [RepC, Imm]; exact ⟨trivial, h⟩, rfl⟩
theorem rep_bool {S : Nat → Prop} {b : Bool} {v : Value} (h : RepV w S (.dat .bool b) v) : v = .bool b := by
  obtain ⟨cs, h1, h2⟩ := h
  simp only [RepC, Imm] at h1
  subst h1
  exact h2
theorem bool_rep {S : Nat → Prop} {b : Bool} : RepV w S (.dat .bool b) (.bool b) := ⟨[.bool b], by simp only [RepC, Imm], rfl⟩
theorem rdInt_run (h : Sim w0 K lab σ a w) {x : Operand} {k : IntKind} {n : Int} (hr : (rdInt x).run σ = some (k, n)) : a.eval x = .int k n ∧ inR k n := by
  obtain ⟨d, h1, h2⟩ := bind_run hr
  have h3 := rdD_run h h1
  split at h2
  · simp only [RM.run, Option.some.injEq, Prod.mk.injEq] at h2
    obtain ⟨rfl, rfl⟩ := h2
    exact rep_int h3
  · simp [RM.run] at h2
theorem as_some {t : Ty} {d : D} {x : t.T} (h : d.as t = some x) : d = .dat t x := by
  unfold D.as at h
  split at h
  · split at h
    · rename_i u y e
      subst e
      simp only [castT, Option.some.injEq] at h
      subst h; rfl
    · cases h
  · cases h
theorem of_run {α : Type} {o : Option α} {r : α} (h : (RM.of o).run σ = some r) : o = some r := by
  cases o with
  | none => simp [RM.of, RM.run] at h
  | some a => simpa [RM.of, RM.run] using h
theorem rdBool_run (h : Sim w0 K lab σ a w) {x : Operand} {b : Bool} (hr : (rdT .bool x).run σ = some b) : a.eval x = .bool b := by
  obtain ⟨d, h1, h2⟩ := bind_run hr
  have h3 := rdD_run h h1
  have h4 := as_some (of_run h2)
  subst h4
  exact rep_bool h3
theorem wrap_rng (k : IntKind) (z : Int) : inR k (k.wrap z) := by
  cases k <;> simp only [inR, loK, hiK, IntKind.wrap, IntKind.bits, IntKind.signed] <;> simp <;> (try split) <;> omega
theorem wrap_in {k : IntKind} {z : Int} (h : loK k ≤ z ∧ z ≤ hiK k) : k.wrap z = z := by
  cases k <;> simp only [loK, hiK] at h <;> simp [IntKind.wrap, IntKind.bits, IntKind.signed] <;> omega
end
end Go.Proofs.Ytmjijggkdbiijaa
/- Types of the program; loads, addresses, and operations that compute, are what the slots say. No statement is proved here. -/
namespace Go.Proofs.Ytmjijggkdbiijaa
open Go.RowKit
set_option linter.unusedVariables false
set_option linter.unusedSimpArgs false
/-- The cells of the zero value. -/
def zc : Ty → List Value
  | .int k => [.int k 0]
  | .bool => [.bool false]
  | .str => [.string ByteArray.empty]
  | .unit => []
  | .prod a b => zc a ++ zc b
  | .slice _ _ => [nilV]
  | .map _ _ => [.map none]
  | .fn _ _ => [.slice none 0 0]
  | .arr n e => (List.replicate n (zc e)).flatten
structure TyI (P : Program) (Γ : Ctx) (T : Nat) (t : Ty) : Prop where
  info : ∃ i, P.info? T = some i ∧ i.size = t.sz ∧ i.bytes ≤ 32768 ∧ ∃ z, i.zero = some z ∧ z.cells.toList = zc t
  row : ∃ d, P.underlying T = some d ∧ d.isRow = t.agg
  int : ∀ k, t = .int k → P.underlying T = some (.int k)
  bool : t = .bool → P.underlying T = some .bool
  str : t = .str → P.underlying T = some .string
  slice : ∀ te e, t = .slice te e → P.underlying T = some (.slice te) ∧ Γ.ty te = some e ∧ 0 < e.sz
  arr : ∀ n e, t = .arr n e → ∃ te, P.underlying T = some (.array n te) ∧ Γ.ty te = some e
  fld : ∀ k, k < Γ.nf T → ∃ fs f u, P.underlying T = some (.struct fs) ∧ fs[k]? = some f ∧ Γ.ty f.type = some u ∧ t.at (fldPath (Γ.nf T) k) = some u ∧ t.off (fldPath (Γ.nf T) k) = f.offset ∧ u.sz ≠ 0
  num : ∀ fs, P.underlying T = some (.struct fs) → fs.size = Γ.nf T
  zv : ∀ i z, P.info? T = some i → i.zero = some z → z = t.mk (zc t)
  map : ∀ k e, t = .map k e → ∃ kt et, P.underlying T = some (.map kt et) ∧ Γ.ty kt = some k ∧ Γ.ty et = some e ∧ k.flat = true
structure TyOk (P : Program) (Γ : Ctx) : Prop where
  ty : ∀ T t, Γ.ty T = some t → TyI P Γ T t
  eq : ∀ T t, Γ.ty T = some t → t.agg = true → Γ.eq T = true → ∀ (x y : t.T) (r : Bool), eqT t x y = some r → P.eqGuardType P.depth T = false ∧ ∀ (w : World) (S : Nat → Prop) (cs ds : List Value), Imm w S t x cs → Imm w S t y ds → (Op.equal T (t.mk cs) (t.mk ds)).run P w = .ok r w
  fn : ∀ T, Γ.fn T = true → (∃ d, P.underlying T = some d ∧ d.isRow = false) ∧ ∃ i, P.info? T = some i ∧ i.size = 1
  key : ∀ T k e kt et, Γ.ty T = some (.map k e) → P.underlying T = some (.map kt et) → Maps.Keyed P kt ∧ ∀ (w : World) (S : Nat → Prop) (y : k.T) (cs : List Value), Imm w S k y cs → ∃ l, keyOf P kt (k.mk cs) = some l
theorem Ty.at_append : ∀ {t : Ty} {p q : Path} {u : Ty}, t.at p = some u → t.at (p ++ q) = u.at q
  | t, [], q, u, h => by rw [Ty.at_nil] at h; obtain rfl := Option.some.inj h; rfl
  | .prod a b, .fst :: p, q, u, h => Ty.at_append (t := a) (p := p) h
  | .prod a b, .snd :: p, q, u, h => Ty.at_append (t := b) (p := p) h
  | .arr n e, .ix i :: p, q, u, h => Ty.at_append (t := e) (p := p) h
  | .int _, .fst :: _, _, _, h => by simp [Ty.at] at h
  | .int _, .snd :: _, _, _, h => by simp [Ty.at] at h
  | .int _, .ix _ :: _, _, _, h => by simp [Ty.at] at h
  | .bool, .fst :: _, _, _, h => by simp [Ty.at] at h
  | .bool, .snd :: _, _, _, h => by simp [Ty.at] at h
  | .bool, .ix _ :: _, _, _, h => by simp [Ty.at] at h
  | .str, .fst :: _, _, _, h => by simp [Ty.at] at h
  | .str, .snd :: _, _, _, h => by simp [Ty.at] at h
  | .str, .ix _ :: _, _, _, h => by simp [Ty.at] at h
  | .unit, .fst :: _, _, _, h => by simp [Ty.at] at h
  | .unit, .snd :: _, _, _, h => by simp [Ty.at] at h
  | .unit, .ix _ :: _, _, _, h => by simp [Ty.at] at h
  | .slice _ _, .fst :: _, _, _, h => by simp [Ty.at] at h
  | .map _ _, .fst :: _, _, _, h => by simp [Ty.at] at h
  | .fn _ _, .fst :: _, _, _, h => by simp [Ty.at] at h
  | .slice _ _, .snd :: _, _, _, h => by simp [Ty.at] at h
  | .map _ _, .snd :: _, _, _, h => by simp [Ty.at] at h
  | .fn _ _, .snd :: _, _, _, h => by simp [Ty.at] at h
  | .slice _ _, .ix _ :: _, _, _, h => by simp [Ty.at] at h
  | .map _ _, .ix _ :: _, _, _, h => by simp [Ty.at] at h
  | .fn _ _, .ix _ :: _, _, _, h => by simp [Ty.at] at h
  | .prod _ _, .ix _ :: _, _, _, h => by simp [Ty.at] at h
  | .arr _ _, .fst :: _, _, _, h => by simp [Ty.at] at h
  | .arr _ _, .snd :: _, _, _, h => by simp [Ty.at] at h
theorem Ty.off_append : ∀ {t : Ty} {p q : Path} {u : Ty}, t.at p = some u → t.off (p ++ q) = t.off p + u.off q
  | t, [], q, u, h => by
    rw [Ty.at_nil] at h; obtain rfl := Option.some.inj h
    have : t.off [] = 0 := by cases t <;> rfl
    rw [this, Nat.zero_add]; rfl
  | .prod a b, .fst :: p, q, u, h => Ty.off_append (t := a) (p := p) h
  | .prod a b, .snd :: p, q, u, h => by
    have := Ty.off_append (t := b) (p := p) (q := q) h
    simp only [List.cons_append, Ty.off, this, Nat.add_assoc]
  | .arr n e, .ix i :: p, q, u, h => by
    have := Ty.off_append (t := e) (p := p) (q := q) h
    simp only [List.cons_append, Ty.off, this, Nat.add_assoc]
  | .int _, .fst :: _, _, _, h => by simp [Ty.at] at h
  | .int _, .snd :: _, _, _, h => by simp [Ty.at] at h
  | .int _, .ix _ :: _, _, _, h => by simp [Ty.at] at h
  | .bool, .fst :: _, _, _, h => by simp [Ty.at] at h
  | .bool, .snd :: _, _, _, h => by simp [Ty.at] at h
  | .bool, .ix _ :: _, _, _, h => by simp [Ty.at] at h
  | .str, .fst :: _, _, _, h => by simp [Ty.at] at h
  | .str, .snd :: _, _, _, h => by simp [Ty.at] at h
  | .str, .ix _ :: _, _, _, h => by simp [Ty.at] at h
  | .unit, .fst :: _, _, _, h => by simp [Ty.at] at h
  | .unit, .snd :: _, _, _, h => by simp [Ty.at] at h
  | .unit, .ix _ :: _, _, _, h => by simp [Ty.at] at h
  | .slice _ _, .fst :: _, _, _, h => by simp [Ty.at] at h
  | .map _ _, .fst :: _, _, _, h => by simp [Ty.at] at h
  | .fn _ _, .fst :: _, _, _, h => by simp [Ty.at] at h
  | .slice _ _, .snd :: _, _, _, h => by simp [Ty.at] at h
  | .map _ _, .snd :: _, _, _, h => by simp [Ty.at] at h
  | .fn _ _, .snd :: _, _, _, h => by simp [Ty.at] at h
  | .slice _ _, .ix _ :: _, _, _, h => by simp [Ty.at] at h
  | .map _ _, .ix _ :: _, _, _, h => by simp [Ty.at] at h
  | .fn _ _, .ix _ :: _, _, _, h => by simp [Ty.at] at h
  | .prod _ _, .ix _ :: _, _, _, h => by simp [Ty.at] at h
  | .arr _ _, .fst :: _, _, _, h => by simp [Ty.at] at h
  | .arr _ _, .snd :: _, _, _, h => by simp [Ty.at] at h
theorem Ty.inb_append : ∀ {t : Ty} {p q : Path} {u : Ty}, t.at p = some u → t.inb p → u.inb q → t.inb (p ++ q)
  | t, [], q, u, h, _, hq => by rw [Ty.at_nil] at h; obtain rfl := Option.some.inj h; exact hq
  | .prod a b, .fst :: p, q, u, h, hp, hq => Ty.inb_append (t := a) (p := p) h hp hq
  | .prod a b, .snd :: p, q, u, h, hp, hq => Ty.inb_append (t := b) (p := p) h hp hq
  | .arr n e, .ix i :: p, q, u, h, hp, hq => ⟨hp.1, Ty.inb_append (t := e) (p := p) h hp.2 hq⟩
  | .int _, .fst :: _, _, _, h, _, _ => by simp [Ty.at] at h
  | .int _, .snd :: _, _, _, h, _, _ => by simp [Ty.at] at h
  | .int _, .ix _ :: _, _, _, h, _, _ => by simp [Ty.at] at h
  | .bool, .fst :: _, _, _, h, _, _ => by simp [Ty.at] at h
  | .bool, .snd :: _, _, _, h, _, _ => by simp [Ty.at] at h
  | .bool, .ix _ :: _, _, _, h, _, _ => by simp [Ty.at] at h
  | .str, .fst :: _, _, _, h, _, _ => by simp [Ty.at] at h
  | .str, .snd :: _, _, _, h, _, _ => by simp [Ty.at] at h
  | .str, .ix _ :: _, _, _, h, _, _ => by simp [Ty.at] at h
  | .unit, .fst :: _, _, _, h, _, _ => by simp [Ty.at] at h
  | .unit, .snd :: _, _, _, h, _, _ => by simp [Ty.at] at h
  | .unit, .ix _ :: _, _, _, h, _, _ => by simp [Ty.at] at h
  | .slice _ _, .fst :: _, _, _, h, _, _ => by simp [Ty.at] at h
  | .map _ _, .fst :: _, _, _, h, _, _ => by simp [Ty.at] at h
  | .fn _ _, .fst :: _, _, _, h, _, _ => by simp [Ty.at] at h
  | .slice _ _, .snd :: _, _, _, h, _, _ => by simp [Ty.at] at h
  | .map _ _, .snd :: _, _, _, h, _, _ => by simp [Ty.at] at h
  | .fn _ _, .snd :: _, _, _, h, _, _ => by simp [Ty.at] at h
  | .slice _ _, .ix _ :: _, _, _, h, _, _ => by simp [Ty.at] at h
  | .map _ _, .ix _ :: _, _, _, h, _, _ => by simp [Ty.at] at h
  | .fn _ _, .ix _ :: _, _, _, h, _, _ => by simp [Ty.at] at h
  | .prod _ _, .ix _ :: _, _, _, h, _, _ => by simp [Ty.at] at h
  | .arr _ _, .fst :: _, _, _, h, _, _ => by simp [Ty.at] at h
  | .arr _ _, .snd :: _, _, _, h, _, _ => by simp [Ty.at] at h
theorem Ty.inb_flds : ∀ {t : Ty} {p : Path}, (∀ s ∈ p, ∀ k, s ≠ .ix k) → t.inb p
  | .prod a _, .fst :: p, h => Ty.inb_flds (t := a) (fun s hs => h s (by simp [hs]))
  | .prod _ b, .snd :: p, h => Ty.inb_flds (t := b) (fun s hs => h s (by simp [hs]))
  | .arr n e, .ix i :: p, h => absurd rfl (h (.ix i) (by simp) i)
  | .int _, _, _ => by simp [Ty.inb]
  | .bool, _, _ => by simp [Ty.inb]
  | .str, _, _ => by simp [Ty.inb]
  | .unit, _, _ => by simp [Ty.inb]
  | .slice _ _, _, _ => by simp [Ty.inb]
  | .map _ _, _, _ => by simp [Ty.inb]
  | .fn _ _, _, _ => by simp [Ty.inb]
  | .prod _ _, [], _ => by simp [Ty.inb]
  | .prod _ _, .ix _ :: _, _ => by simp [Ty.inb]
  | .arr _ _, [], _ => by simp [Ty.inb]
  | .arr _ _, .fst :: _, _ => by simp [Ty.inb]
  | .arr _ _, .snd :: _, _ => by simp [Ty.inb]
theorem fldPath_no (n k : Nat) : ∀ s ∈ fldPath n k, ∀ j, s ≠ .ix j := by
  unfold fldPath
  split
  · simp
  · intro s hs j
    rcases List.mem_append.1 hs with hs | hs
    · rw [(List.mem_replicate.1 hs).2]; simp
    · split at hs
      · simp at hs
      · simp at hs; subst hs; simp
section
variable {P : Program} {Γ : Ctx} {w0 : World} {K : Nat → Prop} {lab : Lab} {σ : List Slot} {a : Act} {w : World} {C : List Nat}
theorem addr_add (g o n : Nat) : (⟨g, o, none⟩ : Addr).add n = ⟨g, o + n, none⟩ := by
  unfold Addr.add; split <;> simp_all
theorem mk_agg {t : Ty} (h : t.agg = true) (cs : List Value) : t.mk cs = .agg cs.toArray := by simp [Ty.mk, h]
theorem mk_one {t : Ty} (h : t.agg = false) (v : Value) : t.mk [v] = v := by simp [Ty.mk, h]
theorem sz_one {t : Ty} (h : t.agg = false) : t.sz = 1 := by cases t <;> simp [Ty.agg] at h <;> rfl
theorem isAgg_no {T : Nat} {d : TypeDesc} (hd : P.underlying T = some d) (hr : d.isRow = false) (w : World) : (isAgg T).run P w = .ok false w := by
  unfold isAgg
  rw [Sem.run_bind, run_underlying hd w]
  cases d <;> simp_all [TypeDesc.isRow]
theorem isAgg_yes {T : Nat} {d : TypeDesc} (hd : P.underlying T = some d) (hr : d.isRow = true) (w : World) : (isAgg T).run P w = .ok true w := by
  unfold isAgg
  rw [Sem.run_bind, run_underlying hd w]
  cases d <;> simp_all [TypeDesc.isRow]
/-- A variable of the type, at whatever place in a block. -/
theorem run_loadT (hT : TyOk P Γ) {T : Nat} {t : Ty} (ht : Γ.ty T = some t) {g o : Nat} {cs : List Value} (hc : w.rangeAt g o cs) (hl : cs.length = t.sz) : (loadVar T ⟨g, o, none⟩).run P w = .ok (t.mk cs) w := by
  have hI := hT.ty T t ht
  obtain ⟨d, hd, hr⟩ := hI.row
  obtain ⟨i, hi, hs, _⟩ := hI.info
  cases hg : t.agg with
  | true =>
    rw [hg] at hr
    rw [run_loadVar_mid w g o T cs d hc hd hr (by rw [hi]; simp [hs, hl]), mk_agg hg]
  | false =>
    rw [hg] at hr
    rw [sz_one hg] at hl
    match cs, hl with
    | [v], _ =>
      have hcell := hc 0 v rfl
      have hagg := isAgg_no hd hr w
      rw [mk_one hg]
      simp only [Nat.add_zero] at hcell
      simp [loadVar, Sem.run_bind, hagg, load, Sem.run, hcell]
theorem place_run (h : Sim w0 K lab σ a w) {x : Operand} {M : Nat} {p : Path} (hr : (place x).run σ = some (.at M p)) {t u : Ty} (ht : (σ.getD M .dead).rty = some t) (hu : t.at p = some u) :
    ∃ g o, a.tmps.getD M undef = .pointer (some ⟨g, o, none⟩) ∧ t.inb p ∧ a.eval x = .pointer (some ⟨g, o + t.off p, none⟩) := by
  cases x with
  | tmp n =>
    simp only [place, RM.run] at hr
    have hn := h.slots n
    have hoff : t.off [] = 0 := by cases t <;> rfl
    have hin : t.inb [] := by cases t <;> trivial
    have own : Place.at n [] = Place.at M p → ∀ g o, a.tmps.getD n undef = .pointer (some ⟨g, o, none⟩) → ∃ g o, a.tmps.getD M undef = .pointer (some ⟨g, o, none⟩) ∧ t.inb p ∧ a.eval (.tmp n) = .pointer (some ⟨g, o + t.off p, none⟩) := by
      intro e g o hg
      simp only [Place.at.injEq] at e
      obtain ⟨rfl, rfl⟩ := e
      exact ⟨g, o, hg, hin, by rw [hoff, Nat.add_zero]; exact hg⟩
    generalize hσ : σ.getD n .dead = s at hr hn
    split at hr
    · obtain ⟨g, ty, cs, e, _⟩ := hn; simp only [RM.run, Option.some.injEq] at hr; exact own hr g 0 e
    · obtain ⟨g, ty, cs, e, _⟩ := hn; simp only [RM.run, Option.some.injEq] at hr; exact own hr g 0 e
    · obtain ⟨g, ty, cs, e, _⟩ := hn; simp only [RM.run, Option.some.injEq] at hr; exact own hr g 0 e
    · obtain ⟨c1, ⟨g, o, ds, rfl, _⟩, e⟩ := hn; simp only [RM.run, Option.some.injEq] at hr; exact own hr g o e
    · rename_i M' p'
      simp only [RM.run, Option.some.injEq, Place.at.injEq] at hr
      obtain ⟨rfl, rfl⟩ := hr
      obtain ⟨g, o, t', u', e1, e2, e3, e4, e5⟩ := hn
      rw [ht] at e2
      obtain rfl := Option.some.inj e2
      exact ⟨g, o, e1, e3, e5⟩
    · simp [RM.run] at hr
    · simp [RM.run] at hr
  | _ => simp [place, RM.run] at hr
theorem placeEl_run (h : Sim w0 K lab σ a w) {x : Operand} {M i : Nat} {p q : Path} (hr : (place x).run σ = some (.el M p i q)) : SlotOk lab w σ a.tmps 0 (.elt M p i q) (a.eval x) := by
  cases x with
  | tmp n =>
    simp only [place, RM.run] at hr
    have hn := h.slots n
    generalize hσ : σ.getD n .dead = s at hr hn
    split at hr
    · simp [RM.run] at hr
    · simp [RM.run] at hr
    · simp [RM.run] at hr
    · simp [RM.run] at hr
    · simp [RM.run] at hr
    · simp only [RM.run, Option.some.injEq, Place.el.injEq] at hr
      obtain ⟨rfl, rfl, rfl, rfl⟩ := hr
      exact hn
    · simp [RM.run] at hr
  | _ => simp [place, RM.run] at hr
/-- What lies in a variable in memory. -/
theorem Sim.cont (h : Sim w0 K lab σ a w) {M : Nat} {t : Ty} {x : t.T} {g o : Nat} (hp : a.tmps.getD M undef = .pointer (some ⟨g, o, none⟩))
    (hM : σ.getD M .dead = .boxo t x ∨ σ.getD M .dead = .box (.dat t x) ∨ σ.getD M .dead = .val (.ref (.dat t x))) :
    ∃ cs, w.rangeAt g o cs ∧ cs.length = t.sz ∧ ((σ.getD M .dead = .boxo t x ∧ Own w (Fz lab w) (Lb lab M 0) 0 t x cs) ∨ Imm w (Fz lab w) t x cs) := by
  have hs := h.slots M
  rcases hM with e | e | e <;> rw [e] at hs
  · obtain ⟨g', ty, ds, h1, h2, h3, h4⟩ := hs
    rw [h1] at hp; simp only [Value.pointer.injEq, Option.some.injEq, Addr.mk.injEq] at hp; obtain ⟨rfl, rfl, _⟩ := hp
    exact ⟨ds, fun j v hv => by rw [Nat.zero_add, cell_of_row w g' j ds.toArray ty (0, 0) h3]; simpa using hv, h4.len, .inl ⟨e, h4⟩⟩
  · obtain ⟨g', ty, ds, h1, h2, h3, h4⟩ := hs
    rw [h1] at hp; simp only [Value.pointer.injEq, Option.some.injEq, Addr.mk.injEq] at hp; obtain ⟨rfl, rfl, _⟩ := hp
    exact ⟨ds, fun j v hv => by rw [Nat.zero_add, cell_of_row w g' j ds.toArray ty (0, 0) h3]; simpa using hv, Imm.len h4, .inr h4⟩
  · obtain ⟨c1, ⟨g', o', ds, rfl, h2, h3, h4⟩, h5⟩ := hs
    rw [h5] at hp
    simp [D.mk, D.agg] at hp
    obtain ⟨rfl, rfl⟩ := hp
    exact ⟨ds, h3, Imm.len h4, .inr h4⟩
theorem range_part {g o : Nat} {l : List Value} {n m : Nat} (hr : w.rangeAt g o l) : w.rangeAt g (o + n) ((l.drop n).take m) := by
  intro j v hv
  rw [List.getElem?_take] at hv
  split at hv
  · rw [List.getElem?_drop] at hv
    have := hr _ _ hv
    rw [← Nat.add_assoc] at this
    exact this
  · cases hv
theorem fact_dat {t : Ty} {y : t.T} (h : t.ok y) : allP (D.dat t y).fact := Ty.fact_of_ok h
end
end Go.Proofs.Ytmjijggkdbiijaa
/- Loads, addresses, computing operations: each is what the slots say. No statement is proved here. -/
namespace Go.Proofs.Ytmjijggkdbiijaa
open Go.RowKit
set_option linter.unusedVariables false
set_option linter.unusedSimpArgs false
section
variable {P : Program} {Γ : Ctx} {w0 : World} {K : Nat → Prop} {lab : Lab} {σ : List Slot} {a : Act} {w : World} {C : List Nat} {o : Oper} {pre fact : List Prop} {ws : Wr}
theorem runs_load {T : Nat} {x : Operand} (ho : o.op = .load T x) {g ofs : Nat} {v : Value} (hx : a.eval x = .pointer (some ⟨g, ofs, none⟩)) (hr : (loadVar T ⟨g, ofs, none⟩).run P w = .ok v w) : Runs P o a w v w := by
  refine .inl ?_
  unfold execOp
  simp only [ho, hx, Instr.loadAt, Instr.sureAddr, Sem.run_bind, Sem.run_pure, Result.andThen_ok, hr]
theorem rep_mk {S : Nat → Prop} {t : Ty} {y : t.T} {cs : List Value} (h : Imm w S t y cs) : RepV w S (.dat t y) (t.mk cs) := ⟨cs, h, rfl⟩
theorem sliceIn_run {M : Nat} {p : Path} {d : D} (h : (sliceIn M p).run σ = some d) : ∃ (t : Ty) (x : t.T), getS t x p = d ∧ (σ.getD M .dead = .own t x ∨ σ.getD M .dead = .val (.dat t x) ∨ σ.getD M .dead = .boxo t x ∨ σ.getD M .dead = .box (.dat t x) ∨ σ.getD M .dead = .val (.ref (.dat t x))) := by
  simp only [sliceIn, RM.run] at h
  split at h
  · rename_i t x e; simp only [RM.run, Option.some.injEq] at h; exact ⟨t, x, h, .inl e⟩
  · rename_i t x e; simp only [RM.run, Option.some.injEq] at h; exact ⟨t, x, h, .inr (.inl e)⟩
  · rename_i t x e; simp only [RM.run, Option.some.injEq] at h; exact ⟨t, x, h, .inr (.inr (.inl e))⟩
  · rename_i t x e; simp only [RM.run, Option.some.injEq] at h; exact ⟨t, x, h, .inr (.inr (.inr (.inl e)))⟩
  · rename_i t x e; simp only [RM.run, Option.some.injEq] at h; exact ⟨t, x, h, .inr (.inr (.inr (.inr e)))⟩
  · simp [RM.run] at h
/-- A slice's cells, whoever owns them. -/
theorem slice_cells (h : Sim w0 K lab σ a w) {te : Nat} {e : Ty} {ys : (Ty.slice te e).T} {L : Nat → Nat → Prop} {i g ofs len c : Nat} (hs : Own w (Fz lab w) L i (.slice te e) ys [.slice (some ⟨g, ofs, none⟩) len c] ∨ Imm w (Fz lab w) (.slice te e) ys [.slice (some ⟨g, ofs, none⟩) len c]) :
    ys.length = len ∧ ∃ flat : List Value, (∀ j (hj : j < ys.length), Imm w (Fz lab w) e ys[j] ((flat.drop (j * e.sz)).take e.sz)) ∧ (ys ≠ [] → flat.length = ys.length * e.sz ∧ w.rangeAt g ofs flat ∧ len ≤ c) := by
  rcases hs with hs | hs
  · simp only [Own] at hs
    obtain ⟨hl, v, flat, e1, h2, h3, h4⟩ := hs
    simp only [List.cons.injEq, and_true] at e1
    subst e1
    obtain ⟨a', c', e2, q1, q2, q3, q4⟩ := ownsRow_range h2
    simp only [Value.slice.injEq] at e2
    obtain ⟨rfl, rfl, rfl⟩ := e2
    refine ⟨rfl, flat, h4, fun _ => ?_⟩
    obtain ⟨rfl, _, q5, _⟩ := q4 g ofs none rfl
    exact ⟨h2.1, q5, q1⟩
  · simp only [Imm] at hs
    obtain ⟨hl, a', c', flat, e1, q1, q2, q3, q4, q5⟩ := hs
    simp only [List.cons.injEq, and_true, Value.slice.injEq] at e1
    obtain ⟨rfl, rfl, rfl⟩ := e1
    refine ⟨rfl, flat, q4, fun hne => ?_⟩
    obtain ⟨g', o', e2, _, q6⟩ := q5 hne
    simp only [Option.some.injEq, Addr.mk.injEq] at e2
    obtain ⟨rfl, rfl, _⟩ := e2
    exact ⟨q3, q6, q1⟩
theorem good_load (h : Sim w0 K lab σ a w) (hR : Rt C σ) (hC : True) (hT : TyOk P Γ) {T : Nat} {x : Operand} (ho : o.op = .load T x)
    (hrun : (evLoad Γ C o T x).run σ = some (.pure pre fact ws)) (hp : allP pre) : Good P C w0 K lab o σ a w fact ws := by
  obtain ⟨pl, h1, h2⟩ := bind_run hrun
  cases pl with
  | «at» M p =>
    simp only [RM.run] at h2
    -- a variable of a datum
    have key : ∀ {t : Ty} {y : t.T} {s : Slot}, (σ.getD M .dead = .boxo t y ∨ σ.getD M .dead = .box (.dat t y) ∨ σ.getD M .dead = .val (.ref (.dat t y))) → ((t.at p).isSome && t.at p == Γ.ty T) = true →
        (s = .val (getS t y p) ∧ (σ.getD M .dead = .boxo t y → (getS t y p).flat = true) ∨ s = .frm M p) → (put C o s [] [] (getS t y p).fact).run σ = some (.pure pre fact ws) → Good P C w0 K lab o σ a w fact ws := by
      intro t y s hM hty hs hput
      simp only [Bool.and_eq_true, beq_iff_eq] at hty
      obtain ⟨u, hu⟩ := Option.isSome_iff_exists.1 hty.1
      have hTu : Γ.ty T = some u := by rw [← hty.2, hu]
      obtain ⟨z, hz⟩ := getS_of_at (x := y) hu
      have hrty : (σ.getD M .dead).rty = some t := by rcases hM with e | e | e <;> rw [e] <;> rfl
      obtain ⟨g, ofs, hg, hin, hx⟩ := place_run h h1 hrty hu
      obtain ⟨cs, c1, c2, c3⟩ := h.cont hg hM
      have hcells : w.rangeAt g (ofs + t.off p) ((cs.drop (t.off p)).take u.sz) := range_part c1
      have hlen : ((cs.drop (t.off p)).take u.sz).length = u.sz := by
        have := Ty.off_le hu hin
        simp only [List.length_take, List.length_drop]; omega
      have himm : Imm w (All w) u z ((cs.drop (t.off p)).take u.sz) := by
        rcases c3 with ⟨_, c3⟩ | c3
        · exact (Imm.get (c3.imm (fun g hg => hg.all) (fun i g hg => h.owns hg)) hz hin).2
        · exact Imm.keep (fun g hg => ⟨hg.all, rfl⟩) (Imm.get c3 hz hin).2
      refine good_put h hR hC hput (v := u.mk ((cs.drop (t.off p)).take u.sz)) (fun _ => ?_) (fun _ => runs_load ho hx (run_loadT hT hTu hcells hlen)) (fun _ N hN => ?_) hp
      · rw [hz]; exact fact_dat himm.ok
      · rcases hs with ⟨rfl, hfl⟩ | rfl
        · rw [hz]
          rcases c3 with ⟨e, c3⟩ | c3
          · refine RepV.flat (S := All w) (w := w) ?_ (rep_mk himm)
            rw [← hz]; exact hfl e
          · exact rep_mk (Imm.get c3 hz hin).2
        · exact ⟨u, _, ⟨hlen, .inl ⟨g, ofs, t, hg, hrty, hin, hu, hcells⟩⟩, rfl⟩
    -- a variable of a function
    have fkey : ∀ {f : Nat} {caps : D}, (σ.getD M .dead = .box (.clo f caps) ∨ σ.getD M .dead = .val (.ref (.clo f caps))) → (p = [] ∧ Γ.fn T = true) → (put C o (.val (.clo f caps)) [] [] []).run σ = some (.pure pre fact ws) → Good P C w0 K lab o σ a w fact ws := by
      intro f caps hM hpf hput
      obtain ⟨rfl, hfn⟩ := hpf
      obtain ⟨⟨e, he1, he2⟩, i, hi1, hi2⟩ := hT.fn T hfn
      have hx : a.eval x = a.tmps.getD M undef := by
        cases x with
        | tmp n =>
          simp only [place, RM.run] at h1
          split at h1 <;> simp only [RM.run, Option.some.injEq, Place.at.injEq, reduceCtorEq] at h1
          · rw [← h1.1]; rfl
          · rw [← h1.1]; rfl
          · rw [← h1.1]; rfl
          · rw [← h1.1]; rfl
          · rename_i q
            obtain ⟨rfl, rfl⟩ := h1
            have hn := h.slots n
            rw [q] at hn
            obtain ⟨g, o', t', u', _, e2, _⟩ := hn
            rcases hM with e | e <;> rw [e] at e2 <;> cases e2
        | _ => simp [place, RM.run] at h1
      have fin : ∀ {g ofs : Nat} {c1 : List Value}, a.tmps.getD M undef = .pointer (some ⟨g, ofs, none⟩) → w.rangeAt g ofs c1 → RepC w (Fz lab w) (.clo f caps) c1 → Good P C w0 K lab o σ a w fact ws := by
        intro g ofs c1 hg hr hrep
        obtain ⟨vs, rfl, hrep'⟩ := hrep
        have hcell := hr 0 _ rfl
        simp only [Nat.add_zero] at hcell
        have hagg := isAgg_no he1 he2 w
        exact good_put h hR hC hput (v := .func (.func f) #[] vs.toArray) (fun _ => trivial) (fun _ => runs_load ho (g := g) (ofs := ofs) (by rw [hx, hg]) (by simp [loadVar, Sem.run_bind, hagg, load, Sem.run, hcell])) (fun _ N _ => ⟨_, ⟨vs, rfl, hrep'⟩, rfl⟩) hp
      have hs := h.slots M
      rcases hM with e | e <;> rw [e] at hs
      · obtain ⟨g, ty, cs, e1, e2, e3, e4⟩ := hs
        exact fin e1 (fun j v hv => by rw [Nat.zero_add, cell_of_row w g j cs.toArray ty (0, 0) e3]; simpa using hv) e4
      · obtain ⟨c1, ⟨g, ofs, ds, rfl, e2, e3, e4⟩, e5⟩ := hs
        exact fin e5 e3 e4
    split at h2
    · rename_i t y e
      split at h2
      · rename_i hc; exact key (.inr (.inl e)) hc (.inl ⟨rfl, fun q => by rw [e] at q; cases q⟩) h2
      · simp [RM.run] at h2
    · rename_i f cs e
      split at h2
      · rename_i hc; exact fkey (.inl e) (by simpa using hc) h2
      · simp [RM.run] at h2
    · rename_i t y e
      split at h2
      · rename_i hc
        refine key (.inl e) hc ?_ h2
        unfold loaded
        cases hf : (getS t y p).flat
        · exact .inr rfl
        · exact .inl ⟨rfl, fun _ => rfl⟩
      · simp [RM.run] at h2
    · rename_i t y e
      split at h2
      · rename_i hc; exact key (.inr (.inr e)) hc (.inl ⟨rfl, fun q => by rw [e] at q; cases q⟩) h2
      · simp [RM.run] at h2
    · rename_i f cs e
      split at h2
      · rename_i hc; exact fkey (.inr e) (by simpa using hc) h2
      · simp [RM.run] at h2
    · simp [RM.run] at h2
  | el M p i q =>
    obtain ⟨d, h3, h4⟩ := bind_run h2
    have hel := placeEl_run h h1
    obtain ⟨te, e, u, g, ofs, len, c, hh, hi, hq, hu, hx⟩ := hel
    split at h4
    · rename_i te' e' ys
      split at h4
      · rename_i hty
        simp only [Bool.and_eq_true, beq_iff_eq] at hty
        -- the slice lies at the place
        obtain ⟨t, x, hgs, hM⟩ := sliceIn_run h3
        obtain ⟨e1, e2⟩ := h.at' hh hgs hM
        simp only [Ty.slice.injEq] at e1
        obtain ⟨rfl, rfl⟩ := e1
        obtain ⟨b1, b2, b3, b4⟩ := slice_cells h e2
        have hilt : i < ys.length := by rw [b1]; exact hi
        have hel := b3 i hilt
        obtain ⟨b5, b6, b7⟩ := b4 (by intro q; rw [q] at hilt; simp at hilt)
        obtain ⟨z, hz⟩ := getS_of_at (x := ys[i]) hu
        obtain ⟨_, hcell⟩ := Imm.get hel hz hq
        have hTu : Γ.ty T = some u := by rw [← hty.2, hu]
        have hrng : w.rangeAt g (ofs + (i * e'.sz + e'.off q)) ((((b2.drop (i * e'.sz)).take e'.sz).drop (e'.off q)).take u.sz) := by
          have := range_part (n := e'.off q) (m := u.sz) (range_part (n := i * e'.sz) (m := e'.sz) b6)
          rw [Nat.add_assoc] at this
          exact this
        have hget : ys.getD i e'.zero = ys[i] := by rw [List.getD_eq_getElem?_getD, List.getElem?_eq_getElem hilt]; rfl
        rw [hget] at h4
        refine good_put h hR hC h4 (v := u.mk _) (fun _ => ?_) (fun _ => runs_load ho hx (run_loadT hT hTu hrng hcell.len)) (fun _ N _ => ?_) hp
        · rw [hz]; exact fact_dat hcell.ok
        · rw [hz]; exact rep_mk hcell
      · simp [RM.run] at h4
    · simp [RM.run] at h4
end
end Go.Proofs.Ytmjijggkdbiijaa
