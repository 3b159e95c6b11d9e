/- Results that lie in blocks; elements of rows. -/
import Derived.Test.YtkhheofgnhndbaaGm
namespace Go.Proofs.Ytkhheofgnhndbaa
set_option linter.unusedVariables false
set_option linter.unusedSimpArgs false
open Go.RowKit
theorem OwnC.at {B : Nat} {w : World} {A : Option Addr} {n c : Nat} {xs : List (Int × Int)} (h : OwnC B w (.slice A n c) xs) {i : Nat} (hi : i < xs.length) : ∃ ad, A = some ad ∧ CellAt w ad i (xs.getD i (0, 0)) := by
  obtain ⟨A', c', hAe, _, _, hc⟩ := h.cs
  injection hAe with hA1 _ hA2
  subst hA1
  obtain ⟨ad, e, hc⟩ := hc (by omega)
  exact ⟨ad, e, hc i hi⟩
theorem Cs.at {w : World} {A : Option Addr} {n c : Nat} {xs : List (Int × Int)} (h : Cs w (.slice A n c) xs) {i : Nat} (hi : i < xs.length) : ∃ ad, A = some ad ∧ CellAt w ad i (xs.getD i (0, 0)) := by
  obtain ⟨A', c', hAe, _, _, hc⟩ := h
  injection hAe with hA1 _ hA2
  subst hA1
  obtain ⟨ad, e, hc⟩ := hc (by omega)
  exact ⟨ad, e, hc i hi⟩
theorem CellAt.uniq {w : World} {a b : Addr} {i : Nat} {p : Int × Int} (h : CellAt w a i p) (e : some a = some b) : CellAt w b i p := by
  injection e with e; rw [← e]; exact h
theorem CellAt.two {w : World} {a : Addr} {i : Nat} {x y : Int} (h : CellAt w a i (x, y)) : w.cell? (a.add (i * 2)) = some (.int .i8 x) ∧ w.cell? ⟨(a.add (i * 2)).block, (a.add (i * 2)).off + 1, none⟩ = some (.int .i8 y) := h
theorem OwnC.sl {B : Nat} {w : World} {v : Value} {xs : List (Int × Int)} (h : OwnC B w v xs) : ∃ A c, v = .slice A xs.length c := by
  obtain ⟨A, c, e, _⟩ := h.cs
  exact ⟨A, c, e⟩
section
variable {P : Program} {fn : Func} {tmps : Array Value} {w : World}
theorem results_ct {p u : Tmp} {ty : TypeId} (h : fn.results = #[.cell p ty, .tmp u]) (g : Nat) (t : TypeId) (cs : Array Value) (fr : Nat × Nat) (d : TypeDesc)
    (hp : tmps.getD p undef = .pointer (some ⟨g, 0, none⟩)) (hg : w.heap[g]? = some (.cells cs t fr))
    (hu : P.underlying ty = some d) (hd : (match d with | .struct _ | .array _ _ => true | _ => false) = true) (hi : (P.info? ty).map (·.size) = some cs.size) :
    (results fn tmps).run P w = .ok (.tuple #[.agg cs, tmps.getD u undef]) w := by
  have hp' : tmps[p]?.getD undef = .pointer (some ⟨g, 0, none⟩) := by simpa using hp
  simp [results, h, hp', asAddr, run_loadVar_row w g t ty cs fr d hg hu hd hi]
theorem results_ctt {p u v : Tmp} {ty : TypeId} (h : fn.results = #[.cell p ty, .tmp u, .tmp v]) (g : Nat) (t : TypeId) (cs : Array Value) (fr : Nat × Nat) (d : TypeDesc)
    (hp : tmps.getD p undef = .pointer (some ⟨g, 0, none⟩)) (hg : w.heap[g]? = some (.cells cs t fr))
    (hu : P.underlying ty = some d) (hd : (match d with | .struct _ | .array _ _ => true | _ => false) = true) (hi : (P.info? ty).map (·.size) = some cs.size) :
    (results fn tmps).run P w = .ok (.tuple #[.agg cs, tmps.getD u undef, tmps.getD v undef]) w := by
  have hp' : tmps[p]?.getD undef = .pointer (some ⟨g, 0, none⟩) := by simpa using hp
  simp [results, h, hp', asAddr, run_loadVar_row w g t ty cs fr d hg hu hd hi]
theorem results_cctt {p q u v : Tmp} {ty : TypeId} (h : fn.results = #[.cell p ty, .cell q ty, .tmp u, .tmp v]) (g g' : Nat) (t t' : TypeId) (cs cs' : Array Value) (fr fr' : Nat × Nat) (d : TypeDesc)
    (hp : tmps.getD p undef = .pointer (some ⟨g, 0, none⟩)) (hg : w.heap[g]? = some (.cells cs t fr)) (hq : tmps.getD q undef = .pointer (some ⟨g', 0, none⟩)) (hg' : w.heap[g']? = some (.cells cs' t' fr'))
    (hu : P.underlying ty = some d) (hd : (match d with | .struct _ | .array _ _ => true | _ => false) = true) (hi : (P.info? ty).map (·.size) = some cs.size) (hi' : (P.info? ty).map (·.size) = some cs'.size) :
    (results fn tmps).run P w = .ok (.tuple #[.agg cs, .agg cs', tmps.getD u undef, tmps.getD v undef]) w := by
  have hp' : tmps[p]?.getD undef = .pointer (some ⟨g, 0, none⟩) := by simpa using hp
  have hq' : tmps[q]?.getD undef = .pointer (some ⟨g', 0, none⟩) := by simpa using hq
  simp [results, h, hp', hq', asAddr, run_loadVar_row w g t ty cs fr d hg hu hd hi, run_loadVar_row w g' t' ty cs' fr' d hg' hu hd hi']
end
theorem SetB.blk_cell {g : Nat} {w w' : World} {ad : Addr} {v : Value} (h : SetB g w w') (hc : w.cell? ad = some v) (hne : ad.block ≠ g) : w'.cell? ad = some v := by
  rw [World.cell?_of_block (h.block ad.block hne)]; exact hc
/-- An operation whose value is the same in every world of S; its temporary by number. -/
theorem anyH_val {P : Program} {ops : Array Oper} {Q : Exit → Act → World → Prop} {S : World → Prop} {fuel : Nat} {listed : Array Bool} {a : Act} {w : World} (i N : Nat) (o : Oper) (v : Value) (hi : ops[i]? = some o) (hd : o.dst = some N) (hg : o.guard = none) (hs : Region.noSelect ops = true) (hf : Region.free .any ops listed i = true) (hr : (Region.ready .any ops listed).contains i = true)
    (hQ : ∀ c a w, Q (.panic c) (a.put (some N) v) w → Q (.panic c) a w) (hS : S w) (hv : ∀ w, S w → (execOp a.eval o).run P w = .ok (.value v) w)
    (h : wpAnyH P .any ops Q S fuel (listed.setIfInBounds i true) (a.put (some N) v) w) : wpAnyH P .any ops Q S (fuel + 1) listed a w := by
  rw [← hd] at hQ h
  exact anyH_take i o v hi hg hs hf hr hQ hS hv h
theorem isz40 (x y : Int) : (Try.prog.info? 40).map (·.size) = some (#[Value.int .i8 x, .int .i8 y] : Array Value).size := by kernel_rfl
end Go.Proofs.Ytkhheofgnhndbaa
