/- A ground that came in as an argument: what it reads as. -/
import Derived.Test.YtkhheofgnhndbaaGb
import Derived.ProofKit
import Derived.OpenShut
import Derived.ChangeOld
import Derived.Deep.Slices
import Derived.Lib.SmallJoins
namespace Go.Proofs.Ytkhheofgnhndbaa
set_option linter.unusedVariables false
set_option linter.unusedSimpArgs false
open Go.ChangeShapes Go.WideShapes Go.ChangeAt Go.RowKit Go.Joins Go.Deep
section
variable {H : Type} {enc : TypeId × Value → H} {w : World} {base : Nat} {spare : Nat → Bool} {held : Bool}
theorem read_i8 {T n : Nat} {cs : List Value} {x : DataW H × List MemPlace} (hT : Try.prog.underlying T = some (.int .i8)) (h : DataW.trod enc Try.prog w base spare held n T cs = some x) : ∃ a, cs = [.int .i8 a] ∧ i8ok a := by
  obtain ⟨a, rfl, _, wf⟩ := DataW.trod_int hT h
  exact ⟨a, rfl, bounds_i8 wf⟩
theorem bounds_i16' {n : Int} (h : (Lit.int .i16 n).wf = true) : i16ok n := by
  simp [Lit.wf, IntKind.min, IntKind.max, IntKind.signed, IntKind.bits] at h
  exact ⟨by omega, by omega⟩
theorem read_row {n : Nat} {cs : List Value} {x : DataW H × List MemPlace} (h : DataW.trod enc Try.prog w base spare held n 24 cs = some x) : cs.length = 9 ∧ ∀ i, i < 9 → ∃ a, cs[i]? = some (.int .i16 a) ∧ i16ok a := by
  obtain ⟨xs, m, _, _, hl, hx, hi⟩ := DataW.trod_array Try.underlying24 h
  have c24 : Try.prog.cellsOf 24 = 9 := by kernel_rfl
  have c23 : Try.prog.cellsOf 23 = 1 := by kernel_rfl
  rw [c24] at hl
  refine ⟨hl, fun i h9 => ?_⟩
  have := hi i h9
  rw [c23, Nat.mul_one, List.getElem?_eq_getElem (show i < xs.length by omega)] at this
  obtain ⟨a, he, _, wf⟩ := DataW.trod_int Try.underlying23 this
  refine ⟨a, ?_, bounds_i16' wf⟩
  have h2 := congrArg (fun l => l[0]?) he
  simp only [List.getElem?_take, List.getElem?_drop, Nat.add_zero] at h2
  simpa using h2
theorem read_rows {n : Nat} {cs : List Value} {x : DataW H × List MemPlace} (h : DataW.trod enc Try.prog w base spare held n 25 cs = some x) : ∃ hs : List Int, cs = i16s hs ∧ hs.length = 81 ∧ ∀ a ∈ hs, i16ok a := by
  obtain ⟨xs, m, _, _, hl, hx, hi⟩ := DataW.trod_array Try.underlying25 h
  have c25 : Try.prog.cellsOf 25 = 81 := by kernel_rfl
  have c24 : Try.prog.cellsOf 24 = 9 := by kernel_rfl
  rw [c25] at hl
  have key : ∀ i, i < 81 → ∃ a, cs[i]? = some (.int .i16 a) ∧ i16ok a := by
    intro i h81
    have h1 := hi (i / 9) (by omega)
    rw [c24, List.getElem?_eq_getElem (show i / 9 < xs.length by omega)] at h1
    obtain ⟨_, hr⟩ := read_row h1
    obtain ⟨a, ha, wa⟩ := hr (i % 9) (Nat.mod_lt _ (by omega))
    rw [List.getElem?_take_of_lt (Nat.mod_lt _ (by omega)), List.getElem?_drop] at ha
    rw [show i / 9 * 9 + i % 9 = i by omega] at ha
    exact ⟨a, ha, wa⟩
  obtain ⟨f, hf⟩ := choose_lt (α := Int) key
  refine ⟨(List.range 81).map f, ?_, by simp, fun a ha => ?_⟩
  · apply List.ext_getElem?
    intro i
    by_cases h81 : i < 81
    · rw [(hf i h81).1]; simp [i16s, h81]
    · rw [List.getElem?_eq_none (by omega), List.getElem?_eq_none (by simp [i16s]; omega)]
  · simp only [List.mem_map, List.mem_range] at ha
    obtain ⟨i, h81, rfl⟩ := ha
    exact (hf i h81).2
theorem two_of {cs : List Value} {u v : Value} (hl : cs.length = 2) (h0 : (cs.drop 0).take 1 = [u]) (h1 : (cs.drop 1).take 1 = [v]) : cs = [u, v] := by
  match cs, hl with
  | [q0, q1], _ =>
    have e0 : q0 = u := by simpa using h0
    have e1 : q1 = v := by simpa using h1
    rw [e0, e1]
theorem four_of {l : List Value} {a b c : Value} {hs : List Value} (hL : l.length = 84) (e0 : (l.drop 0).take 1 = [a]) (e1 : (l.drop 1).take 1 = [b]) (e2 : (l.drop 2).take 81 = hs) (e3 : (l.drop 83).take 1 = [c]) : l = a :: b :: (hs ++ [c]) := by
  have a1 : l = l.take 1 ++ l.drop 1 := (List.take_append_drop 1 l).symm
  have a2 : l.drop 1 = (l.drop 1).take 1 ++ l.drop 2 := by rw [← List.drop_drop (i := 1) (j := 1)]; exact (List.take_append_drop 1 _).symm
  have a3 : l.drop 2 = (l.drop 2).take 81 ++ l.drop 83 := by rw [← List.drop_drop (i := 81) (j := 2)]; exact (List.take_append_drop 81 _).symm
  have a4 : l.drop 83 = (l.drop 83).take 1 := by rw [List.take_of_length_le]; simp; omega
  rw [List.drop_zero] at e0
  rw [a1, a2, a3, a4, e0, e1, e2, e3]
  simp
set_option maxRecDepth 100000 in
theorem read_cells {n : Nat} {cs : List Value} {x : DataW H × List MemPlace} (h : DataW.trod enc Try.prog w base spare held n 26 cs = some x) : ∃ v xs, cs = [v] ∧ Cs w v xs ∧ ∀ p ∈ xs, i8ok p.1 ∧ i8ok p.2 := by
  have c48 : Try.prog.cellsOf 48 = 2 := by kernel_rfl
  have c22 : Try.prog.cellsOf 22 = 1 := by kernel_rfl
  rcases open_slice Try.underlying26 h with ⟨rfl, _⟩ | ⟨a, len, cap, m, n', D, Pl, rfl, _, hl, hm, hmm, _, hc⟩
  · exact ⟨_, [], rfl, ⟨none, 0, rfl, Nat.le_refl _, Nat.zero_le _, fun h => absurd h (by simp)⟩, fun p hp => absurd hp (by simp)⟩
  · have hlm : len ≤ m := by rw [hmm]; split <;> omega
    have key : ∀ i, i < len → ∃ p : Int × Int, CellAt w a i p ∧ i8ok p.1 ∧ i8ok p.2 := by
      intro i hi
      obtain ⟨cs', h1, h2⟩ := hc i (by omega)
      rw [c48] at h1
      obtain ⟨y0, y1, k, _, hl2, f0, f1⟩ := trod_struct2 Try.underlying48 h2
      rw [c48] at hl2
      obtain ⟨_, hlen, hat⟩ := World.cells?_some h1
      obtain ⟨p0, e0, w0⟩ := read_i8 Try.underlying22 f0
      obtain ⟨p1, e1, w1⟩ := read_i8 Try.underlying22 f1
      have hcs : cs' = [Value.int .i8 p0, Value.int .i8 p1] := two_of hl2 e0 e1
      subst hcs
      clear e0 e1 f0 f1 h2
      have h0 := hat 0 (by simp)
      have h1 := hat 1 (by simp)
      exact ⟨(p0, p1), ⟨h0, h1⟩, w0, w1⟩
    obtain ⟨f, hf⟩ := choose_lt (α := Int × Int) key
    have hfl : ((List.range len).map f).length = len := by simp
    refine ⟨_, (List.range len).map f, rfl, ⟨some a, cap, by rw [hfl], by rw [hfl]; exact hl, hm, fun _ => ⟨a, rfl, fun j hj => ?_⟩⟩, fun p hp => ?_⟩
    · rw [hfl] at hj
      have e : ((List.range len).map f).getD j (0, 0) = f j := by simp [List.getD_eq_getElem?_getD, hj]
      rw [e]
      exact (hf j hj).1
    · simp only [List.mem_map, List.mem_range] at hp
      obtain ⟨i, hi, rfl⟩ := hp
      exact (hf i hi).2
set_option maxRecDepth 100000 in
theorem open_ground {r : Reach} {b0 : Nat} {v : Value} {d : DataW H} {p : List MemPlace} (hv : Value.okWide Try.prog w r b0 28 v) (h : DataW.Trod enc Try.prog w base spare held 28 v d p) :
    ∃ G gl, v = .agg (gc G gl) ∧ GdOk G ∧ Cs w gl G.gul := by
  obtain ⟨cs, rfl, hsz⟩ := okWide_struct Try.underlying28 hv
  obtain ⟨fuel, hf⟩ := h
  obtain ⟨y0, y1, y2, y3, n, _, hl, f0, f1, f2, f3⟩ := trod_struct4 Try.underlying28 hf
  have c22 : Try.prog.cellsOf 22 = 1 := by kernel_rfl
  have c25 : Try.prog.cellsOf 25 = 81 := by kernel_rfl
  have c26 : Try.prog.cellsOf 26 = 1 := by kernel_rfl
  have c28 : Try.prog.cellsOf 28 = 84 := by kernel_rfl
  simp only [Value.cells, c28, Array.length_toList] at hl f0 f1 f2 f3
  rw [c22] at f0 f1
  rw [c25] at f2
  rw [c26] at f3
  obtain ⟨W, e0, w0⟩ := read_i8 Try.underlying22 f0
  obtain ⟨H', e1, w1⟩ := read_i8 Try.underlying22 f1
  obtain ⟨hs, e2, l2, w2⟩ := read_rows f2
  obtain ⟨gl, xs, e3, hc, w3⟩ := read_cells f3
  refine ⟨⟨W, H', hs, xs⟩, gl, ?_, ⟨w0, w1, l2, w2, w3⟩, hc⟩
  have hL : cs.toList.length = 84 := by rw [Array.length_toList]; exact hl
  have hA := four_of hL e0 e1 e2 e3
  congr 1
  apply Array.ext'
  rw [gc_list, hA]; rfl
end
end Go.Proofs.Ytkhheofgnhndbaa
