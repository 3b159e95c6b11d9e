/- Orders of laying: the closure calls itself. No statement is proved here. -/
import Derived.Test.YtmjijggkdbiijaaWc
namespace Go.Proofs.Ytmjijggkdbiijaa
open Go.RowKit
set_option linter.unusedVariables false
set_option linter.unusedSimpArgs false
set_option maxRecDepth 100000
set_option maxHeartbeats 1000000
theorem memo_at (q : Sq) (list : List Sl) (pl : Value) (gk gm gf : Nat) (hn : list.length ≤ 10) (h60 : q.2.2.length + list.length ≤ 60) : ∀ d m, 2 ^ list.length - m ≤ d → m < 2 ^ list.length → OkQ (sqM q list m) →
    EvS Try.prog none (memoAt 137 (dL list) (wF q list) pl gk gm gf) [aQ (sqM q list m), aI (m : Int)] (compsOf [rI] (nWays q list m)) (memoAt 137 (dL list) (wF q list) pl gk gm gf)
  | 0, m, hd, hm, k => by omega
  | d + 1, m, hd, hm, k => by
    intro w lab v0 vs hlt hlen hA hok
    obtain ⟨rfl, ⟨xs, hx, hM⟩, hS⟩ := hA
    match vs, hlen with
    | [v1, v2], _ =>
      have a1 := hok 0 _ _ rfl rfl
      have a2 := hok 1 _ _ rfl rfl
      have hc := lo1_ev q list m pl gk gm gf xs k hn h60 hm hx fun m' h1 h2 h3 => memo_at q list pl gk gm gf hn h60 d m' (by omega) h2 h3
      obtain ⟨c1, c2⟩ := hc
      obtain ⟨m1, m2, m3, m4⟩ := movS (N := 3) (n := 0) (lab := lab)
      have fz : ∀ g, Fz lab w g → Fz (movL 0 3 lab) w g := fun g hg => ⟨m1 g hg.1, hg.2⟩
      refine ⟨137, #[pl, .pointer (some ⟨gk, 0, none⟩), .pointer (some ⟨gf, 0, none⟩)], rfl, fun w => c1 _ w, ?_⟩
      refine Calls.mono (c2 w (movL 0 3 lab) [v1, v2, pl, .pointer (some ⟨gk, 0, none⟩), .pointer (some ⟨gf, 0, none⟩)] (fun g p hg => by obtain ⟨p', hp⟩ := m2 g p hg; exact hlt g _ hp) rfl (fun j a v ha hv => ?_)) ?_
      · match j with
        | 0 => simp only [List.getElem?_cons_zero, Option.some.injEq] at ha hv; subst ha hv; exact RepV.keep (fun g hg => ⟨fz g hg, rfl⟩) a1
        | 1 => simp only [List.getElem?_cons_succ, List.getElem?_cons_zero, Option.some.injEq] at ha hv; subst ha hv; exact RepV.keep (fun g hg => ⟨fz g hg, rfl⟩) a2
        | 2 => simp only [List.getElem?_cons_succ, List.getElem?_cons_zero, Option.some.injEq] at ha hv; subst ha hv; exact RepV.keep (fun g hg => ⟨fz g hg, rfl⟩) hS.2.2
        | 3 => simp only [List.getElem?_cons_succ, List.getElem?_cons_zero, Option.some.injEq] at ha hv; subst ha hv; exact (mapT gk gm xs).keep (fun g hg => ⟨fz g hg, rfl⟩) (fun g ⟨mm, hg⟩ => ⟨⟨mm, m4 g _ _ hg⟩, rfl⟩) hM
        | 4 => simp only [List.getElem?_cons_succ, List.getElem?_cons_zero, Option.some.injEq] at ha hv; subst ha hv; exact (selfT 137 (dL list) pl gk gf).keep (B' := fun g => ∃ m, movL 0 3 lab g = some (4, 0, m + 1)) (fun g hg => ⟨fz g hg, rfl⟩) (fun g hg => ⟨hg, rfl⟩) (show (selfT 137 (dL list) pl gk gf).P (Fz lab w) (fun g => ∃ m, movL 0 3 lab g = some (4, 0, m + 1)) w _ from hS)
        | j + 5 => simp at ha
      · rintro e w' ⟨v, lab', rfl, f1, f2, f3, f4, f5, f6, f7⟩
        refine ⟨v, lab', rfl, ⟨f1.os, f1.tape, f1.output, f1.size, fun g hg => f1.keep g ⟨hg.1, ?_⟩⟩, fun g hg h => f2 g hg (m1 g h), fun g k m h => f3 g k m (m3 D0 (by decide) g k m h), f4, f5, rfl, f6, ?_⟩
        · rcases hg.2 with h | ⟨k, m, h⟩
          · exact .inl (m1 g h)
          · exact .inr ⟨k, m, m3 D0 (by decide) g k m h⟩
        · obtain ⟨B, hB⟩ := f7 _ (List.mem_singleton.2 rfl)
          exact hB
/-- The closure, called with nothing laid. -/
theorem memo_0 {q : Sq} {list : List Sl} (k : OkQ q) (hn : list.length ≤ 10) (h60 : q.2.2.length + list.length ≤ 60) {m : Nat} (hm : m < 2 ^ list.length) (km : OkQ (sqM q list m)) :
    EvS Try.prog none (memo 137 (dL list) (wF q list)) [aQ (sqM q list m), aI (m : Int)] (compsOf [rI] (nWays q list m)) (memo 137 (dL list) (wF q list)) := by
  intro w lab v0 vs hlt hlen hA hok
  obtain ⟨pl, gk, gm, gf, hA⟩ := hA
  have := memo_at q list pl gk gm gf hn h60 _ m (Nat.le_refl _) hm km w lab v0 vs hlt hlen hA hok
  obtain ⟨f, caps, h1, h2, h3⟩ := this
  refine ⟨f, caps, h1, h2, Calls.mono h3 ?_⟩
  rintro e w' ⟨v, lab', e1, f1, f2, f3, f4, f5, f6⟩
  exact ⟨v, lab', e1, f1, f2, f3, f4, f5, pl, gk, gm, gf, f6⟩
end Go.Proofs.Ytmjijggkdbiijaa
