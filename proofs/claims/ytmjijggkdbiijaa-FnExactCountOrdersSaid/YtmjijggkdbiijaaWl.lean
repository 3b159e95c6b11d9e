/- Orders of laying: the square of a set, slab by slab. No statement is proved here. -/
import Derived.Test.YtmjijggkdbiijaaWk
namespace Go.Proofs.Ytmjijggkdbiijaa
open Go.RowKit
set_option linter.unusedVariables false
set_option linter.unusedSimpArgs false
theorem mod_yes {t j : Nat} (h : t.testBit j = true) : t % 2 ^ (j + 1) = t % 2 ^ j ||| 2 ^ j := by
  refine Nat.eq_of_testBit_eq fun i => ?_
  rw [or_bit, Nat.testBit_mod_two_pow, Nat.testBit_mod_two_pow]
  by_cases e : j = i
  · subst e; rw [h]; simp
  · by_cases h2 : i < j
    · rw [decide_eq_true (by omega : i < j + 1), decide_eq_true h2, decide_eq_false e]; simp
    · rw [decide_eq_false (by omega : ¬ i < j + 1), decide_eq_false h2, decide_eq_false e]; simp
theorem mod_no {t j : Nat} (h : t.testBit j = false) : t % 2 ^ (j + 1) = t % 2 ^ j := by
  refine Nat.eq_of_testBit_eq fun i => ?_
  rw [Nat.testBit_mod_two_pow, Nat.testBit_mod_two_pow]
  by_cases e : j = i
  · subst e; rw [h]; simp
  · by_cases h2 : i < j
    · rw [decide_eq_true (by omega : i < j + 1), decide_eq_true h2]
    · rw [decide_eq_false (by omega : ¬ i < j + 1), decide_eq_false h2]
theorem mod_bit (t j : Nat) : (t % 2 ^ j).testBit j = false := by
  rw [Nat.testBit_mod_two_pow]; simp
theorem bits_lt (n m : Nat) : (bitsL n m).Pairwise (· < ·) := by
  unfold bitsL
  exact List.Pairwise.filter _ List.pairwise_lt_range
theorem bits_two {R : Nat → Nat → Prop} {n m a b : Nat} (h : (bitsL n m).Pairwise R) (ha : a ∈ bitsL n m) (hb : b ∈ bitsL n m) (hab : a < b) : R a b := by
  obtain ⟨i, hi, rfl⟩ := List.getElem_of_mem ha
  obtain ⟨j, hj, rfl⟩ := List.getElem_of_mem hb
  have hlt : i < j := by
    rcases Nat.lt_trichotomy i j with h1 | h1 | h1
    · exact h1
    · subst h1; omega
    · have := List.pairwise_iff_getElem.1 (bits_lt n m) j i hj hi h1; omega
  exact List.pairwise_iff_getElem.1 h i j hi hj hlt
section
variable {q : Sq} {list : List Sl}
theorem sqM_mem {m : Nat} {x : Sl} : x ∈ (sqM q list m).2.2 ↔ x ∈ q.2.2 ∨ ∃ j, j < list.length ∧ m.testBit j = true ∧ x = sAt list j := by
  have hp : (sqM q list m).2.2.Perm (q.2.2 ++ (bitsL list.length m).map (sAt list)) := sortSl_perm _
  rw [hp.mem_iff, List.mem_append, List.mem_map]
  constructor
  · rintro (h | ⟨j, h1, rfl⟩)
    · exact .inl h
    · have := bits_mem.1 h1; exact .inr ⟨j, this.1, this.2, rfl⟩
  · rintro (h | ⟨j, h1, h2, rfl⟩)
    · exact .inl h
    · exact .inr ⟨j, bits_mem.2 ⟨h1, h2⟩, rfl⟩
theorem sqM_can {t j : Nat} (kt : OkQ (sqM q list t)) (hj : j < list.length) (hb : t.testBit j = true) : canPutB (sqM q list (t % 2 ^ j)) (sAt list j) = true := by
  have hin : slabIn q.1 q.2.1 (sAt list j) = true := ok_mem kt (sqM_mem.2 (.inr ⟨j, hj, hb, rfl⟩))
  have hp : (sqM q list t).2.2.Perm (q.2.2 ++ (bitsL list.length t).map (sAt list)) := sortSl_perm _
  have hpw : (q.2.2 ++ (bitsL list.length t).map (sAt list)).Pairwise fun a b => meetsB a b = false := (hp.pairwise_iff (fun {x y} h => by rw [meets_symm]; exact h)).1 (ok_aparts kt)
  rw [List.pairwise_append] at hpw
  obtain ⟨_, hq2, hq3⟩ := hpw
  have hjm : j ∈ bitsL list.length t := bits_mem.2 ⟨hj, hb⟩
  simp only [canPutB, Bool.and_eq_true, Bool.not_eq_true']
  refine ⟨hin, List.any_eq_false.2 fun x hx => ?_⟩
  have hxs : meetsB x (sAt list j) = false := by
    rcases sqM_mem.1 hx with h | ⟨i, hi, hib, rfl⟩
    · exact hq3 x h _ (List.mem_map.2 ⟨j, hjm, rfl⟩)
    · rw [Nat.testBit_mod_two_pow, Bool.and_eq_true, decide_eq_true_eq] at hib
      rw [List.pairwise_map] at hq2
      exact bits_two hq2 (bits_mem.2 ⟨hi, hib.2⟩) hjm hib.1
  first
    | (rw [hxs]; simp; done)
    | (rw [meets_symm, hxs]; simp)
theorem sub_ok (k : OkQ q) (h60 : q.2.2.length + list.length ≤ 60) {t : Nat} (kt : OkQ (sqM q list t)) : ∀ j, j ≤ list.length → OkQ (sqM q list (t % 2 ^ j))
  | 0, _ => by rw [Nat.pow_zero, Nat.mod_one, sqM_0 k]; exact k
  | j + 1, hj => by
    have h := sub_ok k h60 kt j (by omega)
    by_cases hb : t.testBit j = true
    · rw [mod_yes hb, ← sqM_put h (sqM_can kt (by omega) hb) (by omega) (mod_bit t j)]
      exact put_ok h (sqM_can kt (by omega) hb) (sqM_room h60 (by omega) (mod_bit t j))
    · rw [mod_no (by simpa using hb)]; exact h
theorem sub_put (k : OkQ q) (h60 : q.2.2.length + list.length ≤ 60) {t j : Nat} (kt : OkQ (sqM q list t)) (hj : j < list.length) (hb : t.testBit j = true) : l01PutV (sqM q list (t % 2 ^ j)) (sAt list j) = sqM q list (t % 2 ^ (j + 1)) := by
  have h := sub_ok k h60 kt j (by omega)
  rw [l01Put_is h, mod_yes hb, ← sqM_put h (sqM_can kt hj hb) hj (mod_bit t j)]
theorem sub_all {t : Nat} (ht : t < 2 ^ list.length) : t % 2 ^ list.length = t := Nat.mod_eq_of_lt ht
end
section
variable {P : Program} {C R : List Nat} {o : Oper} {σ : List Slot}
/-- An int is turned into an uint. -/
theorem cust_conv {N A S T : Nat} {n : Int} (hs : P.underlying S = some (.int .i64)) (ht : P.underlying T = some (.int .u64)) (ho : o.op = .convert S T (.tmp A)) (hd : o.dst = some N) (hAR : A ∈ R) (hNR : N ∈ R) (hA : σ.getD A .dead = .val (.dat (.int .i64) n)) (hN : (σ.getD N .dead).rty = none ∧ ∀ u, (σ.getD N .dead).vty = some u → u.flat = true) (h0 : 0 ≤ n) :
    Cust P C o R σ [(N, .val (.dat (.int .u64) n))] := by
  refine cust_put (ws0 := []) hd hNR hN rfl (by simp) fun τ hτ w0 K lab a w h => ?_
  have h1 := h.slots A
  rw [hτ A hAR, hA] at h1
  obtain ⟨hx, hr⟩ := rep_int h1
  have hx' : a.eval (.tmp A) = .int .i64 n := hx
  simp only [inR, loK, hiK] at hr
  have hw := wrap_in (k := .u64) (z := n) ⟨by simp only [loK]; omega, by simp only [hiK]; omega⟩
  refine ⟨.int .u64 n, lab, .inl ?_, fun _ h => h, fun _ p h => ⟨p, h⟩, fun _ _ _ _ _ _ h => h, int_rep ⟨by simp only [loK]; omega, by simp only [hiK]; omega⟩, by simp⟩
  unfold execOp
  simp [ho, hx', convert, run_underlying hs, run_underlying ht, Conv.intToInt, hw]
  done
theorem cust_shl {N A T T' : Nat} {n z : Int} (ho : o.op = .binOp .shl T (.const (.int .i64 1)) (.tmp A) T') (hd : o.dst = some N) (hAR : A ∈ R) (hNR : N ∈ R) (hA : σ.getD A .dead = .val (.dat (.int .u64) n)) (hN : (σ.getD N .dead).rty = none ∧ ∀ u, (σ.getD N .dead).vty = some u → u.flat = true)
    (h1 : 0 ≤ n) (h2 : n ≤ 60) (hz : z = 1 * 2 ^ n.toNat) (hr : z ≤ 9223372036854775807) : Cust P C o R σ [(N, .val (.dat (.int .i64) z))] := by
  refine cust_put (ws0 := []) hd hNR hN rfl (by simp) fun τ hτ w0 K lab a w h => ?_
  have h3 := h.slots A
  rw [hτ A hAR, hA] at h3
  obtain ⟨hx, hr2⟩ := rep_int h3
  have hx' : a.eval (.tmp A) = .int .u64 n := hx
  have hc : a.eval (.const (.int .i64 1)) = .int .i64 1 := rfl
  have hp : (0 : Int) < 2 ^ n.toNat := Int.pow_pos (by decide)
  have hin : inR .i64 z := ⟨by simp only [loK]; omega, by simp only [hiK]; omega⟩
  have hw := wrap_in hin
  rw [hz] at hw
  have hmin : min n.toNat IntKind.i64.bits = n.toNat := by simp only [IntKind.bits]; omega
  have hnl : ¬ @LT.lt Int _ n 0 := by omega
  refine ⟨.int .i64 z, lab, .inl ?_, fun _ h => h, fun _ p h => ⟨p, h⟩, fun _ _ _ _ _ _ h => h, int_rep hin, by simp⟩
  unfold execOp
  rw [hz]
  simp [ho, hc, hx', eqGuard, binOp, Op.shift, hnl, hmin]
  simpa using hw
end
end Go.Proofs.Ytmjijggkdbiijaa
