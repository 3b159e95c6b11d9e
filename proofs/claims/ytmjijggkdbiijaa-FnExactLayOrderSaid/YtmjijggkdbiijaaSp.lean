/- A law's arguments as data. No statement is proved here. -/
import Derived.Test.YtmjijggkdbiijaaA4
import Derived.Test.YtmjijggkdbiijaaSb
import Derived.WideShapes
namespace Go.Proofs.Ytmjijggkdbiijaa
open Go.RowKit Go.WideShapes
set_option linter.unusedVariables false
set_option linter.unusedSimpArgs false
theorem rep_open {H : Type} {enc : TypeId × Value → H} {P : Program} {Γ : Ctx} {w : World} {r : Reach} {b0 base : Nat} {spare : Nat → Bool} {held : Bool} (hT : TyOk P Γ) (hS : ∀ T t, Γ.ty T = some t → shapeB P Γ T t = true)
    {T : Nat} {t : Ty} (ht : Γ.ty T = some t) (hna : ∀ n e, t ≠ .arr n e) {v : Value} {d : DataW H} {p : List MemPlace} (hv : Value.okWide P w r b0 T v) (h : DataW.Trod enc P w base spare held T v d p) : ∃ y : t.T, RepV w (All w) (.dat t y) v := by
  obtain ⟨fuel, hf⟩ := h
  obtain ⟨y, hy⟩ := trod_imm hT hS (tmz t) t (Nat.le_refl _) T fuel _ _ ht hf
  refine ⟨y, v.cells.toList, hy, ?_⟩
  have hI := hT.ty T t ht
  have hsh := hS T t ht
  simp only [shapeB, Bool.and_eq_true, beq_iff_eq] at hsh
  have struct : t.agg = true → (match P.underlying T with | some (.struct _) => True | _ => False) → v = D.mk (.dat t y) v.cells.toList := by
    intro ha hu
    split at hu
    · rename_i fs hfs
      obtain ⟨cs, rfl, _⟩ := okWide_struct hfs hv
      unfold D.mk D.agg
      simp only [ha, if_true]
      rfl
    · cases hu
  cases t with
  | int k => obtain ⟨n, rfl⟩ := okWide_int (hI.int k rfl) hv; rfl
  | bool => obtain ⟨n, rfl⟩ := okWide_bool (hI.bool rfl) hv; rfl
  | str => obtain ⟨n, rfl⟩ := okWide_string (hI.str rfl) hv; rfl
  | slice te e => obtain ⟨a, len, cap, rfl⟩ := okWide_slice (hI.slice te e rfl).1 hv; rfl
  | arr n e => exact absurd rfl (hna n e)
  | prod a b =>
    refine struct rfl ?_
    revert hsh
    split <;> simp_all
  | unit =>
    refine struct rfl ?_
    revert hsh
    split <;> simp_all
  | map _ _ =>
    obtain ⟨kt, et, hu, _⟩ := hI.map _ _ rfl
    rw [hu] at hsh; simp at hsh
  | fn _ _ =>
    exfalso
    obtain ⟨d, hd, hr⟩ := hI.row
    rw [hd] at hsh
    cases d with
    | struct fs => simp [TypeDesc.isRow, Ty.agg] at hr
    | _ => cases hsh.2
theorem shapes : ∀ T t, (gam resT [] fun _ _ => none).ty T = some t → shapeB Try.prog (gam resT [] fun _ _ => none) T t = true := by
  intro T t h
  have := lk_mem (l := tyL) h
  have all : tyL.all (fun x => shapeB Try.prog (gam resT [] fun _ _ => none) x.1 x.2) = true := by kernel_rfl
  exact List.all_eq_true.1 all (T, t) this
end Go.Proofs.Ytmjijggkdbiijaa
