/- Cells that are set one by one make the quad of all, and taken away one by one they leave nothing; for every list of cells, where the law's own guards let it in (at most 20 cells, right and not great); the row of LookAll, lifted from the walk of the law's own code. -/
import Derived.Test.YtfljelnfjbbknaaM6
import Derived.Test.YtfljelnfjbbknaaKN
namespace Go.Proofs.Ytfljelnfjbbknaa
open Go.ChangeShapes Go.WideShapes Go.ChangeAt Go.RowKit Go.Gw
set_option maxRecDepth 100000 in
theorem lookAll_lifted (os : Os) (started : os.Started) (H : Type) (enc : TypeId × Value → H) :
    ReturnsInHanded {} Try.checked os 9 .any (Rows.lookAllSpec.pre6 enc Try.prog Try.f9 Rows.lookAllRow.domain false) (Rows.lookAllSpec.post enc Try.prog Try.f9 false true false false) := by
  refine law_lift (C := Try.checked) (tb := 4) ownTry started (by kernel_rfl) Try.func9
    (ChangeSpec.witness6 (enc := enc) (C := Try.checked) false ⟨#[], #[.slice none 0 0], []⟩ 8 (by kernel_rfl) (by kernel_rfl) (by kernel_rfl) (by kernel_rfl))
    rfl (fun ds hd => ?_) ?_ rfl (by kernel_rfl) laidTry ?_
  · match ds, hd with
    | [d0], _ => rfl
  · have h : ∀ t, t ∈ Try.f9.params.toList → (Try.prog.readableRec t && decide (t < Try.prog.types.size)) = true := List.all_eq_true.1 (by kernel_rfl)
    exact fun t ht => by have h2 := h t ht; rw [Bool.and_eq_true, decide_eq_true_eq] at h2; exact h2
  · intro W base args ds p hval hA
    rw [Try.params9] at hA hval
    obtain ⟨v0, vs0, d0, ds0, p0, q0, hargs, rfl, rfl, h0, r0⟩ := trodAll_cons hA
    obtain ⟨rfl, rfl, rfl⟩ := trodAll_nil r0
    obtain rfl : args = #[v0] := by cases args; simp_all
    obtain ⟨x0, hx0⟩ := cellsArg (hval 0 39 v0 rfl rfl) h0
    exact Lm.all_any (Nat.le_refl _) hx0
theorem lookAll_holds : Rows.LookAllSaid :=
  OpenClaim.holds_of_wide 9 Try.f9 rfl rfl rfl rfl rfl rfl rfl ⟨rfl, rfl, rfl, rfl, rfl⟩ rfl rfl rfl rfl rfl (by kernel_rfl) Try.func9 (by kernel_rfl)
    (of_decide_eq_true (by kernel_rfl)) (by unfold Func.isWrapper; rw [if_neg (of_decide_eq_false (by kernel_rfl))]; exact ⟨rfl, rfl⟩)
    (fun os started H enc _ => lookAll_lifted os started H enc)
end Go.Proofs.Ytfljelnfjbbknaa
