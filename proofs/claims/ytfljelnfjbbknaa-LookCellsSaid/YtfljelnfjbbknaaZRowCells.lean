/- For any cells that the law's guards let in (at most 30, right and not great) and any right cell: any cell's state, what setting it makes, and the greatest state, are the reference's, or refused; the row of LookCells, lifted from the walk of the law's own code. -/
import Derived.Test.YtfljelnfjbbknaaM5
import Derived.Test.YtfljelnfjbbknaaM11
namespace Go.Proofs.Ytfljelnfjbbknaa
open Go.ChangeShapes Go.WideShapes Go.ChangeAt Go.RowKit Go.Gw
set_option maxRecDepth 100000 in
theorem lookCells_lifted (os : Os) (started : os.Started) (H : Type) (enc : TypeId × Value → H) :
    ReturnsInHanded {} Try.checked os 6 .any (Rows.lookCellsSpec.pre6 enc Try.prog Try.f6 Rows.lookCellsRow.domain false) (Rows.lookCellsSpec.post enc Try.prog Try.f6 false true false false) := by
  refine law_lift (C := Try.checked) (tb := 4) ownTry started kr Try.func6
    (ChangeSpec.witness6 (enc := enc) (C := Try.checked) false ⟨#[], #[.slice none 0 0, .agg #[.bool false, .slice none 0 0, .bool false, .slice none 0 0, .int .u8 0]], []⟩ 8 kr kr kr kr)
    rfl (fun ds hd => ?_) ?_ rfl kr laidTry ?_
  · match ds, hd with
    | [d0, d1], _ => rfl
  · have h : ∀ t, t ∈ Try.f6.params.toList → (Try.prog.readableRec t && decide (t < Try.prog.types.size)) = true := List.all_eq_true.1 kr
    exact fun t ht => by have h2 := h t ht; rw [Bool.and_eq_true, decide_eq_true_eq] at h2; exact h2
  · intro W base args ds p hval hA
    rw [Try.params6] at hA hval
    obtain ⟨v0, vs0, d0, ds0, p0, q0, hargs, rfl, rfl, h0, r0⟩ := trodAll_cons hA
    obtain ⟨v1, vs1, d1, ds1, p1, q1, rfl, rfl, rfl, h1, r1⟩ := trodAll_cons r0
    obtain ⟨rfl, rfl, rfl⟩ := trodAll_nil r1
    obtain rfl : args = #[v0, v1] := by cases args; simp_all
    obtain ⟨x0, hx0⟩ := cellsArg (hval 0 39 v0 rfl rfl) h0
    obtain ⟨xn1, a1, xs1, yn1, b1, ys1, st1, rfl, ha1, hb1, hst1⟩ := cellArg (hval 1 47 v1 rfl rfl) h1
    exact Lm.cells_any (c := ⟨xn1, xs1, yn1, ys1, st1⟩) (Nat.le_refl _) hx0 ha1.oldG hb1.oldG hst1
theorem lookCells_holds : Rows.LookCellsSaid :=
  OpenClaim.holds_of_wide 6 Try.f6 rfl rfl rfl rfl rfl rfl rfl ⟨rfl, rfl, rfl, rfl, rfl⟩ rfl rfl rfl rfl rfl kr Try.func6 kr
    (of_decide_eq_true kr) (by unfold Func.isWrapper; rw [if_neg (of_decide_eq_false kr)]; exact ⟨rfl, rfl⟩)
    (fun os started H enc _ => lookCells_lifted os started H enc)
end Go.Proofs.Ytfljelnfjbbknaa
