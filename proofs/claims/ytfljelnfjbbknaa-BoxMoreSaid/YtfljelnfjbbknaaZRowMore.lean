/- For any list of cells and one cell more that is not nought, the box of all of them has that cell and is no smaller than the box of the list: the law BoxMore holds. -/
import Derived.Test.YtfljelnfjbbknaaM6
import Derived.Test.YtfljelnfjbbknaaED
namespace Go.Proofs.Ytfljelnfjbbknaa
open Go.ChangeShapes Go.WideShapes Go.ChangeAt Go.RowKit Go.Gw
set_option maxRecDepth 100000 in
theorem boxMore_lifted (os : Os) (started : os.Started) (H : Type) (enc : TypeId × Value → H) :
    ReturnsInHanded {} Try.checked os 5 .any (Rows.boxMoreSpec.pre6 enc Try.prog Try.f5 Rows.boxMoreRow.domain false) (Rows.boxMoreSpec.post enc Try.prog Try.f5 false true false false) := by
  refine law_liftS (C := Try.checked) (tb := 4) ownTry started (by kernel_rfl) Try.func5
    (ChangeSpec.witness6 (enc := enc) (C := Try.checked) false ⟨#[], #[.slice none 0 0, .agg #[.bool false, .slice none 0 0, .bool false, .slice none 0 0, .int .u8 0]], []⟩ 8 (by kernel_rfl) (by kernel_rfl) (by kernel_rfl) (by kernel_rfl))
    rfl (fun ds hd => ?_) ?_ rfl (by kernel_rfl) laidTry ?_
  · match ds, hd with
    | [d0, d1], _ => rfl
  · have h : ∀ t, t ∈ Try.f5.params.toList → (Try.prog.readableRec t && decide (t < Try.prog.types.size)) = true := List.all_eq_true.1 (by kernel_rfl)
    exact fun t ht => by have h2 := h t ht; rw [Bool.and_eq_true, decide_eq_true_eq] at h2; exact h2
  · intro W base args ds p hval hA hz
    rw [Try.params5] at hA hval
    obtain ⟨v0, vs0, d0, ds0, p0, q0, hargs, rfl, rfl, h0, r0⟩ := trodAll_cons hA
    obtain ⟨v1, vs1, d1, ds1, p1, q1, rfl, rfl, rfl, h1, r1⟩ := trodAll_cons r0
    obtain ⟨rfl, rfl, rfl⟩ := trodAll_nil r1
    obtain rfl : args = #[v0, v1] := by cases args; simp_all
    obtain ⟨x0, hx0, hl0⟩ := cellsArgL (hval 0 39 v0 rfl rfl) h0
    have hm0 : 72 * x0.length ≤ 140737488351232 := by
      rcases hl0 with rfl | ⟨el, sp, rfl, hlen⟩
      · simp
      · have h := Go.sized_slice (j := 0) (t := 39) (e := 47) hz (by kernel_rfl) rfl (by kernel_rfl)
        have h2 : Try.prog.bytesOf 47 = 72 := by kernel_rfl
        have h3 : reachBytes = 140737488351232 := by decide
        change (el.length + sp.length) * Try.prog.bytesOf 47 ≤ reachBytes at h
        rw [h2, h3] at h
        omega
    obtain ⟨xn1, a1, xs1, yn1, b1, ys1, st1, rfl, ha1, hb1, hst1⟩ := cellArg (hval 1 47 v1 rfl rfl) h1
    exact Lm.more_any (c := ⟨xn1, xs1, yn1, ys1, st1⟩) (Nat.le_refl _) hx0 ha1.oldG hb1.oldG hst1 hm0
theorem boxMore_holds : Rows.BoxMoreSaid :=
  OpenClaim.holds_of_wide 5 Try.f5 rfl rfl rfl rfl rfl rfl rfl ⟨rfl, rfl, rfl, rfl, rfl⟩ rfl rfl rfl rfl rfl (by kernel_rfl) Try.func5 (by kernel_rfl)
    (of_decide_eq_true (by kernel_rfl)) (by unfold Func.isWrapper; rw [if_neg (of_decide_eq_false (by kernel_rfl))]; exact ⟨rfl, rfl⟩)
    (fun os started H enc _ => boxMore_lifted os started H enc)
end Go.Proofs.Ytfljelnfjbbknaa
