/- For any cells that the law's guards let in (at most 30, right and not great) and any two right cells: what is set is got, no other cell is another one, and set back the quad is as it was; the row of LookOne, lifted from the walk of the law's own code. -/
import Derived.Test.YtfljelnfjbbknaaM6
import Derived.Test.YtfljelnfjbbknaaKM
namespace Go.Proofs.Ytfljelnfjbbknaa
open Go.ChangeShapes Go.WideShapes Go.ChangeAt Go.RowKit Go.Gw
set_option maxRecDepth 100000 in
theorem lookOne_lifted (os : Os) (started : os.Started) (H : Type) (enc : TypeId × Value → H) :
    ReturnsInHanded {} Try.checked os 8 .any (Rows.lookOneSpec.pre6 enc Try.prog Try.f8 Rows.lookOneRow.domain false) (Rows.lookOneSpec.post enc Try.prog Try.f8 false true false false) := by
  refine law_lift (C := Try.checked) (tb := 4) ownTry started (by kernel_rfl) Try.func8
    (ChangeSpec.witness6 (enc := enc) (C := Try.checked) false ⟨#[], #[.slice none 0 0, .agg #[.bool false, .slice none 0 0, .bool false, .slice none 0 0, .int .u8 0], .agg #[.bool false, .slice none 0 0, .bool false, .slice none 0 0, .int .u8 0]], []⟩ 8 (by kernel_rfl) (by kernel_rfl) (by kernel_rfl) (by kernel_rfl))
    rfl (fun ds hd => ?_) ?_ rfl (by kernel_rfl) laidTry ?_
  · match ds, hd with
    | [d0, d1, d2], _ => rfl
  · have h : ∀ t, t ∈ Try.f8.params.toList → (Try.prog.readableRec t && decide (t < Try.prog.types.size)) = true := List.all_eq_true.1 (by kernel_rfl)
    exact fun t ht => by have h2 := h t ht; rw [Bool.and_eq_true, decide_eq_true_eq] at h2; exact h2
  · intro W base args ds p hval hA
    rw [Try.params8] at hA hval
    obtain ⟨v0, vs0, d0, ds0, p0, q0, hargs, rfl, rfl, h0, r0⟩ := trodAll_cons hA
    obtain ⟨v1, vs1, d1, ds1, p1, q1, rfl, rfl, rfl, h1, r1⟩ := trodAll_cons r0
    obtain ⟨v2, vs2, d2, ds2, p2, q2, rfl, rfl, rfl, h2, r2⟩ := trodAll_cons r1
    obtain ⟨rfl, rfl, rfl⟩ := trodAll_nil r2
    obtain rfl : args = #[v0, v1, v2] := by cases args; simp_all
    obtain ⟨x0, hx0⟩ := cellsArg (hval 0 39 v0 rfl rfl) h0
    obtain ⟨xn1, a1, xs1, yn1, b1, ys1, st1, rfl, ha1, hb1, hst1⟩ := cellArg (hval 1 47 v1 rfl rfl) h1
    obtain ⟨xn2, a2, xs2, yn2, b2, ys2, st2, rfl, ha2, hb2, hst2⟩ := cellArg (hval 2 47 v2 rfl rfl) h2
    exact Lm.one_any (c := ⟨xn1, xs1, yn1, ys1, st1⟩) (d := ⟨xn2, xs2, yn2, ys2, st2⟩) (Nat.le_refl _) hx0 ha1.oldG hb1.oldG hst1 ha2.oldG hb2.oldG hst2
theorem lookOne_holds : Rows.LookOneSaid :=
  OpenClaim.holds_of_wide 8 Try.f8 rfl rfl rfl rfl rfl rfl rfl ⟨rfl, rfl, rfl, rfl, rfl⟩ rfl rfl rfl rfl rfl (by kernel_rfl) Try.func8 (by kernel_rfl)
    (of_decide_eq_true (by kernel_rfl)) (by unfold Func.isWrapper; rw [if_neg (of_decide_eq_false (by kernel_rfl))]; exact ⟨rfl, rfl⟩)
    (fun os started H enc _ => lookOne_lifted os started H enc)
end Go.Proofs.Ytfljelnfjbbknaa
