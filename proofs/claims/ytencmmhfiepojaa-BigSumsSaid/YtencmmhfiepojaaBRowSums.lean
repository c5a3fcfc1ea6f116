/- The sum, the difference, the order and the shifts that the program gives of two big numbers of up to 60 limbs are the reference's. -/
import Derived.Test.YtencmmhfiepojaaM4
import Derived.Test.YtencmmhfiepojaaM7
namespace Go.Proofs.Ytencmmhfiepojaa
open Go.ChangeShapes Go.WideShapes Go.ChangeAt Go.RowKit Go.Gw
set_option maxRecDepth 100000 in
theorem bigSums_lifted (os : Os) (started : os.Started) (H : Type) (enc : TypeId × Value → H) :
    ReturnsInHanded {} Try.checked os 11 .any (Rows.bigSumsSpec.pre6 enc Try.prog Try.f11 Rows.bigSumsRow.domain false) (Rows.bigSumsSpec.post enc Try.prog Try.f11 false true false false) := by
  refine law_lift (C := Try.checked) (tb := 4) ownTry started (by kernel_rfl) Try.func11
    (ChangeSpec.witness6 (enc := enc) (C := Try.checked) false ⟨#[], #[.agg #[.bool false, .slice none 0 0], .agg #[.bool false, .slice none 0 0], .int .i64 0], []⟩ 8 (by kernel_rfl) (by kernel_rfl) (by kernel_rfl) (by kernel_rfl))
    rfl (fun ds hd => ?_) ?_ rfl (by kernel_rfl) laidTry ?_
  · match ds, hd with
    | [d0, d1, d2], _ => rfl
  · have h : ∀ t, t ∈ Try.f11.params.toList → (Try.prog.readableRec t && decide (t < Try.prog.types.size)) = true := List.all_eq_true.1 (by kernel_rfl)
    exact fun t ht => by have h2 := h t ht; rw [Bool.and_eq_true, decide_eq_true_eq] at h2; exact h2
  · intro W base args ds p hval hA
    rw [Try.params11] at hA hval
    obtain ⟨v0, vs0, d0, ds0, p0, q0, hargs, rfl, rfl, h0, r0⟩ := trodAll_cons hA
    obtain ⟨v1, vs1, d1, ds1, p1, q1, rfl, rfl, rfl, h1, r1⟩ := trodAll_cons r0
    obtain ⟨v2, vs2, d2, ds2, p2, q2, rfl, rfl, rfl, h2, r2⟩ := trodAll_cons r1
    obtain ⟨rfl, rfl, rfl⟩ := trodAll_nil r2
    obtain rfl : args = #[v0, v1, v2] := by cases args; simp_all
    obtain ⟨n0, s0, x0, rfl, hx0⟩ := bigArg (hval 0 52 v0 rfl rfl) h0
    obtain ⟨n1, s1, x1, rfl, hx1⟩ := bigArg (hval 1 52 v1 rfl rfl) h1
    obtain ⟨x2, rfl, _, _, wx2⟩ := open_int (k := .i64) Try.underlying3 (hval 2 3 v2 rfl rfl) h2
    exact bsums_any hx0 hx1
theorem bigSums_holds : Rows.BigSumsSaid :=
  OpenClaim.holds_of_wide 11 Try.f11 rfl rfl rfl rfl rfl rfl rfl ⟨rfl, rfl, rfl, rfl, rfl⟩ rfl rfl rfl rfl rfl (by kernel_rfl) Try.func11 (by kernel_rfl)
    (of_decide_eq_true (by kernel_rfl)) (by unfold Func.isWrapper; rw [if_neg (of_decide_eq_false (by kernel_rfl))]; exact ⟨rfl, rfl⟩)
    (fun os started H enc _ => bigSums_lifted os started H enc)
end Go.Proofs.Ytencmmhfiepojaa
