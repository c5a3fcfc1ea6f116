/- For every two lists of nodes and every number the law gliderlaw05.NodeTells returns true, and its arguments read as before; no condition. -/
import Derived.Test.YtdeiiagkbbimhaaNodeRow
import Derived.Test.YtdeiiagkbbimhaaNL
namespace Go.Proofs.Ytdeiiagkbbimhaa
open Go.ChangeShapes Go.WideShapes Go.ChangeAt Go.RowKit Go.Gw
theorem ownTry : ownKnob Try.prog.godebug = none := by kernel_rfl
theorem laidTry : laidOutB Try.prog = true := by kernel_rfl
theorem nodesArg {H : Type} {enc : TypeId × Value → H} {w : World} {r : Reach} {b0 : Nat} {v : Value} {d : DataW H} {p : List MemPlace} (hv : Value.okWide Try.prog w r b0 22 v) (h : DataW.Trod enc Try.prog w 0 (fun _ => true) true 22 v d p) :
    ∃ xs : List Nd, Sl Kd.node w (fun _ => False) v xs :=
  sl_of_trod (K := Kd.node) (e := 35) (by kernel_rfl) (by kernel_rfl) (by decide) (fun n cs x h => node_of_trod nodeF (by kernel_rfl) (by kernel_rfl) (by kernel_rfl) n cs x h) hv h
set_option maxRecDepth 100000 in
theorem tells_lifted (os : Os) (started : os.Started) (H : Type) (enc : TypeId × Value → H) :
    ReturnsInHanded {} Try.checked os 3 .any (Rows.nodeTellsSpec.pre6 enc Try.prog Try.f3 Rows.nodeTellsRow.domain false) (Rows.nodeTellsSpec.post enc Try.prog Try.f3 false true false false) := by
  refine law_lift (C := Try.checked) (tb := 4) ownTry started (by kernel_rfl) Try.func3
    (ChangeSpec.witness6 (enc := enc) (C := Try.checked) false ⟨#[], #[.slice none 0 0, .slice none 0 0, .int .i64 0], []⟩ 8 (by kernel_rfl) (by kernel_rfl) (by kernel_rfl) (by kernel_rfl))
    rfl (fun ds hd => ?_) ?_ rfl (by kernel_rfl) laidTry ?_
  · match ds, hd with
    | [d1, d2, d3], _ => rfl
  · have h : ∀ t, t ∈ Try.f3.params.toList → (Try.prog.readableRec t && decide (t < Try.prog.types.size)) = true := List.all_eq_true.1 (by kernel_rfl)
    exact fun t ht => by have h2 := h t ht; rw [Bool.and_eq_true, decide_eq_true_eq] at h2; exact h2
  · intro W base args ds p hval hA
    rw [Try.params3] at hA hval
    obtain ⟨v0, vs0, d0, ds0, p0, q0, hargs, rfl, rfl, h0, r0⟩ := trodAll_cons hA
    obtain ⟨v1, vs1, d1, ds1, p1, q1, rfl, rfl, rfl, h1, r1⟩ := trodAll_cons r0
    obtain ⟨v2, vs2, d2, ds2, p2, q2, rfl, rfl, rfl, h2, r2⟩ := trodAll_cons r1
    obtain ⟨rfl, rfl, rfl⟩ := trodAll_nil r2
    obtain rfl : args = #[v0, v1, v2] := by cases args; simp_all
    obtain ⟨l, hl⟩ := nodesArg (hval 0 22 v0 rfl rfl) h0
    obtain ⟨m, hm⟩ := nodesArg (hval 1 22 v1 rfl rfl) h1
    obtain ⟨n, rfl, _, _, _⟩ := open_int (k := .i64) Try.underlying3 (hval 2 3 v2 rfl rfl) h2
    exact tells_any hl hm
theorem tells_holds : Rows.NodeTellsSaid :=
  OpenClaim.holds_of_wide 3 Try.f3 rfl rfl rfl rfl rfl rfl rfl ⟨rfl, rfl, rfl, rfl, rfl⟩ rfl rfl rfl rfl rfl (by kernel_rfl) Try.func3 (by kernel_rfl)
    (of_decide_eq_true (by kernel_rfl)) (by unfold Func.isWrapper; rw [if_neg (of_decide_eq_false (by kernel_rfl))]; exact ⟨rfl, rfl⟩)
    (fun os started H enc _ => tells_lifted os started H enc)
end Go.Proofs.Ytdeiiagkbbimhaa
