/- Part of the proof that is named in YtencmmhfiepojaaLRowBack: a library for walks, or a function's walk. -/
import Derived.Test.YtencmmhfiepojaaGw13
import Derived.Test.YtencmmhfiepojaaLFacts
import Derived.ChangeMaps5
import Derived.OpenShut
namespace Go.Proofs.Ytencmmhfiepojaa
open Go.ChangeShapes Go.WideShapes Go.ChangeAt Go.RowKit Go.Gw
theorem ownTry : ownKnob Try.prog.godebug = none := by kernel_rfl
theorem laidTry : laidOutB Try.prog = true := by kernel_rfl
theorem u32_wf {a : Int} (h : (Lit.int .u32 a).wf = true) : 0 ≤ a ∧ a < 4294967296 := by
  unfold Lit.wf at h
  rw [Bool.and_eq_true, decide_eq_true_eq, decide_eq_true_eq] at h
  have h1 : IntKind.u32.min = 0 := rfl
  have h2 : IntKind.u32.max = 4294967295 := by decide
  rw [h1] at h
  rw [h2] at h
  omega
theorem i64_wf {a : Int} (h : (Lit.int .i64 a).wf = true) : -9223372036854775808 ≤ a ∧ a ≤ 9223372036854775807 := by
  unfold Lit.wf at h
  rw [Bool.and_eq_true, decide_eq_true_eq, decide_eq_true_eq] at h
  have h1 : IntKind.i64.min = -9223372036854775808 := by decide
  have h2 : IntKind.i64.max = 9223372036854775807 := by decide
  rw [h1] at h
  rw [h2] at h
  exact h
theorem u32_of_trod {H : Type} {enc : TypeId × Value → H} {w : World} (n : Nat) (cs : List Value) (x : DataW H × List MemPlace) (h : DataW.trod enc Try.prog w 0 (fun _ => true) true n 44 cs = some x) : ∃ a : Int, Kd.u32.rep w (fun _ => False) cs a := by
  obtain ⟨m, rfl, _, hw⟩ := DataW.trod_int (show Try.prog.underlying 44 = some (.int .u32) by kernel_rfl) h
  exact ⟨m, rfl, u32_wf hw⟩
theorem u32sArg {H : Type} {enc : TypeId × Value → H} {w : World} {r : Reach} {b0 : Nat} {v : Value} {d : DataW H} {p : List MemPlace} (hv : Value.okWide Try.prog w r b0 32 v) (h : DataW.Trod enc Try.prog w 0 (fun _ => true) true 32 v d p) :
    ∃ xs : List Int, Sl Kd.u32 w (fun _ => False) v xs :=
  sl_of_trod (K := Kd.u32) (e := 44) (by kernel_rfl) (by kernel_rfl) (by decide) u32_of_trod hv h
theorem pairArg {H : Type} {enc : TypeId × Value → H} {w : World} {r : Reach} {b0 : Nat} {v : Value} {d : DataW H} {p : List MemPlace} (hv : Value.okWide Try.prog w r b0 49 v) (h : DataW.Trod enc Try.prog w 0 (fun _ => true) true 49 v d p) :
    ∃ a b : Int, v = .agg [.int .u32 a, .int .u32 b].toArray ∧ (0 ≤ a ∧ a < 4294967296) ∧ (0 ≤ b ∧ b < 4294967296) := by
  have ht : Try.prog.underlying 49 = some (.array 2 44) := by kernel_rfl
  have hu : Try.prog.underlying 44 = some (.int .u32) := by kernel_rfl
  have hc : Try.prog.cellsOf 49 = 2 := by kernel_rfl
  have hc1 : Try.prog.cellsOf 44 = 1 := by kernel_rfl
  simp only [Value.okWide, ht] at hv
  obtain ⟨cs, rfl, _⟩ := hv
  obtain ⟨fuel, hf⟩ := h
  obtain ⟨xs, m, _, _, hl, hx, hi⟩ := DataW.trod_array ht hf
  rw [hc] at hl
  simp only [Value.cells] at hl hi
  match hcs : cs.toList, hl with
  | [c0, c1], _ =>
    rw [hcs] at hi
    have g0 := hi 0 (by decide)
    have g1 := hi 1 (by decide)
    rw [hc1, List.getElem?_eq_getElem (by omega)] at g0 g1
    obtain ⟨a, e0, _, w0⟩ := DataW.trod_int hu g0
    obtain ⟨b, e1, _, w1⟩ := DataW.trod_int hu g1
    simp at e0 e1
    subst e0 e1
    refine ⟨a, b, ?_, u32_wf w0, u32_wf w1⟩
    congr 1
    apply Array.toList_inj.1
    rw [hcs]
end Go.Proofs.Ytencmmhfiepojaa
