/- Part of the proof that is named in YtdeiiagkbbimhaaNRowCanJust: a library for walks, or a function's walk. -/
import Derived.Test.YtdeiiagkbbimhaaNodeSpec4
import Derived.Test.YtdeiiagkbbimhaaGw13
namespace Go.Gw
open Go.ChangeShapes Go.WideShapes
section
variable {H : Type} {enc : TypeId × Value → H} {P : Program} {w : World}
theorem node_of_trod {t ta ti : Nat} (h : NodeF P t ta ti) (hct : P.cellsOf t = 5) (hca : P.cellsOf ta = 4) (hci : P.cellsOf ti = 1) (n : Nat) (cs : List Value) (x : DataW H × List MemPlace)
    (hx : DataW.trod enc P w 0 (fun _ => true) true n t cs = some x) : ∃ a : Nd, Kd.node.rep w (fun _ => False) cs a := by
  obtain ⟨f0, f1, hs, _, ⟨ht0, ht1⟩, ho0, ho1⟩ := h.fs
  obtain ⟨xs, m, _, _, hlen, hxl, hf⟩ := DataW.trod_struct hs hx
  rw [hct] at hlen
  match cs, hlen with
  | [c0, c1, c2, c3, c4], _ =>
    have h0 := hf 0 f0 rfl
    have h1 := hf 1 f1 rfl
    rw [ht0, ho0, hci] at h0
    rw [ht1, ho1, hca] at h1
    have hx0 : 0 < xs.length := by rw [hxl]; simp
    have hx1 : 1 < xs.length := by rw [hxl]; simp
    rw [List.getElem?_eq_getElem hx0] at h0
    rw [List.getElem?_eq_getElem hx1] at h1
    obtain ⟨a0, e0, _, _⟩ := DataW.trod_int h.int h0
    obtain ⟨ys, m', _, _, _, hyl, hg⟩ := DataW.trod_array h.arr h1
    have hk : ∀ i, i < 4 → ∃ a : Int, (([c1, c2, c3, c4] : List Value).drop i).take 1 = [.int .i64 a] := by
      intro i hi
      have h2 := hg i hi
      rw [hci, Nat.mul_one, List.getElem?_eq_getElem (by omega)] at h2
      obtain ⟨a, e, _, _⟩ := DataW.trod_int h.int h2
      exact ⟨a, e⟩
    obtain ⟨a1, e1⟩ := hk 0 (by omega)
    obtain ⟨a2, e2⟩ := hk 1 (by omega)
    obtain ⟨a3, e3⟩ := hk 2 (by omega)
    obtain ⟨a4, e4⟩ := hk 3 (by omega)
    simp at e0 e1 e2 e3 e4
    subst e0 e1 e2 e3 e4
    exact ⟨⟨a0, a1, a2, a3, a4⟩, rfl, trivial⟩
end
end Go.Gw
