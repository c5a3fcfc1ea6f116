/- Part of the proof that is named in YtdeiiagkbbimhaaNRowCanJust: a library for walks, or a function's walk. -/
import Derived.Test.YtdeiiagkbbimhaaNodeRow
import Derived.Test.YtdeiiagkbbimhaaNFacts
namespace Go.Proofs.Ytdeiiagkbbimhaa
open Go.ChangeShapes Go.WideShapes Go.ChangeAt Go.RowKit Go.Gw
theorem ownTry : ownKnob Try.prog.godebug = none := by kernel_rfl
theorem laidTry : laidOutB Try.prog = true := by kernel_rfl
theorem nodesArg {H : Type} {enc : TypeId × Value → H} {w : World} {r : Reach} {b0 : Nat} {v : Value} {d : DataW H} {p : List MemPlace} (hv : Value.okWide Try.prog w r b0 22 v) (h : DataW.Trod enc Try.prog w 0 (fun _ => true) true 22 v d p) :
    ∃ xs : List Nd, Sl Kd.node w (fun _ => False) v xs :=
  sl_of_trod (K := Kd.node) (e := 35) (by kernel_rfl) (by kernel_rfl) (by decide) (fun n cs x h => node_of_trod nodeF (by kernel_rfl) (by kernel_rfl) (by kernel_rfl) n cs x h) hv h
end Go.Proofs.Ytdeiiagkbbimhaa
