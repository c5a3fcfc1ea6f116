/- Part of the proof that is named in YtencmmhfiepojaaXRowJoins: a library for walks, or a function's walk. -/
import Derived.Test.YtencmmhfiepojaaGw13
import Derived.Test.YtencmmhfiepojaaXFacts
import Derived.ChangeMaps5
namespace Go.Proofs.Ytencmmhfiepojaa
open Go.ChangeShapes Go.WideShapes Go.ChangeAt Go.RowKit Go.Gw
theorem ownTry : ownKnob Try.prog.godebug = none := by kernel_rfl
theorem laidTry : laidOutB Try.prog = true := by kernel_rfl
end Go.Proofs.Ytencmmhfiepojaa
