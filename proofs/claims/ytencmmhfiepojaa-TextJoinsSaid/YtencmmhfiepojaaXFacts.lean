/- Part of the proof that is named in YtencmmhfiepojaaXRowJoins: a library for walks, or a function's walk. -/
import Derived.Test.YtencmmhfiepojaaTextSpec
import Derived.Test.YtencmmhfiepojaaRows
set_option maxRecDepth 20000
set_option linter.unusedSimpArgs false
set_option linter.unusedVariables false
namespace Go.Proofs.Ytencmmhfiepojaa
open Go.RowKit Go.Gw
theorem str9 : StrF Try.prog 9 := ⟨by kernel_rfl⟩
theorem fn20 : FunF Try.prog 20 := ⟨_, _, Try.func20, by decide +kernel, rfl⟩
theorem fn21 : FunF Try.prog 21 := ⟨_, _, Try.func21, by decide +kernel, rfl⟩
theorem ext87 : ExtF Try.prog 87 Extern.BytealgCount.count := ⟨_, Try.func87, by decide +kernel, rfl, rfl, rfl⟩
theorem fn89 : FunF Try.prog 89 := ⟨_, _, Try.func89, by decide +kernel, rfl⟩
theorem fn70 : FunF Try.prog 70 := ⟨_, _, Try.func70, by decide +kernel, rfl⟩
theorem fn71 : FunF Try.prog 71 := ⟨_, _, Try.func71, by decide +kernel, rfl⟩
theorem fn14 : FunF Try.prog 14 := ⟨_, _, Try.func14, by decide +kernel, rfl⟩
theorem fn16 : FunF Try.prog 16 := ⟨_, _, Try.func16, by decide +kernel, rfl⟩
theorem fn18 : FunF Try.prog 18 := ⟨_, _, Try.func18, by decide +kernel, rfl⟩
theorem fn13 : FunF Try.prog 13 := ⟨_, _, Try.func13, by decide +kernel, rfl⟩
theorem fn15 : FunF Try.prog 15 := ⟨_, _, Try.func15, by decide +kernel, rfl⟩
theorem fn17 : FunF Try.prog 17 := ⟨_, _, Try.func17, by decide +kernel, rfl⟩
theorem bool4 : Go.Program.underlying Try.prog 4 = some .bool := by kernel_rfl
theorem fn19 : FunF Try.prog 19 := ⟨_, _, Try.func19, by decide +kernel, rfl⟩
theorem intk29 : Go.Program.underlying Try.prog 29 = some (.int .u16) := by kernel_rfl
theorem intk3 : Go.Program.underlying Try.prog 3 = some (.int .i64) := by kernel_rfl
end Go.Proofs.Ytencmmhfiepojaa
