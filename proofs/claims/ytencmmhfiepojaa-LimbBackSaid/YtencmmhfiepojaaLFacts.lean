/- Part of the proof that is named in YtencmmhfiepojaaLRowBack: a library for walks, or a function's walk. -/
import Derived.Test.YtencmmhfiepojaaLimbSpec
import Derived.Test.YtencmmhfiepojaaRows
import Derived.Test.YtencmmhfiepojaaGw17
set_option maxRecDepth 20000
set_option linter.unusedSimpArgs false
set_option linter.unusedVariables false
namespace Go.Proofs.Ytencmmhfiepojaa
open Go.RowKit Go.Gw
theorem one32 : OneF Try.prog 32 := ⟨by kernel_rfl⟩
theorem sl32 : SlF Try.prog 32 44 1 4 (.int .u32 0) := ⟨by kernel_rfl, by kernel_rfl, rfl, by decide⟩
theorem one44 : OneF Try.prog 44 := ⟨by kernel_rfl⟩
theorem fn38 : FunF Try.prog 38 := ⟨_, _, Try.func38, by decide +kernel, rfl⟩
theorem fn72 : FunF Try.prog 72 := ⟨_, _, Try.func72, by decide +kernel, rfl⟩
theorem fn74 : FunF Try.prog 74 := ⟨_, _, Try.func74, by decide +kernel, rfl⟩
theorem one3 : OneF Try.prog 3 := ⟨by kernel_rfl⟩
theorem zero3 : ZeroF Try.prog 3 #[.int .i64 0] := ⟨by kernel_rfl⟩
theorem fn79 : FunF Try.prog 79 := ⟨_, _, Try.func79, by decide +kernel, rfl⟩
theorem fn91 : FunF Try.prog 91 := ⟨_, _, Try.func91, by decide +kernel, rfl⟩
theorem intk44 : Go.Program.underlying Try.prog 44 = some (.int .u32) := by kernel_rfl
theorem intk76 : Go.Program.underlying Try.prog 76 = some (.int .u64) := by kernel_rfl
theorem fn78 : FunF Try.prog 78 := ⟨_, _, Try.func78, by decide +kernel, rfl⟩
theorem fn28 : FunF Try.prog 28 := ⟨_, _, Try.func28, by decide +kernel, rfl⟩
theorem fn73 : FunF Try.prog 73 := ⟨_, _, Try.func73, by decide +kernel, rfl⟩
theorem fn80 : FunF Try.prog 80 := ⟨_, _, Try.func80, by decide +kernel, rfl⟩
theorem zero32 : ZeroF Try.prog 32 #[.slice none 0 0] := ⟨by kernel_rfl⟩
theorem zero44 : ZeroF Try.prog 44 #[.int .u32 0] := ⟨by kernel_rfl⟩
theorem fn82 : FunF Try.prog 82 := ⟨_, _, Try.func82, by decide +kernel, rfl⟩
theorem intk5 : Go.Program.underlying Try.prog 5 = some (.int .u8) := by kernel_rfl
theorem str9 : StrF Try.prog 9 := ⟨by kernel_rfl⟩
theorem intk3 : Go.Program.underlying Try.prog 3 = some (.int .i64) := by kernel_rfl
theorem fn81 : FunF Try.prog 81 := ⟨_, _, Try.func81, by decide +kernel, rfl⟩
theorem sl68 : SlF Try.prog 68 4 1 1 (.bool false) := ⟨by kernel_rfl, by kernel_rfl, rfl, by decide⟩
theorem one4 : OneF Try.prog 4 := ⟨by kernel_rfl⟩
theorem nz4 : ∃ ie, Try.prog.info? 4 = some ie ∧ 0 < ie.size := nz_of (by kernel_rfl)
theorem fn90 : FunF Try.prog 90 := ⟨_, _, Try.func90, by decide +kernel, rfl⟩
theorem nz44 : ∃ ie, Try.prog.info? 44 = some ie ∧ 0 < ie.size := nz_of (by kernel_rfl)
theorem fn75 : FunF Try.prog 75 := ⟨_, _, Try.func75, by decide +kernel, rfl⟩
theorem fn77 : FunF Try.prog 77 := ⟨_, _, Try.func77, by decide +kernel, rfl⟩
theorem fn76 : FunF Try.prog 76 := ⟨_, _, Try.func76, by decide +kernel, rfl⟩
theorem bool4 : Go.Program.underlying Try.prog 4 = some .bool := by kernel_rfl
theorem fn29 : FunF Try.prog 29 := ⟨_, _, Try.func29, by decide +kernel, rfl⟩
theorem fn41 : FunF Try.prog 41 := ⟨_, _, Try.func41, by decide +kernel, rfl⟩
theorem fn23 : FunF Try.prog 23 := ⟨_, _, Try.func23, by decide +kernel, rfl⟩
theorem fn42 : FunF Try.prog 42 := ⟨_, _, Try.func42, by decide +kernel, rfl⟩
theorem fn34 : FunF Try.prog 34 := ⟨_, _, Try.func34, by decide +kernel, rfl⟩
theorem fn40 : FunF Try.prog 40 := ⟨_, _, Try.func40, by decide +kernel, rfl⟩
theorem fn25 : FunF Try.prog 25 := ⟨_, _, Try.func25, by decide +kernel, rfl⟩
theorem fn26 : FunF Try.prog 26 := ⟨_, _, Try.func26, by decide +kernel, rfl⟩
theorem fn30 : FunF Try.prog 30 := ⟨_, _, Try.func30, by decide +kernel, rfl⟩
theorem fn32 : FunF Try.prog 32 := ⟨_, _, Try.func32, by decide +kernel, rfl⟩
theorem fn44 : FunF Try.prog 44 := ⟨_, _, Try.func44, by decide +kernel, rfl⟩
theorem fn36 : FunF Try.prog 36 := ⟨_, _, Try.func36, by decide +kernel, rfl⟩
theorem fn22 : FunF Try.prog 22 := ⟨_, _, Try.func22, by decide +kernel, rfl⟩
theorem fn24 : FunF Try.prog 24 := ⟨_, _, Try.func24, by decide +kernel, rfl⟩
theorem fn27 : FunF Try.prog 27 := ⟨_, _, Try.func27, by decide +kernel, rfl⟩
theorem fn31 : FunF Try.prog 31 := ⟨_, _, Try.func31, by decide +kernel, rfl⟩
theorem fn33 : FunF Try.prog 33 := ⟨_, _, Try.func33, by decide +kernel, rfl⟩
theorem fn35 : FunF Try.prog 35 := ⟨_, _, Try.func35, by decide +kernel, rfl⟩
theorem fn37 : FunF Try.prog 37 := ⟨_, _, Try.func37, by decide +kernel, rfl⟩
theorem fn39 : FunF Try.prog 39 := ⟨_, _, Try.func39, by decide +kernel, rfl⟩
theorem fn43 : FunF Try.prog 43 := ⟨_, _, Try.func43, by decide +kernel, rfl⟩
theorem fn45 : FunF Try.prog 45 := ⟨_, _, Try.func45, by decide +kernel, rfl⟩
theorem arr49 : ArrF Try.prog 49 2 44 1 := ⟨by kernel_rfl, by kernel_rfl⟩
end Go.Proofs.Ytencmmhfiepojaa
