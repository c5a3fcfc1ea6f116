/- Part of the proof that is named in YtdeiiagkbbimhaaNRowOnes: a library for walks, or a function's walk. -/
import Derived.Test.YtdeiiagkbbimhaaNodeSpec5
import Derived.Test.YtdeiiagkbbimhaaRows
set_option linter.unusedSimpArgs false
set_option linter.unusedVariables false
namespace Go.Proofs.Ytdeiiagkbbimhaa
open Go.RowKit Go.Gw
theorem sl22 : SlF Try.prog 22 35 5 40 (.agg #[.int .i64 0, .int .i64 0, .int .i64 0, .int .i64 0, .int .i64 0]) := ⟨by kernel_rfl, by kernel_rfl, rfl, by decide⟩
theorem row35 : RowF Try.prog 35 5 := ⟨by kernel_rfl⟩
theorem zero35 : ZeroF Try.prog 35 #[.int .i64 0, .int .i64 0, .int .i64 0, .int .i64 0, .int .i64 0] := ⟨by kernel_rfl⟩
theorem fld35_0 : FieldF Try.prog 35 0 0 := ⟨by kernel_rfl⟩
theorem one3 : OneF Try.prog 3 := ⟨by kernel_rfl⟩
theorem fld35_1 : FieldF Try.prog 35 1 1 := ⟨by kernel_rfl⟩
theorem row33 : RowF Try.prog 33 4 := ⟨by kernel_rfl⟩
theorem arr33 : ArrF Try.prog 33 4 3 1 := ⟨by kernel_rfl, by kernel_rfl⟩
theorem fn25 : FunF Try.prog 25 := ⟨_, _, Try.func25, by decide +kernel, rfl⟩
theorem one43 : OneF Try.prog 43 := ⟨by kernel_rfl⟩
theorem sl43 : SlF Try.prog 43 4 1 1 (.bool false) := ⟨by kernel_rfl, by kernel_rfl, rfl, by decide⟩
theorem one4 : OneF Try.prog 4 := ⟨by kernel_rfl⟩
theorem sl46 : SlF Try.prog 46 3 1 8 (.int .i64 0) := ⟨by kernel_rfl, by kernel_rfl, rfl, by decide⟩
theorem fn46 : FunF Try.prog 46 := ⟨_, _, Try.func46, by decide +kernel, rfl⟩
theorem zero43 : ZeroF Try.prog 43 #[.slice none 0 0] := ⟨by kernel_rfl⟩
theorem fn40 : FunF Try.prog 40 := ⟨_, _, Try.func40, by decide +kernel, rfl⟩
theorem fn39 : FunF Try.prog 39 := ⟨_, _, Try.func39, by decide +kernel, rfl⟩
theorem fn27 : FunF Try.prog 27 := ⟨_, _, Try.func27, by decide +kernel, rfl⟩
theorem fld27_0 : FieldF Try.prog 27 0 0 := ⟨by kernel_rfl⟩
theorem one22 : OneF Try.prog 22 := ⟨by kernel_rfl⟩
theorem nodeF : NodeF Try.prog 35 33 3 := ⟨by kernel_rfl, by kernel_rfl, by kernel_rfl, by kernel_rfl, by kernel_rfl, by kernel_rfl, by kernel_rfl⟩
theorem eqNode : EqF Try.prog 35 Nd.val := eqF_node nodeF Nd.tup Nd.tup_inj
theorem keyNode : KeyF Try.prog 35 Nd.val := keyF_node nodeF Nd.tup Nd.tup_inj
theorem fn31 : FunF Try.prog 31 := ⟨_, _, Try.func31, by decide +kernel, rfl⟩
theorem fn14 : FunF Try.prog 14 := ⟨_, _, Try.func14, by decide +kernel, rfl⟩
theorem bool4 : Go.Program.underlying Try.prog 4 = some .bool := by kernel_rfl
theorem fn38 : FunF Try.prog 38 := ⟨_, _, Try.func38, by decide +kernel, rfl⟩
theorem fn29 : FunF Try.prog 29 := ⟨_, _, Try.func29, by decide +kernel, rfl⟩
theorem fld66_1 : FieldF Try.prog 66 1 1 := ⟨by kernel_rfl⟩
theorem fld66_0 : FieldF Try.prog 66 0 0 := ⟨by kernel_rfl⟩
theorem fn41 : FunF Try.prog 41 := ⟨_, _, Try.func41, by decide +kernel, rfl⟩
theorem fld66_2 : FieldF Try.prog 66 2 2 := ⟨by kernel_rfl⟩
theorem one46 : OneF Try.prog 46 := ⟨by kernel_rfl⟩
theorem nz3 : ∃ ie, Try.prog.info? 3 = some ie ∧ 0 < ie.size := nz_of (by kernel_rfl)
theorem fn9 : FunF Try.prog 9 := ⟨_, _, Try.func9, by decide +kernel, rfl⟩
theorem fn17 : FunF Try.prog 17 := ⟨_, _, Try.func17, by decide +kernel, rfl⟩
theorem fn26 : FunF Try.prog 26 := ⟨_, _, Try.func26, by decide +kernel, rfl⟩
theorem map45 : MapF Try.prog 45 35 4 := ⟨by kernel_rfl⟩
theorem fn28 : FunF Try.prog 28 := ⟨_, _, Try.func28, by decide +kernel, rfl⟩
theorem fn30 : FunF Try.prog 30 := ⟨_, _, Try.func30, by decide +kernel, rfl⟩
theorem fn10 : FunF Try.prog 10 := ⟨_, _, Try.func10, by decide +kernel, rfl⟩
theorem fn18 : FunF Try.prog 18 := ⟨_, _, Try.func18, by decide +kernel, rfl⟩
theorem nz35 : ∃ ie, Try.prog.info? 35 = some ie ∧ 0 < ie.size := nz_of (by kernel_rfl)
theorem fn11 : FunF Try.prog 11 := ⟨_, _, Try.func11, by decide +kernel, rfl⟩
theorem fn19 : FunF Try.prog 19 := ⟨_, _, Try.func19, by decide +kernel, rfl⟩
theorem fn15 : FunF Try.prog 15 := ⟨_, _, Try.func15, by decide +kernel, rfl⟩
theorem fn13 : FunF Try.prog 13 := ⟨_, _, Try.func13, by decide +kernel, rfl⟩
theorem fn8 : FunF Try.prog 8 := ⟨_, _, Try.func8, by decide +kernel, rfl⟩
theorem fn12 : FunF Try.prog 12 := ⟨_, _, Try.func12, by decide +kernel, rfl⟩
theorem fn16 : FunF Try.prog 16 := ⟨_, _, Try.func16, by decide +kernel, rfl⟩
theorem zero27 : ZeroF Try.prog 27 #[.slice none 0 0] := ⟨by kernel_rfl⟩
theorem row27 : RowF Try.prog 27 1 := ⟨by kernel_rfl⟩
theorem intk5 : Go.Program.underlying Try.prog 5 = some (.int .u8) := by kernel_rfl
theorem intk3 : Go.Program.underlying Try.prog 3 = some (.int .i64) := by kernel_rfl
end Go.Proofs.Ytdeiiagkbbimhaa
