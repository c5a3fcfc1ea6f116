/- Part of the proof that is named in YtdeiiagkbbimhaaNRowCanJust: a library for walks, or a function's walk. -/
import Derived.Test.YtdeiiagkbbimhaaNodeSpec5
import Derived.Test.YtdeiiagkbbimhaaRows
import Derived.Test.YtdeiiagkbbimhaaGw19
set_option maxRecDepth 20000
set_option linter.unusedSimpArgs false
set_option linter.unusedVariables false
namespace Go.Proofs.Ytdeiiagkbbimhaa
open Go.RowKit Go.Gw
theorem sl22 : SlF Try.prog 22 35 5 40 (.agg #[.int .i64 0, .int .i64 0, .int .i64 0, .int .i64 0, .int .i64 0]) := ⟨by kernel_rfl, by kernel_rfl, rfl, by decide⟩
theorem row35 : RowF Try.prog 35 5 := ⟨by kernel_rfl⟩
theorem zero35 : ZeroF Try.prog 35 #[.int .i64 0, .int .i64 0, .int .i64 0, .int .i64 0, .int .i64 0] := ⟨by kernel_rfl⟩
theorem fld35_0 : FieldF Try.prog 35 0 0 := ⟨by kernel_rfl⟩
theorem one3 : OneF Try.prog 3 := ⟨by kernel_rfl⟩
theorem fld35_1 : FieldF Try.prog 35 1 1 := ⟨by kernel_rfl⟩
theorem row33 : RowF Try.prog 33 4 := ⟨by kernel_rfl⟩
theorem arr33 : ArrF Try.prog 33 4 3 1 := ⟨by kernel_rfl, by kernel_rfl⟩
theorem fn25 : FunF Try.prog 25 := ⟨_, _, Try.func25, by decide +kernel, rfl⟩
theorem one43 : OneF Try.prog 43 := ⟨by kernel_rfl⟩
theorem sl43 : SlF Try.prog 43 4 1 1 (.bool false) := ⟨by kernel_rfl, by kernel_rfl, rfl, by decide⟩
theorem one4 : OneF Try.prog 4 := ⟨by kernel_rfl⟩
theorem sl46 : SlF Try.prog 46 3 1 8 (.int .i64 0) := ⟨by kernel_rfl, by kernel_rfl, rfl, by decide⟩
theorem fn46 : FunF Try.prog 46 := ⟨_, _, Try.func46, by decide +kernel, rfl⟩
theorem zero43 : ZeroF Try.prog 43 #[.slice none 0 0] := ⟨by kernel_rfl⟩
theorem fn40 : FunF Try.prog 40 := ⟨_, _, Try.func40, by decide +kernel, rfl⟩
theorem fn39 : FunF Try.prog 39 := ⟨_, _, Try.func39, by decide +kernel, rfl⟩
theorem fn27 : FunF Try.prog 27 := ⟨_, _, Try.func27, by decide +kernel, rfl⟩
theorem fld27_0 : FieldF Try.prog 27 0 0 := ⟨by kernel_rfl⟩
theorem one22 : OneF Try.prog 22 := ⟨by kernel_rfl⟩
theorem nodeF : NodeF Try.prog 35 33 3 := ⟨by kernel_rfl, by kernel_rfl, by kernel_rfl, by kernel_rfl, by kernel_rfl, by kernel_rfl, by kernel_rfl⟩
theorem eqNode : EqF Try.prog 35 Nd.val := eqF_node nodeF Nd.tup Nd.tup_inj
theorem keyNode : KeyF Try.prog 35 Nd.val := keyF_node nodeF Nd.tup Nd.tup_inj
theorem fn31 : FunF Try.prog 31 := ⟨_, _, Try.func31, by decide +kernel, rfl⟩
theorem fn14 : FunF Try.prog 14 := ⟨_, _, Try.func14, by decide +kernel, rfl⟩
theorem bool4 : Go.Program.underlying Try.prog 4 = some .bool := by kernel_rfl
theorem fn38 : FunF Try.prog 38 := ⟨_, _, Try.func38, by decide +kernel, rfl⟩
theorem fn29 : FunF Try.prog 29 := ⟨_, _, Try.func29, by decide +kernel, rfl⟩
theorem fld66_1 : FieldF Try.prog 66 1 1 := ⟨by kernel_rfl⟩
theorem fld66_0 : FieldF Try.prog 66 0 0 := ⟨by kernel_rfl⟩
theorem fn41 : FunF Try.prog 41 := ⟨_, _, Try.func41, by decide +kernel, rfl⟩
theorem fld66_2 : FieldF Try.prog 66 2 2 := ⟨by kernel_rfl⟩
theorem one46 : OneF Try.prog 46 := ⟨by kernel_rfl⟩
theorem nz3 : ∃ ie, Try.prog.info? 3 = some ie ∧ 0 < ie.size := nz_of (by kernel_rfl)
theorem fn9 : FunF Try.prog 9 := ⟨_, _, Try.func9, by decide +kernel, rfl⟩
theorem fn17 : FunF Try.prog 17 := ⟨_, _, Try.func17, by decide +kernel, rfl⟩
theorem fn26 : FunF Try.prog 26 := ⟨_, _, Try.func26, by decide +kernel, rfl⟩
theorem map45 : MapF Try.prog 45 35 4 := ⟨by kernel_rfl⟩
theorem fn28 : FunF Try.prog 28 := ⟨_, _, Try.func28, by decide +kernel, rfl⟩
theorem fn30 : FunF Try.prog 30 := ⟨_, _, Try.func30, by decide +kernel, rfl⟩
theorem fn10 : FunF Try.prog 10 := ⟨_, _, Try.func10, by decide +kernel, rfl⟩
theorem fn18 : FunF Try.prog 18 := ⟨_, _, Try.func18, by decide +kernel, rfl⟩
theorem nz35 : ∃ ie, Try.prog.info? 35 = some ie ∧ 0 < ie.size := nz_of (by kernel_rfl)
theorem fn11 : FunF Try.prog 11 := ⟨_, _, Try.func11, by decide +kernel, rfl⟩
theorem fn19 : FunF Try.prog 19 := ⟨_, _, Try.func19, by decide +kernel, rfl⟩
theorem fn15 : FunF Try.prog 15 := ⟨_, _, Try.func15, by decide +kernel, rfl⟩
theorem fn13 : FunF Try.prog 13 := ⟨_, _, Try.func13, by decide +kernel, rfl⟩
theorem fn8 : FunF Try.prog 8 := ⟨_, _, Try.func8, by decide +kernel, rfl⟩
theorem fn12 : FunF Try.prog 12 := ⟨_, _, Try.func12, by decide +kernel, rfl⟩
theorem fn16 : FunF Try.prog 16 := ⟨_, _, Try.func16, by decide +kernel, rfl⟩
theorem zero27 : ZeroF Try.prog 27 #[.slice none 0 0] := ⟨by kernel_rfl⟩
theorem row27 : RowF Try.prog 27 1 := ⟨by kernel_rfl⟩
theorem intk5 : Go.Program.underlying Try.prog 5 = some (.int .u8) := by kernel_rfl
theorem intk3 : Go.Program.underlying Try.prog 3 = some (.int .i64) := by kernel_rfl
theorem fn42 : FunF Try.prog 42 := ⟨_, _, Try.func42, by decide +kernel, rfl⟩
theorem fn43 : FunF Try.prog 43 := ⟨_, _, Try.func43, by decide +kernel, rfl⟩
theorem fn44 : FunF Try.prog 44 := ⟨_, _, Try.func44, by decide +kernel, rfl⟩
theorem fn37 : FunF Try.prog 37 := ⟨_, _, Try.func37, by decide +kernel, rfl⟩
theorem fn45 : FunF Try.prog 45 := ⟨_, _, Try.func45, by decide +kernel, rfl⟩
theorem fn36 : FunF Try.prog 36 := ⟨_, _, Try.func36, by decide +kernel, rfl⟩
theorem keyI : KeyF Try.prog 3 ekI := keyF_I (by kernel_rfl)
theorem four33 : Go.Program.underlying Try.prog 33 = some (.array 4 3) := by kernel_rfl
theorem fld54_1 : FieldF Try.prog 54 1 1 := ⟨by kernel_rfl⟩
theorem one52 : OneF Try.prog 52 := ⟨by kernel_rfl⟩
theorem map52 : MapF Try.prog 52 35 3 := ⟨by kernel_rfl⟩
theorem fld54_0 : FieldF Try.prog 54 0 0 := ⟨by kernel_rfl⟩
theorem one55 : OneF Try.prog 55 := ⟨by kernel_rfl⟩
theorem map55 : MapF Try.prog 55 3 3 := ⟨by kernel_rfl⟩
theorem one56 : OneF Try.prog 56 := ⟨by kernel_rfl⟩
theorem one51 : OneF Try.prog 51 := ⟨by kernel_rfl⟩
theorem fn35 : FunF Try.prog 35 := ⟨_, _, Try.func35, by decide +kernel, rfl⟩
theorem fn34 : FunF Try.prog 34 := ⟨_, _, Try.func34, by decide +kernel, rfl⟩
theorem fn33 : FunF Try.prog 33 := ⟨_, _, Try.func33, by decide +kernel, rfl⟩
theorem zero51 : ZeroF Try.prog 51 #[.pointer none] := ⟨by kernel_rfl⟩
theorem zero55 : ZeroF Try.prog 55 #[.map none] := ⟨by kernel_rfl⟩
theorem zero56 : ZeroF Try.prog 56 #[.nilFunc] := ⟨by kernel_rfl⟩
theorem fn21 : FunF Try.prog 21 := ⟨_, _, Try.func21, by decide +kernel, rfl⟩
theorem fn32 : FunF Try.prog 32 := ⟨_, _, Try.func32, by decide +kernel, rfl⟩
theorem fn23 : FunF Try.prog 23 := ⟨_, _, Try.func23, by decide +kernel, rfl⟩
theorem fn20 : FunF Try.prog 20 := ⟨_, _, Try.func20, by decide +kernel, rfl⟩
theorem fn22 : FunF Try.prog 22 := ⟨_, _, Try.func22, by decide +kernel, rfl⟩
theorem fn24 : FunF Try.prog 24 := ⟨_, _, Try.func24, by decide +kernel, rfl⟩
end Go.Proofs.Ytdeiiagkbbimhaa
