/- Closed facts on the loaded program: sizes, offsets, zero values. No condition. -/
import Derived.Test.YtcgpbalpihkiiaaChecked
import Derived.Test.YtcgpbalpihkiiaaGwBits
namespace Go.Proofs.Ytcgpbalpihkiiaa
open Go Go.Gw
set_option linter.unusedVariables false
set_option linter.unusedSimpArgs false
theorem Fagg29 : aggB Try.prog 29 5 = true := by kernel_rfl
theorem Fagg35 : aggB Try.prog 35 3 = true := by kernel_rfl
theorem Fbld29 : buildB Try.prog 29 = some ([.int .i64 0, .int .i64 0, .bool false, .string ⟨#[]⟩, .int .i64 0], [(0, 1), (1, 1), (2, 1), (3, 1), (4, 1)]) := by kernel_rfl
theorem Fbld35 : buildB Try.prog 35 = some ([.int .i64 0, .int .i64 0, .int .i64 0], [(0, 1), (1, 1), (2, 1)]) := by kernel_rfl
theorem Fbld51 : buildB Try.prog 51 = some ([.slice none 0 0, .slice none 0 0, .map none], [(0, 1), (1, 1), (2, 1)]) := by kernel_rfl
theorem Feqg29 : Try.prog.eqGuardType Try.prog.depth 29 = false := by kernel_rfl
theorem Feqg35 : Try.prog.eqGuardType Try.prog.depth 35 = false := by kernel_rfl
theorem Ffo29_0 : fieldOff Try.prog 29 0 = some 0 := by kernel_rfl
theorem Ffo29_1 : fieldOff Try.prog 29 1 = some 1 := by kernel_rfl
theorem Ffo29_2 : fieldOff Try.prog 29 2 = some 2 := by kernel_rfl
theorem Ffo29_3 : fieldOff Try.prog 29 3 = some 3 := by kernel_rfl
theorem Ffo29_4 : fieldOff Try.prog 29 4 = some 4 := by kernel_rfl
theorem Ffo31_0 : fieldOff Try.prog 31 0 = some 0 := by kernel_rfl
theorem Ffo31_1 : fieldOff Try.prog 31 1 = some 1 := by kernel_rfl
theorem Ffo35_0 : fieldOff Try.prog 35 0 = some 0 := by kernel_rfl
theorem Ffo35_1 : fieldOff Try.prog 35 1 = some 1 := by kernel_rfl
theorem Ffo51_0 : fieldOff Try.prog 51 0 = some 0 := by kernel_rfl
theorem Ffo51_1 : fieldOff Try.prog 51 1 = some 1 := by kernel_rfl
theorem Ffo51_2 : fieldOff Try.prog 51 2 = some 2 := by kernel_rfl
theorem Finf29 : infoB Try.prog 29 = some (.agg #[.int .i64 0, .int .i64 0, .bool false, .string ⟨#[]⟩, .int .i64 0], 5, 48) := by kernel_rfl
theorem Finf3 : infoB Try.prog 3 = some (.int .i64 0, 1, 8) := by kernel_rfl
theorem Finf39 : infoB Try.prog 39 = some (.slice none 0 0, 1, 24) := by kernel_rfl
theorem Finf4 : infoB Try.prog 4 = some (.bool false, 1, 1) := by kernel_rfl
theorem Finf55 : infoB Try.prog 55 = some (.pointer none, 1, 8) := by kernel_rfl
theorem Fmo : Try.prog.follows .mixedOrders = true := by kernel_rfl
theorem Fsca3 : scalarB Try.prog 3 = true := by kernel_rfl
theorem Fsca39 : scalarB Try.prog 39 = true := by kernel_rfl
theorem Fsca4 : scalarB Try.prog 4 = true := by kernel_rfl
theorem Fsca49 : scalarB Try.prog 49 = true := by kernel_rfl
theorem Fsca55 : scalarB Try.prog 55 = true := by kernel_rfl
theorem Fsca9 : scalarB Try.prog 9 = true := by kernel_rfl
theorem Fsiz29 : sizeB Try.prog 29 5 = true := by kernel_rfl
theorem Fsiz3 : sizeB Try.prog 3 1 = true := by kernel_rfl
theorem Fsiz31 : sizeB Try.prog 31 6 = true := by kernel_rfl
theorem Fsiz35 : sizeB Try.prog 35 3 = true := by kernel_rfl
theorem Fsiz39 : sizeB Try.prog 39 1 = true := by kernel_rfl
theorem Fsiz55 : sizeB Try.prog 55 1 = true := by kernel_rfl
theorem Fzer29 : zeroB Try.prog 29 = some [.int .i64 0, .int .i64 0, .bool false, .string ⟨#[]⟩, .int .i64 0] := by kernel_rfl
theorem Fzer35 : zeroB Try.prog 35 = some [.int .i64 0, .int .i64 0, .int .i64 0] := by kernel_rfl
end Go.Proofs.Ytcgpbalpihkiiaa
