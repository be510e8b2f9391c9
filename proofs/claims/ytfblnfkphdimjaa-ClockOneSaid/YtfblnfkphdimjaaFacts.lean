/- Closed facts on the loaded program: sizes, offsets, zero values. No condition. -/
import Derived.Test.YtfblnfkphdimjaaChecked
import Derived.Test.YtfblnfkphdimjaaGwJoin
namespace Go.Proofs.Ytfblnfkphdimjaa
open Go Go.Gw
set_option linter.unusedVariables false
set_option linter.unusedSimpArgs false
theorem Fagg23 : aggB Try.prog 23 3 = true := by kernel_rfl
theorem Fbld23 : buildB Try.prog 23 = some ([.int .i64 0, .int .i64 0, .int .i64 0], [(0, 1), (1, 1), (2, 1)]) := by kernel_rfl
theorem Ffo23_0 : fieldOff Try.prog 23 0 = some 0 := by kernel_rfl
theorem Ffo23_1 : fieldOff Try.prog 23 1 = some 1 := by kernel_rfl
theorem Ffo23_2 : fieldOff Try.prog 23 2 = some 2 := by kernel_rfl
theorem Finf23 : infoB Try.prog 23 = some (.agg #[.int .i64 0, .int .i64 0, .int .i64 0], 3, 24) := by kernel_rfl
theorem Finf3 : infoB Try.prog 3 = some (.int .i64 0, 1, 8) := by kernel_rfl
theorem Fmo : Try.prog.follows .mixedOrders = true := by kernel_rfl
theorem Fsca3 : scalarB Try.prog 3 = true := by kernel_rfl
theorem Fsca40 : scalarB Try.prog 40 = true := by kernel_rfl
theorem Fsiz23 : sizeB Try.prog 23 3 = true := by kernel_rfl
theorem Fsiz3 : sizeB Try.prog 3 1 = true := by kernel_rfl
theorem Fsiz40 : sizeB Try.prog 40 1 = true := by kernel_rfl
theorem Fzer23 : zeroB Try.prog 23 = some [.int .i64 0, .int .i64 0, .int .i64 0] := by kernel_rfl
theorem Fzer40 : zeroB Try.prog 40 = some [.slice none 0 0] := by kernel_rfl
end Go.Proofs.Ytfblnfkphdimjaa
