/- Closed facts on the loaded program: sizes, offsets, zero values. No condition. -/
import Derived.Test.YtbncnncpeiiliaaChecked
import Derived.Test.YtbncnncpeiiliaaGwRows
namespace Go.Proofs.Ytbncnncpeiiliaa
open Go Go.Gw
set_option linter.unusedVariables false
set_option linter.unusedSimpArgs false
theorem Fagg26 : aggB Try.prog 26 9 = true := by kernel_rfl
theorem Fagg38 : aggB Try.prog 38 3 = true := by kernel_rfl
theorem Fbld26 : buildB Try.prog 26 = some ([.int .i64 0, .int .i64 0, .int .i64 0, .int .i64 0, .int .i64 0, .int .i64 0, .int .i64 0, .int .i64 0, .int .i64 0], [(0, 1), (1, 1), (2, 1), (3, 1), (4, 1), (5, 1), (6, 1), (7, 1), (8, 1)]) := by kernel_rfl
theorem Fbld38 : buildB Try.prog 38 = some ([.int .i64 0, .int .i64 0, .int .i64 0], [(0, 1), (1, 1), (2, 1)]) := by kernel_rfl
theorem Ffo26_0 : fieldOff Try.prog 26 0 = some 0 := by kernel_rfl
theorem Ffo26_1 : fieldOff Try.prog 26 1 = some 1 := by kernel_rfl
theorem Ffo26_7 : fieldOff Try.prog 26 7 = some 7 := by kernel_rfl
theorem Ffo26_8 : fieldOff Try.prog 26 8 = some 8 := by kernel_rfl
theorem Finf26 : infoB Try.prog 26 = some (.agg #[.int .i64 0, .int .i64 0, .int .i64 0, .int .i64 0, .int .i64 0, .int .i64 0, .int .i64 0, .int .i64 0, .int .i64 0], 9, 72) := by kernel_rfl
theorem Finf3 : infoB Try.prog 3 = some (.int .i64 0, 1, 8) := by kernel_rfl
theorem Finf32 : infoB Try.prog 32 = some (.slice none 0 0, 1, 24) := by kernel_rfl
theorem Fmo : Try.prog.follows .mixedOrders = true := by kernel_rfl
theorem Fsca22 : scalarB Try.prog 22 = true := by kernel_rfl
theorem Fsca28 : scalarB Try.prog 28 = true := by kernel_rfl
theorem Fsca3 : scalarB Try.prog 3 = true := by kernel_rfl
theorem Fsca32 : scalarB Try.prog 32 = true := by kernel_rfl
theorem Fsca5 : scalarB Try.prog 5 = true := by kernel_rfl
theorem Fsiz26 : sizeB Try.prog 26 9 = true := by kernel_rfl
theorem Fsiz28 : sizeB Try.prog 28 1 = true := by kernel_rfl
theorem Fsiz3 : sizeB Try.prog 3 1 = true := by kernel_rfl
theorem Fsiz32 : sizeB Try.prog 32 1 = true := by kernel_rfl
theorem Fsiz38 : sizeB Try.prog 38 3 = true := by kernel_rfl
theorem Fsiz5 : sizeB Try.prog 5 1 = true := by kernel_rfl
theorem Fzer26 : zeroB Try.prog 26 = some [.int .i64 0, .int .i64 0, .int .i64 0, .int .i64 0, .int .i64 0, .int .i64 0, .int .i64 0, .int .i64 0, .int .i64 0] := by kernel_rfl
theorem Fzer28 : zeroB Try.prog 28 = some [.slice none 0 0] := by kernel_rfl
theorem Fzer3 : zeroB Try.prog 3 = some [.int .i64 0] := by kernel_rfl
theorem Fzer38 : zeroB Try.prog 38 = some [.int .i64 0, .int .i64 0, .int .i64 0] := by kernel_rfl
end Go.Proofs.Ytbncnncpeiiliaa
