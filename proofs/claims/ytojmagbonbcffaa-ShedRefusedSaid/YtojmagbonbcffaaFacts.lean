/- Closed facts on the loaded program: sizes, offsets, zero values. No condition. -/
import Derived.Test.YtojmagbonbcffaaChecked
import Derived.Test.YtojmagbonbcffaaGwMap
namespace Go.Proofs.Ytojmagbonbcffaa
open Go Go.Gw
set_option linter.unusedVariables false
set_option linter.unusedSimpArgs false
theorem Fagg34 : aggB Try.prog 34 3 = true := by kernel_rfl
theorem Fagg60 : aggB Try.prog 60 3 = true := by kernel_rfl
theorem Fbld50 : buildB Try.prog 50 = some ([.int .i64 0, .int .i64 0], [(0, 1), (1, 1)]) := by kernel_rfl
theorem Fbld53 : buildB Try.prog 53 = some ([.int .i64 0, .int .i64 0, .slice none 0 0, .int .i64 0, .slice none 0 0, .slice none 0 0], [(0, 2), (2, 1), (3, 1), (4, 1), (5, 1)]) := by kernel_rfl
theorem Fbld56 : buildB Try.prog 56 = some ([.int .i64 0, .slice none 0 0, .int .i64 0, .int .i64 0, .slice none 0 0], [(0, 1), (1, 1), (2, 1), (3, 1), (4, 1)]) := by kernel_rfl
theorem Fbld60 : buildB Try.prog 60 = some ([.int .i64 0, .int .i64 0, .int .i64 0], [(0, 1), (1, 1), (2, 1)]) := by kernel_rfl
theorem Ffo34_0 : fieldOff Try.prog 34 0 = some 0 := by kernel_rfl
theorem Ffo34_1 : fieldOff Try.prog 34 1 = some 1 := by kernel_rfl
theorem Ffo34_2 : fieldOff Try.prog 34 2 = some 2 := by kernel_rfl
theorem Ffo50_0 : fieldOff Try.prog 50 0 = some 0 := by kernel_rfl
theorem Ffo50_1 : fieldOff Try.prog 50 1 = some 1 := by kernel_rfl
theorem Ffo53_0 : fieldOff Try.prog 53 0 = some 0 := by kernel_rfl
theorem Ffo53_1 : fieldOff Try.prog 53 1 = some 2 := by kernel_rfl
theorem Ffo53_2 : fieldOff Try.prog 53 2 = some 3 := by kernel_rfl
theorem Ffo53_3 : fieldOff Try.prog 53 3 = some 4 := by kernel_rfl
theorem Ffo53_4 : fieldOff Try.prog 53 4 = some 5 := by kernel_rfl
theorem Ffo56_0 : fieldOff Try.prog 56 0 = some 0 := by kernel_rfl
theorem Ffo56_1 : fieldOff Try.prog 56 1 = some 1 := by kernel_rfl
theorem Ffo56_2 : fieldOff Try.prog 56 2 = some 2 := by kernel_rfl
theorem Ffo56_3 : fieldOff Try.prog 56 3 = some 3 := by kernel_rfl
theorem Ffo56_4 : fieldOff Try.prog 56 4 = some 4 := by kernel_rfl
theorem Ffo60_0 : fieldOff Try.prog 60 0 = some 0 := by kernel_rfl
theorem Ffo60_1 : fieldOff Try.prog 60 1 = some 1 := by kernel_rfl
theorem Ffo60_2 : fieldOff Try.prog 60 2 = some 2 := by kernel_rfl
theorem Finf3 : infoB Try.prog 3 = some (.int .i64 0, 1, 8) := by kernel_rfl
theorem Finf60 : infoB Try.prog 60 = some (.agg #[.int .i64 0, .int .i64 0, .int .i64 0], 3, 24) := by kernel_rfl
theorem Fmo : Try.prog.follows .mixedOrders = true := by kernel_rfl
theorem Fsca22 : scalarB Try.prog 22 = true := by kernel_rfl
theorem Fsca3 : scalarB Try.prog 3 = true := by kernel_rfl
theorem Fsca5 : scalarB Try.prog 5 = true := by kernel_rfl
theorem Fsca54 : scalarB Try.prog 54 = true := by kernel_rfl
theorem Fsiz3 : sizeB Try.prog 3 1 = true := by kernel_rfl
theorem Fsiz34 : sizeB Try.prog 34 3 = true := by kernel_rfl
theorem Fsiz5 : sizeB Try.prog 5 1 = true := by kernel_rfl
theorem Fsiz54 : sizeB Try.prog 54 1 = true := by kernel_rfl
theorem Fsiz60 : sizeB Try.prog 60 3 = true := by kernel_rfl
theorem Fzer34 : zeroB Try.prog 34 = some [.int .i64 0, .int .i64 0, .int .i64 0] := by kernel_rfl
theorem Fzer60 : zeroB Try.prog 60 = some [.int .i64 0, .int .i64 0, .int .i64 0] := by kernel_rfl
end Go.Proofs.Ytojmagbonbcffaa
