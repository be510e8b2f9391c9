/- Closed facts on the loaded program: sizes, offsets, zero values. No condition. -/
import Derived.Test.YtgplcgfdaoenfaaChecked
import Derived.Test.YtgplcgfdaoenfaaGwCut
namespace Go.Proofs.Ytgplcgfdaoenfaa
open Go Go.Gw
set_option linter.unusedVariables false
set_option linter.unusedSimpArgs false
theorem Fbld48 : buildB Try.prog 48 = some ([.slice none 0 0, .int .i64 0, .int .i64 0, .int .i64 0, .map none, .map none, .slice none 0 0], [(0, 1), (1, 1), (2, 1), (3, 1), (4, 1), (5, 1), (6, 1)]) := by kernel_rfl
theorem Fbld50 : buildB Try.prog 50 = some ([.slice none 0 0, .slice none 0 0, .slice none 0 0, .slice none 0 0], [(0, 1), (1, 1), (2, 1), (3, 1)]) := by kernel_rfl
theorem Ffo35_0 : fieldOff Try.prog 35 0 = some 0 := by kernel_rfl
theorem Ffo35_1 : fieldOff Try.prog 35 1 = some 1 := by kernel_rfl
theorem Ffo35_2 : fieldOff Try.prog 35 2 = some 2 := by kernel_rfl
theorem Ffo48_0 : fieldOff Try.prog 48 0 = some 0 := by kernel_rfl
theorem Ffo48_1 : fieldOff Try.prog 48 1 = some 1 := by kernel_rfl
theorem Ffo48_2 : fieldOff Try.prog 48 2 = some 2 := by kernel_rfl
theorem Ffo48_3 : fieldOff Try.prog 48 3 = some 3 := by kernel_rfl
theorem Ffo48_4 : fieldOff Try.prog 48 4 = some 4 := by kernel_rfl
theorem Ffo48_5 : fieldOff Try.prog 48 5 = some 5 := by kernel_rfl
theorem Ffo48_6 : fieldOff Try.prog 48 6 = some 6 := by kernel_rfl
theorem Ffo50_0 : fieldOff Try.prog 50 0 = some 0 := by kernel_rfl
theorem Ffo50_1 : fieldOff Try.prog 50 1 = some 1 := by kernel_rfl
theorem Ffo50_2 : fieldOff Try.prog 50 2 = some 2 := by kernel_rfl
theorem Ffo50_3 : fieldOff Try.prog 50 3 = some 3 := by kernel_rfl
theorem Finf3 : infoB Try.prog 3 = some (.int .i64 0, 1, 8) := by kernel_rfl
theorem Finf37 : infoB Try.prog 37 = some (.nilFunc, 1, 8) := by kernel_rfl
theorem Fmo : Try.prog.follows .mixedOrders = true := by kernel_rfl
theorem Fsca22 : scalarB Try.prog 22 = true := by kernel_rfl
theorem Fsca25 : scalarB Try.prog 25 = true := by kernel_rfl
theorem Fsca3 : scalarB Try.prog 3 = true := by kernel_rfl
theorem Fsca37 : scalarB Try.prog 37 = true := by kernel_rfl
theorem Fsca4 : scalarB Try.prog 4 = true := by kernel_rfl
theorem Fsca46 : scalarB Try.prog 46 = true := by kernel_rfl
theorem Fsiz22 : sizeB Try.prog 22 1 = true := by kernel_rfl
theorem Fsiz3 : sizeB Try.prog 3 1 = true := by kernel_rfl
theorem Fsiz35 : sizeB Try.prog 35 3 = true := by kernel_rfl
theorem Fsiz37 : sizeB Try.prog 37 1 = true := by kernel_rfl
end Go.Proofs.Ytgplcgfdaoenfaa
