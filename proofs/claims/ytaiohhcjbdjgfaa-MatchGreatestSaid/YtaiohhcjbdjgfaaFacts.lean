/- Closed facts on the loaded program: sizes, offsets, zero values. No condition. -/
import Derived.Test.YtaiohhcjbdjgfaaChecked
import Derived.Test.YtaiohhcjbdjgfaaGwCut
namespace Go.Proofs.Ytaiohhcjbdjgfaa
open Go Go.Gw
set_option linter.unusedVariables false
set_option linter.unusedSimpArgs false
theorem Fagg25 : aggB Try.prog 25 2 = true := by kernel_rfl
theorem Fbld25 : buildB Try.prog 25 = some ([.slice none 0 0, .slice none 0 0], [(0, 1), (1, 1)]) := by kernel_rfl
theorem Ffo25_0 : fieldOff Try.prog 25 0 = some 0 := by kernel_rfl
theorem Ffo25_1 : fieldOff Try.prog 25 1 = some 1 := by kernel_rfl
theorem Finf23 : infoB Try.prog 23 = some (.slice none 0 0, 1, 24) := by kernel_rfl
theorem Finf3 : infoB Try.prog 3 = some (.int .i64 0, 1, 8) := by kernel_rfl
theorem Finf4 : infoB Try.prog 4 = some (.bool false, 1, 1) := by kernel_rfl
theorem Fmo : Try.prog.follows .mixedOrders = true := by kernel_rfl
theorem Fsca22 : scalarB Try.prog 22 = true := by kernel_rfl
theorem Fsca23 : scalarB Try.prog 23 = true := by kernel_rfl
theorem Fsca3 : scalarB Try.prog 3 = true := by kernel_rfl
theorem Fsca4 : scalarB Try.prog 4 = true := by kernel_rfl
theorem Fsca44 : scalarB Try.prog 44 = true := by kernel_rfl
theorem Fsca47 : scalarB Try.prog 47 = true := by kernel_rfl
theorem Fsca48 : scalarB Try.prog 48 = true := by kernel_rfl
theorem Fsiz23 : sizeB Try.prog 23 1 = true := by kernel_rfl
theorem Fsiz25 : sizeB Try.prog 25 2 = true := by kernel_rfl
theorem Fsiz3 : sizeB Try.prog 3 1 = true := by kernel_rfl
theorem Fsiz4 : sizeB Try.prog 4 1 = true := by kernel_rfl
theorem Fsiz44 : sizeB Try.prog 44 1 = true := by kernel_rfl
theorem Fsiz47 : sizeB Try.prog 47 1 = true := by kernel_rfl
theorem Fsiz48 : sizeB Try.prog 48 1 = true := by kernel_rfl
theorem Fzer23 : zeroB Try.prog 23 = some [.slice none 0 0] := by kernel_rfl
theorem Fzer25 : zeroB Try.prog 25 = some [.slice none 0 0, .slice none 0 0] := by kernel_rfl
theorem Fzer44 : zeroB Try.prog 44 = some [.map none] := by kernel_rfl
theorem Fzer47 : zeroB Try.prog 47 = some [.nilFunc] := by kernel_rfl
theorem Fzer48 : zeroB Try.prog 48 = some [.nilFunc] := by kernel_rfl
end Go.Proofs.Ytaiohhcjbdjgfaa
