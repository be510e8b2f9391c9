/- Closed facts on the loaded program: sizes, offsets, zero values. No condition. -/
import Derived.Test.YtoghkehlmibniaaChecked
import Derived.Test.YtoghkehlmibniaaGwQue
namespace Go.Proofs.Ytoghkehlmibniaa
open Go Go.Gw
set_option linter.unusedVariables false
set_option linter.unusedSimpArgs false
theorem Finf23 : infoB Try.prog 23 = some (.slice none 0 0, 1, 24) := by kernel_rfl
theorem Finf3 : infoB Try.prog 3 = some (.int .i64 0, 1, 8) := by kernel_rfl
theorem Finf4 : infoB Try.prog 4 = some (.bool false, 1, 1) := by kernel_rfl
theorem Fmo : Try.prog.follows .mixedOrders = true := by kernel_rfl
theorem Fsca22 : scalarB Try.prog 22 = true := by kernel_rfl
theorem Fsca23 : scalarB Try.prog 23 = true := by kernel_rfl
theorem Fsca3 : scalarB Try.prog 3 = true := by kernel_rfl
theorem Fsca38 : scalarB Try.prog 38 = true := by kernel_rfl
theorem Fsca4 : scalarB Try.prog 4 = true := by kernel_rfl
theorem Fsca44 : scalarB Try.prog 44 = true := by kernel_rfl
theorem Fsca48 : scalarB Try.prog 48 = true := by kernel_rfl
theorem Fsiz22 : sizeB Try.prog 22 1 = true := by kernel_rfl
theorem Fsiz23 : sizeB Try.prog 23 1 = true := by kernel_rfl
theorem Fsiz3 : sizeB Try.prog 3 1 = true := by kernel_rfl
theorem Fsiz38 : sizeB Try.prog 38 1 = true := by kernel_rfl
theorem Fsiz4 : sizeB Try.prog 4 1 = true := by kernel_rfl
theorem Fsiz48 : sizeB Try.prog 48 1 = true := by kernel_rfl
theorem Fzer22 : zeroB Try.prog 22 = some [.slice none 0 0] := by kernel_rfl
theorem Fzer23 : zeroB Try.prog 23 = some [.slice none 0 0] := by kernel_rfl
theorem Fzer3 : zeroB Try.prog 3 = some [.int .i64 0] := by kernel_rfl
theorem Fzer38 : zeroB Try.prog 38 = some [.slice none 0 0] := by kernel_rfl
theorem Fzer48 : zeroB Try.prog 48 = some [.nilFunc] := by kernel_rfl
end Go.Proofs.Ytoghkehlmibniaa
