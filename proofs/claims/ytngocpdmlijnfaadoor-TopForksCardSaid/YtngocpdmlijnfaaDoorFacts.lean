/- Closed facts on the loaded program: sizes, offsets, zero values. No condition. -/
import Derived.Test.YtngocpdmlijnfaaDoorChecked
import Derived.Test.YtngocpdmlijnfaaDoorGwWord
import Derived.Test.YtngocpdmlijnfaaDoorShelf
namespace Go.Proofs.YtngocpdmlijnfaaDoor
open Go Go.Gw
set_option linter.unusedVariables false
set_option linter.unusedSimpArgs false
theorem Fagg24 : aggB Tryd.prog 24 5 = true := by kernel_rfl
theorem Fagg32 : aggB Tryd.prog 32 2 = true := by kernel_rfl
theorem Fagg40 : aggB Tryd.prog 40 3 = true := by kernel_rfl
theorem Fagg61 : aggB Tryd.prog 61 18 = true := by kernel_rfl
theorem Fbld100 : buildB Tryd.prog 100 = some ([.int .u64 0, .int .u64 0], [(0, 1), (1, 1)]) := by kernel_rfl
theorem Fbld101 : buildB Tryd.prog 101 = some ([.int .u64 0, .int .u64 0, .int .u64 0, .int .u64 0], [(0, 2), (2, 2)]) := by kernel_rfl
theorem Fbld24 : buildB Tryd.prog 24 = some ([.int .i64 0, .int .i64 0, .int .i64 0, .string ⟨#[]⟩, .slice none 0 0], [(0, 1), (1, 1), (2, 1), (3, 1), (4, 1)]) := by kernel_rfl
theorem Fbld32 : buildB Tryd.prog 32 = some ([.string ⟨#[]⟩, .slice none 0 0], [(0, 1), (1, 1)]) := by kernel_rfl
theorem Fbld40 : buildB Tryd.prog 40 = some ([.string ⟨#[]⟩, .string ⟨#[]⟩, .string ⟨#[]⟩], [(0, 1), (1, 1), (2, 1)]) := by kernel_rfl
theorem Feqg40 : Tryd.prog.eqGuardType Tryd.prog.depth 40 = false := by kernel_rfl
theorem Ffo24_0 : fieldOff Tryd.prog 24 0 = some 0 := by kernel_rfl
theorem Ffo24_1 : fieldOff Tryd.prog 24 1 = some 1 := by kernel_rfl
theorem Ffo24_2 : fieldOff Tryd.prog 24 2 = some 2 := by kernel_rfl
theorem Ffo24_3 : fieldOff Tryd.prog 24 3 = some 3 := by kernel_rfl
theorem Ffo24_4 : fieldOff Tryd.prog 24 4 = some 4 := by kernel_rfl
theorem Ffo32_0 : fieldOff Tryd.prog 32 0 = some 0 := by kernel_rfl
theorem Ffo32_1 : fieldOff Tryd.prog 32 1 = some 1 := by kernel_rfl
theorem Ffo68_0 : fieldOff Tryd.prog 68 0 = some 0 := by kernel_rfl
theorem Ffo68_1 : fieldOff Tryd.prog 68 1 = some 1 := by kernel_rfl
theorem Finf3 : infoB Tryd.prog 3 = some (.int .i64 0, 1, 8) := by kernel_rfl
theorem Finf32 : infoB Tryd.prog 32 = some (.agg #[.string ⟨#[]⟩, .slice none 0 0], 2, 40) := by kernel_rfl
theorem Finf5 : infoB Tryd.prog 5 = some (.int .u8 0, 1, 1) := by kernel_rfl
theorem Finf9 : infoB Tryd.prog 9 = some (.string ⟨#[]⟩, 1, 16) := by kernel_rfl
theorem Fmo : Tryd.prog.follows .mixedOrders = true := by kernel_rfl
theorem Fsca22 : scalarB Tryd.prog 22 = true := by kernel_rfl
theorem Fsca3 : scalarB Tryd.prog 3 = true := by kernel_rfl
theorem Fsca30 : scalarB Tryd.prog 30 = true := by kernel_rfl
theorem Fsca4 : scalarB Tryd.prog 4 = true := by kernel_rfl
theorem Fsca5 : scalarB Tryd.prog 5 = true := by kernel_rfl
theorem Fsca64 : scalarB Tryd.prog 64 = true := by kernel_rfl
theorem Fsca66 : scalarB Tryd.prog 66 = true := by kernel_rfl
theorem Fsca75 : scalarB Tryd.prog 75 = true := by kernel_rfl
theorem Fsca83 : scalarB Tryd.prog 83 = true := by kernel_rfl
theorem Fsca84 : scalarB Tryd.prog 84 = true := by kernel_rfl
theorem Fsca9 : scalarB Tryd.prog 9 = true := by kernel_rfl
theorem Fsiz100 : sizeB Tryd.prog 100 2 = true := by kernel_rfl
theorem Fsiz22 : sizeB Tryd.prog 22 1 = true := by kernel_rfl
theorem Fsiz24 : sizeB Tryd.prog 24 5 = true := by kernel_rfl
theorem Fsiz3 : sizeB Tryd.prog 3 1 = true := by kernel_rfl
theorem Fsiz30 : sizeB Tryd.prog 30 1 = true := by kernel_rfl
theorem Fsiz32 : sizeB Tryd.prog 32 2 = true := by kernel_rfl
theorem Fsiz4 : sizeB Tryd.prog 4 1 = true := by kernel_rfl
theorem Fsiz40 : sizeB Tryd.prog 40 3 = true := by kernel_rfl
theorem Fsiz5 : sizeB Tryd.prog 5 1 = true := by kernel_rfl
theorem Fsiz61 : sizeB Tryd.prog 61 18 = true := by kernel_rfl
theorem Fsiz64 : sizeB Tryd.prog 64 1 = true := by kernel_rfl
theorem Fsiz66 : sizeB Tryd.prog 66 1 = true := by kernel_rfl
theorem Fsiz83 : sizeB Tryd.prog 83 1 = true := by kernel_rfl
theorem Fsiz84 : sizeB Tryd.prog 84 1 = true := by kernel_rfl
theorem Fsiz9 : sizeB Tryd.prog 9 1 = true := by kernel_rfl
theorem Fzer100 : zeroB Tryd.prog 100 = some [.int .u64 0, .int .u64 0] := by kernel_rfl
theorem Fzer105 : zeroB Tryd.prog 105 = some [.int .u8 0, .int .u8 0, .int .u8 0, .int .u8 0, .int .u8 0, .int .u8 0, .int .u8 0, .int .u8 0, .int .u8 0, .int .u8 0, .int .u8 0, .int .u8 0, .int .u8 0, .int .u8 0, .int .u8 0, .int .u8 0] := by kernel_rfl
theorem Fzer24 : zeroB Tryd.prog 24 = some [.int .i64 0, .int .i64 0, .int .i64 0, .string ⟨#[]⟩, .slice none 0 0] := by kernel_rfl
theorem Fzer3 : zeroB Tryd.prog 3 = some [.int .i64 0] := by kernel_rfl
theorem Fzer30 : zeroB Tryd.prog 30 = some [.slice none 0 0] := by kernel_rfl
theorem Fzer32 : zeroB Tryd.prog 32 = some [.string ⟨#[]⟩, .slice none 0 0] := by kernel_rfl
theorem Fzer4 : zeroB Tryd.prog 4 = some [.bool false] := by kernel_rfl
theorem Fzer40 : zeroB Tryd.prog 40 = some [.string ⟨#[]⟩, .string ⟨#[]⟩, .string ⟨#[]⟩] := by kernel_rfl
theorem Fzer61 : zeroB Tryd.prog 61 = some [.int .i64 0, .int .i64 0, .int .i64 0, .int .i64 0, .int .i64 0, .int .i64 0, .int .i64 0, .int .i64 0, .int .i64 0, .int .i64 0, .int .i64 0, .int .i64 0, .int .i64 0, .int .i64 0, .int .i64 0, .int .i64 0, .int .i64 0, .int .i64 0] := by kernel_rfl
theorem Fzer68 : zeroB Tryd.prog 68 = some [.pointer none, .slice none 0 0] := by kernel_rfl
theorem Fzer83 : zeroB Tryd.prog 83 = some [.int .u64 0] := by kernel_rfl
theorem Fzer84 : zeroB Tryd.prog 84 = some [.int .u64 0] := by kernel_rfl
end Go.Proofs.YtngocpdmlijnfaaDoor
