/- Closed facts on the loaded program: sizes, offsets, zero values. No condition. -/
import Derived.Test.YtenaoaegichecaaChecked
import Derived.Test.YtenaoaegichecaaGwBits
namespace Go.Proofs.Ytenaoaegichecaa
open Go Go.Gw
set_option linter.unusedVariables false
set_option linter.unusedSimpArgs false
theorem Fagg100 : aggB Try.prog 100 4 = true := by kernel_rfl
theorem Fagg27 : aggB Try.prog 27 2 = true := by kernel_rfl
theorem Fagg29 : aggB Try.prog 29 3 = true := by kernel_rfl
theorem Fagg47 : aggB Try.prog 47 11 = true := by kernel_rfl
theorem Fagg50 : aggB Try.prog 50 3 = true := by kernel_rfl
theorem Fagg56 : aggB Try.prog 56 9 = true := by kernel_rfl
theorem Fagg70 : aggB Try.prog 70 4 = true := by kernel_rfl
theorem Fagg84 : aggB Try.prog 84 3 = true := by kernel_rfl
theorem Fbld100 : buildB Try.prog 100 = some ([.int .i64 0, .int .i64 0, .int .i64 0, .int .i64 0], [(0, 1), (1, 1), (2, 1), (3, 1)]) := by kernel_rfl
theorem Fbld105 : buildB Try.prog 105 = some ([.slice none 0 0, .slice none 0 0, .slice none 0 0, .slice none 0 0], [(0, 1), (1, 1), (2, 1), (3, 1)]) := by kernel_rfl
theorem Fbld27 : buildB Try.prog 27 = some ([.slice none 0 0, .slice none 0 0], [(0, 1), (1, 1)]) := by kernel_rfl
theorem Fbld29 : buildB Try.prog 29 = some ([.slice none 0 0, .slice none 0 0, .slice none 0 0], [(0, 1), (1, 2)]) := by kernel_rfl
theorem Fbld41 : buildB Try.prog 41 = some ([.int .i64 0, .int .i64 0, .int .i64 0, .string ⟨#[]⟩, .slice none 0 0], [(0, 1), (1, 1), (2, 1), (3, 1), (4, 1)]) := by kernel_rfl
theorem Fbld47 : buildB Try.prog 47 = some ([.int .i64 0, .int .i64 0, .int .i64 0, .string ⟨#[]⟩, .slice none 0 0, .string ⟨#[]⟩, .slice none 0 0, .int .i64 0, .slice none 0 0, .int .i64 0, .slice none 0 0], [(0, 5), (5, 1), (6, 2), (8, 1), (9, 1), (10, 1)]) := by kernel_rfl
theorem Fbld50 : buildB Try.prog 50 = some ([.int .i64 0, .int .i64 0, .slice none 0 0], [(0, 1), (1, 1), (2, 1)]) := by kernel_rfl
theorem Fbld56 : buildB Try.prog 56 = some ([.int .i64 0, .int .i64 0, .int .i64 0, .int .i64 0, .int .i64 0, .int .i64 0, .int .i64 0, .int .i64 0, .int .i64 0], [(0, 1), (1, 1), (2, 1), (3, 1), (4, 1), (5, 1), (6, 1), (7, 1), (8, 1)]) := by kernel_rfl
theorem Fbld70 : buildB Try.prog 70 = some ([.slice none 0 0, .slice none 0 0, .slice none 0 0, .slice none 0 0], [(0, 1), (1, 1), (2, 1), (3, 1)]) := by kernel_rfl
theorem Fbld84 : buildB Try.prog 84 = some ([.int .i64 0, .int .i64 0, .int .i64 0], [(0, 1), (1, 1), (2, 1)]) := by kernel_rfl
theorem Ffo105_0 : fieldOff Try.prog 105 0 = some 0 := by kernel_rfl
theorem Ffo105_1 : fieldOff Try.prog 105 1 = some 1 := by kernel_rfl
theorem Ffo105_2 : fieldOff Try.prog 105 2 = some 2 := by kernel_rfl
theorem Ffo105_3 : fieldOff Try.prog 105 3 = some 3 := by kernel_rfl
theorem Ffo27_0 : fieldOff Try.prog 27 0 = some 0 := by kernel_rfl
theorem Ffo27_1 : fieldOff Try.prog 27 1 = some 1 := by kernel_rfl
theorem Ffo29_0 : fieldOff Try.prog 29 0 = some 0 := by kernel_rfl
theorem Ffo29_1 : fieldOff Try.prog 29 1 = some 1 := by kernel_rfl
theorem Ffo41_0 : fieldOff Try.prog 41 0 = some 0 := by kernel_rfl
theorem Ffo41_2 : fieldOff Try.prog 41 2 = some 2 := by kernel_rfl
theorem Ffo47_0 : fieldOff Try.prog 47 0 = some 0 := by kernel_rfl
theorem Ffo47_4 : fieldOff Try.prog 47 4 = some 9 := by kernel_rfl
theorem Ffo50_0 : fieldOff Try.prog 50 0 = some 0 := by kernel_rfl
theorem Ffo50_1 : fieldOff Try.prog 50 1 = some 1 := by kernel_rfl
theorem Ffo50_2 : fieldOff Try.prog 50 2 = some 2 := by kernel_rfl
theorem Ffo56_0 : fieldOff Try.prog 56 0 = some 0 := by kernel_rfl
theorem Ffo56_1 : fieldOff Try.prog 56 1 = some 1 := by kernel_rfl
theorem Ffo56_2 : fieldOff Try.prog 56 2 = some 2 := by kernel_rfl
theorem Ffo56_3 : fieldOff Try.prog 56 3 = some 3 := by kernel_rfl
theorem Ffo56_4 : fieldOff Try.prog 56 4 = some 4 := by kernel_rfl
theorem Ffo56_7 : fieldOff Try.prog 56 7 = some 7 := by kernel_rfl
theorem Ffo56_8 : fieldOff Try.prog 56 8 = some 8 := by kernel_rfl
theorem Ffo70_0 : fieldOff Try.prog 70 0 = some 0 := by kernel_rfl
theorem Ffo70_1 : fieldOff Try.prog 70 1 = some 1 := by kernel_rfl
theorem Ffo70_2 : fieldOff Try.prog 70 2 = some 2 := by kernel_rfl
theorem Ffo70_3 : fieldOff Try.prog 70 3 = some 3 := by kernel_rfl
theorem Finf25 : infoB Try.prog 25 = some (.slice none 0 0, 1, 24) := by kernel_rfl
theorem Finf3 : infoB Try.prog 3 = some (.int .i64 0, 1, 8) := by kernel_rfl
theorem Finf4 : infoB Try.prog 4 = some (.bool false, 1, 1) := by kernel_rfl
theorem Finf47 : infoB Try.prog 47 = some (.agg #[.int .i64 0, .int .i64 0, .int .i64 0, .string ⟨#[]⟩, .slice none 0 0, .string ⟨#[]⟩, .slice none 0 0, .int .i64 0, .slice none 0 0, .int .i64 0, .slice none 0 0], 11, 168) := by kernel_rfl
theorem Finf50 : infoB Try.prog 50 = some (.agg #[.int .i64 0, .int .i64 0, .slice none 0 0], 3, 40) := by kernel_rfl
theorem Finf56 : infoB Try.prog 56 = some (.agg #[.int .i64 0, .int .i64 0, .int .i64 0, .int .i64 0, .int .i64 0, .int .i64 0, .int .i64 0, .int .i64 0, .int .i64 0], 9, 72) := by kernel_rfl
theorem Fmo : Try.prog.follows .mixedOrders = true := by kernel_rfl
theorem Fsca103 : scalarB Try.prog 103 = true := by kernel_rfl
theorem Fsca22 : scalarB Try.prog 22 = true := by kernel_rfl
theorem Fsca23 : scalarB Try.prog 23 = true := by kernel_rfl
theorem Fsca24 : scalarB Try.prog 24 = true := by kernel_rfl
theorem Fsca25 : scalarB Try.prog 25 = true := by kernel_rfl
theorem Fsca3 : scalarB Try.prog 3 = true := by kernel_rfl
theorem Fsca4 : scalarB Try.prog 4 = true := by kernel_rfl
theorem Fsca53 : scalarB Try.prog 53 = true := by kernel_rfl
theorem Fsca66 : scalarB Try.prog 66 = true := by kernel_rfl
theorem Fsca75 : scalarB Try.prog 75 = true := by kernel_rfl
theorem Fsca87 : scalarB Try.prog 87 = true := by kernel_rfl
theorem Fsca88 : scalarB Try.prog 88 = true := by kernel_rfl
theorem Fsca92 : scalarB Try.prog 92 = true := by kernel_rfl
theorem Fsca94 : scalarB Try.prog 94 = true := by kernel_rfl
theorem Fsca95 : scalarB Try.prog 95 = true := by kernel_rfl
theorem Fsiz100 : sizeB Try.prog 100 4 = true := by kernel_rfl
theorem Fsiz103 : sizeB Try.prog 103 1 = true := by kernel_rfl
theorem Fsiz105 : sizeB Try.prog 105 4 = true := by kernel_rfl
theorem Fsiz22 : sizeB Try.prog 22 1 = true := by kernel_rfl
theorem Fsiz23 : sizeB Try.prog 23 1 = true := by kernel_rfl
theorem Fsiz24 : sizeB Try.prog 24 1 = true := by kernel_rfl
theorem Fsiz25 : sizeB Try.prog 25 1 = true := by kernel_rfl
theorem Fsiz27 : sizeB Try.prog 27 2 = true := by kernel_rfl
theorem Fsiz29 : sizeB Try.prog 29 3 = true := by kernel_rfl
theorem Fsiz3 : sizeB Try.prog 3 1 = true := by kernel_rfl
theorem Fsiz4 : sizeB Try.prog 4 1 = true := by kernel_rfl
theorem Fsiz47 : sizeB Try.prog 47 11 = true := by kernel_rfl
theorem Fsiz50 : sizeB Try.prog 50 3 = true := by kernel_rfl
theorem Fsiz53 : sizeB Try.prog 53 1 = true := by kernel_rfl
theorem Fsiz56 : sizeB Try.prog 56 9 = true := by kernel_rfl
theorem Fsiz66 : sizeB Try.prog 66 1 = true := by kernel_rfl
theorem Fsiz70 : sizeB Try.prog 70 4 = true := by kernel_rfl
theorem Fsiz75 : sizeB Try.prog 75 1 = true := by kernel_rfl
theorem Fsiz84 : sizeB Try.prog 84 3 = true := by kernel_rfl
theorem Fsiz87 : sizeB Try.prog 87 1 = true := by kernel_rfl
theorem Fsiz88 : sizeB Try.prog 88 1 = true := by kernel_rfl
theorem Fsiz92 : sizeB Try.prog 92 1 = true := by kernel_rfl
theorem Fsiz94 : sizeB Try.prog 94 1 = true := by kernel_rfl
theorem Fsiz95 : sizeB Try.prog 95 1 = true := by kernel_rfl
theorem Fzer100 : zeroB Try.prog 100 = some [.int .i64 0, .int .i64 0, .int .i64 0, .int .i64 0] := by kernel_rfl
theorem Fzer103 : zeroB Try.prog 103 = some [.nilFunc] := by kernel_rfl
theorem Fzer105 : zeroB Try.prog 105 = some [.slice none 0 0, .slice none 0 0, .slice none 0 0, .slice none 0 0] := by kernel_rfl
theorem Fzer25 : zeroB Try.prog 25 = some [.slice none 0 0] := by kernel_rfl
theorem Fzer27 : zeroB Try.prog 27 = some [.slice none 0 0, .slice none 0 0] := by kernel_rfl
theorem Fzer29 : zeroB Try.prog 29 = some [.slice none 0 0, .slice none 0 0, .slice none 0 0] := by kernel_rfl
theorem Fzer3 : zeroB Try.prog 3 = some [.int .i64 0] := by kernel_rfl
theorem Fzer47 : zeroB Try.prog 47 = some [.int .i64 0, .int .i64 0, .int .i64 0, .string ⟨#[]⟩, .slice none 0 0, .string ⟨#[]⟩, .slice none 0 0, .int .i64 0, .slice none 0 0, .int .i64 0, .slice none 0 0] := by kernel_rfl
theorem Fzer50 : zeroB Try.prog 50 = some [.int .i64 0, .int .i64 0, .slice none 0 0] := by kernel_rfl
theorem Fzer53 : zeroB Try.prog 53 = some [.slice none 0 0] := by kernel_rfl
theorem Fzer56 : zeroB Try.prog 56 = some [.int .i64 0, .int .i64 0, .int .i64 0, .int .i64 0, .int .i64 0, .int .i64 0, .int .i64 0, .int .i64 0, .int .i64 0] := by kernel_rfl
theorem Fzer66 : zeroB Try.prog 66 = some [.slice none 0 0] := by kernel_rfl
theorem Fzer70 : zeroB Try.prog 70 = some [.slice none 0 0, .slice none 0 0, .slice none 0 0, .slice none 0 0] := by kernel_rfl
theorem Fzer75 : zeroB Try.prog 75 = some [.map none] := by kernel_rfl
theorem Fzer84 : zeroB Try.prog 84 = some [.int .i64 0, .int .i64 0, .int .i64 0] := by kernel_rfl
theorem Fzer87 : zeroB Try.prog 87 = some [.nilFunc] := by kernel_rfl
theorem Fzer88 : zeroB Try.prog 88 = some [.nilFunc] := by kernel_rfl
theorem Fzer92 : zeroB Try.prog 92 = some [.map none] := by kernel_rfl
theorem Fzer94 : zeroB Try.prog 94 = some [.nilFunc] := by kernel_rfl
theorem Fzer95 : zeroB Try.prog 95 = some [.map none] := by kernel_rfl
end Go.Proofs.Ytenaoaegichecaa
