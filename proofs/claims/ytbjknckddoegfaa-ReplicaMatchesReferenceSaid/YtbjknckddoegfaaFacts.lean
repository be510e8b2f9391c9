/- Closed facts on the loaded program: sizes, offsets, zero values. No condition. -/
import Derived.Test.YtbjknckddoegfaaChecked
import Derived.Test.YtbjknckddoegfaaGwFam
namespace Go.Proofs.Ytbjknckddoegfaa
open Go Go.Gw
set_option linter.unusedVariables false
set_option linter.unusedSimpArgs false
theorem Fagg69 : aggB Try.prog 69 2 = true := by kernel_rfl
theorem Fagg76 : aggB Try.prog 76 7 = true := by kernel_rfl
theorem Fagg87 : aggB Try.prog 87 2 = true := by kernel_rfl
theorem Fbld52 : buildB Try.prog 52 = some ([.slice none 0 0, .map none], [(0, 1), (1, 1)]) := by kernel_rfl
theorem Fbld58 : buildB Try.prog 58 = some ([.int .i64 0, .int .i64 0, .slice none 0 0, .bool false, .string ⟨#[]⟩, .int .i64 0, .map none, .map none], [(0, 1), (1, 1), (2, 1), (3, 1), (4, 1), (5, 1), (6, 1), (7, 1)]) := by kernel_rfl
theorem Fbld62 : buildB Try.prog 62 = some ([.slice none 0 0, .slice none 0 0], [(0, 1), (1, 1)]) := by kernel_rfl
theorem Fbld67 : buildB Try.prog 67 = some ([.int .i64 0, .int .i64 0, .slice none 0 0, .bool false, .int .i64 0, .int .i64 0, .slice none 0 0, .slice none 0 0], [(0, 1), (1, 1), (2, 1), (3, 1), (4, 1), (5, 1), (6, 1), (7, 1)]) := by kernel_rfl
theorem Fbld69 : buildB Try.prog 69 = some ([.int .i64 0, .int .i64 0], [(0, 1), (1, 1)]) := by kernel_rfl
theorem Fbld76 : buildB Try.prog 76 = some ([.int .i64 0, .int .i64 0, .int .i64 0, .int .i64 0, .bool false, .slice none 0 0, .int .i64 0], [(0, 1), (1, 1), (2, 1), (3, 1), (4, 1), (5, 1), (6, 1)]) := by kernel_rfl
theorem Fbld81 : buildB Try.prog 81 = some ([.int .i64 0, .int .i64 0, .int .i64 0], [(0, 1), (1, 1), (2, 1)]) := by kernel_rfl
theorem Fbld87 : buildB Try.prog 87 = some ([.int .i64 0, .string ⟨#[]⟩], [(0, 1), (1, 1)]) := by kernel_rfl
theorem Fbld89 : buildB Try.prog 89 = some ([.int .i64 0, .string ⟨#[]⟩], [(0, 1), (1, 1)]) := by kernel_rfl
theorem Fbld91 : buildB Try.prog 91 = some ([.int .i64 0, .bool false], [(0, 1), (1, 1)]) := by kernel_rfl
theorem Fbld93 : buildB Try.prog 93 = some ([.int .i64 0, .slice none 0 0, .int .i64 0], [(0, 1), (1, 1), (2, 1)]) := by kernel_rfl
theorem Fbld95 : buildB Try.prog 95 = some ([.int .i64 0, .int .i64 0], [(0, 1), (1, 1)]) := by kernel_rfl
theorem Ffo33_0 : fieldOff Try.prog 33 0 = some 0 := by kernel_rfl
theorem Ffo33_1 : fieldOff Try.prog 33 1 = some 1 := by kernel_rfl
theorem Ffo33_2 : fieldOff Try.prog 33 2 = some 2 := by kernel_rfl
theorem Ffo33_3 : fieldOff Try.prog 33 3 = some 3 := by kernel_rfl
theorem Ffo52_0 : fieldOff Try.prog 52 0 = some 0 := by kernel_rfl
theorem Ffo52_1 : fieldOff Try.prog 52 1 = some 1 := by kernel_rfl
theorem Ffo58_0 : fieldOff Try.prog 58 0 = some 0 := by kernel_rfl
theorem Ffo58_1 : fieldOff Try.prog 58 1 = some 1 := by kernel_rfl
theorem Ffo58_2 : fieldOff Try.prog 58 2 = some 2 := by kernel_rfl
theorem Ffo58_3 : fieldOff Try.prog 58 3 = some 3 := by kernel_rfl
theorem Ffo58_4 : fieldOff Try.prog 58 4 = some 4 := by kernel_rfl
theorem Ffo58_5 : fieldOff Try.prog 58 5 = some 5 := by kernel_rfl
theorem Ffo58_6 : fieldOff Try.prog 58 6 = some 6 := by kernel_rfl
theorem Ffo58_7 : fieldOff Try.prog 58 7 = some 7 := by kernel_rfl
theorem Ffo62_0 : fieldOff Try.prog 62 0 = some 0 := by kernel_rfl
theorem Ffo62_1 : fieldOff Try.prog 62 1 = some 1 := by kernel_rfl
theorem Ffo67_0 : fieldOff Try.prog 67 0 = some 0 := by kernel_rfl
theorem Ffo67_1 : fieldOff Try.prog 67 1 = some 1 := by kernel_rfl
theorem Ffo67_2 : fieldOff Try.prog 67 2 = some 2 := by kernel_rfl
theorem Ffo67_3 : fieldOff Try.prog 67 3 = some 3 := by kernel_rfl
theorem Ffo67_4 : fieldOff Try.prog 67 4 = some 4 := by kernel_rfl
theorem Ffo67_5 : fieldOff Try.prog 67 5 = some 5 := by kernel_rfl
theorem Ffo67_6 : fieldOff Try.prog 67 6 = some 6 := by kernel_rfl
theorem Ffo67_7 : fieldOff Try.prog 67 7 = some 7 := by kernel_rfl
theorem Ffo76_0 : fieldOff Try.prog 76 0 = some 0 := by kernel_rfl
theorem Ffo76_1 : fieldOff Try.prog 76 1 = some 1 := by kernel_rfl
theorem Ffo76_2 : fieldOff Try.prog 76 2 = some 2 := by kernel_rfl
theorem Ffo76_3 : fieldOff Try.prog 76 3 = some 3 := by kernel_rfl
theorem Ffo76_4 : fieldOff Try.prog 76 4 = some 4 := by kernel_rfl
theorem Ffo76_5 : fieldOff Try.prog 76 5 = some 5 := by kernel_rfl
theorem Ffo76_6 : fieldOff Try.prog 76 6 = some 6 := by kernel_rfl
theorem Ffo81_0 : fieldOff Try.prog 81 0 = some 0 := by kernel_rfl
theorem Ffo81_1 : fieldOff Try.prog 81 1 = some 1 := by kernel_rfl
theorem Ffo81_2 : fieldOff Try.prog 81 2 = some 2 := by kernel_rfl
theorem Ffo87_0 : fieldOff Try.prog 87 0 = some 0 := by kernel_rfl
theorem Ffo87_1 : fieldOff Try.prog 87 1 = some 1 := by kernel_rfl
theorem Ffo89_0 : fieldOff Try.prog 89 0 = some 0 := by kernel_rfl
theorem Ffo89_1 : fieldOff Try.prog 89 1 = some 1 := by kernel_rfl
theorem Ffo91_0 : fieldOff Try.prog 91 0 = some 0 := by kernel_rfl
theorem Ffo91_1 : fieldOff Try.prog 91 1 = some 1 := by kernel_rfl
theorem Ffo93_0 : fieldOff Try.prog 93 0 = some 0 := by kernel_rfl
theorem Ffo93_1 : fieldOff Try.prog 93 1 = some 1 := by kernel_rfl
theorem Ffo93_2 : fieldOff Try.prog 93 2 = some 2 := by kernel_rfl
theorem Ffo95_0 : fieldOff Try.prog 95 0 = some 0 := by kernel_rfl
theorem Ffo95_1 : fieldOff Try.prog 95 1 = some 1 := by kernel_rfl
theorem Finf3 : infoB Try.prog 3 = some (.int .i64 0, 1, 8) := by kernel_rfl
theorem Finf4 : infoB Try.prog 4 = some (.bool false, 1, 1) := by kernel_rfl
theorem Finf53 : infoB Try.prog 53 = some (.pointer none, 1, 8) := by kernel_rfl
theorem Finf63 : infoB Try.prog 63 = some (.pointer none, 1, 8) := by kernel_rfl
theorem Finf70 : infoB Try.prog 70 = some (.slice none 0 0, 1, 24) := by kernel_rfl
theorem Finf73 : infoB Try.prog 73 = some (.nilIface, 1, 16) := by kernel_rfl
theorem Finf74 : infoB Try.prog 74 = some (.slice none 0 0, 1, 24) := by kernel_rfl
theorem Finf76 : infoB Try.prog 76 = some (.agg #[.int .i64 0, .int .i64 0, .int .i64 0, .int .i64 0, .bool false, .slice none 0 0, .int .i64 0], 7, 72) := by kernel_rfl
theorem Finf87 : infoB Try.prog 87 = some (.agg #[.int .i64 0, .string ⟨#[]⟩], 2, 24) := by kernel_rfl
theorem Finf89 : infoB Try.prog 89 = some (.agg #[.int .i64 0, .string ⟨#[]⟩], 2, 24) := by kernel_rfl
theorem Finf9 : infoB Try.prog 9 = some (.string ⟨#[]⟩, 1, 16) := by kernel_rfl
theorem Fmo : Try.prog.follows .mixedOrders = true := by kernel_rfl
theorem Fnif81 : notIfaceB Try.prog 81 = true := by kernel_rfl
theorem Fnif91 : notIfaceB Try.prog 91 = true := by kernel_rfl
theorem Fnif93 : notIfaceB Try.prog 93 = true := by kernel_rfl
theorem Fnif95 : notIfaceB Try.prog 95 = true := by kernel_rfl
theorem Fsca3 : scalarB Try.prog 3 = true := by kernel_rfl
theorem Fsca4 : scalarB Try.prog 4 = true := by kernel_rfl
theorem Fsca45 : scalarB Try.prog 45 = true := by kernel_rfl
theorem Fsca49 : scalarB Try.prog 49 = true := by kernel_rfl
theorem Fsca5 : scalarB Try.prog 5 = true := by kernel_rfl
theorem Fsca50 : scalarB Try.prog 50 = true := by kernel_rfl
theorem Fsca53 : scalarB Try.prog 53 = true := by kernel_rfl
theorem Fsca54 : scalarB Try.prog 54 = true := by kernel_rfl
theorem Fsca55 : scalarB Try.prog 55 = true := by kernel_rfl
theorem Fsca56 : scalarB Try.prog 56 = true := by kernel_rfl
theorem Fsca59 : scalarB Try.prog 59 = true := by kernel_rfl
theorem Fsca60 : scalarB Try.prog 60 = true := by kernel_rfl
theorem Fsca63 : scalarB Try.prog 63 = true := by kernel_rfl
theorem Fsca64 : scalarB Try.prog 64 = true := by kernel_rfl
theorem Fsca65 : scalarB Try.prog 65 = true := by kernel_rfl
theorem Fsca73 : scalarB Try.prog 73 = true := by kernel_rfl
theorem Fsca74 : scalarB Try.prog 74 = true := by kernel_rfl
theorem Fsca9 : scalarB Try.prog 9 = true := by kernel_rfl
theorem Fsiz3 : sizeB Try.prog 3 1 = true := by kernel_rfl
theorem Fsiz33 : sizeB Try.prog 33 4 = true := by kernel_rfl
theorem Fsiz4 : sizeB Try.prog 4 1 = true := by kernel_rfl
theorem Fsiz45 : sizeB Try.prog 45 1 = true := by kernel_rfl
theorem Fsiz50 : sizeB Try.prog 50 1 = true := by kernel_rfl
theorem Fsiz53 : sizeB Try.prog 53 1 = true := by kernel_rfl
theorem Fsiz54 : sizeB Try.prog 54 1 = true := by kernel_rfl
theorem Fsiz55 : sizeB Try.prog 55 1 = true := by kernel_rfl
theorem Fsiz56 : sizeB Try.prog 56 1 = true := by kernel_rfl
theorem Fsiz60 : sizeB Try.prog 60 1 = true := by kernel_rfl
theorem Fsiz63 : sizeB Try.prog 63 1 = true := by kernel_rfl
theorem Fsiz64 : sizeB Try.prog 64 1 = true := by kernel_rfl
theorem Fsiz65 : sizeB Try.prog 65 1 = true := by kernel_rfl
theorem Fsiz69 : sizeB Try.prog 69 2 = true := by kernel_rfl
theorem Fsiz73 : sizeB Try.prog 73 1 = true := by kernel_rfl
theorem Fsiz74 : sizeB Try.prog 74 1 = true := by kernel_rfl
theorem Fsiz76 : sizeB Try.prog 76 7 = true := by kernel_rfl
theorem Fsiz81 : sizeB Try.prog 81 3 = true := by kernel_rfl
theorem Fsiz87 : sizeB Try.prog 87 2 = true := by kernel_rfl
theorem Fsiz89 : sizeB Try.prog 89 2 = true := by kernel_rfl
theorem Fsiz9 : sizeB Try.prog 9 1 = true := by kernel_rfl
theorem Fsiz91 : sizeB Try.prog 91 2 = true := by kernel_rfl
theorem Fsiz93 : sizeB Try.prog 93 3 = true := by kernel_rfl
theorem Fsiz95 : sizeB Try.prog 95 2 = true := by kernel_rfl
theorem Fsz3 : (Try.prog.info? 3).map (·.size) = some 1 := by kernel_rfl
theorem Fzer3 : zeroB Try.prog 3 = some [.int .i64 0] := by kernel_rfl
theorem Fzer53 : zeroB Try.prog 53 = some [.pointer none] := by kernel_rfl
theorem Fzer69 : zeroB Try.prog 69 = some [.int .i64 0, .int .i64 0] := by kernel_rfl
theorem Fzer76 : zeroB Try.prog 76 = some [.int .i64 0, .int .i64 0, .int .i64 0, .int .i64 0, .bool false, .slice none 0 0, .int .i64 0] := by kernel_rfl
theorem Fzer81 : zeroB Try.prog 81 = some [.int .i64 0, .int .i64 0, .int .i64 0] := by kernel_rfl
theorem Fzer87 : zeroB Try.prog 87 = some [.int .i64 0, .string ⟨#[]⟩] := by kernel_rfl
theorem Fzer91 : zeroB Try.prog 91 = some [.int .i64 0, .bool false] := by kernel_rfl
theorem Fzer93 : zeroB Try.prog 93 = some [.int .i64 0, .slice none 0 0, .int .i64 0] := by kernel_rfl
theorem Fzer95 : zeroB Try.prog 95 = some [.int .i64 0, .int .i64 0] := by kernel_rfl
theorem Fzv81 : (Try.prog.info? 81).bind (·.zero) = some (.agg #[.int .i64 0, .int .i64 0, .int .i64 0]) := by kernel_rfl
theorem Fzv91 : (Try.prog.info? 91).bind (·.zero) = some (.agg #[.int .i64 0, .bool false]) := by kernel_rfl
theorem Fzv93 : (Try.prog.info? 93).bind (·.zero) = some (.agg #[.int .i64 0, .slice none 0 0, .int .i64 0]) := by kernel_rfl
end Go.Proofs.Ytbjknckddoegfaa
