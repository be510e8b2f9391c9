/- Closed facts on the loaded program: sizes, offsets, zero values. No condition. -/
import Derived.Test.YtnnendajegdnhaaChecked
import Derived.Test.YtnnendajegdnhaaGwBits
namespace Go.Proofs.Ytnnendajegdnhaa
open Go Go.Gw
set_option linter.unusedVariables false
set_option linter.unusedSimpArgs false
theorem Fagg126 : aggB Try.prog 126 4 = true := by kernel_rfl
theorem Fagg144 : aggB Try.prog 144 3 = true := by kernel_rfl
theorem Fagg41 : aggB Try.prog 41 2 = true := by kernel_rfl
theorem Fagg43 : aggB Try.prog 43 3 = true := by kernel_rfl
theorem Fagg66 : aggB Try.prog 66 11 = true := by kernel_rfl
theorem Fagg85 : aggB Try.prog 85 9 = true := by kernel_rfl
theorem Fagg91 : aggB Try.prog 91 3 = true := by kernel_rfl
theorem Fagg99 : aggB Try.prog 99 4 = true := by kernel_rfl
theorem Fbld126 : buildB Try.prog 126 = some ([.int .i64 0, .int .i64 0, .int .i64 0, .int .i64 0], [(0, 1), (1, 1), (2, 1), (3, 1)]) := by kernel_rfl
theorem Fbld144 : buildB Try.prog 144 = some ([.int .i64 0, .int .i64 0, .int .i64 0], [(0, 1), (1, 1), (2, 1)]) := by kernel_rfl
theorem Fbld43 : buildB Try.prog 43 = some ([.slice none 0 0, .slice none 0 0, .slice none 0 0], [(0, 1), (1, 2)]) := by kernel_rfl
theorem Fbld60 : buildB Try.prog 60 = some ([.int .i64 0, .int .i64 0, .int .i64 0, .string ⟨#[]⟩, .slice none 0 0], [(0, 1), (1, 1), (2, 1), (3, 1), (4, 1)]) := by kernel_rfl
theorem Fbld66 : buildB Try.prog 66 = some ([.int .i64 0, .int .i64 0, .int .i64 0, .string ⟨#[]⟩, .slice none 0 0, .string ⟨#[]⟩, .slice none 0 0, .int .i64 0, .slice none 0 0, .int .i64 0, .slice none 0 0], [(0, 5), (5, 1), (6, 2), (8, 1), (9, 1), (10, 1)]) := by kernel_rfl
theorem Fbld76 : buildB Try.prog 76 = some ([.slice none 0 0, .slice none 0 0, .slice none 0 0, .bool false], [(0, 1), (1, 1), (2, 1), (3, 1)]) := by kernel_rfl
theorem Fbld85 : buildB Try.prog 85 = some ([.int .i64 0, .int .i64 0, .int .i64 0, .int .i64 0, .int .i64 0, .int .i64 0, .int .i64 0, .int .i64 0, .int .i64 0], [(0, 1), (1, 1), (2, 1), (3, 1), (4, 1), (5, 1), (6, 1), (7, 1), (8, 1)]) := by kernel_rfl
theorem Fbld91 : buildB Try.prog 91 = some ([.int .i64 0, .int .i64 0, .slice none 0 0], [(0, 1), (1, 1), (2, 1)]) := by kernel_rfl
theorem Fbld99 : buildB Try.prog 99 = some ([.slice none 0 0, .slice none 0 0, .slice none 0 0, .slice none 0 0], [(0, 1), (1, 1), (2, 1), (3, 1)]) := by kernel_rfl
theorem Ffo41_0 : fieldOff Try.prog 41 0 = some 0 := by kernel_rfl
theorem Ffo41_1 : fieldOff Try.prog 41 1 = some 1 := by kernel_rfl
theorem Ffo43_0 : fieldOff Try.prog 43 0 = some 0 := by kernel_rfl
theorem Ffo60_0 : fieldOff Try.prog 60 0 = some 0 := by kernel_rfl
theorem Ffo60_2 : fieldOff Try.prog 60 2 = some 2 := by kernel_rfl
theorem Ffo66_0 : fieldOff Try.prog 66 0 = some 0 := by kernel_rfl
theorem Ffo66_4 : fieldOff Try.prog 66 4 = some 9 := by kernel_rfl
theorem Ffo66_5 : fieldOff Try.prog 66 5 = some 10 := by kernel_rfl
theorem Ffo76_0 : fieldOff Try.prog 76 0 = some 0 := by kernel_rfl
theorem Ffo76_1 : fieldOff Try.prog 76 1 = some 1 := by kernel_rfl
theorem Ffo76_2 : fieldOff Try.prog 76 2 = some 2 := by kernel_rfl
theorem Ffo76_3 : fieldOff Try.prog 76 3 = some 3 := by kernel_rfl
theorem Ffo85_0 : fieldOff Try.prog 85 0 = some 0 := by kernel_rfl
theorem Ffo85_1 : fieldOff Try.prog 85 1 = some 1 := by kernel_rfl
theorem Ffo85_2 : fieldOff Try.prog 85 2 = some 2 := by kernel_rfl
theorem Ffo85_3 : fieldOff Try.prog 85 3 = some 3 := by kernel_rfl
theorem Ffo85_4 : fieldOff Try.prog 85 4 = some 4 := by kernel_rfl
theorem Ffo85_7 : fieldOff Try.prog 85 7 = some 7 := by kernel_rfl
theorem Ffo85_8 : fieldOff Try.prog 85 8 = some 8 := by kernel_rfl
theorem Ffo91_0 : fieldOff Try.prog 91 0 = some 0 := by kernel_rfl
theorem Ffo91_1 : fieldOff Try.prog 91 1 = some 1 := by kernel_rfl
theorem Ffo91_2 : fieldOff Try.prog 91 2 = some 2 := by kernel_rfl
theorem Ffo99_0 : fieldOff Try.prog 99 0 = some 0 := by kernel_rfl
theorem Ffo99_1 : fieldOff Try.prog 99 1 = some 1 := by kernel_rfl
theorem Ffo99_2 : fieldOff Try.prog 99 2 = some 2 := by kernel_rfl
theorem Ffo99_3 : fieldOff Try.prog 99 3 = some 3 := by kernel_rfl
theorem Finf3 : infoB Try.prog 3 = some (.int .i64 0, 1, 8) := by kernel_rfl
theorem Finf39 : infoB Try.prog 39 = some (.slice none 0 0, 1, 24) := by kernel_rfl
theorem Finf4 : infoB Try.prog 4 = some (.bool false, 1, 1) := by kernel_rfl
theorem Finf66 : infoB Try.prog 66 = some (.agg #[.int .i64 0, .int .i64 0, .int .i64 0, .string ⟨#[]⟩, .slice none 0 0, .string ⟨#[]⟩, .slice none 0 0, .int .i64 0, .slice none 0 0, .int .i64 0, .slice none 0 0], 11, 168) := by kernel_rfl
theorem Finf85 : infoB Try.prog 85 = some (.agg #[.int .i64 0, .int .i64 0, .int .i64 0, .int .i64 0, .int .i64 0, .int .i64 0, .int .i64 0, .int .i64 0, .int .i64 0], 9, 72) := by kernel_rfl
theorem Finf91 : infoB Try.prog 91 = some (.agg #[.int .i64 0, .int .i64 0, .slice none 0 0], 3, 40) := by kernel_rfl
theorem Fmo : Try.prog.follows .mixedOrders = true := by kernel_rfl
theorem Fsca111 : scalarB Try.prog 111 = true := by kernel_rfl
theorem Fsca113 : scalarB Try.prog 113 = true := by kernel_rfl
theorem Fsca114 : scalarB Try.prog 114 = true := by kernel_rfl
theorem Fsca118 : scalarB Try.prog 118 = true := by kernel_rfl
theorem Fsca120 : scalarB Try.prog 120 = true := by kernel_rfl
theorem Fsca121 : scalarB Try.prog 121 = true := by kernel_rfl
theorem Fsca129 : scalarB Try.prog 129 = true := by kernel_rfl
theorem Fsca22 : scalarB Try.prog 22 = true := by kernel_rfl
theorem Fsca23 : scalarB Try.prog 23 = true := by kernel_rfl
theorem Fsca27 : scalarB Try.prog 27 = true := by kernel_rfl
theorem Fsca3 : scalarB Try.prog 3 = true := by kernel_rfl
theorem Fsca38 : scalarB Try.prog 38 = true := by kernel_rfl
theorem Fsca39 : scalarB Try.prog 39 = true := by kernel_rfl
theorem Fsca4 : scalarB Try.prog 4 = true := by kernel_rfl
theorem Fsca5 : scalarB Try.prog 5 = true := by kernel_rfl
theorem Fsca73 : scalarB Try.prog 73 = true := by kernel_rfl
theorem Fsca96 : scalarB Try.prog 96 = true := by kernel_rfl
theorem Fsiz111 : sizeB Try.prog 111 1 = true := by kernel_rfl
theorem Fsiz113 : sizeB Try.prog 113 1 = true := by kernel_rfl
theorem Fsiz114 : sizeB Try.prog 114 1 = true := by kernel_rfl
theorem Fsiz118 : sizeB Try.prog 118 1 = true := by kernel_rfl
theorem Fsiz120 : sizeB Try.prog 120 1 = true := by kernel_rfl
theorem Fsiz121 : sizeB Try.prog 121 1 = true := by kernel_rfl
theorem Fsiz126 : sizeB Try.prog 126 4 = true := by kernel_rfl
theorem Fsiz129 : sizeB Try.prog 129 1 = true := by kernel_rfl
theorem Fsiz144 : sizeB Try.prog 144 3 = true := by kernel_rfl
theorem Fsiz22 : sizeB Try.prog 22 1 = true := by kernel_rfl
theorem Fsiz23 : sizeB Try.prog 23 1 = true := by kernel_rfl
theorem Fsiz3 : sizeB Try.prog 3 1 = true := by kernel_rfl
theorem Fsiz38 : sizeB Try.prog 38 1 = true := by kernel_rfl
theorem Fsiz39 : sizeB Try.prog 39 1 = true := by kernel_rfl
theorem Fsiz4 : sizeB Try.prog 4 1 = true := by kernel_rfl
theorem Fsiz41 : sizeB Try.prog 41 2 = true := by kernel_rfl
theorem Fsiz43 : sizeB Try.prog 43 3 = true := by kernel_rfl
theorem Fsiz5 : sizeB Try.prog 5 1 = true := by kernel_rfl
theorem Fsiz66 : sizeB Try.prog 66 11 = true := by kernel_rfl
theorem Fsiz73 : sizeB Try.prog 73 1 = true := by kernel_rfl
theorem Fsiz85 : sizeB Try.prog 85 9 = true := by kernel_rfl
theorem Fsiz91 : sizeB Try.prog 91 3 = true := by kernel_rfl
theorem Fsiz96 : sizeB Try.prog 96 1 = true := by kernel_rfl
theorem Fsiz99 : sizeB Try.prog 99 4 = true := by kernel_rfl
theorem Fzer111 : zeroB Try.prog 111 = some [.nilFunc] := by kernel_rfl
theorem Fzer113 : zeroB Try.prog 113 = some [.nilFunc] := by kernel_rfl
theorem Fzer114 : zeroB Try.prog 114 = some [.nilFunc] := by kernel_rfl
theorem Fzer118 : zeroB Try.prog 118 = some [.map none] := by kernel_rfl
theorem Fzer120 : zeroB Try.prog 120 = some [.nilFunc] := by kernel_rfl
theorem Fzer121 : zeroB Try.prog 121 = some [.map none] := by kernel_rfl
theorem Fzer126 : zeroB Try.prog 126 = some [.int .i64 0, .int .i64 0, .int .i64 0, .int .i64 0] := by kernel_rfl
theorem Fzer129 : zeroB Try.prog 129 = some [.slice none 0 0] := by kernel_rfl
theorem Fzer144 : zeroB Try.prog 144 = some [.int .i64 0, .int .i64 0, .int .i64 0] := by kernel_rfl
theorem Fzer3 : zeroB Try.prog 3 = some [.int .i64 0] := by kernel_rfl
theorem Fzer39 : zeroB Try.prog 39 = some [.slice none 0 0] := by kernel_rfl
theorem Fzer41 : zeroB Try.prog 41 = some [.slice none 0 0, .slice none 0 0] := by kernel_rfl
theorem Fzer43 : zeroB Try.prog 43 = some [.slice none 0 0, .slice none 0 0, .slice none 0 0] := by kernel_rfl
theorem Fzer66 : zeroB Try.prog 66 = some [.int .i64 0, .int .i64 0, .int .i64 0, .string ⟨#[]⟩, .slice none 0 0, .string ⟨#[]⟩, .slice none 0 0, .int .i64 0, .slice none 0 0, .int .i64 0, .slice none 0 0] := by kernel_rfl
theorem Fzer73 : zeroB Try.prog 73 = some [.map none] := by kernel_rfl
theorem Fzer85 : zeroB Try.prog 85 = some [.int .i64 0, .int .i64 0, .int .i64 0, .int .i64 0, .int .i64 0, .int .i64 0, .int .i64 0, .int .i64 0, .int .i64 0] := by kernel_rfl
theorem Fzer91 : zeroB Try.prog 91 = some [.int .i64 0, .int .i64 0, .slice none 0 0] := by kernel_rfl
theorem Fzer96 : zeroB Try.prog 96 = some [.slice none 0 0] := by kernel_rfl
theorem Fzer99 : zeroB Try.prog 99 = some [.slice none 0 0, .slice none 0 0, .slice none 0 0, .slice none 0 0] := by kernel_rfl
end Go.Proofs.Ytnnendajegdnhaa
