/- The walks. No condition. -/
import Derived.Test.YtoghkehlmibniaaChecked
import Derived.Test.YtoghkehlmibniaaGwQue
import Derived.Test.YtoghkehlmibniaaFacts
import Derived.Test.YtoghkehlmibniaaPlain
import Derived.Test.YtoghkehlmibniaaPlainE
import Derived.Test.YtoghkehlmibniaaW9
namespace Go.Proofs.Ytoghkehlmibniaa
open Go Go.Gw
set_option linter.unusedVariables false
set_option linter.unusedSimpArgs false

theorem stable_is (v : Value) (ps : List (Value × List Int)) (vg : Value) (got : List Int) (w0 : World) (hv : IsSl w0 v 1 encRow ps) (hr : ∀ p ∈ ps, IsSl w0 p.1 1 encI p.2) (hcap : ∀ p ∈ ps, capOK p.1) (hg : IsSl w0 vg 1 encI got) (hlp : ps.length ≤ 1000000) {b : Bool} (hb : stabB (gr ps) got = b) :
    Ret Try.prog 16 #[v, vg] w0 (fun u w => u = .bool b ∧ Ext w0 w) := Ret.mono (stable_spec v ps vg got w0 hv hr hcap hg hlp) (fun u w h => by rw [← hb]; exact h)
set_option maxHeartbeats 4000000 in
/-- foyer/foyerlaw35.head -/
theorem head_spec (w0 : World) :
    Ret Try.prog 11 #[] w0 (fun v w => v = .bool true ∧ Ext w0 w) := by
  refine ret_of_wp (nt := 121) Try.func11 rfl rfl rfl (fl := []) rfl (fun a S => ?_)
  have H := HSat.start w0
  refine g_seq ?_
  -- region 0 law.go:12
  refine g_region ?_
  refine wl_of (op_y (wn rfl) rfl rfl S (y_assign rfl S rfl) fun a S => ?_)
  refine gl_nil ?_
  refine n_then ?_
  refine g_seq ?_
  -- region 1 law.go:13
  refine g_region ?_
  refine wl_of (op_buildSlice (wn rfl) rfl rfl rfl Try.underlying23 Finf3 S H (idx := [0]) rfl rfl rfl (z := [.int .i64 0]) (by kernel_rfl) (cs := [_]) rfl fun b13 a w S H => ?_)
  refine wl_of (op_buildSlice (wn rfl) rfl rfl rfl Try.underlying23 Finf3 S H (idx := [0]) rfl rfl rfl (z := [.int .i64 0]) (by kernel_rfl) (cs := [_]) rfl fun b14 a w S H => ?_)
  refine wl_of (op_buildSlice (wn rfl) rfl rfl rfl Try.underlying23 Finf3 S H (idx := [0]) rfl rfl rfl (z := [.int .i64 0]) (by kernel_rfl) (cs := [_]) rfl fun b15 a w S H => ?_)
  refine wl_of (op_buildSlice (wn rfl) rfl rfl rfl Try.underlying22 Finf23 S H (idx := [0, 1, 2]) rfl rfl rfl (z := [.slice none 0 0, .slice none 0 0, .slice none 0 0]) (by kernel_rfl) (cs := [_, _, _]) rfl fun b16 a w S H => ?_)
  refine wl_of (op_call (wn rfl) rfl rfl S (co_func rfl Try.call13 S rfl) (swap_ok (.slice (some ⟨b16, 0, none⟩) 3 3) [(.slice (some ⟨b13, 0, none⟩) 1 1, [1]), (.slice (some ⟨b14, 0, none⟩) 1 1, [0]), (.slice (some ⟨b15, 0, none⟩) 1 1, [0])] _ (H.slb b16 [(.slice (some ⟨b13, 0, none⟩) 1 1, [1]), (.slice (some ⟨b14, 0, none⟩) 1 1, [0]), (.slice (some ⟨b15, 0, none⟩) 1 1, [0])] encRow 1 rfl rfl (by simp [encRow]) (by simp)) (by intro p hp; simp only [List.mem_cons, List.not_mem_nil, or_false] at hp; rcases hp with rfl | rfl | rfl; exact (H.slb b13 [1] encI 1 rfl rfl (by simp [encI]) (by decide)); exact (H.slb b14 [0] encI 1 rfl rfl (by simp [encI]) (by decide)); exact (H.slb b15 [0] encI 1 rfl rfl (by simp [encI]) (by decide))) (right_iff.1 (show rightW [[1], [0], [0]] = true from (by kernel_rfl))) (by simp)) fun v w hc a S => ?_)
  obtain ⟨vo1, out1, rfl, ⟨r1, ht1⟩, H1⟩ := hc
  have H := H.call1 H1 rfl
  obtain rfl : out1 = [1, 0, 2] := ttc_is (ws := [[1], [0], [0]]) [0, 0, 1] [1, 0, 2] (by kernel_rfl) ht1
  refine wl_of (op_y (wn rfl) rfl rfl S (y_move rfl S rfl) fun a S => ?_)
  refine wl_of (op_y (wn rfl) rfl rfl S (y_extract rfl S rfl rfl) fun a S => ?_)
  refine wl_of (op_y (wn rfl) rfl rfl S (y_extract rfl S rfl rfl) fun a S => ?_)
  refine wl_of (op_y (wn rfl) rfl rfl S (y_assign rfl S rfl) fun a S => ?_)
  refine wl_of (op_y (wn rfl) rfl rfl S (y_assign rfl S rfl) fun a S => ?_)
  refine gl_nil ?_
  refine n_then ?_
  have S := ((S.nil.cons S 0 rfl).cons S 1 rfl).cons S 2 rfl
  refine g_seq ?_
  -- region 2 law.go:14
  refine g_region ?_
  refine wl_of (op_buildSlice (wn rfl) rfl rfl rfl Try.underlying23 Finf3 S H (idx := [0]) rfl rfl rfl (z := [.int .i64 0]) (by kernel_rfl) (cs := [_]) rfl fun b21 a w S H => ?_)
  refine wl_of (op_buildSlice (wn rfl) rfl rfl rfl Try.underlying23 Finf3 S H (idx := [0]) rfl rfl rfl (z := [.int .i64 0]) (by kernel_rfl) (cs := [_]) rfl fun b22 a w S H => ?_)
  refine wl_of (op_buildSlice (wn rfl) rfl rfl rfl Try.underlying23 Finf3 S H (idx := [0]) rfl rfl rfl (z := [.int .i64 0]) (by kernel_rfl) (cs := [_]) rfl fun b23 a w S H => ?_)
  refine wl_of (op_buildSlice (wn rfl) rfl rfl rfl Try.underlying22 Finf23 S H (idx := [0, 1, 2]) rfl rfl rfl (z := [.slice none 0 0, .slice none 0 0, .slice none 0 0]) (by kernel_rfl) (cs := [_, _, _]) rfl fun b24 a w S H => ?_)
  refine wl_of (op_call (wn rfl) rfl rfl S (co_func rfl Try.call13 S rfl) (swap_ok (.slice (some ⟨b24, 0, none⟩) 3 3) [(.slice (some ⟨b21, 0, none⟩) 1 1, [1]), (.slice (some ⟨b22, 0, none⟩) 1 1, [2]), (.slice (some ⟨b23, 0, none⟩) 1 1, [0])] _ (H.slb b24 [(.slice (some ⟨b21, 0, none⟩) 1 1, [1]), (.slice (some ⟨b22, 0, none⟩) 1 1, [2]), (.slice (some ⟨b23, 0, none⟩) 1 1, [0])] encRow 1 rfl rfl (by simp [encRow]) (by simp)) (by intro p hp; simp only [List.mem_cons, List.not_mem_nil, or_false] at hp; rcases hp with rfl | rfl | rfl; exact (H.slb b21 [1] encI 1 rfl rfl (by simp [encI]) (by decide)); exact (H.slb b22 [2] encI 1 rfl rfl (by simp [encI]) (by decide)); exact (H.slb b23 [0] encI 1 rfl rfl (by simp [encI]) (by decide))) (right_iff.1 (show rightW [[1], [2], [0]] = true from (by kernel_rfl))) (by simp)) fun v w hc a S => ?_)
  obtain ⟨vo2, out2, rfl, ⟨r2, ht2⟩, H1⟩ := hc
  have H := H.call1 H1 rfl
  obtain rfl : out2 = [1, 2, 0] := ttc_is (ws := [[1], [2], [0]]) [0, 0, 0] [1, 2, 0] (by kernel_rfl) ht2
  refine wl_of (op_y (wn rfl) rfl rfl S (y_move rfl S rfl) fun a S => ?_)
  refine wl_of (op_y (wn rfl) rfl rfl S (y_extract rfl S rfl rfl) fun a S => ?_)
  refine wl_of (op_y (wn rfl) rfl rfl S (y_extract rfl S rfl rfl) fun a S => ?_)
  refine wl_of (op_y (wn rfl) rfl rfl S (y_assign rfl S rfl) fun a S => ?_)
  refine wl_of (op_y (wn rfl) rfl rfl S (y_assign rfl S rfl) fun a S => ?_)
  refine gl_nil ?_
  refine n_then ?_
  have S := ((((S.nil.cons S 0 rfl).cons S 1 rfl).cons S 2 rfl).cons S 3 rfl).cons S 4 rfl
  refine g_seq ?_
  -- region 3 law.go:15
  refine g_region ?_
  refine wl_of (op_buildSlice (wn rfl) rfl rfl rfl Try.underlying23 Finf3 S H (idx := [0, 1]) rfl rfl rfl (z := [.int .i64 0, .int .i64 0]) (by kernel_rfl) (cs := [_, _]) rfl fun b29 a w S H => ?_)
  refine wl_of (op_buildSlice (wn rfl) rfl rfl rfl Try.underlying23 Finf3 S H (idx := [0]) rfl rfl rfl (z := [.int .i64 0]) (by kernel_rfl) (cs := [_]) rfl fun b30 a w S H => ?_)
  refine wl_of (op_buildSlice (wn rfl) rfl rfl rfl Try.underlying23 Finf3 S H (idx := [0]) rfl rfl rfl (z := [.int .i64 0]) (by kernel_rfl) (cs := [_]) rfl fun b31 a w S H => ?_)
  refine wl_of (op_buildSlice (wn rfl) rfl rfl rfl Try.underlying22 Finf23 S H (idx := [0, 1, 2]) rfl rfl rfl (z := [.slice none 0 0, .slice none 0 0, .slice none 0 0]) (by kernel_rfl) (cs := [_, _, _]) rfl fun b32 a w S H => ?_)
  refine wl_of (op_call (wn rfl) rfl rfl S (co_func rfl Try.call13 S rfl) (swap_ok (.slice (some ⟨b32, 0, none⟩) 3 3) [(.slice (some ⟨b29, 0, none⟩) 2 2, [1, 2]), (.slice (some ⟨b30, 0, none⟩) 1 1, [1]), (.slice (some ⟨b31, 0, none⟩) 1 1, [0])] _ (H.slb b32 [(.slice (some ⟨b29, 0, none⟩) 2 2, [1, 2]), (.slice (some ⟨b30, 0, none⟩) 1 1, [1]), (.slice (some ⟨b31, 0, none⟩) 1 1, [0])] encRow 1 rfl rfl (by simp [encRow]) (by simp)) (by intro p hp; simp only [List.mem_cons, List.not_mem_nil, or_false] at hp; rcases hp with rfl | rfl | rfl; exact (H.slb b29 [1, 2] encI 1 rfl rfl (by simp [encI]) (by decide)); exact (H.slb b30 [1] encI 1 rfl rfl (by simp [encI]) (by decide)); exact (H.slb b31 [0] encI 1 rfl rfl (by simp [encI]) (by decide))) (right_iff.1 (show rightW [[1, 2], [1], [0]] = true from (by kernel_rfl))) (by simp)) fun v w hc a S => ?_)
  obtain ⟨vo3, out3, rfl, ⟨r3, ht3⟩, H1⟩ := hc
  have H := H.call1 H1 rfl
  obtain rfl : out3 = [2, 1, 0] := ttc_is (ws := [[1, 2], [1], [0]]) [1, 0, 1] [2, 1, 0] (by kernel_rfl) ht3
  refine wl_of (op_y (wn rfl) rfl rfl S (y_move rfl S rfl) fun a S => ?_)
  refine wl_of (op_y (wn rfl) rfl rfl S (y_extract rfl S rfl rfl) fun a S => ?_)
  refine wl_of (op_y (wn rfl) rfl rfl S (y_extract rfl S rfl rfl) fun a S => ?_)
  refine wl_of (op_y (wn rfl) rfl rfl S (y_assign rfl S rfl) fun a S => ?_)
  refine wl_of (op_y (wn rfl) rfl rfl S (y_assign rfl S rfl) fun a S => ?_)
  refine gl_nil ?_
  refine n_then ?_
  have S := ((((((S.nil.cons S 0 rfl).cons S 1 rfl).cons S 2 rfl).cons S 3 rfl).cons S 4 rfl).cons S 5 rfl).cons S 6 rfl
  refine g_seq ?_
  -- region 4 law.go:16
  refine g_region ?_
  refine wl_of (op_buildSlice (wn rfl) rfl rfl rfl Try.underlying23 Finf3 S H (idx := [0, 1, 2]) rfl rfl rfl (z := [.int .i64 0, .int .i64 0, .int .i64 0]) (by kernel_rfl) (cs := [_, _, _]) rfl fun b37 a w S H => ?_)
  refine wl_of (op_buildSlice (wn rfl) rfl rfl rfl Try.underlying23 Finf3 S H (idx := [0]) rfl rfl rfl (z := [.int .i64 0]) (by kernel_rfl) (cs := [_]) rfl fun b38 a w S H => ?_)
  refine wl_of (op_buildSlice (wn rfl) rfl rfl rfl Try.underlying22 Finf23 S H (idx := [0, 1, 2]) rfl rfl rfl (z := [.slice none 0 0, .slice none 0 0, .slice none 0 0]) (by kernel_rfl) (cs := [_, _, _]) rfl fun b39 a w S H => ?_)
  refine wl_of (op_call (wn rfl) rfl rfl S (co_func rfl Try.call13 S rfl) (swap_ok (.slice (some ⟨b39, 0, none⟩) 3 3) [(.slice (some ⟨b37, 0, none⟩) 3 3, [2, 0, 1]), (.slice none 0 0, []), (.slice (some ⟨b38, 0, none⟩) 1 1, [1])] _ (H.slb b39 [(.slice (some ⟨b37, 0, none⟩) 3 3, [2, 0, 1]), (.slice none 0 0, []), (.slice (some ⟨b38, 0, none⟩) 1 1, [1])] encRow 1 rfl rfl (by simp [encRow]) (by simp)) (by intro p hp; simp only [List.mem_cons, List.not_mem_nil, or_false] at hp; rcases hp with rfl | rfl | rfl; exact (H.slb b37 [2, 0, 1] encI 1 rfl rfl (by simp [encI]) (by decide)); exact (IsSl.nil _ 1 encI); exact (H.slb b38 [1] encI 1 rfl rfl (by simp [encI]) (by decide))) (right_iff.1 (show rightW [[2, 0, 1], [], [1]] = true from (by kernel_rfl))) (by simp)) fun v w hc a S => ?_)
  obtain ⟨vo4, out4, rfl, ⟨r4, ht4⟩, H1⟩ := hc
  have H := H.call1 H1 rfl
  obtain rfl : out4 = [0, 1, 2] := ttc_is (ws := [[2, 0, 1], [], [1]]) [2, 0, 1] [0, 1, 2] (by kernel_rfl) ht4
  refine wl_of (op_y (wn rfl) rfl rfl S (y_move rfl S rfl) fun a S => ?_)
  refine wl_of (op_y (wn rfl) rfl rfl S (y_extract rfl S rfl rfl) fun a S => ?_)
  refine wl_of (op_y (wn rfl) rfl rfl S (y_extract rfl S rfl rfl) fun a S => ?_)
  refine wl_of (op_y (wn rfl) rfl rfl S (y_assign rfl S rfl) fun a S => ?_)
  refine wl_of (op_y (wn rfl) rfl rfl S (y_assign rfl S rfl) fun a S => ?_)
  refine gl_nil ?_
  refine n_then ?_
  have S := ((((((((S.nil.cons S 0 rfl).cons S 1 rfl).cons S 2 rfl).cons S 3 rfl).cons S 4 rfl).cons S 5 rfl).cons S 6 rfl).cons S 7 rfl).cons S 8 rfl
  refine g_seq ?_
  -- region 5 law.go:17
  refine g_region ?_
  refine wl_of (op_buildSlice (wn rfl) rfl rfl rfl Try.underlying23 Finf3 S H (idx := [0]) rfl rfl rfl (z := [.int .i64 0]) (by kernel_rfl) (cs := [_]) rfl fun b44 a w S H => ?_)
  refine wl_of (op_buildSlice (wn rfl) rfl rfl rfl Try.underlying22 Finf23 S H (idx := [0]) rfl rfl rfl (z := [.slice none 0 0]) (by kernel_rfl) (cs := [_]) rfl fun b45 a w S H => ?_)
  refine wl_of (op_call (wn rfl) rfl rfl S (co_func rfl Try.call13 S rfl) (swap_bad (.slice (some ⟨b45, 0, none⟩) 1 1) [(.slice (some ⟨b44, 0, none⟩) 1 1, [1])] _ (H.slb b45 [(.slice (some ⟨b44, 0, none⟩) 1 1, [1])] encRow 1 rfl rfl (by simp [encRow]) (by simp)) (by intro p hp; simp only [List.mem_cons, List.not_mem_nil, or_false] at hp; subst hp; exact (H.slb b44 [1] encI 1 rfl rfl (by simp [encI]) (by decide))) (show rightW [[1]] = false from (by kernel_rfl)) (by simp)) fun v w hc a S => ?_)
  obtain ⟨rfl, he⟩ := hc
  have H := H.ext he
  refine wl_of (op_y (wn rfl) rfl rfl S (y_move rfl S rfl) fun a S => ?_)
  refine wl_of (op_y (wn rfl) rfl rfl S (y_extract rfl S rfl rfl) fun a S => ?_)
  refine wl_of (op_y (wn rfl) rfl rfl S (y_extract rfl S rfl rfl) fun a S => ?_)
  refine wl_of (op_y (wn rfl) rfl rfl S (y_assign rfl S rfl) fun a S => ?_)
  refine wl_of (op_y (wn rfl) rfl rfl S (y_assign rfl S rfl) fun a S => ?_)
  refine gl_nil ?_
  refine n_then ?_
  have S := (((((((((S.nil.cons S 0 rfl).cons S 1 rfl).cons S 2 rfl).cons S 3 rfl).cons S 4 rfl).cons S 5 rfl).cons S 6 rfl).cons S 7 rfl).cons S 8 rfl).cons S 10 rfl
  refine g_seq ?_
  -- region 6 law.go:18
  refine g_region ?_
  refine wl_of (op_y (wn rfl) rfl rfl S (y_move rfl S rfl) fun a S => ?_)
  refine wl_of (op_y (wn rfl) rfl rfl S (y_bin rfl S rfl rfl rfl) fun a S => ?_)
  refine wl_of (op_y (wn rfl) rfl rfl S (y_move rfl S rfl) fun a S => ?_)
  refine wl_of (op_y (wg' 51 rfl rfl S rfl (by kernel_rfl) rfl) rfl rfl S (y_move rfl S rfl) fun a S => ?_)
  refine wl_of (op_y (wg' 51 rfl rfl S rfl (by kernel_rfl) rfl) rfl rfl S (y_bin rfl S rfl rfl rfl) fun a S => ?_)
  refine wl_of (op_y (wn rfl) rfl rfl S (y_and' rfl (by kernel_rfl) S rfl rfl) fun a S => ?_)
  refine wl_of (op_y (wn rfl) rfl rfl S (y_move rfl S rfl) fun a S => ?_)
  refine wl_of (op_y (wg' 55 rfl rfl S rfl (by kernel_rfl) rfl) rfl rfl S (y_move rfl S rfl) fun a S => ?_)
  refine wl_of (op_y (wg' 55 rfl rfl S rfl (by kernel_rfl) rfl) rfl rfl S (y_bin rfl S rfl rfl rfl) fun a S => ?_)
  refine wl_of (op_y (wn rfl) rfl rfl S (y_and' rfl (by kernel_rfl) S rfl rfl) fun a S => ?_)
  refine wl_of (op_y (wn rfl) rfl rfl S (y_move rfl S rfl) fun a S => ?_)
  refine wl_of (op_y (wg' 59 rfl rfl S rfl (by kernel_rfl) rfl) rfl rfl S (y_move rfl S rfl) fun a S => ?_)
  refine wl_of (op_y (wg' 59 rfl rfl S rfl (by kernel_rfl) rfl) rfl rfl S (y_bin rfl S rfl rfl rfl) fun a S => ?_)
  refine wl_of (op_y (wn rfl) rfl rfl S (y_and' rfl (by kernel_rfl) S rfl rfl) fun a S => ?_)
  refine wl_of (op_y (wn rfl) rfl rfl S (y_move rfl S rfl) fun a S => ?_)
  refine wl_of (op_y (wg' 63 rfl rfl S rfl (by kernel_rfl) rfl) rfl rfl S (y_move rfl S rfl) fun a S => ?_)
  refine wl_of (op_y (wg' 63 rfl rfl S rfl (by kernel_rfl) rfl) rfl rfl S (y_bin rfl S rfl rfl rfl) fun a S => ?_)
  refine wl_of (op_y (wn rfl) rfl rfl S (y_and' rfl (by kernel_rfl) S rfl rfl) fun a S => ?_)
  refine wl_of (op_y (wn rfl) rfl rfl S (y_move rfl S rfl) fun a S => ?_)
  refine wl_of (op_y (wg' 67 rfl rfl S rfl (by kernel_rfl) rfl) rfl rfl S (y_move rfl S rfl) fun a S => ?_)
  refine wl_of (op_buildSlice (wg' 67 rfl rfl S rfl (by kernel_rfl) rfl) rfl rfl rfl Try.underlying23 Finf3 S H (idx := [0, 1, 2]) rfl rfl rfl (z := [.int .i64 0, .int .i64 0, .int .i64 0]) (by kernel_rfl) (cs := [_, _, _]) rfl fun b69 a w S H => ?_)
  refine wl_of (op_call (wg' 67 rfl rfl S rfl (by kernel_rfl) rfl) rfl rfl S (co_func rfl Try.call15 S rfl) (ints_spec vo1 (.slice (some ⟨b69, 0, none⟩) 3 3) [1, 0, 2] [1, 0, 2] _ (H.sl vo1) (H.slb b69 [1, 0, 2] encI 1 rfl rfl (by simp [encI]) (by decide))) fun v w hc a S => ?_)
  obtain ⟨rfl, he⟩ := hc
  have H := H.ext he
  refine wl_of (op_y (wn rfl) rfl rfl S (y_and' rfl (by kernel_rfl) S rfl rfl) fun a S => ?_)
  refine wl_of (op_y (wn rfl) rfl rfl S (y_move rfl S rfl) fun a S => ?_)
  refine wl_of (op_y (wg' 72 rfl rfl S rfl (by kernel_rfl) rfl) rfl rfl S (y_move rfl S rfl) fun a S => ?_)
  refine wl_of (op_buildSlice (wg' 72 rfl rfl S rfl (by kernel_rfl) rfl) rfl rfl rfl Try.underlying23 Finf3 S H (idx := [0, 1, 2]) rfl rfl rfl (z := [.int .i64 0, .int .i64 0, .int .i64 0]) (by kernel_rfl) (cs := [_, _, _]) rfl fun b74 a w S H => ?_)
  refine wl_of (op_call (wg' 72 rfl rfl S rfl (by kernel_rfl) rfl) rfl rfl S (co_func rfl Try.call15 S rfl) (ints_spec vo2 (.slice (some ⟨b74, 0, none⟩) 3 3) [1, 2, 0] [1, 2, 0] _ (H.sl vo2) (H.slb b74 [1, 2, 0] encI 1 rfl rfl (by simp [encI]) (by decide))) fun v w hc a S => ?_)
  obtain ⟨rfl, he⟩ := hc
  have H := H.ext he
  refine wl_of (op_y (wn rfl) rfl rfl S (y_and' rfl (by kernel_rfl) S rfl rfl) fun a S => ?_)
  refine wl_of (op_y (wn rfl) rfl rfl S (y_move rfl S rfl) fun a S => ?_)
  refine wl_of (op_y (wg' 77 rfl rfl S rfl (by kernel_rfl) rfl) rfl rfl S (y_move rfl S rfl) fun a S => ?_)
  refine wl_of (op_buildSlice (wg' 77 rfl rfl S rfl (by kernel_rfl) rfl) rfl rfl rfl Try.underlying23 Finf3 S H (idx := [0, 1, 2]) rfl rfl rfl (z := [.int .i64 0, .int .i64 0, .int .i64 0]) (by kernel_rfl) (cs := [_, _, _]) rfl fun b79 a w S H => ?_)
  refine wl_of (op_call (wg' 77 rfl rfl S rfl (by kernel_rfl) rfl) rfl rfl S (co_func rfl Try.call15 S rfl) (ints_spec vo3 (.slice (some ⟨b79, 0, none⟩) 3 3) [2, 1, 0] [2, 1, 0] _ (H.sl vo3) (H.slb b79 [2, 1, 0] encI 1 rfl rfl (by simp [encI]) (by decide))) fun v w hc a S => ?_)
  obtain ⟨rfl, he⟩ := hc
  have H := H.ext he
  refine wl_of (op_y (wn rfl) rfl rfl S (y_and' rfl (by kernel_rfl) S rfl rfl) fun a S => ?_)
  refine wl_of (op_y (wn rfl) rfl rfl S (y_move rfl S rfl) fun a S => ?_)
  refine wl_of (op_y (wg' 82 rfl rfl S rfl (by kernel_rfl) rfl) rfl rfl S (y_move rfl S rfl) fun a S => ?_)
  refine wl_of (op_buildSlice (wg' 82 rfl rfl S rfl (by kernel_rfl) rfl) rfl rfl rfl Try.underlying23 Finf3 S H (idx := [0, 1, 2]) rfl rfl rfl (z := [.int .i64 0, .int .i64 0, .int .i64 0]) (by kernel_rfl) (cs := [_, _, _]) rfl fun b84 a w S H => ?_)
  refine wl_of (op_call (wg' 82 rfl rfl S rfl (by kernel_rfl) rfl) rfl rfl S (co_func rfl Try.call15 S rfl) (ints_spec vo4 (.slice (some ⟨b84, 0, none⟩) 3 3) [0, 1, 2] [0, 1, 2] _ (H.sl vo4) (H.slb b84 [0, 1, 2] encI 1 rfl rfl (by simp [encI]) (by decide))) fun v w hc a S => ?_)
  obtain ⟨rfl, he⟩ := hc
  have H := H.ext he
  refine wl_of (op_y (wn rfl) rfl rfl S (y_and' rfl (by kernel_rfl) S rfl rfl) fun a S => ?_)
  refine wl_of (op_y (wn rfl) rfl rfl S (y_assign rfl S rfl) fun a S => ?_)
  refine gl_nil ?_
  refine n_then ?_
  have S := (S.nil.cons S 0 rfl).cons S 11 rfl
  refine g_seq ?_
  -- region 7 law.go:19
  refine g_region ?_
  refine wl_of (op_y (wn rfl) rfl rfl S (y_move rfl S rfl) fun a S => ?_)
  refine wl_of (op_y (wn rfl) rfl rfl S (y_move rfl S rfl) fun a S => ?_)
  refine wl_of (op_buildSlice (wg' 88 rfl rfl S rfl (by kernel_rfl) rfl) rfl rfl rfl Try.underlying23 Finf3 S H (idx := [0]) rfl rfl rfl (z := [.int .i64 0]) (by kernel_rfl) (cs := [_]) rfl fun b89 a w S H => ?_)
  refine wl_of (op_buildSlice (wg' 88 rfl rfl S rfl (by kernel_rfl) rfl) rfl rfl rfl Try.underlying23 Finf3 S H (idx := [0]) rfl rfl rfl (z := [.int .i64 0]) (by kernel_rfl) (cs := [_]) rfl fun b90 a w S H => ?_)
  refine wl_of (op_buildSlice (wg' 88 rfl rfl S rfl (by kernel_rfl) rfl) rfl rfl rfl Try.underlying22 Finf23 S H (idx := [0, 1]) rfl rfl rfl (z := [.slice none 0 0, .slice none 0 0]) (by kernel_rfl) (cs := [_, _]) rfl fun b91 a w S H => ?_)
  refine wl_of (op_buildSlice (wg' 88 rfl rfl S rfl (by kernel_rfl) rfl) rfl rfl rfl Try.underlying23 Finf3 S H (idx := [0, 1]) rfl rfl rfl (z := [.int .i64 0, .int .i64 0]) (by kernel_rfl) (cs := [_, _]) rfl fun b92 a w S H => ?_)
  refine wl_of (op_call (wg' 88 rfl rfl S rfl (by kernel_rfl) rfl) rfl rfl S (co_func rfl Try.call16 S rfl) (stable_is (.slice (some ⟨b91, 0, none⟩) 2 2) [(.slice (some ⟨b89, 0, none⟩) 1 1, [1]), (.slice (some ⟨b90, 0, none⟩) 1 1, [0])] (.slice (some ⟨b92, 0, none⟩) 2 2) [1, 0] _ (H.slb b91 [(.slice (some ⟨b89, 0, none⟩) 1 1, [1]), (.slice (some ⟨b90, 0, none⟩) 1 1, [0])] encRow 1 rfl rfl (by simp [encRow]) (by simp)) (by intro p hp; simp only [List.mem_cons, List.not_mem_nil, or_false] at hp; rcases hp with rfl | rfl; exact (H.slb b89 [1] encI 1 rfl rfl (by simp [encI]) (by decide)); exact (H.slb b90 [0] encI 1 rfl rfl (by simp [encI]) (by decide))) (by intro p hp; simp only [List.mem_cons, List.not_mem_nil, or_false] at hp; rcases hp with rfl | rfl <;> exact Nat.le_refl _) (H.slb b92 [1, 0] encI 1 rfl rfl (by simp [encI]) (by decide)) (by simp) (b := true) (stab_is (ws := [[1], [0]]) [0, 0] [1, 0] (by kernel_rfl) (by kernel_rfl) (by decide) _ (by kernel_rfl))) fun v w hc a S => ?_)
  obtain ⟨rfl, he⟩ := hc
  have H := H.ext he
  refine wl_of (op_y (wn rfl) rfl rfl S (y_and' rfl (by kernel_rfl) S rfl rfl) fun a S => ?_)
  refine wl_of (op_y (wn rfl) rfl rfl S (y_move rfl S rfl) fun a S => ?_)
  refine wl_of (op_buildSlice (wg' 95 rfl rfl S rfl (by kernel_rfl) rfl) rfl rfl rfl Try.underlying23 Finf3 S H (idx := [0]) rfl rfl rfl (z := [.int .i64 0]) (by kernel_rfl) (cs := [_]) rfl fun b96 a w S H => ?_)
  refine wl_of (op_buildSlice (wg' 95 rfl rfl S rfl (by kernel_rfl) rfl) rfl rfl rfl Try.underlying23 Finf3 S H (idx := [0]) rfl rfl rfl (z := [.int .i64 0]) (by kernel_rfl) (cs := [_]) rfl fun b97 a w S H => ?_)
  refine wl_of (op_buildSlice (wg' 95 rfl rfl S rfl (by kernel_rfl) rfl) rfl rfl rfl Try.underlying22 Finf23 S H (idx := [0, 1]) rfl rfl rfl (z := [.slice none 0 0, .slice none 0 0]) (by kernel_rfl) (cs := [_, _]) rfl fun b98 a w S H => ?_)
  refine wl_of (op_buildSlice (wg' 95 rfl rfl S rfl (by kernel_rfl) rfl) rfl rfl rfl Try.underlying23 Finf3 S H (idx := [0, 1]) rfl rfl rfl (z := [.int .i64 0, .int .i64 0]) (by kernel_rfl) (cs := [_, _]) rfl fun b99 a w S H => ?_)
  refine wl_of (op_call (wg' 95 rfl rfl S rfl (by kernel_rfl) rfl) rfl rfl S (co_func rfl Try.call16 S rfl) (stable_is (.slice (some ⟨b98, 0, none⟩) 2 2) [(.slice (some ⟨b96, 0, none⟩) 1 1, [1]), (.slice (some ⟨b97, 0, none⟩) 1 1, [0])] (.slice (some ⟨b99, 0, none⟩) 2 2) [0, 1] _ (H.slb b98 [(.slice (some ⟨b96, 0, none⟩) 1 1, [1]), (.slice (some ⟨b97, 0, none⟩) 1 1, [0])] encRow 1 rfl rfl (by simp [encRow]) (by simp)) (by intro p hp; simp only [List.mem_cons, List.not_mem_nil, or_false] at hp; rcases hp with rfl | rfl; exact (H.slb b96 [1] encI 1 rfl rfl (by simp [encI]) (by decide)); exact (H.slb b97 [0] encI 1 rfl rfl (by simp [encI]) (by decide))) (by intro p hp; simp only [List.mem_cons, List.not_mem_nil, or_false] at hp; rcases hp with rfl | rfl <;> exact Nat.le_refl _) (H.slb b99 [0, 1] encI 1 rfl rfl (by simp [encI]) (by decide)) (by simp) (b := false) (stab_is (ws := [[1], [0]]) [0, 0] [1, 0] (by kernel_rfl) (by kernel_rfl) (by decide) _ (by kernel_rfl))) fun v w hc a S => ?_)
  obtain ⟨rfl, he⟩ := hc
  have H := H.ext he
  refine wl_of (op_y (wg' 95 rfl rfl S rfl (by kernel_rfl) rfl) rfl rfl S (y_not rfl S rfl) fun a S => ?_)
  refine wl_of (op_y (wn rfl) rfl rfl S (y_and' rfl (by kernel_rfl) S rfl rfl) fun a S => ?_)
  refine wl_of (op_y (wn rfl) rfl rfl S (y_move rfl S rfl) fun a S => ?_)
  refine wl_of (op_buildSlice (wg' 103 rfl rfl S rfl (by kernel_rfl) rfl) rfl rfl rfl Try.underlying23 Finf3 S H (idx := [0]) rfl rfl rfl (z := [.int .i64 0]) (by kernel_rfl) (cs := [_]) rfl fun b104 a w S H => ?_)
  refine wl_of (op_buildSlice (wg' 103 rfl rfl S rfl (by kernel_rfl) rfl) rfl rfl rfl Try.underlying22 Finf23 S H (idx := [0, 1]) rfl rfl rfl (z := [.slice none 0 0, .slice none 0 0]) (by kernel_rfl) (cs := [_, _]) rfl fun b105 a w S H => ?_)
  refine wl_of (op_buildSlice (wg' 103 rfl rfl S rfl (by kernel_rfl) rfl) rfl rfl rfl Try.underlying23 Finf3 S H (idx := [0, 1]) rfl rfl rfl (z := [.int .i64 0, .int .i64 0]) (by kernel_rfl) (cs := [_, _]) rfl fun b106 a w S H => ?_)
  refine wl_of (op_call (wg' 103 rfl rfl S rfl (by kernel_rfl) rfl) rfl rfl S (co_func rfl Try.call16 S rfl) (stable_is (.slice (some ⟨b105, 0, none⟩) 2 2) [(.slice (some ⟨b104, 0, none⟩) 1 1, [1]), (.slice none 0 0, [])] (.slice (some ⟨b106, 0, none⟩) 2 2) [1, 0] _ (H.slb b105 [(.slice (some ⟨b104, 0, none⟩) 1 1, [1]), (.slice none 0 0, [])] encRow 1 rfl rfl (by simp [encRow]) (by simp)) (by intro p hp; simp only [List.mem_cons, List.not_mem_nil, or_false] at hp; rcases hp with rfl | rfl; exact (H.slb b104 [1] encI 1 rfl rfl (by simp [encI]) (by decide)); exact (IsSl.nil _ 1 encI)) (by intro p hp; simp only [List.mem_cons, List.not_mem_nil, or_false] at hp; rcases hp with rfl | rfl <;> exact Nat.le_refl _) (H.slb b106 [1, 0] encI 1 rfl rfl (by simp [encI]) (by decide)) (by simp) (b := false) (stab_is (ws := [[1], []]) [1, 0] [0, 1] (by kernel_rfl) (by kernel_rfl) (by decide) _ (by kernel_rfl))) fun v w hc a S => ?_)
  obtain ⟨rfl, he⟩ := hc
  have H := H.ext he
  refine wl_of (op_y (wg' 103 rfl rfl S rfl (by kernel_rfl) rfl) rfl rfl S (y_not rfl S rfl) fun a S => ?_)
  refine wl_of (op_y (wn rfl) rfl rfl S (y_and' rfl (by kernel_rfl) S rfl rfl) fun a S => ?_)
  refine wl_of (op_y (wn rfl) rfl rfl S (y_move rfl S rfl) fun a S => ?_)
  refine wl_of (op_buildSlice (wg' 110 rfl rfl S rfl (by kernel_rfl) rfl) rfl rfl rfl Try.underlying23 Finf3 S H (idx := [0]) rfl rfl rfl (z := [.int .i64 0]) (by kernel_rfl) (cs := [_]) rfl fun b111 a w S H => ?_)
  refine wl_of (op_buildSlice (wg' 110 rfl rfl S rfl (by kernel_rfl) rfl) rfl rfl rfl Try.underlying23 Finf3 S H (idx := [0]) rfl rfl rfl (z := [.int .i64 0]) (by kernel_rfl) (cs := [_]) rfl fun b112 a w S H => ?_)
  refine wl_of (op_buildSlice (wg' 110 rfl rfl S rfl (by kernel_rfl) rfl) rfl rfl rfl Try.underlying22 Finf23 S H (idx := [0, 1]) rfl rfl rfl (z := [.slice none 0 0, .slice none 0 0]) (by kernel_rfl) (cs := [_, _]) rfl fun b113 a w S H => ?_)
  refine wl_of (op_buildSlice (wg' 110 rfl rfl S rfl (by kernel_rfl) rfl) rfl rfl rfl Try.underlying23 Finf3 S H (idx := [0, 1]) rfl rfl rfl (z := [.int .i64 0, .int .i64 0]) (by kernel_rfl) (cs := [_, _]) rfl fun b114 a w S H => ?_)
  refine wl_of (op_call (wg' 110 rfl rfl S rfl (by kernel_rfl) rfl) rfl rfl S (co_func rfl Try.call16 S rfl) (stable_is (.slice (some ⟨b113, 0, none⟩) 2 2) [(.slice (some ⟨b111, 0, none⟩) 1 1, [1]), (.slice (some ⟨b112, 0, none⟩) 1 1, [0])] (.slice (some ⟨b114, 0, none⟩) 2 2) [1, 1] _ (H.slb b113 [(.slice (some ⟨b111, 0, none⟩) 1 1, [1]), (.slice (some ⟨b112, 0, none⟩) 1 1, [0])] encRow 1 rfl rfl (by simp [encRow]) (by simp)) (by intro p hp; simp only [List.mem_cons, List.not_mem_nil, or_false] at hp; rcases hp with rfl | rfl; exact (H.slb b111 [1] encI 1 rfl rfl (by simp [encI]) (by decide)); exact (H.slb b112 [0] encI 1 rfl rfl (by simp [encI]) (by decide))) (by intro p hp; simp only [List.mem_cons, List.not_mem_nil, or_false] at hp; rcases hp with rfl | rfl <;> exact Nat.le_refl _) (H.slb b114 [1, 1] encI 1 rfl rfl (by simp [encI]) (by decide)) (by simp) (b := false) (stab_is (ws := [[1], [0]]) [0, 0] [1, 0] (by kernel_rfl) (by kernel_rfl) (by decide) _ (by kernel_rfl))) fun v w hc a S => ?_)
  obtain ⟨rfl, he⟩ := hc
  have H := H.ext he
  refine wl_of (op_y (wg' 110 rfl rfl S rfl (by kernel_rfl) rfl) rfl rfl S (y_not rfl S rfl) fun a S => ?_)
  refine wl_of (op_y (wn rfl) rfl rfl S (y_and' rfl (by kernel_rfl) S rfl rfl) fun a S => ?_)
  refine wl_of (op_y (wn rfl) rfl rfl S (y_move rfl S rfl) fun a S => ?_)
  refine wl_of (op_call (wg' 118 rfl rfl S rfl (by kernel_rfl) rfl) rfl rfl S (co_func rfl Try.call16 S rfl) (stable_is (.slice none 0 0) [] (.slice none 0 0) [] _ (IsSl.nil _ 1 encRow) (fun p hp => by cases hp) (fun p hp => by cases hp) (IsSl.nil _ 1 encI) (by simp) (b := true) (stab_is (ws := []) [] [] (by kernel_rfl) (by kernel_rfl) (by decide) _ (by kernel_rfl))) fun v w hc a S => ?_)
  obtain ⟨rfl, he⟩ := hc
  have H := H.ext he
  refine wl_of (op_y (wn rfl) rfl rfl S (y_and' rfl (by kernel_rfl) S rfl rfl) fun a S => ?_)
  refine wl_of (op_y (wn rfl) rfl rfl S (y_assign rfl S rfl) fun a S => ?_)
  refine gl_nil ?_
  refine n_then ?_
  have S := S.nil.cons S 0 rfl
  refine g_ret ?_
  refine ret1 rfl S rfl ?_
  exact ⟨by kernel_rfl, H.toExt⟩

end Go.Proofs.Ytoghkehlmibniaa
