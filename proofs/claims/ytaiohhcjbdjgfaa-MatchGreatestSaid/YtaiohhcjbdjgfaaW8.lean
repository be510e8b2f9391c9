/- The walks. No condition. -/
import Derived.Test.YtaiohhcjbdjgfaaChecked
import Derived.Test.YtaiohhcjbdjgfaaGwCut
import Derived.Test.YtaiohhcjbdjgfaaFacts
import Derived.Test.YtaiohhcjbdjgfaaPlain
import Derived.Test.YtaiohhcjbdjgfaaW7
namespace Go.Proofs.Ytaiohhcjbdjgfaa
open Go Go.Gw
set_option linter.unusedVariables false
set_option linter.unusedSimpArgs false
set_option maxHeartbeats 4000000 in
/-- foyer/foyerlaw40.head -/
theorem head_spec (w0 : World) :
    Ret Try.prog 11 #[] w0 (fun v w => v = .bool true ∧ Ext w0 w) := by
  refine ret_of_wp (nt := 141) Try.func11 rfl rfl rfl (fl := []) rfl (fun a S => ?_)
  have H := HSat.start w0
  refine g_seq ?_
  -- region 0 law.go:11
  refine g_region ?_
  refine wl_of (op_y (wn rfl) rfl rfl S (y_assign rfl S rfl) fun a S => ?_)
  refine gl_nil ?_
  refine n_then ?_
  refine g_seq ?_
  -- region 1 law.go:12
  refine g_region ?_
  refine wl_of (op_buildSlice (wn rfl) rfl rfl rfl Try.underlying23 Finf3 S H (idx := [0, 1]) rfl rfl rfl (z := [.int .i64 0, .int .i64 0]) (by kernel_rfl) (cs := [_, _]) rfl fun b17 a w S H => ?_)
  refine wl_of (op_buildSlice (wn rfl) rfl rfl rfl Try.underlying23 Finf3 S H (idx := [0]) rfl rfl rfl (z := [.int .i64 0]) (by kernel_rfl) (cs := [_]) rfl fun b18 a w S H => ?_)
  refine wl_of (op_buildSlice (wn rfl) rfl rfl rfl Try.underlying22 Finf23 S H (idx := [0, 1]) rfl rfl rfl (z := [.slice none 0 0, .slice none 0 0]) (by kernel_rfl) (cs := [_, _]) rfl fun b19 a w S H => ?_)
  refine wl_of (op_y (wn rfl) rfl rfl S (y_assign rfl S rfl) fun a S => ?_)
  refine gl_nil ?_
  refine n_then ?_
  refine g_seq ?_
  -- region 2 law.go:13
  refine g_region ?_
  refine wl_of (op_buildSlice (wn rfl) rfl rfl rfl Try.underlying23 Finf3 S H (idx := [0]) rfl rfl rfl (z := [.int .i64 0]) (by kernel_rfl) (cs := [_]) rfl fun b20 a w S H => ?_)
  refine wl_of (op_buildSlice (wn rfl) rfl rfl rfl Try.underlying23 Finf3 S H (idx := [0]) rfl rfl rfl (z := [.int .i64 0]) (by kernel_rfl) (cs := [_]) rfl fun b21 a w S H => ?_)
  refine wl_of (op_buildSlice (wn rfl) rfl rfl rfl Try.underlying23 Finf3 S H (idx := [0, 1]) rfl rfl rfl (z := [.int .i64 0, .int .i64 0]) (by kernel_rfl) (cs := [_, _]) rfl fun b22 a w S H => ?_)
  refine wl_of (op_buildSlice (wn rfl) rfl rfl rfl Try.underlying22 Finf23 S H (idx := [0, 1, 2]) rfl rfl rfl (z := [.slice none 0 0, .slice none 0 0, .slice none 0 0]) (by kernel_rfl) (cs := [_, _, _]) rfl fun b23 a w S H => ?_)
  refine wl_of (op_y (wn rfl) rfl rfl S (y_assign rfl S rfl) fun a S => ?_)
  refine gl_nil ?_
  refine n_then ?_
  have S := ((S.nil.cons S 0 rfl).cons S 1 rfl).cons S 2 rfl
  refine g_seq ?_
  -- region 3 law.go:14
  refine g_region ?_
  refine wl_of (op_y (wn rfl) rfl rfl S (y_move rfl S rfl) fun a S => ?_)
  refine wl_of (op_call (wn rfl) rfl rfl S (co_func rfl Try.call15 S rfl) (match_okI (.slice (some ⟨b19, 0, none⟩) 2 2) [(.slice (some ⟨b17, 0, none⟩) 2 2, [0, 1]), (.slice (some ⟨b18, 0, none⟩) 1 1, [0])] 2 _ (H.slb b19 [(.slice (some ⟨b17, 0, none⟩) 2 2, [0, 1]), (.slice (some ⟨b18, 0, none⟩) 1 1, [0])] encRow 1 rfl rfl (by simp [encRow]) (by simp)) (by intro p hp; simp only [List.mem_cons, List.not_mem_nil, or_false] at hp; rcases hp with rfl | rfl; exact (H.slb b17 [0, 1] encI 1 rfl rfl (by simp [encI]) (by decide)); exact (H.slb b18 [0] encI 1 rfl rfl (by simp [encI]) (by decide))) (show validG (gr [(.slice (some ⟨b17, 0, none⟩) 2 2, [0, 1]), (.slice (some ⟨b18, 0, none⟩) 1 1, [0])]) 2 = true from (by kernel_rfl))) fun v w hc a S => ?_)
  obtain ⟨vg1, vl1, vr1, rfl, H1⟩ := hc
  have H := H.call3 H1 rfl rfl rfl
  refine wl_of (op_y (wn rfl) rfl rfl S (y_move rfl S rfl) fun a S => ?_)
  refine wl_of (op_y (wn rfl) rfl rfl S (y_extract rfl S rfl rfl) fun a S => ?_)
  refine wl_of (op_y (wn rfl) rfl rfl S (y_extract rfl S rfl rfl) fun a S => ?_)
  refine wl_of (op_y (wn rfl) rfl rfl S (y_extract rfl S rfl rfl) fun a S => ?_)
  refine wl_of (op_alloc (wn rfl) rfl rfl rfl S H Fzer25 fun b4 a w S H => ?_)
  refine wl_of (op_y (wn rfl) rfl rfl S (y_assign rfl S rfl) fun a S => ?_)
  refine wl_of (op_storea (wn rfl) rfl rfl S H rfl rfl (by rw [List.all_cons, List.all_cons, H.sl1 vl1, H.sl1 vr1]; rfl) Fsiz25 rfl (cs' := [_, _]) rfl fun a w S H => ?_)
  refine wl_of (op_y (wn rfl) rfl rfl S (y_assign rfl S rfl) fun a S => ?_)
  refine gl_nil ?_
  refine n_then ?_
  have S := (((((S.nil.cons S 0 rfl).cons S 1 rfl).cons S 2 rfl).cons S 4 rfl).cons S 3 rfl).cons S 5 rfl
  refine g_seq ?_
  -- region 4 law.go:15
  refine g_region ?_
  refine wl_of (op_y (wn rfl) rfl rfl S (y_move rfl S rfl) fun a S => ?_)
  refine wl_of (op_call (wn rfl) rfl rfl S (co_func rfl Try.call15 S rfl) (match_okI (.slice (some ⟨b23, 0, none⟩) 3 3) [(.slice (some ⟨b20, 0, none⟩) 1 1, [0]), (.slice (some ⟨b21, 0, none⟩) 1 1, [0]), (.slice (some ⟨b22, 0, none⟩) 2 2, [0, 1])] 2 _ (H.slb b23 [(.slice (some ⟨b20, 0, none⟩) 1 1, [0]), (.slice (some ⟨b21, 0, none⟩) 1 1, [0]), (.slice (some ⟨b22, 0, none⟩) 2 2, [0, 1])] encRow 1 rfl rfl (by simp [encRow]) (by simp)) (by intro p hp; simp only [List.mem_cons, List.not_mem_nil, or_false] at hp; rcases hp with rfl | rfl | rfl; exact (H.slb b20 [0] encI 1 rfl rfl (by simp [encI]) (by decide)); exact (H.slb b21 [0] encI 1 rfl rfl (by simp [encI]) (by decide)); exact (H.slb b22 [0, 1] encI 1 rfl rfl (by simp [encI]) (by decide))) (show validG (gr [(.slice (some ⟨b20, 0, none⟩) 1 1, [0]), (.slice (some ⟨b21, 0, none⟩) 1 1, [0]), (.slice (some ⟨b22, 0, none⟩) 2 2, [0, 1])]) 2 = true from (by kernel_rfl))) fun v w hc a S => ?_)
  obtain ⟨vg2, vl2, vr2, rfl, H1⟩ := hc
  have H := H.call3 H1 rfl rfl rfl
  refine wl_of (op_y (wn rfl) rfl rfl S (y_move rfl S rfl) fun a S => ?_)
  refine wl_of (op_y (wn rfl) rfl rfl S (y_extract rfl S rfl rfl) fun a S => ?_)
  refine wl_of (op_y (wn rfl) rfl rfl S (y_extract rfl S rfl rfl) fun a S => ?_)
  refine wl_of (op_y (wn rfl) rfl rfl S (y_extract rfl S rfl rfl) fun a S => ?_)
  refine wl_of (op_alloc (wn rfl) rfl rfl rfl S H Fzer25 fun b7 a w S H => ?_)
  refine wl_of (op_y (wn rfl) rfl rfl S (y_assign rfl S rfl) fun a S => ?_)
  refine wl_of (op_storea (wn rfl) rfl rfl S H rfl rfl (by rw [List.all_cons, List.all_cons, H.sl1 vl2, H.sl1 vr2]; rfl) Fsiz25 rfl (cs' := [_, _]) rfl fun a w S H => ?_)
  refine wl_of (op_y (wn rfl) rfl rfl S (y_assign rfl S rfl) fun a S => ?_)
  refine gl_nil ?_
  refine n_then ?_
  have S := ((((((((S.nil.cons S 0 rfl).cons S 1 rfl).cons S 2 rfl).cons S 4 rfl).cons S 3 rfl).cons S 5 rfl).cons S 7 rfl).cons S 6 rfl).cons S 8 rfl
  refine g_seq ?_
  -- region 5 law.go:16
  refine g_region ?_
  refine wl_of (op_buildSlice (wn rfl) rfl rfl rfl Try.underlying22 Finf23 S H (idx := [0]) rfl rfl rfl (z := [.slice none 0 0]) (by kernel_rfl) (cs := [_]) rfl fun b37 a w S H => ?_)
  refine wl_of (op_call (wn rfl) rfl rfl S (co_func rfl Try.call15 S rfl) (match_okI (.slice (some ⟨b37, 0, none⟩) 1 1) [(.slice none 0 0, [])] 5 _ (H.slb b37 [(.slice none 0 0, [])] encRow 1 rfl rfl (by simp [encRow]) (by simp)) (by intro p hp; simp only [List.mem_cons, List.not_mem_nil, or_false] at hp; subst hp; exact (IsSl.nil _ 1 encI)) (show validG (gr [(.slice none 0 0, [])]) 5 = true from (by kernel_rfl))) fun v w hc a S => ?_)
  obtain ⟨vg3, vl3, vr3, rfl, H1⟩ := hc
  have H := H.call3 H1 rfl rfl rfl
  have hg3 : (gotL (gr [(.slice none 0 0, [])]) 5).length = 1 := by kernel_rfl
  have hs3 := cover_small (show validG (gr [(.slice none 0 0, [])]) 5 = true from (by kernel_rfl))
  refine wl_of (op_y (wn rfl) rfl rfl S (y_move rfl S rfl) fun a S => ?_)
  refine wl_of (op_y (wn rfl) rfl rfl S (y_extract rfl S rfl rfl) fun a S => ?_)
  refine wl_of (op_y (wn rfl) rfl rfl S (y_extract rfl S rfl rfl) fun a S => ?_)
  refine wl_of (op_y (wn rfl) rfl rfl S (y_extract rfl S rfl rfl) fun a S => ?_)
  refine wl_of (op_alloc (wn rfl) rfl rfl rfl S H Fzer25 fun b10 a w S H => ?_)
  refine wl_of (op_y (wn rfl) rfl rfl S (y_assign rfl S rfl) fun a S => ?_)
  refine wl_of (op_storea (wn rfl) rfl rfl S H rfl rfl (by rw [List.all_cons, List.all_cons, H.sl1 vl3, H.sl1 vr3]; rfl) Fsiz25 rfl (cs' := [_, _]) rfl fun a w S H => ?_)
  refine wl_of (op_y (wn rfl) rfl rfl S (y_assign rfl S rfl) fun a S => ?_)
  refine gl_nil ?_
  refine n_then ?_
  have S := (((((((((((S.nil.cons S 0 rfl).cons S 1 rfl).cons S 2 rfl).cons S 4 rfl).cons S 3 rfl).cons S 5 rfl).cons S 7 rfl).cons S 6 rfl).cons S 8 rfl).cons S 10 rfl).cons S 9 rfl).cons S 11 rfl
  refine g_seq ?_
  -- region 6 law.go:17
  refine g_region ?_
  refine wl_of (op_buildSlice (wn rfl) rfl rfl rfl Try.underlying23 Finf3 S H (idx := [0]) rfl rfl rfl (z := [.int .i64 0]) (by kernel_rfl) (cs := [_]) rfl fun b43 a w S H => ?_)
  refine wl_of (op_buildSlice (wn rfl) rfl rfl rfl Try.underlying22 Finf23 S H (idx := [0]) rfl rfl rfl (z := [.slice none 0 0]) (by kernel_rfl) (cs := [_]) rfl fun b44 a w S H => ?_)
  refine wl_of (op_call (wn rfl) rfl rfl S (co_func rfl Try.call15 S rfl) (match_bad (.slice (some ⟨b44, 0, none⟩) 1 1) [(.slice (some ⟨b43, 0, none⟩) 1 1, [5])] 5 _ (H.slb b44 [(.slice (some ⟨b43, 0, none⟩) 1 1, [5])] encRow 1 rfl rfl (by simp [encRow]) (by simp)) (by intro p hp; simp only [List.mem_cons, List.not_mem_nil, or_false] at hp; subst hp; exact (H.slb b43 [5] encI 1 rfl rfl (by simp [encI]) (by decide))) (show validG (gr [(.slice (some ⟨b43, 0, none⟩) 1 1, [5])]) 5 = false from (by kernel_rfl))) fun v w hc a S => ?_)
  obtain ⟨rfl, he⟩ := hc
  have H := H.ext he
  refine wl_of (op_y (wn rfl) rfl rfl S (y_move rfl S rfl) fun a S => ?_)
  refine wl_of (op_y (wn rfl) rfl rfl S (y_extract rfl S rfl rfl) fun a S => ?_)
  refine wl_of (op_y (wn rfl) rfl rfl S (y_extract rfl S rfl rfl) fun a S => ?_)
  refine wl_of (op_y (wn rfl) rfl rfl S (y_extract rfl S rfl rfl) fun a S => ?_)
  refine wl_of (op_alloc (wn rfl) rfl rfl rfl S H Fzer25 fun b13 a w S H => ?_)
  refine wl_of (op_y (wn rfl) rfl rfl S (y_assign rfl S rfl) fun a S => ?_)
  refine wl_of (op_storea (wn rfl) rfl rfl S H rfl rfl rfl Fsiz25 rfl (cs' := [_, _]) rfl fun a w S H => ?_)
  refine wl_of (op_y (wn rfl) rfl rfl S (y_assign rfl S rfl) fun a S => ?_)
  refine gl_nil ?_
  refine n_then ?_
  have S := ((((((((((((S.nil.cons S 0 rfl).cons S 1 rfl).cons S 2 rfl).cons S 4 rfl).cons S 3 rfl).cons S 5 rfl).cons S 7 rfl).cons S 6 rfl).cons S 8 rfl).cons S 10 rfl).cons S 9 rfl).cons S 11 rfl).cons S 14 rfl
  refine g_seq ?_
  -- region 7 law.go:18
  refine g_region ?_
  refine wl_of (op_y (wn rfl) rfl rfl S (y_move rfl S rfl) fun a S => ?_)
  refine wl_of (op_y (wn rfl) rfl rfl S (y_bin rfl S rfl rfl rfl) fun a S => ?_)
  refine wl_of (op_y (wn rfl) rfl rfl S (y_move rfl S rfl) fun a S => ?_)
  refine wl_of (op_y (wg' 51 rfl rfl S rfl (by kernel_rfl) rfl) rfl rfl S (y_move rfl S rfl) fun a S => ?_)
  refine wl_of (op_y (wg' 51 rfl rfl S rfl (by kernel_rfl) rfl) rfl rfl S (y_bin rfl S rfl rfl rfl) fun a S => ?_)
  refine wl_of (op_y (wn rfl) rfl rfl S (y_and' rfl (by kernel_rfl) S rfl rfl) fun a S => ?_)
  refine wl_of (op_y (wn rfl) rfl rfl S (y_move rfl S rfl) fun a S => ?_)
  refine wl_of (op_y (wg' 55 rfl rfl S rfl (by kernel_rfl) rfl) rfl rfl S (y_move rfl S rfl) fun a S => ?_)
  refine wl_of (op_y (wg' 55 rfl rfl S rfl (by kernel_rfl) rfl) rfl rfl S (y_bin rfl S rfl rfl rfl) fun a S => ?_)
  refine wl_of (op_y (wn rfl) rfl rfl S (y_and' rfl (by kernel_rfl) S rfl rfl) fun a S => ?_)
  refine wl_of (op_y (wn rfl) rfl rfl S (y_move rfl S rfl) fun a S => ?_)
  refine wl_of (op_y (wg' 59 rfl rfl S rfl (by kernel_rfl) rfl) rfl rfl S (y_move rfl S rfl) fun a S => ?_)
  refine wl_of (op_y (wg' 59 rfl rfl S rfl (by kernel_rfl) rfl) rfl rfl S (y_bin rfl S rfl rfl rfl) fun a S => ?_)
  refine wl_of (op_y (wn rfl) rfl rfl S (y_and' rfl (by kernel_rfl) S rfl rfl) fun a S => ?_)
  refine wl_of (op_y (wn rfl) rfl rfl S (y_move rfl S rfl) fun a S => ?_)
  refine wl_of (op_y (wg' 63 rfl rfl S rfl (by kernel_rfl) rfl) rfl rfl S (y_move rfl S rfl) fun a S => ?_)
  refine wl_of (op_y (wg' 63 rfl rfl S rfl (by kernel_rfl) rfl) rfl rfl S (y_move rfl S rfl) fun a S => ?_)
  refine wl_of (op_call (wg' 63 rfl rfl S rfl (by kernel_rfl) rfl) rfl rfl S (co_func rfl Try.call17 S rfl) (size_spec (.slice (some ⟨b19, 0, none⟩) 2 2) [(.slice (some ⟨b17, 0, none⟩) 2 2, [0, 1]), (.slice (some ⟨b18, 0, none⟩) 1 1, [0])] vg1 (gotL (gr [(.slice (some ⟨b17, 0, none⟩) 2 2, [0, 1]), (.slice (some ⟨b18, 0, none⟩) 1 1, [0])]) 2) _ (H.slb b19 [(.slice (some ⟨b17, 0, none⟩) 2 2, [0, 1]), (.slice (some ⟨b18, 0, none⟩) 1 1, [0])] encRow 1 rfl rfl (by simp [encRow]) (by simp)) (by intro p hp; simp only [List.mem_cons, List.not_mem_nil, or_false] at hp; rcases hp with rfl | rfl; exact (H.slb b17 [0, 1] encI 1 rfl rfl (by simp [encI]) (by decide)); exact (H.slb b18 [0] encI 1 rfl rfl (by simp [encI]) (by decide))) (H.sl _)) fun v w hc a S => ?_)
  obtain ⟨rfl, he⟩ := hc
  have H := H.ext he
  refine wl_of (op_y (wg' 63 rfl rfl S rfl (by kernel_rfl) rfl) rfl rfl S (y_bin rfl S rfl rfl rfl) fun a S => ?_)
  refine wl_of (op_y (wn rfl) rfl rfl S (y_and' rfl (by kernel_rfl) S rfl rfl) fun a S => ?_)
  refine wl_of (op_y (wn rfl) rfl rfl S (y_move rfl S rfl) fun a S => ?_)
  refine wl_of (op_y (wg' 69 rfl rfl S rfl (by kernel_rfl) rfl) rfl rfl S (y_move rfl S rfl) fun a S => ?_)
  refine wl_of (op_y (wg' 69 rfl rfl S rfl (by kernel_rfl) rfl) rfl rfl S (y_move rfl S rfl) fun a S => ?_)
  refine wl_of (op_call (wg' 69 rfl rfl S rfl (by kernel_rfl) rfl) rfl rfl S (co_func rfl Try.call17 S rfl) (size_spec (.slice (some ⟨b23, 0, none⟩) 3 3) [(.slice (some ⟨b20, 0, none⟩) 1 1, [0]), (.slice (some ⟨b21, 0, none⟩) 1 1, [0]), (.slice (some ⟨b22, 0, none⟩) 2 2, [0, 1])] vg2 (gotL (gr [(.slice (some ⟨b20, 0, none⟩) 1 1, [0]), (.slice (some ⟨b21, 0, none⟩) 1 1, [0]), (.slice (some ⟨b22, 0, none⟩) 2 2, [0, 1])]) 2) _ (H.slb b23 [(.slice (some ⟨b20, 0, none⟩) 1 1, [0]), (.slice (some ⟨b21, 0, none⟩) 1 1, [0]), (.slice (some ⟨b22, 0, none⟩) 2 2, [0, 1])] encRow 1 rfl rfl (by simp [encRow]) (by simp)) (by intro p hp; simp only [List.mem_cons, List.not_mem_nil, or_false] at hp; rcases hp with rfl | rfl | rfl; exact (H.slb b20 [0] encI 1 rfl rfl (by simp [encI]) (by decide)); exact (H.slb b21 [0] encI 1 rfl rfl (by simp [encI]) (by decide)); exact (H.slb b22 [0, 1] encI 1 rfl rfl (by simp [encI]) (by decide))) (H.sl _)) fun v w hc a S => ?_)
  obtain ⟨rfl, he⟩ := hc
  have H := H.ext he
  refine wl_of (op_y (wg' 69 rfl rfl S rfl (by kernel_rfl) rfl) rfl rfl S (y_bin rfl S rfl rfl rfl) fun a S => ?_)
  refine wl_of (op_y (wn rfl) rfl rfl S (y_and' rfl (by kernel_rfl) S rfl rfl) fun a S => ?_)
  refine wl_of (op_y (wn rfl) rfl rfl S (y_move rfl S rfl) fun a S => ?_)
  refine wl_of (op_y (wg' 75 rfl rfl S rfl (by kernel_rfl) rfl) rfl rfl S (y_move rfl S rfl) fun a S => ?_)
  refine wl_of (op_y (wg' 75 rfl rfl S rfl (by kernel_rfl) rfl) rfl rfl S (y_lens rfl Try.underlying23 S H rfl) fun a S => ?_)
  refine wl_of (op_y (wg' 75 rfl rfl S rfl (by kernel_rfl) rfl) rfl rfl S (y_bin rfl S rfl rfl rfl) fun a S => ?_)
  refine wl_of (op_y (wn rfl) rfl rfl S (y_and' rfl (by kernel_rfl) S rfl rfl) fun a S => ?_)
  refine wl_of (op_y (wn rfl) rfl rfl S (y_move rfl S rfl) fun a S => ?_)
  refine wl_of (op_y (wg' 80 rfl rfl S rfl (by kernel_rfl) rfl) rfl rfl S (y_move rfl S rfl) fun a S => ?_)
  refine wl_of (op_y (wg' 80 rfl rfl S rfl (by kernel_rfl) rfl) rfl rfl S (y_iaddrs rfl Try.underlying23 Fsiz3 S H rfl rfl (by first | assumption | omega | (simp only [List.length_append, List.length_take, List.length_drop, List.length_replicate, List.length_set, List.length_map, List.length_cons, List.length_nil]; omega))) fun a S => ?_)
  refine wl_of (op_y (wg' 80 rfl rfl S rfl (by kernel_rfl) rfl) rfl rfl S (y_loadsD _ (-1) rfl Fsca3 S H rfl (by rw [hg3]; decide) rfl) fun a S => ?_)
  refine wl_of (op_y (wg' 80 rfl rfl S rfl (by kernel_rfl) rfl) rfl rfl S (y_bin rfl S rfl rfl rfl) fun a S => ?_)
  refine wl_of (op_y (wn rfl) rfl rfl S (y_and' rfl (by kernel_rfl) S rfl rfl) fun a S => ?_)
  refine wl_of (op_y (wn rfl) rfl rfl S (y_move rfl S rfl) fun a S => ?_)
  refine wl_of (op_y (wg' 86 rfl rfl S rfl (by kernel_rfl) rfl) rfl rfl S (y_faddrb rfl Ffo25_0 S rfl) fun a S => ?_)
  refine wl_of (op_y (wg' 86 rfl rfl S rfl (by kernel_rfl) rfl) rfl rfl S (y_load rfl Fsca23 S H rfl rfl) fun a S => ?_)
  refine wl_of (op_y (wg' 86 rfl rfl S rfl (by kernel_rfl) rfl) rfl rfl S (y_lens rfl Try.underlying23 S H rfl) fun a S => ?_)
  refine wl_of (op_y (wg' 86 rfl rfl S rfl (by kernel_rfl) rfl) rfl rfl S (y_faddrb rfl Ffo25_1 S rfl) fun a S => ?_)
  refine wl_of (op_y (wg' 86 rfl rfl S rfl (by kernel_rfl) rfl) rfl rfl S (y_load rfl Fsca23 S H rfl rfl) fun a S => ?_)
  refine wl_of (op_y (wg' 86 rfl rfl S rfl (by kernel_rfl) rfl) rfl rfl S (y_lens rfl Try.underlying23 S H rfl) fun a S => ?_)
  refine wl_of (op_y (wg' 86 rfl rfl S rfl (by kernel_rfl) rfl) rfl rfl S (y_add rfl S rfl rfl (by omega)) fun a S => ?_)
  refine wl_of (op_y (wg' 86 rfl rfl S rfl (by kernel_rfl) rfl) rfl rfl S (y_bin rfl S rfl rfl rfl) fun a S => ?_)
  refine wl_of (op_y (wn rfl) rfl rfl S (y_and' rfl (by kernel_rfl) S rfl rfl) fun a S => ?_)
  refine wl_of (op_y (wn rfl) rfl rfl S (y_assign rfl S rfl) fun a S => ?_)
  refine gl_nil ?_
  refine n_then ?_
  have S := (((((((S.nil.cons S 0 rfl).cons S 1 rfl).cons S 2 rfl).cons S 4 rfl).cons S 3 rfl).cons S 7 rfl).cons S 6 rfl).cons S 15 rfl
  refine g_seq ?_
  -- region 8 law.go:19
  refine g_region ?_
  refine wl_of (op_y (wn rfl) rfl rfl S (y_move rfl S rfl) fun a S => ?_)
  refine wl_of (op_y (wn rfl) rfl rfl S (y_move rfl S rfl) fun a S => ?_)
  refine wl_of (op_y (wn rfl) rfl rfl S (y_load0 rfl S H rfl (by exact Fagg25)) fun a S => ?_)
  refine wl_of (op_call (wn rfl) rfl rfl S (co_func rfl Try.call13 S rfl) (check_spec (.slice (some ⟨b19, 0, none⟩) 2 2) [(.slice (some ⟨b17, 0, none⟩) 2 2, [0, 1]), (.slice (some ⟨b18, 0, none⟩) 1 1, [0])] 2 vg1 (gotL (gr [(.slice (some ⟨b17, 0, none⟩) 2 2, [0, 1]), (.slice (some ⟨b18, 0, none⟩) 1 1, [0])]) 2) vl1 vr1 (leftL (gr [(.slice (some ⟨b17, 0, none⟩) 2 2, [0, 1]), (.slice (some ⟨b18, 0, none⟩) 1 1, [0])]) 2) (rightL (gr [(.slice (some ⟨b17, 0, none⟩) 2 2, [0, 1]), (.slice (some ⟨b18, 0, none⟩) 1 1, [0])]) 2) _ (H.slb b19 [(.slice (some ⟨b17, 0, none⟩) 2 2, [0, 1]), (.slice (some ⟨b18, 0, none⟩) 1 1, [0])] encRow 1 rfl rfl (by simp [encRow]) (by simp)) (by intro p hp; simp only [List.mem_cons, List.not_mem_nil, or_false] at hp; rcases hp with rfl | rfl; exact (H.slb b17 [0, 1] encI 1 rfl rfl (by simp [encI]) (by decide)); exact (H.slb b18 [0] encI 1 rfl rfl (by simp [encI]) (by decide))) (H.sl vg1) (H.sl vl1) (H.sl vr1) (H.cap vl1) (cover_small (show validG (gr [(.slice (some ⟨b17, 0, none⟩) 2 2, [0, 1]), (.slice (some ⟨b18, 0, none⟩) 1 1, [0])]) 2 = true from (by kernel_rfl))).1 (cover_small (show validG (gr [(.slice (some ⟨b17, 0, none⟩) 2 2, [0, 1]), (.slice (some ⟨b18, 0, none⟩) 1 1, [0])]) 2 = true from (by kernel_rfl))).2) fun v w hc a S => ?_)
  obtain ⟨rfl, he⟩ := hc
  have H := H.ext he
  refine wl_of (op_y (wn rfl) rfl rfl S (y_move rfl S rfl) fun a S => ?_)
  refine wl_of (op_y (wg' 100 rfl rfl S rfl (by kernel_rfl) rfl) rfl rfl S (y_move rfl S rfl) fun a S => ?_)
  refine wl_of (op_y (wg' 100 rfl rfl S rfl (by kernel_rfl) rfl) rfl rfl S (y_move rfl S rfl) fun a S => ?_)
  refine wl_of (op_y (wg' 100 rfl rfl S rfl (by kernel_rfl) rfl) rfl rfl S (y_load0 rfl S H rfl (by exact Fagg25)) fun a S => ?_)
  refine wl_of (op_call (wg' 100 rfl rfl S rfl (by kernel_rfl) rfl) rfl rfl S (co_func rfl Try.call13 S rfl) (check_spec (.slice (some ⟨b23, 0, none⟩) 3 3) [(.slice (some ⟨b20, 0, none⟩) 1 1, [0]), (.slice (some ⟨b21, 0, none⟩) 1 1, [0]), (.slice (some ⟨b22, 0, none⟩) 2 2, [0, 1])] 2 vg2 (gotL (gr [(.slice (some ⟨b20, 0, none⟩) 1 1, [0]), (.slice (some ⟨b21, 0, none⟩) 1 1, [0]), (.slice (some ⟨b22, 0, none⟩) 2 2, [0, 1])]) 2) vl2 vr2 (leftL (gr [(.slice (some ⟨b20, 0, none⟩) 1 1, [0]), (.slice (some ⟨b21, 0, none⟩) 1 1, [0]), (.slice (some ⟨b22, 0, none⟩) 2 2, [0, 1])]) 2) (rightL (gr [(.slice (some ⟨b20, 0, none⟩) 1 1, [0]), (.slice (some ⟨b21, 0, none⟩) 1 1, [0]), (.slice (some ⟨b22, 0, none⟩) 2 2, [0, 1])]) 2) _ (H.slb b23 [(.slice (some ⟨b20, 0, none⟩) 1 1, [0]), (.slice (some ⟨b21, 0, none⟩) 1 1, [0]), (.slice (some ⟨b22, 0, none⟩) 2 2, [0, 1])] encRow 1 rfl rfl (by simp [encRow]) (by simp)) (by intro p hp; simp only [List.mem_cons, List.not_mem_nil, or_false] at hp; rcases hp with rfl | rfl | rfl; exact (H.slb b20 [0] encI 1 rfl rfl (by simp [encI]) (by decide)); exact (H.slb b21 [0] encI 1 rfl rfl (by simp [encI]) (by decide)); exact (H.slb b22 [0, 1] encI 1 rfl rfl (by simp [encI]) (by decide))) (H.sl vg2) (H.sl vl2) (H.sl vr2) (H.cap vl2) (cover_small (show validG (gr [(.slice (some ⟨b20, 0, none⟩) 1 1, [0]), (.slice (some ⟨b21, 0, none⟩) 1 1, [0]), (.slice (some ⟨b22, 0, none⟩) 2 2, [0, 1])]) 2 = true from (by kernel_rfl))).1 (cover_small (show validG (gr [(.slice (some ⟨b20, 0, none⟩) 1 1, [0]), (.slice (some ⟨b21, 0, none⟩) 1 1, [0]), (.slice (some ⟨b22, 0, none⟩) 2 2, [0, 1])]) 2 = true from (by kernel_rfl))).2) fun v w hc a S => ?_)
  obtain ⟨rfl, he⟩ := hc
  have H := H.ext he
  refine wl_of (op_y (wn rfl) rfl rfl S (y_and' rfl (by kernel_rfl) S rfl rfl) fun a S => ?_)
  refine wl_of (op_y (wn rfl) rfl rfl S (y_move rfl S rfl) fun a S => ?_)
  refine wl_of (op_y (wg' 106 rfl rfl S rfl (by kernel_rfl) rfl) rfl rfl S (y_move rfl S rfl) fun a S => ?_)
  refine wl_of (op_buildSlice (wg' 106 rfl rfl S rfl (by kernel_rfl) rfl) rfl rfl rfl Try.underlying23 Finf3 S H (idx := [0, 1, 2]) rfl rfl rfl (z := [.int .i64 0, .int .i64 0, .int .i64 0]) (by kernel_rfl) (cs := [_, _, _]) rfl fun b108 a w S H => ?_)
  refine wl_of (op_buildSlice (wg' 106 rfl rfl S rfl (by kernel_rfl) rfl) rfl rfl rfl Try.underlying23 Finf3 S H (idx := [0, 1]) rfl rfl rfl (z := [.int .i64 0, .int .i64 0]) (by kernel_rfl) (cs := [_, _]) rfl fun b109 a w S H => ?_)
  refine wl_of (op_y (wg' 106 rfl rfl S rfl (by kernel_rfl) rfl) rfl rfl S (y_buildf rfl Fbld25 S rfl (idx := [1]) rfl (cs := [.slice none 0 0, .slice (some ⟨b109, 0, none⟩) 2 2]) (by kernel_rfl)) fun a S => ?_)
  refine wl_of (op_call (wg' 106 rfl rfl S rfl (by kernel_rfl) rfl) rfl rfl S (co_func rfl Try.call13 S rfl) (check_spec (.slice (some ⟨b23, 0, none⟩) 3 3) [(.slice (some ⟨b20, 0, none⟩) 1 1, [0]), (.slice (some ⟨b21, 0, none⟩) 1 1, [0]), (.slice (some ⟨b22, 0, none⟩) 2 2, [0, 1])] 2 (.slice (some ⟨b108, 0, none⟩) 3 3) [0, (-1), 1] (.slice none 0 0) (.slice (some ⟨b109, 0, none⟩) 2 2) [] [0, 1] _ (H.slb b23 [(.slice (some ⟨b20, 0, none⟩) 1 1, [0]), (.slice (some ⟨b21, 0, none⟩) 1 1, [0]), (.slice (some ⟨b22, 0, none⟩) 2 2, [0, 1])] encRow 1 rfl rfl (by simp [encRow]) (by simp)) (by intro p hp; simp only [List.mem_cons, List.not_mem_nil, or_false] at hp; rcases hp with rfl | rfl | rfl; exact (H.slb b20 [0] encI 1 rfl rfl (by simp [encI]) (by decide)); exact (H.slb b21 [0] encI 1 rfl rfl (by simp [encI]) (by decide)); exact (H.slb b22 [0, 1] encI 1 rfl rfl (by simp [encI]) (by decide))) (H.slb b108 [0, (-1), 1] encI 1 rfl rfl (by simp [encI]) (by decide)) (IsSl.nil _ 1 encI) (H.slb b109 [0, 1] encI 1 rfl rfl (by simp [encI]) (by decide)) (Nat.le_refl _) (by decide) (by decide)) fun v w hc a S => ?_)
  obtain ⟨rfl, he⟩ := hc
  have H := H.ext he
  refine wl_of (op_y (wn rfl) rfl rfl S (y_and' rfl (by kernel_rfl) S rfl rfl) fun a S => ?_)
  refine wl_of (op_y (wn rfl) rfl rfl S (y_move rfl S rfl) fun a S => ?_)
  refine wl_of (op_y (wg' 113 rfl rfl S rfl (by kernel_rfl) rfl) rfl rfl S (y_move rfl S rfl) fun a S => ?_)
  refine wl_of (op_buildSlice (wg' 113 rfl rfl S rfl (by kernel_rfl) rfl) rfl rfl rfl Try.underlying23 Finf3 S H (idx := [0, 1, 2]) rfl rfl rfl (z := [.int .i64 0, .int .i64 0, .int .i64 0]) (by kernel_rfl) (cs := [_, _, _]) rfl fun b115 a w S H => ?_)
  refine wl_of (op_buildSlice (wg' 113 rfl rfl S rfl (by kernel_rfl) rfl) rfl rfl rfl Try.underlying23 Finf3 S H (idx := [0]) rfl rfl rfl (z := [.int .i64 0]) (by kernel_rfl) (cs := [_]) rfl fun b116 a w S H => ?_)
  refine wl_of (op_buildSlice (wg' 113 rfl rfl S rfl (by kernel_rfl) rfl) rfl rfl rfl Try.underlying23 Finf3 S H (idx := [0]) rfl rfl rfl (z := [.int .i64 0]) (by kernel_rfl) (cs := [_]) rfl fun b117 a w S H => ?_)
  refine wl_of (op_y (wg' 113 rfl rfl S rfl (by kernel_rfl) rfl) rfl rfl S (y_buildf rfl Fbld25 S rfl (idx := [0, 1]) rfl (cs := [.slice (some ⟨b116, 0, none⟩) 1 1, .slice (some ⟨b117, 0, none⟩) 1 1]) (by kernel_rfl)) fun a S => ?_)
  refine wl_of (op_call (wg' 113 rfl rfl S rfl (by kernel_rfl) rfl) rfl rfl S (co_func rfl Try.call13 S rfl) (check_spec (.slice (some ⟨b23, 0, none⟩) 3 3) [(.slice (some ⟨b20, 0, none⟩) 1 1, [0]), (.slice (some ⟨b21, 0, none⟩) 1 1, [0]), (.slice (some ⟨b22, 0, none⟩) 2 2, [0, 1])] 2 (.slice (some ⟨b115, 0, none⟩) 3 3) [(-1), 0, 1] (.slice (some ⟨b116, 0, none⟩) 1 1) (.slice (some ⟨b117, 0, none⟩) 1 1) [2] [0] _ (H.slb b23 [(.slice (some ⟨b20, 0, none⟩) 1 1, [0]), (.slice (some ⟨b21, 0, none⟩) 1 1, [0]), (.slice (some ⟨b22, 0, none⟩) 2 2, [0, 1])] encRow 1 rfl rfl (by simp [encRow]) (by simp)) (by intro p hp; simp only [List.mem_cons, List.not_mem_nil, or_false] at hp; rcases hp with rfl | rfl | rfl; exact (H.slb b20 [0] encI 1 rfl rfl (by simp [encI]) (by decide)); exact (H.slb b21 [0] encI 1 rfl rfl (by simp [encI]) (by decide)); exact (H.slb b22 [0, 1] encI 1 rfl rfl (by simp [encI]) (by decide))) (H.slb b115 [(-1), 0, 1] encI 1 rfl rfl (by simp [encI]) (by decide)) (H.slb b116 [2] encI 1 rfl rfl (by simp [encI]) (by decide)) (H.slb b117 [0] encI 1 rfl rfl (by simp [encI]) (by decide)) (Nat.le_refl _) (by decide) (by decide)) fun v w hc a S => ?_)
  obtain ⟨rfl, he⟩ := hc
  have H := H.ext he
  refine wl_of (op_y (wn rfl) rfl rfl S (y_and' rfl (by kernel_rfl) S rfl rfl) fun a S => ?_)
  refine wl_of (op_y (wn rfl) rfl rfl S (y_assign rfl S rfl) fun a S => ?_)
  refine gl_nil ?_
  refine n_then ?_
  have S := (((S.nil.cons S 0 rfl).cons S 2 rfl).cons S 15 rfl).cons S 16 rfl
  refine g_seq ?_
  -- region 9 law.go:20
  refine g_region ?_
  refine wl_of (op_y (wn rfl) rfl rfl S (y_move rfl S rfl) fun a S => ?_)
  refine wl_of (op_y (wn rfl) rfl rfl S (y_move rfl S rfl) fun a S => ?_)
  refine wl_of (op_y (wg' 122 rfl rfl S rfl (by kernel_rfl) rfl) rfl rfl S (y_move rfl S rfl) fun a S => ?_)
  refine wl_of (op_y (wn rfl) rfl rfl S (y_and' rfl (by kernel_rfl) S rfl rfl) fun a S => ?_)
  refine wl_of (op_y (wn rfl) rfl rfl S (y_move rfl S rfl) fun a S => ?_)
  refine wl_of (op_y (wg' 125 rfl rfl S rfl (by kernel_rfl) rfl) rfl rfl S (y_move rfl S rfl) fun a S => ?_)
  refine wl_of (op_buildSlice (wg' 125 rfl rfl S rfl (by kernel_rfl) rfl) rfl rfl rfl Try.underlying23 Finf3 S H (idx := [0, 1, 2]) rfl rfl rfl (z := [.int .i64 0, .int .i64 0, .int .i64 0]) (by kernel_rfl) (cs := [_, _, _]) rfl fun b127 a w S H => ?_)
  refine wl_of (op_buildSlice (wg' 125 rfl rfl S rfl (by kernel_rfl) rfl) rfl rfl rfl Try.underlying23 Finf3 S H (idx := [0, 1]) rfl rfl rfl (z := [.int .i64 0, .int .i64 0]) (by kernel_rfl) (cs := [_, _]) rfl fun b128 a w S H => ?_)
  refine wl_of (op_y (wg' 125 rfl rfl S rfl (by kernel_rfl) rfl) rfl rfl S (y_buildf rfl Fbld25 S rfl (idx := [1]) rfl (cs := [.slice none 0 0, .slice (some ⟨b128, 0, none⟩) 2 2]) (by kernel_rfl)) fun a S => ?_)
  refine wl_of (op_call (wg' 125 rfl rfl S rfl (by kernel_rfl) rfl) rfl rfl S (co_func rfl Try.call13 S rfl) (check_spec (.slice (some ⟨b23, 0, none⟩) 3 3) [(.slice (some ⟨b20, 0, none⟩) 1 1, [0]), (.slice (some ⟨b21, 0, none⟩) 1 1, [0]), (.slice (some ⟨b22, 0, none⟩) 2 2, [0, 1])] 2 (.slice (some ⟨b127, 0, none⟩) 3 3) [0, 0, 1] (.slice none 0 0) (.slice (some ⟨b128, 0, none⟩) 2 2) [] [0, 1] _ (H.slb b23 [(.slice (some ⟨b20, 0, none⟩) 1 1, [0]), (.slice (some ⟨b21, 0, none⟩) 1 1, [0]), (.slice (some ⟨b22, 0, none⟩) 2 2, [0, 1])] encRow 1 rfl rfl (by simp [encRow]) (by simp)) (by intro p hp; simp only [List.mem_cons, List.not_mem_nil, or_false] at hp; rcases hp with rfl | rfl | rfl; exact (H.slb b20 [0] encI 1 rfl rfl (by simp [encI]) (by decide)); exact (H.slb b21 [0] encI 1 rfl rfl (by simp [encI]) (by decide)); exact (H.slb b22 [0, 1] encI 1 rfl rfl (by simp [encI]) (by decide))) (H.slb b127 [0, 0, 1] encI 1 rfl rfl (by simp [encI]) (by decide)) (IsSl.nil _ 1 encI) (H.slb b128 [0, 1] encI 1 rfl rfl (by simp [encI]) (by decide)) (Nat.le_refl _) (by decide) (by decide)) fun v w hc a S => ?_)
  obtain ⟨rfl, he⟩ := hc
  have H := H.ext he
  refine wl_of (op_y (wg' 125 rfl rfl S rfl (by kernel_rfl) rfl) rfl rfl S (y_not rfl S rfl) fun a S => ?_)
  refine wl_of (op_y (wn rfl) rfl rfl S (y_and' rfl (by kernel_rfl) S rfl rfl) fun a S => ?_)
  refine wl_of (op_y (wn rfl) rfl rfl S (y_move rfl S rfl) fun a S => ?_)
  refine wl_of (op_y (wg' 133 rfl rfl S rfl (by kernel_rfl) rfl) rfl rfl S (y_move rfl S rfl) fun a S => ?_)
  refine wl_of (op_buildSlice (wg' 133 rfl rfl S rfl (by kernel_rfl) rfl) rfl rfl rfl Try.underlying23 Finf3 S H (idx := [0, 1, 2]) rfl rfl rfl (z := [.int .i64 0, .int .i64 0, .int .i64 0]) (by kernel_rfl) (cs := [_, _, _]) rfl fun b135 a w S H => ?_)
  refine wl_of (op_buildSlice (wg' 133 rfl rfl S rfl (by kernel_rfl) rfl) rfl rfl rfl Try.underlying23 Finf3 S H (idx := [0]) rfl rfl rfl (z := [.int .i64 0]) (by kernel_rfl) (cs := [_]) rfl fun b136 a w S H => ?_)
  refine wl_of (op_y (wg' 133 rfl rfl S rfl (by kernel_rfl) rfl) rfl rfl S (y_buildf rfl Fbld25 S rfl (idx := [1]) rfl (cs := [.slice none 0 0, .slice (some ⟨b136, 0, none⟩) 1 1]) (by kernel_rfl)) fun a S => ?_)
  refine wl_of (op_call (wg' 133 rfl rfl S rfl (by kernel_rfl) rfl) rfl rfl S (co_func rfl Try.call13 S rfl) (check_spec (.slice (some ⟨b23, 0, none⟩) 3 3) [(.slice (some ⟨b20, 0, none⟩) 1 1, [0]), (.slice (some ⟨b21, 0, none⟩) 1 1, [0]), (.slice (some ⟨b22, 0, none⟩) 2 2, [0, 1])] 2 (.slice (some ⟨b135, 0, none⟩) 3 3) [0, (-1), (-1)] (.slice none 0 0) (.slice (some ⟨b136, 0, none⟩) 1 1) [] [0] _ (H.slb b23 [(.slice (some ⟨b20, 0, none⟩) 1 1, [0]), (.slice (some ⟨b21, 0, none⟩) 1 1, [0]), (.slice (some ⟨b22, 0, none⟩) 2 2, [0, 1])] encRow 1 rfl rfl (by simp [encRow]) (by simp)) (by intro p hp; simp only [List.mem_cons, List.not_mem_nil, or_false] at hp; rcases hp with rfl | rfl | rfl; exact (H.slb b20 [0] encI 1 rfl rfl (by simp [encI]) (by decide)); exact (H.slb b21 [0] encI 1 rfl rfl (by simp [encI]) (by decide)); exact (H.slb b22 [0, 1] encI 1 rfl rfl (by simp [encI]) (by decide))) (H.slb b135 [0, (-1), (-1)] encI 1 rfl rfl (by simp [encI]) (by decide)) (IsSl.nil _ 1 encI) (H.slb b136 [0] encI 1 rfl rfl (by simp [encI]) (by decide)) (Nat.le_refl _) (by decide) (by decide)) fun v w hc a S => ?_)
  obtain ⟨rfl, he⟩ := hc
  have H := H.ext he
  refine wl_of (op_y (wg' 133 rfl rfl S rfl (by kernel_rfl) rfl) rfl rfl S (y_not rfl S rfl) fun a S => ?_)
  refine wl_of (op_y (wn rfl) rfl rfl S (y_and' rfl (by kernel_rfl) S rfl rfl) fun a S => ?_)
  refine wl_of (op_y (wn rfl) rfl rfl S (y_assign rfl S rfl) fun a S => ?_)
  refine gl_nil ?_
  refine n_then ?_
  have S := S.nil.cons S 0 rfl
  refine g_ret ?_
  refine ret1 rfl S rfl ?_
  exact ⟨by kernel_rfl, H.toExt⟩

end Go.Proofs.Ytaiohhcjbdjgfaa
