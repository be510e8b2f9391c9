/- The walks. No condition. -/
import Derived.Test.YtbncnncpeiiliaaChecked
import Derived.Test.YtbncnncpeiiliaaGwRows
import Derived.Test.YtbncnncpeiiliaaFacts
import Derived.Test.YtbncnncpeiiliaaPlain
import Derived.Test.YtbncnncpeiiliaaW2
namespace Go.Proofs.Ytbncnncpeiiliaa
open Go Go.Gw
set_option linter.unusedVariables false
set_option linter.unusedSimpArgs false
/-- foyer/foyerlaw39.seat -/
theorem seat_spec (k l v wi : Int) (w0 : World) :
    Ret Try.prog 15 #[.int .i64 k, .int .i64 l, .int .i64 v, .int .i64 wi] w0 (fun u w => u = .agg (Pl.enc ⟨k, l, 0, 0, 0, 0, 0, v, wi⟩).toArray ∧ Ext w0 w) := by
  refine ret_of_wp (nt := 14) Try.func15 rfl rfl rfl (fl := [(0, .int .i64 k), (1, .int .i64 l), (2, .int .i64 v), (3, .int .i64 wi)]) rfl (fun a S => ?_)
  have H := HSat.start w0
  refine g_seq ?_
  -- region 0 law.go:11
  refine g_region ?_
  refine wl_of (op_alloc (wn rfl) rfl rfl rfl S H Fzer26 fun b8 a w S H => ?_)
  refine gl_nil ?_
  refine n_then ?_
  refine g_seq ?_
  -- region 1 law.go:12
  refine g_region ?_
  refine wl_of (op_y (wn rfl) rfl rfl S (y_move rfl S rfl) fun a S => ?_)
  refine wl_of (op_y (wn rfl) rfl rfl S (y_move rfl S rfl) fun a S => ?_)
  refine wl_of (op_y (wn rfl) rfl rfl S (y_move rfl S rfl) fun a S => ?_)
  refine wl_of (op_y (wn rfl) rfl rfl S (y_move rfl S rfl) fun a S => ?_)
  refine wl_of (op_y (wn rfl) rfl rfl S (y_buildf rfl Fbld26 S rfl (idx := [0, 1, 7, 8]) rfl (cs := [.int .i64 k, .int .i64 l, .int .i64 0, .int .i64 0, .int .i64 0, .int .i64 0, .int .i64 0, .int .i64 v, .int .i64 wi]) (by kernel_rfl)) fun a S => ?_)
  refine wl_of (op_storea (wn rfl) rfl rfl S H rfl rfl rfl Fsiz26 rfl (cs' := [_, _, _, _, _, _, _, _, _]) rfl fun a w S H => ?_)
  refine gl_nil ?_
  refine n_then ?_
  have S := S.nil.cons S 8 rfl
  refine g_ret ?_
  refine retc rfl S H rfl (by exact Fagg26) ?_
  exact ⟨rfl, H.toExt⟩
set_option maxHeartbeats 2000000 in
/-- foyer/foyerlaw39.head -/
theorem head_spec (w0 : World) :
    Ret Try.prog 8 #[] w0 (fun v w => v = .bool true ∧ Ext w0 w) := by
  refine ret_of_wp (nt := 54) Try.func8 rfl rfl rfl (fl := []) rfl (fun a S => ?_)
  have H := HSat.start w0
  refine g_seq ?_
  -- region 0 law.go:16
  refine g_region ?_
  refine wl_of (op_y (wn rfl) rfl rfl S (y_assign rfl S rfl) fun a S => ?_)
  refine gl_nil ?_
  refine n_then ?_
  refine g_seq ?_
  -- region 1 law.go:17
  refine g_region ?_
  refine wl_of (op_call (wn rfl) rfl rfl S (co_func rfl Try.call15 S rfl) (seat_spec _ _ _ _ _) fun v w hc a S => ?_)
  obtain ⟨rfl, he⟩ := hc
  have H := H.ext he
  refine wl_of (op_call (wn rfl) rfl rfl S (co_func rfl Try.call15 S rfl) (seat_spec _ _ _ _ _) fun v w hc a S => ?_)
  obtain ⟨rfl, he⟩ := hc
  have H := H.ext he
  refine wl_of (op_alloc (wn rfl) rfl rfl rfl S H Fzer26 fun b1 a w S H => ?_)
  refine wl_of (op_alloc (wn rfl) rfl rfl rfl S H Fzer26 fun b2 a w S H => ?_)
  refine wl_of (op_storea (wn rfl) rfl rfl S H rfl rfl rfl Fsiz26 rfl (cs' := [_, _, _, _, _, _, _, _, _]) rfl fun a w S H => ?_)
  refine wl_of (op_storea (wn rfl) rfl rfl S H rfl rfl rfl Fsiz26 rfl (cs' := [_, _, _, _, _, _, _, _, _]) rfl fun a w S H => ?_)
  refine gl_nil ?_
  refine n_then ?_
  refine g_seq ?_
  -- region 2 DRAWS law.go:18
  refine region_st (loud := []) (tails := []) (free := []) [0, 1, 2, 3, 4, 5, 6, 7, 8, 9, 10, 11, 12, 13, 14, 15, 16, 17, 18, 19, 20, 21, 22, 23, 24, 25, 26] [] Fmo (by kernel_rfl) (by kernel_rfl) rfl H ?_
  refine m_w rfl rfl (wn rfl) rfl rfl S (fun w H => y_load0 rfl S H rfl (by exact Fagg26)) fun a S => ?_
  refine m_w rfl rfl (wn rfl) rfl rfl S (fun w H => y_load0 rfl S H rfl (by exact Fagg26)) fun a S => ?_
  refine m_c rfl rfl (wn rfl) rfl rfl S (fun w => co_func rfl Try.call9 S rfl) (fun w H => atLeast_spec (⟨0, 1, 0, 0, 0, 0, 0, 0, (-1)⟩ : Pl) (⟨0, 1, 0, 0, 0, 0, 0, 1, (-1)⟩ : Pl) _) fun a S => ?_
  refine m_w rfl rfl (wn rfl) rfl rfl S (fun w H => y_move rfl S rfl) fun a S => ?_
  refine' m_andq [4, 5, 6, 7] 9 S rfl rfl rfl rfl rfl rfl rfl rfl rfl (fun _ S => (wn rfl)) (fun h1 kk => ?yh1) (fun a S => ?_)
  case yh1 =>
    have h1p := h1; try simp only [Option.isNone_some, Option.isNone_none, Option.isSome_some, Option.isSome_none, false_or, or_false, true_and, and_true, decide_eq_true_eq, decide_eq_false_iff_not, Bool.or_eq_true, Bool.and_eq_true, Bool.or_eq_false_iff, Bool.and_eq_false_iff, Bool.not_eq_true', Bool.not_eq_false', bne_iff_ne, beq_iff_eq, beq_eq_false_iff_ne, bne_eq_false_iff_eq, ne_eq, Decidable.not_not, Int.not_lt, Int.not_le, gt_iff_lt, ge_iff_le, Bool.true_eq_false, Bool.false_eq_true, not_true_eq_false, not_false_eq_true] at h1p
    refine m_w rfl rfl (wg' 9 rfl rfl S rfl h1 rfl) rfl rfl S (fun w H => y_load0 rfl S H rfl (by exact Fagg26)) fun a S => ?_
    refine m_w rfl rfl (wg' 9 rfl rfl S rfl h1 rfl) rfl rfl S (fun w H => y_load0 rfl S H rfl (by exact Fagg26)) fun a S => ?_
    refine m_c rfl rfl (wg' 9 rfl rfl S rfl h1 rfl) rfl rfl S (fun w => co_func rfl Try.call9 S rfl) (fun w H => atLeast_spec (⟨0, 1, 0, 0, 0, 0, 0, 1, (-1)⟩ : Pl) (⟨0, 1, 0, 0, 0, 0, 0, 0, (-1)⟩ : Pl) _) fun a S => ?_
    refine m_w rfl rfl (wg' 9 rfl rfl S rfl h1 rfl) rfl rfl S (fun w H => y_not rfl S rfl) fun a S => ?_
    refine m_w rfl rfl (wn rfl) rfl rfl S (fun w H => y_and' rfl h1 S rfl rfl) fun a S => ?_
    exact kk _ (S.join 5 14 rfl rfl)
  refine m_w rfl rfl (wn rfl) rfl rfl S (fun w H => y_move rfl S rfl) fun a S => ?_
  refine' m_andq [10, 11, 12, 13] 15 S rfl rfl rfl rfl rfl rfl rfl rfl rfl (fun _ S => (wn rfl)) (fun h2 kk => ?yh2) (fun a S => ?_)
  case yh2 =>
    have h2p := h2; try simp only [Option.isNone_some, Option.isNone_none, Option.isSome_some, Option.isSome_none, false_or, or_false, true_and, and_true, decide_eq_true_eq, decide_eq_false_iff_not, Bool.or_eq_true, Bool.and_eq_true, Bool.or_eq_false_iff, Bool.and_eq_false_iff, Bool.not_eq_true', Bool.not_eq_false', bne_iff_ne, beq_iff_eq, beq_eq_false_iff_ne, bne_eq_false_iff_eq, ne_eq, Decidable.not_not, Int.not_lt, Int.not_le, gt_iff_lt, ge_iff_le, Bool.true_eq_false, Bool.false_eq_true, not_true_eq_false, not_false_eq_true] at h2p
    refine m_w rfl rfl (wg' 15 rfl rfl S rfl h2 rfl) rfl rfl S (fun w H => y_load0 rfl S H rfl (by exact Fagg26)) fun a S => ?_
    refine m_c rfl rfl (wg' 15 rfl rfl S rfl h2 rfl) rfl rfl S (fun w => co_func rfl Try.call15 S rfl) (fun w H => seat_spec _ _ _ _ _) fun a S => ?_
    refine m_c rfl rfl (wg' 15 rfl rfl S rfl h2 rfl) rfl rfl S (fun w => co_func rfl Try.call9 S rfl) (fun w H => atLeast_spec (⟨0, 1, 0, 0, 0, 0, 0, 0, (-1)⟩ : Pl) (⟨0, 0, 0, 0, 0, 0, 0, 0, (-1)⟩ : Pl) _) fun a S => ?_
    refine m_w rfl rfl (wg' 15 rfl rfl S rfl h2 rfl) rfl rfl S (fun w H => y_not rfl S rfl) fun a S => ?_
    refine m_w rfl rfl (wn rfl) rfl rfl S (fun w H => y_and' rfl h2 S rfl rfl) fun a S => ?_
    exact kk _ (S.join 5 20 rfl rfl)
  refine m_w rfl rfl (wn rfl) rfl rfl S (fun w H => y_move rfl S rfl) fun a S => ?_
  refine' m_andq [16, 17, 18, 19] 21 S rfl rfl rfl rfl rfl rfl rfl rfl rfl (fun _ S => (wn rfl)) (fun h3 kk => ?yh3) (fun a S => ?_)
  case yh3 =>
    have h3p := h3; try simp only [Option.isNone_some, Option.isNone_none, Option.isSome_some, Option.isSome_none, false_or, or_false, true_and, and_true, decide_eq_true_eq, decide_eq_false_iff_not, Bool.or_eq_true, Bool.and_eq_true, Bool.or_eq_false_iff, Bool.and_eq_false_iff, Bool.not_eq_true', Bool.not_eq_false', bne_iff_ne, beq_iff_eq, beq_eq_false_iff_ne, bne_eq_false_iff_eq, ne_eq, Decidable.not_not, Int.not_lt, Int.not_le, gt_iff_lt, ge_iff_le, Bool.true_eq_false, Bool.false_eq_true, not_true_eq_false, not_false_eq_true] at h3p
    refine m_c rfl rfl (wg' 21 rfl rfl S rfl h3 rfl) rfl rfl S (fun w => co_func rfl Try.call15 S rfl) (fun w H => seat_spec _ _ _ _ _) fun a S => ?_
    refine m_c rfl rfl (wg' 21 rfl rfl S rfl h3 rfl) rfl rfl S (fun w => co_func rfl Try.call15 S rfl) (fun w H => seat_spec _ _ _ _ _) fun a S => ?_
    refine m_c rfl rfl (wg' 21 rfl rfl S rfl h3 rfl) rfl rfl S (fun w => co_func rfl Try.call9 S rfl) (fun w H => atLeast_spec (⟨1, 0, 0, 0, 0, 0, 0, 0, (-1)⟩ : Pl) (⟨1, 0, 0, 0, 0, 0, 0, 0, 5⟩ : Pl) _) fun a S => ?_
    refine m_w rfl rfl (wg' 21 rfl rfl S rfl h3 rfl) rfl rfl S (fun w H => y_not rfl S rfl) fun a S => ?_
    refine m_w rfl rfl (wn rfl) rfl rfl S (fun w H => y_and' rfl h3 S rfl rfl) fun a S => ?_
    exact kk _ (S.join 5 26 rfl rfl)
  refine m_w rfl rfl (wn rfl) rfl rfl S (fun w H => y_move rfl S rfl) fun a S => ?_
  refine' m_andq [22, 23, 24] 27 S rfl rfl rfl rfl rfl rfl rfl rfl rfl (fun _ S => (wn rfl)) (fun h4 kk => ?yh4) (fun a S => ?_)
  case yh4 =>
    have h4p := h4; try simp only [Option.isNone_some, Option.isNone_none, Option.isSome_some, Option.isSome_none, false_or, or_false, true_and, and_true, decide_eq_true_eq, decide_eq_false_iff_not, Bool.or_eq_true, Bool.and_eq_true, Bool.or_eq_false_iff, Bool.and_eq_false_iff, Bool.not_eq_true', Bool.not_eq_false', bne_iff_ne, beq_iff_eq, beq_eq_false_iff_ne, bne_eq_false_iff_eq, ne_eq, Decidable.not_not, Int.not_lt, Int.not_le, gt_iff_lt, ge_iff_le, Bool.true_eq_false, Bool.false_eq_true, not_true_eq_false, not_false_eq_true] at h4p
    refine m_c rfl rfl (wg' 27 rfl rfl S rfl h4 rfl) rfl rfl S (fun w => co_func rfl Try.call15 S rfl) (fun w H => seat_spec _ _ _ _ _) fun a S => ?_
    refine m_c rfl rfl (wg' 27 rfl rfl S rfl h4 rfl) rfl rfl S (fun w => co_func rfl Try.call15 S rfl) (fun w H => seat_spec _ _ _ _ _) fun a S => ?_
    refine m_c rfl rfl (wg' 27 rfl rfl S rfl h4 rfl) rfl rfl S (fun w => co_func rfl Try.call9 S rfl) (fun w H => atLeast_spec (⟨1, 0, 0, 0, 0, 0, 0, 0, 5⟩ : Pl) (⟨1, 0, 0, 0, 0, 0, 0, 0, (-1)⟩ : Pl) _) fun a S => ?_
    refine m_w rfl rfl (wn rfl) rfl rfl S (fun w H => y_and' rfl h4 S rfl rfl) fun a S => ?_
    exact kk _ (S.join 4 31 rfl rfl)
  refine m_w rfl rfl (wn rfl) rfl rfl S (fun w H => y_assign rfl S rfl) fun a S => ?_
  refine m_nil (fun w H => ?_)
  refine n_then ?_
  have S := (((S.nil.cons S 0 rfl).cons S 1 rfl).cons S 2 rfl).cons S 3 rfl
  refine g_seq ?_
  -- region 3 law.go:19
  refine g_region ?_
  refine wl_of (op_y (wn rfl) rfl rfl S (y_move rfl S rfl) fun a S => ?_)
  refine wl_of (op_y (wn rfl) rfl rfl S (y_move rfl S rfl) fun a S => ?_)
  refine' wl_and (B2 := (decide (edgesL [(⟨0, 1, 0, 0, 0, 0, 0, 0, (-1)⟩ : Pl), (⟨0, 1, 0, 0, 0, 0, 0, 1, (-1)⟩ : Pl)] [(⟨0, 1, 0, 0, 0, 0, 0, 1, (-1)⟩ : Pl), (⟨0, 1, 0, 0, 0, 0, 0, 0, (-1)⟩ : Pl), (⟨0, 1, 0, 0, 0, 0, 0, 1, (-1)⟩ : Pl)] = [[1], [0, 1, 2]]))) 12 33 rfl S H rfl rfl rfl rfl rfl rfl rfl (fun _ S => (wn rfl)) (fun h5 kk => ?yh5) (fun a w S H => ?_)
  case yh5 =>
    have h5p := h5; try simp only [Option.isNone_some, Option.isNone_none, Option.isSome_some, Option.isSome_none, false_or, or_false, true_and, and_true, decide_eq_true_eq, decide_eq_false_iff_not, Bool.or_eq_true, Bool.and_eq_true, Bool.or_eq_false_iff, Bool.and_eq_false_iff, Bool.not_eq_true', Bool.not_eq_false', bne_iff_ne, beq_iff_eq, beq_eq_false_iff_ne, bne_eq_false_iff_eq, ne_eq, Decidable.not_not, Int.not_lt, Int.not_le, gt_iff_lt, ge_iff_le, Bool.true_eq_false, Bool.false_eq_true, not_true_eq_false, not_false_eq_true] at h5p
    refine wl_of (op_y (wg' 33 rfl rfl S rfl h5 rfl) rfl rfl S (y_load0 rfl S H rfl (by exact Fagg26)) fun a S => ?_)
    refine wl_of (op_y (wg' 33 rfl rfl S rfl h5 rfl) rfl rfl S (y_load0 rfl S H rfl (by exact Fagg26)) fun a S => ?_)
    refine wl_of (op_buildSlice (wg' 33 rfl rfl S rfl h5 rfl) rfl rfl rfl Try.underlying22 Finf26 S H (idx := [0, 1]) rfl rfl rfl (z := [.int .i64 0, .int .i64 0, .int .i64 0, .int .i64 0, .int .i64 0, .int .i64 0, .int .i64 0, .int .i64 0, .int .i64 0, .int .i64 0, .int .i64 0, .int .i64 0, .int .i64 0, .int .i64 0, .int .i64 0, .int .i64 0, .int .i64 0, .int .i64 0]) (by kernel_rfl) (cs := [.int .i64 0, .int .i64 1, .int .i64 0, .int .i64 0, .int .i64 0, .int .i64 0, .int .i64 0, .int .i64 0, .int .i64 (-1), .int .i64 0, .int .i64 1, .int .i64 0, .int .i64 0, .int .i64 0, .int .i64 0, .int .i64 0, .int .i64 1, .int .i64 (-1)]) (by kernel_rfl) fun b36 a w S H => ?_)
    refine wl_of (op_y (wg' 33 rfl rfl S rfl h5 rfl) rfl rfl S (y_load0 rfl S H rfl (by exact Fagg26)) fun a S => ?_)
    refine wl_of (op_y (wg' 33 rfl rfl S rfl h5 rfl) rfl rfl S (y_load0 rfl S H rfl (by exact Fagg26)) fun a S => ?_)
    refine wl_of (op_y (wg' 33 rfl rfl S rfl h5 rfl) rfl rfl S (y_load0 rfl S H rfl (by exact Fagg26)) fun a S => ?_)
    refine wl_of (op_buildSlice (wg' 33 rfl rfl S rfl h5 rfl) rfl rfl rfl Try.underlying22 Finf26 S H (idx := [0, 1, 2]) rfl rfl rfl (z := [.int .i64 0, .int .i64 0, .int .i64 0, .int .i64 0, .int .i64 0, .int .i64 0, .int .i64 0, .int .i64 0, .int .i64 0, .int .i64 0, .int .i64 0, .int .i64 0, .int .i64 0, .int .i64 0, .int .i64 0, .int .i64 0, .int .i64 0, .int .i64 0, .int .i64 0, .int .i64 0, .int .i64 0, .int .i64 0, .int .i64 0, .int .i64 0, .int .i64 0, .int .i64 0, .int .i64 0]) (by kernel_rfl) (cs := [.int .i64 0, .int .i64 1, .int .i64 0, .int .i64 0, .int .i64 0, .int .i64 0, .int .i64 0, .int .i64 1, .int .i64 (-1), .int .i64 0, .int .i64 1, .int .i64 0, .int .i64 0, .int .i64 0, .int .i64 0, .int .i64 0, .int .i64 0, .int .i64 (-1), .int .i64 0, .int .i64 1, .int .i64 0, .int .i64 0, .int .i64 0, .int .i64 0, .int .i64 0, .int .i64 1, .int .i64 (-1)]) (by kernel_rfl) fun b40 a w S H => ?_)
    refine wl_of (op_call (wg' 33 rfl rfl S rfl h5 rfl) rfl rfl S (co_func rfl Try.call12 S rfl) (edges_spec _ _ [(⟨0, 1, 0, 0, 0, 0, 0, 0, (-1)⟩ : Pl), (⟨0, 1, 0, 0, 0, 0, 0, 1, (-1)⟩ : Pl)] [(⟨0, 1, 0, 0, 0, 0, 0, 1, (-1)⟩ : Pl), (⟨0, 1, 0, 0, 0, 0, 0, 0, (-1)⟩ : Pl), (⟨0, 1, 0, 0, 0, 0, 0, 1, (-1)⟩ : Pl)] _ (H.slb b36 [(⟨0, 1, 0, 0, 0, 0, 0, 0, (-1)⟩ : Pl), (⟨0, 1, 0, 0, 0, 0, 0, 1, (-1)⟩ : Pl)] Pl.enc 9 rfl rfl (by simp [Pl.enc]) (by decide)) (H.slb b40 [(⟨0, 1, 0, 0, 0, 0, 0, 1, (-1)⟩ : Pl), (⟨0, 1, 0, 0, 0, 0, 0, 0, (-1)⟩ : Pl), (⟨0, 1, 0, 0, 0, 0, 0, 1, (-1)⟩ : Pl)] Pl.enc 9 rfl rfl (by simp [Pl.enc]) (by decide)) (by decide) (by decide)) fun u41 w hc a S => ?_)
    obtain ⟨ps41, hps41, H1⟩ := hc
    have H := H.call2 H1 rfl rfl
    refine wl_of (op_buildSlice (wg' 33 rfl rfl S rfl h5 rfl) rfl rfl rfl Try.underlying32 Finf3 S H (idx := [0]) rfl rfl rfl (z := [.int .i64 0]) (by kernel_rfl) (cs := [.int .i64 1]) (by kernel_rfl) fun b42 a w S H => ?_)
    refine wl_of (op_buildSlice (wg' 33 rfl rfl S rfl h5 rfl) rfl rfl rfl Try.underlying32 Finf3 S H (idx := [0, 1, 2]) rfl rfl rfl (z := [.int .i64 0, .int .i64 0, .int .i64 0]) (by kernel_rfl) (cs := [.int .i64 0, .int .i64 1, .int .i64 2]) (by kernel_rfl) fun b43 a w S H => ?_)
    refine wl_of (op_buildSlice (wg' 33 rfl rfl S rfl h5 rfl) rfl rfl rfl Try.underlying28 Finf32 S H (idx := [0, 1]) rfl rfl rfl (z := [.slice none 0 0, .slice none 0 0]) (by kernel_rfl) (cs := [.slice (some ⟨b42, 0, none⟩) 1 1, .slice (some ⟨b43, 0, none⟩) 3 3]) (by kernel_rfl) fun b44 a w S H => ?_)
    refine wl_of (op_call (wg' 33 rfl rfl S rfl h5 rfl) rfl rfl S (co_func rfl Try.call11 S rfl) (same_spec u41 _ ps41 [(.slice (some ⟨b42, 0, none⟩) 1 1, [1]), (.slice (some ⟨b43, 0, none⟩) 3 3, [0, 1, 2])] _ (H.sl u41) (H.slb b44 _ encRow 1 rfl rfl (by simp [encRow]) (by decide)) (H.rws 3 ps41) (by intro p hp; simp only [List.mem_cons, List.not_mem_nil, or_false] at hp; rcases hp with rfl | rfl; exact H.slb b42 [(1 : Int)] encI 1 rfl rfl (by simp [encI]) (by decide); exact H.slb b43 [(0 : Int), 1, 2] encI 1 rfl rfl (by simp [encI]) (by decide))) fun v w hc a S => ?_)
    obtain ⟨rfl, he⟩ := hc
    have H := H.ext he
    rw [hps41] at S
    refine wl_of (op_y (wn rfl) rfl rfl S (y_and' rfl h5 S rfl rfl) fun a S => ?_)
    exact kk _ _ (S.join 13 46 rfl rfl) (H.drop 7)
  refine wl_of (op_y (wn rfl) rfl rfl S (y_move rfl S rfl) fun a S => ?_)
  refine' wl_and (B2 := true) 5 47 rfl S H rfl rfl rfl rfl rfl rfl rfl (fun _ S => (wn rfl)) (fun h6 kk => ?yh6) (fun a w S H => ?_)
  case yh6 =>
    have h6p := h6; try simp only [Option.isNone_some, Option.isNone_none, Option.isSome_some, Option.isSome_none, false_or, or_false, true_and, and_true, decide_eq_true_eq, decide_eq_false_iff_not, Bool.or_eq_true, Bool.and_eq_true, Bool.or_eq_false_iff, Bool.and_eq_false_iff, Bool.not_eq_true', Bool.not_eq_false', bne_iff_ne, beq_iff_eq, beq_eq_false_iff_ne, bne_eq_false_iff_eq, ne_eq, Decidable.not_not, Int.not_lt, Int.not_le, gt_iff_lt, ge_iff_le, Bool.true_eq_false, Bool.false_eq_true, not_true_eq_false, not_false_eq_true] at h6p
    refine wl_of (op_y (wg' 47 rfl rfl S rfl h6 rfl) rfl rfl S (y_load0 rfl S H rfl (by exact Fagg26)) fun a S => ?_)
    refine wl_of (op_buildSlice (wg' 47 rfl rfl S rfl h6 rfl) rfl rfl rfl Try.underlying22 Finf26 S H (idx := [0]) rfl rfl rfl (z := [.int .i64 0, .int .i64 0, .int .i64 0, .int .i64 0, .int .i64 0, .int .i64 0, .int .i64 0, .int .i64 0, .int .i64 0]) (by kernel_rfl) (cs := [.int .i64 0, .int .i64 1, .int .i64 0, .int .i64 0, .int .i64 0, .int .i64 0, .int .i64 0, .int .i64 0, .int .i64 (-1)]) (by kernel_rfl) fun b49 a w S H => ?_)
    refine wl_of (op_call (wg' 47 rfl rfl S rfl h6 rfl) rfl rfl S (co_func rfl Try.call12 S rfl) (edges_spec _ _ [] [(⟨0, 1, 0, 0, 0, 0, 0, 0, (-1)⟩ : Pl)] _ (IsSl.nil _ 9 Pl.enc) (H.slb b49 [(⟨0, 1, 0, 0, 0, 0, 0, 0, (-1)⟩ : Pl)] Pl.enc 9 rfl rfl (by simp [Pl.enc]) (by decide)) (by decide) (by decide)) fun u50 w hc a S => ?_)
    obtain ⟨ps50, hps50, H1⟩ := hc
    have H := H.call2 H1 rfl rfl
    refine wl_of (op_y (wg' 47 rfl rfl S rfl h6 rfl) rfl rfl S (y_lens rfl Try.underlying28 S H rfl) fun a S => ?_)
    refine wl_of (op_y (wg' 47 rfl rfl S rfl h6 rfl) rfl rfl S (y_bin rfl S rfl rfl rfl) fun a S => ?_)
    have hl0 : ps50.length = 0 := by have := congrArg List.length hps50; simpa [edgesL] using this
    rw [hl0] at S
    refine wl_of (op_y (wn rfl) rfl rfl S (y_and' rfl h6 S rfl rfl) fun a S => ?_)
    exact kk _ _ (S.join 6 53 rfl rfl) (H.drop 3)
  refine wl_of (op_y (wn rfl) rfl rfl S (y_assign rfl S rfl) fun a S => ?_)
  refine gl_nil ?_
  refine n_then ?_
  have S := S.nil.cons S 0 rfl
  refine g_ret ?_
  refine ret1 rfl S rfl ?_
  exact ⟨by kernel_rfl, H.toExt⟩

end Go.Proofs.Ytbncnncpeiiliaa
