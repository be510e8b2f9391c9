/- The walks. No condition. -/
import Derived.Test.YtfblnfkphdimjaaChecked
import Derived.Test.YtfblnfkphdimjaaGwJoin
import Derived.Test.YtfblnfkphdimjaaFacts
import Derived.Test.YtfblnfkphdimjaaPlain
import Derived.Test.YtfblnfkphdimjaaW2
namespace Go.Proofs.Ytfblnfkphdimjaa
open Go Go.Gw
set_option linter.unusedVariables false
set_option linter.unusedSimpArgs false
/-- foyer/foyerlaw25.head -/
theorem head_spec (w0 : World) :
    Ret Try.prog 9 #[] w0 (fun v w => v = .bool true ∧ Ext w0 w) := by
  refine ret_of_wp (n := 133) Try.func9 rfl rfl rfl (fl := []) rfl (fun a S => ?_)
  have H := HSat.start w0
  refine wp_seq ?_
  -- region 0 law.go:11
  refine wp_region_lit ?_
  refine wl_of (op_y (wn rfl) rfl rfl S (y_assign rfl S rfl) fun a S => ?_)
  refine wpList_nil ?_
  refine n_then ?_
  refine wp_seq ?_
  -- region 1 law.go:12
  refine wp_region_lit ?_
  refine wl_of (op_y (wn rfl) rfl rfl S (y_buildf rfl Fbld23 S rfl (idx := [0, 1, 2]) rfl (cs := [_, _, _]) rfl) fun a S => ?_)
  refine wl_of (op_alloc (wn rfl) rfl rfl rfl S H Fzer23 fun b1 a w S H => ?_)
  refine wl_of (op_storea (wn rfl) rfl rfl S H rfl rfl rfl Fsiz23 rfl (cs' := [_, _, _]) rfl fun a w S H => ?_)
  refine wpList_nil ?_
  refine n_then ?_
  refine wp_seq ?_
  -- region 2 law.go:13
  refine wp_region_lit ?_
  refine wl_of (op_y (wn rfl) rfl rfl S (y_buildf rfl Fbld23 S rfl (idx := [0, 1, 2]) rfl (cs := [_, _, _]) rfl) fun a S => ?_)
  refine wl_of (op_alloc (wn rfl) rfl rfl rfl S H Fzer23 fun b2 a w S H => ?_)
  refine wl_of (op_storea (wn rfl) rfl rfl S H rfl rfl rfl Fsiz23 rfl (cs' := [_, _, _]) rfl fun a w S H => ?_)
  refine wpList_nil ?_
  refine n_then ?_
  refine wp_seq ?_
  -- region 3 law.go:14
  refine wp_region_lit ?_
  refine wl_of (op_y (wn rfl) rfl rfl S (y_load0 rfl S H rfl (by exact Fagg23)) fun a S => ?_)
  refine wl_of (op_call (wn rfl) rfl rfl S (co_func rfl Try.call10 S rfl) (bounds_spec ⟨2000, 1000, 1000⟩ _) fun v w hc a S => ?_)
  obtain ⟨rfl, he⟩ := hc
  have H := H.ext he
  refine wl_of (op_y (wn rfl) rfl rfl S (y_move rfl S rfl) fun a S => ?_)
  refine wl_of (op_y (wn rfl) rfl rfl S (y_extract rfl S rfl rfl) fun a S => ?_)
  refine wl_of (op_y (wn rfl) rfl rfl S (y_extract rfl S rfl rfl) fun a S => ?_)
  refine wl_of (op_y (wn rfl) rfl rfl S (y_extract rfl S rfl rfl) fun a S => ?_)
  refine wl_of (op_y (wn rfl) rfl rfl S (y_assign rfl S rfl) fun a S => ?_)
  refine wl_of (op_y (wn rfl) rfl rfl S (y_assign rfl S rfl) fun a S => ?_)
  refine wl_of (op_y (wn rfl) rfl rfl S (y_assign rfl S rfl) fun a S => ?_)
  refine wpList_nil ?_
  refine n_then ?_
  have S := (((((S.nil.cons S 0 rfl).cons S 1 rfl).cons S 2 rfl).cons S 3 rfl).cons S 4 rfl).cons S 5 rfl
  refine wp_seq ?_
  -- region 4 law.go:15
  refine wp_region_lit ?_
  refine wl_of (op_y (wn rfl) rfl rfl S (y_load0 rfl S H rfl (by exact Fagg23)) fun a S => ?_)
  refine wl_of (op_call (wn rfl) rfl rfl S (co_func rfl Try.call10 S rfl) (bounds_spec ⟨2001, 1000, 1000⟩ _) fun v w hc a S => ?_)
  obtain ⟨rfl, he⟩ := hc
  have H := H.ext he
  refine wl_of (op_y (wn rfl) rfl rfl S (y_move rfl S rfl) fun a S => ?_)
  refine wl_of (op_y (wn rfl) rfl rfl S (y_extract rfl S rfl rfl) fun a S => ?_)
  refine wl_of (op_y (wn rfl) rfl rfl S (y_extract rfl S rfl rfl) fun a S => ?_)
  refine wl_of (op_y (wn rfl) rfl rfl S (y_extract rfl S rfl rfl) fun a S => ?_)
  refine wl_of (op_y (wn rfl) rfl rfl S (y_assign rfl S rfl) fun a S => ?_)
  refine wl_of (op_y (wn rfl) rfl rfl S (y_assign rfl S rfl) fun a S => ?_)
  refine wl_of (op_y (wn rfl) rfl rfl S (y_assign rfl S rfl) fun a S => ?_)
  refine wpList_nil ?_
  refine n_then ?_
  have S := ((((((((S.nil.cons S 0 rfl).cons S 1 rfl).cons S 2 rfl).cons S 3 rfl).cons S 4 rfl).cons S 5 rfl).cons S 6 rfl).cons S 7 rfl).cons S 8 rfl
  refine wp_seq ?_
  -- region 5 law.go:16
  refine wp_region_lit ?_
  refine wl_of (op_y (wn rfl) rfl rfl S (y_buildf rfl Fbld23 S rfl (idx := [0, 2]) rfl (cs := [_, _, _]) rfl) fun a S => ?_)
  refine wl_of (op_call (wn rfl) rfl rfl S (co_func rfl Try.call10 S rfl) (bounds_spec ⟨1000000000, 0, 1000⟩ _) fun v w hc a S => ?_)
  obtain ⟨rfl, he⟩ := hc
  have H := H.ext he
  refine wl_of (op_y (wn rfl) rfl rfl S (y_move rfl S rfl) fun a S => ?_)
  refine wl_of (op_y (wn rfl) rfl rfl S (y_extract rfl S rfl rfl) fun a S => ?_)
  refine wl_of (op_y (wn rfl) rfl rfl S (y_extract rfl S rfl rfl) fun a S => ?_)
  refine wl_of (op_y (wn rfl) rfl rfl S (y_extract rfl S rfl rfl) fun a S => ?_)
  refine wl_of (op_y (wn rfl) rfl rfl S (y_assign rfl S rfl) fun a S => ?_)
  refine wl_of (op_y (wn rfl) rfl rfl S (y_assign rfl S rfl) fun a S => ?_)
  refine wl_of (op_y (wn rfl) rfl rfl S (y_assign rfl S rfl) fun a S => ?_)
  refine wpList_nil ?_
  refine n_then ?_
  have S := (((((((((((S.nil.cons S 0 rfl).cons S 1 rfl).cons S 2 rfl).cons S 3 rfl).cons S 4 rfl).cons S 5 rfl).cons S 6 rfl).cons S 7 rfl).cons S 8 rfl).cons S 9 rfl).cons S 10 rfl).cons S 11 rfl
  refine wp_seq ?_
  -- region 6 law.go:17
  refine wp_region_lit ?_
  refine wl_of (op_y (wn rfl) rfl rfl S (y_load0 rfl S H rfl (by exact Fagg23)) fun a S => ?_)
  refine wl_of (op_y (wn rfl) rfl rfl S (y_load0 rfl S H rfl (by exact Fagg23)) fun a S => ?_)
  refine wl_of (op_buildSlice (wn rfl) rfl rfl rfl Try.underlying24 Finf23 S H (idx := [0, 1]) rfl rfl rfl (z := [.int .i64 0, .int .i64 0, .int .i64 0, .int .i64 0, .int .i64 0, .int .i64 0]) (by kernel_rfl) (cs := [_, _, _, _, _, _]) rfl fun b46 a w S H => ?_)
  refine wl_of (op_call (wn rfl) rfl rfl S (co_func rfl Try.call14 S rfl) (agree_spec _ [⟨2000, 1000, 1000⟩, ⟨2001, 1000, 1000⟩] _ (H.slb b46 _ Rd.enc 3 rfl rfl (by simp [Rd.enc]) (by decide)) (by simp)) fun v w hc a S => ?_)
  obtain ⟨rfl, he⟩ := hc
  have H := H.ext he
  refine wl_of (op_y (wn rfl) rfl rfl S (y_move rfl S rfl) fun a S => ?_)
  refine wl_of (op_y (wn rfl) rfl rfl S (y_extract rfl S rfl rfl) fun a S => ?_)
  refine wl_of (op_y (wn rfl) rfl rfl S (y_extract rfl S rfl rfl) fun a S => ?_)
  refine wl_of (op_y (wn rfl) rfl rfl S (y_extract rfl S rfl rfl) fun a S => ?_)
  refine wl_of (op_y (wn rfl) rfl rfl S (y_assign rfl S rfl) fun a S => ?_)
  refine wl_of (op_y (wn rfl) rfl rfl S (y_assign rfl S rfl) fun a S => ?_)
  refine wl_of (op_y (wn rfl) rfl rfl S (y_assign rfl S rfl) fun a S => ?_)
  refine wpList_nil ?_
  refine n_then ?_
  have S := (((((((((((((S.nil.cons S 0 rfl).cons S 1 rfl).cons S 3 rfl).cons S 4 rfl).cons S 5 rfl).cons S 6 rfl).cons S 7 rfl).cons S 8 rfl).cons S 9 rfl).cons S 10 rfl).cons S 11 rfl).cons S 12 rfl).cons S 13 rfl).cons S 14 rfl
  refine wp_seq ?_
  -- region 7 law.go:18
  refine wp_region_lit ?_
  refine wl_of (op_y (wn rfl) rfl rfl S (y_buildf rfl Fbld23 S rfl (idx := [0]) rfl (cs := [_, _, _]) rfl) fun a S => ?_)
  refine wl_of (op_y (wn rfl) rfl rfl S (y_buildf rfl Fbld23 S rfl (idx := [0]) rfl (cs := [_, _, _]) rfl) fun a S => ?_)
  refine wl_of (op_buildSlice (wn rfl) rfl rfl rfl Try.underlying24 Finf23 S H (idx := [0, 1]) rfl rfl rfl (z := [.int .i64 0, .int .i64 0, .int .i64 0, .int .i64 0, .int .i64 0, .int .i64 0]) (by kernel_rfl) (cs := [_, _, _, _, _, _]) rfl fun b54 a w S H => ?_)
  refine wl_of (op_call (wn rfl) rfl rfl S (co_func rfl Try.call14 S rfl) (agree_spec _ [⟨5, 0, 0⟩, ⟨7, 0, 0⟩] _ (H.slb b54 _ Rd.enc 3 rfl rfl (by simp [Rd.enc]) (by decide)) (by simp)) fun v w hc a S => ?_)
  obtain ⟨rfl, he⟩ := hc
  have H := H.ext he
  refine wl_of (op_y (wn rfl) rfl rfl S (y_move rfl S rfl) fun a S => ?_)
  refine wl_of (op_y (wn rfl) rfl rfl S (y_extract rfl S rfl rfl) fun a S => ?_)
  refine wl_of (op_y (wn rfl) rfl rfl S (y_extract rfl S rfl rfl) fun a S => ?_)
  refine wl_of (op_y (wn rfl) rfl rfl S (y_extract rfl S rfl rfl) fun a S => ?_)
  refine wl_of (op_y (wn rfl) rfl rfl S (y_assign rfl S rfl) fun a S => ?_)
  refine wl_of (op_y (wn rfl) rfl rfl S (y_assign rfl S rfl) fun a S => ?_)
  refine wl_of (op_y (wn rfl) rfl rfl S (y_assign rfl S rfl) fun a S => ?_)
  refine wpList_nil ?_
  refine n_then ?_
  have S := ((((((((((((((S.nil.cons S 0 rfl).cons S 1 rfl).cons S 3 rfl).cons S 4 rfl).cons S 5 rfl).cons S 6 rfl).cons S 7 rfl).cons S 8 rfl).cons S 9 rfl).cons S 10 rfl).cons S 11 rfl).cons S 12 rfl).cons S 13 rfl).cons S 14 rfl).cons S 17 rfl
  refine wp_seq ?_
  -- region 8 law.go:19
  refine wp_region_lit ?_
  refine wl_of (op_y (wn rfl) rfl rfl S (y_load0 rfl S H rfl (by exact Fagg23)) fun a S => ?_)
  refine wl_of (op_call (wn rfl) rfl rfl S (co_func rfl Try.call12 S rfl) (over_spec ⟨2000, 1000, 1000⟩ 1999 _) fun v w hc a S => ?_)
  obtain ⟨rfl, he⟩ := hc
  have H := H.ext he
  refine wl_of (op_y (wn rfl) rfl rfl S (y_move rfl S rfl) fun a S => ?_)
  refine wl_of (op_y (wn rfl) rfl rfl S (y_extract rfl S rfl rfl) fun a S => ?_)
  refine wl_of (op_y (wn rfl) rfl rfl S (y_extract rfl S rfl rfl) fun a S => ?_)
  refine wl_of (op_y (wn rfl) rfl rfl S (y_assign rfl S rfl) fun a S => ?_)
  refine wl_of (op_y (wn rfl) rfl rfl S (y_assign rfl S rfl) fun a S => ?_)
  refine wpList_nil ?_
  refine n_then ?_
  have S := ((((((((((((((((S.nil.cons S 0 rfl).cons S 1 rfl).cons S 3 rfl).cons S 4 rfl).cons S 5 rfl).cons S 6 rfl).cons S 7 rfl).cons S 8 rfl).cons S 9 rfl).cons S 10 rfl).cons S 11 rfl).cons S 12 rfl).cons S 13 rfl).cons S 14 rfl).cons S 17 rfl).cons S 18 rfl).cons S 19 rfl
  refine wp_seq ?_
  -- region 9 law.go:20
  refine wp_region_lit ?_
  refine wl_of (op_y (wn rfl) rfl rfl S (y_load0 rfl S H rfl (by exact Fagg23)) fun a S => ?_)
  refine wl_of (op_call (wn rfl) rfl rfl S (co_func rfl Try.call12 S rfl) (over_spec ⟨2000, 1000, 1000⟩ 1998 _) fun v w hc a S => ?_)
  obtain ⟨rfl, he⟩ := hc
  have H := H.ext he
  refine wl_of (op_y (wn rfl) rfl rfl S (y_move rfl S rfl) fun a S => ?_)
  refine wl_of (op_y (wn rfl) rfl rfl S (y_extract rfl S rfl rfl) fun a S => ?_)
  refine wl_of (op_y (wn rfl) rfl rfl S (y_extract rfl S rfl rfl) fun a S => ?_)
  refine wl_of (op_y (wn rfl) rfl rfl S (y_assign rfl S rfl) fun a S => ?_)
  refine wl_of (op_y (wn rfl) rfl rfl S (y_assign rfl S rfl) fun a S => ?_)
  refine wpList_nil ?_
  refine n_then ?_
  have S := (((((((((((((((((S.nil.cons S 0 rfl).cons S 3 rfl).cons S 4 rfl).cons S 5 rfl).cons S 6 rfl).cons S 7 rfl).cons S 8 rfl).cons S 9 rfl).cons S 10 rfl).cons S 11 rfl).cons S 12 rfl).cons S 13 rfl).cons S 14 rfl).cons S 17 rfl).cons S 18 rfl).cons S 19 rfl).cons S 20 rfl).cons S 21 rfl
  refine wp_seq ?_
  -- region 10 law.go:21
  refine wp_region_lit ?_
  refine wl_of (op_y (wn rfl) rfl rfl S (y_move rfl S rfl) fun a S => ?_)
  refine wl_of (op_y (wn rfl) rfl rfl S (y_bin rfl S rfl rfl rfl) fun a S => ?_)
  refine wl_of (op_y (wn rfl) rfl rfl S (y_move rfl S rfl) fun a S => ?_)
  refine' wl_and 2 71 rfl S H rfl rfl rfl rfl rfl rfl rfl (fun _ S => (wn rfl)) (fun h1 kk => ?yh1) (fun a w S H => ?_)
  case yh1 =>
    have h1p := h1; try simp only [decide_eq_true_eq, decide_eq_false_iff_not, Bool.or_eq_true, Bool.and_eq_true, Bool.or_eq_false_iff, Bool.and_eq_false_iff, Bool.not_eq_true', Bool.not_eq_false', bne_iff_ne, beq_iff_eq, beq_eq_false_iff_ne, bne_eq_false_iff_eq, ne_eq, Decidable.not_not, Int.not_lt, Int.not_le, gt_iff_lt, ge_iff_le, Bool.true_eq_false, Bool.false_eq_true, not_true_eq_false, not_false_eq_true] at h1p
    refine wl_of (op_y (wg' 71 rfl rfl S rfl h1 rfl) rfl rfl S (y_move rfl S rfl) fun a S => ?_)
    refine wl_of (op_y (wg' 71 rfl rfl S rfl h1 rfl) rfl rfl S (y_bin rfl S rfl rfl rfl) fun a S => ?_)
    refine wl_of (op_y (wn rfl) rfl rfl S (y_and' rfl h1 S rfl rfl) fun a S => ?_)
    exact kk _ _ (S.join 3 74 rfl rfl) H
  refine wl_of (op_y (wn rfl) rfl rfl S (y_move rfl S rfl) fun a S => ?_)
  refine' wl_and 2 75 rfl S H rfl rfl rfl rfl rfl rfl rfl (fun _ S => (wn rfl)) (fun h2 kk => ?yh2) (fun a w S H => ?_)
  case yh2 =>
    have h2p := h2; try simp only [decide_eq_true_eq, decide_eq_false_iff_not, Bool.or_eq_true, Bool.and_eq_true, Bool.or_eq_false_iff, Bool.and_eq_false_iff, Bool.not_eq_true', Bool.not_eq_false', bne_iff_ne, beq_iff_eq, beq_eq_false_iff_ne, bne_eq_false_iff_eq, ne_eq, Decidable.not_not, Int.not_lt, Int.not_le, gt_iff_lt, ge_iff_le, Bool.true_eq_false, Bool.false_eq_true, not_true_eq_false, not_false_eq_true] at h2p
    refine wl_of (op_y (wg' 75 rfl rfl S rfl h2 rfl) rfl rfl S (y_move rfl S rfl) fun a S => ?_)
    refine wl_of (op_y (wg' 75 rfl rfl S rfl h2 rfl) rfl rfl S (y_bin rfl S rfl rfl rfl) fun a S => ?_)
    refine wl_of (op_y (wn rfl) rfl rfl S (y_and' rfl h2 S rfl rfl) fun a S => ?_)
    exact kk _ _ (S.join 3 78 rfl rfl) H
  refine wl_of (op_y (wn rfl) rfl rfl S (y_move rfl S rfl) fun a S => ?_)
  refine' wl_and 2 79 rfl S H rfl rfl rfl rfl rfl rfl rfl (fun _ S => (wn rfl)) (fun h3 kk => ?yh3) (fun a w S H => ?_)
  case yh3 =>
    have h3p := h3; try simp only [decide_eq_true_eq, decide_eq_false_iff_not, Bool.or_eq_true, Bool.and_eq_true, Bool.or_eq_false_iff, Bool.and_eq_false_iff, Bool.not_eq_true', Bool.not_eq_false', bne_iff_ne, beq_iff_eq, beq_eq_false_iff_ne, bne_eq_false_iff_eq, ne_eq, Decidable.not_not, Int.not_lt, Int.not_le, gt_iff_lt, ge_iff_le, Bool.true_eq_false, Bool.false_eq_true, not_true_eq_false, not_false_eq_true] at h3p
    refine wl_of (op_y (wg' 79 rfl rfl S rfl h3 rfl) rfl rfl S (y_move rfl S rfl) fun a S => ?_)
    refine wl_of (op_y (wg' 79 rfl rfl S rfl h3 rfl) rfl rfl S (y_bin rfl S rfl rfl rfl) fun a S => ?_)
    refine wl_of (op_y (wn rfl) rfl rfl S (y_and' rfl h3 S rfl rfl) fun a S => ?_)
    exact kk _ _ (S.join 3 82 rfl rfl) H
  refine wl_of (op_y (wn rfl) rfl rfl S (y_move rfl S rfl) fun a S => ?_)
  refine' wl_and 2 83 rfl S H rfl rfl rfl rfl rfl rfl rfl (fun _ S => (wn rfl)) (fun h4 kk => ?yh4) (fun a w S H => ?_)
  case yh4 =>
    have h4p := h4; try simp only [decide_eq_true_eq, decide_eq_false_iff_not, Bool.or_eq_true, Bool.and_eq_true, Bool.or_eq_false_iff, Bool.and_eq_false_iff, Bool.not_eq_true', Bool.not_eq_false', bne_iff_ne, beq_iff_eq, beq_eq_false_iff_ne, bne_eq_false_iff_eq, ne_eq, Decidable.not_not, Int.not_lt, Int.not_le, gt_iff_lt, ge_iff_le, Bool.true_eq_false, Bool.false_eq_true, not_true_eq_false, not_false_eq_true] at h4p
    refine wl_of (op_y (wg' 83 rfl rfl S rfl h4 rfl) rfl rfl S (y_move rfl S rfl) fun a S => ?_)
    refine wl_of (op_y (wg' 83 rfl rfl S rfl h4 rfl) rfl rfl S (y_bin rfl S rfl rfl rfl) fun a S => ?_)
    refine wl_of (op_y (wn rfl) rfl rfl S (y_and' rfl h4 S rfl rfl) fun a S => ?_)
    exact kk _ _ (S.join 3 86 rfl rfl) H
  refine wl_of (op_y (wn rfl) rfl rfl S (y_move rfl S rfl) fun a S => ?_)
  refine' wl_and 2 87 rfl S H rfl rfl rfl rfl rfl rfl rfl (fun _ S => (wn rfl)) (fun h5 kk => ?yh5) (fun a w S H => ?_)
  case yh5 =>
    have h5p := h5; try simp only [decide_eq_true_eq, decide_eq_false_iff_not, Bool.or_eq_true, Bool.and_eq_true, Bool.or_eq_false_iff, Bool.and_eq_false_iff, Bool.not_eq_true', Bool.not_eq_false', bne_iff_ne, beq_iff_eq, beq_eq_false_iff_ne, bne_eq_false_iff_eq, ne_eq, Decidable.not_not, Int.not_lt, Int.not_le, gt_iff_lt, ge_iff_le, Bool.true_eq_false, Bool.false_eq_true, not_true_eq_false, not_false_eq_true] at h5p
    refine wl_of (op_y (wg' 87 rfl rfl S rfl h5 rfl) rfl rfl S (y_move rfl S rfl) fun a S => ?_)
    refine wl_of (op_y (wg' 87 rfl rfl S rfl h5 rfl) rfl rfl S (y_bin rfl S rfl rfl rfl) fun a S => ?_)
    refine wl_of (op_y (wn rfl) rfl rfl S (y_and' rfl h5 S rfl rfl) fun a S => ?_)
    exact kk _ _ (S.join 3 90 rfl rfl) H
  refine wl_of (op_y (wn rfl) rfl rfl S (y_move rfl S rfl) fun a S => ?_)
  refine' wl_and 2 91 rfl S H rfl rfl rfl rfl rfl rfl rfl (fun _ S => (wn rfl)) (fun h6 kk => ?yh6) (fun a w S H => ?_)
  case yh6 =>
    have h6p := h6; try simp only [decide_eq_true_eq, decide_eq_false_iff_not, Bool.or_eq_true, Bool.and_eq_true, Bool.or_eq_false_iff, Bool.and_eq_false_iff, Bool.not_eq_true', Bool.not_eq_false', bne_iff_ne, beq_iff_eq, beq_eq_false_iff_ne, bne_eq_false_iff_eq, ne_eq, Decidable.not_not, Int.not_lt, Int.not_le, gt_iff_lt, ge_iff_le, Bool.true_eq_false, Bool.false_eq_true, not_true_eq_false, not_false_eq_true] at h6p
    refine wl_of (op_y (wg' 91 rfl rfl S rfl h6 rfl) rfl rfl S (y_move rfl S rfl) fun a S => ?_)
    refine wl_of (op_y (wg' 91 rfl rfl S rfl h6 rfl) rfl rfl S (y_bin rfl S rfl rfl rfl) fun a S => ?_)
    refine wl_of (op_y (wn rfl) rfl rfl S (y_and' rfl h6 S rfl rfl) fun a S => ?_)
    exact kk _ _ (S.join 3 94 rfl rfl) H
  refine wl_of (op_y (wn rfl) rfl rfl S (y_move rfl S rfl) fun a S => ?_)
  refine' wl_and 2 95 rfl S H rfl rfl rfl rfl rfl rfl rfl (fun _ S => (wn rfl)) (fun h7 kk => ?yh7) (fun a w S H => ?_)
  case yh7 =>
    have h7p := h7; try simp only [decide_eq_true_eq, decide_eq_false_iff_not, Bool.or_eq_true, Bool.and_eq_true, Bool.or_eq_false_iff, Bool.and_eq_false_iff, Bool.not_eq_true', Bool.not_eq_false', bne_iff_ne, beq_iff_eq, beq_eq_false_iff_ne, bne_eq_false_iff_eq, ne_eq, Decidable.not_not, Int.not_lt, Int.not_le, gt_iff_lt, ge_iff_le, Bool.true_eq_false, Bool.false_eq_true, not_true_eq_false, not_false_eq_true] at h7p
    refine wl_of (op_y (wg' 95 rfl rfl S rfl h7 rfl) rfl rfl S (y_move rfl S rfl) fun a S => ?_)
    refine wl_of (op_y (wg' 95 rfl rfl S rfl h7 rfl) rfl rfl S (y_bin rfl S rfl rfl rfl) fun a S => ?_)
    refine wl_of (op_y (wn rfl) rfl rfl S (y_and' rfl h7 S rfl rfl) fun a S => ?_)
    exact kk _ _ (S.join 3 98 rfl rfl) H
  refine wl_of (op_y (wn rfl) rfl rfl S (y_move rfl S rfl) fun a S => ?_)
  refine' wl_and 2 99 rfl S H rfl rfl rfl rfl rfl rfl rfl (fun _ S => (wn rfl)) (fun h8 kk => ?yh8) (fun a w S H => ?_)
  case yh8 =>
    have h8p := h8; try simp only [decide_eq_true_eq, decide_eq_false_iff_not, Bool.or_eq_true, Bool.and_eq_true, Bool.or_eq_false_iff, Bool.and_eq_false_iff, Bool.not_eq_true', Bool.not_eq_false', bne_iff_ne, beq_iff_eq, beq_eq_false_iff_ne, bne_eq_false_iff_eq, ne_eq, Decidable.not_not, Int.not_lt, Int.not_le, gt_iff_lt, ge_iff_le, Bool.true_eq_false, Bool.false_eq_true, not_true_eq_false, not_false_eq_true] at h8p
    refine wl_of (op_y (wg' 99 rfl rfl S rfl h8 rfl) rfl rfl S (y_move rfl S rfl) fun a S => ?_)
    refine wl_of (op_y (wg' 99 rfl rfl S rfl h8 rfl) rfl rfl S (y_bin rfl S rfl rfl rfl) fun a S => ?_)
    refine wl_of (op_y (wn rfl) rfl rfl S (y_and' rfl h8 S rfl rfl) fun a S => ?_)
    exact kk _ _ (S.join 3 102 rfl rfl) H
  refine wl_of (op_y (wn rfl) rfl rfl S (y_assign rfl S rfl) fun a S => ?_)
  refine wpList_nil ?_
  refine n_then ?_
  have S := (((((((((S.nil.cons S 0 rfl).cons S 12 rfl).cons S 13 rfl).cons S 14 rfl).cons S 17 rfl).cons S 18 rfl).cons S 19 rfl).cons S 20 rfl).cons S 21 rfl).cons S 22 rfl
  refine wp_seq ?_
  -- region 11 law.go:22
  refine wp_region_lit ?_
  refine wl_of (op_y (wn rfl) rfl rfl S (y_move rfl S rfl) fun a S => ?_)
  refine wl_of (op_y (wn rfl) rfl rfl S (y_move rfl S rfl) fun a S => ?_)
  refine' wl_and 2 104 rfl S H rfl rfl rfl rfl rfl rfl rfl (fun _ S => (wn rfl)) (fun h9 kk => ?yh9) (fun a w S H => ?_)
  case yh9 =>
    have h9p := h9; try simp only [decide_eq_true_eq, decide_eq_false_iff_not, Bool.or_eq_true, Bool.and_eq_true, Bool.or_eq_false_iff, Bool.and_eq_false_iff, Bool.not_eq_true', Bool.not_eq_false', bne_iff_ne, beq_iff_eq, beq_eq_false_iff_ne, bne_eq_false_iff_eq, ne_eq, Decidable.not_not, Int.not_lt, Int.not_le, gt_iff_lt, ge_iff_le, Bool.true_eq_false, Bool.false_eq_true, not_true_eq_false, not_false_eq_true] at h9p
    refine wl_of (op_y (wg' 104 rfl rfl S rfl h9 rfl) rfl rfl S (y_move rfl S rfl) fun a S => ?_)
    refine wl_of (op_y (wg' 104 rfl rfl S rfl h9 rfl) rfl rfl S (y_bin rfl S rfl rfl rfl) fun a S => ?_)
    refine wl_of (op_y (wn rfl) rfl rfl S (y_and' rfl h9 S rfl rfl) fun a S => ?_)
    exact kk _ _ (S.join 3 107 rfl rfl) H
  refine wl_of (op_y (wn rfl) rfl rfl S (y_move rfl S rfl) fun a S => ?_)
  refine' wl_and 2 108 rfl S H rfl rfl rfl rfl rfl rfl rfl (fun _ S => (wn rfl)) (fun h10 kk => ?yh10) (fun a w S H => ?_)
  case yh10 =>
    have h10p := h10; try simp only [decide_eq_true_eq, decide_eq_false_iff_not, Bool.or_eq_true, Bool.and_eq_true, Bool.or_eq_false_iff, Bool.and_eq_false_iff, Bool.not_eq_true', Bool.not_eq_false', bne_iff_ne, beq_iff_eq, beq_eq_false_iff_ne, bne_eq_false_iff_eq, ne_eq, Decidable.not_not, Int.not_lt, Int.not_le, gt_iff_lt, ge_iff_le, Bool.true_eq_false, Bool.false_eq_true, not_true_eq_false, not_false_eq_true] at h10p
    refine wl_of (op_y (wg' 108 rfl rfl S rfl h10 rfl) rfl rfl S (y_move rfl S rfl) fun a S => ?_)
    refine wl_of (op_y (wg' 108 rfl rfl S rfl h10 rfl) rfl rfl S (y_bin rfl S rfl rfl rfl) fun a S => ?_)
    refine wl_of (op_y (wn rfl) rfl rfl S (y_and' rfl h10 S rfl rfl) fun a S => ?_)
    exact kk _ _ (S.join 3 111 rfl rfl) H
  refine wl_of (op_y (wn rfl) rfl rfl S (y_move rfl S rfl) fun a S => ?_)
  refine' wl_and 2 112 rfl S H rfl rfl rfl rfl rfl rfl rfl (fun _ S => (wn rfl)) (fun h11 kk => ?yh11) (fun a w S H => ?_)
  case yh11 =>
    have h11p := h11; try simp only [decide_eq_true_eq, decide_eq_false_iff_not, Bool.or_eq_true, Bool.and_eq_true, Bool.or_eq_false_iff, Bool.and_eq_false_iff, Bool.not_eq_true', Bool.not_eq_false', bne_iff_ne, beq_iff_eq, beq_eq_false_iff_ne, bne_eq_false_iff_eq, ne_eq, Decidable.not_not, Int.not_lt, Int.not_le, gt_iff_lt, ge_iff_le, Bool.true_eq_false, Bool.false_eq_true, not_true_eq_false, not_false_eq_true] at h11p
    refine wl_of (op_y (wg' 112 rfl rfl S rfl h11 rfl) rfl rfl S (y_move rfl S rfl) fun a S => ?_)
    refine wl_of (op_y (wg' 112 rfl rfl S rfl h11 rfl) rfl rfl S (y_bin rfl S rfl rfl rfl) fun a S => ?_)
    refine wl_of (op_y (wn rfl) rfl rfl S (y_and' rfl h11 S rfl rfl) fun a S => ?_)
    exact kk _ _ (S.join 3 115 rfl rfl) H
  refine wl_of (op_y (wn rfl) rfl rfl S (y_move rfl S rfl) fun a S => ?_)
  refine' wl_and 2 116 rfl S H rfl rfl rfl rfl rfl rfl rfl (fun _ S => (wn rfl)) (fun h12 kk => ?yh12) (fun a w S H => ?_)
  case yh12 =>
    have h12p := h12; try simp only [decide_eq_true_eq, decide_eq_false_iff_not, Bool.or_eq_true, Bool.and_eq_true, Bool.or_eq_false_iff, Bool.and_eq_false_iff, Bool.not_eq_true', Bool.not_eq_false', bne_iff_ne, beq_iff_eq, beq_eq_false_iff_ne, bne_eq_false_iff_eq, ne_eq, Decidable.not_not, Int.not_lt, Int.not_le, gt_iff_lt, ge_iff_le, Bool.true_eq_false, Bool.false_eq_true, not_true_eq_false, not_false_eq_true] at h12p
    refine wl_of (op_y (wg' 116 rfl rfl S rfl h12 rfl) rfl rfl S (y_move rfl S rfl) fun a S => ?_)
    refine wl_of (op_y (wg' 116 rfl rfl S rfl h12 rfl) rfl rfl S (y_bin rfl S rfl rfl rfl) fun a S => ?_)
    refine wl_of (op_y (wn rfl) rfl rfl S (y_and' rfl h12 S rfl rfl) fun a S => ?_)
    exact kk _ _ (S.join 3 119 rfl rfl) H
  refine wl_of (op_y (wn rfl) rfl rfl S (y_move rfl S rfl) fun a S => ?_)
  refine' wl_and 2 120 rfl S H rfl rfl rfl rfl rfl rfl rfl (fun _ S => (wn rfl)) (fun h13 kk => ?yh13) (fun a w S H => ?_)
  case yh13 =>
    have h13p := h13; try simp only [decide_eq_true_eq, decide_eq_false_iff_not, Bool.or_eq_true, Bool.and_eq_true, Bool.or_eq_false_iff, Bool.and_eq_false_iff, Bool.not_eq_true', Bool.not_eq_false', bne_iff_ne, beq_iff_eq, beq_eq_false_iff_ne, bne_eq_false_iff_eq, ne_eq, Decidable.not_not, Int.not_lt, Int.not_le, gt_iff_lt, ge_iff_le, Bool.true_eq_false, Bool.false_eq_true, not_true_eq_false, not_false_eq_true] at h13p
    refine wl_of (op_y (wg' 120 rfl rfl S rfl h13 rfl) rfl rfl S (y_move rfl S rfl) fun a S => ?_)
    refine wl_of (op_y (wg' 120 rfl rfl S rfl h13 rfl) rfl rfl S (y_not rfl S rfl) fun a S => ?_)
    refine wl_of (op_y (wn rfl) rfl rfl S (y_and' rfl h13 S rfl rfl) fun a S => ?_)
    exact kk _ _ (S.join 3 123 rfl rfl) H
  refine wl_of (op_y (wn rfl) rfl rfl S (y_move rfl S rfl) fun a S => ?_)
  refine' wl_and 1 124 rfl S H rfl rfl rfl rfl rfl rfl rfl (fun _ S => (wn rfl)) (fun h14 kk => ?yh14) (fun a w S H => ?_)
  case yh14 =>
    have h14p := h14; try simp only [decide_eq_true_eq, decide_eq_false_iff_not, Bool.or_eq_true, Bool.and_eq_true, Bool.or_eq_false_iff, Bool.and_eq_false_iff, Bool.not_eq_true', Bool.not_eq_false', bne_iff_ne, beq_iff_eq, beq_eq_false_iff_ne, bne_eq_false_iff_eq, ne_eq, Decidable.not_not, Int.not_lt, Int.not_le, gt_iff_lt, ge_iff_le, Bool.true_eq_false, Bool.false_eq_true, not_true_eq_false, not_false_eq_true] at h14p
    refine wl_of (op_y (wg' 124 rfl rfl S rfl h14 rfl) rfl rfl S (y_move rfl S rfl) fun a S => ?_)
    refine wl_of (op_y (wn rfl) rfl rfl S (y_and' rfl h14 S rfl rfl) fun a S => ?_)
    exact kk _ _ (S.join 2 126 rfl rfl) H
  refine wl_of (op_y (wn rfl) rfl rfl S (y_move rfl S rfl) fun a S => ?_)
  refine' wl_and 1 127 rfl S H rfl rfl rfl rfl rfl rfl rfl (fun _ S => (wn rfl)) (fun h15 kk => ?yh15) (fun a w S H => ?_)
  case yh15 =>
    have h15p := h15; try simp only [decide_eq_true_eq, decide_eq_false_iff_not, Bool.or_eq_true, Bool.and_eq_true, Bool.or_eq_false_iff, Bool.and_eq_false_iff, Bool.not_eq_true', Bool.not_eq_false', bne_iff_ne, beq_iff_eq, beq_eq_false_iff_ne, bne_eq_false_iff_eq, ne_eq, Decidable.not_not, Int.not_lt, Int.not_le, gt_iff_lt, ge_iff_le, Bool.true_eq_false, Bool.false_eq_true, not_true_eq_false, not_false_eq_true] at h15p
    refine wl_of (op_y (wg' 127 rfl rfl S rfl h15 rfl) rfl rfl S (y_move rfl S rfl) fun a S => ?_)
    refine wl_of (op_y (wn rfl) rfl rfl S (y_and' rfl h15 S rfl rfl) fun a S => ?_)
    exact kk _ _ (S.join 2 129 rfl rfl) H
  refine wl_of (op_y (wn rfl) rfl rfl S (y_move rfl S rfl) fun a S => ?_)
  refine' wl_and 1 130 rfl S H rfl rfl rfl rfl rfl rfl rfl (fun _ S => (wn rfl)) (fun h16 kk => ?yh16) (fun a w S H => ?_)
  case yh16 =>
    have h16p := h16; try simp only [decide_eq_true_eq, decide_eq_false_iff_not, Bool.or_eq_true, Bool.and_eq_true, Bool.or_eq_false_iff, Bool.and_eq_false_iff, Bool.not_eq_true', Bool.not_eq_false', bne_iff_ne, beq_iff_eq, beq_eq_false_iff_ne, bne_eq_false_iff_eq, ne_eq, Decidable.not_not, Int.not_lt, Int.not_le, gt_iff_lt, ge_iff_le, Bool.true_eq_false, Bool.false_eq_true, not_true_eq_false, not_false_eq_true] at h16p
    refine wl_of (op_y (wg' 130 rfl rfl S rfl h16 rfl) rfl rfl S (y_move rfl S rfl) fun a S => ?_)
    refine wl_of (op_y (wn rfl) rfl rfl S (y_and' rfl h16 S rfl rfl) fun a S => ?_)
    exact kk _ _ (S.join 2 132 rfl rfl) H
  refine wl_of (op_y (wn rfl) rfl rfl S (y_assign rfl S rfl) fun a S => ?_)
  refine wpList_nil ?_
  refine n_then ?_
  have S := S.nil.cons S 0 rfl
  refine wp_ret ?_
  refine ret1 rfl S rfl ?_
  exact ⟨by kernel_rfl, H.toExt⟩
/-- foyer/foyerlaw25.ClockMatchesReference -/
theorem law1 (r : Rd) (u : Int) (v : Value) (l : List Rd) (w0 : World) (hv : IsSl w0 v 3 Rd.enc l) :
    Ret Try.prog 3 #[.agg (Rd.enc r).toArray, .int .i64 u, v] w0 (fun v w => v = .bool true ∧ Ext w0 w) := by
  refine ret_of_wp (n := 106) Try.func3 rfl rfl rfl (fl := [(0, .agg (Rd.enc r).toArray), (1, .int .i64 u), (2, v)]) rfl (fun a S => ?_)
  have H := HSat.start w0
  have H := H.ro0 (Sl v 3 Rd.enc l) rfl (hv)
  refine wp_seq ?_
  -- region 0 law.go:26
  refine wp_region_lit ?_
  refine wl_of (op_boxa (wn rfl) rfl rfl rfl S H rfl fun b3 a w S H => ?_)
  refine wl_of (op_y (wn rfl) rfl rfl S (y_assign rfl S rfl) fun a S => ?_)
  refine wpList_nil ?_
  refine n_then ?_
  refine wp_seq ?_
  -- region 1 law.go:27
  refine wp_region_lit ?_
  refine wl_of (op_call (wn rfl) rfl rfl S (co_func rfl Try.call9 S rfl) (head_spec _) fun v w hc a S => ?_)
  obtain ⟨rfl, he⟩ := hc
  have H := H.ext he
  refine wl_of (op_y (wn rfl) rfl rfl S (y_assign rfl S rfl) fun a S => ?_)
  refine wpList_nil ?_
  refine n_then ?_
  refine wp_seq ?_
  refine wp_seq ?_
  -- region 2 law.go:28
  refine wp_region_lit ?_
  refine wl_of (op_y (wn rfl) rfl rfl S (y_move rfl S rfl) fun a S => ?_)
  refine wl_of (op_y (wn rfl) rfl rfl S (y_lens rfl Try.underlying24 S H rfl) fun a S => ?_)
  refine wl_of (op_y (wn rfl) rfl rfl S (y_bin rfl S rfl rfl rfl) fun a S => ?_)
  refine wpList_nil ?_
  refine n_then ?_
  have S := (((((S.nil.cons S 2 rfl).cons S 1 rfl).cons S 3 rfl).cons S 6 rfl).cons S 7 rfl).cons S 27 rfl
  -- cond 1
  refine c_if S rfl (fun h1 => ?_) (fun h1 => ?_)
  · have h1p := h1; try simp only [decide_eq_true_eq, decide_eq_false_iff_not, Bool.or_eq_true, Bool.and_eq_true, Bool.or_eq_false_iff, Bool.and_eq_false_iff, Bool.not_eq_true', Bool.not_eq_false', bne_iff_ne, beq_iff_eq, beq_eq_false_iff_ne, bne_eq_false_iff_eq, ne_eq, Decidable.not_not, Int.not_lt, Int.not_le, gt_iff_lt, ge_iff_le, Bool.true_eq_false, Bool.false_eq_true, not_true_eq_false, not_false_eq_true] at h1p
    refine wp_seq ?_
    -- region 3 law.go:29
    refine wp_region_lit ?_
    refine wl_of (op_y (wn rfl) rfl rfl S (y_move rfl S rfl) fun a S => ?_)
    refine wl_of (op_y (wn rfl) rfl rfl S (y_assign rfl S rfl) fun a S => ?_)
    refine wpList_nil ?_
    refine n_then ?_
    refine wp_ret ?_
    refine r_then (ret1 rfl S rfl ?_)
    exact ⟨rfl, H.toExt⟩
  · have h1p := h1; try simp only [decide_eq_true_eq, decide_eq_false_iff_not, Bool.or_eq_true, Bool.and_eq_true, Bool.or_eq_false_iff, Bool.and_eq_false_iff, Bool.not_eq_true', Bool.not_eq_false', bne_iff_ne, beq_iff_eq, beq_eq_false_iff_ne, bne_eq_false_iff_eq, ne_eq, Decidable.not_not, Int.not_lt, Int.not_le, gt_iff_lt, ge_iff_le, Bool.true_eq_false, Bool.false_eq_true, not_true_eq_false, not_false_eq_true] at h1p
    refine wp_skip ?_
    refine n_then ?_
    refine wp_seq ?_
    -- region 4 law.go:31
    refine wp_region_lit ?_
    refine wl_of (op_y (wn rfl) rfl rfl S (y_load0 rfl S H rfl (by exact Fagg23)) fun a S => ?_)
    refine wl_of (op_call (wn rfl) rfl rfl S (co_func rfl Try.call10 S rfl) (bounds_spec _ _) fun v w hc a S => ?_)
    obtain ⟨rfl, he⟩ := hc
    have H := H.ext he
    refine wl_of (op_y (wn rfl) rfl rfl S (y_move rfl S rfl) fun a S => ?_)
    refine wl_of (op_y (wn rfl) rfl rfl S (y_extract rfl S rfl rfl) fun a S => ?_)
    refine wl_of (op_y (wn rfl) rfl rfl S (y_extract rfl S rfl rfl) fun a S => ?_)
    refine wl_of (op_y (wn rfl) rfl rfl S (y_extract rfl S rfl rfl) fun a S => ?_)
    refine wl_of (op_y (wn rfl) rfl rfl S (y_assign rfl S rfl) fun a S => ?_)
    refine wl_of (op_y (wn rfl) rfl rfl S (y_assign rfl S rfl) fun a S => ?_)
    refine wl_of (op_y (wn rfl) rfl rfl S (y_assign rfl S rfl) fun a S => ?_)
    refine wpList_nil ?_
    refine n_then ?_
    have S := (((((((S.nil.cons S 2 rfl).cons S 1 rfl).cons S 3 rfl).cons S 6 rfl).cons S 7 rfl).cons S 8 rfl).cons S 9 rfl).cons S 10 rfl
    refine wp_seq ?_
    -- region 5 law.go:32
    refine wp_region_lit ?_
    refine wl_of (op_y (wn rfl) rfl rfl S (y_load0 rfl S H rfl (by exact Fagg23)) fun a S => ?_)
    refine wl_of (op_call (wn rfl) rfl rfl S (co_func rfl Try.call11 S rfl) (refBounds_spec _ _) fun v w hc a S => ?_)
    obtain ⟨rfl, he⟩ := hc
    have H := H.ext he
    refine wl_of (op_y (wn rfl) rfl rfl S (y_move rfl S rfl) fun a S => ?_)
    refine wl_of (op_y (wn rfl) rfl rfl S (y_extract rfl S rfl rfl) fun a S => ?_)
    refine wl_of (op_y (wn rfl) rfl rfl S (y_extract rfl S rfl rfl) fun a S => ?_)
    refine wl_of (op_y (wn rfl) rfl rfl S (y_extract rfl S rfl rfl) fun a S => ?_)
    refine wl_of (op_y (wn rfl) rfl rfl S (y_assign rfl S rfl) fun a S => ?_)
    refine wl_of (op_y (wn rfl) rfl rfl S (y_assign rfl S rfl) fun a S => ?_)
    refine wl_of (op_y (wn rfl) rfl rfl S (y_assign rfl S rfl) fun a S => ?_)
    refine wpList_nil ?_
    refine n_then ?_
    have S := ((((((((((S.nil.cons S 2 rfl).cons S 1 rfl).cons S 3 rfl).cons S 6 rfl).cons S 7 rfl).cons S 8 rfl).cons S 9 rfl).cons S 10 rfl).cons S 11 rfl).cons S 12 rfl).cons S 13 rfl
    refine wp_seq ?_
    -- region 6 law.go:33
    refine wp_region_lit ?_
    refine wl_of (op_y (wn rfl) rfl rfl S (y_load0 rfl S H rfl (by exact Fagg23)) fun a S => ?_)
    refine wl_of (op_y (wn rfl) rfl rfl S (y_move rfl S rfl) fun a S => ?_)
    refine wl_of (op_call (wn rfl) rfl rfl S (co_func rfl Try.call12 S rfl) (over_spec _ _ _) fun v w hc a S => ?_)
    obtain ⟨rfl, he⟩ := hc
    have H := H.ext he
    refine wl_of (op_y (wn rfl) rfl rfl S (y_move rfl S rfl) fun a S => ?_)
    refine wl_of (op_y (wn rfl) rfl rfl S (y_extract rfl S rfl rfl) fun a S => ?_)
    refine wl_of (op_y (wn rfl) rfl rfl S (y_extract rfl S rfl rfl) fun a S => ?_)
    refine wl_of (op_y (wn rfl) rfl rfl S (y_assign rfl S rfl) fun a S => ?_)
    refine wl_of (op_y (wn rfl) rfl rfl S (y_assign rfl S rfl) fun a S => ?_)
    refine wpList_nil ?_
    refine n_then ?_
    have S := ((((((((((((S.nil.cons S 2 rfl).cons S 1 rfl).cons S 3 rfl).cons S 6 rfl).cons S 7 rfl).cons S 8 rfl).cons S 9 rfl).cons S 10 rfl).cons S 11 rfl).cons S 12 rfl).cons S 13 rfl).cons S 14 rfl).cons S 15 rfl
    refine wp_seq ?_
    -- region 7 law.go:34
    refine wp_region_lit ?_
    refine wl_of (op_y (wn rfl) rfl rfl S (y_load0 rfl S H rfl (by exact Fagg23)) fun a S => ?_)
    refine wl_of (op_y (wn rfl) rfl rfl S (y_move rfl S rfl) fun a S => ?_)
    refine wl_of (op_call (wn rfl) rfl rfl S (co_func rfl Try.call13 S rfl) (refOver_spec _ _ _) fun v w hc a S => ?_)
    obtain ⟨rfl, he⟩ := hc
    have H := H.ext he
    refine wl_of (op_y (wn rfl) rfl rfl S (y_move rfl S rfl) fun a S => ?_)
    refine wl_of (op_y (wn rfl) rfl rfl S (y_extract rfl S rfl rfl) fun a S => ?_)
    refine wl_of (op_y (wn rfl) rfl rfl S (y_extract rfl S rfl rfl) fun a S => ?_)
    refine wl_of (op_y (wn rfl) rfl rfl S (y_assign rfl S rfl) fun a S => ?_)
    refine wl_of (op_y (wn rfl) rfl rfl S (y_assign rfl S rfl) fun a S => ?_)
    refine wpList_nil ?_
    refine n_then ?_
    have S := ((((((((((((S.nil.cons S 2 rfl).cons S 6 rfl).cons S 7 rfl).cons S 8 rfl).cons S 9 rfl).cons S 10 rfl).cons S 11 rfl).cons S 12 rfl).cons S 13 rfl).cons S 14 rfl).cons S 15 rfl).cons S 16 rfl).cons S 17 rfl
    refine wp_seq ?_
    -- region 8 law.go:35
    refine wp_region_lit ?_
    refine wl_of (op_y (wn rfl) rfl rfl S (y_move rfl S rfl) fun a S => ?_)
    refine wl_of (op_call (wn rfl) rfl rfl S (co_func rfl Try.call14 S rfl) (agree_spec _ _ _ (H.sl v) (by omega)) fun v w hc a S => ?_)
    obtain ⟨rfl, he⟩ := hc
    have H := H.ext he
    refine wl_of (op_y (wn rfl) rfl rfl S (y_move rfl S rfl) fun a S => ?_)
    refine wl_of (op_y (wn rfl) rfl rfl S (y_extract rfl S rfl rfl) fun a S => ?_)
    refine wl_of (op_y (wn rfl) rfl rfl S (y_extract rfl S rfl rfl) fun a S => ?_)
    refine wl_of (op_y (wn rfl) rfl rfl S (y_extract rfl S rfl rfl) fun a S => ?_)
    refine wl_of (op_y (wn rfl) rfl rfl S (y_assign rfl S rfl) fun a S => ?_)
    refine wl_of (op_y (wn rfl) rfl rfl S (y_assign rfl S rfl) fun a S => ?_)
    refine wl_of (op_y (wn rfl) rfl rfl S (y_assign rfl S rfl) fun a S => ?_)
    refine wpList_nil ?_
    refine n_then ?_
    have S := (((((((((((((((S.nil.cons S 2 rfl).cons S 6 rfl).cons S 7 rfl).cons S 8 rfl).cons S 9 rfl).cons S 10 rfl).cons S 11 rfl).cons S 12 rfl).cons S 13 rfl).cons S 14 rfl).cons S 15 rfl).cons S 16 rfl).cons S 17 rfl).cons S 18 rfl).cons S 19 rfl).cons S 20 rfl
    refine wp_seq ?_
    -- region 9 law.go:36
    refine wp_region_lit ?_
    refine wl_of (op_y (wn rfl) rfl rfl S (y_move rfl S rfl) fun a S => ?_)
    refine wl_of (op_call (wn rfl) rfl rfl S (co_func rfl Try.call15 S rfl) (refAgree_spec _ _ _ (H.sl v) (by omega)) fun v w hc a S => ?_)
    obtain ⟨rfl, he⟩ := hc
    have H := H.ext he
    refine wl_of (op_y (wn rfl) rfl rfl S (y_move rfl S rfl) fun a S => ?_)
    refine wl_of (op_y (wn rfl) rfl rfl S (y_extract rfl S rfl rfl) fun a S => ?_)
    refine wl_of (op_y (wn rfl) rfl rfl S (y_extract rfl S rfl rfl) fun a S => ?_)
    refine wl_of (op_y (wn rfl) rfl rfl S (y_extract rfl S rfl rfl) fun a S => ?_)
    refine wl_of (op_y (wn rfl) rfl rfl S (y_assign rfl S rfl) fun a S => ?_)
    refine wl_of (op_y (wn rfl) rfl rfl S (y_assign rfl S rfl) fun a S => ?_)
    refine wl_of (op_y (wn rfl) rfl rfl S (y_assign rfl S rfl) fun a S => ?_)
    refine wpList_nil ?_
    refine n_then ?_
    have S := (((((((((((((((((S.nil.cons S 6 rfl).cons S 7 rfl).cons S 8 rfl).cons S 9 rfl).cons S 10 rfl).cons S 11 rfl).cons S 12 rfl).cons S 13 rfl).cons S 14 rfl).cons S 15 rfl).cons S 16 rfl).cons S 17 rfl).cons S 18 rfl).cons S 19 rfl).cons S 20 rfl).cons S 21 rfl).cons S 22 rfl).cons S 23 rfl
    refine wp_seq ?_
    -- region 10 law.go:37
    refine wp_region_lit ?_
    refine wl_of (op_y (wn rfl) rfl rfl S (y_move rfl S rfl) fun a S => ?_)
    refine wl_of (op_y (wn rfl) rfl rfl S (y_move rfl S rfl) fun a S => ?_)
    refine' wl_and 3 66 rfl S H rfl rfl rfl rfl rfl rfl rfl (fun _ S => (wn rfl)) (fun h2 kk => ?yh2) (fun a w S H => ?_)
    case yh2 =>
      have h2p := h2; try simp only [decide_eq_true_eq, decide_eq_false_iff_not, Bool.or_eq_true, Bool.and_eq_true, Bool.or_eq_false_iff, Bool.and_eq_false_iff, Bool.not_eq_true', Bool.not_eq_false', bne_iff_ne, beq_iff_eq, beq_eq_false_iff_ne, bne_eq_false_iff_eq, ne_eq, Decidable.not_not, Int.not_lt, Int.not_le, gt_iff_lt, ge_iff_le, Bool.true_eq_false, Bool.false_eq_true, not_true_eq_false, not_false_eq_true] at h2p
      refine wl_of (op_y (wg' 66 rfl rfl S rfl h2 rfl) rfl rfl S (y_move rfl S rfl) fun a S => ?_)
      refine wl_of (op_y (wg' 66 rfl rfl S rfl h2 rfl) rfl rfl S (y_move rfl S rfl) fun a S => ?_)
      refine wl_of (op_y (wg' 66 rfl rfl S rfl h2 rfl) rfl rfl S (y_bin rfl S rfl rfl rfl) fun a S => ?_)
      refine wl_of (op_y (wn rfl) rfl rfl S (y_and' rfl h2 S rfl rfl) fun a S => ?_)
      exact kk _ _ (S.join 4 70 rfl rfl) H
    refine wl_of (op_y (wn rfl) rfl rfl S (y_move rfl S rfl) fun a S => ?_)
    refine' wl_and 3 71 rfl S H rfl rfl rfl rfl rfl rfl rfl (fun _ S => (wn rfl)) (fun h3 kk => ?yh3) (fun a w S H => ?_)
    case yh3 =>
      have h3p := h3; try simp only [decide_eq_true_eq, decide_eq_false_iff_not, Bool.or_eq_true, Bool.and_eq_true, Bool.or_eq_false_iff, Bool.and_eq_false_iff, Bool.not_eq_true', Bool.not_eq_false', bne_iff_ne, beq_iff_eq, beq_eq_false_iff_ne, bne_eq_false_iff_eq, ne_eq, Decidable.not_not, Int.not_lt, Int.not_le, gt_iff_lt, ge_iff_le, Bool.true_eq_false, Bool.false_eq_true, not_true_eq_false, not_false_eq_true] at h3p
      refine wl_of (op_y (wg' 71 rfl rfl S rfl h3 rfl) rfl rfl S (y_move rfl S rfl) fun a S => ?_)
      refine wl_of (op_y (wg' 71 rfl rfl S rfl h3 rfl) rfl rfl S (y_move rfl S rfl) fun a S => ?_)
      refine wl_of (op_y (wg' 71 rfl rfl S rfl h3 rfl) rfl rfl S (y_bin rfl S rfl rfl rfl) fun a S => ?_)
      refine wl_of (op_y (wn rfl) rfl rfl S (y_and' rfl h3 S rfl rfl) fun a S => ?_)
      exact kk _ _ (S.join 4 75 rfl rfl) H
    refine wl_of (op_y (wn rfl) rfl rfl S (y_move rfl S rfl) fun a S => ?_)
    refine' wl_and 3 76 rfl S H rfl rfl rfl rfl rfl rfl rfl (fun _ S => (wn rfl)) (fun h4 kk => ?yh4) (fun a w S H => ?_)
    case yh4 =>
      have h4p := h4; try simp only [decide_eq_true_eq, decide_eq_false_iff_not, Bool.or_eq_true, Bool.and_eq_true, Bool.or_eq_false_iff, Bool.and_eq_false_iff, Bool.not_eq_true', Bool.not_eq_false', bne_iff_ne, beq_iff_eq, beq_eq_false_iff_ne, bne_eq_false_iff_eq, ne_eq, Decidable.not_not, Int.not_lt, Int.not_le, gt_iff_lt, ge_iff_le, Bool.true_eq_false, Bool.false_eq_true, not_true_eq_false, not_false_eq_true] at h4p
      refine wl_of (op_y (wg' 76 rfl rfl S rfl h4 rfl) rfl rfl S (y_move rfl S rfl) fun a S => ?_)
      refine wl_of (op_y (wg' 76 rfl rfl S rfl h4 rfl) rfl rfl S (y_move rfl S rfl) fun a S => ?_)
      refine wl_of (op_y (wg' 76 rfl rfl S rfl h4 rfl) rfl rfl S (y_bin rfl S rfl rfl rfl) fun a S => ?_)
      refine wl_of (op_y (wn rfl) rfl rfl S (y_and' rfl h4 S rfl rfl) fun a S => ?_)
      exact kk _ _ (S.join 4 80 rfl rfl) H
    refine wl_of (op_y (wn rfl) rfl rfl S (y_move rfl S rfl) fun a S => ?_)
    refine' wl_and 3 81 rfl S H rfl rfl rfl rfl rfl rfl rfl (fun _ S => (wn rfl)) (fun h5 kk => ?yh5) (fun a w S H => ?_)
    case yh5 =>
      have h5p := h5; try simp only [decide_eq_true_eq, decide_eq_false_iff_not, Bool.or_eq_true, Bool.and_eq_true, Bool.or_eq_false_iff, Bool.and_eq_false_iff, Bool.not_eq_true', Bool.not_eq_false', bne_iff_ne, beq_iff_eq, beq_eq_false_iff_ne, bne_eq_false_iff_eq, ne_eq, Decidable.not_not, Int.not_lt, Int.not_le, gt_iff_lt, ge_iff_le, Bool.true_eq_false, Bool.false_eq_true, not_true_eq_false, not_false_eq_true] at h5p
      refine wl_of (op_y (wg' 81 rfl rfl S rfl h5 rfl) rfl rfl S (y_move rfl S rfl) fun a S => ?_)
      refine wl_of (op_y (wg' 81 rfl rfl S rfl h5 rfl) rfl rfl S (y_move rfl S rfl) fun a S => ?_)
      refine wl_of (op_y (wg' 81 rfl rfl S rfl h5 rfl) rfl rfl S (y_eqb rfl Try.underlying4 S rfl rfl) fun a S => ?_)
      refine wl_of (op_y (wn rfl) rfl rfl S (y_and' rfl h5 S rfl rfl) fun a S => ?_)
      exact kk _ _ (S.join 4 85 rfl rfl) H
    refine wl_of (op_y (wn rfl) rfl rfl S (y_move rfl S rfl) fun a S => ?_)
    refine' wl_and 3 86 rfl S H rfl rfl rfl rfl rfl rfl rfl (fun _ S => (wn rfl)) (fun h6 kk => ?yh6) (fun a w S H => ?_)
    case yh6 =>
      have h6p := h6; try simp only [decide_eq_true_eq, decide_eq_false_iff_not, Bool.or_eq_true, Bool.and_eq_true, Bool.or_eq_false_iff, Bool.and_eq_false_iff, Bool.not_eq_true', Bool.not_eq_false', bne_iff_ne, beq_iff_eq, beq_eq_false_iff_ne, bne_eq_false_iff_eq, ne_eq, Decidable.not_not, Int.not_lt, Int.not_le, gt_iff_lt, ge_iff_le, Bool.true_eq_false, Bool.false_eq_true, not_true_eq_false, not_false_eq_true] at h6p
      refine wl_of (op_y (wg' 86 rfl rfl S rfl h6 rfl) rfl rfl S (y_move rfl S rfl) fun a S => ?_)
      refine wl_of (op_y (wg' 86 rfl rfl S rfl h6 rfl) rfl rfl S (y_move rfl S rfl) fun a S => ?_)
      refine wl_of (op_y (wg' 86 rfl rfl S rfl h6 rfl) rfl rfl S (y_eqb rfl Try.underlying4 S rfl rfl) fun a S => ?_)
      refine wl_of (op_y (wn rfl) rfl rfl S (y_and' rfl h6 S rfl rfl) fun a S => ?_)
      exact kk _ _ (S.join 4 90 rfl rfl) H
    refine wl_of (op_y (wn rfl) rfl rfl S (y_move rfl S rfl) fun a S => ?_)
    refine' wl_and 3 91 rfl S H rfl rfl rfl rfl rfl rfl rfl (fun _ S => (wn rfl)) (fun h7 kk => ?yh7) (fun a w S H => ?_)
    case yh7 =>
      have h7p := h7; try simp only [decide_eq_true_eq, decide_eq_false_iff_not, Bool.or_eq_true, Bool.and_eq_true, Bool.or_eq_false_iff, Bool.and_eq_false_iff, Bool.not_eq_true', Bool.not_eq_false', bne_iff_ne, beq_iff_eq, beq_eq_false_iff_ne, bne_eq_false_iff_eq, ne_eq, Decidable.not_not, Int.not_lt, Int.not_le, gt_iff_lt, ge_iff_le, Bool.true_eq_false, Bool.false_eq_true, not_true_eq_false, not_false_eq_true] at h7p
      refine wl_of (op_y (wg' 91 rfl rfl S rfl h7 rfl) rfl rfl S (y_move rfl S rfl) fun a S => ?_)
      refine wl_of (op_y (wg' 91 rfl rfl S rfl h7 rfl) rfl rfl S (y_move rfl S rfl) fun a S => ?_)
      refine wl_of (op_y (wg' 91 rfl rfl S rfl h7 rfl) rfl rfl S (y_bin rfl S rfl rfl rfl) fun a S => ?_)
      refine wl_of (op_y (wn rfl) rfl rfl S (y_and' rfl h7 S rfl rfl) fun a S => ?_)
      exact kk _ _ (S.join 4 95 rfl rfl) H
    refine wl_of (op_y (wn rfl) rfl rfl S (y_move rfl S rfl) fun a S => ?_)
    refine' wl_and 3 96 rfl S H rfl rfl rfl rfl rfl rfl rfl (fun _ S => (wn rfl)) (fun h8 kk => ?yh8) (fun a w S H => ?_)
    case yh8 =>
      have h8p := h8; try simp only [decide_eq_true_eq, decide_eq_false_iff_not, Bool.or_eq_true, Bool.and_eq_true, Bool.or_eq_false_iff, Bool.and_eq_false_iff, Bool.not_eq_true', Bool.not_eq_false', bne_iff_ne, beq_iff_eq, beq_eq_false_iff_ne, bne_eq_false_iff_eq, ne_eq, Decidable.not_not, Int.not_lt, Int.not_le, gt_iff_lt, ge_iff_le, Bool.true_eq_false, Bool.false_eq_true, not_true_eq_false, not_false_eq_true] at h8p
      refine wl_of (op_y (wg' 96 rfl rfl S rfl h8 rfl) rfl rfl S (y_move rfl S rfl) fun a S => ?_)
      refine wl_of (op_y (wg' 96 rfl rfl S rfl h8 rfl) rfl rfl S (y_move rfl S rfl) fun a S => ?_)
      refine wl_of (op_y (wg' 96 rfl rfl S rfl h8 rfl) rfl rfl S (y_bin rfl S rfl rfl rfl) fun a S => ?_)
      refine wl_of (op_y (wn rfl) rfl rfl S (y_and' rfl h8 S rfl rfl) fun a S => ?_)
      exact kk _ _ (S.join 4 100 rfl rfl) H
    refine wl_of (op_y (wn rfl) rfl rfl S (y_move rfl S rfl) fun a S => ?_)
    refine' wl_and 3 101 rfl S H rfl rfl rfl rfl rfl rfl rfl (fun _ S => (wn rfl)) (fun h9 kk => ?yh9) (fun a w S H => ?_)
    case yh9 =>
      have h9p := h9; try simp only [decide_eq_true_eq, decide_eq_false_iff_not, Bool.or_eq_true, Bool.and_eq_true, Bool.or_eq_false_iff, Bool.and_eq_false_iff, Bool.not_eq_true', Bool.not_eq_false', bne_iff_ne, beq_iff_eq, beq_eq_false_iff_ne, bne_eq_false_iff_eq, ne_eq, Decidable.not_not, Int.not_lt, Int.not_le, gt_iff_lt, ge_iff_le, Bool.true_eq_false, Bool.false_eq_true, not_true_eq_false, not_false_eq_true] at h9p
      refine wl_of (op_y (wg' 101 rfl rfl S rfl h9 rfl) rfl rfl S (y_move rfl S rfl) fun a S => ?_)
      refine wl_of (op_y (wg' 101 rfl rfl S rfl h9 rfl) rfl rfl S (y_move rfl S rfl) fun a S => ?_)
      refine wl_of (op_y (wg' 101 rfl rfl S rfl h9 rfl) rfl rfl S (y_bin rfl S rfl rfl rfl) fun a S => ?_)
      refine wl_of (op_y (wn rfl) rfl rfl S (y_and' rfl h9 S rfl rfl) fun a S => ?_)
      exact kk _ _ (S.join 4 105 rfl rfl) H
    refine wl_of (op_y (wn rfl) rfl rfl S (y_assign rfl S rfl) fun a S => ?_)
    refine wpList_nil ?_
    refine n_then ?_
    have S := S.nil.cons S 6 rfl
    refine wp_ret ?_
    refine ret1 rfl S rfl ?_
    refine ⟨congrArg Value.bool ?_, H.toExt⟩
    simp
/-- foyer/foyerlaw25.ClockTrue -/
theorem law2 (r : Rd) (t : Int) (w0 : World) (ht : -9223372036854775808 ≤ t ∧ t ≤ 9223372036854775807) :
    Ret Try.prog 4 #[.agg (Rd.enc r).toArray, .int .i64 t] w0 (fun v w => v = .bool true ∧ Ext w0 w) := by
  refine ret_of_wp (n := 136) Try.func4 rfl rfl rfl (fl := [(0, .agg (Rd.enc r).toArray), (1, .int .i64 t)]) rfl (fun a S => ?_)
  have H := HSat.start w0
  refine wp_seq ?_
  -- region 0 law.go:41
  refine wp_region_lit ?_
  refine wl_of (op_boxa (wn rfl) rfl rfl rfl S H rfl fun b2 a w S H => ?_)
  refine wl_of (op_y (wn rfl) rfl rfl S (y_assign rfl S rfl) fun a S => ?_)
  refine wpList_nil ?_
  refine n_then ?_
  refine wp_seq ?_
  -- region 1 law.go:42
  refine wp_region_lit ?_
  refine wl_of (op_call (wn rfl) rfl rfl S (co_func rfl Try.call9 S rfl) (head_spec _) fun v w hc a S => ?_)
  obtain ⟨rfl, he⟩ := hc
  have H := H.ext he
  refine wl_of (op_y (wn rfl) rfl rfl S (y_assign rfl S rfl) fun a S => ?_)
  refine wpList_nil ?_
  refine n_then ?_
  refine wp_seq ?_
  -- region 2 law.go:43
  refine wp_region_lit ?_
  refine wl_of (op_y (wn rfl) rfl rfl S (y_load0 rfl S H rfl (by exact Fagg23)) fun a S => ?_)
  refine wl_of (op_call (wn rfl) rfl rfl S (co_func rfl Try.call10 S rfl) (bounds_spec _ _) fun v w hc a S => ?_)
  obtain ⟨rfl, he⟩ := hc
  have H := H.ext he
  refine wl_of (op_y (wn rfl) rfl rfl S (y_move rfl S rfl) fun a S => ?_)
  refine wl_of (op_y (wn rfl) rfl rfl S (y_extract rfl S rfl rfl) fun a S => ?_)
  refine wl_of (op_y (wn rfl) rfl rfl S (y_extract rfl S rfl rfl) fun a S => ?_)
  refine wl_of (op_y (wn rfl) rfl rfl S (y_extract rfl S rfl rfl) fun a S => ?_)
  refine wl_of (op_y (wn rfl) rfl rfl S (y_assign rfl S rfl) fun a S => ?_)
  refine wl_of (op_y (wn rfl) rfl rfl S (y_assign rfl S rfl) fun a S => ?_)
  refine wl_of (op_y (wn rfl) rfl rfl S (y_assign rfl S rfl) fun a S => ?_)
  refine wpList_nil ?_
  refine n_then ?_
  have S := ((((((S.nil.cons S 1 rfl).cons S 2 rfl).cons S 4 rfl).cons S 5 rfl).cons S 6 rfl).cons S 7 rfl).cons S 8 rfl
  refine wp_seq ?_
  refine wp_seq ?_
  -- region 3 law.go:44
  refine wp_region_lit ?_
  refine wl_of (op_y (wn rfl) rfl rfl S (y_move rfl S rfl) fun a S => ?_)
  refine wl_of (op_y (wn rfl) rfl rfl S (y_bin rfl S rfl rfl rfl) fun a S => ?_)
  refine wpList_nil ?_
  refine n_then ?_
  -- cond 1
  refine c_if S rfl (fun h1 => ?_) (fun h1 => ?_)
  · have h1p := h1; try simp only [decide_eq_true_eq, decide_eq_false_iff_not, Bool.or_eq_true, Bool.and_eq_true, Bool.or_eq_false_iff, Bool.and_eq_false_iff, Bool.not_eq_true', Bool.not_eq_false', bne_iff_ne, beq_iff_eq, beq_eq_false_iff_ne, bne_eq_false_iff_eq, ne_eq, Decidable.not_not, Int.not_lt, Int.not_le, gt_iff_lt, ge_iff_le, Bool.true_eq_false, Bool.false_eq_true, not_true_eq_false, not_false_eq_true] at h1p
    have hv := bad_valid r h1p
    rw [bnd_no r hv] at S
    dsimp only at S
    refine wp_seq ?_
    -- region 4 law.go:45
    refine wp_region_lit ?_
    refine wl_of (op_y (wn rfl) rfl rfl S (y_move rfl S rfl) fun a S => ?_)
    refine wl_of (op_y (wn rfl) rfl rfl S (y_move rfl S rfl) fun a S => ?_)
    refine' wl_and 2 21 rfl S H rfl rfl rfl rfl rfl rfl rfl (fun _ S => (wn rfl)) (fun h2 kk => ?yh2) (fun a w S H => ?_)
    case yh2 =>
      have h2p := h2; try simp only [decide_eq_true_eq, decide_eq_false_iff_not, Bool.or_eq_true, Bool.and_eq_true, Bool.or_eq_false_iff, Bool.and_eq_false_iff, Bool.not_eq_true', Bool.not_eq_false', bne_iff_ne, beq_iff_eq, beq_eq_false_iff_ne, bne_eq_false_iff_eq, ne_eq, Decidable.not_not, Int.not_lt, Int.not_le, gt_iff_lt, ge_iff_le, Bool.true_eq_false, Bool.false_eq_true, not_true_eq_false, not_false_eq_true] at h2p
      refine wl_of (op_y (wg' 21 rfl rfl S rfl h2 rfl) rfl rfl S (y_move rfl S rfl) fun a S => ?_)
      refine wl_of (op_y (wg' 21 rfl rfl S rfl h2 rfl) rfl rfl S (y_bin rfl S rfl rfl rfl) fun a S => ?_)
      refine wl_of (op_y (wn rfl) rfl rfl S (y_and' rfl h2 S rfl rfl) fun a S => ?_)
      exact kk _ _ (S.join 3 24 rfl rfl) H
    refine wl_of (op_y (wn rfl) rfl rfl S (y_move rfl S rfl) fun a S => ?_)
    refine' wl_and 2 25 rfl S H rfl rfl rfl rfl rfl rfl rfl (fun _ S => (wn rfl)) (fun h3 kk => ?yh3) (fun a w S H => ?_)
    case yh3 =>
      have h3p := h3; try simp only [decide_eq_true_eq, decide_eq_false_iff_not, Bool.or_eq_true, Bool.and_eq_true, Bool.or_eq_false_iff, Bool.and_eq_false_iff, Bool.not_eq_true', Bool.not_eq_false', bne_iff_ne, beq_iff_eq, beq_eq_false_iff_ne, bne_eq_false_iff_eq, ne_eq, Decidable.not_not, Int.not_lt, Int.not_le, gt_iff_lt, ge_iff_le, Bool.true_eq_false, Bool.false_eq_true, not_true_eq_false, not_false_eq_true] at h3p
      refine wl_of (op_y (wg' 25 rfl rfl S rfl h3 rfl) rfl rfl S (y_move rfl S rfl) fun a S => ?_)
      refine wl_of (op_y (wg' 25 rfl rfl S rfl h3 rfl) rfl rfl S (y_bin rfl S rfl rfl rfl) fun a S => ?_)
      refine wl_of (op_y (wn rfl) rfl rfl S (y_and' rfl h3 S rfl rfl) fun a S => ?_)
      exact kk _ _ (S.join 3 28 rfl rfl) H
    refine wl_of (op_y (wn rfl) rfl rfl S (y_move rfl S rfl) fun a S => ?_)
    refine' wl_and 30 29 rfl S H rfl rfl rfl rfl rfl rfl rfl (fun _ S => (wn rfl)) (fun h4 kk => ?yh4) (fun a w S H => ?_)
    case yh4 =>
      have h4p := h4; try simp only [decide_eq_true_eq, decide_eq_false_iff_not, Bool.or_eq_true, Bool.and_eq_true, Bool.or_eq_false_iff, Bool.and_eq_false_iff, Bool.not_eq_true', Bool.not_eq_false', bne_iff_ne, beq_iff_eq, beq_eq_false_iff_ne, bne_eq_false_iff_eq, ne_eq, Decidable.not_not, Int.not_lt, Int.not_le, gt_iff_lt, ge_iff_le, Bool.true_eq_false, Bool.false_eq_true, not_true_eq_false, not_false_eq_true] at h4p
      refine wl_of (op_y (wg' 29 rfl rfl S rfl h4 rfl) rfl rfl S (y_faddrb rfl Ffo23_0 S rfl) fun a S => ?_)
      refine wl_of (op_y (wg' 29 rfl rfl S rfl h4 rfl) rfl rfl S (y_load rfl Fsca3 S H rfl rfl) fun a S => ?_)
      refine wl_of (op_y (wg' 29 rfl rfl S rfl h4 rfl) rfl rfl S (y_bin rfl S rfl rfl rfl) fun a S => ?_)
      refine wl_of (op_y (wg' 29 rfl rfl S rfl h4 rfl) rfl rfl S (y_move rfl S rfl) fun a S => ?_)
      refine' wl_or 3 33 rfl S H rfl rfl rfl rfl rfl rfl rfl (fun _ S => (wg' 29 rfl rfl S rfl h4 rfl)) (fun h5 kk => ?yh5) (fun a w S H => ?_)
      case yh5 =>
        have h5p := h5; try simp only [decide_eq_true_eq, decide_eq_false_iff_not, Bool.or_eq_true, Bool.and_eq_true, Bool.or_eq_false_iff, Bool.and_eq_false_iff, Bool.not_eq_true', Bool.not_eq_false', bne_iff_ne, beq_iff_eq, beq_eq_false_iff_ne, bne_eq_false_iff_eq, ne_eq, Decidable.not_not, Int.not_lt, Int.not_le, gt_iff_lt, ge_iff_le, Bool.true_eq_false, Bool.false_eq_true, not_true_eq_false, not_false_eq_true] at h5p
        refine wl_of (op_y (wg' 33 rfl rfl S rfl h5 rfl) rfl rfl S (y_faddrb rfl Ffo23_0 S rfl) fun a S => ?_)
        refine wl_of (op_y (wg' 33 rfl rfl S rfl h5 rfl) rfl rfl S (y_load rfl Fsca3 S H rfl rfl) fun a S => ?_)
        refine wl_of (op_y (wg' 33 rfl rfl S rfl h5 rfl) rfl rfl S (y_bin rfl S rfl rfl rfl) fun a S => ?_)
        refine wl_of (op_y (wg' 29 rfl rfl S rfl h4 rfl) rfl rfl S (y_or' rfl h5 S rfl rfl) fun a S => ?_)
        exact kk _ _ (S.join 4 37 rfl rfl) H
      refine wl_of (op_y (wg' 29 rfl rfl S rfl h4 rfl) rfl rfl S (y_move rfl S rfl) fun a S => ?_)
      refine' wl_or 3 38 rfl S H rfl rfl rfl rfl rfl rfl rfl (fun _ S => (wg' 29 rfl rfl S rfl h4 rfl)) (fun h6 kk => ?yh6) (fun a w S H => ?_)
      case yh6 =>
        have h6p := h6; try simp only [decide_eq_true_eq, decide_eq_false_iff_not, Bool.or_eq_true, Bool.and_eq_true, Bool.or_eq_false_iff, Bool.and_eq_false_iff, Bool.not_eq_true', Bool.not_eq_false', bne_iff_ne, beq_iff_eq, beq_eq_false_iff_ne, bne_eq_false_iff_eq, ne_eq, Decidable.not_not, Int.not_lt, Int.not_le, gt_iff_lt, ge_iff_le, Bool.true_eq_false, Bool.false_eq_true, not_true_eq_false, not_false_eq_true] at h6p
        refine wl_of (op_y (wg' 38 rfl rfl S rfl h6 rfl) rfl rfl S (y_faddrb rfl Ffo23_1 S rfl) fun a S => ?_)
        refine wl_of (op_y (wg' 38 rfl rfl S rfl h6 rfl) rfl rfl S (y_load rfl Fsca3 S H rfl rfl) fun a S => ?_)
        refine wl_of (op_y (wg' 38 rfl rfl S rfl h6 rfl) rfl rfl S (y_bin rfl S rfl rfl rfl) fun a S => ?_)
        refine wl_of (op_y (wg' 29 rfl rfl S rfl h4 rfl) rfl rfl S (y_or' rfl h6 S rfl rfl) fun a S => ?_)
        exact kk _ _ (S.join 4 42 rfl rfl) H
      refine wl_of (op_y (wg' 29 rfl rfl S rfl h4 rfl) rfl rfl S (y_move rfl S rfl) fun a S => ?_)
      refine' wl_or 5 43 rfl S H rfl rfl rfl rfl rfl rfl rfl (fun _ S => (wg' 29 rfl rfl S rfl h4 rfl)) (fun h7 kk => ?yh7) (fun a w S H => ?_)
      case yh7 =>
        have h7p := h7; try simp only [decide_eq_true_eq, decide_eq_false_iff_not, Bool.or_eq_true, Bool.and_eq_true, Bool.or_eq_false_iff, Bool.and_eq_false_iff, Bool.not_eq_true', Bool.not_eq_false', bne_iff_ne, beq_iff_eq, beq_eq_false_iff_ne, bne_eq_false_iff_eq, ne_eq, Decidable.not_not, Int.not_lt, Int.not_le, gt_iff_lt, ge_iff_le, Bool.true_eq_false, Bool.false_eq_true, not_true_eq_false, not_false_eq_true] at h7p
        refine wl_of (op_y (wg' 43 rfl rfl S rfl h7 rfl) rfl rfl S (y_faddrb rfl Ffo23_1 S rfl) fun a S => ?_)
        refine wl_of (op_y (wg' 43 rfl rfl S rfl h7 rfl) rfl rfl S (y_load rfl Fsca3 S H rfl rfl) fun a S => ?_)
        refine wl_of (op_y (wg' 43 rfl rfl S rfl h7 rfl) rfl rfl S (y_faddrb rfl Ffo23_0 S rfl) fun a S => ?_)
        refine wl_of (op_y (wg' 43 rfl rfl S rfl h7 rfl) rfl rfl S (y_load rfl Fsca3 S H rfl rfl) fun a S => ?_)
        refine wl_of (op_y (wg' 43 rfl rfl S rfl h7 rfl) rfl rfl S (y_bin rfl S rfl rfl rfl) fun a S => ?_)
        refine wl_of (op_y (wg' 29 rfl rfl S rfl h4 rfl) rfl rfl S (y_or' rfl h7 S rfl rfl) fun a S => ?_)
        exact kk _ _ (S.join 6 49 rfl rfl) H
      refine wl_of (op_y (wg' 29 rfl rfl S rfl h4 rfl) rfl rfl S (y_move rfl S rfl) fun a S => ?_)
      refine' wl_or 3 50 rfl S H rfl rfl rfl rfl rfl rfl rfl (fun _ S => (wg' 29 rfl rfl S rfl h4 rfl)) (fun h8 kk => ?yh8) (fun a w S H => ?_)
      case yh8 =>
        have h8p := h8; try simp only [decide_eq_true_eq, decide_eq_false_iff_not, Bool.or_eq_true, Bool.and_eq_true, Bool.or_eq_false_iff, Bool.and_eq_false_iff, Bool.not_eq_true', Bool.not_eq_false', bne_iff_ne, beq_iff_eq, beq_eq_false_iff_ne, bne_eq_false_iff_eq, ne_eq, Decidable.not_not, Int.not_lt, Int.not_le, gt_iff_lt, ge_iff_le, Bool.true_eq_false, Bool.false_eq_true, not_true_eq_false, not_false_eq_true] at h8p
        refine wl_of (op_y (wg' 50 rfl rfl S rfl h8 rfl) rfl rfl S (y_faddrb rfl Ffo23_2 S rfl) fun a S => ?_)
        refine wl_of (op_y (wg' 50 rfl rfl S rfl h8 rfl) rfl rfl S (y_load rfl Fsca3 S H rfl rfl) fun a S => ?_)
        refine wl_of (op_y (wg' 50 rfl rfl S rfl h8 rfl) rfl rfl S (y_bin rfl S rfl rfl rfl) fun a S => ?_)
        refine wl_of (op_y (wg' 29 rfl rfl S rfl h4 rfl) rfl rfl S (y_or' rfl h8 S rfl rfl) fun a S => ?_)
        exact kk _ _ (S.join 4 54 rfl rfl) H
      refine wl_of (op_y (wg' 29 rfl rfl S rfl h4 rfl) rfl rfl S (y_move rfl S rfl) fun a S => ?_)
      refine' wl_or 3 55 rfl S H rfl rfl rfl rfl rfl rfl rfl (fun _ S => (wg' 29 rfl rfl S rfl h4 rfl)) (fun h9 kk => ?yh9) (fun a w S H => ?_)
      case yh9 =>
        have h9p := h9; try simp only [decide_eq_true_eq, decide_eq_false_iff_not, Bool.or_eq_true, Bool.and_eq_true, Bool.or_eq_false_iff, Bool.and_eq_false_iff, Bool.not_eq_true', Bool.not_eq_false', bne_iff_ne, beq_iff_eq, beq_eq_false_iff_ne, bne_eq_false_iff_eq, ne_eq, Decidable.not_not, Int.not_lt, Int.not_le, gt_iff_lt, ge_iff_le, Bool.true_eq_false, Bool.false_eq_true, not_true_eq_false, not_false_eq_true] at h9p
        refine wl_of (op_y (wg' 55 rfl rfl S rfl h9 rfl) rfl rfl S (y_faddrb rfl Ffo23_2 S rfl) fun a S => ?_)
        refine wl_of (op_y (wg' 55 rfl rfl S rfl h9 rfl) rfl rfl S (y_load rfl Fsca3 S H rfl rfl) fun a S => ?_)
        refine wl_of (op_y (wg' 55 rfl rfl S rfl h9 rfl) rfl rfl S (y_bin rfl S rfl rfl rfl) fun a S => ?_)
        refine wl_of (op_y (wg' 29 rfl rfl S rfl h4 rfl) rfl rfl S (y_or' rfl h9 S rfl rfl) fun a S => ?_)
        exact kk _ _ (S.join 4 59 rfl rfl) H
      refine wl_of (op_y (wn rfl) rfl rfl S (y_and' rfl h4 S rfl rfl) fun a S => ?_)
      exact kk _ _ (S.join 14 60 rfl rfl) H
    refine wl_of (op_y (wn rfl) rfl rfl S (y_assign rfl S rfl) fun a S => ?_)
    refine wpList_nil ?_
    refine n_then ?_
    have S := (((((S.nil.cons S 1 rfl).cons S 2 rfl).cons S 5 rfl).cons S 6 rfl).cons S 7 rfl).cons S 4 rfl
    refine wp_ret ?_
    refine r_then (ret1 rfl S rfl ?_)
    refine ⟨congrArg Value.bool ?_, H.toExt⟩
    exact law2_bad r hv
  · have h1p := h1; try simp only [decide_eq_true_eq, decide_eq_false_iff_not, Bool.or_eq_true, Bool.and_eq_true, Bool.or_eq_false_iff, Bool.and_eq_false_iff, Bool.not_eq_true', Bool.not_eq_false', bne_iff_ne, beq_iff_eq, beq_eq_false_iff_ne, bne_eq_false_iff_eq, ne_eq, Decidable.not_not, Int.not_lt, Int.not_le, gt_iff_lt, ge_iff_le, Bool.true_eq_false, Bool.false_eq_true, not_true_eq_false, not_false_eq_true] at h1p
    have hv := good_valid r h1p
    have hp := prod_bd r hv
    have hq := unsure_bd r hv
    have hr := (valid_iff r).1 hv
    rw [bnd_yes r hv] at S
    dsimp only at S
    have hu : unsure r = ((r.shows - r.synced) * r.drift + 999999) / 1000000 := rfl
    refine wp_skip ?_
    refine n_then ?_
    refine wp_seq ?_
    -- region 5 law.go:47
    refine wp_region_lit ?_
    refine wl_of (op_y (wn rfl) rfl rfl S (y_faddrb rfl Ffo23_0 S rfl) fun a S => ?_)
    refine wl_of (op_y (wn rfl) rfl rfl S (y_load rfl Fsca3 S H rfl rfl) fun a S => ?_)
    refine wl_of (op_y (wn rfl) rfl rfl S (y_faddrb rfl Ffo23_1 S rfl) fun a S => ?_)
    refine wl_of (op_y (wn rfl) rfl rfl S (y_load rfl Fsca3 S H rfl rfl) fun a S => ?_)
    refine wl_of (op_y (wn rfl) rfl rfl S (y_sub rfl S rfl rfl (by omega)) fun a S => ?_)
    refine wl_of (op_y (wn rfl) rfl rfl S (y_faddrb rfl Ffo23_2 S rfl) fun a S => ?_)
    refine wl_of (op_y (wn rfl) rfl rfl S (y_load rfl Fsca3 S H rfl rfl) fun a S => ?_)
    refine wl_of (op_y (wn rfl) rfl rfl S (y_mul rfl S rfl rfl (by omega)) fun a S => ?_)
    refine wl_of (op_y (wn rfl) rfl rfl S (y_assign rfl S rfl) fun a S => ?_)
    refine wpList_nil ?_
    refine n_then ?_
    have S := ((((((S.nil.cons S 1 rfl).cons S 2 rfl).cons S 4 rfl).cons S 5 rfl).cons S 6 rfl).cons S 7 rfl).cons S 9 rfl
    refine wp_seq ?_
    refine wp_seq ?_
    -- region 6 law.go:48
    refine wp_region_lit ?_
    refine wl_of (op_y (wn rfl) rfl rfl S (y_move rfl S rfl) fun a S => ?_)
    refine wl_of (op_y (wn rfl) rfl rfl S (y_faddrb rfl Ffo23_0 S rfl) fun a S => ?_)
    refine wl_of (op_y (wn rfl) rfl rfl S (y_load rfl Fsca3 S H rfl rfl) fun a S => ?_)
    refine wl_of (op_y (wn rfl) rfl rfl S (y_sub rfl S rfl rfl (by omega)) fun a S => ?_)
    refine wl_of (op_y (wn rfl) rfl rfl S (y_faddrb rfl Ffo23_0 S rfl) fun a S => ?_)
    refine wl_of (op_y (wn rfl) rfl rfl S (y_load rfl Fsca3 S H rfl rfl) fun a S => ?_)
    refine wl_of (op_y (wn rfl) rfl rfl S (y_move rfl S rfl) fun a S => ?_)
    refine wl_of (op_y (wn rfl) rfl rfl S (y_sub rfl S rfl rfl (by omega)) fun a S => ?_)
    refine wl_of (op_y (wn rfl) rfl rfl S (y_bin rfl S rfl rfl rfl) fun a S => ?_)
    refine wl_of (op_y (wn rfl) rfl rfl S (y_move rfl S rfl) fun a S => ?_)
    refine' wl_or 4 78 rfl S H rfl rfl rfl rfl rfl rfl rfl (fun _ S => (wn rfl)) (fun h10 kk => ?yh10) (fun a w S H => ?_)
    case yh10 =>
      have h10p := h10; try simp only [decide_eq_true_eq, decide_eq_false_iff_not, Bool.or_eq_true, Bool.and_eq_true, Bool.or_eq_false_iff, Bool.and_eq_false_iff, Bool.not_eq_true', Bool.not_eq_false', bne_iff_ne, beq_iff_eq, beq_eq_false_iff_ne, bne_eq_false_iff_eq, ne_eq, Decidable.not_not, Int.not_lt, Int.not_le, gt_iff_lt, ge_iff_le, Bool.true_eq_false, Bool.false_eq_true, not_true_eq_false, not_false_eq_true] at h10p
      refine wl_of (op_y (wg' 78 rfl rfl S rfl h10 rfl) rfl rfl S (y_move rfl S rfl) fun a S => ?_)
      refine wl_of (op_y (wg' 78 rfl rfl S rfl h10 rfl) rfl rfl S (y_faddrb rfl Ffo23_0 S rfl) fun a S => ?_)
      refine wl_of (op_y (wg' 78 rfl rfl S rfl h10 rfl) rfl rfl S (y_load rfl Fsca3 S H rfl rfl) fun a S => ?_)
      refine wl_of (op_y (wg' 78 rfl rfl S rfl h10 rfl) rfl rfl S (y_bin rfl S rfl rfl rfl) fun a S => ?_)
      refine wl_of (op_y (wn rfl) rfl rfl S (y_or' rfl h10 S rfl rfl) fun a S => ?_)
      exact kk _ _ (S.join 5 83 rfl rfl) H
    refine wl_of (op_y (wn rfl) rfl rfl S (y_move rfl S rfl) fun a S => ?_)
    refine' wl_or 7 84 rfl S H rfl rfl rfl rfl rfl rfl rfl (fun _ S => (wn rfl)) (fun h11 kk => ?yh11) (fun a w S H => ?_)
    case yh11 =>
      have h11p := h11; try simp only [decide_eq_true_eq, decide_eq_false_iff_not, Bool.or_eq_true, Bool.and_eq_true, Bool.or_eq_false_iff, Bool.and_eq_false_iff, Bool.not_eq_true', Bool.not_eq_false', bne_iff_ne, beq_iff_eq, beq_eq_false_iff_ne, bne_eq_false_iff_eq, ne_eq, Decidable.not_not, Int.not_lt, Int.not_le, gt_iff_lt, ge_iff_le, Bool.true_eq_false, Bool.false_eq_true, not_true_eq_false, not_false_eq_true] at h11p
      refine wl_of (op_y (wg' 84 rfl rfl S rfl h11 rfl) rfl rfl S (y_move rfl S rfl) fun a S => ?_)
      refine wl_of (op_y (wg' 84 rfl rfl S rfl h11 rfl) rfl rfl S (y_faddrb rfl Ffo23_0 S rfl) fun a S => ?_)
      refine wl_of (op_y (wg' 84 rfl rfl S rfl h11 rfl) rfl rfl S (y_load rfl Fsca3 S H rfl rfl) fun a S => ?_)
      refine wl_of (op_y (wg' 84 rfl rfl S rfl h11 rfl) rfl rfl S (y_sub rfl S rfl rfl (by omega)) fun a S => ?_)
      refine wl_of (op_y (wg' 84 rfl rfl S rfl h11 rfl) rfl rfl S (y_mul rfl S rfl rfl (by omega)) fun a S => ?_)
      refine wl_of (op_y (wg' 84 rfl rfl S rfl h11 rfl) rfl rfl S (y_move rfl S rfl) fun a S => ?_)
      refine wl_of (op_y (wg' 84 rfl rfl S rfl h11 rfl) rfl rfl S (y_bin rfl S rfl rfl rfl) fun a S => ?_)
      refine wl_of (op_y (wn rfl) rfl rfl S (y_or' rfl h11 S rfl rfl) fun a S => ?_)
      exact kk _ _ (S.join 8 92 rfl rfl) H
    refine wl_of (op_y (wn rfl) rfl rfl S (y_move rfl S rfl) fun a S => ?_)
    refine' wl_or 8 93 rfl S H rfl rfl rfl rfl rfl rfl rfl (fun _ S => (wn rfl)) (fun h12 kk => ?yh12) (fun a w S H => ?_)
    case yh12 =>
      have h12p := h12; try simp only [decide_eq_true_eq, decide_eq_false_iff_not, Bool.or_eq_true, Bool.and_eq_true, Bool.or_eq_false_iff, Bool.and_eq_false_iff, Bool.not_eq_true', Bool.not_eq_false', bne_iff_ne, beq_iff_eq, beq_eq_false_iff_ne, bne_eq_false_iff_eq, ne_eq, Decidable.not_not, Int.not_lt, Int.not_le, gt_iff_lt, ge_iff_le, Bool.true_eq_false, Bool.false_eq_true, not_true_eq_false, not_false_eq_true] at h12p
      refine wl_of (op_y (wg' 93 rfl rfl S rfl h12 rfl) rfl rfl S (y_move rfl S rfl) fun a S => ?_)
      refine wl_of (op_y (wg' 93 rfl rfl S rfl h12 rfl) rfl rfl S (y_faddrb rfl Ffo23_0 S rfl) fun a S => ?_)
      refine wl_of (op_y (wg' 93 rfl rfl S rfl h12 rfl) rfl rfl S (y_load rfl Fsca3 S H rfl rfl) fun a S => ?_)
      refine wl_of (op_y (wg' 93 rfl rfl S rfl h12 rfl) rfl rfl S (y_sub rfl S rfl rfl (by omega)) fun a S => ?_)
      refine wl_of (op_y (wg' 93 rfl rfl S rfl h12 rfl) rfl rfl S (y_sub rfl S rfl rfl (by omega)) fun a S => ?_)
      refine wl_of (op_y (wg' 93 rfl rfl S rfl h12 rfl) rfl rfl S (y_mul rfl S rfl rfl (by omega)) fun a S => ?_)
      refine wl_of (op_y (wg' 93 rfl rfl S rfl h12 rfl) rfl rfl S (y_move rfl S rfl) fun a S => ?_)
      refine wl_of (op_y (wg' 93 rfl rfl S rfl h12 rfl) rfl rfl S (y_bin rfl S rfl rfl rfl) fun a S => ?_)
      refine wl_of (op_y (wn rfl) rfl rfl S (y_or' rfl h12 S rfl rfl) fun a S => ?_)
      exact kk _ _ (S.join 9 102 rfl rfl) H
    refine wpList_nil ?_
    refine n_then ?_
    have S := (((((((S.nil.cons S 1 rfl).cons S 2 rfl).cons S 4 rfl).cons S 5 rfl).cons S 6 rfl).cons S 7 rfl).cons S 9 rfl).cons S 102 rfl
    -- cond 2
    refine c_if S rfl (fun h13 => ?_) (fun h13 => ?_)
    · have h13p := h13; try simp only [decide_eq_true_eq, decide_eq_false_iff_not, Bool.or_eq_true, Bool.and_eq_true, Bool.or_eq_false_iff, Bool.and_eq_false_iff, Bool.not_eq_true', Bool.not_eq_false', bne_iff_ne, beq_iff_eq, beq_eq_false_iff_ne, bne_eq_false_iff_eq, ne_eq, Decidable.not_not, Int.not_lt, Int.not_le, gt_iff_lt, ge_iff_le, Bool.true_eq_false, Bool.false_eq_true, not_true_eq_false, not_false_eq_true] at h13p
      exfalso; revert h13; simp only [Bool.and_eq_true, Bool.or_eq_true, decide_eq_true_eq, beq_iff_eq, Bool.true_and, Bool.not_eq_true', decide_eq_false_iff_not, bne_iff_ne, ne_eq, ge_iff_le]; omega
    · have h13p := h13; try simp only [decide_eq_true_eq, decide_eq_false_iff_not, Bool.or_eq_true, Bool.and_eq_true, Bool.or_eq_false_iff, Bool.and_eq_false_iff, Bool.not_eq_true', Bool.not_eq_false', bne_iff_ne, beq_iff_eq, beq_eq_false_iff_ne, bne_eq_false_iff_eq, ne_eq, Decidable.not_not, Int.not_lt, Int.not_le, gt_iff_lt, ge_iff_le, Bool.true_eq_false, Bool.false_eq_true, not_true_eq_false, not_false_eq_true] at h13p
      refine wp_skip ?_
      refine n_then ?_
      refine wp_seq ?_
      refine wp_seq ?_
      -- region 8 law.go:51
      refine wp_region_lit ?_
      refine wl_of (op_y (wn rfl) rfl rfl S (y_move rfl S rfl) fun a S => ?_)
      refine wl_of (op_y (wn rfl) rfl rfl S (y_bin rfl S rfl rfl rfl) fun a S => ?_)
      refine wl_of (op_y (wn rfl) rfl rfl S (y_move rfl S rfl) fun a S => ?_)
      refine' wl_or 2 105 rfl S H rfl rfl rfl rfl rfl rfl rfl (fun _ S => (wn rfl)) (fun h14 kk => ?yh14) (fun a w S H => ?_)
      case yh14 =>
        have h14p := h14; try simp only [decide_eq_true_eq, decide_eq_false_iff_not, Bool.or_eq_true, Bool.and_eq_true, Bool.or_eq_false_iff, Bool.and_eq_false_iff, Bool.not_eq_true', Bool.not_eq_false', bne_iff_ne, beq_iff_eq, beq_eq_false_iff_ne, bne_eq_false_iff_eq, ne_eq, Decidable.not_not, Int.not_lt, Int.not_le, gt_iff_lt, ge_iff_le, Bool.true_eq_false, Bool.false_eq_true, not_true_eq_false, not_false_eq_true] at h14p
        refine wl_of (op_y (wg' 105 rfl rfl S rfl h14 rfl) rfl rfl S (y_move rfl S rfl) fun a S => ?_)
        refine wl_of (op_y (wg' 105 rfl rfl S rfl h14 rfl) rfl rfl S (y_bin rfl S rfl rfl rfl) fun a S => ?_)
        refine wl_of (op_y (wn rfl) rfl rfl S (y_or' rfl h14 S rfl rfl) fun a S => ?_)
        exact kk _ _ (S.join 3 108 rfl rfl) H
      refine wpList_nil ?_
      refine n_then ?_
      have S := (((((((S.nil.cons S 1 rfl).cons S 2 rfl).cons S 4 rfl).cons S 5 rfl).cons S 6 rfl).cons S 7 rfl).cons S 9 rfl).cons S 108 rfl
      -- cond 3
      refine c_if S rfl (fun h15 => ?_) (fun h15 => ?_)
      · have h15p := h15; try simp only [decide_eq_true_eq, decide_eq_false_iff_not, Bool.or_eq_true, Bool.and_eq_true, Bool.or_eq_false_iff, Bool.and_eq_false_iff, Bool.not_eq_true', Bool.not_eq_false', bne_iff_ne, beq_iff_eq, beq_eq_false_iff_ne, bne_eq_false_iff_eq, ne_eq, Decidable.not_not, Int.not_lt, Int.not_le, gt_iff_lt, ge_iff_le, Bool.true_eq_false, Bool.false_eq_true, not_true_eq_false, not_false_eq_true] at h15p
        refine wp_seq ?_
        -- region 9 law.go:52
        refine wp_region_lit ?_
        refine wl_of (op_y (wn rfl) rfl rfl S (y_move rfl S rfl) fun a S => ?_)
        refine wl_of (op_y (wn rfl) rfl rfl S (y_assign rfl S rfl) fun a S => ?_)
        refine wpList_nil ?_
        refine n_then ?_
        refine wp_ret ?_
        refine r_then (ret1 rfl S rfl ?_)
        exact ⟨rfl, H.toExt⟩
      · have h15p := h15; try simp only [decide_eq_true_eq, decide_eq_false_iff_not, Bool.or_eq_true, Bool.and_eq_true, Bool.or_eq_false_iff, Bool.and_eq_false_iff, Bool.not_eq_true', Bool.not_eq_false', bne_iff_ne, beq_iff_eq, beq_eq_false_iff_ne, bne_eq_false_iff_eq, ne_eq, Decidable.not_not, Int.not_lt, Int.not_le, gt_iff_lt, ge_iff_le, Bool.true_eq_false, Bool.false_eq_true, not_true_eq_false, not_false_eq_true] at h15p
        refine wp_skip ?_
        refine n_then ?_
        refine wp_seq ?_
        -- region 10 law.go:54
        refine wp_region_lit ?_
        refine wl_of (op_y (wn rfl) rfl rfl S (y_move rfl S rfl) fun a S => ?_)
        refine wl_of (op_y (wn rfl) rfl rfl S (y_faddrb rfl Ffo23_0 S rfl) fun a S => ?_)
        refine wl_of (op_y (wn rfl) rfl rfl S (y_load rfl Fsca3 S H rfl rfl) fun a S => ?_)
        refine wl_of (op_y (wn rfl) rfl rfl S (y_sub rfl S rfl rfl (by omega)) fun a S => ?_)
        refine wl_of (op_y (wn rfl) rfl rfl S (y_faddrb rfl Ffo23_0 S rfl) fun a S => ?_)
        refine wl_of (op_y (wn rfl) rfl rfl S (y_load rfl Fsca3 S H rfl rfl) fun a S => ?_)
        refine wl_of (op_y (wn rfl) rfl rfl S (y_move rfl S rfl) fun a S => ?_)
        refine wl_of (op_y (wn rfl) rfl rfl S (y_sub rfl S rfl rfl (by omega)) fun a S => ?_)
        refine wl_of (op_y (wn rfl) rfl rfl S (y_max rfl S rfl rfl) fun a S => ?_)
        refine wl_of (op_y (wn rfl) rfl rfl S (y_assign rfl S rfl) fun a S => ?_)
        refine wpList_nil ?_
        refine n_then ?_
        have S := ((((((S.nil.cons S 1 rfl).cons S 4 rfl).cons S 5 rfl).cons S 6 rfl).cons S 7 rfl).cons S 9 rfl).cons S 10 rfl
        refine wp_seq ?_
        -- region 11 law.go:55
        refine wp_region_lit ?_
        refine wl_of (op_y (wn rfl) rfl rfl S (y_move rfl S rfl) fun a S => ?_)
        refine wl_of (op_y (wn rfl) rfl rfl S (y_move rfl S rfl) fun a S => ?_)
        refine' wl_and 14 120 rfl S H rfl rfl rfl rfl rfl rfl rfl (fun _ S => (wn rfl)) (fun h16 kk => ?yh16) (fun a w S H => ?_)
        case yh16 =>
          have h16p := h16; try simp only [decide_eq_true_eq, decide_eq_false_iff_not, Bool.or_eq_true, Bool.and_eq_true, Bool.or_eq_false_iff, Bool.and_eq_false_iff, Bool.not_eq_true', Bool.not_eq_false', bne_iff_ne, beq_iff_eq, beq_eq_false_iff_ne, bne_eq_false_iff_eq, ne_eq, Decidable.not_not, Int.not_lt, Int.not_le, gt_iff_lt, ge_iff_le, Bool.true_eq_false, Bool.false_eq_true, not_true_eq_false, not_false_eq_true] at h16p
          refine wl_of (op_y (wg' 120 rfl rfl S rfl h16 rfl) rfl rfl S (y_move rfl S rfl) fun a S => ?_)
          refine wl_of (op_y (wg' 120 rfl rfl S rfl h16 rfl) rfl rfl S (y_mul rfl S rfl rfl (by omega)) fun a S => ?_)
          refine wl_of (op_y (wg' 120 rfl rfl S rfl h16 rfl) rfl rfl S (y_move rfl S rfl) fun a S => ?_)
          refine wl_of (op_y (wg' 120 rfl rfl S rfl h16 rfl) rfl rfl S (y_bin rfl S rfl rfl rfl) fun a S => ?_)
          refine wl_of (op_y (wg' 120 rfl rfl S rfl h16 rfl) rfl rfl S (y_move rfl S rfl) fun a S => ?_)
          refine' wl_or 8 125 rfl S H rfl rfl rfl rfl rfl rfl rfl (fun _ S => (wg' 120 rfl rfl S rfl h16 rfl)) (fun h17 kk => ?yh17) (fun a w S H => ?_)
          case yh17 =>
            have h17p := h17; try simp only [decide_eq_true_eq, decide_eq_false_iff_not, Bool.or_eq_true, Bool.and_eq_true, Bool.or_eq_false_iff, Bool.and_eq_false_iff, Bool.not_eq_true', Bool.not_eq_false', bne_iff_ne, beq_iff_eq, beq_eq_false_iff_ne, bne_eq_false_iff_eq, ne_eq, Decidable.not_not, Int.not_lt, Int.not_le, gt_iff_lt, ge_iff_le, Bool.true_eq_false, Bool.false_eq_true, not_true_eq_false, not_false_eq_true] at h17p
            refine wl_of (op_y (wg' 125 rfl rfl S rfl h17 rfl) rfl rfl S (y_move rfl S rfl) fun a S => ?_)
            refine wl_of (op_y (wg' 125 rfl rfl S rfl h17 rfl) rfl rfl S (y_move rfl S rfl) fun a S => ?_)
            refine wl_of (op_y (wg' 125 rfl rfl S rfl h17 rfl) rfl rfl S (y_bin rfl S rfl rfl rfl) fun a S => ?_)
            refine wl_of (op_y (wg' 125 rfl rfl S rfl h17 rfl) rfl rfl S (y_move rfl S rfl) fun a S => ?_)
            refine' wl_and 3 129 rfl S H rfl rfl rfl rfl rfl rfl rfl (fun _ S => (wg' 125 rfl rfl S rfl h17 rfl)) (fun h18 kk => ?yh18) (fun a w S H => ?_)
            case yh18 =>
              have h18p := h18; try simp only [decide_eq_true_eq, decide_eq_false_iff_not, Bool.or_eq_true, Bool.and_eq_true, Bool.or_eq_false_iff, Bool.and_eq_false_iff, Bool.not_eq_true', Bool.not_eq_false', bne_iff_ne, beq_iff_eq, beq_eq_false_iff_ne, bne_eq_false_iff_eq, ne_eq, Decidable.not_not, Int.not_lt, Int.not_le, gt_iff_lt, ge_iff_le, Bool.true_eq_false, Bool.false_eq_true, not_true_eq_false, not_false_eq_true] at h18p
              refine wl_of (op_y (wg' 129 rfl rfl S rfl h18 rfl) rfl rfl S (y_move rfl S rfl) fun a S => ?_)
              refine wl_of (op_y (wg' 129 rfl rfl S rfl h18 rfl) rfl rfl S (y_move rfl S rfl) fun a S => ?_)
              refine wl_of (op_y (wg' 129 rfl rfl S rfl h18 rfl) rfl rfl S (y_bin rfl S rfl rfl rfl) fun a S => ?_)
              refine wl_of (op_y (wg' 125 rfl rfl S rfl h17 rfl) rfl rfl S (y_and' rfl h18 S rfl rfl) fun a S => ?_)
              exact kk _ _ (S.join 4 133 rfl rfl) H
            refine wl_of (op_y (wg' 120 rfl rfl S rfl h16 rfl) rfl rfl S (y_or' rfl h17 S rfl rfl) fun a S => ?_)
            exact kk _ _ (S.join 6 134 rfl rfl) H
          refine wl_of (op_y (wn rfl) rfl rfl S (y_and' rfl h16 S rfl rfl) fun a S => ?_)
          exact kk _ _ (S.join 7 135 rfl rfl) H
        refine wl_of (op_y (wn rfl) rfl rfl S (y_assign rfl S rfl) fun a S => ?_)
        refine wpList_nil ?_
        refine n_then ?_
        have S := S.nil.cons S 4 rfl
        refine wp_ret ?_
        refine ret1 rfl S rfl ?_
        refine ⟨congrArg Value.bool ?_, H.toExt⟩
        simp only [Bool.and_eq_true, Bool.or_eq_true, decide_eq_true_eq, beq_iff_eq, Bool.true_and, Bool.not_eq_true', decide_eq_false_iff_not]; omega
/-- foyer/foyerlaw25.ClockOver -/
theorem law3 (r : Rd) (p q : Int) (w0 : World) :
    Ret Try.prog 5 #[.agg (Rd.enc r).toArray, .int .i64 p, .int .i64 q] w0 (fun v w => v = .bool true ∧ Ext w0 w) := by
  refine ret_of_wp (n := 114) Try.func5 rfl rfl rfl (fl := [(0, .agg (Rd.enc r).toArray), (1, .int .i64 p), (2, .int .i64 q)]) rfl (fun a S => ?_)
  have H := HSat.start w0
  refine wp_seq ?_
  -- region 0 law.go:59
  refine wp_region_lit ?_
  refine wl_of (op_boxa (wn rfl) rfl rfl rfl S H rfl fun b3 a w S H => ?_)
  refine wl_of (op_y (wn rfl) rfl rfl S (y_assign rfl S rfl) fun a S => ?_)
  refine wpList_nil ?_
  refine n_then ?_
  refine wp_seq ?_
  -- region 1 law.go:60
  refine wp_region_lit ?_
  refine wl_of (op_call (wn rfl) rfl rfl S (co_func rfl Try.call9 S rfl) (head_spec _) fun v w hc a S => ?_)
  obtain ⟨rfl, he⟩ := hc
  have H := H.ext he
  refine wl_of (op_y (wn rfl) rfl rfl S (y_assign rfl S rfl) fun a S => ?_)
  refine wpList_nil ?_
  refine n_then ?_
  refine wp_seq ?_
  -- region 2 law.go:61
  refine wp_region_lit ?_
  refine wl_of (op_y (wn rfl) rfl rfl S (y_load0 rfl S H rfl (by exact Fagg23)) fun a S => ?_)
  refine wl_of (op_call (wn rfl) rfl rfl S (co_func rfl Try.call10 S rfl) (bounds_spec _ _) fun v w hc a S => ?_)
  obtain ⟨rfl, he⟩ := hc
  have H := H.ext he
  refine wl_of (op_y (wn rfl) rfl rfl S (y_move rfl S rfl) fun a S => ?_)
  refine wl_of (op_y (wn rfl) rfl rfl S (y_extract rfl S rfl rfl) fun a S => ?_)
  refine wl_of (op_y (wn rfl) rfl rfl S (y_extract rfl S rfl rfl) fun a S => ?_)
  refine wl_of (op_y (wn rfl) rfl rfl S (y_extract rfl S rfl rfl) fun a S => ?_)
  refine wl_of (op_y (wn rfl) rfl rfl S (y_assign rfl S rfl) fun a S => ?_)
  refine wl_of (op_y (wn rfl) rfl rfl S (y_assign rfl S rfl) fun a S => ?_)
  refine wl_of (op_y (wn rfl) rfl rfl S (y_assign rfl S rfl) fun a S => ?_)
  refine wpList_nil ?_
  refine n_then ?_
  have S := (((((((S.nil.cons S 2 rfl).cons S 1 rfl).cons S 3 rfl).cons S 6 rfl).cons S 7 rfl).cons S 8 rfl).cons S 9 rfl).cons S 10 rfl
  refine wp_seq ?_
  -- region 3 law.go:62
  refine wp_region_lit ?_
  refine wl_of (op_y (wn rfl) rfl rfl S (y_load0 rfl S H rfl (by exact Fagg23)) fun a S => ?_)
  refine wl_of (op_y (wn rfl) rfl rfl S (y_move rfl S rfl) fun a S => ?_)
  refine wl_of (op_y (wn rfl) rfl rfl S (y_move rfl S rfl) fun a S => ?_)
  refine wl_of (op_y (wn rfl) rfl rfl S (y_min rfl S rfl rfl) fun a S => ?_)
  refine wl_of (op_call (wn rfl) rfl rfl S (co_func rfl Try.call12 S rfl) (over_spec _ _ _) fun v w hc a S => ?_)
  obtain ⟨rfl, he⟩ := hc
  have H := H.ext he
  refine wl_of (op_y (wn rfl) rfl rfl S (y_move rfl S rfl) fun a S => ?_)
  refine wl_of (op_y (wn rfl) rfl rfl S (y_extract rfl S rfl rfl) fun a S => ?_)
  refine wl_of (op_y (wn rfl) rfl rfl S (y_extract rfl S rfl rfl) fun a S => ?_)
  refine wl_of (op_y (wn rfl) rfl rfl S (y_assign rfl S rfl) fun a S => ?_)
  refine wl_of (op_y (wn rfl) rfl rfl S (y_assign rfl S rfl) fun a S => ?_)
  refine wpList_nil ?_
  refine n_then ?_
  have S := (((((((((S.nil.cons S 2 rfl).cons S 1 rfl).cons S 3 rfl).cons S 6 rfl).cons S 7 rfl).cons S 8 rfl).cons S 9 rfl).cons S 10 rfl).cons S 11 rfl).cons S 12 rfl
  refine wp_seq ?_
  -- region 4 law.go:63
  refine wp_region_lit ?_
  refine wl_of (op_y (wn rfl) rfl rfl S (y_load0 rfl S H rfl (by exact Fagg23)) fun a S => ?_)
  refine wl_of (op_y (wn rfl) rfl rfl S (y_move rfl S rfl) fun a S => ?_)
  refine wl_of (op_y (wn rfl) rfl rfl S (y_move rfl S rfl) fun a S => ?_)
  refine wl_of (op_y (wn rfl) rfl rfl S (y_max rfl S rfl rfl) fun a S => ?_)
  refine wl_of (op_call (wn rfl) rfl rfl S (co_func rfl Try.call12 S rfl) (over_spec _ _ _) fun v w hc a S => ?_)
  obtain ⟨rfl, he⟩ := hc
  have H := H.ext he
  refine wl_of (op_y (wn rfl) rfl rfl S (y_move rfl S rfl) fun a S => ?_)
  refine wl_of (op_y (wn rfl) rfl rfl S (y_extract rfl S rfl rfl) fun a S => ?_)
  refine wl_of (op_y (wn rfl) rfl rfl S (y_extract rfl S rfl rfl) fun a S => ?_)
  refine wl_of (op_y (wn rfl) rfl rfl S (y_assign rfl S rfl) fun a S => ?_)
  refine wl_of (op_y (wn rfl) rfl rfl S (y_assign rfl S rfl) fun a S => ?_)
  refine wpList_nil ?_
  refine n_then ?_
  have S := (((((((((((S.nil.cons S 2 rfl).cons S 1 rfl).cons S 3 rfl).cons S 6 rfl).cons S 7 rfl).cons S 8 rfl).cons S 9 rfl).cons S 10 rfl).cons S 11 rfl).cons S 12 rfl).cons S 13 rfl).cons S 14 rfl
  refine wp_seq ?_
  refine wp_seq ?_
  -- region 5 law.go:64
  refine wp_region_lit ?_
  refine wl_of (op_y (wn rfl) rfl rfl S (y_move rfl S rfl) fun a S => ?_)
  refine wl_of (op_y (wn rfl) rfl rfl S (y_bin rfl S rfl rfl rfl) fun a S => ?_)
  refine wpList_nil ?_
  refine n_then ?_
  -- cond 1
  refine c_if S rfl (fun h1 => ?_) (fun h1 => ?_)
  · have h1p := h1; try simp only [decide_eq_true_eq, decide_eq_false_iff_not, Bool.or_eq_true, Bool.and_eq_true, Bool.or_eq_false_iff, Bool.and_eq_false_iff, Bool.not_eq_true', Bool.not_eq_false', bne_iff_ne, beq_iff_eq, beq_eq_false_iff_ne, bne_eq_false_iff_eq, ne_eq, Decidable.not_not, Int.not_lt, Int.not_le, gt_iff_lt, ge_iff_le, Bool.true_eq_false, Bool.false_eq_true, not_true_eq_false, not_false_eq_true] at h1p
    refine wp_seq ?_
    -- region 6 law.go:65
    refine wp_region_lit ?_
    refine wl_of (op_y (wn rfl) rfl rfl S (y_move rfl S rfl) fun a S => ?_)
    refine wl_of (op_y (wn rfl) rfl rfl S (y_move rfl S rfl) fun a S => ?_)
    refine' wl_and 2 42 rfl S H rfl rfl rfl rfl rfl rfl rfl (fun _ S => (wn rfl)) (fun h2 kk => ?yh2) (fun a w S H => ?_)
    case yh2 =>
      have h2p := h2; try simp only [decide_eq_true_eq, decide_eq_false_iff_not, Bool.or_eq_true, Bool.and_eq_true, Bool.or_eq_false_iff, Bool.and_eq_false_iff, Bool.not_eq_true', Bool.not_eq_false', bne_iff_ne, beq_iff_eq, beq_eq_false_iff_ne, bne_eq_false_iff_eq, ne_eq, Decidable.not_not, Int.not_lt, Int.not_le, gt_iff_lt, ge_iff_le, Bool.true_eq_false, Bool.false_eq_true, not_true_eq_false, not_false_eq_true] at h2p
      refine wl_of (op_y (wg' 42 rfl rfl S rfl h2 rfl) rfl rfl S (y_move rfl S rfl) fun a S => ?_)
      refine wl_of (op_y (wg' 42 rfl rfl S rfl h2 rfl) rfl rfl S (y_not rfl S rfl) fun a S => ?_)
      refine wl_of (op_y (wn rfl) rfl rfl S (y_and' rfl h2 S rfl rfl) fun a S => ?_)
      exact kk _ _ (S.join 3 45 rfl rfl) H
    refine wl_of (op_y (wn rfl) rfl rfl S (y_move rfl S rfl) fun a S => ?_)
    refine' wl_and 2 46 rfl S H rfl rfl rfl rfl rfl rfl rfl (fun _ S => (wn rfl)) (fun h3 kk => ?yh3) (fun a w S H => ?_)
    case yh3 =>
      have h3p := h3; try simp only [decide_eq_true_eq, decide_eq_false_iff_not, Bool.or_eq_true, Bool.and_eq_true, Bool.or_eq_false_iff, Bool.and_eq_false_iff, Bool.not_eq_true', Bool.not_eq_false', bne_iff_ne, beq_iff_eq, beq_eq_false_iff_ne, bne_eq_false_iff_eq, ne_eq, Decidable.not_not, Int.not_lt, Int.not_le, gt_iff_lt, ge_iff_le, Bool.true_eq_false, Bool.false_eq_true, not_true_eq_false, not_false_eq_true] at h3p
      refine wl_of (op_y (wg' 46 rfl rfl S rfl h3 rfl) rfl rfl S (y_move rfl S rfl) fun a S => ?_)
      refine wl_of (op_y (wg' 46 rfl rfl S rfl h3 rfl) rfl rfl S (y_not rfl S rfl) fun a S => ?_)
      refine wl_of (op_y (wn rfl) rfl rfl S (y_and' rfl h3 S rfl rfl) fun a S => ?_)
      exact kk _ _ (S.join 3 49 rfl rfl) H
    refine wl_of (op_y (wn rfl) rfl rfl S (y_move rfl S rfl) fun a S => ?_)
    refine' wl_and 2 50 rfl S H rfl rfl rfl rfl rfl rfl rfl (fun _ S => (wn rfl)) (fun h4 kk => ?yh4) (fun a w S H => ?_)
    case yh4 =>
      have h4p := h4; try simp only [decide_eq_true_eq, decide_eq_false_iff_not, Bool.or_eq_true, Bool.and_eq_true, Bool.or_eq_false_iff, Bool.and_eq_false_iff, Bool.not_eq_true', Bool.not_eq_false', bne_iff_ne, beq_iff_eq, beq_eq_false_iff_ne, bne_eq_false_iff_eq, ne_eq, Decidable.not_not, Int.not_lt, Int.not_le, gt_iff_lt, ge_iff_le, Bool.true_eq_false, Bool.false_eq_true, not_true_eq_false, not_false_eq_true] at h4p
      refine wl_of (op_y (wg' 50 rfl rfl S rfl h4 rfl) rfl rfl S (y_move rfl S rfl) fun a S => ?_)
      refine wl_of (op_y (wg' 50 rfl rfl S rfl h4 rfl) rfl rfl S (y_not rfl S rfl) fun a S => ?_)
      refine wl_of (op_y (wn rfl) rfl rfl S (y_and' rfl h4 S rfl rfl) fun a S => ?_)
      exact kk _ _ (S.join 3 53 rfl rfl) H
    refine wl_of (op_y (wn rfl) rfl rfl S (y_move rfl S rfl) fun a S => ?_)
    refine' wl_and 2 54 rfl S H rfl rfl rfl rfl rfl rfl rfl (fun _ S => (wn rfl)) (fun h5 kk => ?yh5) (fun a w S H => ?_)
    case yh5 =>
      have h5p := h5; try simp only [decide_eq_true_eq, decide_eq_false_iff_not, Bool.or_eq_true, Bool.and_eq_true, Bool.or_eq_false_iff, Bool.and_eq_false_iff, Bool.not_eq_true', Bool.not_eq_false', bne_iff_ne, beq_iff_eq, beq_eq_false_iff_ne, bne_eq_false_iff_eq, ne_eq, Decidable.not_not, Int.not_lt, Int.not_le, gt_iff_lt, ge_iff_le, Bool.true_eq_false, Bool.false_eq_true, not_true_eq_false, not_false_eq_true] at h5p
      refine wl_of (op_y (wg' 54 rfl rfl S rfl h5 rfl) rfl rfl S (y_move rfl S rfl) fun a S => ?_)
      refine wl_of (op_y (wg' 54 rfl rfl S rfl h5 rfl) rfl rfl S (y_not rfl S rfl) fun a S => ?_)
      refine wl_of (op_y (wn rfl) rfl rfl S (y_and' rfl h5 S rfl rfl) fun a S => ?_)
      exact kk _ _ (S.join 3 57 rfl rfl) H
    refine wl_of (op_y (wn rfl) rfl rfl S (y_assign rfl S rfl) fun a S => ?_)
    refine wpList_nil ?_
    refine n_then ?_
    have S := ((((((((((S.nil.cons S 2 rfl).cons S 1 rfl).cons S 3 rfl).cons S 7 rfl).cons S 8 rfl).cons S 9 rfl).cons S 11 rfl).cons S 12 rfl).cons S 13 rfl).cons S 14 rfl).cons S 6 rfl
    refine wp_ret ?_
    refine r_then (ret1 rfl S rfl ?_)
    refine ⟨congrArg Value.bool ?_, H.toExt⟩
    rw [over, over, if_pos h1p, if_pos h1p]; rfl
  · have h1p := h1; try simp only [decide_eq_true_eq, decide_eq_false_iff_not, Bool.or_eq_true, Bool.and_eq_true, Bool.or_eq_false_iff, Bool.and_eq_false_iff, Bool.not_eq_true', Bool.not_eq_false', bne_iff_ne, beq_iff_eq, beq_eq_false_iff_ne, bne_eq_false_iff_eq, ne_eq, Decidable.not_not, Int.not_lt, Int.not_le, gt_iff_lt, ge_iff_le, Bool.true_eq_false, Bool.false_eq_true, not_true_eq_false, not_false_eq_true] at h1p
    refine wp_skip ?_
    refine n_then ?_
    refine wp_seq ?_
    -- region 7 law.go:67
    refine wp_region_lit ?_
    refine wl_of (op_y (wn rfl) rfl rfl S (y_move rfl S rfl) fun a S => ?_)
    refine wl_of (op_y (wn rfl) rfl rfl S (y_move rfl S rfl) fun a S => ?_)
    refine wl_of (op_y (wn rfl) rfl rfl S (y_min rfl S rfl rfl) fun a S => ?_)
    refine wl_of (op_y (wn rfl) rfl rfl S (y_assign rfl S rfl) fun a S => ?_)
    refine wpList_nil ?_
    refine n_then ?_
    have S := (((((((((S.nil.cons S 3 rfl).cons S 6 rfl).cons S 7 rfl).cons S 8 rfl).cons S 9 rfl).cons S 11 rfl).cons S 12 rfl).cons S 13 rfl).cons S 14 rfl).cons S 15 rfl
    refine wp_seq ?_
    -- region 8 law.go:68
    refine wp_region_lit ?_
    refine wl_of (op_y (wn rfl) rfl rfl S (y_move rfl S rfl) fun a S => ?_)
    refine wl_of (op_y (wn rfl) rfl rfl S (y_move rfl S rfl) fun a S => ?_)
    refine' wl_and 5 62 rfl S H rfl rfl rfl rfl rfl rfl rfl (fun _ S => (wn rfl)) (fun h6 kk => ?yh6) (fun a w S H => ?_)
    case yh6 =>
      have h6p := h6; try simp only [decide_eq_true_eq, decide_eq_false_iff_not, Bool.or_eq_true, Bool.and_eq_true, Bool.or_eq_false_iff, Bool.and_eq_false_iff, Bool.not_eq_true', Bool.not_eq_false', bne_iff_ne, beq_iff_eq, beq_eq_false_iff_ne, bne_eq_false_iff_eq, ne_eq, Decidable.not_not, Int.not_lt, Int.not_le, gt_iff_lt, ge_iff_le, Bool.true_eq_false, Bool.false_eq_true, not_true_eq_false, not_false_eq_true] at h6p
      refine wl_of (op_y (wg' 62 rfl rfl S rfl h6 rfl) rfl rfl S (y_move rfl S rfl) fun a S => ?_)
      refine wl_of (op_y (wg' 62 rfl rfl S rfl h6 rfl) rfl rfl S (y_not rfl S rfl) fun a S => ?_)
      refine wl_of (op_y (wg' 62 rfl rfl S rfl h6 rfl) rfl rfl S (y_move rfl S rfl) fun a S => ?_)
      refine' wl_or 1 65 rfl S H rfl rfl rfl rfl rfl rfl rfl (fun _ S => (wg' 62 rfl rfl S rfl h6 rfl)) (fun h7 kk => ?yh7) (fun a w S H => ?_)
      case yh7 =>
        have h7p := h7; try simp only [decide_eq_true_eq, decide_eq_false_iff_not, Bool.or_eq_true, Bool.and_eq_true, Bool.or_eq_false_iff, Bool.and_eq_false_iff, Bool.not_eq_true', Bool.not_eq_false', bne_iff_ne, beq_iff_eq, beq_eq_false_iff_ne, bne_eq_false_iff_eq, ne_eq, Decidable.not_not, Int.not_lt, Int.not_le, gt_iff_lt, ge_iff_le, Bool.true_eq_false, Bool.false_eq_true, not_true_eq_false, not_false_eq_true] at h7p
        refine wl_of (op_y (wg' 65 rfl rfl S rfl h7 rfl) rfl rfl S (y_move rfl S rfl) fun a S => ?_)
        refine wl_of (op_y (wg' 62 rfl rfl S rfl h6 rfl) rfl rfl S (y_or' rfl h7 S rfl rfl) fun a S => ?_)
        exact kk _ _ (S.join 2 67 rfl rfl) H
      refine wl_of (op_y (wn rfl) rfl rfl S (y_and' rfl h6 S rfl rfl) fun a S => ?_)
      exact kk _ _ (S.join 5 68 rfl rfl) H
    refine wl_of (op_y (wn rfl) rfl rfl S (y_move rfl S rfl) fun a S => ?_)
    refine' wl_and 5 69 rfl S H rfl rfl rfl rfl rfl rfl rfl (fun _ S => (wn rfl)) (fun h8 kk => ?yh8) (fun a w S H => ?_)
    case yh8 =>
      have h8p := h8; try simp only [decide_eq_true_eq, decide_eq_false_iff_not, Bool.or_eq_true, Bool.and_eq_true, Bool.or_eq_false_iff, Bool.and_eq_false_iff, Bool.not_eq_true', Bool.not_eq_false', bne_iff_ne, beq_iff_eq, beq_eq_false_iff_ne, bne_eq_false_iff_eq, ne_eq, Decidable.not_not, Int.not_lt, Int.not_le, gt_iff_lt, ge_iff_le, Bool.true_eq_false, Bool.false_eq_true, not_true_eq_false, not_false_eq_true] at h8p
      refine wl_of (op_y (wg' 69 rfl rfl S rfl h8 rfl) rfl rfl S (y_move rfl S rfl) fun a S => ?_)
      refine wl_of (op_y (wg' 69 rfl rfl S rfl h8 rfl) rfl rfl S (y_not rfl S rfl) fun a S => ?_)
      refine wl_of (op_y (wg' 69 rfl rfl S rfl h8 rfl) rfl rfl S (y_move rfl S rfl) fun a S => ?_)
      refine' wl_or 1 72 rfl S H rfl rfl rfl rfl rfl rfl rfl (fun _ S => (wg' 69 rfl rfl S rfl h8 rfl)) (fun h9 kk => ?yh9) (fun a w S H => ?_)
      case yh9 =>
        have h9p := h9; try simp only [decide_eq_true_eq, decide_eq_false_iff_not, Bool.or_eq_true, Bool.and_eq_true, Bool.or_eq_false_iff, Bool.and_eq_false_iff, Bool.not_eq_true', Bool.not_eq_false', bne_iff_ne, beq_iff_eq, beq_eq_false_iff_ne, bne_eq_false_iff_eq, ne_eq, Decidable.not_not, Int.not_lt, Int.not_le, gt_iff_lt, ge_iff_le, Bool.true_eq_false, Bool.false_eq_true, not_true_eq_false, not_false_eq_true] at h9p
        refine wl_of (op_y (wg' 72 rfl rfl S rfl h9 rfl) rfl rfl S (y_move rfl S rfl) fun a S => ?_)
        refine wl_of (op_y (wg' 69 rfl rfl S rfl h8 rfl) rfl rfl S (y_or' rfl h9 S rfl rfl) fun a S => ?_)
        exact kk _ _ (S.join 2 74 rfl rfl) H
      refine wl_of (op_y (wn rfl) rfl rfl S (y_and' rfl h8 S rfl rfl) fun a S => ?_)
      exact kk _ _ (S.join 5 75 rfl rfl) H
    refine wl_of (op_y (wn rfl) rfl rfl S (y_move rfl S rfl) fun a S => ?_)
    refine' wl_and 5 76 rfl S H rfl rfl rfl rfl rfl rfl rfl (fun _ S => (wn rfl)) (fun h10 kk => ?yh10) (fun a w S H => ?_)
    case yh10 =>
      have h10p := h10; try simp only [decide_eq_true_eq, decide_eq_false_iff_not, Bool.or_eq_true, Bool.and_eq_true, Bool.or_eq_false_iff, Bool.and_eq_false_iff, Bool.not_eq_true', Bool.not_eq_false', bne_iff_ne, beq_iff_eq, beq_eq_false_iff_ne, bne_eq_false_iff_eq, ne_eq, Decidable.not_not, Int.not_lt, Int.not_le, gt_iff_lt, ge_iff_le, Bool.true_eq_false, Bool.false_eq_true, not_true_eq_false, not_false_eq_true] at h10p
      refine wl_of (op_y (wg' 76 rfl rfl S rfl h10 rfl) rfl rfl S (y_move rfl S rfl) fun a S => ?_)
      refine wl_of (op_y (wg' 76 rfl rfl S rfl h10 rfl) rfl rfl S (y_not rfl S rfl) fun a S => ?_)
      refine wl_of (op_y (wg' 76 rfl rfl S rfl h10 rfl) rfl rfl S (y_move rfl S rfl) fun a S => ?_)
      refine' wl_or 1 79 rfl S H rfl rfl rfl rfl rfl rfl rfl (fun _ S => (wg' 76 rfl rfl S rfl h10 rfl)) (fun h11 kk => ?yh11) (fun a w S H => ?_)
      case yh11 =>
        have h11p := h11; try simp only [decide_eq_true_eq, decide_eq_false_iff_not, Bool.or_eq_true, Bool.and_eq_true, Bool.or_eq_false_iff, Bool.and_eq_false_iff, Bool.not_eq_true', Bool.not_eq_false', bne_iff_ne, beq_iff_eq, beq_eq_false_iff_ne, bne_eq_false_iff_eq, ne_eq, Decidable.not_not, Int.not_lt, Int.not_le, gt_iff_lt, ge_iff_le, Bool.true_eq_false, Bool.false_eq_true, not_true_eq_false, not_false_eq_true] at h11p
        refine wl_of (op_y (wg' 79 rfl rfl S rfl h11 rfl) rfl rfl S (y_move rfl S rfl) fun a S => ?_)
        refine wl_of (op_y (wg' 76 rfl rfl S rfl h10 rfl) rfl rfl S (y_or' rfl h11 S rfl rfl) fun a S => ?_)
        exact kk _ _ (S.join 2 81 rfl rfl) H
      refine wl_of (op_y (wn rfl) rfl rfl S (y_and' rfl h10 S rfl rfl) fun a S => ?_)
      exact kk _ _ (S.join 5 82 rfl rfl) H
    refine wl_of (op_y (wn rfl) rfl rfl S (y_move rfl S rfl) fun a S => ?_)
    refine' wl_and 12 83 rfl S H rfl rfl rfl rfl rfl rfl rfl (fun _ S => (wn rfl)) (fun h12 kk => ?yh12) (fun a w S H => ?_)
    case yh12 =>
      have h12p := h12; try simp only [decide_eq_true_eq, decide_eq_false_iff_not, Bool.or_eq_true, Bool.and_eq_true, Bool.or_eq_false_iff, Bool.and_eq_false_iff, Bool.not_eq_true', Bool.not_eq_false', bne_iff_ne, beq_iff_eq, beq_eq_false_iff_ne, bne_eq_false_iff_eq, ne_eq, Decidable.not_not, Int.not_lt, Int.not_le, gt_iff_lt, ge_iff_le, Bool.true_eq_false, Bool.false_eq_true, not_true_eq_false, not_false_eq_true] at h12p
      refine wl_of (op_y (wg' 83 rfl rfl S rfl h12 rfl) rfl rfl S (y_move rfl S rfl) fun a S => ?_)
      refine wl_of (op_y (wg' 83 rfl rfl S rfl h12 rfl) rfl rfl S (y_move rfl S rfl) fun a S => ?_)
      refine wl_of (op_y (wg' 83 rfl rfl S rfl h12 rfl) rfl rfl S (y_neb rfl Try.underlying4 S rfl rfl) fun a S => ?_)
      refine wl_of (op_y (wg' 83 rfl rfl S rfl h12 rfl) rfl rfl S (y_move rfl S rfl) fun a S => ?_)
      refine wl_of (op_y (wg' 83 rfl rfl S rfl h12 rfl) rfl rfl S (y_move rfl S rfl) fun a S => ?_)
      refine wl_of (op_y (wg' 83 rfl rfl S rfl h12 rfl) rfl rfl S (y_bin rfl S rfl rfl rfl) fun a S => ?_)
      refine wl_of (op_y (wg' 83 rfl rfl S rfl h12 rfl) rfl rfl S (y_move rfl S rfl) fun a S => ?_)
      refine' wl_and 3 90 rfl S H rfl rfl rfl rfl rfl rfl rfl (fun _ S => (wg' 83 rfl rfl S rfl h12 rfl)) (fun h13 kk => ?yh13) (fun a w S H => ?_)
      case yh13 =>
        have h13p := h13; try simp only [decide_eq_true_eq, decide_eq_false_iff_not, Bool.or_eq_true, Bool.and_eq_true, Bool.or_eq_false_iff, Bool.and_eq_false_iff, Bool.not_eq_true', Bool.not_eq_false', bne_iff_ne, beq_iff_eq, beq_eq_false_iff_ne, bne_eq_false_iff_eq, ne_eq, Decidable.not_not, Int.not_lt, Int.not_le, gt_iff_lt, ge_iff_le, Bool.true_eq_false, Bool.false_eq_true, not_true_eq_false, not_false_eq_true] at h13p
        refine wl_of (op_y (wg' 90 rfl rfl S rfl h13 rfl) rfl rfl S (y_move rfl S rfl) fun a S => ?_)
        refine wl_of (op_y (wg' 90 rfl rfl S rfl h13 rfl) rfl rfl S (y_move rfl S rfl) fun a S => ?_)
        refine wl_of (op_y (wg' 90 rfl rfl S rfl h13 rfl) rfl rfl S (y_bin rfl S rfl rfl rfl) fun a S => ?_)
        refine wl_of (op_y (wg' 83 rfl rfl S rfl h12 rfl) rfl rfl S (y_and' rfl h13 S rfl rfl) fun a S => ?_)
        exact kk _ _ (S.join 4 94 rfl rfl) H
      refine wl_of (op_y (wg' 83 rfl rfl S rfl h12 rfl) rfl rfl S (y_eqb rfl Try.underlying4 S rfl rfl) fun a S => ?_)
      refine wl_of (op_y (wn rfl) rfl rfl S (y_and' rfl h12 S rfl rfl) fun a S => ?_)
      exact kk _ _ (S.join 10 96 rfl rfl) H
    refine wl_of (op_y (wn rfl) rfl rfl S (y_move rfl S rfl) fun a S => ?_)
    refine' wl_and 15 97 rfl S H rfl rfl rfl rfl rfl rfl rfl (fun _ S => (wn rfl)) (fun h14 kk => ?yh14) (fun a w S H => ?_)
    case yh14 =>
      have h14p := h14; try simp only [decide_eq_true_eq, decide_eq_false_iff_not, Bool.or_eq_true, Bool.and_eq_true, Bool.or_eq_false_iff, Bool.and_eq_false_iff, Bool.not_eq_true', Bool.not_eq_false', bne_iff_ne, beq_iff_eq, beq_eq_false_iff_ne, bne_eq_false_iff_eq, ne_eq, Decidable.not_not, Int.not_lt, Int.not_le, gt_iff_lt, ge_iff_le, Bool.true_eq_false, Bool.false_eq_true, not_true_eq_false, not_false_eq_true] at h14p
      refine wl_of (op_y (wg' 97 rfl rfl S rfl h14 rfl) rfl rfl S (y_faddrb rfl Ffo23_2 S rfl) fun a S => ?_)
      refine wl_of (op_y (wg' 97 rfl rfl S rfl h14 rfl) rfl rfl S (y_load rfl Fsca3 S H rfl rfl) fun a S => ?_)
      refine wl_of (op_y (wg' 97 rfl rfl S rfl h14 rfl) rfl rfl S (y_bin rfl S rfl rfl rfl) fun a S => ?_)
      refine wl_of (op_y (wg' 97 rfl rfl S rfl h14 rfl) rfl rfl S (y_move rfl S rfl) fun a S => ?_)
      refine' wl_and 5 101 rfl S H rfl rfl rfl rfl rfl rfl rfl (fun _ S => (wg' 97 rfl rfl S rfl h14 rfl)) (fun h15 kk => ?yh15) (fun a w S H => ?_)
      case yh15 =>
        have h15p := h15; try simp only [decide_eq_true_eq, decide_eq_false_iff_not, Bool.or_eq_true, Bool.and_eq_true, Bool.or_eq_false_iff, Bool.and_eq_false_iff, Bool.not_eq_true', Bool.not_eq_false', bne_iff_ne, beq_iff_eq, beq_eq_false_iff_ne, bne_eq_false_iff_eq, ne_eq, Decidable.not_not, Int.not_lt, Int.not_le, gt_iff_lt, ge_iff_le, Bool.true_eq_false, Bool.false_eq_true, not_true_eq_false, not_false_eq_true] at h15p
        refine wl_of (op_y (wg' 101 rfl rfl S rfl h15 rfl) rfl rfl S (y_faddrb rfl Ffo23_1 S rfl) fun a S => ?_)
        refine wl_of (op_y (wg' 101 rfl rfl S rfl h15 rfl) rfl rfl S (y_load rfl Fsca3 S H rfl rfl) fun a S => ?_)
        refine wl_of (op_y (wg' 101 rfl rfl S rfl h15 rfl) rfl rfl S (y_faddrb rfl Ffo23_0 S rfl) fun a S => ?_)
        refine wl_of (op_y (wg' 101 rfl rfl S rfl h15 rfl) rfl rfl S (y_load rfl Fsca3 S H rfl rfl) fun a S => ?_)
        refine wl_of (op_y (wg' 101 rfl rfl S rfl h15 rfl) rfl rfl S (y_bin rfl S rfl rfl rfl) fun a S => ?_)
        refine wl_of (op_y (wg' 97 rfl rfl S rfl h14 rfl) rfl rfl S (y_and' rfl h15 S rfl rfl) fun a S => ?_)
        exact kk _ _ (S.join 6 107 rfl rfl) H
      refine wl_of (op_y (wg' 97 rfl rfl S rfl h14 rfl) rfl rfl S (y_move rfl S rfl) fun a S => ?_)
      refine' wl_or 3 108 rfl S H rfl rfl rfl rfl rfl rfl rfl (fun _ S => (wg' 97 rfl rfl S rfl h14 rfl)) (fun h16 kk => ?yh16) (fun a w S H => ?_)
      case yh16 =>
        have h16p := h16; try simp only [decide_eq_true_eq, decide_eq_false_iff_not, Bool.or_eq_true, Bool.and_eq_true, Bool.or_eq_false_iff, Bool.and_eq_false_iff, Bool.not_eq_true', Bool.not_eq_false', bne_iff_ne, beq_iff_eq, beq_eq_false_iff_ne, bne_eq_false_iff_eq, ne_eq, Decidable.not_not, Int.not_lt, Int.not_le, gt_iff_lt, ge_iff_le, Bool.true_eq_false, Bool.false_eq_true, not_true_eq_false, not_false_eq_true] at h16p
        refine wl_of (op_y (wg' 108 rfl rfl S rfl h16 rfl) rfl rfl S (y_move rfl S rfl) fun a S => ?_)
        refine wl_of (op_y (wg' 108 rfl rfl S rfl h16 rfl) rfl rfl S (y_move rfl S rfl) fun a S => ?_)
        refine wl_of (op_y (wg' 108 rfl rfl S rfl h16 rfl) rfl rfl S (y_eqb rfl Try.underlying4 S rfl rfl) fun a S => ?_)
        refine wl_of (op_y (wg' 97 rfl rfl S rfl h14 rfl) rfl rfl S (y_or' rfl h16 S rfl rfl) fun a S => ?_)
        exact kk _ _ (S.join 4 112 rfl rfl) H
      refine wl_of (op_y (wn rfl) rfl rfl S (y_and' rfl h14 S rfl rfl) fun a S => ?_)
      exact kk _ _ (S.join 8 113 rfl rfl) H
    refine wl_of (op_y (wn rfl) rfl rfl S (y_assign rfl S rfl) fun a S => ?_)
    refine wpList_nil ?_
    refine n_then ?_
    have S := S.nil.cons S 6 rfl
    refine wp_ret ?_
    refine ret1 rfl S rfl ?_
    refine ⟨congrArg Value.bool ?_, H.toExt⟩
    exact law3_plain r p q h1p
/-- foyer/foyerlaw25.ClockAgrees -/
theorem law4 (v : Value) (l : List Rd) (t : Int) (w0 : World) (hv : IsSl w0 v 3 Rd.enc l) :
    Ret Try.prog 6 #[v, .int .i64 t] w0 (fun v w => v = .bool true ∧ Ext w0 w) := by
  refine ret_of_wp (n := 150) Try.func6 rfl rfl rfl (fl := [(0, v), (1, .int .i64 t)]) rfl (fun a S => ?_)
  have H := HSat.start w0
  have H := H.ro0 (Sl v 3 Rd.enc l) rfl (hv)
  refine wp_seq ?_
  -- region 0 law.go:72
  refine wp_region_lit ?_
  refine wl_of (op_y (wn rfl) rfl rfl S (y_assign rfl S rfl) fun a S => ?_)
  refine wpList_nil ?_
  refine n_then ?_
  refine wp_seq ?_
  -- region 1 law.go:73
  refine wp_region_lit ?_
  refine wl_of (op_call (wn rfl) rfl rfl S (co_func rfl Try.call9 S rfl) (head_spec _) fun v w hc a S => ?_)
  obtain ⟨rfl, he⟩ := hc
  have H := H.ext he
  refine wl_of (op_y (wn rfl) rfl rfl S (y_assign rfl S rfl) fun a S => ?_)
  refine wpList_nil ?_
  refine n_then ?_
  refine wp_seq ?_
  refine wp_seq ?_
  -- region 2 law.go:74
  refine wp_region_lit ?_
  refine wl_of (op_y (wn rfl) rfl rfl S (y_move rfl S rfl) fun a S => ?_)
  refine wl_of (op_y (wn rfl) rfl rfl S (y_lens rfl Try.underlying24 S H rfl) fun a S => ?_)
  refine wl_of (op_y (wn rfl) rfl rfl S (y_bin rfl S rfl rfl rfl) fun a S => ?_)
  refine wpList_nil ?_
  refine n_then ?_
  -- cond 1
  refine c_if S rfl (fun h1 => ?_) (fun h1 => ?_)
  · have h1p := h1; try simp only [decide_eq_true_eq, decide_eq_false_iff_not, Bool.or_eq_true, Bool.and_eq_true, Bool.or_eq_false_iff, Bool.and_eq_false_iff, Bool.not_eq_true', Bool.not_eq_false', bne_iff_ne, beq_iff_eq, beq_eq_false_iff_ne, bne_eq_false_iff_eq, ne_eq, Decidable.not_not, Int.not_lt, Int.not_le, gt_iff_lt, ge_iff_le, Bool.true_eq_false, Bool.false_eq_true, not_true_eq_false, not_false_eq_true] at h1p
    refine wp_seq ?_
    -- region 3 law.go:75
    refine wp_region_lit ?_
    refine wl_of (op_y (wn rfl) rfl rfl S (y_move rfl S rfl) fun a S => ?_)
    refine wl_of (op_y (wn rfl) rfl rfl S (y_assign rfl S rfl) fun a S => ?_)
    refine wpList_nil ?_
    refine n_then ?_
    have S := (((S.nil.cons S 1 rfl).cons S 0 rfl).cons S 5 rfl).cons S 4 rfl
    refine wp_ret ?_
    refine r_then (ret1 rfl S rfl ?_)
    exact ⟨rfl, H.toExt⟩
  · have h1p := h1; try simp only [decide_eq_true_eq, decide_eq_false_iff_not, Bool.or_eq_true, Bool.and_eq_true, Bool.or_eq_false_iff, Bool.and_eq_false_iff, Bool.not_eq_true', Bool.not_eq_false', bne_iff_ne, beq_iff_eq, beq_eq_false_iff_ne, bne_eq_false_iff_eq, ne_eq, Decidable.not_not, Int.not_lt, Int.not_le, gt_iff_lt, ge_iff_le, Bool.true_eq_false, Bool.false_eq_true, not_true_eq_false, not_false_eq_true] at h1p
    refine wp_skip ?_
    refine n_then ?_
    have S := (((S.nil.cons S 1 rfl).cons S 0 rfl).cons S 4 rfl).cons S 5 rfl
    refine wp_seq ?_
    -- region 4 law.go:77
    refine wp_region_lit ?_
    refine wl_of (op_y (wn rfl) rfl rfl S (y_move rfl S rfl) fun a S => ?_)
    refine wl_of (op_call (wn rfl) rfl rfl S (co_func rfl Try.call14 S rfl) (agree_spec _ _ _ (H.sl v) (by omega)) fun v w hc a S => ?_)
    obtain ⟨rfl, he⟩ := hc
    have H := H.ext he
    refine wl_of (op_y (wn rfl) rfl rfl S (y_move rfl S rfl) fun a S => ?_)
    refine wl_of (op_y (wn rfl) rfl rfl S (y_extract rfl S rfl rfl) fun a S => ?_)
    refine wl_of (op_y (wn rfl) rfl rfl S (y_extract rfl S rfl rfl) fun a S => ?_)
    refine wl_of (op_y (wn rfl) rfl rfl S (y_extract rfl S rfl rfl) fun a S => ?_)
    refine wl_of (op_y (wn rfl) rfl rfl S (y_assign rfl S rfl) fun a S => ?_)
    refine wl_of (op_y (wn rfl) rfl rfl S (y_assign rfl S rfl) fun a S => ?_)
    refine wl_of (op_y (wn rfl) rfl rfl S (y_assign rfl S rfl) fun a S => ?_)
    refine wpList_nil ?_
    refine n_then ?_
    have S := ((((((S.nil.cons S 1 rfl).cons S 0 rfl).cons S 4 rfl).cons S 5 rfl).cons S 6 rfl).cons S 7 rfl).cons S 8 rfl
    refine wp_seq ?_
    -- region 5 law.go:78
    refine wp_region_lit ?_
    refine wl_of (op_y (wn rfl) rfl rfl S (y_assign rfl S rfl) fun a S => ?_)
    refine wpList_nil ?_
    refine n_then ?_
    refine wp_seq ?_
    -- region 6 law.go:79
    refine wp_region_lit ?_
    refine wl_of (op_y (wn rfl) rfl rfl S (y_assign rfl S rfl) fun a S => ?_)
    refine wpList_nil ?_
    refine n_then ?_
    refine wp_seq ?_
    refine wp_seq ?_
    -- region 7 law.go:80
    refine wp_region_lit ?_
    refine wl_of (op_y (wn rfl) rfl rfl S (y_move rfl S rfl) fun a S => ?_)
    refine wl_of (op_y (wn rfl) rfl rfl S (y_lens rfl Try.underlying24 S H rfl) fun a S => ?_)
    refine wl_of (op_y (wn rfl) rfl rfl S (y_sub rfl S rfl rfl (by omega)) fun a S => ?_)
    refine wl_of (op_y (wn rfl) rfl rfl S (y_assign rfl S rfl) fun a S => ?_)
    refine wpList_nil ?_
    refine n_then ?_
    refine wp_block ?_
    -- slots written in the loop and forgotten at its head: [4]
    have e0 : (l.length : Int) - 1 = (l.length : Int) - 1 - (0 : Nat) := by simp
    rw [e0] at S
    have SU := (((((S.nil.cons S 1 rfl).cons S 0 rfl).cons S 5 rfl).cons S 6 rfl).cons S 7 rfl).cons S 8 rfl
    refine loop (X := Nat × Value) SU (fun x => [(9, x.2), (10, .bool (allIn l t x.1)), (11, .int .i64 ((l.length : Int) - 1 - x.1))]) (fun x => [OSl 23 x.2 3 Rd.enc (turned l x.1), Sl v 3 Rd.enc l]) (fun x => x.1 ≤ l.length ∧ ∀ j (h : j < l.length), l.length ≤ j + x.1 → (bnd l[j]).2.2 = 0) (fun x => l.length - x.1) (0, .slice none 0 0) (((S.nil.cons S 11 rfl).cons S 10 rfl).cons S 9 rfl) (H.nilO 23 3 Rd.enc) (⟨by simp, fun j h hj => by simp at hj; omega⟩) (fun x a w S H hi => ?_)
    simp only [List.cons_append, List.nil_append] at S hi
    obtain ⟨k, s⟩ := x
    obtain ⟨hk, hgood⟩ := hi
    dsimp only at S H hk hgood
    refine wp_seq ?_
    refine wp_seq ?_
    -- region 8 law.go:80
    refine wp_region_lit ?_
    refine wl_of (op_y (wn rfl) rfl rfl S (y_move rfl S rfl) fun a S => ?_)
    refine wl_of (op_y (wn rfl) rfl rfl S (y_bin rfl S rfl rfl rfl) fun a S => ?_)
    refine wpList_nil ?_
    refine n_then ?_
    -- cond 2
    refine c_if S rfl (fun h2 => ?_) (fun h2 => ?_)
    · have h2p := h2; try simp only [decide_eq_true_eq, decide_eq_false_iff_not, Bool.or_eq_true, Bool.and_eq_true, Bool.or_eq_false_iff, Bool.and_eq_false_iff, Bool.not_eq_true', Bool.not_eq_false', bne_iff_ne, beq_iff_eq, beq_eq_false_iff_ne, bne_eq_false_iff_eq, ne_eq, Decidable.not_not, Int.not_lt, Int.not_le, gt_iff_lt, ge_iff_le, Bool.true_eq_false, Bool.false_eq_true, not_true_eq_false, not_false_eq_true] at h2p
      have hjk : ((l.length : Int) - 1 - k).toNat + k + 1 = l.length := by omega
      refine wp_skip ?_
      refine n_then ?_
      refine wp_seq ?_
      refine wp_block ?_
      refine wp_seq ?_
      -- region 10 DRAWS law.go:81
      refine region_st (loud := [9, 10]) (tails := [10]) [0, 1, 2, 3, 4, 5, 6, 7, 8, 9, 10, 11] Fmo (by kernel_rfl) (by kernel_rfl) rfl H ?_
      refine m_w rfl rfl (wn rfl) rfl rfl S (fun w H => y_move rfl S rfl) fun a S => ?_
      refine m_w rfl rfl (wn rfl) rfl rfl S (fun w H => y_move rfl S rfl) fun a S => ?_
      refine m_w rfl rfl (wn rfl) rfl rfl S (fun w H => y_move rfl S rfl) fun a S => ?_
      refine m_w rfl rfl (wn rfl) rfl rfl S (fun w H => y_iaddrs rfl Try.underlying24 Fsiz23 S H rfl rfl (by omega)) fun a S => ?_
      refine m_loadsa _ rfl rfl (wn rfl) rfl rfl S rfl rfl (by exact Fagg23) (by omega) fun a S => ?_
      refine m_w rfl rfl (wn rfl) rfl rfl S (fun w H => y_move rfl S rfl) fun a S => ?_
      refine m_w rfl rfl (wn rfl) rfl rfl S (fun w H => y_move rfl S rfl) fun a S => ?_
      refine m_w rfl rfl (wn rfl) rfl rfl S (fun w H => y_iaddrs rfl Try.underlying24 Fsiz23 S H rfl rfl (by omega)) fun a S => ?_
      refine m_loadsa _ rfl rfl (wn rfl) rfl rfl S rfl rfl (by exact Fagg23) (by omega) fun a S => ?_
      refine m_l rfl rfl (fun w H => op_buildSlice (wn rfl) rfl rfl rfl Try.underlying24 Finf23 S H (idx := [0, 1]) rfl rfl rfl (z := [.int .i64 0, .int .i64 0, .int .i64 0, .int .i64 0, .int .i64 0, .int .i64 0]) (by kernel_rfl) (cs := [_, _, _, _, _, _]) rfl fun b45 a w S H => m_next H (List.sublist_cons_self _ _) ?_)
      refine m_l rfl rfl (fun w H => op_append ([l[((l.length : Int) - 1 - k).toNat], l[((l.length : Int) - 1 - k).toNat]]) (wn rfl) rfl rfl rfl Try.underlying24 Finf23 rfl rfl S H rfl rfl rfl rfl (by simp) (by simp [Rd.enc]) (by simp [Rd.enc, Value.oneCell']) (by rw [turned_len l k (by omega)]; simp only [List.length_cons, List.length_nil]; omega) (by rw [turned_len l k (by omega)]; simp only [List.length_cons, List.length_nil]; omega) fun u46 a w hn46 S H => m_tail H rfl ?_)
      refine m_w rfl rfl (wn rfl) rfl rfl S (fun w H => y_assign rfl S rfl) fun a S => ?_
      refine m_nil (fun w H => ?_)
      refine n_then ?_
      refine wp_seq ?_
      -- region 11 law.go:82
      refine wp_region_lit ?_
      refine wl_of (op_y (wn rfl) rfl rfl S (y_move rfl S rfl) fun a S => ?_)
      refine wl_of (op_y (wn rfl) rfl rfl S (y_move rfl S rfl) fun a S => ?_)
      refine wl_of (op_y (wn rfl) rfl rfl S (y_iaddrs rfl Try.underlying24 Fsiz23 S H rfl rfl (by omega)) fun a S => ?_)
      refine wl_of (op_y (wn rfl) rfl rfl S (y_loadsa _ rfl S H rfl (by exact Fagg23) (by omega)) fun a S => ?_)
      refine wl_of (op_call (wn rfl) rfl rfl S (co_func rfl Try.call10 S rfl) (bounds_spec _ _) fun v w hc a S => ?_)
      obtain ⟨rfl, he⟩ := hc
      have H := H.ext he
      refine wl_of (op_y (wn rfl) rfl rfl S (y_move rfl S rfl) fun a S => ?_)
      refine wl_of (op_y (wn rfl) rfl rfl S (y_extract rfl S rfl rfl) fun a S => ?_)
      refine wl_of (op_y (wn rfl) rfl rfl S (y_extract rfl S rfl rfl) fun a S => ?_)
      refine wl_of (op_y (wn rfl) rfl rfl S (y_extract rfl S rfl rfl) fun a S => ?_)
      refine wl_of (op_y (wn rfl) rfl rfl S (y_assign rfl S rfl) fun a S => ?_)
      refine wl_of (op_y (wn rfl) rfl rfl S (y_assign rfl S rfl) fun a S => ?_)
      refine wl_of (op_y (wn rfl) rfl rfl S (y_assign rfl S rfl) fun a S => ?_)
      refine wpList_nil ?_
      refine n_then ?_
      refine wp_seq ?_
      refine wp_seq ?_
      -- region 12 law.go:83
      refine wp_region_lit ?_
      refine wl_of (op_y (wn rfl) rfl rfl S (y_move rfl S rfl) fun a S => ?_)
      refine wl_of (op_y (wn rfl) rfl rfl S (y_bin rfl S rfl rfl rfl) fun a S => ?_)
      refine wpList_nil ?_
      refine n_then ?_
      -- cond 3
      refine c_if S rfl (fun h3 => ?_) (fun h3 => ?_)
      · have h3p := h3; try simp only [decide_eq_true_eq, decide_eq_false_iff_not, Bool.or_eq_true, Bool.and_eq_true, Bool.or_eq_false_iff, Bool.and_eq_false_iff, Bool.not_eq_true', Bool.not_eq_false', bne_iff_ne, beq_iff_eq, beq_eq_false_iff_ne, bne_eq_false_iff_eq, ne_eq, Decidable.not_not, Int.not_lt, Int.not_le, gt_iff_lt, ge_iff_le, Bool.true_eq_false, Bool.false_eq_true, not_true_eq_false, not_false_eq_true] at h3p
        refine wp_seq ?_
        -- region 13 law.go:84
        refine wp_region_lit ?_
        refine wl_of (op_y (wn rfl) rfl rfl S (y_move rfl S rfl) fun a S => ?_)
        refine wl_of (op_y (wn rfl) rfl rfl S (y_move rfl S rfl) fun a S => ?_)
        refine' wl_and 2 59 rfl S H rfl rfl rfl rfl rfl rfl rfl (fun _ S => (wn rfl)) (fun h4 kk => ?yh4) (fun a w S H => ?_)
        case yh4 =>
          have h4p := h4; try simp only [decide_eq_true_eq, decide_eq_false_iff_not, Bool.or_eq_true, Bool.and_eq_true, Bool.or_eq_false_iff, Bool.and_eq_false_iff, Bool.not_eq_true', Bool.not_eq_false', bne_iff_ne, beq_iff_eq, beq_eq_false_iff_ne, bne_eq_false_iff_eq, ne_eq, Decidable.not_not, Int.not_lt, Int.not_le, gt_iff_lt, ge_iff_le, Bool.true_eq_false, Bool.false_eq_true, not_true_eq_false, not_false_eq_true] at h4p
          refine wl_of (op_y (wg' 59 rfl rfl S rfl h4 rfl) rfl rfl S (y_move rfl S rfl) fun a S => ?_)
          refine wl_of (op_y (wg' 59 rfl rfl S rfl h4 rfl) rfl rfl S (y_bin rfl S rfl rfl rfl) fun a S => ?_)
          refine wl_of (op_y (wn rfl) rfl rfl S (y_and' rfl h4 S rfl rfl) fun a S => ?_)
          exact kk _ _ (S.join 3 62 rfl rfl) H
        refine wl_of (op_y (wn rfl) rfl rfl S (y_move rfl S rfl) fun a S => ?_)
        refine' wl_and 2 63 rfl S H rfl rfl rfl rfl rfl rfl rfl (fun _ S => (wn rfl)) (fun h5 kk => ?yh5) (fun a w S H => ?_)
        case yh5 =>
          have h5p := h5; try simp only [decide_eq_true_eq, decide_eq_false_iff_not, Bool.or_eq_true, Bool.and_eq_true, Bool.or_eq_false_iff, Bool.and_eq_false_iff, Bool.not_eq_true', Bool.not_eq_false', bne_iff_ne, beq_iff_eq, beq_eq_false_iff_ne, bne_eq_false_iff_eq, ne_eq, Decidable.not_not, Int.not_lt, Int.not_le, gt_iff_lt, ge_iff_le, Bool.true_eq_false, Bool.false_eq_true, not_true_eq_false, not_false_eq_true] at h5p
          refine wl_of (op_y (wg' 63 rfl rfl S rfl h5 rfl) rfl rfl S (y_move rfl S rfl) fun a S => ?_)
          refine wl_of (op_y (wg' 63 rfl rfl S rfl h5 rfl) rfl rfl S (y_bin rfl S rfl rfl rfl) fun a S => ?_)
          refine wl_of (op_y (wn rfl) rfl rfl S (y_and' rfl h5 S rfl rfl) fun a S => ?_)
          exact kk _ _ (S.join 3 66 rfl rfl) H
        refine wl_of (op_y (wn rfl) rfl rfl S (y_move rfl S rfl) fun a S => ?_)
        refine' wl_and 2 67 rfl S H rfl rfl rfl rfl rfl rfl rfl (fun _ S => (wn rfl)) (fun h6 kk => ?yh6) (fun a w S H => ?_)
        case yh6 =>
          have h6p := h6; try simp only [decide_eq_true_eq, decide_eq_false_iff_not, Bool.or_eq_true, Bool.and_eq_true, Bool.or_eq_false_iff, Bool.and_eq_false_iff, Bool.not_eq_true', Bool.not_eq_false', bne_iff_ne, beq_iff_eq, beq_eq_false_iff_ne, bne_eq_false_iff_eq, ne_eq, Decidable.not_not, Int.not_lt, Int.not_le, gt_iff_lt, ge_iff_le, Bool.true_eq_false, Bool.false_eq_true, not_true_eq_false, not_false_eq_true] at h6p
          refine wl_of (op_y (wg' 67 rfl rfl S rfl h6 rfl) rfl rfl S (y_move rfl S rfl) fun a S => ?_)
          refine wl_of (op_y (wg' 67 rfl rfl S rfl h6 rfl) rfl rfl S (y_bin rfl S rfl rfl rfl) fun a S => ?_)
          refine wl_of (op_y (wn rfl) rfl rfl S (y_and' rfl h6 S rfl rfl) fun a S => ?_)
          exact kk _ _ (S.join 3 70 rfl rfl) H
        refine wl_of (op_y (wn rfl) rfl rfl S (y_assign rfl S rfl) fun a S => ?_)
        refine wpList_nil ?_
        refine n_then ?_
        refine wp_ret ?_
        refine r_then (r_block (r_then (r_then (r_block (r_then (ret1 rfl S rfl ?_))))))
        refine ⟨congrArg Value.bool ?_, H.toExt⟩
        rw [agree_some_bad l _ (List.getElem_mem _) h3p]; rfl
      · have h3p := h3; try simp only [decide_eq_true_eq, decide_eq_false_iff_not, Bool.or_eq_true, Bool.and_eq_true, Bool.or_eq_false_iff, Bool.and_eq_false_iff, Bool.not_eq_true', Bool.not_eq_false', bne_iff_ne, beq_iff_eq, beq_eq_false_iff_ne, bne_eq_false_iff_eq, ne_eq, Decidable.not_not, Int.not_lt, Int.not_le, gt_iff_lt, ge_iff_le, Bool.true_eq_false, Bool.false_eq_true, not_true_eq_false, not_false_eq_true] at h3p
        refine wp_skip ?_
        refine n_then ?_
        refine wp_seq ?_
        -- region 14 law.go:86
        refine wp_region_lit ?_
        refine wl_of (op_y (wn rfl) rfl rfl S (y_move rfl S rfl) fun a S => ?_)
        refine wl_of (op_y (wn rfl) rfl rfl S (y_move rfl S rfl) fun a S => ?_)
        refine' wl_and 3 72 rfl S H rfl rfl rfl rfl rfl rfl rfl (fun _ S => (wn rfl)) (fun h7 kk => ?yh7) (fun a w S H => ?_)
        case yh7 =>
          have h7p := h7; try simp only [decide_eq_true_eq, decide_eq_false_iff_not, Bool.or_eq_true, Bool.and_eq_true, Bool.or_eq_false_iff, Bool.and_eq_false_iff, Bool.not_eq_true', Bool.not_eq_false', bne_iff_ne, beq_iff_eq, beq_eq_false_iff_ne, bne_eq_false_iff_eq, ne_eq, Decidable.not_not, Int.not_lt, Int.not_le, gt_iff_lt, ge_iff_le, Bool.true_eq_false, Bool.false_eq_true, not_true_eq_false, not_false_eq_true] at h7p
          refine wl_of (op_y (wg' 72 rfl rfl S rfl h7 rfl) rfl rfl S (y_move rfl S rfl) fun a S => ?_)
          refine wl_of (op_y (wg' 72 rfl rfl S rfl h7 rfl) rfl rfl S (y_move rfl S rfl) fun a S => ?_)
          refine wl_of (op_y (wg' 72 rfl rfl S rfl h7 rfl) rfl rfl S (y_bin rfl S rfl rfl rfl) fun a S => ?_)
          refine wl_of (op_y (wn rfl) rfl rfl S (y_and' rfl h7 S rfl rfl) fun a S => ?_)
          exact kk _ _ (S.join 4 76 rfl rfl) H
        refine wl_of (op_y (wn rfl) rfl rfl S (y_move rfl S rfl) fun a S => ?_)
        refine' wl_and 3 77 rfl S H rfl rfl rfl rfl rfl rfl rfl (fun _ S => (wn rfl)) (fun h8 kk => ?yh8) (fun a w S H => ?_)
        case yh8 =>
          have h8p := h8; try simp only [decide_eq_true_eq, decide_eq_false_iff_not, Bool.or_eq_true, Bool.and_eq_true, Bool.or_eq_false_iff, Bool.and_eq_false_iff, Bool.not_eq_true', Bool.not_eq_false', bne_iff_ne, beq_iff_eq, beq_eq_false_iff_ne, bne_eq_false_iff_eq, ne_eq, Decidable.not_not, Int.not_lt, Int.not_le, gt_iff_lt, ge_iff_le, Bool.true_eq_false, Bool.false_eq_true, not_true_eq_false, not_false_eq_true] at h8p
          refine wl_of (op_y (wg' 77 rfl rfl S rfl h8 rfl) rfl rfl S (y_move rfl S rfl) fun a S => ?_)
          refine wl_of (op_y (wg' 77 rfl rfl S rfl h8 rfl) rfl rfl S (y_move rfl S rfl) fun a S => ?_)
          refine wl_of (op_y (wg' 77 rfl rfl S rfl h8 rfl) rfl rfl S (y_bin rfl S rfl rfl rfl) fun a S => ?_)
          refine wl_of (op_y (wn rfl) rfl rfl S (y_and' rfl h8 S rfl rfl) fun a S => ?_)
          exact kk _ _ (S.join 4 81 rfl rfl) H
        refine wl_of (op_y (wn rfl) rfl rfl S (y_assign rfl S rfl) fun a S => ?_)
        refine wpList_nil ?_
        refine n_then ?_
        refine wp_seq ?_
        -- region 15 law.go:87
        refine wp_region_lit ?_
        refine wl_of (op_y (wn rfl) rfl rfl S (y_move rfl S rfl) fun a S => ?_)
        refine wl_of (op_y (wn rfl) rfl rfl S (y_bin rfl S rfl rfl rfl) fun a S => ?_)
        refine wl_of (op_y (wn rfl) rfl rfl S (y_move rfl S rfl) fun a S => ?_)
        refine' wl_and 8 84 rfl S H rfl rfl rfl rfl rfl rfl rfl (fun _ S => (wn rfl)) (fun h9 kk => ?yh9) (fun a w S H => ?_)
        case yh9 =>
          have h9p := h9; try simp only [decide_eq_true_eq, decide_eq_false_iff_not, Bool.or_eq_true, Bool.and_eq_true, Bool.or_eq_false_iff, Bool.and_eq_false_iff, Bool.not_eq_true', Bool.not_eq_false', bne_iff_ne, beq_iff_eq, beq_eq_false_iff_ne, bne_eq_false_iff_eq, ne_eq, Decidable.not_not, Int.not_lt, Int.not_le, gt_iff_lt, ge_iff_le, Bool.true_eq_false, Bool.false_eq_true, not_true_eq_false, not_false_eq_true] at h9p
          refine wl_of (op_y (wg' 84 rfl rfl S rfl h9 rfl) rfl rfl S (y_move rfl S rfl) fun a S => ?_)
          refine wl_of (op_y (wg' 84 rfl rfl S rfl h9 rfl) rfl rfl S (y_move rfl S rfl) fun a S => ?_)
          refine wl_of (op_y (wg' 84 rfl rfl S rfl h9 rfl) rfl rfl S (y_bin rfl S rfl rfl rfl) fun a S => ?_)
          refine wl_of (op_y (wg' 84 rfl rfl S rfl h9 rfl) rfl rfl S (y_move rfl S rfl) fun a S => ?_)
          refine' wl_or 3 88 rfl S H rfl rfl rfl rfl rfl rfl rfl (fun _ S => (wg' 84 rfl rfl S rfl h9 rfl)) (fun h10 kk => ?yh10) (fun a w S H => ?_)
          case yh10 =>
            have h10p := h10; try simp only [decide_eq_true_eq, decide_eq_false_iff_not, Bool.or_eq_true, Bool.and_eq_true, Bool.or_eq_false_iff, Bool.and_eq_false_iff, Bool.not_eq_true', Bool.not_eq_false', bne_iff_ne, beq_iff_eq, beq_eq_false_iff_ne, bne_eq_false_iff_eq, ne_eq, Decidable.not_not, Int.not_lt, Int.not_le, gt_iff_lt, ge_iff_le, Bool.true_eq_false, Bool.false_eq_true, not_true_eq_false, not_false_eq_true] at h10p
            refine wl_of (op_y (wg' 88 rfl rfl S rfl h10 rfl) rfl rfl S (y_move rfl S rfl) fun a S => ?_)
            refine wl_of (op_y (wg' 88 rfl rfl S rfl h10 rfl) rfl rfl S (y_move rfl S rfl) fun a S => ?_)
            refine wl_of (op_y (wg' 88 rfl rfl S rfl h10 rfl) rfl rfl S (y_bin rfl S rfl rfl rfl) fun a S => ?_)
            refine wl_of (op_y (wg' 84 rfl rfl S rfl h9 rfl) rfl rfl S (y_or' rfl h10 S rfl rfl) fun a S => ?_)
            exact kk _ _ (S.join 4 92 rfl rfl) H
          refine wl_of (op_y (wn rfl) rfl rfl S (y_and' rfl h9 S rfl rfl) fun a S => ?_)
          exact kk _ _ (S.join 6 93 rfl rfl) H
        refine wpList_nil ?_
        refine n_then ?_
        -- cond 4
        refine c_if S rfl (fun h11 => ?_) (fun h11 => ?_)
        · have h11p := h11; try simp only [decide_eq_true_eq, decide_eq_false_iff_not, Bool.or_eq_true, Bool.and_eq_true, Bool.or_eq_false_iff, Bool.and_eq_false_iff, Bool.not_eq_true', Bool.not_eq_false', bne_iff_ne, beq_iff_eq, beq_eq_false_iff_ne, bne_eq_false_iff_eq, ne_eq, Decidable.not_not, Int.not_lt, Int.not_le, gt_iff_lt, ge_iff_le, Bool.true_eq_false, Bool.false_eq_true, not_true_eq_false, not_false_eq_true] at h11p
          exfalso
          have ha := agree_lo l h11p.1 _ (List.getElem_mem (show ((l.length : Int) - 1 - k).toNat < l.length by omega))
          obtain ⟨_, hx⟩ := h11p
          omega
        · have h11p := h11; try simp only [decide_eq_true_eq, decide_eq_false_iff_not, Bool.or_eq_true, Bool.and_eq_true, Bool.or_eq_false_iff, Bool.and_eq_false_iff, Bool.not_eq_true', Bool.not_eq_false', bne_iff_ne, beq_iff_eq, beq_eq_false_iff_ne, bne_eq_false_iff_eq, ne_eq, Decidable.not_not, Int.not_lt, Int.not_le, gt_iff_lt, ge_iff_le, Bool.true_eq_false, Bool.false_eq_true, not_true_eq_false, not_false_eq_true] at h11p
          refine wp_skip ?_
          refine n_block ?_
          refine n_then ?_
          -- region 9 law.go:80
          refine wp_region_lit ?_
          refine wl_of (op_y (wn rfl) rfl rfl S (y_move rfl S rfl) fun a S => ?_)
          refine wl_of (op_y (wn rfl) rfl rfl S (y_sub rfl S rfl rfl (by omega)) fun a S => ?_)
          refine wl_of (op_y (wn rfl) rfl rfl S (y_assign rfl S rfl) fun a S => ?_)
          refine wpList_nil ?_
          refine n_then ?_
          rw [turned_succ l k (by omega) _ (by omega) hjk] at H
          rw [allIn_succ l t k (by omega) _ (by omega) hjk] at S
          have e11 : (l.length : Int) - 1 - k - 1 = (l.length : Int) - 1 - ((k + 1 : Nat) : Int) := by omega
          rw [e11] at S
          refine ⟨(k + 1, u46), ((S.nil.cons S 11 rfl).cons S 10 rfl).cons S 9 rfl, (((((S.nil.cons S 1 rfl).cons S 0 rfl).cons S 5 rfl).cons S 6 rfl).cons S 7 rfl).cons S 8 rfl, H.drop 1, ⟨by dsimp only; omega, fun j h hj => ?_⟩, by dsimp only; omega⟩
          by_cases hq : l.length ≤ j + k
          · exact hgood j h hq
          · obtain rfl : j = ((l.length : Int) - 1 - k).toNat := by dsimp only at hj; omega
            exact h3p
    · have h2p := h2; try simp only [decide_eq_true_eq, decide_eq_false_iff_not, Bool.or_eq_true, Bool.and_eq_true, Bool.or_eq_false_iff, Bool.and_eq_false_iff, Bool.not_eq_true', Bool.not_eq_false', bne_iff_ne, beq_iff_eq, beq_eq_false_iff_ne, bne_eq_false_iff_eq, ne_eq, Decidable.not_not, Int.not_lt, Int.not_le, gt_iff_lt, ge_iff_le, Bool.true_eq_false, Bool.false_eq_true, not_true_eq_false, not_false_eq_true] at h2p
      obtain rfl : k = l.length := by omega
      refine wp_exit ?_
      refine x_then (x_then (x_eq ?_))
      refine n_then ?_
      refine wp_seq ?_
      -- region 17 law.go:91
      refine wp_region_lit ?_
      refine wl_of (op_y (wn rfl) rfl rfl S (y_move rfl S rfl) fun a S => ?_)
      refine wl_of (op_call (wn rfl) rfl rfl S (co_func rfl Try.call14 S rfl) ((by have h := agree_spec s _ _ (H.sl s) (by rw [turned_len _ _ (by omega)]; omega); rw [turned_all] at h; exact h)) fun v w hc a S => ?_)
      obtain ⟨rfl, he⟩ := hc
      have H := H.ext he
      refine wl_of (op_y (wn rfl) rfl rfl S (y_move rfl S rfl) fun a S => ?_)
      refine wl_of (op_y (wn rfl) rfl rfl S (y_extract rfl S rfl rfl) fun a S => ?_)
      refine wl_of (op_y (wn rfl) rfl rfl S (y_extract rfl S rfl rfl) fun a S => ?_)
      refine wl_of (op_y (wn rfl) rfl rfl S (y_extract rfl S rfl rfl) fun a S => ?_)
      refine wl_of (op_y (wn rfl) rfl rfl S (y_assign rfl S rfl) fun a S => ?_)
      refine wl_of (op_y (wn rfl) rfl rfl S (y_assign rfl S rfl) fun a S => ?_)
      refine wl_of (op_y (wn rfl) rfl rfl S (y_assign rfl S rfl) fun a S => ?_)
      refine wpList_nil ?_
      refine n_then ?_
      have S := (((((((((S.nil.cons S 1 rfl).cons S 0 rfl).cons S 5 rfl).cons S 6 rfl).cons S 7 rfl).cons S 8 rfl).cons S 10 rfl).cons S 15 rfl).cons S 16 rfl).cons S 17 rfl
      refine wp_seq ?_
      refine wp_seq ?_
      -- region 18 law.go:92
      refine wp_region_lit ?_
      refine wl_of (op_y (wn rfl) rfl rfl S (y_move rfl S rfl) fun a S => ?_)
      refine wl_of (op_y (wn rfl) rfl rfl S (y_move rfl S rfl) fun a S => ?_)
      refine wl_of (op_y (wn rfl) rfl rfl S (y_bin rfl S rfl rfl rfl) fun a S => ?_)
      refine wl_of (op_y (wn rfl) rfl rfl S (y_move rfl S rfl) fun a S => ?_)
      refine' wl_or 3 103 rfl S H rfl rfl rfl rfl rfl rfl rfl (fun _ S => (wn rfl)) (fun h12 kk => ?yh12) (fun a w S H => ?_)
      case yh12 =>
        have h12p := h12; try simp only [decide_eq_true_eq, decide_eq_false_iff_not, Bool.or_eq_true, Bool.and_eq_true, Bool.or_eq_false_iff, Bool.and_eq_false_iff, Bool.not_eq_true', Bool.not_eq_false', bne_iff_ne, beq_iff_eq, beq_eq_false_iff_ne, bne_eq_false_iff_eq, ne_eq, Decidable.not_not, Int.not_lt, Int.not_le, gt_iff_lt, ge_iff_le, Bool.true_eq_false, Bool.false_eq_true, not_true_eq_false, not_false_eq_true] at h12p
        refine wl_of (op_y (wg' 103 rfl rfl S rfl h12 rfl) rfl rfl S (y_move rfl S rfl) fun a S => ?_)
        refine wl_of (op_y (wg' 103 rfl rfl S rfl h12 rfl) rfl rfl S (y_move rfl S rfl) fun a S => ?_)
        refine wl_of (op_y (wg' 103 rfl rfl S rfl h12 rfl) rfl rfl S (y_bin rfl S rfl rfl rfl) fun a S => ?_)
        refine wl_of (op_y (wn rfl) rfl rfl S (y_or' rfl h12 S rfl rfl) fun a S => ?_)
        exact kk _ _ (S.join 4 107 rfl rfl) H
      refine wl_of (op_y (wn rfl) rfl rfl S (y_move rfl S rfl) fun a S => ?_)
      refine' wl_or 3 108 rfl S H rfl rfl rfl rfl rfl rfl rfl (fun _ S => (wn rfl)) (fun h13 kk => ?yh13) (fun a w S H => ?_)
      case yh13 =>
        have h13p := h13; try simp only [decide_eq_true_eq, decide_eq_false_iff_not, Bool.or_eq_true, Bool.and_eq_true, Bool.or_eq_false_iff, Bool.and_eq_false_iff, Bool.not_eq_true', Bool.not_eq_false', bne_iff_ne, beq_iff_eq, beq_eq_false_iff_ne, bne_eq_false_iff_eq, ne_eq, Decidable.not_not, Int.not_lt, Int.not_le, gt_iff_lt, ge_iff_le, Bool.true_eq_false, Bool.false_eq_true, not_true_eq_false, not_false_eq_true] at h13p
        refine wl_of (op_y (wg' 108 rfl rfl S rfl h13 rfl) rfl rfl S (y_move rfl S rfl) fun a S => ?_)
        refine wl_of (op_y (wg' 108 rfl rfl S rfl h13 rfl) rfl rfl S (y_move rfl S rfl) fun a S => ?_)
        refine wl_of (op_y (wg' 108 rfl rfl S rfl h13 rfl) rfl rfl S (y_bin rfl S rfl rfl rfl) fun a S => ?_)
        refine wl_of (op_y (wn rfl) rfl rfl S (y_or' rfl h13 S rfl rfl) fun a S => ?_)
        exact kk _ _ (S.join 4 112 rfl rfl) H
      refine wpList_nil ?_
      refine n_then ?_
      have S := (((((((S.nil.cons S 1 rfl).cons S 0 rfl).cons S 5 rfl).cons S 6 rfl).cons S 7 rfl).cons S 8 rfl).cons S 10 rfl).cons S 112 rfl
      -- cond 5
      refine c_if S rfl (fun h14 => ?_) (fun h14 => ?_)
      · have h14p := h14; try simp only [decide_eq_true_eq, decide_eq_false_iff_not, Bool.or_eq_true, Bool.and_eq_true, Bool.or_eq_false_iff, Bool.and_eq_false_iff, Bool.not_eq_true', Bool.not_eq_false', bne_iff_ne, beq_iff_eq, beq_eq_false_iff_ne, bne_eq_false_iff_eq, ne_eq, Decidable.not_not, Int.not_lt, Int.not_le, gt_iff_lt, ge_iff_le, Bool.true_eq_false, Bool.false_eq_true, not_true_eq_false, not_false_eq_true] at h14p
        exfalso; simp at h14
      · have h14p := h14; try simp only [decide_eq_true_eq, decide_eq_false_iff_not, Bool.or_eq_true, Bool.and_eq_true, Bool.or_eq_false_iff, Bool.and_eq_false_iff, Bool.not_eq_true', Bool.not_eq_false', bne_iff_ne, beq_iff_eq, beq_eq_false_iff_ne, bne_eq_false_iff_eq, ne_eq, Decidable.not_not, Int.not_lt, Int.not_le, gt_iff_lt, ge_iff_le, Bool.true_eq_false, Bool.false_eq_true, not_true_eq_false, not_false_eq_true] at h14p
        refine wp_skip ?_
        refine n_then ?_
        refine wp_seq ?_
        refine wp_seq ?_
        -- region 20 law.go:95
        refine wp_region_lit ?_
        refine wl_of (op_y (wn rfl) rfl rfl S (y_move rfl S rfl) fun a S => ?_)
        refine wl_of (op_y (wn rfl) rfl rfl S (y_lens rfl Try.underlying24 S H rfl) fun a S => ?_)
        refine wl_of (op_y (wn rfl) rfl rfl S (y_bin rfl S rfl rfl rfl) fun a S => ?_)
        refine wpList_nil ?_
        refine n_then ?_
        have S := ((((((S.nil.cons S 1 rfl).cons S 5 rfl).cons S 6 rfl).cons S 7 rfl).cons S 8 rfl).cons S 10 rfl).cons S 115 rfl
        -- cond 6
        refine c_if S rfl (fun h15 => ?_) (fun h15 => ?_)
        · have h15p := h15; try simp only [decide_eq_true_eq, decide_eq_false_iff_not, Bool.or_eq_true, Bool.and_eq_true, Bool.or_eq_false_iff, Bool.and_eq_false_iff, Bool.not_eq_true', Bool.not_eq_false', bne_iff_ne, beq_iff_eq, beq_eq_false_iff_ne, bne_eq_false_iff_eq, ne_eq, Decidable.not_not, Int.not_lt, Int.not_le, gt_iff_lt, ge_iff_le, Bool.true_eq_false, Bool.false_eq_true, not_true_eq_false, not_false_eq_true] at h15p
          obtain rfl : l = [] := List.length_eq_zero_iff.1 (by omega)
          refine wp_seq ?_
          -- region 21 law.go:96
          refine wp_region_lit ?_
          refine wl_of (op_y (wn rfl) rfl rfl S (y_move rfl S rfl) fun a S => ?_)
          refine wl_of (op_y (wn rfl) rfl rfl S (y_move rfl S rfl) fun a S => ?_)
          refine' wl_and 2 117 rfl S H rfl rfl rfl rfl rfl rfl rfl (fun _ S => (wn rfl)) (fun h16 kk => ?yh16) (fun a w S H => ?_)
          case yh16 =>
            have h16p := h16; try simp only [decide_eq_true_eq, decide_eq_false_iff_not, Bool.or_eq_true, Bool.and_eq_true, Bool.or_eq_false_iff, Bool.and_eq_false_iff, Bool.not_eq_true', Bool.not_eq_false', bne_iff_ne, beq_iff_eq, beq_eq_false_iff_ne, bne_eq_false_iff_eq, ne_eq, Decidable.not_not, Int.not_lt, Int.not_le, gt_iff_lt, ge_iff_le, Bool.true_eq_false, Bool.false_eq_true, not_true_eq_false, not_false_eq_true] at h16p
            refine wl_of (op_y (wg' 117 rfl rfl S rfl h16 rfl) rfl rfl S (y_move rfl S rfl) fun a S => ?_)
            refine wl_of (op_y (wg' 117 rfl rfl S rfl h16 rfl) rfl rfl S (y_bin rfl S rfl rfl rfl) fun a S => ?_)
            refine wl_of (op_y (wn rfl) rfl rfl S (y_and' rfl h16 S rfl rfl) fun a S => ?_)
            exact kk _ _ (S.join 3 120 rfl rfl) H
          refine wl_of (op_y (wn rfl) rfl rfl S (y_assign rfl S rfl) fun a S => ?_)
          refine wpList_nil ?_
          refine n_then ?_
          have S := ((((((S.nil.cons S 1 rfl).cons S 5 rfl).cons S 6 rfl).cons S 7 rfl).cons S 8 rfl).cons S 10 rfl).cons S 4 rfl
          refine wp_ret ?_
          refine r_then (ret1 rfl S rfl ?_)
          refine ⟨congrArg Value.bool ?_, H.toExt⟩
          rfl
        · have h15p := h15; try simp only [decide_eq_true_eq, decide_eq_false_iff_not, Bool.or_eq_true, Bool.and_eq_true, Bool.or_eq_false_iff, Bool.and_eq_false_iff, Bool.not_eq_true', Bool.not_eq_false', bne_iff_ne, beq_iff_eq, beq_eq_false_iff_ne, bne_eq_false_iff_eq, ne_eq, Decidable.not_not, Int.not_lt, Int.not_le, gt_iff_lt, ge_iff_le, Bool.true_eq_false, Bool.false_eq_true, not_true_eq_false, not_false_eq_true] at h15p
          have hne : l ≠ [] := by rintro rfl; simp at h15p
          have hb : ∀ r ∈ l, (bnd r).2.2 = 0 := by intro r hr; obtain ⟨j, hj, rfl⟩ := List.getElem_of_mem hr; exact hgood j hj (by omega)
          refine wp_skip ?_
          refine n_then ?_
          refine wp_seq ?_
          refine wp_seq ?_
          -- region 22 law.go:98
          refine wp_region_lit ?_
          refine wl_of (op_y (wn rfl) rfl rfl S (y_move rfl S rfl) fun a S => ?_)
          refine wl_of (op_y (wn rfl) rfl rfl S (y_bin rfl S rfl rfl rfl) fun a S => ?_)
          refine wpList_nil ?_
          refine n_then ?_
          -- cond 7
          refine c_if S rfl (fun h17 => ?_) (fun h17 => ?_)
          · have h17p := h17; try simp only [decide_eq_true_eq, decide_eq_false_iff_not, Bool.or_eq_true, Bool.and_eq_true, Bool.or_eq_false_iff, Bool.and_eq_false_iff, Bool.not_eq_true', Bool.not_eq_false', bne_iff_ne, beq_iff_eq, beq_eq_false_iff_ne, bne_eq_false_iff_eq, ne_eq, Decidable.not_not, Int.not_lt, Int.not_le, gt_iff_lt, ge_iff_le, Bool.true_eq_false, Bool.false_eq_true, not_true_eq_false, not_false_eq_true] at h17p
            have hz := agree_none l hne hb h17p t
            refine wp_seq ?_
            -- region 23 law.go:99
            refine wp_region_lit ?_
            refine wl_of (op_y (wn rfl) rfl rfl S (y_move rfl S rfl) fun a S => ?_)
            refine wl_of (op_y (wn rfl) rfl rfl S (y_move rfl S rfl) fun a S => ?_)
            refine' wl_and 2 124 rfl S H rfl rfl rfl rfl rfl rfl rfl (fun _ S => (wn rfl)) (fun h18 kk => ?yh18) (fun a w S H => ?_)
            case yh18 =>
              have h18p := h18; try simp only [decide_eq_true_eq, decide_eq_false_iff_not, Bool.or_eq_true, Bool.and_eq_true, Bool.or_eq_false_iff, Bool.and_eq_false_iff, Bool.not_eq_true', Bool.not_eq_false', bne_iff_ne, beq_iff_eq, beq_eq_false_iff_ne, bne_eq_false_iff_eq, ne_eq, Decidable.not_not, Int.not_lt, Int.not_le, gt_iff_lt, ge_iff_le, Bool.true_eq_false, Bool.false_eq_true, not_true_eq_false, not_false_eq_true] at h18p
              refine wl_of (op_y (wg' 124 rfl rfl S rfl h18 rfl) rfl rfl S (y_move rfl S rfl) fun a S => ?_)
              refine wl_of (op_y (wg' 124 rfl rfl S rfl h18 rfl) rfl rfl S (y_bin rfl S rfl rfl rfl) fun a S => ?_)
              refine wl_of (op_y (wn rfl) rfl rfl S (y_and' rfl h18 S rfl rfl) fun a S => ?_)
              exact kk _ _ (S.join 3 127 rfl rfl) H
            refine wl_of (op_y (wn rfl) rfl rfl S (y_move rfl S rfl) fun a S => ?_)
            refine' wl_and 2 128 rfl S H rfl rfl rfl rfl rfl rfl rfl (fun _ S => (wn rfl)) (fun h19 kk => ?yh19) (fun a w S H => ?_)
            case yh19 =>
              have h19p := h19; try simp only [decide_eq_true_eq, decide_eq_false_iff_not, Bool.or_eq_true, Bool.and_eq_true, Bool.or_eq_false_iff, Bool.and_eq_false_iff, Bool.not_eq_true', Bool.not_eq_false', bne_iff_ne, beq_iff_eq, beq_eq_false_iff_ne, bne_eq_false_iff_eq, ne_eq, Decidable.not_not, Int.not_lt, Int.not_le, gt_iff_lt, ge_iff_le, Bool.true_eq_false, Bool.false_eq_true, not_true_eq_false, not_false_eq_true] at h19p
              refine wl_of (op_y (wg' 128 rfl rfl S rfl h19 rfl) rfl rfl S (y_move rfl S rfl) fun a S => ?_)
              refine wl_of (op_y (wg' 128 rfl rfl S rfl h19 rfl) rfl rfl S (y_not rfl S rfl) fun a S => ?_)
              refine wl_of (op_y (wn rfl) rfl rfl S (y_and' rfl h19 S rfl rfl) fun a S => ?_)
              exact kk _ _ (S.join 3 131 rfl rfl) H
            refine wl_of (op_y (wn rfl) rfl rfl S (y_assign rfl S rfl) fun a S => ?_)
            refine wpList_nil ?_
            refine n_then ?_
            have S := (((((S.nil.cons S 1 rfl).cons S 5 rfl).cons S 6 rfl).cons S 7 rfl).cons S 10 rfl).cons S 4 rfl
            refine wp_ret ?_
            refine r_then (ret1 rfl S rfl ?_)
            refine ⟨congrArg Value.bool ?_, H.toExt⟩
            rw [hz.1, hz.2]; rfl
          · have h17p := h17; try simp only [decide_eq_true_eq, decide_eq_false_iff_not, Bool.or_eq_true, Bool.and_eq_true, Bool.or_eq_false_iff, Bool.and_eq_false_iff, Bool.not_eq_true', Bool.not_eq_false', bne_iff_ne, beq_iff_eq, beq_eq_false_iff_ne, bne_eq_false_iff_eq, ne_eq, Decidable.not_not, Int.not_lt, Int.not_le, gt_iff_lt, ge_iff_le, Bool.true_eq_false, Bool.false_eq_true, not_true_eq_false, not_false_eq_true] at h17p
            have hz := agree_yes l hne hb h17p t
            refine wp_skip ?_
            refine n_then ?_
            have S := ((((S.nil.cons S 1 rfl).cons S 5 rfl).cons S 6 rfl).cons S 7 rfl).cons S 10 rfl
            refine wp_seq ?_
            -- region 24 law.go:101
            refine wp_region_lit ?_
            refine wl_of (op_y (wn rfl) rfl rfl S (y_move rfl S rfl) fun a S => ?_)
            refine wl_of (op_y (wn rfl) rfl rfl S (y_move rfl S rfl) fun a S => ?_)
            refine' wl_and 3 133 rfl S H rfl rfl rfl rfl rfl rfl rfl (fun _ S => (wn rfl)) (fun h20 kk => ?yh20) (fun a w S H => ?_)
            case yh20 =>
              have h20p := h20; try simp only [decide_eq_true_eq, decide_eq_false_iff_not, Bool.or_eq_true, Bool.and_eq_true, Bool.or_eq_false_iff, Bool.and_eq_false_iff, Bool.not_eq_true', Bool.not_eq_false', bne_iff_ne, beq_iff_eq, beq_eq_false_iff_ne, bne_eq_false_iff_eq, ne_eq, Decidable.not_not, Int.not_lt, Int.not_le, gt_iff_lt, ge_iff_le, Bool.true_eq_false, Bool.false_eq_true, not_true_eq_false, not_false_eq_true] at h20p
              refine wl_of (op_y (wg' 133 rfl rfl S rfl h20 rfl) rfl rfl S (y_move rfl S rfl) fun a S => ?_)
              refine wl_of (op_y (wg' 133 rfl rfl S rfl h20 rfl) rfl rfl S (y_move rfl S rfl) fun a S => ?_)
              refine wl_of (op_y (wg' 133 rfl rfl S rfl h20 rfl) rfl rfl S (y_bin rfl S rfl rfl rfl) fun a S => ?_)
              refine wl_of (op_y (wn rfl) rfl rfl S (y_and' rfl h20 S rfl rfl) fun a S => ?_)
              exact kk _ _ (S.join 4 137 rfl rfl) H
            refine wl_of (op_y (wn rfl) rfl rfl S (y_move rfl S rfl) fun a S => ?_)
            refine' wl_and 10 138 rfl S H rfl rfl rfl rfl rfl rfl rfl (fun _ S => (wn rfl)) (fun h21 kk => ?yh21) (fun a w S H => ?_)
            case yh21 =>
              have h21p := h21; try simp only [decide_eq_true_eq, decide_eq_false_iff_not, Bool.or_eq_true, Bool.and_eq_true, Bool.or_eq_false_iff, Bool.and_eq_false_iff, Bool.not_eq_true', Bool.not_eq_false', bne_iff_ne, beq_iff_eq, beq_eq_false_iff_ne, bne_eq_false_iff_eq, ne_eq, Decidable.not_not, Int.not_lt, Int.not_le, gt_iff_lt, ge_iff_le, Bool.true_eq_false, Bool.false_eq_true, not_true_eq_false, not_false_eq_true] at h21p
              refine wl_of (op_y (wg' 138 rfl rfl S rfl h21 rfl) rfl rfl S (y_move rfl S rfl) fun a S => ?_)
              refine wl_of (op_y (wg' 138 rfl rfl S rfl h21 rfl) rfl rfl S (y_move rfl S rfl) fun a S => ?_)
              refine wl_of (op_y (wg' 138 rfl rfl S rfl h21 rfl) rfl rfl S (y_move rfl S rfl) fun a S => ?_)
              refine wl_of (op_y (wg' 138 rfl rfl S rfl h21 rfl) rfl rfl S (y_bin rfl S rfl rfl rfl) fun a S => ?_)
              refine wl_of (op_y (wg' 138 rfl rfl S rfl h21 rfl) rfl rfl S (y_move rfl S rfl) fun a S => ?_)
              refine' wl_and 3 143 rfl S H rfl rfl rfl rfl rfl rfl rfl (fun _ S => (wg' 138 rfl rfl S rfl h21 rfl)) (fun h22 kk => ?yh22) (fun a w S H => ?_)
              case yh22 =>
                have h22p := h22; try simp only [decide_eq_true_eq, decide_eq_false_iff_not, Bool.or_eq_true, Bool.and_eq_true, Bool.or_eq_false_iff, Bool.and_eq_false_iff, Bool.not_eq_true', Bool.not_eq_false', bne_iff_ne, beq_iff_eq, beq_eq_false_iff_ne, bne_eq_false_iff_eq, ne_eq, Decidable.not_not, Int.not_lt, Int.not_le, gt_iff_lt, ge_iff_le, Bool.true_eq_false, Bool.false_eq_true, not_true_eq_false, not_false_eq_true] at h22p
                refine wl_of (op_y (wg' 143 rfl rfl S rfl h22 rfl) rfl rfl S (y_move rfl S rfl) fun a S => ?_)
                refine wl_of (op_y (wg' 143 rfl rfl S rfl h22 rfl) rfl rfl S (y_move rfl S rfl) fun a S => ?_)
                refine wl_of (op_y (wg' 143 rfl rfl S rfl h22 rfl) rfl rfl S (y_bin rfl S rfl rfl rfl) fun a S => ?_)
                refine wl_of (op_y (wg' 138 rfl rfl S rfl h21 rfl) rfl rfl S (y_and' rfl h22 S rfl rfl) fun a S => ?_)
                exact kk _ _ (S.join 4 147 rfl rfl) H
              refine wl_of (op_y (wg' 138 rfl rfl S rfl h21 rfl) rfl rfl S (y_eqb rfl Try.underlying4 S rfl rfl) fun a S => ?_)
              refine wl_of (op_y (wn rfl) rfl rfl S (y_and' rfl h21 S rfl rfl) fun a S => ?_)
              exact kk _ _ (S.join 8 149 rfl rfl) H
            refine wl_of (op_y (wn rfl) rfl rfl S (y_assign rfl S rfl) fun a S => ?_)
            refine wpList_nil ?_
            refine n_then ?_
            have S := S.nil.cons S 4 rfl
            refine wp_ret ?_
            refine ret1 rfl S rfl ?_
            refine ⟨congrArg Value.bool ?_, H.toExt⟩
            have e : allIn l t l.length = (decide ((agree l).1 ≤ t) && decide (t ≤ (agree l).2.1)) := by rw [Bool.eq_iff_iff, hz.2]; simp
            rw [e]; simp [hz.1]
/-- foyer/foyerlaw25.ClockLonger -/
theorem law5 (r : Rd) (x y z : Int) (w0 : World) (hx : 0 ≤ x ∧ x ≤ 65535) (hy : 0 ≤ y ∧ y ≤ 65535) (hz : 0 ≤ z ∧ z ≤ 65535) :
    Ret Try.prog 7 #[.agg (Rd.enc r).toArray, .int .u16 x, .int .u16 y, .int .u16 z] w0 (fun v w => v = .bool true ∧ Ext w0 w) := by
  refine ret_of_wp (n := 95) Try.func7 rfl rfl rfl (fl := [(0, .agg (Rd.enc r).toArray), (1, .int .u16 x), (2, .int .u16 y), (3, .int .u16 z)]) rfl (fun a S => ?_)
  have H := HSat.start w0
  refine wp_seq ?_
  -- region 0 law.go:105
  refine wp_region_lit ?_
  refine wl_of (op_boxa (wn rfl) rfl rfl rfl S H rfl fun b4 a w S H => ?_)
  refine wl_of (op_y (wn rfl) rfl rfl S (y_assign rfl S rfl) fun a S => ?_)
  refine wpList_nil ?_
  refine n_then ?_
  refine wp_seq ?_
  -- region 1 law.go:106
  refine wp_region_lit ?_
  refine wl_of (op_call (wn rfl) rfl rfl S (co_func rfl Try.call9 S rfl) (head_spec _) fun v w hc a S => ?_)
  obtain ⟨rfl, he⟩ := hc
  have H := H.ext he
  refine wl_of (op_y (wn rfl) rfl rfl S (y_assign rfl S rfl) fun a S => ?_)
  refine wpList_nil ?_
  refine n_then ?_
  refine wp_seq ?_
  -- region 2 law.go:107
  refine wp_region_lit ?_
  refine wl_of (op_y (wn rfl) rfl rfl S (y_load0 rfl S H rfl (by exact Fagg23)) fun a S => ?_)
  refine wl_of (op_call (wn rfl) rfl rfl S (co_func rfl Try.call10 S rfl) (bounds_spec _ _) fun v w hc a S => ?_)
  obtain ⟨rfl, he⟩ := hc
  have H := H.ext he
  refine wl_of (op_y (wn rfl) rfl rfl S (y_move rfl S rfl) fun a S => ?_)
  refine wl_of (op_y (wn rfl) rfl rfl S (y_extract rfl S rfl rfl) fun a S => ?_)
  refine wl_of (op_y (wn rfl) rfl rfl S (y_extract rfl S rfl rfl) fun a S => ?_)
  refine wl_of (op_y (wn rfl) rfl rfl S (y_extract rfl S rfl rfl) fun a S => ?_)
  refine wl_of (op_y (wn rfl) rfl rfl S (y_assign rfl S rfl) fun a S => ?_)
  refine wl_of (op_y (wn rfl) rfl rfl S (y_assign rfl S rfl) fun a S => ?_)
  refine wl_of (op_y (wn rfl) rfl rfl S (y_assign rfl S rfl) fun a S => ?_)
  refine wpList_nil ?_
  refine n_then ?_
  have S := ((((((((S.nil.cons S 3 rfl).cons S 2 rfl).cons S 1 rfl).cons S 4 rfl).cons S 8 rfl).cons S 9 rfl).cons S 10 rfl).cons S 11 rfl).cons S 12 rfl
  refine wp_seq ?_
  refine wp_seq ?_
  -- region 3 law.go:108
  refine wp_region_lit ?_
  refine wl_of (op_y (wn rfl) rfl rfl S (y_move rfl S rfl) fun a S => ?_)
  refine wl_of (op_y (wn rfl) rfl rfl S (y_bin rfl S rfl rfl rfl) fun a S => ?_)
  refine wpList_nil ?_
  refine n_then ?_
  -- cond 1
  refine c_if S rfl (fun h1 => ?_) (fun h1 => ?_)
  · have h1p := h1; try simp only [decide_eq_true_eq, decide_eq_false_iff_not, Bool.or_eq_true, Bool.and_eq_true, Bool.or_eq_false_iff, Bool.and_eq_false_iff, Bool.not_eq_true', Bool.not_eq_false', bne_iff_ne, beq_iff_eq, beq_eq_false_iff_ne, bne_eq_false_iff_eq, ne_eq, Decidable.not_not, Int.not_lt, Int.not_le, gt_iff_lt, ge_iff_le, Bool.true_eq_false, Bool.false_eq_true, not_true_eq_false, not_false_eq_true] at h1p
    refine wp_seq ?_
    -- region 4 law.go:109
    refine wp_region_lit ?_
    refine wl_of (op_y (wn rfl) rfl rfl S (y_move rfl S rfl) fun a S => ?_)
    refine wl_of (op_y (wn rfl) rfl rfl S (y_assign rfl S rfl) fun a S => ?_)
    refine wpList_nil ?_
    refine n_then ?_
    have S := (((((((S.nil.cons S 3 rfl).cons S 2 rfl).cons S 1 rfl).cons S 4 rfl).cons S 9 rfl).cons S 10 rfl).cons S 11 rfl).cons S 8 rfl
    refine wp_ret ?_
    refine r_then (ret1 rfl S rfl ?_)
    exact ⟨rfl, H.toExt⟩
  · have h1p := h1; try simp only [decide_eq_true_eq, decide_eq_false_iff_not, Bool.or_eq_true, Bool.and_eq_true, Bool.or_eq_false_iff, Bool.and_eq_false_iff, Bool.not_eq_true', Bool.not_eq_false', bne_iff_ne, beq_iff_eq, beq_eq_false_iff_ne, bne_eq_false_iff_eq, ne_eq, Decidable.not_not, Int.not_lt, Int.not_le, gt_iff_lt, ge_iff_le, Bool.true_eq_false, Bool.false_eq_true, not_true_eq_false, not_false_eq_true] at h1p
    have hv := good_valid r h1p
    have hr := (valid_iff r).1 hv
    refine wp_skip ?_
    refine n_then ?_
    refine wp_seq ?_
    -- region 5 law.go:111
    refine wp_region_lit ?_
    refine wl_of (op_y (wn rfl) rfl rfl S (y_load0 rfl S H rfl (by exact Fagg23)) fun a S => ?_)
    refine wl_of (op_alloc (wn rfl) rfl rfl rfl S H Fzer23 fun b13 a w S H => ?_)
    refine wl_of (op_storea (wn rfl) rfl rfl S H rfl rfl rfl Fsiz23 rfl (cs' := [_, _, _]) rfl fun a w S H => ?_)
    refine wpList_nil ?_
    refine n_then ?_
    have S := ((((((((S.nil.cons S 3 rfl).cons S 2 rfl).cons S 1 rfl).cons S 4 rfl).cons S 8 rfl).cons S 9 rfl).cons S 10 rfl).cons S 11 rfl).cons S 13 rfl
    refine wp_seq ?_
    -- region 6 law.go:112
    refine wp_region_lit ?_
    refine wl_of (op_y (wn rfl) rfl rfl S (y_faddrb rfl Ffo23_1 S rfl) fun a S => ?_)
    refine wl_of (op_y (wn rfl) rfl rfl S (y_load rfl Fsca3 S H rfl rfl) fun a S => ?_)
    refine wl_of (op_y (wn rfl) rfl rfl S (y_move rfl S rfl) fun a S => ?_)
    refine wl_of (op_y (wn rfl) rfl rfl S (y_conv rfl Try.underlying36 Try.underlying3 S rfl (by omega)) fun a S => ?_)
    refine wl_of (op_y (wn rfl) rfl rfl S (y_sub rfl S rfl rfl (by omega)) fun a S => ?_)
    refine wl_of (op_y (wn rfl) rfl rfl S (y_max rfl S rfl rfl) fun a S => ?_)
    refine wl_of (op_y (wn rfl) rfl rfl S (y_faddrb rfl Ffo23_1 S rfl) fun a S => ?_)
    refine wl_of (op_store (wn rfl) rfl rfl S H rfl rfl rfl Fsiz3 rfl fun a w S H => ?_)
    dsimp only [List.set] at H
    refine wpList_nil ?_
    refine n_then ?_
    have S := (((((((S.nil.cons S 3 rfl).cons S 2 rfl).cons S 4 rfl).cons S 8 rfl).cons S 9 rfl).cons S 10 rfl).cons S 11 rfl).cons S 13 rfl
    refine wp_seq ?_
    -- region 7 law.go:113
    refine wp_region_lit ?_
    refine wl_of (op_y (wn rfl) rfl rfl S (y_faddrb rfl Ffo23_2 S rfl) fun a S => ?_)
    refine wl_of (op_y (wn rfl) rfl rfl S (y_load rfl Fsca3 S H rfl rfl) fun a S => ?_)
    refine wl_of (op_y (wn rfl) rfl rfl S (y_move rfl S rfl) fun a S => ?_)
    refine wl_of (op_y (wn rfl) rfl rfl S (y_conv rfl Try.underlying36 Try.underlying3 S rfl (by omega)) fun a S => ?_)
    refine wl_of (op_y (wn rfl) rfl rfl S (y_add rfl S rfl rfl (by omega)) fun a S => ?_)
    refine wl_of (op_y (wn rfl) rfl rfl S (y_min rfl S rfl rfl) fun a S => ?_)
    refine wl_of (op_y (wn rfl) rfl rfl S (y_faddrb rfl Ffo23_2 S rfl) fun a S => ?_)
    refine wl_of (op_store (wn rfl) rfl rfl S H rfl rfl rfl Fsiz3 rfl fun a w S H => ?_)
    dsimp only [List.set] at H
    refine wpList_nil ?_
    refine n_then ?_
    have S := ((((((S.nil.cons S 3 rfl).cons S 4 rfl).cons S 8 rfl).cons S 9 rfl).cons S 10 rfl).cons S 11 rfl).cons S 13 rfl
    refine wp_seq ?_
    -- region 8 law.go:114
    refine wp_region_lit ?_
    refine wl_of (op_y (wn rfl) rfl rfl S (y_load0 rfl S H rfl (by exact Fagg23)) fun a S => ?_)
    refine wl_of (op_call (wn rfl) rfl rfl S (co_func rfl Try.call10 S rfl) (bounds_spec ⟨r.shows, max 0 (r.synced - x), min 1000 (r.drift + y)⟩ _) fun v w hc a S => ?_)
    obtain ⟨rfl, he⟩ := hc
    have H := H.ext he
    refine wl_of (op_y (wn rfl) rfl rfl S (y_move rfl S rfl) fun a S => ?_)
    refine wl_of (op_y (wn rfl) rfl rfl S (y_extract rfl S rfl rfl) fun a S => ?_)
    refine wl_of (op_y (wn rfl) rfl rfl S (y_extract rfl S rfl rfl) fun a S => ?_)
    refine wl_of (op_y (wn rfl) rfl rfl S (y_extract rfl S rfl rfl) fun a S => ?_)
    refine wl_of (op_y (wn rfl) rfl rfl S (y_assign rfl S rfl) fun a S => ?_)
    refine wl_of (op_y (wn rfl) rfl rfl S (y_assign rfl S rfl) fun a S => ?_)
    refine wl_of (op_y (wn rfl) rfl rfl S (y_assign rfl S rfl) fun a S => ?_)
    refine wpList_nil ?_
    refine n_then ?_
    have S := ((((((((S.nil.cons S 3 rfl).cons S 4 rfl).cons S 8 rfl).cons S 9 rfl).cons S 10 rfl).cons S 11 rfl).cons S 14 rfl).cons S 15 rfl).cons S 16 rfl
    refine wp_seq ?_
    -- region 9 law.go:115
    refine wp_region_lit ?_
    refine wl_of (op_y (wn rfl) rfl rfl S (y_load0 rfl S H rfl (by exact Fagg23)) fun a S => ?_)
    refine wl_of (op_alloc (wn rfl) rfl rfl rfl S H Fzer23 fun b17 a w S H => ?_)
    refine wl_of (op_storea (wn rfl) rfl rfl S H rfl rfl rfl Fsiz23 rfl (cs' := [_, _, _]) rfl fun a w S H => ?_)
    refine wpList_nil ?_
    refine n_then ?_
    refine wp_seq ?_
    -- region 10 law.go:116
    refine wp_region_lit ?_
    refine wl_of (op_y (wn rfl) rfl rfl S (y_faddrb rfl Ffo23_0 S rfl) fun a S => ?_)
    refine wl_of (op_y (wn rfl) rfl rfl S (y_load rfl Fsca3 S H rfl rfl) fun a S => ?_)
    refine wl_of (op_y (wn rfl) rfl rfl S (y_move rfl S rfl) fun a S => ?_)
    refine wl_of (op_y (wn rfl) rfl rfl S (y_conv rfl Try.underlying36 Try.underlying3 S rfl (by omega)) fun a S => ?_)
    refine wl_of (op_y (wn rfl) rfl rfl S (y_add rfl S rfl rfl (by omega)) fun a S => ?_)
    refine wl_of (op_y (wn rfl) rfl rfl S (y_min rfl S rfl rfl) fun a S => ?_)
    refine wl_of (op_y (wn rfl) rfl rfl S (y_faddrb rfl Ffo23_0 S rfl) fun a S => ?_)
    refine wl_of (op_store (wn rfl) rfl rfl S H rfl rfl rfl Fsiz3 rfl fun a w S H => ?_)
    dsimp only [List.set] at H
    refine wpList_nil ?_
    refine n_then ?_
    have S := (((((((S.nil.cons S 8 rfl).cons S 9 rfl).cons S 10 rfl).cons S 11 rfl).cons S 14 rfl).cons S 15 rfl).cons S 16 rfl).cons S 17 rfl
    refine wp_seq ?_
    -- region 11 law.go:117
    refine wp_region_lit ?_
    refine wl_of (op_y (wn rfl) rfl rfl S (y_load0 rfl S H rfl (by exact Fagg23)) fun a S => ?_)
    refine wl_of (op_call (wn rfl) rfl rfl S (co_func rfl Try.call10 S rfl) (bounds_spec ⟨min 1000000000 (r.shows + z), r.synced, r.drift⟩ _) fun v w hc a S => ?_)
    obtain ⟨rfl, he⟩ := hc
    have H := H.ext he
    refine wl_of (op_y (wn rfl) rfl rfl S (y_move rfl S rfl) fun a S => ?_)
    refine wl_of (op_y (wn rfl) rfl rfl S (y_extract rfl S rfl rfl) fun a S => ?_)
    refine wl_of (op_y (wn rfl) rfl rfl S (y_extract rfl S rfl rfl) fun a S => ?_)
    refine wl_of (op_y (wn rfl) rfl rfl S (y_extract rfl S rfl rfl) fun a S => ?_)
    refine wl_of (op_y (wn rfl) rfl rfl S (y_assign rfl S rfl) fun a S => ?_)
    refine wl_of (op_y (wn rfl) rfl rfl S (y_assign rfl S rfl) fun a S => ?_)
    refine wl_of (op_y (wn rfl) rfl rfl S (y_assign rfl S rfl) fun a S => ?_)
    refine wpList_nil ?_
    refine n_then ?_
    have S := (((((((((S.nil.cons S 8 rfl).cons S 9 rfl).cons S 10 rfl).cons S 11 rfl).cons S 14 rfl).cons S 15 rfl).cons S 16 rfl).cons S 18 rfl).cons S 19 rfl).cons S 20 rfl
    refine wp_seq ?_
    -- region 12 law.go:118
    refine wp_region_lit ?_
    refine wl_of (op_y (wn rfl) rfl rfl S (y_move rfl S rfl) fun a S => ?_)
    refine wl_of (op_y (wn rfl) rfl rfl S (y_move rfl S rfl) fun a S => ?_)
    refine' wl_and 2 67 rfl S H rfl rfl rfl rfl rfl rfl rfl (fun _ S => (wn rfl)) (fun h2 kk => ?yh2) (fun a w S H => ?_)
    case yh2 =>
      have h2p := h2; try simp only [decide_eq_true_eq, decide_eq_false_iff_not, Bool.or_eq_true, Bool.and_eq_true, Bool.or_eq_false_iff, Bool.and_eq_false_iff, Bool.not_eq_true', Bool.not_eq_false', bne_iff_ne, beq_iff_eq, beq_eq_false_iff_ne, bne_eq_false_iff_eq, ne_eq, Decidable.not_not, Int.not_lt, Int.not_le, gt_iff_lt, ge_iff_le, Bool.true_eq_false, Bool.false_eq_true, not_true_eq_false, not_false_eq_true] at h2p
      refine wl_of (op_y (wg' 67 rfl rfl S rfl h2 rfl) rfl rfl S (y_move rfl S rfl) fun a S => ?_)
      refine wl_of (op_y (wg' 67 rfl rfl S rfl h2 rfl) rfl rfl S (y_bin rfl S rfl rfl rfl) fun a S => ?_)
      refine wl_of (op_y (wn rfl) rfl rfl S (y_and' rfl h2 S rfl rfl) fun a S => ?_)
      exact kk _ _ (S.join 3 70 rfl rfl) H
    refine wl_of (op_y (wn rfl) rfl rfl S (y_move rfl S rfl) fun a S => ?_)
    refine' wl_and 2 71 rfl S H rfl rfl rfl rfl rfl rfl rfl (fun _ S => (wn rfl)) (fun h3 kk => ?yh3) (fun a w S H => ?_)
    case yh3 =>
      have h3p := h3; try simp only [decide_eq_true_eq, decide_eq_false_iff_not, Bool.or_eq_true, Bool.and_eq_true, Bool.or_eq_false_iff, Bool.and_eq_false_iff, Bool.not_eq_true', Bool.not_eq_false', bne_iff_ne, beq_iff_eq, beq_eq_false_iff_ne, bne_eq_false_iff_eq, ne_eq, Decidable.not_not, Int.not_lt, Int.not_le, gt_iff_lt, ge_iff_le, Bool.true_eq_false, Bool.false_eq_true, not_true_eq_false, not_false_eq_true] at h3p
      refine wl_of (op_y (wg' 71 rfl rfl S rfl h3 rfl) rfl rfl S (y_move rfl S rfl) fun a S => ?_)
      refine wl_of (op_y (wg' 71 rfl rfl S rfl h3 rfl) rfl rfl S (y_bin rfl S rfl rfl rfl) fun a S => ?_)
      refine wl_of (op_y (wn rfl) rfl rfl S (y_and' rfl h3 S rfl rfl) fun a S => ?_)
      exact kk _ _ (S.join 3 74 rfl rfl) H
    refine wl_of (op_y (wn rfl) rfl rfl S (y_move rfl S rfl) fun a S => ?_)
    refine' wl_and 3 75 rfl S H rfl rfl rfl rfl rfl rfl rfl (fun _ S => (wn rfl)) (fun h4 kk => ?yh4) (fun a w S H => ?_)
    case yh4 =>
      have h4p := h4; try simp only [decide_eq_true_eq, decide_eq_false_iff_not, Bool.or_eq_true, Bool.and_eq_true, Bool.or_eq_false_iff, Bool.and_eq_false_iff, Bool.not_eq_true', Bool.not_eq_false', bne_iff_ne, beq_iff_eq, beq_eq_false_iff_ne, bne_eq_false_iff_eq, ne_eq, Decidable.not_not, Int.not_lt, Int.not_le, gt_iff_lt, ge_iff_le, Bool.true_eq_false, Bool.false_eq_true, not_true_eq_false, not_false_eq_true] at h4p
      refine wl_of (op_y (wg' 75 rfl rfl S rfl h4 rfl) rfl rfl S (y_move rfl S rfl) fun a S => ?_)
      refine wl_of (op_y (wg' 75 rfl rfl S rfl h4 rfl) rfl rfl S (y_move rfl S rfl) fun a S => ?_)
      refine wl_of (op_y (wg' 75 rfl rfl S rfl h4 rfl) rfl rfl S (y_bin rfl S rfl rfl rfl) fun a S => ?_)
      refine wl_of (op_y (wn rfl) rfl rfl S (y_and' rfl h4 S rfl rfl) fun a S => ?_)
      exact kk _ _ (S.join 4 79 rfl rfl) H
    refine wl_of (op_y (wn rfl) rfl rfl S (y_move rfl S rfl) fun a S => ?_)
    refine' wl_and 3 80 rfl S H rfl rfl rfl rfl rfl rfl rfl (fun _ S => (wn rfl)) (fun h5 kk => ?yh5) (fun a w S H => ?_)
    case yh5 =>
      have h5p := h5; try simp only [decide_eq_true_eq, decide_eq_false_iff_not, Bool.or_eq_true, Bool.and_eq_true, Bool.or_eq_false_iff, Bool.and_eq_false_iff, Bool.not_eq_true', Bool.not_eq_false', bne_iff_ne, beq_iff_eq, beq_eq_false_iff_ne, bne_eq_false_iff_eq, ne_eq, Decidable.not_not, Int.not_lt, Int.not_le, gt_iff_lt, ge_iff_le, Bool.true_eq_false, Bool.false_eq_true, not_true_eq_false, not_false_eq_true] at h5p
      refine wl_of (op_y (wg' 80 rfl rfl S rfl h5 rfl) rfl rfl S (y_move rfl S rfl) fun a S => ?_)
      refine wl_of (op_y (wg' 80 rfl rfl S rfl h5 rfl) rfl rfl S (y_move rfl S rfl) fun a S => ?_)
      refine wl_of (op_y (wg' 80 rfl rfl S rfl h5 rfl) rfl rfl S (y_bin rfl S rfl rfl rfl) fun a S => ?_)
      refine wl_of (op_y (wn rfl) rfl rfl S (y_and' rfl h5 S rfl rfl) fun a S => ?_)
      exact kk _ _ (S.join 4 84 rfl rfl) H
    refine wl_of (op_y (wn rfl) rfl rfl S (y_move rfl S rfl) fun a S => ?_)
    refine' wl_and 3 85 rfl S H rfl rfl rfl rfl rfl rfl rfl (fun _ S => (wn rfl)) (fun h6 kk => ?yh6) (fun a w S H => ?_)
    case yh6 =>
      have h6p := h6; try simp only [decide_eq_true_eq, decide_eq_false_iff_not, Bool.or_eq_true, Bool.and_eq_true, Bool.or_eq_false_iff, Bool.and_eq_false_iff, Bool.not_eq_true', Bool.not_eq_false', bne_iff_ne, beq_iff_eq, beq_eq_false_iff_ne, bne_eq_false_iff_eq, ne_eq, Decidable.not_not, Int.not_lt, Int.not_le, gt_iff_lt, ge_iff_le, Bool.true_eq_false, Bool.false_eq_true, not_true_eq_false, not_false_eq_true] at h6p
      refine wl_of (op_y (wg' 85 rfl rfl S rfl h6 rfl) rfl rfl S (y_move rfl S rfl) fun a S => ?_)
      refine wl_of (op_y (wg' 85 rfl rfl S rfl h6 rfl) rfl rfl S (y_move rfl S rfl) fun a S => ?_)
      refine wl_of (op_y (wg' 85 rfl rfl S rfl h6 rfl) rfl rfl S (y_bin rfl S rfl rfl rfl) fun a S => ?_)
      refine wl_of (op_y (wn rfl) rfl rfl S (y_and' rfl h6 S rfl rfl) fun a S => ?_)
      exact kk _ _ (S.join 4 89 rfl rfl) H
    refine wl_of (op_y (wn rfl) rfl rfl S (y_move rfl S rfl) fun a S => ?_)
    refine' wl_and 3 90 rfl S H rfl rfl rfl rfl rfl rfl rfl (fun _ S => (wn rfl)) (fun h7 kk => ?yh7) (fun a w S H => ?_)
    case yh7 =>
      have h7p := h7; try simp only [decide_eq_true_eq, decide_eq_false_iff_not, Bool.or_eq_true, Bool.and_eq_true, Bool.or_eq_false_iff, Bool.and_eq_false_iff, Bool.not_eq_true', Bool.not_eq_false', bne_iff_ne, beq_iff_eq, beq_eq_false_iff_ne, bne_eq_false_iff_eq, ne_eq, Decidable.not_not, Int.not_lt, Int.not_le, gt_iff_lt, ge_iff_le, Bool.true_eq_false, Bool.false_eq_true, not_true_eq_false, not_false_eq_true] at h7p
      refine wl_of (op_y (wg' 90 rfl rfl S rfl h7 rfl) rfl rfl S (y_move rfl S rfl) fun a S => ?_)
      refine wl_of (op_y (wg' 90 rfl rfl S rfl h7 rfl) rfl rfl S (y_move rfl S rfl) fun a S => ?_)
      refine wl_of (op_y (wg' 90 rfl rfl S rfl h7 rfl) rfl rfl S (y_bin rfl S rfl rfl rfl) fun a S => ?_)
      refine wl_of (op_y (wn rfl) rfl rfl S (y_and' rfl h7 S rfl rfl) fun a S => ?_)
      exact kk _ _ (S.join 4 94 rfl rfl) H
    refine wl_of (op_y (wn rfl) rfl rfl S (y_assign rfl S rfl) fun a S => ?_)
    refine wpList_nil ?_
    refine n_then ?_
    have S := S.nil.cons S 8 rfl
    refine wp_ret ?_
    refine ret1 rfl S rfl ?_
    refine ⟨congrArg Value.bool ?_, H.toExt⟩
    exact law5_plain r x y z hv hx hy hz
/-- foyer/foyerlaw25.ClockOne -/
theorem law6 (r : Rd) (t : Int) (w0 : World) :
    Ret Try.prog 8 #[.agg (Rd.enc r).toArray, .int .i64 t] w0 (fun v w => v = .bool true ∧ Ext w0 w) := by
  refine ret_of_wp (n := 96) Try.func8 rfl rfl rfl (fl := [(0, .agg (Rd.enc r).toArray), (1, .int .i64 t)]) rfl (fun a S => ?_)
  have H := HSat.start w0
  refine wp_seq ?_
  -- region 0 law.go:122
  refine wp_region_lit ?_
  refine wl_of (op_boxa (wn rfl) rfl rfl rfl S H rfl fun b2 a w S H => ?_)
  refine wl_of (op_y (wn rfl) rfl rfl S (y_assign rfl S rfl) fun a S => ?_)
  refine wpList_nil ?_
  refine n_then ?_
  refine wp_seq ?_
  -- region 1 law.go:123
  refine wp_region_lit ?_
  refine wl_of (op_call (wn rfl) rfl rfl S (co_func rfl Try.call9 S rfl) (head_spec _) fun v w hc a S => ?_)
  obtain ⟨rfl, he⟩ := hc
  have H := H.ext he
  refine wl_of (op_y (wn rfl) rfl rfl S (y_assign rfl S rfl) fun a S => ?_)
  refine wpList_nil ?_
  refine n_then ?_
  refine wp_seq ?_
  -- region 2 law.go:124
  refine wp_region_lit ?_
  refine wl_of (op_y (wn rfl) rfl rfl S (y_load0 rfl S H rfl (by exact Fagg23)) fun a S => ?_)
  refine wl_of (op_call (wn rfl) rfl rfl S (co_func rfl Try.call10 S rfl) (bounds_spec _ _) fun v w hc a S => ?_)
  obtain ⟨rfl, he⟩ := hc
  have H := H.ext he
  refine wl_of (op_y (wn rfl) rfl rfl S (y_move rfl S rfl) fun a S => ?_)
  refine wl_of (op_y (wn rfl) rfl rfl S (y_extract rfl S rfl rfl) fun a S => ?_)
  refine wl_of (op_y (wn rfl) rfl rfl S (y_extract rfl S rfl rfl) fun a S => ?_)
  refine wl_of (op_y (wn rfl) rfl rfl S (y_extract rfl S rfl rfl) fun a S => ?_)
  refine wl_of (op_y (wn rfl) rfl rfl S (y_assign rfl S rfl) fun a S => ?_)
  refine wl_of (op_y (wn rfl) rfl rfl S (y_assign rfl S rfl) fun a S => ?_)
  refine wl_of (op_y (wn rfl) rfl rfl S (y_assign rfl S rfl) fun a S => ?_)
  refine wpList_nil ?_
  refine n_then ?_
  have S := ((((((S.nil.cons S 1 rfl).cons S 2 rfl).cons S 4 rfl).cons S 5 rfl).cons S 6 rfl).cons S 7 rfl).cons S 8 rfl
  refine wp_seq ?_
  -- region 3 law.go:125
  refine wp_region_lit ?_
  refine wl_of (op_y (wn rfl) rfl rfl S (y_load0 rfl S H rfl (by exact Fagg23)) fun a S => ?_)
  refine wl_of (op_buildSlice (wn rfl) rfl rfl rfl Try.underlying24 Finf23 S H (idx := [0]) rfl rfl rfl (z := [.int .i64 0, .int .i64 0, .int .i64 0]) (by kernel_rfl) (cs := [_, _, _]) rfl fun b25 a w S H => ?_)
  refine wl_of (op_call (wn rfl) rfl rfl S (co_func rfl Try.call14 S rfl) (agree_spec _ [r] _ (H.slb b25 _ Rd.enc 3 rfl rfl (by simp [Rd.enc]) (by decide)) (by simp)) fun v w hc a S => ?_)
  obtain ⟨rfl, he⟩ := hc
  have H := H.ext he
  refine wl_of (op_y (wn rfl) rfl rfl S (y_move rfl S rfl) fun a S => ?_)
  refine wl_of (op_y (wn rfl) rfl rfl S (y_extract rfl S rfl rfl) fun a S => ?_)
  refine wl_of (op_y (wn rfl) rfl rfl S (y_extract rfl S rfl rfl) fun a S => ?_)
  refine wl_of (op_y (wn rfl) rfl rfl S (y_extract rfl S rfl rfl) fun a S => ?_)
  refine wl_of (op_y (wn rfl) rfl rfl S (y_assign rfl S rfl) fun a S => ?_)
  refine wl_of (op_y (wn rfl) rfl rfl S (y_assign rfl S rfl) fun a S => ?_)
  refine wl_of (op_y (wn rfl) rfl rfl S (y_assign rfl S rfl) fun a S => ?_)
  refine wpList_nil ?_
  refine n_then ?_
  have S := (((((((((S.nil.cons S 1 rfl).cons S 2 rfl).cons S 4 rfl).cons S 5 rfl).cons S 6 rfl).cons S 7 rfl).cons S 8 rfl).cons S 9 rfl).cons S 10 rfl).cons S 11 rfl
  refine wp_seq ?_
  refine wp_seq ?_
  -- region 4 law.go:126
  refine wp_region_lit ?_
  refine wl_of (op_y (wn rfl) rfl rfl S (y_move rfl S rfl) fun a S => ?_)
  refine wl_of (op_y (wn rfl) rfl rfl S (y_move rfl S rfl) fun a S => ?_)
  refine wl_of (op_y (wn rfl) rfl rfl S (y_bin rfl S rfl rfl rfl) fun a S => ?_)
  refine wl_of (op_y (wn rfl) rfl rfl S (y_move rfl S rfl) fun a S => ?_)
  refine' wl_or 3 33 rfl S H rfl rfl rfl rfl rfl rfl rfl (fun _ S => (wn rfl)) (fun h1 kk => ?yh1) (fun a w S H => ?_)
  case yh1 =>
    have h1p := h1; try simp only [decide_eq_true_eq, decide_eq_false_iff_not, Bool.or_eq_true, Bool.and_eq_true, Bool.or_eq_false_iff, Bool.and_eq_false_iff, Bool.not_eq_true', Bool.not_eq_false', bne_iff_ne, beq_iff_eq, beq_eq_false_iff_ne, bne_eq_false_iff_eq, ne_eq, Decidable.not_not, Int.not_lt, Int.not_le, gt_iff_lt, ge_iff_le, Bool.true_eq_false, Bool.false_eq_true, not_true_eq_false, not_false_eq_true] at h1p
    refine wl_of (op_y (wg' 33 rfl rfl S rfl h1 rfl) rfl rfl S (y_move rfl S rfl) fun a S => ?_)
    refine wl_of (op_y (wg' 33 rfl rfl S rfl h1 rfl) rfl rfl S (y_move rfl S rfl) fun a S => ?_)
    refine wl_of (op_y (wg' 33 rfl rfl S rfl h1 rfl) rfl rfl S (y_bin rfl S rfl rfl rfl) fun a S => ?_)
    refine wl_of (op_y (wn rfl) rfl rfl S (y_or' rfl h1 S rfl rfl) fun a S => ?_)
    exact kk _ _ (S.join 4 37 rfl rfl) H
  refine wl_of (op_y (wn rfl) rfl rfl S (y_move rfl S rfl) fun a S => ?_)
  refine' wl_or 3 38 rfl S H rfl rfl rfl rfl rfl rfl rfl (fun _ S => (wn rfl)) (fun h2 kk => ?yh2) (fun a w S H => ?_)
  case yh2 =>
    have h2p := h2; try simp only [decide_eq_true_eq, decide_eq_false_iff_not, Bool.or_eq_true, Bool.and_eq_true, Bool.or_eq_false_iff, Bool.and_eq_false_iff, Bool.not_eq_true', Bool.not_eq_false', bne_iff_ne, beq_iff_eq, beq_eq_false_iff_ne, bne_eq_false_iff_eq, ne_eq, Decidable.not_not, Int.not_lt, Int.not_le, gt_iff_lt, ge_iff_le, Bool.true_eq_false, Bool.false_eq_true, not_true_eq_false, not_false_eq_true] at h2p
    refine wl_of (op_y (wg' 38 rfl rfl S rfl h2 rfl) rfl rfl S (y_move rfl S rfl) fun a S => ?_)
    refine wl_of (op_y (wg' 38 rfl rfl S rfl h2 rfl) rfl rfl S (y_move rfl S rfl) fun a S => ?_)
    refine wl_of (op_y (wg' 38 rfl rfl S rfl h2 rfl) rfl rfl S (y_bin rfl S rfl rfl rfl) fun a S => ?_)
    refine wl_of (op_y (wn rfl) rfl rfl S (y_or' rfl h2 S rfl rfl) fun a S => ?_)
    exact kk _ _ (S.join 4 42 rfl rfl) H
  refine wpList_nil ?_
  refine n_then ?_
  have S := (((((((S.nil.cons S 1 rfl).cons S 2 rfl).cons S 4 rfl).cons S 5 rfl).cons S 6 rfl).cons S 7 rfl).cons S 8 rfl).cons S 42 rfl
  -- cond 1
  refine c_if S rfl (fun h3 => ?_) (fun h3 => ?_)
  · have h3p := h3; try simp only [decide_eq_true_eq, decide_eq_false_iff_not, Bool.or_eq_true, Bool.and_eq_true, Bool.or_eq_false_iff, Bool.and_eq_false_iff, Bool.not_eq_true', Bool.not_eq_false', bne_iff_ne, beq_iff_eq, beq_eq_false_iff_ne, bne_eq_false_iff_eq, ne_eq, Decidable.not_not, Int.not_lt, Int.not_le, gt_iff_lt, ge_iff_le, Bool.true_eq_false, Bool.false_eq_true, not_true_eq_false, not_false_eq_true] at h3p
    exfalso; rw [agree_one] at h3; simp at h3
  · have h3p := h3; try simp only [decide_eq_true_eq, decide_eq_false_iff_not, Bool.or_eq_true, Bool.and_eq_true, Bool.or_eq_false_iff, Bool.and_eq_false_iff, Bool.not_eq_true', Bool.not_eq_false', bne_iff_ne, beq_iff_eq, beq_eq_false_iff_ne, bne_eq_false_iff_eq, ne_eq, Decidable.not_not, Int.not_lt, Int.not_le, gt_iff_lt, ge_iff_le, Bool.true_eq_false, Bool.false_eq_true, not_true_eq_false, not_false_eq_true] at h3p
    refine wp_skip ?_
    refine n_then ?_
    refine wp_seq ?_
    -- region 6 law.go:129
    refine wp_region_lit ?_
    refine wl_of (op_y (wn rfl) rfl rfl S (y_move rfl S rfl) fun a S => ?_)
    refine wl_of (op_y (wn rfl) rfl rfl S (y_buildf rfl Fbld23 S rfl (idx := [0]) rfl (cs := [_, _, _]) rfl) fun a S => ?_)
    refine wl_of (op_alloc (wn rfl) rfl rfl rfl S H Fzer23 fun b12 a w S H => ?_)
    refine wl_of (op_storea (wn rfl) rfl rfl S H rfl rfl rfl Fsiz23 rfl (cs' := [_, _, _]) rfl fun a w S H => ?_)
    refine wpList_nil ?_
    refine n_then ?_
    refine wp_seq ?_
    -- region 7 law.go:130
    refine wp_region_lit ?_
    refine wl_of (op_y (wn rfl) rfl rfl S (y_load0 rfl S H rfl (by exact Fagg23)) fun a S => ?_)
    refine wl_of (op_y (wn rfl) rfl rfl S (y_load0 rfl S H rfl (by exact Fagg23)) fun a S => ?_)
    refine wl_of (op_buildSlice (wn rfl) rfl rfl rfl Try.underlying24 Finf23 S H (idx := [0, 1]) rfl rfl rfl (z := [.int .i64 0, .int .i64 0, .int .i64 0, .int .i64 0, .int .i64 0, .int .i64 0]) (by kernel_rfl) (cs := [_, _, _, _, _, _]) rfl fun b48 a w S H => ?_)
    refine wl_of (op_call (wn rfl) rfl rfl S (co_func rfl Try.call14 S rfl) (agree_spec _ [⟨t, 0, 0⟩, r] _ (H.slb b48 _ Rd.enc 3 rfl rfl (by simp [Rd.enc]) (by decide)) (by simp)) fun v w hc a S => ?_)
    obtain ⟨rfl, he⟩ := hc
    have H := H.ext he
    refine wl_of (op_y (wn rfl) rfl rfl S (y_move rfl S rfl) fun a S => ?_)
    refine wl_of (op_y (wn rfl) rfl rfl S (y_extract rfl S rfl rfl) fun a S => ?_)
    refine wl_of (op_y (wn rfl) rfl rfl S (y_extract rfl S rfl rfl) fun a S => ?_)
    refine wl_of (op_y (wn rfl) rfl rfl S (y_extract rfl S rfl rfl) fun a S => ?_)
    refine wl_of (op_y (wn rfl) rfl rfl S (y_assign rfl S rfl) fun a S => ?_)
    refine wl_of (op_y (wn rfl) rfl rfl S (y_assign rfl S rfl) fun a S => ?_)
    refine wl_of (op_y (wn rfl) rfl rfl S (y_assign rfl S rfl) fun a S => ?_)
    refine wpList_nil ?_
    refine n_then ?_
    have S := ((((((((S.nil.cons S 1 rfl).cons S 4 rfl).cons S 5 rfl).cons S 6 rfl).cons S 7 rfl).cons S 8 rfl).cons S 13 rfl).cons S 14 rfl).cons S 15 rfl
    refine wp_seq ?_
    refine wp_seq ?_
    -- region 8 law.go:131
    refine wp_region_lit ?_
    refine wl_of (op_y (wn rfl) rfl rfl S (y_move rfl S rfl) fun a S => ?_)
    refine wl_of (op_y (wn rfl) rfl rfl S (y_bin rfl S rfl rfl rfl) fun a S => ?_)
    refine wl_of (op_y (wn rfl) rfl rfl S (y_move rfl S rfl) fun a S => ?_)
    refine' wl_or 2 55 rfl S H rfl rfl rfl rfl rfl rfl rfl (fun _ S => (wn rfl)) (fun h4 kk => ?yh4) (fun a w S H => ?_)
    case yh4 =>
      have h4p := h4; try simp only [decide_eq_true_eq, decide_eq_false_iff_not, Bool.or_eq_true, Bool.and_eq_true, Bool.or_eq_false_iff, Bool.and_eq_false_iff, Bool.not_eq_true', Bool.not_eq_false', bne_iff_ne, beq_iff_eq, beq_eq_false_iff_ne, bne_eq_false_iff_eq, ne_eq, Decidable.not_not, Int.not_lt, Int.not_le, gt_iff_lt, ge_iff_le, Bool.true_eq_false, Bool.false_eq_true, not_true_eq_false, not_false_eq_true] at h4p
      refine wl_of (op_y (wg' 55 rfl rfl S rfl h4 rfl) rfl rfl S (y_move rfl S rfl) fun a S => ?_)
      refine wl_of (op_y (wg' 55 rfl rfl S rfl h4 rfl) rfl rfl S (y_bin rfl S rfl rfl rfl) fun a S => ?_)
      refine wl_of (op_y (wn rfl) rfl rfl S (y_or' rfl h4 S rfl rfl) fun a S => ?_)
      exact kk _ _ (S.join 3 58 rfl rfl) H
    refine wl_of (op_y (wn rfl) rfl rfl S (y_move rfl S rfl) fun a S => ?_)
    refine' wl_or 2 59 rfl S H rfl rfl rfl rfl rfl rfl rfl (fun _ S => (wn rfl)) (fun h5 kk => ?yh5) (fun a w S H => ?_)
    case yh5 =>
      have h5p := h5; try simp only [decide_eq_true_eq, decide_eq_false_iff_not, Bool.or_eq_true, Bool.and_eq_true, Bool.or_eq_false_iff, Bool.and_eq_false_iff, Bool.not_eq_true', Bool.not_eq_false', bne_iff_ne, beq_iff_eq, beq_eq_false_iff_ne, bne_eq_false_iff_eq, ne_eq, Decidable.not_not, Int.not_lt, Int.not_le, gt_iff_lt, ge_iff_le, Bool.true_eq_false, Bool.false_eq_true, not_true_eq_false, not_false_eq_true] at h5p
      refine wl_of (op_y (wg' 59 rfl rfl S rfl h5 rfl) rfl rfl S (y_move rfl S rfl) fun a S => ?_)
      refine wl_of (op_y (wg' 59 rfl rfl S rfl h5 rfl) rfl rfl S (y_bin rfl S rfl rfl rfl) fun a S => ?_)
      refine wl_of (op_y (wn rfl) rfl rfl S (y_or' rfl h5 S rfl rfl) fun a S => ?_)
      exact kk _ _ (S.join 3 62 rfl rfl) H
    refine wpList_nil ?_
    refine n_then ?_
    have S := ((((((((S.nil.cons S 1 rfl).cons S 4 rfl).cons S 5 rfl).cons S 6 rfl).cons S 7 rfl).cons S 13 rfl).cons S 14 rfl).cons S 15 rfl).cons S 62 rfl
    -- cond 2
    refine c_if S rfl (fun h6 => ?_) (fun h6 => ?_)
    · have h6p := h6; try simp only [decide_eq_true_eq, decide_eq_false_iff_not, Bool.or_eq_true, Bool.and_eq_true, Bool.or_eq_false_iff, Bool.and_eq_false_iff, Bool.not_eq_true', Bool.not_eq_false', bne_iff_ne, beq_iff_eq, beq_eq_false_iff_ne, bne_eq_false_iff_eq, ne_eq, Decidable.not_not, Int.not_lt, Int.not_le, gt_iff_lt, ge_iff_le, Bool.true_eq_false, Bool.false_eq_true, not_true_eq_false, not_false_eq_true] at h6p
      have hz : agree [⟨t, 0, 0⟩, r] = (0, 0, 1) := agree_exact_bad r t (by omega)
      refine wp_seq ?_
      -- region 9 law.go:132
      refine wp_region_lit ?_
      refine wl_of (op_y (wn rfl) rfl rfl S (y_move rfl S rfl) fun a S => ?_)
      refine wl_of (op_y (wn rfl) rfl rfl S (y_move rfl S rfl) fun a S => ?_)
      refine' wl_and 2 64 rfl S H rfl rfl rfl rfl rfl rfl rfl (fun _ S => (wn rfl)) (fun h7 kk => ?yh7) (fun a w S H => ?_)
      case yh7 =>
        have h7p := h7; try simp only [decide_eq_true_eq, decide_eq_false_iff_not, Bool.or_eq_true, Bool.and_eq_true, Bool.or_eq_false_iff, Bool.and_eq_false_iff, Bool.not_eq_true', Bool.not_eq_false', bne_iff_ne, beq_iff_eq, beq_eq_false_iff_ne, bne_eq_false_iff_eq, ne_eq, Decidable.not_not, Int.not_lt, Int.not_le, gt_iff_lt, ge_iff_le, Bool.true_eq_false, Bool.false_eq_true, not_true_eq_false, not_false_eq_true] at h7p
        refine wl_of (op_y (wg' 64 rfl rfl S rfl h7 rfl) rfl rfl S (y_move rfl S rfl) fun a S => ?_)
        refine wl_of (op_y (wg' 64 rfl rfl S rfl h7 rfl) rfl rfl S (y_bin rfl S rfl rfl rfl) fun a S => ?_)
        refine wl_of (op_y (wn rfl) rfl rfl S (y_and' rfl h7 S rfl rfl) fun a S => ?_)
        exact kk _ _ (S.join 3 67 rfl rfl) H
      refine wl_of (op_y (wn rfl) rfl rfl S (y_assign rfl S rfl) fun a S => ?_)
      refine wpList_nil ?_
      refine n_then ?_
      have S := (((((((S.nil.cons S 1 rfl).cons S 5 rfl).cons S 6 rfl).cons S 7 rfl).cons S 13 rfl).cons S 14 rfl).cons S 15 rfl).cons S 4 rfl
      refine wp_ret ?_
      refine r_then (ret1 rfl S rfl ?_)
      refine ⟨congrArg Value.bool ?_, H.toExt⟩
      rw [hz]; simp
    · have h6p := h6; try simp only [decide_eq_true_eq, decide_eq_false_iff_not, Bool.or_eq_true, Bool.and_eq_true, Bool.or_eq_false_iff, Bool.and_eq_false_iff, Bool.not_eq_true', Bool.not_eq_false', bne_iff_ne, beq_iff_eq, beq_eq_false_iff_ne, bne_eq_false_iff_eq, ne_eq, Decidable.not_not, Int.not_lt, Int.not_le, gt_iff_lt, ge_iff_le, Bool.true_eq_false, Bool.false_eq_true, not_true_eq_false, not_false_eq_true] at h6p
      have hz := agree_exact r t (by omega) (by omega)
      refine wp_skip ?_
      refine n_then ?_
      refine wp_seq ?_
      refine wp_seq ?_
      -- region 10 law.go:134
      refine wp_region_lit ?_
      refine wl_of (op_y (wn rfl) rfl rfl S (y_move rfl S rfl) fun a S => ?_)
      refine wl_of (op_y (wn rfl) rfl rfl S (y_move rfl S rfl) fun a S => ?_)
      refine wl_of (op_y (wn rfl) rfl rfl S (y_bin rfl S rfl rfl rfl) fun a S => ?_)
      refine wl_of (op_y (wn rfl) rfl rfl S (y_move rfl S rfl) fun a S => ?_)
      refine' wl_or 3 71 rfl S H rfl rfl rfl rfl rfl rfl rfl (fun _ S => (wn rfl)) (fun h8 kk => ?yh8) (fun a w S H => ?_)
      case yh8 =>
        have h8p := h8; try simp only [decide_eq_true_eq, decide_eq_false_iff_not, Bool.or_eq_true, Bool.and_eq_true, Bool.or_eq_false_iff, Bool.and_eq_false_iff, Bool.not_eq_true', Bool.not_eq_false', bne_iff_ne, beq_iff_eq, beq_eq_false_iff_ne, bne_eq_false_iff_eq, ne_eq, Decidable.not_not, Int.not_lt, Int.not_le, gt_iff_lt, ge_iff_le, Bool.true_eq_false, Bool.false_eq_true, not_true_eq_false, not_false_eq_true] at h8p
        refine wl_of (op_y (wg' 71 rfl rfl S rfl h8 rfl) rfl rfl S (y_move rfl S rfl) fun a S => ?_)
        refine wl_of (op_y (wg' 71 rfl rfl S rfl h8 rfl) rfl rfl S (y_move rfl S rfl) fun a S => ?_)
        refine wl_of (op_y (wg' 71 rfl rfl S rfl h8 rfl) rfl rfl S (y_bin rfl S rfl rfl rfl) fun a S => ?_)
        refine wl_of (op_y (wn rfl) rfl rfl S (y_or' rfl h8 S rfl rfl) fun a S => ?_)
        exact kk _ _ (S.join 4 75 rfl rfl) H
      refine wpList_nil ?_
      refine n_then ?_
      have S := ((((((S.nil.cons S 1 rfl).cons S 4 rfl).cons S 5 rfl).cons S 13 rfl).cons S 14 rfl).cons S 15 rfl).cons S 75 rfl
      -- cond 3
      refine c_if S rfl (fun h9 => ?_) (fun h9 => ?_)
      · have h9p := h9; try simp only [decide_eq_true_eq, decide_eq_false_iff_not, Bool.or_eq_true, Bool.and_eq_true, Bool.or_eq_false_iff, Bool.and_eq_false_iff, Bool.not_eq_true', Bool.not_eq_false', bne_iff_ne, beq_iff_eq, beq_eq_false_iff_ne, bne_eq_false_iff_eq, ne_eq, Decidable.not_not, Int.not_lt, Int.not_le, gt_iff_lt, ge_iff_le, Bool.true_eq_false, Bool.false_eq_true, not_true_eq_false, not_false_eq_true] at h9p
        rw [if_pos (by omega)] at hz
        refine wp_seq ?_
        -- region 11 law.go:135
        refine wp_region_lit ?_
        refine wl_of (op_y (wn rfl) rfl rfl S (y_move rfl S rfl) fun a S => ?_)
        refine wl_of (op_y (wn rfl) rfl rfl S (y_move rfl S rfl) fun a S => ?_)
        refine' wl_and 2 77 rfl S H rfl rfl rfl rfl rfl rfl rfl (fun _ S => (wn rfl)) (fun h10 kk => ?yh10) (fun a w S H => ?_)
        case yh10 =>
          have h10p := h10; try simp only [decide_eq_true_eq, decide_eq_false_iff_not, Bool.or_eq_true, Bool.and_eq_true, Bool.or_eq_false_iff, Bool.and_eq_false_iff, Bool.not_eq_true', Bool.not_eq_false', bne_iff_ne, beq_iff_eq, beq_eq_false_iff_ne, bne_eq_false_iff_eq, ne_eq, Decidable.not_not, Int.not_lt, Int.not_le, gt_iff_lt, ge_iff_le, Bool.true_eq_false, Bool.false_eq_true, not_true_eq_false, not_false_eq_true] at h10p
          refine wl_of (op_y (wg' 77 rfl rfl S rfl h10 rfl) rfl rfl S (y_move rfl S rfl) fun a S => ?_)
          refine wl_of (op_y (wg' 77 rfl rfl S rfl h10 rfl) rfl rfl S (y_bin rfl S rfl rfl rfl) fun a S => ?_)
          refine wl_of (op_y (wn rfl) rfl rfl S (y_and' rfl h10 S rfl rfl) fun a S => ?_)
          exact kk _ _ (S.join 3 80 rfl rfl) H
        refine wl_of (op_y (wn rfl) rfl rfl S (y_assign rfl S rfl) fun a S => ?_)
        refine wpList_nil ?_
        refine n_then ?_
        have S := (((((S.nil.cons S 1 rfl).cons S 5 rfl).cons S 13 rfl).cons S 14 rfl).cons S 15 rfl).cons S 4 rfl
        refine wp_ret ?_
        refine r_then (ret1 rfl S rfl ?_)
        refine ⟨congrArg Value.bool ?_, H.toExt⟩
        rw [hz]; simp
      · have h9p := h9; try simp only [decide_eq_true_eq, decide_eq_false_iff_not, Bool.or_eq_true, Bool.and_eq_true, Bool.or_eq_false_iff, Bool.and_eq_false_iff, Bool.not_eq_true', Bool.not_eq_false', bne_iff_ne, beq_iff_eq, beq_eq_false_iff_ne, bne_eq_false_iff_eq, ne_eq, Decidable.not_not, Int.not_lt, Int.not_le, gt_iff_lt, ge_iff_le, Bool.true_eq_false, Bool.false_eq_true, not_true_eq_false, not_false_eq_true] at h9p
        rw [if_neg (by omega)] at hz
        refine wp_skip ?_
        refine n_then ?_
        refine wp_seq ?_
        -- region 12 law.go:137
        refine wp_region_lit ?_
        refine wl_of (op_y (wn rfl) rfl rfl S (y_move rfl S rfl) fun a S => ?_)
        refine wl_of (op_y (wn rfl) rfl rfl S (y_move rfl S rfl) fun a S => ?_)
        refine' wl_and 2 82 rfl S H rfl rfl rfl rfl rfl rfl rfl (fun _ S => (wn rfl)) (fun h11 kk => ?yh11) (fun a w S H => ?_)
        case yh11 =>
          have h11p := h11; try simp only [decide_eq_true_eq, decide_eq_false_iff_not, Bool.or_eq_true, Bool.and_eq_true, Bool.or_eq_false_iff, Bool.and_eq_false_iff, Bool.not_eq_true', Bool.not_eq_false', bne_iff_ne, beq_iff_eq, beq_eq_false_iff_ne, bne_eq_false_iff_eq, ne_eq, Decidable.not_not, Int.not_lt, Int.not_le, gt_iff_lt, ge_iff_le, Bool.true_eq_false, Bool.false_eq_true, not_true_eq_false, not_false_eq_true] at h11p
          refine wl_of (op_y (wg' 82 rfl rfl S rfl h11 rfl) rfl rfl S (y_move rfl S rfl) fun a S => ?_)
          refine wl_of (op_y (wg' 82 rfl rfl S rfl h11 rfl) rfl rfl S (y_bin rfl S rfl rfl rfl) fun a S => ?_)
          refine wl_of (op_y (wn rfl) rfl rfl S (y_and' rfl h11 S rfl rfl) fun a S => ?_)
          exact kk _ _ (S.join 3 85 rfl rfl) H
        refine wl_of (op_y (wn rfl) rfl rfl S (y_move rfl S rfl) fun a S => ?_)
        refine' wl_and 3 86 rfl S H rfl rfl rfl rfl rfl rfl rfl (fun _ S => (wn rfl)) (fun h12 kk => ?yh12) (fun a w S H => ?_)
        case yh12 =>
          have h12p := h12; try simp only [decide_eq_true_eq, decide_eq_false_iff_not, Bool.or_eq_true, Bool.and_eq_true, Bool.or_eq_false_iff, Bool.and_eq_false_iff, Bool.not_eq_true', Bool.not_eq_false', bne_iff_ne, beq_iff_eq, beq_eq_false_iff_ne, bne_eq_false_iff_eq, ne_eq, Decidable.not_not, Int.not_lt, Int.not_le, gt_iff_lt, ge_iff_le, Bool.true_eq_false, Bool.false_eq_true, not_true_eq_false, not_false_eq_true] at h12p
          refine wl_of (op_y (wg' 86 rfl rfl S rfl h12 rfl) rfl rfl S (y_move rfl S rfl) fun a S => ?_)
          refine wl_of (op_y (wg' 86 rfl rfl S rfl h12 rfl) rfl rfl S (y_move rfl S rfl) fun a S => ?_)
          refine wl_of (op_y (wg' 86 rfl rfl S rfl h12 rfl) rfl rfl S (y_bin rfl S rfl rfl rfl) fun a S => ?_)
          refine wl_of (op_y (wn rfl) rfl rfl S (y_and' rfl h12 S rfl rfl) fun a S => ?_)
          exact kk _ _ (S.join 4 90 rfl rfl) H
        refine wl_of (op_y (wn rfl) rfl rfl S (y_move rfl S rfl) fun a S => ?_)
        refine' wl_and 3 91 rfl S H rfl rfl rfl rfl rfl rfl rfl (fun _ S => (wn rfl)) (fun h13 kk => ?yh13) (fun a w S H => ?_)
        case yh13 =>
          have h13p := h13; try simp only [decide_eq_true_eq, decide_eq_false_iff_not, Bool.or_eq_true, Bool.and_eq_true, Bool.or_eq_false_iff, Bool.and_eq_false_iff, Bool.not_eq_true', Bool.not_eq_false', bne_iff_ne, beq_iff_eq, beq_eq_false_iff_ne, bne_eq_false_iff_eq, ne_eq, Decidable.not_not, Int.not_lt, Int.not_le, gt_iff_lt, ge_iff_le, Bool.true_eq_false, Bool.false_eq_true, not_true_eq_false, not_false_eq_true] at h13p
          refine wl_of (op_y (wg' 91 rfl rfl S rfl h13 rfl) rfl rfl S (y_move rfl S rfl) fun a S => ?_)
          refine wl_of (op_y (wg' 91 rfl rfl S rfl h13 rfl) rfl rfl S (y_move rfl S rfl) fun a S => ?_)
          refine wl_of (op_y (wg' 91 rfl rfl S rfl h13 rfl) rfl rfl S (y_bin rfl S rfl rfl rfl) fun a S => ?_)
          refine wl_of (op_y (wn rfl) rfl rfl S (y_and' rfl h13 S rfl rfl) fun a S => ?_)
          exact kk _ _ (S.join 4 95 rfl rfl) H
        refine wl_of (op_y (wn rfl) rfl rfl S (y_assign rfl S rfl) fun a S => ?_)
        refine wpList_nil ?_
        refine n_then ?_
        have S := S.nil.cons S 4 rfl
        refine wp_ret ?_
        refine ret1 rfl S rfl ?_
        refine ⟨congrArg Value.bool ?_, H.toExt⟩
        rw [hz]; simp

end Go.Proofs.Ytfblnfkphdimjaa
