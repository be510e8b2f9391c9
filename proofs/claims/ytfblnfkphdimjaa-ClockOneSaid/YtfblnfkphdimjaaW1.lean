/- The walks. No condition. -/
import Derived.Test.YtfblnfkphdimjaaChecked
import Derived.Test.YtfblnfkphdimjaaGwJoin
import Derived.Test.YtfblnfkphdimjaaFacts
import Derived.Test.YtfblnfkphdimjaaPlain
namespace Go.Proofs.Ytfblnfkphdimjaa
open Go Go.Gw
set_option linter.unusedVariables false
set_option linter.unusedSimpArgs false
/-- foyer/clock.between[int] -/
theorem between_spec (n lo hi : Int) (w0 : World) :
    Ret Try.prog 16 #[.int .i64 n, .int .i64 lo, .int .i64 hi] w0 (fun v w => v = .bool (btw n lo hi) ∧ Ext w0 w) := by
  refine ret_of_wp (n := 15) Try.func16 rfl rfl rfl (fl := [(0, .int .i64 n), (1, .int .i64 lo), (2, .int .i64 hi)]) rfl (fun a S => ?_)
  have H := HSat.start w0
  refine wp_seq ?_
  -- region 0 clock.go:12
  refine wp_region_lit ?_
  refine wl_of (op_y (wn rfl) rfl rfl S (y_assign rfl S rfl) fun a S => ?_)
  refine wpList_nil ?_
  refine n_then ?_
  refine wp_seq ?_
  -- region 1 clock.go:12
  refine wp_region_lit ?_
  refine wl_of (op_y (wn rfl) rfl rfl S (y_move rfl S rfl) fun a S => ?_)
  refine wl_of (op_y (wn rfl) rfl rfl S (y_move rfl S rfl) fun a S => ?_)
  refine wl_of (op_y (wn rfl) rfl rfl S (y_bin rfl S rfl rfl rfl) fun a S => ?_)
  refine wl_of (op_y (wn rfl) rfl rfl S (y_move rfl S rfl) fun a S => ?_)
  refine' wl_and 3 10 rfl S H rfl rfl rfl rfl rfl rfl rfl (fun _ S => (wn rfl)) (fun h1 kk => ?yh1) (fun a w S H => ?_)
  case yh1 =>
    have h1p := h1; try simp only [decide_eq_true_eq, decide_eq_false_iff_not, Bool.or_eq_true, Bool.and_eq_true, Bool.or_eq_false_iff, Bool.and_eq_false_iff, Bool.not_eq_true', Bool.not_eq_false', bne_iff_ne, beq_iff_eq, beq_eq_false_iff_ne, bne_eq_false_iff_eq, ne_eq, Decidable.not_not, Int.not_lt, Int.not_le, gt_iff_lt, ge_iff_le, Bool.true_eq_false, Bool.false_eq_true, not_true_eq_false, not_false_eq_true] at h1p
    refine wl_of (op_y (wg' 10 rfl rfl S rfl h1 rfl) rfl rfl S (y_move rfl S rfl) fun a S => ?_)
    refine wl_of (op_y (wg' 10 rfl rfl S rfl h1 rfl) rfl rfl S (y_move rfl S rfl) fun a S => ?_)
    refine wl_of (op_y (wg' 10 rfl rfl S rfl h1 rfl) rfl rfl S (y_bin rfl S rfl rfl rfl) fun a S => ?_)
    refine wl_of (op_y (wn rfl) rfl rfl S (y_and' rfl h1 S rfl rfl) fun a S => ?_)
    exact kk _ _ (S.join 4 14 rfl rfl) H
  refine wl_of (op_y (wn rfl) rfl rfl S (y_assign rfl S rfl) fun a S => ?_)
  refine wpList_nil ?_
  refine n_then ?_
  have S := S.nil.cons S 6 rfl
  refine wp_ret ?_
  refine ret1 rfl S rfl ?_
  exact ⟨rfl, H.toExt⟩
/-- foyer/foyerref25.Valid -/
theorem refValid_spec (r : Rd) (w0 : World) :
    Ret Try.prog 17 #[.agg (Rd.enc r).toArray] w0 (fun v w => v = .bool (valid r) ∧ Ext w0 w) := by
  refine ret_of_wp (n := 33) Try.func17 rfl rfl rfl (fl := [(0, .agg (Rd.enc r).toArray)]) rfl (fun a S => ?_)
  have H := HSat.start w0
  refine wp_seq ?_
  -- region 0 ref.go:7
  refine wp_region_lit ?_
  refine wl_of (op_boxa (wn rfl) rfl rfl rfl S H rfl fun b1 a w S H => ?_)
  refine wl_of (op_y (wn rfl) rfl rfl S (y_assign rfl S rfl) fun a S => ?_)
  refine wpList_nil ?_
  refine n_then ?_
  refine wp_seq ?_
  -- region 1 ref.go:8
  refine wp_region_lit ?_
  refine wl_of (op_y (wn rfl) rfl rfl S (y_faddrb rfl Ffo23_0 S rfl) fun a S => ?_)
  refine wl_of (op_y (wn rfl) rfl rfl S (y_load rfl Fsca3 S H rfl rfl) fun a S => ?_)
  refine wl_of (op_y (wn rfl) rfl rfl S (y_bin rfl S rfl rfl rfl) fun a S => ?_)
  refine wl_of (op_y (wn rfl) rfl rfl S (y_move rfl S rfl) fun a S => ?_)
  refine' wl_and 3 6 rfl S H rfl rfl rfl rfl rfl rfl rfl (fun _ S => (wn rfl)) (fun h1 kk => ?yh1) (fun a w S H => ?_)
  case yh1 =>
    have h1p := h1; try simp only [decide_eq_true_eq, decide_eq_false_iff_not, Bool.or_eq_true, Bool.and_eq_true, Bool.or_eq_false_iff, Bool.and_eq_false_iff, Bool.not_eq_true', Bool.not_eq_false', bne_iff_ne, beq_iff_eq, beq_eq_false_iff_ne, bne_eq_false_iff_eq, ne_eq, Decidable.not_not, Int.not_lt, Int.not_le, gt_iff_lt, ge_iff_le, Bool.true_eq_false, Bool.false_eq_true, not_true_eq_false, not_false_eq_true] at h1p
    refine wl_of (op_y (wg' 6 rfl rfl S rfl h1 rfl) rfl rfl S (y_faddrb rfl Ffo23_0 S rfl) fun a S => ?_)
    refine wl_of (op_y (wg' 6 rfl rfl S rfl h1 rfl) rfl rfl S (y_load rfl Fsca3 S H rfl rfl) fun a S => ?_)
    refine wl_of (op_y (wg' 6 rfl rfl S rfl h1 rfl) rfl rfl S (y_bin rfl S rfl rfl rfl) fun a S => ?_)
    refine wl_of (op_y (wn rfl) rfl rfl S (y_and' rfl h1 S rfl rfl) fun a S => ?_)
    exact kk _ _ (S.join 4 10 rfl rfl) H
  refine wl_of (op_y (wn rfl) rfl rfl S (y_move rfl S rfl) fun a S => ?_)
  refine' wl_and 3 11 rfl S H rfl rfl rfl rfl rfl rfl rfl (fun _ S => (wn rfl)) (fun h2 kk => ?yh2) (fun a w S H => ?_)
  case yh2 =>
    have h2p := h2; try simp only [decide_eq_true_eq, decide_eq_false_iff_not, Bool.or_eq_true, Bool.and_eq_true, Bool.or_eq_false_iff, Bool.and_eq_false_iff, Bool.not_eq_true', Bool.not_eq_false', bne_iff_ne, beq_iff_eq, beq_eq_false_iff_ne, bne_eq_false_iff_eq, ne_eq, Decidable.not_not, Int.not_lt, Int.not_le, gt_iff_lt, ge_iff_le, Bool.true_eq_false, Bool.false_eq_true, not_true_eq_false, not_false_eq_true] at h2p
    refine wl_of (op_y (wg' 11 rfl rfl S rfl h2 rfl) rfl rfl S (y_faddrb rfl Ffo23_1 S rfl) fun a S => ?_)
    refine wl_of (op_y (wg' 11 rfl rfl S rfl h2 rfl) rfl rfl S (y_load rfl Fsca3 S H rfl rfl) fun a S => ?_)
    refine wl_of (op_y (wg' 11 rfl rfl S rfl h2 rfl) rfl rfl S (y_bin rfl S rfl rfl rfl) fun a S => ?_)
    refine wl_of (op_y (wn rfl) rfl rfl S (y_and' rfl h2 S rfl rfl) fun a S => ?_)
    exact kk _ _ (S.join 4 15 rfl rfl) H
  refine wl_of (op_y (wn rfl) rfl rfl S (y_move rfl S rfl) fun a S => ?_)
  refine' wl_and 5 16 rfl S H rfl rfl rfl rfl rfl rfl rfl (fun _ S => (wn rfl)) (fun h3 kk => ?yh3) (fun a w S H => ?_)
  case yh3 =>
    have h3p := h3; try simp only [decide_eq_true_eq, decide_eq_false_iff_not, Bool.or_eq_true, Bool.and_eq_true, Bool.or_eq_false_iff, Bool.and_eq_false_iff, Bool.not_eq_true', Bool.not_eq_false', bne_iff_ne, beq_iff_eq, beq_eq_false_iff_ne, bne_eq_false_iff_eq, ne_eq, Decidable.not_not, Int.not_lt, Int.not_le, gt_iff_lt, ge_iff_le, Bool.true_eq_false, Bool.false_eq_true, not_true_eq_false, not_false_eq_true] at h3p
    refine wl_of (op_y (wg' 16 rfl rfl S rfl h3 rfl) rfl rfl S (y_faddrb rfl Ffo23_1 S rfl) fun a S => ?_)
    refine wl_of (op_y (wg' 16 rfl rfl S rfl h3 rfl) rfl rfl S (y_load rfl Fsca3 S H rfl rfl) fun a S => ?_)
    refine wl_of (op_y (wg' 16 rfl rfl S rfl h3 rfl) rfl rfl S (y_faddrb rfl Ffo23_0 S rfl) fun a S => ?_)
    refine wl_of (op_y (wg' 16 rfl rfl S rfl h3 rfl) rfl rfl S (y_load rfl Fsca3 S H rfl rfl) fun a S => ?_)
    refine wl_of (op_y (wg' 16 rfl rfl S rfl h3 rfl) rfl rfl S (y_bin rfl S rfl rfl rfl) fun a S => ?_)
    refine wl_of (op_y (wn rfl) rfl rfl S (y_and' rfl h3 S rfl rfl) fun a S => ?_)
    exact kk _ _ (S.join 6 22 rfl rfl) H
  refine wl_of (op_y (wn rfl) rfl rfl S (y_move rfl S rfl) fun a S => ?_)
  refine' wl_and 3 23 rfl S H rfl rfl rfl rfl rfl rfl rfl (fun _ S => (wn rfl)) (fun h4 kk => ?yh4) (fun a w S H => ?_)
  case yh4 =>
    have h4p := h4; try simp only [decide_eq_true_eq, decide_eq_false_iff_not, Bool.or_eq_true, Bool.and_eq_true, Bool.or_eq_false_iff, Bool.and_eq_false_iff, Bool.not_eq_true', Bool.not_eq_false', bne_iff_ne, beq_iff_eq, beq_eq_false_iff_ne, bne_eq_false_iff_eq, ne_eq, Decidable.not_not, Int.not_lt, Int.not_le, gt_iff_lt, ge_iff_le, Bool.true_eq_false, Bool.false_eq_true, not_true_eq_false, not_false_eq_true] at h4p
    refine wl_of (op_y (wg' 23 rfl rfl S rfl h4 rfl) rfl rfl S (y_faddrb rfl Ffo23_2 S rfl) fun a S => ?_)
    refine wl_of (op_y (wg' 23 rfl rfl S rfl h4 rfl) rfl rfl S (y_load rfl Fsca3 S H rfl rfl) fun a S => ?_)
    refine wl_of (op_y (wg' 23 rfl rfl S rfl h4 rfl) rfl rfl S (y_bin rfl S rfl rfl rfl) fun a S => ?_)
    refine wl_of (op_y (wn rfl) rfl rfl S (y_and' rfl h4 S rfl rfl) fun a S => ?_)
    exact kk _ _ (S.join 4 27 rfl rfl) H
  refine wl_of (op_y (wn rfl) rfl rfl S (y_move rfl S rfl) fun a S => ?_)
  refine' wl_and 3 28 rfl S H rfl rfl rfl rfl rfl rfl rfl (fun _ S => (wn rfl)) (fun h5 kk => ?yh5) (fun a w S H => ?_)
  case yh5 =>
    have h5p := h5; try simp only [decide_eq_true_eq, decide_eq_false_iff_not, Bool.or_eq_true, Bool.and_eq_true, Bool.or_eq_false_iff, Bool.and_eq_false_iff, Bool.not_eq_true', Bool.not_eq_false', bne_iff_ne, beq_iff_eq, beq_eq_false_iff_ne, bne_eq_false_iff_eq, ne_eq, Decidable.not_not, Int.not_lt, Int.not_le, gt_iff_lt, ge_iff_le, Bool.true_eq_false, Bool.false_eq_true, not_true_eq_false, not_false_eq_true] at h5p
    refine wl_of (op_y (wg' 28 rfl rfl S rfl h5 rfl) rfl rfl S (y_faddrb rfl Ffo23_2 S rfl) fun a S => ?_)
    refine wl_of (op_y (wg' 28 rfl rfl S rfl h5 rfl) rfl rfl S (y_load rfl Fsca3 S H rfl rfl) fun a S => ?_)
    refine wl_of (op_y (wg' 28 rfl rfl S rfl h5 rfl) rfl rfl S (y_bin rfl S rfl rfl rfl) fun a S => ?_)
    refine wl_of (op_y (wn rfl) rfl rfl S (y_and' rfl h5 S rfl rfl) fun a S => ?_)
    exact kk _ _ (S.join 4 32 rfl rfl) H
  refine wl_of (op_y (wn rfl) rfl rfl S (y_assign rfl S rfl) fun a S => ?_)
  refine wpList_nil ?_
  refine n_then ?_
  have S := S.nil.cons S 2 rfl
  refine wp_ret ?_
  refine ret1 rfl S rfl ?_
  exact ⟨by congr 1; simp only [valid, btw, ge_iff_le, Bool.and_assoc], H.toExt⟩
/-- foyer/clock.Bounds -/
theorem bounds_spec (r : Rd) (w0 : World) :
    Ret Try.prog 10 #[.agg (Rd.enc r).toArray] w0 (fun v w => v = trip (bnd r) ∧ Ext w0 w) := by
  refine ret_of_wp (n := 42) Try.func10 rfl rfl rfl (fl := [(0, .agg (Rd.enc r).toArray)]) rfl (fun a S => ?_)
  have H := HSat.start w0
  refine wp_seq ?_
  -- region 0 clock.go:15
  refine wp_region_lit ?_
  refine wl_of (op_boxa (wn rfl) rfl rfl rfl S H rfl fun b1 a w S H => ?_)
  refine wl_of (op_y (wn rfl) rfl rfl S (y_assign rfl S rfl) fun a S => ?_)
  refine wl_of (op_y (wn rfl) rfl rfl S (y_assign rfl S rfl) fun a S => ?_)
  refine wl_of (op_y (wn rfl) rfl rfl S (y_assign rfl S rfl) fun a S => ?_)
  refine wpList_nil ?_
  refine n_then ?_
  refine wp_seq ?_
  refine wp_seq ?_
  -- region 1 clock.go:16
  refine wp_region_lit ?_
  refine wl_of (op_y (wn rfl) rfl rfl S (y_faddrb rfl Ffo23_0 S rfl) fun a S => ?_)
  refine wl_of (op_y (wn rfl) rfl rfl S (y_load rfl Fsca3 S H rfl rfl) fun a S => ?_)
  refine wl_of (op_call (wn rfl) rfl rfl S (co_func rfl Try.call16 S rfl) (between_spec _ _ _ _) fun v w hc a S => ?_)
  obtain ⟨rfl, he⟩ := hc
  have H := H.ext he
  refine wl_of (op_y (wn rfl) rfl rfl S (y_not rfl S rfl) fun a S => ?_)
  refine wl_of (op_y (wn rfl) rfl rfl S (y_move rfl S rfl) fun a S => ?_)
  refine' wl_or 6 10 rfl S H rfl rfl rfl rfl rfl rfl rfl (fun _ S => (wn rfl)) (fun h1 kk => ?yh1) (fun a w S H => ?_)
  case yh1 =>
    have h1p := h1; try simp only [decide_eq_true_eq, decide_eq_false_iff_not, Bool.or_eq_true, Bool.and_eq_true, Bool.or_eq_false_iff, Bool.and_eq_false_iff, Bool.not_eq_true', Bool.not_eq_false', bne_iff_ne, beq_iff_eq, beq_eq_false_iff_ne, bne_eq_false_iff_eq, ne_eq, Decidable.not_not, Int.not_lt, Int.not_le, gt_iff_lt, ge_iff_le, Bool.true_eq_false, Bool.false_eq_true, not_true_eq_false, not_false_eq_true] at h1p
    refine wl_of (op_y (wg' 10 rfl rfl S rfl h1 rfl) rfl rfl S (y_faddrb rfl Ffo23_1 S rfl) fun a S => ?_)
    refine wl_of (op_y (wg' 10 rfl rfl S rfl h1 rfl) rfl rfl S (y_load rfl Fsca3 S H rfl rfl) fun a S => ?_)
    refine wl_of (op_y (wg' 10 rfl rfl S rfl h1 rfl) rfl rfl S (y_faddrb rfl Ffo23_0 S rfl) fun a S => ?_)
    refine wl_of (op_y (wg' 10 rfl rfl S rfl h1 rfl) rfl rfl S (y_load rfl Fsca3 S H rfl rfl) fun a S => ?_)
    refine wl_of (op_call (wg' 10 rfl rfl S rfl h1 rfl) rfl rfl S (co_func rfl Try.call16 S rfl) (between_spec _ _ _ _) fun v w hc a S => ?_)
    obtain ⟨rfl, he⟩ := hc
    have H := H.ext he
    refine wl_of (op_y (wg' 10 rfl rfl S rfl h1 rfl) rfl rfl S (y_not rfl S rfl) fun a S => ?_)
    refine wl_of (op_y (wn rfl) rfl rfl S (y_or' rfl h1 S rfl rfl) fun a S => ?_)
    exact kk _ _ (S.join 7 17 rfl rfl) H
  refine wl_of (op_y (wn rfl) rfl rfl S (y_move rfl S rfl) fun a S => ?_)
  refine' wl_or 4 18 rfl S H rfl rfl rfl rfl rfl rfl rfl (fun _ S => (wn rfl)) (fun h2 kk => ?yh2) (fun a w S H => ?_)
  case yh2 =>
    have h2p := h2; try simp only [decide_eq_true_eq, decide_eq_false_iff_not, Bool.or_eq_true, Bool.and_eq_true, Bool.or_eq_false_iff, Bool.and_eq_false_iff, Bool.not_eq_true', Bool.not_eq_false', bne_iff_ne, beq_iff_eq, beq_eq_false_iff_ne, bne_eq_false_iff_eq, ne_eq, Decidable.not_not, Int.not_lt, Int.not_le, gt_iff_lt, ge_iff_le, Bool.true_eq_false, Bool.false_eq_true, not_true_eq_false, not_false_eq_true] at h2p
    refine wl_of (op_y (wg' 18 rfl rfl S rfl h2 rfl) rfl rfl S (y_faddrb rfl Ffo23_2 S rfl) fun a S => ?_)
    refine wl_of (op_y (wg' 18 rfl rfl S rfl h2 rfl) rfl rfl S (y_load rfl Fsca3 S H rfl rfl) fun a S => ?_)
    refine wl_of (op_call (wg' 18 rfl rfl S rfl h2 rfl) rfl rfl S (co_func rfl Try.call16 S rfl) (between_spec _ _ _ _) fun v w hc a S => ?_)
    obtain ⟨rfl, he⟩ := hc
    have H := H.ext he
    refine wl_of (op_y (wg' 18 rfl rfl S rfl h2 rfl) rfl rfl S (y_not rfl S rfl) fun a S => ?_)
    refine wl_of (op_y (wn rfl) rfl rfl S (y_or' rfl h2 S rfl rfl) fun a S => ?_)
    exact kk _ _ (S.join 5 23 rfl rfl) H
  refine wpList_nil ?_
  refine n_then ?_
  have S := ((((S.nil.cons S 1 rfl).cons S 2 rfl).cons S 3 rfl).cons S 4 rfl).cons S 23 rfl
  -- cond 1
  refine c_if S rfl (fun h3 => ?_) (fun h3 => ?_)
  · have h3p := h3; try simp only [decide_eq_true_eq, decide_eq_false_iff_not, Bool.or_eq_true, Bool.and_eq_true, Bool.or_eq_false_iff, Bool.and_eq_false_iff, Bool.not_eq_true', Bool.not_eq_false', bne_iff_ne, beq_iff_eq, beq_eq_false_iff_ne, bne_eq_false_iff_eq, ne_eq, Decidable.not_not, Int.not_lt, Int.not_le, gt_iff_lt, ge_iff_le, Bool.true_eq_false, Bool.false_eq_true, not_true_eq_false, not_false_eq_true] at h3p
    have hv : valid r = false := by rw [not3, Bool.not_eq_true'] at h3; exact h3
    refine wp_seq ?_
    -- region 2 clock.go:17
    refine wp_region_lit ?_
    refine wl_of (op_y (wn rfl) rfl rfl S (y_assign rfl S rfl) fun a S => ?_)
    refine wl_of (op_y (wn rfl) rfl rfl S (y_assign rfl S rfl) fun a S => ?_)
    refine wl_of (op_y (wn rfl) rfl rfl S (y_assign rfl S rfl) fun a S => ?_)
    refine wpList_nil ?_
    refine n_then ?_
    have S := (((S.nil.cons S 1 rfl).cons S 2 rfl).cons S 3 rfl).cons S 4 rfl
    refine wp_ret ?_
    refine r_then (ret3 rfl S rfl rfl rfl ?_)
    exact ⟨by rw [bnd_no r hv]; rfl, H.toExt⟩
  · have h3p := h3; try simp only [decide_eq_true_eq, decide_eq_false_iff_not, Bool.or_eq_true, Bool.and_eq_true, Bool.or_eq_false_iff, Bool.and_eq_false_iff, Bool.not_eq_true', Bool.not_eq_false', bne_iff_ne, beq_iff_eq, beq_eq_false_iff_ne, bne_eq_false_iff_eq, ne_eq, Decidable.not_not, Int.not_lt, Int.not_le, gt_iff_lt, ge_iff_le, Bool.true_eq_false, Bool.false_eq_true, not_true_eq_false, not_false_eq_true] at h3p
    have hv : valid r = true := by rw [not3, Bool.not_eq_false'] at h3; exact h3
    have hp := prod_bd r hv
    have hq := unsure_bd r hv
    have hr := (valid_iff r).1 hv
    unfold unsure at hq
    refine wp_skip ?_
    refine n_then ?_
    refine wp_seq ?_
    -- region 3 clock.go:19
    refine wp_region_lit ?_
    refine wl_of (op_y (wn rfl) rfl rfl S (y_faddrb rfl Ffo23_0 S rfl) fun a S => ?_)
    refine wl_of (op_y (wn rfl) rfl rfl S (y_load rfl Fsca3 S H rfl rfl) fun a S => ?_)
    refine wl_of (op_y (wn rfl) rfl rfl S (y_faddrb rfl Ffo23_1 S rfl) fun a S => ?_)
    refine wl_of (op_y (wn rfl) rfl rfl S (y_load rfl Fsca3 S H rfl rfl) fun a S => ?_)
    refine wl_of (op_y (wn rfl) rfl rfl S (y_sub rfl S rfl rfl (by omega)) fun a S => ?_)
    refine wl_of (op_y (wn rfl) rfl rfl S (y_faddrb rfl Ffo23_2 S rfl) fun a S => ?_)
    refine wl_of (op_y (wn rfl) rfl rfl S (y_load rfl Fsca3 S H rfl rfl) fun a S => ?_)
    refine wl_of (op_y (wn rfl) rfl rfl S (y_mul rfl S rfl rfl (by omega)) fun a S => ?_)
    refine wl_of (op_y (wn rfl) rfl rfl S (y_add rfl S rfl rfl (by omega)) fun a S => ?_)
    refine wl_of (op_y (wn rfl) rfl rfl S (y_quon rfl S rfl rfl (by omega) (by omega) (by omega)) fun a S => ?_)
    refine wl_of (op_y (wn rfl) rfl rfl S (y_assign rfl S rfl) fun a S => ?_)
    refine wpList_nil ?_
    refine n_then ?_
    have S := ((((S.nil.cons S 1 rfl).cons S 2 rfl).cons S 3 rfl).cons S 4 rfl).cons S 5 rfl
    refine wp_seq ?_
    -- region 4 DRAWS clock.go:20
    refine region_st (loud := []) (tails := []) [0, 1, 2, 3, 4, 5, 6, 7, 8, 9, 10] Fmo (by kernel_rfl) (by kernel_rfl) rfl H ?_
    refine m_w rfl rfl (wn rfl) rfl rfl S (fun w H => y_faddrb rfl Ffo23_0 S rfl) fun a S => ?_
    refine m_w rfl rfl (wn rfl) rfl rfl S (fun w H => y_load rfl Fsca3 S H rfl rfl) fun a S => ?_
    refine m_w rfl rfl (wn rfl) rfl rfl S (fun w H => y_move rfl S rfl) fun a S => ?_
    refine m_w rfl rfl (wn rfl) rfl rfl S (fun w H => y_sub rfl S rfl rfl (by omega)) fun a S => ?_
    refine m_w rfl rfl (wn rfl) rfl rfl S (fun w H => y_faddrb rfl Ffo23_0 S rfl) fun a S => ?_
    refine m_w rfl rfl (wn rfl) rfl rfl S (fun w H => y_load rfl Fsca3 S H rfl rfl) fun a S => ?_
    refine m_w rfl rfl (wn rfl) rfl rfl S (fun w H => y_move rfl S rfl) fun a S => ?_
    refine m_w rfl rfl (wn rfl) rfl rfl S (fun w H => y_add rfl S rfl rfl (by omega)) fun a S => ?_
    refine m_w rfl rfl (wn rfl) rfl rfl S (fun w H => y_assign rfl S rfl) fun a S => ?_
    refine m_w rfl rfl (wn rfl) rfl rfl S (fun w H => y_assign rfl S rfl) fun a S => ?_
    refine m_w rfl rfl (wn rfl) rfl rfl S (fun w H => y_assign rfl S rfl) fun a S => ?_
    refine m_nil (fun w H => ?_)
    refine n_then ?_
    have S := ((S.nil.cons S 2 rfl).cons S 3 rfl).cons S 4 rfl
    refine wp_ret ?_
    refine ret3 rfl S rfl rfl rfl ?_
    exact ⟨by rw [bnd_yes r hv]; rfl, H.toExt⟩
/-- foyer/foyerref25.Bounds -/
theorem refBounds_spec (r : Rd) (w0 : World) :
    Ret Try.prog 11 #[.agg (Rd.enc r).toArray] w0 (fun v w => v = trip (bnd r) ∧ Ext w0 w) := by
  refine ret_of_wp (n := 33) Try.func11 rfl rfl rfl (fl := [(0, .agg (Rd.enc r).toArray)]) rfl (fun a S => ?_)
  have H := HSat.start w0
  refine wp_seq ?_
  -- region 0 ref.go:12
  refine wp_region_lit ?_
  refine wl_of (op_boxa (wn rfl) rfl rfl rfl S H rfl fun b1 a w S H => ?_)
  refine wl_of (op_y (wn rfl) rfl rfl S (y_assign rfl S rfl) fun a S => ?_)
  refine wl_of (op_y (wn rfl) rfl rfl S (y_assign rfl S rfl) fun a S => ?_)
  refine wl_of (op_y (wn rfl) rfl rfl S (y_assign rfl S rfl) fun a S => ?_)
  refine wpList_nil ?_
  refine n_then ?_
  refine wp_seq ?_
  refine wp_seq ?_
  -- region 1 ref.go:13
  refine wp_region_lit ?_
  refine wl_of (op_y (wn rfl) rfl rfl S (y_load0 rfl S H rfl (by exact Fagg23)) fun a S => ?_)
  refine wl_of (op_call (wn rfl) rfl rfl S (co_func rfl Try.call17 S rfl) (refValid_spec _ _) fun v w hc a S => ?_)
  obtain ⟨rfl, he⟩ := hc
  have H := H.ext he
  refine wl_of (op_y (wn rfl) rfl rfl S (y_not rfl S rfl) fun a S => ?_)
  refine wpList_nil ?_
  refine n_then ?_
  -- cond 1
  refine c_if S rfl (fun h1 => ?_) (fun h1 => ?_)
  · have h1p := h1; try simp only [decide_eq_true_eq, decide_eq_false_iff_not, Bool.or_eq_true, Bool.and_eq_true, Bool.or_eq_false_iff, Bool.and_eq_false_iff, Bool.not_eq_true', Bool.not_eq_false', bne_iff_ne, beq_iff_eq, beq_eq_false_iff_ne, bne_eq_false_iff_eq, ne_eq, Decidable.not_not, Int.not_lt, Int.not_le, gt_iff_lt, ge_iff_le, Bool.true_eq_false, Bool.false_eq_true, not_true_eq_false, not_false_eq_true] at h1p
    have hv : valid r = false := by simpa using h1
    refine wp_seq ?_
    -- region 2 ref.go:14
    refine wp_region_lit ?_
    refine wl_of (op_y (wn rfl) rfl rfl S (y_assign rfl S rfl) fun a S => ?_)
    refine wl_of (op_y (wn rfl) rfl rfl S (y_assign rfl S rfl) fun a S => ?_)
    refine wl_of (op_y (wn rfl) rfl rfl S (y_assign rfl S rfl) fun a S => ?_)
    refine wpList_nil ?_
    refine n_then ?_
    have S := (((S.nil.cons S 1 rfl).cons S 2 rfl).cons S 3 rfl).cons S 4 rfl
    refine wp_ret ?_
    refine r_then (ret3 rfl S rfl rfl rfl ?_)
    exact ⟨by rw [bnd_no r hv]; rfl, H.toExt⟩
  · have h1p := h1; try simp only [decide_eq_true_eq, decide_eq_false_iff_not, Bool.or_eq_true, Bool.and_eq_true, Bool.or_eq_false_iff, Bool.and_eq_false_iff, Bool.not_eq_true', Bool.not_eq_false', bne_iff_ne, beq_iff_eq, beq_eq_false_iff_ne, bne_eq_false_iff_eq, ne_eq, Decidable.not_not, Int.not_lt, Int.not_le, gt_iff_lt, ge_iff_le, Bool.true_eq_false, Bool.false_eq_true, not_true_eq_false, not_false_eq_true] at h1p
    have hv : valid r = true := by simpa using h1
    have hp := prod_bd r hv
    have hq := unsure_bd r hv
    have hr := (valid_iff r).1 hv
    have hu := ref_unsure _ hp.1
    unfold unsure at hq; rw [hu] at hq; clear hu
    refine wp_skip ?_
    refine n_then ?_
    have S := (((S.nil.cons S 1 rfl).cons S 2 rfl).cons S 3 rfl).cons S 4 rfl
    refine wp_seq ?_
    -- region 3 ref.go:16
    refine wp_region_lit ?_
    refine wl_of (op_y (wn rfl) rfl rfl S (y_faddrb rfl Ffo23_0 S rfl) fun a S => ?_)
    refine wl_of (op_y (wn rfl) rfl rfl S (y_load rfl Fsca3 S H rfl rfl) fun a S => ?_)
    refine wl_of (op_y (wn rfl) rfl rfl S (y_faddrb rfl Ffo23_1 S rfl) fun a S => ?_)
    refine wl_of (op_y (wn rfl) rfl rfl S (y_load rfl Fsca3 S H rfl rfl) fun a S => ?_)
    refine wl_of (op_y (wn rfl) rfl rfl S (y_sub rfl S rfl rfl (by omega)) fun a S => ?_)
    refine wl_of (op_y (wn rfl) rfl rfl S (y_faddrb rfl Ffo23_2 S rfl) fun a S => ?_)
    refine wl_of (op_y (wn rfl) rfl rfl S (y_load rfl Fsca3 S H rfl rfl) fun a S => ?_)
    refine wl_of (op_y (wn rfl) rfl rfl S (y_mul rfl S rfl rfl (by omega)) fun a S => ?_)
    refine wl_of (op_y (wn rfl) rfl rfl S (y_assign rfl S rfl) fun a S => ?_)
    refine wpList_nil ?_
    refine n_then ?_
    have S := ((((S.nil.cons S 1 rfl).cons S 2 rfl).cons S 3 rfl).cons S 4 rfl).cons S 5 rfl
    refine wp_seq ?_
    -- region 4 ref.go:17
    refine wp_region_lit ?_
    refine wl_of (op_y (wn rfl) rfl rfl S (y_move rfl S rfl) fun a S => ?_)
    refine wl_of (op_y (wn rfl) rfl rfl S (y_quon rfl S rfl rfl (by omega) (by omega) (by omega)) fun a S => ?_)
    refine wl_of (op_y (wn rfl) rfl rfl S (y_assign rfl S rfl) fun a S => ?_)
    refine wpList_nil ?_
    refine n_then ?_
    refine wp_seq ?_
    refine wp_seq ?_
    -- region 5 ref.go:18
    refine wp_region_lit ?_
    refine wl_of (op_y (wn rfl) rfl rfl S (y_move rfl S rfl) fun a S => ?_)
    refine wl_of (op_y (wn rfl) rfl rfl S (y_remn rfl S rfl rfl (by omega) (by omega)) fun a S => ?_)
    refine wl_of (op_y (wn rfl) rfl rfl S (y_bin rfl S rfl rfl rfl) fun a S => ?_)
    refine wpList_nil ?_
    refine n_then ?_
    have S := (((((S.nil.cons S 1 rfl).cons S 2 rfl).cons S 3 rfl).cons S 4 rfl).cons S 6 rfl).cons S 22 rfl
    -- cond 2, joined
    refine' c_ji (s := 6) S rfl (fun h2 => ?th2) (fun h2 => ?fh2) (fun a w S H => ?_)
    case th2 =>
      have h2p := h2; try simp only [decide_eq_true_eq, decide_eq_false_iff_not, Bool.or_eq_true, Bool.and_eq_true, Bool.or_eq_false_iff, Bool.and_eq_false_iff, Bool.not_eq_true', Bool.not_eq_false', bne_iff_ne, beq_iff_eq, beq_eq_false_iff_ne, bne_eq_false_iff_eq, ne_eq, Decidable.not_not, Int.not_lt, Int.not_le, gt_iff_lt, ge_iff_le, Bool.true_eq_false, Bool.false_eq_true, not_true_eq_false, not_false_eq_true] at h2p
      -- region 6 ref.go:19
      refine wp_region_lit ?_
      refine wl_of (op_y (wn rfl) rfl rfl S (y_move rfl S rfl) fun a S => ?_)
      refine wl_of (op_y (wn rfl) rfl rfl S (y_add rfl S rfl rfl (by omega)) fun a S => ?_)
      refine wl_of (op_y (wn rfl) rfl rfl S (y_assign rfl S rfl) fun a S => ?_)
      refine wpList_nil ?_
      refine n_then ?_
      exact ⟨S.nil.cons S 6 rfl, (((S.nil.cons S 1 rfl).cons S 2 rfl).cons S 3 rfl).cons S 4 rfl, H⟩
    case fh2 =>
      have h2p := h2; try simp only [decide_eq_true_eq, decide_eq_false_iff_not, Bool.or_eq_true, Bool.and_eq_true, Bool.or_eq_false_iff, Bool.and_eq_false_iff, Bool.not_eq_true', Bool.not_eq_false', bne_iff_ne, beq_iff_eq, beq_eq_false_iff_ne, bne_eq_false_iff_eq, ne_eq, Decidable.not_not, Int.not_lt, Int.not_le, gt_iff_lt, ge_iff_le, Bool.true_eq_false, Bool.false_eq_true, not_true_eq_false, not_false_eq_true] at h2p
      refine wp_skip ?_
      refine n_then ?_
      exact ⟨S.nil.cons S 6 rfl, (((S.nil.cons S 1 rfl).cons S 2 rfl).cons S 3 rfl).cons S 4 rfl, H⟩
    refine wp_seq ?_
    -- region 7 DRAWS ref.go:21
    refine region_st (loud := []) (tails := []) [0, 1, 2, 3, 4, 5, 6, 7, 8, 9, 10] Fmo (by kernel_rfl) (by kernel_rfl) rfl H ?_
    refine m_w rfl rfl (wn rfl) rfl rfl S (fun w H => y_faddrb rfl Ffo23_0 S rfl) fun a S => ?_
    refine m_w rfl rfl (wn rfl) rfl rfl S (fun w H => y_load rfl Fsca3 S H rfl rfl) fun a S => ?_
    refine m_w rfl rfl (wn rfl) rfl rfl S (fun w H => y_move rfl S rfl) fun a S => ?_
    refine m_w rfl rfl (wn rfl) rfl rfl S (fun w H => y_sub rfl S rfl rfl (by omega)) fun a S => ?_
    refine m_w rfl rfl (wn rfl) rfl rfl S (fun w H => y_faddrb rfl Ffo23_0 S rfl) fun a S => ?_
    refine m_w rfl rfl (wn rfl) rfl rfl S (fun w H => y_load rfl Fsca3 S H rfl rfl) fun a S => ?_
    refine m_w rfl rfl (wn rfl) rfl rfl S (fun w H => y_move rfl S rfl) fun a S => ?_
    refine m_w rfl rfl (wn rfl) rfl rfl S (fun w H => y_add rfl S rfl rfl (by omega)) fun a S => ?_
    refine m_w rfl rfl (wn rfl) rfl rfl S (fun w H => y_assign rfl S rfl) fun a S => ?_
    refine m_w rfl rfl (wn rfl) rfl rfl S (fun w H => y_assign rfl S rfl) fun a S => ?_
    refine m_w rfl rfl (wn rfl) rfl rfl S (fun w H => y_assign rfl S rfl) fun a S => ?_
    refine m_nil (fun w H => ?_)
    refine n_then ?_
    have S := ((S.nil.cons S 2 rfl).cons S 3 rfl).cons S 4 rfl
    refine wp_ret ?_
    refine ret3 rfl S rfl rfl rfl ?_
    exact ⟨by rw [bnd_yes r hv, unsure, ref_unsure _ hp.1]; rfl, H.toExt⟩
/-- foyer/clock.Over -/
theorem over_spec (r : Rd) (u : Int) (w0 : World) :
    Ret Try.prog 12 #[.agg (Rd.enc r).toArray, .int .i64 u] w0 (fun v w => v = pairB (over r u) ∧ Ext w0 w) := by
  refine ret_of_wp (n := 23) Try.func12 rfl rfl rfl (fl := [(0, .agg (Rd.enc r).toArray), (1, .int .i64 u)]) rfl (fun a S => ?_)
  have H := HSat.start w0
  refine wp_seq ?_
  -- region 0 clock.go:24
  refine wp_region_lit ?_
  refine wl_of (op_boxa (wn rfl) rfl rfl rfl S H rfl fun b2 a w S H => ?_)
  refine wl_of (op_y (wn rfl) rfl rfl S (y_assign rfl S rfl) fun a S => ?_)
  refine wl_of (op_y (wn rfl) rfl rfl S (y_assign rfl S rfl) fun a S => ?_)
  refine wpList_nil ?_
  refine n_then ?_
  refine wp_seq ?_
  -- region 1 clock.go:25
  refine wp_region_lit ?_
  refine wl_of (op_y (wn rfl) rfl rfl S (y_load0 rfl S H rfl (by exact Fagg23)) fun a S => ?_)
  refine wl_of (op_call (wn rfl) rfl rfl S (co_func rfl Try.call10 S rfl) (bounds_spec _ _) fun v w hc a S => ?_)
  obtain ⟨rfl, he⟩ := hc
  have H := H.ext he
  refine wl_of (op_y (wn rfl) rfl rfl S (y_move rfl S rfl) fun a S => ?_)
  refine wl_of (op_y (wn rfl) rfl rfl S (y_extract rfl S rfl rfl) fun a S => ?_)
  refine wl_of (op_y (wn rfl) rfl rfl S (y_extract rfl S rfl rfl) fun a S => ?_)
  refine wl_of (op_y (wn rfl) rfl rfl S (y_extract rfl S rfl rfl) fun a S => ?_)
  refine wl_of (op_y (wn rfl) rfl rfl S (y_assign rfl S rfl) fun a S => ?_)
  refine wl_of (op_y (wn rfl) rfl rfl S (y_assign rfl S rfl) fun a S => ?_)
  refine wl_of (op_y (wn rfl) rfl rfl S (y_assign rfl S rfl) fun a S => ?_)
  refine wpList_nil ?_
  refine n_then ?_
  have S := (((((S.nil.cons S 1 rfl).cons S 4 rfl).cons S 5 rfl).cons S 6 rfl).cons S 7 rfl).cons S 8 rfl
  refine wp_seq ?_
  refine wp_seq ?_
  -- region 2 clock.go:26
  refine wp_region_lit ?_
  refine wl_of (op_y (wn rfl) rfl rfl S (y_move rfl S rfl) fun a S => ?_)
  refine wl_of (op_y (wn rfl) rfl rfl S (y_bin rfl S rfl rfl rfl) fun a S => ?_)
  refine wpList_nil ?_
  refine n_then ?_
  -- cond 1
  refine c_if S rfl (fun h1 => ?_) (fun h1 => ?_)
  · have h1p := h1; try simp only [decide_eq_true_eq, decide_eq_false_iff_not, Bool.or_eq_true, Bool.and_eq_true, Bool.or_eq_false_iff, Bool.and_eq_false_iff, Bool.not_eq_true', Bool.not_eq_false', bne_iff_ne, beq_iff_eq, beq_eq_false_iff_ne, bne_eq_false_iff_eq, ne_eq, Decidable.not_not, Int.not_lt, Int.not_le, gt_iff_lt, ge_iff_le, Bool.true_eq_false, Bool.false_eq_true, not_true_eq_false, not_false_eq_true] at h1p
    refine wp_seq ?_
    -- region 3 clock.go:27
    refine wp_region_lit ?_
    refine wl_of (op_y (wn rfl) rfl rfl S (y_assign rfl S rfl) fun a S => ?_)
    refine wl_of (op_y (wn rfl) rfl rfl S (y_assign rfl S rfl) fun a S => ?_)
    refine wpList_nil ?_
    refine n_then ?_
    have S := ((((S.nil.cons S 1 rfl).cons S 6 rfl).cons S 7 rfl).cons S 4 rfl).cons S 5 rfl
    refine wp_ret ?_
    refine r_then (ret2 rfl S rfl rfl ?_)
    exact ⟨by simp [over, pairB, h1p], H.toExt⟩
  · have h1p := h1; try simp only [decide_eq_true_eq, decide_eq_false_iff_not, Bool.or_eq_true, Bool.and_eq_true, Bool.or_eq_false_iff, Bool.and_eq_false_iff, Bool.not_eq_true', Bool.not_eq_false', bne_iff_ne, beq_iff_eq, beq_eq_false_iff_ne, bne_eq_false_iff_eq, ne_eq, Decidable.not_not, Int.not_lt, Int.not_le, gt_iff_lt, ge_iff_le, Bool.true_eq_false, Bool.false_eq_true, not_true_eq_false, not_false_eq_true] at h1p
    refine wp_skip ?_
    refine n_then ?_
    refine wp_seq ?_
    -- region 4 clock.go:29
    refine wp_region_lit ?_
    refine wl_of (op_y (wn rfl) rfl rfl S (y_move rfl S rfl) fun a S => ?_)
    refine wl_of (op_y (wn rfl) rfl rfl S (y_move rfl S rfl) fun a S => ?_)
    refine wl_of (op_y (wn rfl) rfl rfl S (y_bin rfl S rfl rfl rfl) fun a S => ?_)
    refine wl_of (op_y (wn rfl) rfl rfl S (y_move rfl S rfl) fun a S => ?_)
    refine wl_of (op_y (wn rfl) rfl rfl S (y_move rfl S rfl) fun a S => ?_)
    refine wl_of (op_y (wn rfl) rfl rfl S (y_bin rfl S rfl rfl rfl) fun a S => ?_)
    refine wl_of (op_y (wn rfl) rfl rfl S (y_assign rfl S rfl) fun a S => ?_)
    refine wl_of (op_y (wn rfl) rfl rfl S (y_assign rfl S rfl) fun a S => ?_)
    refine wpList_nil ?_
    refine n_then ?_
    have S := (S.nil.cons S 4 rfl).cons S 5 rfl
    refine wp_ret ?_
    refine ret2 rfl S rfl rfl ?_
    exact ⟨by simp [over, pairB, h1p], H.toExt⟩
/-- foyer/foyerref25.Over -/
theorem refOver_spec (r : Rd) (u : Int) (w0 : World) :
    Ret Try.prog 13 #[.agg (Rd.enc r).toArray, .int .i64 u] w0 (fun v w => v = pairB (over r u) ∧ Ext w0 w) := by
  refine ret_of_wp (n := 29) Try.func13 rfl rfl rfl (fl := [(0, .agg (Rd.enc r).toArray), (1, .int .i64 u)]) rfl (fun a S => ?_)
  have H := HSat.start w0
  refine wp_seq ?_
  -- region 0 ref.go:25
  refine wp_region_lit ?_
  refine wl_of (op_boxa (wn rfl) rfl rfl rfl S H rfl fun b2 a w S H => ?_)
  refine wl_of (op_y (wn rfl) rfl rfl S (y_assign rfl S rfl) fun a S => ?_)
  refine wl_of (op_y (wn rfl) rfl rfl S (y_assign rfl S rfl) fun a S => ?_)
  refine wpList_nil ?_
  refine n_then ?_
  refine wp_seq ?_
  -- region 1 ref.go:26
  refine wp_region_lit ?_
  refine wl_of (op_y (wn rfl) rfl rfl S (y_load0 rfl S H rfl (by exact Fagg23)) fun a S => ?_)
  refine wl_of (op_call (wn rfl) rfl rfl S (co_func rfl Try.call11 S rfl) (refBounds_spec _ _) fun v w hc a S => ?_)
  obtain ⟨rfl, he⟩ := hc
  have H := H.ext he
  refine wl_of (op_y (wn rfl) rfl rfl S (y_move rfl S rfl) fun a S => ?_)
  refine wl_of (op_y (wn rfl) rfl rfl S (y_extract rfl S rfl rfl) fun a S => ?_)
  refine wl_of (op_y (wn rfl) rfl rfl S (y_extract rfl S rfl rfl) fun a S => ?_)
  refine wl_of (op_y (wn rfl) rfl rfl S (y_extract rfl S rfl rfl) fun a S => ?_)
  refine wl_of (op_y (wn rfl) rfl rfl S (y_assign rfl S rfl) fun a S => ?_)
  refine wl_of (op_y (wn rfl) rfl rfl S (y_assign rfl S rfl) fun a S => ?_)
  refine wl_of (op_y (wn rfl) rfl rfl S (y_assign rfl S rfl) fun a S => ?_)
  refine wpList_nil ?_
  refine n_then ?_
  have S := (((((S.nil.cons S 1 rfl).cons S 4 rfl).cons S 5 rfl).cons S 6 rfl).cons S 7 rfl).cons S 8 rfl
  refine wp_seq ?_
  -- region 2 ref.go:27
  refine wp_region_lit ?_
  refine wl_of (op_y (wn rfl) rfl rfl S (y_move rfl S rfl) fun a S => ?_)
  refine wl_of (op_y (wn rfl) rfl rfl S (y_bin rfl S rfl rfl rfl) fun a S => ?_)
  refine wl_of (op_y (wn rfl) rfl rfl S (y_move rfl S rfl) fun a S => ?_)
  refine' wl_and 3 17 rfl S H rfl rfl rfl rfl rfl rfl rfl (fun _ S => (wn rfl)) (fun h1 kk => ?yh1) (fun a w S H => ?_)
  case yh1 =>
    have h1p := h1; try simp only [decide_eq_true_eq, decide_eq_false_iff_not, Bool.or_eq_true, Bool.and_eq_true, Bool.or_eq_false_iff, Bool.and_eq_false_iff, Bool.not_eq_true', Bool.not_eq_false', bne_iff_ne, beq_iff_eq, beq_eq_false_iff_ne, bne_eq_false_iff_eq, ne_eq, Decidable.not_not, Int.not_lt, Int.not_le, gt_iff_lt, ge_iff_le, Bool.true_eq_false, Bool.false_eq_true, not_true_eq_false, not_false_eq_true] at h1p
    refine wl_of (op_y (wg' 17 rfl rfl S rfl h1 rfl) rfl rfl S (y_move rfl S rfl) fun a S => ?_)
    refine wl_of (op_y (wg' 17 rfl rfl S rfl h1 rfl) rfl rfl S (y_move rfl S rfl) fun a S => ?_)
    refine wl_of (op_y (wg' 17 rfl rfl S rfl h1 rfl) rfl rfl S (y_bin rfl S rfl rfl rfl) fun a S => ?_)
    refine wl_of (op_y (wn rfl) rfl rfl S (y_and' rfl h1 S rfl rfl) fun a S => ?_)
    exact kk _ _ (S.join 4 21 rfl rfl) H
  refine wl_of (op_y (wn rfl) rfl rfl S (y_move rfl S rfl) fun a S => ?_)
  refine wl_of (op_y (wn rfl) rfl rfl S (y_bin rfl S rfl rfl rfl) fun a S => ?_)
  refine wl_of (op_y (wn rfl) rfl rfl S (y_move rfl S rfl) fun a S => ?_)
  refine' wl_and 3 24 rfl S H rfl rfl rfl rfl rfl rfl rfl (fun _ S => (wn rfl)) (fun h2 kk => ?yh2) (fun a w S H => ?_)
  case yh2 =>
    have h2p := h2; try simp only [decide_eq_true_eq, decide_eq_false_iff_not, Bool.or_eq_true, Bool.and_eq_true, Bool.or_eq_false_iff, Bool.and_eq_false_iff, Bool.not_eq_true', Bool.not_eq_false', bne_iff_ne, beq_iff_eq, beq_eq_false_iff_ne, bne_eq_false_iff_eq, ne_eq, Decidable.not_not, Int.not_lt, Int.not_le, gt_iff_lt, ge_iff_le, Bool.true_eq_false, Bool.false_eq_true, not_true_eq_false, not_false_eq_true] at h2p
    refine wl_of (op_y (wg' 24 rfl rfl S rfl h2 rfl) rfl rfl S (y_move rfl S rfl) fun a S => ?_)
    refine wl_of (op_y (wg' 24 rfl rfl S rfl h2 rfl) rfl rfl S (y_move rfl S rfl) fun a S => ?_)
    refine wl_of (op_y (wg' 24 rfl rfl S rfl h2 rfl) rfl rfl S (y_bin rfl S rfl rfl rfl) fun a S => ?_)
    refine wl_of (op_y (wn rfl) rfl rfl S (y_and' rfl h2 S rfl rfl) fun a S => ?_)
    exact kk _ _ (S.join 4 28 rfl rfl) H
  refine wl_of (op_y (wn rfl) rfl rfl S (y_assign rfl S rfl) fun a S => ?_)
  refine wl_of (op_y (wn rfl) rfl rfl S (y_assign rfl S rfl) fun a S => ?_)
  refine wpList_nil ?_
  refine n_then ?_
  have S := (S.nil.cons S 4 rfl).cons S 5 rfl
  refine wp_ret ?_
  refine ret2 rfl S rfl rfl ?_
  exact ⟨by by_cases h : (bnd r).2.2 = 0 <;> simp [over, pairB, h], H.toExt⟩
/-- slices.Max[[]int,int] -/
theorem max_spec (v : Value) (xs : List Int) (w0 : World) (hv : IsSl w0 v 1 encI xs) (hne : 0 < xs.length) :
    Ret Try.prog 20 #[v] w0 (fun u w => u = .int .i64 (maxL xs) ∧ Ext w0 w) := by
  refine ret_of_wp (n := 25) Try.func20 rfl rfl rfl (fl := [(0, v)]) rfl (fun a S => ?_)
  have H := HSat.start w0
  have H := H.ro0 (Sl v 1 encI xs) rfl (hv)
  have hlen := hv.len
  refine wp_seq ?_
  -- region 0 sort.go:95
  refine wp_region_lit ?_
  refine wl_of (op_y (wn rfl) rfl rfl S (y_assign rfl S rfl) fun a S => ?_)
  refine wpList_nil ?_
  refine n_then ?_
  refine wp_seq ?_
  refine wp_seq ?_
  -- region 1 sort.go:96
  refine wp_region_lit ?_
  refine wl_of (op_y (wn rfl) rfl rfl S (y_move rfl S rfl) fun a S => ?_)
  refine wl_of (op_y (wn rfl) rfl rfl S (y_lens rfl Try.underlying40 S H rfl) fun a S => ?_)
  refine wl_of (op_y (wn rfl) rfl rfl S (y_bin rfl S rfl rfl rfl) fun a S => ?_)
  refine wpList_nil ?_
  refine n_then ?_
  -- cond 1 (both ways go on)
  refine c_if S rfl (fun h1 => ?_) (fun h1 => ?_)
  · have h1p := h1; try simp only [decide_eq_true_eq, decide_eq_false_iff_not, Bool.or_eq_true, Bool.and_eq_true, Bool.or_eq_false_iff, Bool.and_eq_false_iff, Bool.not_eq_true', Bool.not_eq_false', bne_iff_ne, beq_iff_eq, beq_eq_false_iff_ne, bne_eq_false_iff_eq, ne_eq, Decidable.not_not, Int.not_lt, Int.not_le, gt_iff_lt, ge_iff_le, Bool.true_eq_false, Bool.false_eq_true, not_true_eq_false, not_false_eq_true] at h1p
    exact absurd h1p (by omega)
  · have h1p := h1; try simp only [decide_eq_true_eq, decide_eq_false_iff_not, Bool.or_eq_true, Bool.and_eq_true, Bool.or_eq_false_iff, Bool.and_eq_false_iff, Bool.not_eq_true', Bool.not_eq_false', bne_iff_ne, beq_iff_eq, beq_eq_false_iff_ne, bne_eq_false_iff_eq, ne_eq, Decidable.not_not, Int.not_lt, Int.not_le, gt_iff_lt, ge_iff_le, Bool.true_eq_false, Bool.false_eq_true, not_true_eq_false, not_false_eq_true] at h1p
    refine wp_skip ?_
    refine n_then ?_
    refine wp_seq ?_
    -- region 3 sort.go:99
    refine wp_region_lit ?_
    refine wl_of (op_y (wn rfl) rfl rfl S (y_move rfl S rfl) fun a S => ?_)
    refine wl_of (op_y (wn rfl) rfl rfl S (y_iaddrs rfl Try.underlying40 Fsiz3 S H rfl rfl (by omega)) fun a S => ?_)
    refine wl_of (op_y (wn rfl) rfl rfl S (y_loads _ rfl Fsca3 S H rfl (by omega) rfl) fun a S => ?_)
    refine wl_of (op_y (wn rfl) rfl rfl S (y_assign rfl S rfl) fun a S => ?_)
    refine wpList_nil ?_
    refine n_then ?_
    have S := ((S.nil.cons S 0 rfl).cons S 2 rfl).cons S 3 rfl
    refine wp_seq ?_
    refine wp_seq ?_
    -- region 4 sort.go:100
    refine wp_region_lit ?_
    refine wl_of (op_y (wn rfl) rfl rfl S (y_assign rfl S rfl) fun a S => ?_)
    refine wpList_nil ?_
    refine n_then ?_
    refine wp_block ?_
    have S : St 25 ((4, .int .i64 1) :: (3, .int .i64 (maxL (xs.take 1))) :: [(2, .int .i64 0), (0, v)]) a := by rw [← maxL_one xs hne]; exact S
    have SU := (S.nil.cons S 0 rfl).cons S 2 rfl
    refine loop_k (X := Nat) SU (fun k => [(3, .int .i64 (maxL (xs.take k))), (4, .int .i64 (k : Int))]) (fun k => 1 ≤ k ∧ k ≤ xs.length) (fun k => xs.length - k) 1 ((S.nil.cons S 4 rfl).cons S 3 rfl) H (⟨by omega, by omega⟩) (fun k a w S H hi => ?_)
    simp only [List.cons_append, List.nil_append] at S hi
    refine wp_seq ?_
    refine wp_seq ?_
    -- region 5 sort.go:100
    refine wp_region_lit ?_
    refine wl_of (op_y (wn rfl) rfl rfl S (y_move rfl S rfl) fun a S => ?_)
    refine wl_of (op_y (wn rfl) rfl rfl S (y_move rfl S rfl) fun a S => ?_)
    refine wl_of (op_y (wn rfl) rfl rfl S (y_lens rfl Try.underlying40 S H rfl) fun a S => ?_)
    refine wl_of (op_y (wn rfl) rfl rfl S (y_bin rfl S rfl rfl rfl) fun a S => ?_)
    refine wpList_nil ?_
    refine n_then ?_
    -- cond 2
    refine c_if S rfl (fun h2 => ?_) (fun h2 => ?_)
    · have h2p := h2; try simp only [decide_eq_true_eq, decide_eq_false_iff_not, Bool.or_eq_true, Bool.and_eq_true, Bool.or_eq_false_iff, Bool.and_eq_false_iff, Bool.not_eq_true', Bool.not_eq_false', bne_iff_ne, beq_iff_eq, beq_eq_false_iff_ne, bne_eq_false_iff_eq, ne_eq, Decidable.not_not, Int.not_lt, Int.not_le, gt_iff_lt, ge_iff_le, Bool.true_eq_false, Bool.false_eq_true, not_true_eq_false, not_false_eq_true] at h2p
      refine wp_skip ?_
      refine n_then ?_
      refine wp_seq ?_
      refine wp_block ?_
      -- region 7 sort.go:101
      refine wp_region_lit ?_
      refine wl_of (op_y (wn rfl) rfl rfl S (y_move rfl S rfl) fun a S => ?_)
      refine wl_of (op_y (wn rfl) rfl rfl S (y_move rfl S rfl) fun a S => ?_)
      refine wl_of (op_y (wn rfl) rfl rfl S (y_move rfl S rfl) fun a S => ?_)
      refine wl_of (op_y (wn rfl) rfl rfl S (y_iaddrn rfl Try.underlying40 Fsiz3 S H rfl rfl (by omega)) fun a S => ?_)
      refine wl_of (op_y (wn rfl) rfl rfl S (y_loads _ rfl Fsca3 S H rfl (by omega) rfl) fun a S => ?_)
      refine wl_of (op_y (wn rfl) rfl rfl S (y_max rfl S rfl rfl) fun a S => ?_)
      refine wl_of (op_y (wn rfl) rfl rfl S (y_assign rfl S rfl) fun a S => ?_)
      refine wpList_nil ?_
      refine n_block ?_
      refine n_then ?_
      -- region 6 sort.go:100
      refine wp_region_lit ?_
      refine wl_of (op_y (wn rfl) rfl rfl S (y_move rfl S rfl) fun a S => ?_)
      refine wl_of (op_y (wn rfl) rfl rfl S (y_add rfl S rfl rfl (by omega)) fun a S => ?_)
      refine wl_of (op_y (wn rfl) rfl rfl S (y_assign rfl S rfl) fun a S => ?_)
      refine wpList_nil ?_
      refine n_then ?_
      refine ⟨k + 1, S.nil.cons S 4 rfl |>.cons S 3 (by rw [← maxL_take xs k hi.1 (by omega)]; rfl), (S.nil.cons S 0 rfl).cons S 2 rfl, H, ⟨by omega, by omega⟩, by omega⟩
    · have h2p := h2; try simp only [decide_eq_true_eq, decide_eq_false_iff_not, Bool.or_eq_true, Bool.and_eq_true, Bool.or_eq_false_iff, Bool.and_eq_false_iff, Bool.not_eq_true', Bool.not_eq_false', bne_iff_ne, beq_iff_eq, beq_eq_false_iff_ne, bne_eq_false_iff_eq, ne_eq, Decidable.not_not, Int.not_lt, Int.not_le, gt_iff_lt, ge_iff_le, Bool.true_eq_false, Bool.false_eq_true, not_true_eq_false, not_false_eq_true] at h2p
      refine wp_exit ?_
      refine x_then (x_then (x_eq ?_))
      refine n_then ?_
      have S := (S.nil.cons S 2 rfl).cons S 3 rfl
      refine wp_seq ?_
      -- region 8 sort.go:103
      refine wp_region_lit ?_
      refine wl_of (op_y (wn rfl) rfl rfl S (y_move rfl S rfl) fun a S => ?_)
      refine wl_of (op_y (wn rfl) rfl rfl S (y_assign rfl S rfl) fun a S => ?_)
      refine wpList_nil ?_
      refine n_then ?_
      refine wp_ret ?_
      refine ret1 rfl S rfl ?_
      exact ⟨by rw [List.take_of_length_le (by omega)], H.toExt⟩
/-- slices.Min[[]int,int] -/
theorem min_spec (v : Value) (xs : List Int) (w0 : World) (hv : IsSl w0 v 1 encI xs) (hne : 0 < xs.length) :
    Ret Try.prog 21 #[v] w0 (fun u w => u = .int .i64 (minL xs) ∧ Ext w0 w) := by
  refine ret_of_wp (n := 25) Try.func21 rfl rfl rfl (fl := [(0, v)]) rfl (fun a S => ?_)
  have H := HSat.start w0
  have H := H.ro0 (Sl v 1 encI xs) rfl (hv)
  have hlen := hv.len
  refine wp_seq ?_
  -- region 0 sort.go:65
  refine wp_region_lit ?_
  refine wl_of (op_y (wn rfl) rfl rfl S (y_assign rfl S rfl) fun a S => ?_)
  refine wpList_nil ?_
  refine n_then ?_
  refine wp_seq ?_
  refine wp_seq ?_
  -- region 1 sort.go:66
  refine wp_region_lit ?_
  refine wl_of (op_y (wn rfl) rfl rfl S (y_move rfl S rfl) fun a S => ?_)
  refine wl_of (op_y (wn rfl) rfl rfl S (y_lens rfl Try.underlying40 S H rfl) fun a S => ?_)
  refine wl_of (op_y (wn rfl) rfl rfl S (y_bin rfl S rfl rfl rfl) fun a S => ?_)
  refine wpList_nil ?_
  refine n_then ?_
  -- cond 1 (both ways go on)
  refine c_if S rfl (fun h1 => ?_) (fun h1 => ?_)
  · have h1p := h1; try simp only [decide_eq_true_eq, decide_eq_false_iff_not, Bool.or_eq_true, Bool.and_eq_true, Bool.or_eq_false_iff, Bool.and_eq_false_iff, Bool.not_eq_true', Bool.not_eq_false', bne_iff_ne, beq_iff_eq, beq_eq_false_iff_ne, bne_eq_false_iff_eq, ne_eq, Decidable.not_not, Int.not_lt, Int.not_le, gt_iff_lt, ge_iff_le, Bool.true_eq_false, Bool.false_eq_true, not_true_eq_false, not_false_eq_true] at h1p
    exact absurd h1p (by omega)
  · have h1p := h1; try simp only [decide_eq_true_eq, decide_eq_false_iff_not, Bool.or_eq_true, Bool.and_eq_true, Bool.or_eq_false_iff, Bool.and_eq_false_iff, Bool.not_eq_true', Bool.not_eq_false', bne_iff_ne, beq_iff_eq, beq_eq_false_iff_ne, bne_eq_false_iff_eq, ne_eq, Decidable.not_not, Int.not_lt, Int.not_le, gt_iff_lt, ge_iff_le, Bool.true_eq_false, Bool.false_eq_true, not_true_eq_false, not_false_eq_true] at h1p
    refine wp_skip ?_
    refine n_then ?_
    refine wp_seq ?_
    -- region 3 sort.go:69
    refine wp_region_lit ?_
    refine wl_of (op_y (wn rfl) rfl rfl S (y_move rfl S rfl) fun a S => ?_)
    refine wl_of (op_y (wn rfl) rfl rfl S (y_iaddrs rfl Try.underlying40 Fsiz3 S H rfl rfl (by omega)) fun a S => ?_)
    refine wl_of (op_y (wn rfl) rfl rfl S (y_loads _ rfl Fsca3 S H rfl (by omega) rfl) fun a S => ?_)
    refine wl_of (op_y (wn rfl) rfl rfl S (y_assign rfl S rfl) fun a S => ?_)
    refine wpList_nil ?_
    refine n_then ?_
    have S := ((S.nil.cons S 0 rfl).cons S 2 rfl).cons S 3 rfl
    refine wp_seq ?_
    refine wp_seq ?_
    -- region 4 sort.go:70
    refine wp_region_lit ?_
    refine wl_of (op_y (wn rfl) rfl rfl S (y_assign rfl S rfl) fun a S => ?_)
    refine wpList_nil ?_
    refine n_then ?_
    refine wp_block ?_
    have S : St 25 ((4, .int .i64 1) :: (3, .int .i64 (minL (xs.take 1))) :: [(2, .int .i64 0), (0, v)]) a := by rw [← minL_one xs hne]; exact S
    have SU := (S.nil.cons S 0 rfl).cons S 2 rfl
    refine loop_k (X := Nat) SU (fun k => [(3, .int .i64 (minL (xs.take k))), (4, .int .i64 (k : Int))]) (fun k => 1 ≤ k ∧ k ≤ xs.length) (fun k => xs.length - k) 1 ((S.nil.cons S 4 rfl).cons S 3 rfl) H (⟨by omega, by omega⟩) (fun k a w S H hi => ?_)
    simp only [List.cons_append, List.nil_append] at S hi
    refine wp_seq ?_
    refine wp_seq ?_
    -- region 5 sort.go:70
    refine wp_region_lit ?_
    refine wl_of (op_y (wn rfl) rfl rfl S (y_move rfl S rfl) fun a S => ?_)
    refine wl_of (op_y (wn rfl) rfl rfl S (y_move rfl S rfl) fun a S => ?_)
    refine wl_of (op_y (wn rfl) rfl rfl S (y_lens rfl Try.underlying40 S H rfl) fun a S => ?_)
    refine wl_of (op_y (wn rfl) rfl rfl S (y_bin rfl S rfl rfl rfl) fun a S => ?_)
    refine wpList_nil ?_
    refine n_then ?_
    -- cond 2
    refine c_if S rfl (fun h2 => ?_) (fun h2 => ?_)
    · have h2p := h2; try simp only [decide_eq_true_eq, decide_eq_false_iff_not, Bool.or_eq_true, Bool.and_eq_true, Bool.or_eq_false_iff, Bool.and_eq_false_iff, Bool.not_eq_true', Bool.not_eq_false', bne_iff_ne, beq_iff_eq, beq_eq_false_iff_ne, bne_eq_false_iff_eq, ne_eq, Decidable.not_not, Int.not_lt, Int.not_le, gt_iff_lt, ge_iff_le, Bool.true_eq_false, Bool.false_eq_true, not_true_eq_false, not_false_eq_true] at h2p
      refine wp_skip ?_
      refine n_then ?_
      refine wp_seq ?_
      refine wp_block ?_
      -- region 7 sort.go:71
      refine wp_region_lit ?_
      refine wl_of (op_y (wn rfl) rfl rfl S (y_move rfl S rfl) fun a S => ?_)
      refine wl_of (op_y (wn rfl) rfl rfl S (y_move rfl S rfl) fun a S => ?_)
      refine wl_of (op_y (wn rfl) rfl rfl S (y_move rfl S rfl) fun a S => ?_)
      refine wl_of (op_y (wn rfl) rfl rfl S (y_iaddrn rfl Try.underlying40 Fsiz3 S H rfl rfl (by omega)) fun a S => ?_)
      refine wl_of (op_y (wn rfl) rfl rfl S (y_loads _ rfl Fsca3 S H rfl (by omega) rfl) fun a S => ?_)
      refine wl_of (op_y (wn rfl) rfl rfl S (y_min rfl S rfl rfl) fun a S => ?_)
      refine wl_of (op_y (wn rfl) rfl rfl S (y_assign rfl S rfl) fun a S => ?_)
      refine wpList_nil ?_
      refine n_block ?_
      refine n_then ?_
      -- region 6 sort.go:70
      refine wp_region_lit ?_
      refine wl_of (op_y (wn rfl) rfl rfl S (y_move rfl S rfl) fun a S => ?_)
      refine wl_of (op_y (wn rfl) rfl rfl S (y_add rfl S rfl rfl (by omega)) fun a S => ?_)
      refine wl_of (op_y (wn rfl) rfl rfl S (y_assign rfl S rfl) fun a S => ?_)
      refine wpList_nil ?_
      refine n_then ?_
      refine ⟨k + 1, S.nil.cons S 4 rfl |>.cons S 3 (by rw [← minL_take xs k hi.1 (by omega)]; rfl), (S.nil.cons S 0 rfl).cons S 2 rfl, H, ⟨by omega, by omega⟩, by omega⟩
    · have h2p := h2; try simp only [decide_eq_true_eq, decide_eq_false_iff_not, Bool.or_eq_true, Bool.and_eq_true, Bool.or_eq_false_iff, Bool.and_eq_false_iff, Bool.not_eq_true', Bool.not_eq_false', bne_iff_ne, beq_iff_eq, beq_eq_false_iff_ne, bne_eq_false_iff_eq, ne_eq, Decidable.not_not, Int.not_lt, Int.not_le, gt_iff_lt, ge_iff_le, Bool.true_eq_false, Bool.false_eq_true, not_true_eq_false, not_false_eq_true] at h2p
      refine wp_exit ?_
      refine x_then (x_then (x_eq ?_))
      refine n_then ?_
      have S := (S.nil.cons S 2 rfl).cons S 3 rfl
      refine wp_seq ?_
      -- region 8 sort.go:73
      refine wp_region_lit ?_
      refine wl_of (op_y (wn rfl) rfl rfl S (y_move rfl S rfl) fun a S => ?_)
      refine wl_of (op_y (wn rfl) rfl rfl S (y_assign rfl S rfl) fun a S => ?_)
      refine wpList_nil ?_
      refine n_then ?_
      refine wp_ret ?_
      refine ret1 rfl S rfl ?_
      exact ⟨by rw [List.take_of_length_le (by omega)], H.toExt⟩
/-- slices.IndexFunc[[]foyer/api.Reading,foyer/api.Reading] -/
theorem indexFunc_spec {α : Type} (v : Value) (enc : α → List Value) (xs : List α) (f : FuncId) (cap : List Value) (he : Enters Try.prog f) (pr : α → Bool) (J : Nat → World → Prop) (w0 : World) (hst : ∀ j, Stable (J j)) (hsl : ∀ j w, J j w → IsSl w v 3 enc xs)
    (hstep : ∀ j (h : j < xs.length) w, J j w → Ret Try.prog f ([Value.agg (enc xs[j]).toArray] ++ cap).toArray w (fun u w' => u = .bool (pr xs[j]) ∧ J (j + 1) w')) (h0 : J 0 w0) :
    Ret Try.prog 22 #[v, .func (.func f) #[] cap.toArray] w0 (fun u w => ∃ i : Int, u = .int .i64 i ∧ ((i = -1 ∧ (∀ j (h : j < xs.length), pr xs[j] = false) ∧ J xs.length w) ∨ (∃ j, ∃ h : j < xs.length, i = (j : Int) ∧ pr xs[j] = true ∧ (∀ i (h : i < xs.length), i < j → pr xs[i] = false) ∧ J (j + 1) w))) := by
  refine ret_of_wp (n := 19) Try.func22 rfl rfl rfl (fl := [(0, v), (1, .func (.func f) #[] cap.toArray)]) rfl (fun a S => ?_)
  have hlen := (hsl 0 w0 h0).len
  have H := HSat.now (hsl 0 w0 h0)
  refine wp_seq ?_
  -- region 0 slices.go:107
  refine wp_region_lit ?_
  refine wl_of (op_y (wn rfl) rfl rfl S (y_assign rfl S rfl) fun a S => ?_)
  refine wpList_nil ?_
  refine n_then ?_
  refine wp_seq ?_
  refine wp_seq ?_
  -- region 1 slices.go:108
  refine wp_region_lit ?_
  refine wl_of (op_y (wn rfl) rfl rfl S (y_move rfl S rfl) fun a S => ?_)
  refine wl_of (op_y (wn rfl) rfl rfl S (y_lens rfl Try.underlying24 S H rfl) fun a S => ?_)
  refine wl_of (op_y (wn rfl) rfl rfl S (y_move rfl S rfl) fun a S => ?_)
  refine wpList_nil ?_
  refine n_then ?_
  refine wp_block ?_
  -- slots written in the loop and forgotten at its head: [4]
  have SU := ((S.nil.cons S 1 rfl).cons S 0 rfl).cons S 7 rfl
  refine loopW (X := Nat) SU (fun k => [(8, .int .i64 (k : Int))]) (fun k w => k ≤ xs.length ∧ (∀ j (h : j < xs.length), j < k → pr xs[j] = false) ∧ J k w) (fun k => xs.length - k) 0 (S.nil.cons S 8 rfl) (⟨by omega, fun j h hj => by omega, h0⟩) (fun k a w S hW => ?_)
  simp only [List.cons_append, List.nil_append] at S
  obtain ⟨hk, hpr, hJ⟩ := hW
  have H := HSat.now (hsl k w hJ)
  refine wp_seq ?_
  -- region 2 slices.go:108
  refine wp_region_lit ?_
  refine wl_of (op_y (wn rfl) rfl rfl S (y_bin rfl S rfl rfl rfl) fun a S => ?_)
  refine wpList_nil ?_
  refine n_then ?_
  refine wp_seq ?_
  -- cond 1
  refine c_if S rfl (fun h1 => ?_) (fun h1 => ?_)
  · have h1p := h1; try simp only [decide_eq_true_eq, decide_eq_false_iff_not, Bool.or_eq_true, Bool.and_eq_true, Bool.or_eq_false_iff, Bool.and_eq_false_iff, Bool.not_eq_true', Bool.not_eq_false', bne_iff_ne, beq_iff_eq, beq_eq_false_iff_ne, bne_eq_false_iff_eq, ne_eq, Decidable.not_not, Int.not_lt, Int.not_le, gt_iff_lt, ge_iff_le, Bool.true_eq_false, Bool.false_eq_true, not_true_eq_false, not_false_eq_true] at h1p
    refine wp_skip ?_
    refine n_then ?_
    refine wp_seq ?_
    refine wp_block ?_
    refine wp_seq ?_
    -- region 3 slices.go:108
    refine wp_region_lit ?_
    refine wl_of (op_y (wn rfl) rfl rfl S (y_move rfl S rfl) fun a S => ?_)
    refine wl_of (op_y (wn rfl) rfl rfl S (y_assign rfl S rfl) fun a S => ?_)
    refine wpList_nil ?_
    refine n_then ?_
    refine wp_seq ?_
    -- region 4 slices.go:109
    refine wp_region_lit ?_
    refine wl_of (op_y (wn rfl) rfl rfl S (y_move rfl S rfl) fun a S => ?_)
    refine wl_of (op_y (wn rfl) rfl rfl S (y_move rfl S rfl) fun a S => ?_)
    refine wl_of (op_y (wn rfl) rfl rfl S (y_move rfl S rfl) fun a S => ?_)
    refine wl_of (op_y (wn rfl) rfl rfl S (y_iaddrn rfl Try.underlying24 Fsiz23 S H rfl rfl (by omega)) fun a S => ?_)
    refine wl_of (op_y (wn rfl) rfl rfl S (y_loadsa _ rfl S H rfl (by exact Fagg23) (by omega)) fun a S => ?_)
    refine wl_of (op_call (wn rfl) rfl rfl S (co_value rfl he S rfl rfl) (hstep k (by omega) w hJ) fun v w hc a S => ?_)
    obtain ⟨rfl, hJ⟩ := hc
    have H := HSat.now (hsl (k + 1) w hJ)
    refine wpList_nil ?_
    refine n_then ?_
    -- cond 2
    refine c_if S rfl (fun h2 => ?_) (fun h2 => ?_)
    · have h2p := h2; try simp only [decide_eq_true_eq, decide_eq_false_iff_not, Bool.or_eq_true, Bool.and_eq_true, Bool.or_eq_false_iff, Bool.and_eq_false_iff, Bool.not_eq_true', Bool.not_eq_false', bne_iff_ne, beq_iff_eq, beq_eq_false_iff_ne, bne_eq_false_iff_eq, ne_eq, Decidable.not_not, Int.not_lt, Int.not_le, gt_iff_lt, ge_iff_le, Bool.true_eq_false, Bool.false_eq_true, not_true_eq_false, not_false_eq_true] at h2p
      refine wp_seq ?_
      -- region 5 slices.go:110
      refine wp_region_lit ?_
      refine wl_of (op_y (wn rfl) rfl rfl S (y_move rfl S rfl) fun a S => ?_)
      refine wl_of (op_y (wn rfl) rfl rfl S (y_assign rfl S rfl) fun a S => ?_)
      refine wpList_nil ?_
      refine n_then ?_
      refine wp_ret ?_
      refine r_block (r_then (r_then (r_block (r_then (ret1 rfl S rfl ?_)))))
      exact ⟨_, rfl, .inr ⟨k, by omega, rfl, h2, fun i h hi => hpr i h hi, hJ⟩⟩
    · have h2p := h2; try simp only [decide_eq_true_eq, decide_eq_false_iff_not, Bool.or_eq_true, Bool.and_eq_true, Bool.or_eq_false_iff, Bool.and_eq_false_iff, Bool.not_eq_true', Bool.not_eq_false', bne_iff_ne, beq_iff_eq, beq_eq_false_iff_ne, bne_eq_false_iff_eq, ne_eq, Decidable.not_not, Int.not_lt, Int.not_le, gt_iff_lt, ge_iff_le, Bool.true_eq_false, Bool.false_eq_true, not_true_eq_false, not_false_eq_true] at h2p
      refine wp_skip ?_
      refine n_block ?_
      refine n_then ?_
      -- region 6 slices.go:108
      refine wp_region_lit ?_
      refine wl_of (op_y (wn rfl) rfl rfl S (y_add rfl S rfl rfl (by omega)) fun a S => ?_)
      refine wl_of (op_y (wn rfl) rfl rfl S (y_move rfl S rfl) fun a S => ?_)
      refine wpList_nil ?_
      refine n_then ?_
      refine ⟨k + 1, S.nil.cons S 8 rfl, ((S.nil.cons S 1 rfl).cons S 0 rfl).cons S 7 rfl, ?_, ?_⟩
      · exact ⟨by omega, fun j h hj => by by_cases hjk : j < k; exact hpr j h hjk; (obtain rfl : j = k := by omega); exact h2, hJ⟩
      · omega
  · have h1p := h1; try simp only [decide_eq_true_eq, decide_eq_false_iff_not, Bool.or_eq_true, Bool.and_eq_true, Bool.or_eq_false_iff, Bool.and_eq_false_iff, Bool.not_eq_true', Bool.not_eq_false', bne_iff_ne, beq_iff_eq, beq_eq_false_iff_ne, bne_eq_false_iff_eq, ne_eq, Decidable.not_not, Int.not_lt, Int.not_le, gt_iff_lt, ge_iff_le, Bool.true_eq_false, Bool.false_eq_true, not_true_eq_false, not_false_eq_true] at h1p
    refine wp_exit ?_
    refine x_then (x_then (x_eq ?_))
    refine n_then ?_
    have S := S.nil
    refine wp_seq ?_
    -- region 7 slices.go:113
    refine wp_region_lit ?_
    refine wl_of (op_y (wn rfl) rfl rfl S (y_assign rfl S rfl) fun a S => ?_)
    refine wpList_nil ?_
    refine n_then ?_
    refine wp_ret ?_
    refine ret1 rfl S rfl ?_
    obtain rfl : k = xs.length := by omega
    exact ⟨_, rfl, .inl ⟨rfl, fun j h => hpr j h h, hJ⟩⟩
/-- slices.ContainsFunc[[]foyer/api.Reading,foyer/api.Reading] -/
theorem containsFunc_spec {α : Type} (v : Value) (enc : α → List Value) (xs : List α) (f : FuncId) (cap : List Value) (he : Enters Try.prog f) (pr : α → Bool) (J : Nat → World → Prop) (w0 : World) (hst : ∀ j, Stable (J j)) (hsl : ∀ j w, J j w → IsSl w v 3 enc xs)
    (hstep : ∀ j (h : j < xs.length) w, J j w → Ret Try.prog f ([Value.agg (enc xs[j]).toArray] ++ cap).toArray w (fun u w' => u = .bool (pr xs[j]) ∧ J (j + 1) w')) (h0 : J 0 w0) :
    Ret Try.prog 19 #[v, .func (.func f) #[] cap.toArray] w0 (fun u w => u = .bool (xs.any pr) ∧ ∃ j, J j w ∧ (xs.any pr = false → j = xs.length)) := by
  refine ret_of_wp (n := 9) Try.func19 rfl rfl rfl (fl := [(0, v), (1, .func (.func f) #[] cap.toArray)]) rfl (fun a S => ?_)
  have H := HSat.any w0
  refine wp_seq ?_
  -- region 0 slices.go:124
  refine wp_region_lit ?_
  refine wl_of (op_y (wn rfl) rfl rfl S (y_assign rfl S rfl) fun a S => ?_)
  refine wpList_nil ?_
  refine n_then ?_
  refine wp_seq ?_
  -- region 1 slices.go:125
  refine wp_region_lit ?_
  refine wl_of (op_y (wn rfl) rfl rfl S (y_move rfl S rfl) fun a S => ?_)
  refine wl_of (op_y (wn rfl) rfl rfl S (y_move rfl S rfl) fun a S => ?_)
  refine wl_of (op_call (wn rfl) rfl rfl S (co_func rfl Try.call22 S rfl) (indexFunc_spec v enc xs f cap he pr J _ hst hsl hstep h0) fun v w hc a S => ?_)
  obtain ⟨i, rfl, hres⟩ := hc
  have H := HSat.any w
  refine wl_of (op_y (wn rfl) rfl rfl S (y_bin rfl S rfl rfl rfl) fun a S => ?_)
  refine wl_of (op_y (wn rfl) rfl rfl S (y_assign rfl S rfl) fun a S => ?_)
  refine wpList_nil ?_
  refine n_then ?_
  have S := S.nil.cons S 4 rfl
  refine wp_ret ?_
  refine ret1 rfl S rfl ?_
  rcases hres with ⟨rfl, hno, hJ⟩ | ⟨j, hj, rfl, hyes, _, hJ⟩
  · have hf : xs.any pr = false := by rw [List.any_eq_false]; intro x hx; obtain ⟨j, hj, rfl⟩ := List.getElem_of_mem hx; simp [hno j hj]
    exact ⟨by rw [hf]; rfl, _, hJ, fun _ => rfl⟩
  · have hf : xs.any pr = true := List.any_eq_true.2 ⟨_, List.getElem_mem hj, hyes⟩
    exact ⟨by rw [hf]; simp, _, hJ, fun h => by rw [hf] at h; cases h⟩

end Go.Proofs.Ytfblnfkphdimjaa
