/- The walks. No condition. -/
import Derived.Test.YtgplcgfdaoenfaaChecked
import Derived.Test.YtgplcgfdaoenfaaGwCut
import Derived.Test.YtgplcgfdaoenfaaFacts
import Derived.Test.YtgplcgfdaoenfaaPlain
import Derived.Test.YtgplcgfdaoenfaaW7
namespace Go.Proofs.Ytgplcgfdaoenfaa
open Go Go.Gw
set_option linter.unusedVariables false
set_option linter.unusedSimpArgs false
/-- (*foyer/foyerref21.Room).Called -/
theorem rcalled_nil (now : Int) (w0 : World) :
    Ret Try.prog 14 #[.pointer none, .int .i64 now] w0 (fun u w => HSat No w0 [OSl 3 u 1 encI []] w) := by
  refine ret_of_wp (nt := 48) Try.func14 rfl rfl rfl (fl := [(0, .pointer none), (1, .int .i64 now)]) rfl (fun a S => ?_)
  have H := HSat.start w0
  refine g_seq ?_
  -- region 0 ref.go:47
  refine g_region ?_
  refine wl_of (op_y (wn rfl) rfl rfl S (y_assign rfl S rfl) fun a S => ?_)
  refine gl_nil ?_
  refine n_then ?_
  refine g_seq ?_
  -- region 1 ref.go:48
  refine g_region ?_
  refine wl_of (op_y (wn rfl) rfl rfl S (y_assign rfl S rfl) fun a S => ?_)
  refine gl_nil ?_
  refine n_then ?_
  refine g_seq ?_
  refine g_seq ?_
  -- region 2 ref.go:49
  refine g_region ?_
  refine wl_of (op_y (wn rfl) rfl rfl S (y_move rfl S rfl) fun a S => ?_)
  refine wl_of (op_y (wn rfl) rfl rfl S (y_eqp rfl Try.underlying29 S rfl rfl) fun a S => ?_)
  refine gl_nil ?_
  refine n_then ?_
  -- cond 1
  refine c_if S rfl (fun h1 => ?_) (fun h1 => ?_)
  · have h1p := h1; try simp only [Option.isNone_some, Option.isNone_none, Option.isSome_some, Option.isSome_none, false_or, or_false, true_and, and_true, decide_eq_true_eq, decide_eq_false_iff_not, Bool.or_eq_true, Bool.and_eq_true, Bool.or_eq_false_iff, Bool.and_eq_false_iff, Bool.not_eq_true', Bool.not_eq_false', bne_iff_ne, beq_iff_eq, beq_eq_false_iff_ne, bne_eq_false_iff_eq, ne_eq, Decidable.not_not, Int.not_lt, Int.not_le, gt_iff_lt, ge_iff_le, Bool.true_eq_false, Bool.false_eq_true, not_true_eq_false, not_false_eq_true] at h1p
    refine g_seq ?_
    -- region 3 ref.go:50
    refine g_region ?_
    refine wl_of (op_y (wn rfl) rfl rfl S (y_assign rfl S rfl) fun a S => ?_)
    refine gl_nil ?_
    refine n_then ?_
    refine g_ret ?_
    refine r_then (ret1 rfl S rfl ?_)
    exact (H.nilO 3 1 encI).take [OSl 3 (.slice none 0 0) 1 encI []]
  · have h1p := h1; try simp only [Option.isNone_some, Option.isNone_none, Option.isSome_some, Option.isSome_none, false_or, or_false, true_and, and_true, decide_eq_true_eq, decide_eq_false_iff_not, Bool.or_eq_true, Bool.and_eq_true, Bool.or_eq_false_iff, Bool.and_eq_false_iff, Bool.not_eq_true', Bool.not_eq_false', bne_iff_ne, beq_iff_eq, beq_eq_false_iff_ne, bne_eq_false_iff_eq, ne_eq, Decidable.not_not, Int.not_lt, Int.not_le, gt_iff_lt, ge_iff_le, Bool.true_eq_false, Bool.false_eq_true, not_true_eq_false, not_false_eq_true] at h1p
    all_goals (
      exact absurd h1 (by simp))
/-- (*foyer/foyerref21.Room).Served -/
theorem rserved_nil (w0 : World) :
    Ret Try.prog 16 #[.pointer none] w0 (fun u w => HSat No w0 [OSl 3 u 1 encI []] w) := by
  refine ret_of_wp (nt := 9) Try.func16 rfl rfl rfl (fl := [(0, .pointer none)]) rfl (fun a S => ?_)
  have H := HSat.start w0
  refine g_seq ?_
  -- region 0 ref.go:97
  refine g_region ?_
  refine wl_of (op_y (wn rfl) rfl rfl S (y_assign rfl S rfl) fun a S => ?_)
  refine gl_nil ?_
  refine n_then ?_
  refine g_seq ?_
  refine g_seq ?_
  -- region 1 ref.go:98
  refine g_region ?_
  refine wl_of (op_y (wn rfl) rfl rfl S (y_move rfl S rfl) fun a S => ?_)
  refine wl_of (op_y (wn rfl) rfl rfl S (y_eqp rfl Try.underlying29 S rfl rfl) fun a S => ?_)
  refine gl_nil ?_
  refine n_then ?_
  -- cond 1
  refine c_if S rfl (fun h1 => ?_) (fun h1 => ?_)
  · have h1p := h1; try simp only [Option.isNone_some, Option.isNone_none, Option.isSome_some, Option.isSome_none, false_or, or_false, true_and, and_true, decide_eq_true_eq, decide_eq_false_iff_not, Bool.or_eq_true, Bool.and_eq_true, Bool.or_eq_false_iff, Bool.and_eq_false_iff, Bool.not_eq_true', Bool.not_eq_false', bne_iff_ne, beq_iff_eq, beq_eq_false_iff_ne, bne_eq_false_iff_eq, ne_eq, Decidable.not_not, Int.not_lt, Int.not_le, gt_iff_lt, ge_iff_le, Bool.true_eq_false, Bool.false_eq_true, not_true_eq_false, not_false_eq_true] at h1p
    refine g_seq ?_
    -- region 2 ref.go:99
    refine g_region ?_
    refine wl_of (op_y (wn rfl) rfl rfl S (y_assign rfl S rfl) fun a S => ?_)
    refine gl_nil ?_
    refine n_then ?_
    refine g_ret ?_
    refine r_then (ret1 rfl S rfl ?_)
    exact (H.nilO 3 1 encI).take [OSl 3 (.slice none 0 0) 1 encI []]
  · have h1p := h1; try simp only [Option.isNone_some, Option.isNone_none, Option.isSome_some, Option.isSome_none, false_or, or_false, true_and, and_true, decide_eq_true_eq, decide_eq_false_iff_not, Bool.or_eq_true, Bool.and_eq_true, Bool.or_eq_false_iff, Bool.and_eq_false_iff, Bool.not_eq_true', Bool.not_eq_false', bne_iff_ne, beq_iff_eq, beq_eq_false_iff_ne, bne_eq_false_iff_eq, ne_eq, Decidable.not_not, Int.not_lt, Int.not_le, gt_iff_lt, ge_iff_le, Bool.true_eq_false, Bool.false_eq_true, not_true_eq_false, not_false_eq_true] at h1p
    all_goals (
      exact absurd h1 (by simp))
/-- (*foyer/foyerref21.Room).Served -/
theorem rserved_spec {M : Nat → Prop} {u0 : World} {l : List Atom} (b : Nat) (vo vt vs vd : Value) (r : RM) (N : Nat) (w0 : World) (h00 : HSat M u0 (RRoomA b vo vt vs r vd :: l) w0) (hw : r.WF N) :
    Ret Try.prog 16 #[.pointer (some ⟨b, 0, none⟩)] w0 (fun u w => u = vd ∧ Ext w0 w) := by
  refine ret_of_wp (nt := 9) Try.func16 rfl rfl rfl (fl := [(0, .pointer (some ⟨b, 0, none⟩))]) rfl (fun a S => ?_)
  have h0 : HSat M u0 (RRoomL b vo vt vs vd r ++ l) w0 := h00.unfold
  have H := rroomReads h0
  refine g_seq ?_
  -- region 0 ref.go:97
  refine g_region ?_
  refine wl_of (op_y (wn rfl) rfl rfl S (y_assign rfl S rfl) fun a S => ?_)
  refine gl_nil ?_
  refine n_then ?_
  refine g_seq ?_
  refine g_seq ?_
  -- region 1 ref.go:98
  refine g_region ?_
  refine wl_of (op_y (wn rfl) rfl rfl S (y_move rfl S rfl) fun a S => ?_)
  refine wl_of (op_y (wn rfl) rfl rfl S (y_eqp rfl Try.underlying29 S rfl rfl) fun a S => ?_)
  refine gl_nil ?_
  refine n_then ?_
  -- cond 1
  refine c_if S rfl (fun h1 => ?_) (fun h1 => ?_)
  · have h1p := h1; try simp only [Option.isNone_some, Option.isNone_none, Option.isSome_some, Option.isSome_none, false_or, or_false, true_and, and_true, decide_eq_true_eq, decide_eq_false_iff_not, Bool.or_eq_true, Bool.and_eq_true, Bool.or_eq_false_iff, Bool.and_eq_false_iff, Bool.not_eq_true', Bool.not_eq_false', bne_iff_ne, beq_iff_eq, beq_eq_false_iff_ne, bne_eq_false_iff_eq, ne_eq, Decidable.not_not, Int.not_lt, Int.not_le, gt_iff_lt, ge_iff_le, Bool.true_eq_false, Bool.false_eq_true, not_true_eq_false, not_false_eq_true] at h1p
    all_goals (
      exact absurd h1 (by simp))
  · have h1p := h1; try simp only [Option.isNone_some, Option.isNone_none, Option.isSome_some, Option.isSome_none, false_or, or_false, true_and, and_true, decide_eq_true_eq, decide_eq_false_iff_not, Bool.or_eq_true, Bool.and_eq_true, Bool.or_eq_false_iff, Bool.and_eq_false_iff, Bool.not_eq_true', Bool.not_eq_false', bne_iff_ne, beq_iff_eq, beq_eq_false_iff_ne, bne_eq_false_iff_eq, ne_eq, Decidable.not_not, Int.not_lt, Int.not_le, gt_iff_lt, ge_iff_le, Bool.true_eq_false, Bool.false_eq_true, not_true_eq_false, not_false_eq_true] at h1p
    refine g_skip ?_
    refine n_then ?_
    refine g_seq ?_
    -- region 3 ref.go:101
    refine g_region ?_
    refine wl_of (op_y (wn rfl) rfl rfl S (y_move rfl S rfl) fun a S => ?_)
    refine wl_of (op_y (wn rfl) rfl rfl S (y_nilCheck rfl S rfl) fun a S => ?_)
    refine wl_of (op_y (wn rfl) rfl rfl S (y_faddrb rfl Ffo50_3 S rfl) fun a S => ?_)
    refine wl_of (op_y (wn rfl) rfl rfl S (y_load rfl Fsca22 S H rfl rfl) fun a S => ?_)
    refine wl_of (op_y (wn rfl) rfl rfl S (y_assign rfl S rfl) fun a S => ?_)
    refine gl_nil ?_
    refine n_then ?_
    have S := S.nil.cons S 2 rfl
    refine g_ret ?_
    refine ret1 rfl S rfl ?_
    exact ⟨rfl, H.toExt⟩
/-- (*foyer/foyerref21.Room).Serve -/
theorem rserve_nil (i now : Int) (w0 : World) :
    Ret Try.prog 20 #[.pointer none, .int .i64 i, .int .i64 now] w0 (fun u w => u = .int .i64 1 ∧ Ext w0 w) := by
  refine ret_of_wp (nt := 48) Try.func20 rfl rfl rfl (fl := [(0, .pointer none), (1, .int .i64 i), (2, .int .i64 now)]) rfl (fun a S => ?_)
  have H := HSat.start w0
  refine g_seq ?_
  -- region 0 ref.go:61
  refine g_region ?_
  refine wl_of (op_y (wn rfl) rfl rfl S (y_assign rfl S rfl) fun a S => ?_)
  refine gl_nil ?_
  refine n_then ?_
  refine g_seq ?_
  refine g_seq ?_
  -- region 1 ref.go:62
  refine g_region ?_
  refine wl_of (op_y (wn rfl) rfl rfl S (y_move rfl S rfl) fun a S => ?_)
  refine wl_of (op_y (wn rfl) rfl rfl S (y_eqp rfl Try.underlying29 S rfl rfl) fun a S => ?_)
  refine gl_nil ?_
  refine n_then ?_
  -- cond 1
  refine c_if S rfl (fun h1 => ?_) (fun h1 => ?_)
  · have h1p := h1; try simp only [Option.isNone_some, Option.isNone_none, Option.isSome_some, Option.isSome_none, false_or, or_false, true_and, and_true, decide_eq_true_eq, decide_eq_false_iff_not, Bool.or_eq_true, Bool.and_eq_true, Bool.or_eq_false_iff, Bool.and_eq_false_iff, Bool.not_eq_true', Bool.not_eq_false', bne_iff_ne, beq_iff_eq, beq_eq_false_iff_ne, bne_eq_false_iff_eq, ne_eq, Decidable.not_not, Int.not_lt, Int.not_le, gt_iff_lt, ge_iff_le, Bool.true_eq_false, Bool.false_eq_true, not_true_eq_false, not_false_eq_true] at h1p
    refine g_seq ?_
    -- region 2 ref.go:63
    refine g_region ?_
    refine wl_of (op_y (wn rfl) rfl rfl S (y_assign rfl S rfl) fun a S => ?_)
    refine gl_nil ?_
    refine n_then ?_
    refine g_ret ?_
    refine r_then (ret1 rfl S rfl ?_)
    exact ⟨rfl, H.toExt⟩
  · have h1p := h1; try simp only [Option.isNone_some, Option.isNone_none, Option.isSome_some, Option.isSome_none, false_or, or_false, true_and, and_true, decide_eq_true_eq, decide_eq_false_iff_not, Bool.or_eq_true, Bool.and_eq_true, Bool.or_eq_false_iff, Bool.and_eq_false_iff, Bool.not_eq_true', Bool.not_eq_false', bne_iff_ne, beq_iff_eq, beq_eq_false_iff_ne, bne_eq_false_iff_eq, ne_eq, Decidable.not_not, Int.not_lt, Int.not_le, gt_iff_lt, ge_iff_le, Bool.true_eq_false, Bool.false_eq_true, not_true_eq_false, not_false_eq_true] at h1p
    all_goals (
      exact absurd h1 (by simp))
/-- (*foyer/foyerref21.Room).Leave -/
theorem rleave_nil (i : Int) (w0 : World) :
    Ret Try.prog 18 #[.pointer none, .int .i64 i] w0 (fun u w => u = .int .i64 1 ∧ Ext w0 w) := by
  refine ret_of_wp (nt := 27) Try.func18 rfl rfl rfl (fl := [(0, .pointer none), (1, .int .i64 i)]) rfl (fun a S => ?_)
  have H := HSat.start w0
  refine g_seq ?_
  -- region 0 ref.go:81
  refine g_region ?_
  refine wl_of (op_y (wn rfl) rfl rfl S (y_assign rfl S rfl) fun a S => ?_)
  refine gl_nil ?_
  refine n_then ?_
  refine g_seq ?_
  refine g_seq ?_
  -- region 1 ref.go:82
  refine g_region ?_
  refine wl_of (op_y (wn rfl) rfl rfl S (y_move rfl S rfl) fun a S => ?_)
  refine wl_of (op_y (wn rfl) rfl rfl S (y_eqp rfl Try.underlying29 S rfl rfl) fun a S => ?_)
  refine gl_nil ?_
  refine n_then ?_
  -- cond 1
  refine c_if S rfl (fun h1 => ?_) (fun h1 => ?_)
  · have h1p := h1; try simp only [Option.isNone_some, Option.isNone_none, Option.isSome_some, Option.isSome_none, false_or, or_false, true_and, and_true, decide_eq_true_eq, decide_eq_false_iff_not, Bool.or_eq_true, Bool.and_eq_true, Bool.or_eq_false_iff, Bool.and_eq_false_iff, Bool.not_eq_true', Bool.not_eq_false', bne_iff_ne, beq_iff_eq, beq_eq_false_iff_ne, bne_eq_false_iff_eq, ne_eq, Decidable.not_not, Int.not_lt, Int.not_le, gt_iff_lt, ge_iff_le, Bool.true_eq_false, Bool.false_eq_true, not_true_eq_false, not_false_eq_true] at h1p
    refine g_seq ?_
    -- region 2 ref.go:83
    refine g_region ?_
    refine wl_of (op_y (wn rfl) rfl rfl S (y_assign rfl S rfl) fun a S => ?_)
    refine gl_nil ?_
    refine n_then ?_
    refine g_ret ?_
    refine r_then (ret1 rfl S rfl ?_)
    exact ⟨rfl, H.toExt⟩
  · have h1p := h1; try simp only [Option.isNone_some, Option.isNone_none, Option.isSome_some, Option.isSome_none, false_or, or_false, true_and, and_true, decide_eq_true_eq, decide_eq_false_iff_not, Bool.or_eq_true, Bool.and_eq_true, Bool.or_eq_false_iff, Bool.and_eq_false_iff, Bool.not_eq_true', Bool.not_eq_false', bne_iff_ne, beq_iff_eq, beq_eq_false_iff_ne, bne_eq_false_iff_eq, ne_eq, Decidable.not_not, Int.not_lt, Int.not_le, gt_iff_lt, ge_iff_le, Bool.true_eq_false, Bool.false_eq_true, not_true_eq_false, not_false_eq_true] at h1p
    all_goals (
      exact absurd h1 (by simp))
set_option maxHeartbeats 2000000 in
/-- foyer/foyerref21.New -/
theorem rnew_spec (v : Value) (order : List Int) (width span from_ : Int) (w0 : World) (hv : IsSl w0 v 1 encI order) :
    Ret Try.prog 11 #[v, .int .i64 width, .int .i64 span, .int .i64 from_] w0 (fun u w => (newOK order width span from_ = false ∧ u = .tuple #[.pointer none, .int .i64 1] ∧ Ext w0 w) ∨ (newOK order width span from_ = true ∧ ∃ b vo vt vs vd, u = .tuple #[.pointer (some ⟨b, 0, none⟩), .int .i64 0] ∧ HSat No w0 [RRoomA b vo vt vs (newRM order width span from_) vd] w)) := by
  refine ret_of_wp (nt := 97) Try.func11 rfl rfl rfl (fl := [(0, v), (1, .int .i64 width), (2, .int .i64 span), (3, .int .i64 from_)]) rfl (fun a S => ?_)
  have H := HSat.start w0
  have H := H.ro0 (Sl v 1 encI order) rfl (hv)
  refine g_seq ?_
  -- region 0 ref.go:15
  refine g_region ?_
  refine wl_of (op_y (wn rfl) rfl rfl S (y_assign rfl S rfl) fun a S => ?_)
  refine wl_of (op_y (wn rfl) rfl rfl S (y_assign rfl S rfl) fun a S => ?_)
  refine gl_nil ?_
  refine n_then ?_
  refine g_seq ?_
  refine g_seq ?_
  -- region 1 ref.go:16
  refine g_region ?_
  refine wl_of (op_y (wn rfl) rfl rfl S (y_move rfl S rfl) fun a S => ?_)
  refine wl_of (op_y (wn rfl) rfl rfl S (y_lens rfl Try.underlying22 S H rfl) fun a S => ?_)
  refine wl_of (op_y (wn rfl) rfl rfl S (y_bin rfl S rfl rfl rfl) fun a S => ?_)
  refine wl_of (op_y (wn rfl) rfl rfl S (y_move rfl S rfl) fun a S => ?_)
  refine' wl_or 2 17 rfl S H rfl rfl rfl rfl rfl rfl rfl (fun _ S => (wn rfl)) (fun h1 kk => ?yh1) (fun a w S H => ?_)
  case yh1 =>
    have h1p := h1; try simp only [Option.isNone_some, Option.isNone_none, Option.isSome_some, Option.isSome_none, false_or, or_false, true_and, and_true, decide_eq_true_eq, decide_eq_false_iff_not, Bool.or_eq_true, Bool.and_eq_true, Bool.or_eq_false_iff, Bool.and_eq_false_iff, Bool.not_eq_true', Bool.not_eq_false', bne_iff_ne, beq_iff_eq, beq_eq_false_iff_ne, bne_eq_false_iff_eq, ne_eq, Decidable.not_not, Int.not_lt, Int.not_le, gt_iff_lt, ge_iff_le, Bool.true_eq_false, Bool.false_eq_true, not_true_eq_false, not_false_eq_true] at h1p
    refine wl_of (op_y (wg' 17 rfl rfl S rfl h1 rfl) rfl rfl S (y_move rfl S rfl) fun a S => ?_)
    refine wl_of (op_y (wg' 17 rfl rfl S rfl h1 rfl) rfl rfl S (y_bin rfl S rfl rfl rfl) fun a S => ?_)
    refine wl_of (op_y (wn rfl) rfl rfl S (y_or' rfl h1 S rfl rfl) fun a S => ?_)
    exact kk _ _ (S.join 3 20 rfl rfl) H
  refine wl_of (op_y (wn rfl) rfl rfl S (y_move rfl S rfl) fun a S => ?_)
  refine' wl_or 2 21 rfl S H rfl rfl rfl rfl rfl rfl rfl (fun _ S => (wn rfl)) (fun h2 kk => ?yh2) (fun a w S H => ?_)
  case yh2 =>
    have h2p := h2; try simp only [Option.isNone_some, Option.isNone_none, Option.isSome_some, Option.isSome_none, false_or, or_false, true_and, and_true, decide_eq_true_eq, decide_eq_false_iff_not, Bool.or_eq_true, Bool.and_eq_true, Bool.or_eq_false_iff, Bool.and_eq_false_iff, Bool.not_eq_true', Bool.not_eq_false', bne_iff_ne, beq_iff_eq, beq_eq_false_iff_ne, bne_eq_false_iff_eq, ne_eq, Decidable.not_not, Int.not_lt, Int.not_le, gt_iff_lt, ge_iff_le, Bool.true_eq_false, Bool.false_eq_true, not_true_eq_false, not_false_eq_true] at h2p
    refine wl_of (op_y (wg' 21 rfl rfl S rfl h2 rfl) rfl rfl S (y_move rfl S rfl) fun a S => ?_)
    refine wl_of (op_y (wg' 21 rfl rfl S rfl h2 rfl) rfl rfl S (y_bin rfl S rfl rfl rfl) fun a S => ?_)
    refine wl_of (op_y (wn rfl) rfl rfl S (y_or' rfl h2 S rfl rfl) fun a S => ?_)
    exact kk _ _ (S.join 3 24 rfl rfl) H
  refine wl_of (op_y (wn rfl) rfl rfl S (y_move rfl S rfl) fun a S => ?_)
  refine' wl_or 2 25 rfl S H rfl rfl rfl rfl rfl rfl rfl (fun _ S => (wn rfl)) (fun h3 kk => ?yh3) (fun a w S H => ?_)
  case yh3 =>
    have h3p := h3; try simp only [Option.isNone_some, Option.isNone_none, Option.isSome_some, Option.isSome_none, false_or, or_false, true_and, and_true, decide_eq_true_eq, decide_eq_false_iff_not, Bool.or_eq_true, Bool.and_eq_true, Bool.or_eq_false_iff, Bool.and_eq_false_iff, Bool.not_eq_true', Bool.not_eq_false', bne_iff_ne, beq_iff_eq, beq_eq_false_iff_ne, bne_eq_false_iff_eq, ne_eq, Decidable.not_not, Int.not_lt, Int.not_le, gt_iff_lt, ge_iff_le, Bool.true_eq_false, Bool.false_eq_true, not_true_eq_false, not_false_eq_true] at h3p
    refine wl_of (op_y (wg' 25 rfl rfl S rfl h3 rfl) rfl rfl S (y_move rfl S rfl) fun a S => ?_)
    refine wl_of (op_y (wg' 25 rfl rfl S rfl h3 rfl) rfl rfl S (y_bin rfl S rfl rfl rfl) fun a S => ?_)
    refine wl_of (op_y (wn rfl) rfl rfl S (y_or' rfl h3 S rfl rfl) fun a S => ?_)
    exact kk _ _ (S.join 3 28 rfl rfl) H
  refine wl_of (op_y (wn rfl) rfl rfl S (y_move rfl S rfl) fun a S => ?_)
  refine' wl_or 2 29 rfl S H rfl rfl rfl rfl rfl rfl rfl (fun _ S => (wn rfl)) (fun h4 kk => ?yh4) (fun a w S H => ?_)
  case yh4 =>
    have h4p := h4; try simp only [Option.isNone_some, Option.isNone_none, Option.isSome_some, Option.isSome_none, false_or, or_false, true_and, and_true, decide_eq_true_eq, decide_eq_false_iff_not, Bool.or_eq_true, Bool.and_eq_true, Bool.or_eq_false_iff, Bool.and_eq_false_iff, Bool.not_eq_true', Bool.not_eq_false', bne_iff_ne, beq_iff_eq, beq_eq_false_iff_ne, bne_eq_false_iff_eq, ne_eq, Decidable.not_not, Int.not_lt, Int.not_le, gt_iff_lt, ge_iff_le, Bool.true_eq_false, Bool.false_eq_true, not_true_eq_false, not_false_eq_true] at h4p
    refine wl_of (op_y (wg' 29 rfl rfl S rfl h4 rfl) rfl rfl S (y_move rfl S rfl) fun a S => ?_)
    refine wl_of (op_y (wg' 29 rfl rfl S rfl h4 rfl) rfl rfl S (y_bin rfl S rfl rfl rfl) fun a S => ?_)
    refine wl_of (op_y (wn rfl) rfl rfl S (y_or' rfl h4 S rfl rfl) fun a S => ?_)
    exact kk _ _ (S.join 3 32 rfl rfl) H
  refine wl_of (op_y (wn rfl) rfl rfl S (y_move rfl S rfl) fun a S => ?_)
  refine' wl_or 2 33 rfl S H rfl rfl rfl rfl rfl rfl rfl (fun _ S => (wn rfl)) (fun h5 kk => ?yh5) (fun a w S H => ?_)
  case yh5 =>
    have h5p := h5; try simp only [Option.isNone_some, Option.isNone_none, Option.isSome_some, Option.isSome_none, false_or, or_false, true_and, and_true, decide_eq_true_eq, decide_eq_false_iff_not, Bool.or_eq_true, Bool.and_eq_true, Bool.or_eq_false_iff, Bool.and_eq_false_iff, Bool.not_eq_true', Bool.not_eq_false', bne_iff_ne, beq_iff_eq, beq_eq_false_iff_ne, bne_eq_false_iff_eq, ne_eq, Decidable.not_not, Int.not_lt, Int.not_le, gt_iff_lt, ge_iff_le, Bool.true_eq_false, Bool.false_eq_true, not_true_eq_false, not_false_eq_true] at h5p
    refine wl_of (op_y (wg' 33 rfl rfl S rfl h5 rfl) rfl rfl S (y_move rfl S rfl) fun a S => ?_)
    refine wl_of (op_y (wg' 33 rfl rfl S rfl h5 rfl) rfl rfl S (y_bin rfl S rfl rfl rfl) fun a S => ?_)
    refine wl_of (op_y (wn rfl) rfl rfl S (y_or' rfl h5 S rfl rfl) fun a S => ?_)
    exact kk _ _ (S.join 3 36 rfl rfl) H
  refine wl_of (op_y (wn rfl) rfl rfl S (y_move rfl S rfl) fun a S => ?_)
  refine' wl_or 2 37 rfl S H rfl rfl rfl rfl rfl rfl rfl (fun _ S => (wn rfl)) (fun h6 kk => ?yh6) (fun a w S H => ?_)
  case yh6 =>
    have h6p := h6; try simp only [Option.isNone_some, Option.isNone_none, Option.isSome_some, Option.isSome_none, false_or, or_false, true_and, and_true, decide_eq_true_eq, decide_eq_false_iff_not, Bool.or_eq_true, Bool.and_eq_true, Bool.or_eq_false_iff, Bool.and_eq_false_iff, Bool.not_eq_true', Bool.not_eq_false', bne_iff_ne, beq_iff_eq, beq_eq_false_iff_ne, bne_eq_false_iff_eq, ne_eq, Decidable.not_not, Int.not_lt, Int.not_le, gt_iff_lt, ge_iff_le, Bool.true_eq_false, Bool.false_eq_true, not_true_eq_false, not_false_eq_true] at h6p
    refine wl_of (op_y (wg' 37 rfl rfl S rfl h6 rfl) rfl rfl S (y_move rfl S rfl) fun a S => ?_)
    refine wl_of (op_y (wg' 37 rfl rfl S rfl h6 rfl) rfl rfl S (y_bin rfl S rfl rfl rfl) fun a S => ?_)
    refine wl_of (op_y (wn rfl) rfl rfl S (y_or' rfl h6 S rfl rfl) fun a S => ?_)
    exact kk _ _ (S.join 3 40 rfl rfl) H
  refine gl_nil ?_
  refine n_then ?_
  have S := ((((((S.nil.cons S 3 rfl).cons S 2 rfl).cons S 1 rfl).cons S 0 rfl).cons S 8 rfl).cons S 9 rfl).cons S 40 rfl
  -- cond 1
  refine c_if S rfl (fun h7 => ?_) (fun h7 => ?_)
  · have h7p := h7; try simp only [Option.isNone_some, Option.isNone_none, Option.isSome_some, Option.isSome_none, false_or, or_false, true_and, and_true, decide_eq_true_eq, decide_eq_false_iff_not, Bool.or_eq_true, Bool.and_eq_true, Bool.or_eq_false_iff, Bool.and_eq_false_iff, Bool.not_eq_true', Bool.not_eq_false', bne_iff_ne, beq_iff_eq, beq_eq_false_iff_ne, bne_eq_false_iff_eq, ne_eq, Decidable.not_not, Int.not_lt, Int.not_le, gt_iff_lt, ge_iff_le, Bool.true_eq_false, Bool.false_eq_true, not_true_eq_false, not_false_eq_true] at h7p
    have hba : badArgs order width span from_ = true := h7
    refine g_seq ?_
    -- region 2 ref.go:17
    refine g_region ?_
    refine wl_of (op_y (wn rfl) rfl rfl S (y_assign rfl S rfl) fun a S => ?_)
    refine wl_of (op_y (wn rfl) rfl rfl S (y_assign rfl S rfl) fun a S => ?_)
    refine gl_nil ?_
    refine n_then ?_
    refine g_ret ?_
    refine r_then (ret2 rfl S rfl rfl ?_)
    exact .inl ⟨new_args hba, rfl, H.toExt⟩
  · have h7p := h7; try simp only [Option.isNone_some, Option.isNone_none, Option.isSome_some, Option.isSome_none, false_or, or_false, true_and, and_true, decide_eq_true_eq, decide_eq_false_iff_not, Bool.or_eq_true, Bool.and_eq_true, Bool.or_eq_false_iff, Bool.and_eq_false_iff, Bool.not_eq_true', Bool.not_eq_false', bne_iff_ne, beq_iff_eq, beq_eq_false_iff_ne, bne_eq_false_iff_eq, ne_eq, Decidable.not_not, Int.not_lt, Int.not_le, gt_iff_lt, ge_iff_le, Bool.true_eq_false, Bool.false_eq_true, not_true_eq_false, not_false_eq_true] at h7p
    have hba : badArgs order width span from_ = false := h7
    have hnum := nums_of hba
    have hnl := hnum.len
    refine g_skip ?_
    refine n_then ?_
    refine g_seq ?_
    refine g_seq ?_
    -- region 3 ref.go:19
    refine g_region ?_
    refine wl_of (op_y (wn rfl) rfl rfl S (y_assign rfl S rfl) fun a S => ?_)
    refine gl_nil ?_
    refine n_then ?_
    refine g_block ?_
    -- slots written in the loop and forgotten at its head: [8, 9]
    have SU := (((S.nil.cons S 3 rfl).cons S 2 rfl).cons S 1 rfl).cons S 0 rfl
    refine loop_k (X := Nat) SU (fun k => [(10, .int .i64 (k : Int))]) (fun k => k ≤ order.length ∧ (∀ x ∈ order.take k, 0 ≤ x) ∧ (order.take k).Nodup) (fun k => order.length - k) 0 (S.nil.cons S 10 rfl) H (⟨by omega, by simp, by simp⟩) (fun k a w S H hi => ?_)
    simp only [List.cons_append, List.nil_append] at S hi
    obtain ⟨hk, hnn, hnd⟩ := hi
    refine g_seq ?_
    refine g_seq ?_
    -- region 4 ref.go:19
    refine g_region ?_
    refine wl_of (op_y (wn rfl) rfl rfl S (y_move rfl S rfl) fun a S => ?_)
    refine wl_of (op_y (wn rfl) rfl rfl S (y_move rfl S rfl) fun a S => ?_)
    refine wl_of (op_y (wn rfl) rfl rfl S (y_lens rfl Try.underlying22 S H rfl) fun a S => ?_)
    refine wl_of (op_y (wn rfl) rfl rfl S (y_bin rfl S rfl rfl rfl) fun a S => ?_)
    refine gl_nil ?_
    refine n_then ?_
    -- cond 2
    refine c_if S rfl (fun h8 => ?_) (fun h8 => ?_)
    · have h8p := h8; try simp only [Option.isNone_some, Option.isNone_none, Option.isSome_some, Option.isSome_none, false_or, or_false, true_and, and_true, decide_eq_true_eq, decide_eq_false_iff_not, Bool.or_eq_true, Bool.and_eq_true, Bool.or_eq_false_iff, Bool.and_eq_false_iff, Bool.not_eq_true', Bool.not_eq_false', bne_iff_ne, beq_iff_eq, beq_eq_false_iff_ne, bne_eq_false_iff_eq, ne_eq, Decidable.not_not, Int.not_lt, Int.not_le, gt_iff_lt, ge_iff_le, Bool.true_eq_false, Bool.false_eq_true, not_true_eq_false, not_false_eq_true] at h8p
      refine g_skip ?_
      refine n_then ?_
      refine g_seq ?_
      refine g_block ?_
      refine g_seq ?_
      refine g_seq ?_
      -- region 6 ref.go:20
      refine g_region ?_
      refine wl_of (op_y (wn rfl) rfl rfl S (y_move rfl S rfl) fun a S => ?_)
      refine wl_of (op_y (wn rfl) rfl rfl S (y_move rfl S rfl) fun a S => ?_)
      refine wl_of (op_y (wn rfl) rfl rfl S (y_iaddrn rfl Try.underlying22 Fsiz3 S H rfl rfl (by first | assumption | omega | (simp only [List.length_append, List.length_take, List.length_drop, List.length_replicate, List.length_set, List.length_map, List.length_cons, List.length_nil]; omega))) fun a S => ?_)
      refine wl_of (op_y (wn rfl) rfl rfl S (y_loads _ rfl Fsca3 S H rfl (by first | assumption | omega | (simp only [List.length_append, List.length_take, List.length_drop, List.length_replicate, List.length_set, List.length_map, List.length_cons, List.length_nil]; omega)) rfl) fun a S => ?_)
      refine wl_of (op_y (wn rfl) rfl rfl S (y_bin rfl S rfl rfl rfl) fun a S => ?_)
      refine gl_nil ?_
      refine n_then ?_
      -- cond 3
      refine c_if S rfl (fun h9 => ?_) (fun h9 => ?_)
      · have h9p := h9; try simp only [Option.isNone_some, Option.isNone_none, Option.isSome_some, Option.isSome_none, false_or, or_false, true_and, and_true, decide_eq_true_eq, decide_eq_false_iff_not, Bool.or_eq_true, Bool.and_eq_true, Bool.or_eq_false_iff, Bool.and_eq_false_iff, Bool.not_eq_true', Bool.not_eq_false', bne_iff_ne, beq_iff_eq, beq_eq_false_iff_ne, bne_eq_false_iff_eq, ne_eq, Decidable.not_not, Int.not_lt, Int.not_le, gt_iff_lt, ge_iff_le, Bool.true_eq_false, Bool.false_eq_true, not_true_eq_false, not_false_eq_true] at h9p
        refine g_seq ?_
        -- region 7 ref.go:21
        refine g_region ?_
        refine wl_of (op_y (wn rfl) rfl rfl S (y_assign rfl S rfl) fun a S => ?_)
        refine wl_of (op_y (wn rfl) rfl rfl S (y_assign rfl S rfl) fun a S => ?_)
        refine gl_nil ?_
        refine n_then ?_
        refine g_ret ?_
        refine r_then (r_block (r_then (r_then (r_block (r_then (ret2 rfl S rfl rfl ?_))))))
        exact .inl ⟨new_neg k (by omega) (.inl (by omega)), rfl, H.toExt⟩
      · have h9p := h9; try simp only [Option.isNone_some, Option.isNone_none, Option.isSome_some, Option.isSome_none, false_or, or_false, true_and, and_true, decide_eq_true_eq, decide_eq_false_iff_not, Bool.or_eq_true, Bool.and_eq_true, Bool.or_eq_false_iff, Bool.and_eq_false_iff, Bool.not_eq_true', Bool.not_eq_false', bne_iff_ne, beq_iff_eq, beq_eq_false_iff_ne, bne_eq_false_iff_eq, ne_eq, Decidable.not_not, Int.not_lt, Int.not_le, gt_iff_lt, ge_iff_le, Bool.true_eq_false, Bool.false_eq_true, not_true_eq_false, not_false_eq_true] at h9p
        refine g_skip ?_
        refine n_then ?_
        refine g_seq ?_
        -- region 8 ref.go:23
        refine g_region ?_
        refine wl_of (op_y (wn rfl) rfl rfl S (y_assign rfl S rfl) fun a S => ?_)
        refine gl_nil ?_
        refine n_then ?_
        refine g_block ?_
        have SU := (((((((((((((S.nil.cons S 3 rfl).cons S 2 rfl).cons S 1 rfl).cons S 0 rfl).cons S 10 rfl).cons S 41 rfl).cons S 42 rfl).cons S 43 rfl).cons S 44 rfl).cons S 47 rfl).cons S 48 rfl).cons S 49 rfl).cons S 50 rfl).cons S 51 rfl
        refine loop_k (X := Nat) SU (fun j => [(11, .int .i64 (j : Int))]) (fun j => j ≤ k ∧ ∀ q (h : q < order.length), q < j → order[q] ≠ order[k]) (fun j => k - j) 0 (S.nil.cons S 11 rfl) H (⟨by omega, fun q h hq => by omega⟩) (fun j a w S H hi => ?_)
        simp only [List.cons_append, List.nil_append] at S hi
        obtain ⟨hj, hne⟩ := hi
        refine g_seq ?_
        refine g_seq ?_
        -- region 9 ref.go:23
        refine g_region ?_
        refine wl_of (op_y (wn rfl) rfl rfl S (y_move rfl S rfl) fun a S => ?_)
        refine wl_of (op_y (wn rfl) rfl rfl S (y_move rfl S rfl) fun a S => ?_)
        refine wl_of (op_y (wn rfl) rfl rfl S (y_bin rfl S rfl rfl rfl) fun a S => ?_)
        refine gl_nil ?_
        refine n_then ?_
        -- cond 4
        refine c_if S rfl (fun h10 => ?_) (fun h10 => ?_)
        · have h10p := h10; try simp only [Option.isNone_some, Option.isNone_none, Option.isSome_some, Option.isSome_none, false_or, or_false, true_and, and_true, decide_eq_true_eq, decide_eq_false_iff_not, Bool.or_eq_true, Bool.and_eq_true, Bool.or_eq_false_iff, Bool.and_eq_false_iff, Bool.not_eq_true', Bool.not_eq_false', bne_iff_ne, beq_iff_eq, beq_eq_false_iff_ne, bne_eq_false_iff_eq, ne_eq, Decidable.not_not, Int.not_lt, Int.not_le, gt_iff_lt, ge_iff_le, Bool.true_eq_false, Bool.false_eq_true, not_true_eq_false, not_false_eq_true] at h10p
          refine g_skip ?_
          refine n_then ?_
          refine g_seq ?_
          refine g_block ?_
          refine g_seq ?_
          -- region 11 DRAWS ref.go:24
          refine region_st (loud := []) (tails := []) (free := []) [0, 1, 2, 3, 4, 5, 6, 7, 8] [] Fmo (by kernel_rfl) (by kernel_rfl) rfl H ?_
          refine m_w rfl rfl (wn rfl) rfl rfl S (fun w H => y_move rfl S rfl) fun a S => ?_
          refine m_w rfl rfl (wn rfl) rfl rfl S (fun w H => y_move rfl S rfl) fun a S => ?_
          refine m_w rfl rfl (wn rfl) rfl rfl S (fun w H => y_iaddrn rfl Try.underlying22 Fsiz3 S H rfl rfl (by first | assumption | omega | (simp only [List.length_append, List.length_take, List.length_drop, List.length_replicate, List.length_set, List.length_map, List.length_cons, List.length_nil]; omega))) fun a S => ?_
          refine m_loads _ rfl rfl (wn rfl) rfl rfl S rfl Fsca3 rfl (by first | assumption | omega | (simp only [List.length_append, List.length_take, List.length_drop, List.length_replicate, List.length_set, List.length_map, List.length_cons, List.length_nil]; omega)) rfl fun a S => ?_
          refine m_w rfl rfl (wn rfl) rfl rfl S (fun w H => y_move rfl S rfl) fun a S => ?_
          refine m_w rfl rfl (wn rfl) rfl rfl S (fun w H => y_move rfl S rfl) fun a S => ?_
          refine m_w rfl rfl (wn rfl) rfl rfl S (fun w H => y_iaddrn rfl Try.underlying22 Fsiz3 S H rfl rfl (by first | assumption | omega | (simp only [List.length_append, List.length_take, List.length_drop, List.length_replicate, List.length_set, List.length_map, List.length_cons, List.length_nil]; omega))) fun a S => ?_
          refine m_loads _ rfl rfl (wn rfl) rfl rfl S rfl Fsca3 rfl (by first | assumption | omega | (simp only [List.length_append, List.length_take, List.length_drop, List.length_replicate, List.length_set, List.length_map, List.length_cons, List.length_nil]; omega)) rfl fun a S => ?_
          refine m_w rfl rfl (wn rfl) rfl rfl S (fun w H => y_bin rfl S rfl rfl rfl) fun a S => ?_
          refine m_nil (fun w H => ?_)
          refine n_then ?_
          -- cond 5
          refine c_if S rfl (fun h11 => ?_) (fun h11 => ?_)
          · have h11p := h11; try simp only [Option.isNone_some, Option.isNone_none, Option.isSome_some, Option.isSome_none, false_or, or_false, true_and, and_true, decide_eq_true_eq, decide_eq_false_iff_not, Bool.or_eq_true, Bool.and_eq_true, Bool.or_eq_false_iff, Bool.and_eq_false_iff, Bool.not_eq_true', Bool.not_eq_false', bne_iff_ne, beq_iff_eq, beq_eq_false_iff_ne, bne_eq_false_iff_eq, ne_eq, Decidable.not_not, Int.not_lt, Int.not_le, gt_iff_lt, ge_iff_le, Bool.true_eq_false, Bool.false_eq_true, not_true_eq_false, not_false_eq_true] at h11p
            have hbad : order[k] ∈ order.take k := by
              have e : order[j] = order[k] := by omega
              rw [← e]; exact List.mem_take_iff_getElem.2 ⟨j, by omega, rfl⟩
            refine g_seq ?_
            -- region 12 ref.go:25
            refine g_region ?_
            refine wl_of (op_y (wn rfl) rfl rfl S (y_assign rfl S rfl) fun a S => ?_)
            refine wl_of (op_y (wn rfl) rfl rfl S (y_assign rfl S rfl) fun a S => ?_)
            refine gl_nil ?_
            refine n_then ?_
            refine g_ret ?_
            refine r_block (r_then (r_then (r_block (r_block (r_then (r_then (r_block (r_then (ret2 rfl S rfl rfl ?_)))))))))
            exact .inl ⟨new_neg k (by omega) (.inr hbad), rfl, H.toExt⟩
          · have h11p := h11; try simp only [Option.isNone_some, Option.isNone_none, Option.isSome_some, Option.isSome_none, false_or, or_false, true_and, and_true, decide_eq_true_eq, decide_eq_false_iff_not, Bool.or_eq_true, Bool.and_eq_true, Bool.or_eq_false_iff, Bool.and_eq_false_iff, Bool.not_eq_true', Bool.not_eq_false', bne_iff_ne, beq_iff_eq, beq_eq_false_iff_ne, bne_eq_false_iff_eq, ne_eq, Decidable.not_not, Int.not_lt, Int.not_le, gt_iff_lt, ge_iff_le, Bool.true_eq_false, Bool.false_eq_true, not_true_eq_false, not_false_eq_true] at h11p
            refine g_skip ?_
            refine n_block ?_
            refine n_then ?_
            -- region 10 ref.go:23
            refine g_region ?_
            refine wl_of (op_y (wn rfl) rfl rfl S (y_move rfl S rfl) fun a S => ?_)
            refine wl_of (op_y (wn rfl) rfl rfl S (y_add rfl S rfl rfl (by omega)) fun a S => ?_)
            refine wl_of (op_y (wn rfl) rfl rfl S (y_assign rfl S rfl) fun a S => ?_)
            refine gl_nil ?_
            refine n_then ?_
            refine ⟨j + 1, S.nil.cons S 11 rfl, (((((((((((((S.nil.cons S 3 rfl).cons S 2 rfl).cons S 1 rfl).cons S 0 rfl).cons S 10 rfl).cons S 41 rfl).cons S 42 rfl).cons S 43 rfl).cons S 44 rfl).cons S 47 rfl).cons S 48 rfl).cons S 49 rfl).cons S 50 rfl).cons S 51 rfl, H, ?_, ?_⟩
            · exact ⟨by omega, fun q h hq => by by_cases hqj : q < j; exact hne q h hqj; (obtain rfl : q = j := by omega); omega⟩
            · omega
        · have h10p := h10; try simp only [Option.isNone_some, Option.isNone_none, Option.isSome_some, Option.isSome_none, false_or, or_false, true_and, and_true, decide_eq_true_eq, decide_eq_false_iff_not, Bool.or_eq_true, Bool.and_eq_true, Bool.or_eq_false_iff, Bool.and_eq_false_iff, Bool.not_eq_true', Bool.not_eq_false', bne_iff_ne, beq_iff_eq, beq_eq_false_iff_ne, bne_eq_false_iff_eq, ne_eq, Decidable.not_not, Int.not_lt, Int.not_le, gt_iff_lt, ge_iff_le, Bool.true_eq_false, Bool.false_eq_true, not_true_eq_false, not_false_eq_true] at h10p
          obtain rfl : j = k := by omega
          have hni : order[j] ∉ order.take j := fun hm => by
            obtain ⟨q, hq, e⟩ := List.getElem_of_mem hm
            simp only [List.length_take] at hq
            rw [List.getElem_take] at e
            exact hne q (by omega) (by omega) e
          refine g_exit ?_
          refine x_then (x_then (x_eq ?_))
          refine n_block ?_
          refine n_then ?_
          -- region 5 ref.go:19
          refine g_region ?_
          refine wl_of (op_y (wn rfl) rfl rfl S (y_move rfl S rfl) fun a S => ?_)
          refine wl_of (op_y (wn rfl) rfl rfl S (y_add rfl S rfl rfl (by omega)) fun a S => ?_)
          refine wl_of (op_y (wn rfl) rfl rfl S (y_assign rfl S rfl) fun a S => ?_)
          refine gl_nil ?_
          refine n_then ?_
          refine ⟨j + 1, S.nil.cons S 10 rfl, (((S.nil.cons S 3 rfl).cons S 2 rfl).cons S 1 rfl).cons S 0 rfl, H, ⟨by omega, fun x hx => ?_, nodup_step order j (by omega) hnd hni⟩, by omega⟩
          rw [List.take_succ_eq_append_getElem (by omega)] at hx
          rcases List.mem_append.1 hx with hx | hx
          · exact hnn x hx
          · simp at hx; subst hx; omega
    · have h8p := h8; try simp only [Option.isNone_some, Option.isNone_none, Option.isSome_some, Option.isSome_none, false_or, or_false, true_and, and_true, decide_eq_true_eq, decide_eq_false_iff_not, Bool.or_eq_true, Bool.and_eq_true, Bool.or_eq_false_iff, Bool.and_eq_false_iff, Bool.not_eq_true', Bool.not_eq_false', bne_iff_ne, beq_iff_eq, beq_eq_false_iff_ne, bne_eq_false_iff_eq, ne_eq, Decidable.not_not, Int.not_lt, Int.not_le, gt_iff_lt, ge_iff_le, Bool.true_eq_false, Bool.false_eq_true, not_true_eq_false, not_false_eq_true] at h8p
      obtain rfl : k = order.length := by omega
      rw [List.take_length] at hnn hnd
      refine g_exit ?_
      refine x_then (x_then (x_eq ?_))
      refine n_then ?_
      have S := (((S.nil.cons S 3 rfl).cons S 2 rfl).cons S 1 rfl).cons S 0 rfl
      refine g_seq ?_
      -- region 13 DRAWS ref.go:29
      -- several orders
      refine cut (fun a w => ∃ b73 b71 vo, St 97 [(0, v), (1, .int .i64 width), (2, .int .i64 span), (3, .int .i64 from_), (12, .pointer (some ⟨b73, 0, none⟩))] a ∧ HSat No w0 [Cel b73 50 [vo, (.slice none 0 0), (.slice (some ⟨b71, 0, none⟩) order.length order.length), .slice none 0 0], OSl 3 (.slice none 0 0) 1 encI ((timesL (newRM order width span from_)).take 0), OSl 3 vo 1 encI order, OSl 3 (.slice (some ⟨b71, 0, none⟩) order.length order.length) 1 encI (List.replicate order.length 0), Sl v 1 encI order] w) ?_ ?_
      · skip
        refine t_st (tails := [2]) Fmo H ?_
        refine t_q 1 rfl (by kernel_rfl) (rem' := [0, 2, 3, 4, 5, 6, 7, 8]) rfl rfl rfl rfl S (fun w H => y_move rfl S rfl) fun a S => ?_
        refine t_p 3 rfl (by kernel_rfl) (rem' := [0, 2, 4, 5, 6, 7, 8]) rfl rfl rfl rfl S (fun w => y_move rfl S rfl) fun a S => ?_
        refine t_b [0, 4] (by kernel_rfl) rfl ?_
        intro i hi; simp only [List.mem_cons, List.not_mem_nil, or_false] at hi; rcases hi with rfl | rfl
        · refine ⟨_, rfl, fun w H => ?_⟩
          refine op_buildSlice (wn rfl) rfl rfl rfl Try.underlying22 Finf3 S H (idx := []) rfl rfl rfl (z := []) (by kernel_rfl) (cs := []) rfl fun b66 a w S H => ?_
          have H := H.celO [] encI 1 (m := 0) rfl (by simp) rfl (by omega)
          refine t_next H (by repeat (first | exact List.Sublist.refl _ | apply List.Sublist.cons)) (rem' := [2, 4, 5, 6, 7, 8]) rfl ?_
          refine t_b [2, 4] (by kernel_rfl) rfl ?_
          intro i hi; simp only [List.mem_cons, List.not_mem_nil, or_false] at hi; rcases hi with rfl | rfl
          · refine ⟨_, rfl, fun w H => ?_⟩
            refine op_appendT (wn rfl) rfl rfl rfl Try.underlying22 Finf3 rfl rfl S H rfl rfl (by simp [encI, Value.oneCell']) (by first | assumption | omega | (simp only [List.length_append, List.length_take, List.length_drop, List.length_replicate, List.length_set, List.length_map, List.length_cons, List.length_nil]; omega)) (by first | assumption | omega | (simp only [List.length_append, List.length_take, List.length_drop, List.length_replicate, List.length_set, List.length_map, List.length_cons, List.length_nil]; omega)) fun u68 a w S H => ?_
            obtain ⟨pu, cu, rfl⟩ := (H.sl u68).shape
            refine t_tail H rfl (rem' := [4, 5, 6, 7, 8]) rfl ?_
            refine t_q 4 rfl (by kernel_rfl) (rem' := [5, 6, 7, 8]) rfl rfl rfl rfl S (fun w H => y_lens rfl Try.underlying22 S H rfl) fun a S => ?_
            refine t_b [5] (by kernel_rfl) rfl ?_
            intro i hi; simp only [List.mem_cons, List.not_mem_nil, or_false] at hi; subst hi
            · refine ⟨_, rfl, fun w H => ?_⟩
              refine op_make (encI) (0) (wn rfl) rfl rfl rfl Try.underlying22 Finf3 rfl rfl S H rfl rfl rfl (by omega) (by omega) fun b71 a w S H => ?_
              refine t_next H (by repeat (first | exact List.Sublist.refl _ | apply List.Sublist.cons)) (rem' := [6, 7, 8]) rfl ?_
              refine t_q 6 rfl (by kernel_rfl) (rem' := [7, 8]) rfl rfl rfl rfl S (fun w H => y_buildf rfl Fbld50 S rfl (idx := [0, 2]) rfl (cs := [.slice pu ([] ++ order).length cu, .slice none 0 0, .slice (some ⟨b71, 0, none⟩) order.length order.length, .slice none 0 0]) (by kernel_rfl)) fun a S => ?_
              refine t_b [7] (by kernel_rfl) rfl ?_
              intro i hi; simp only [List.mem_cons, List.not_mem_nil, or_false] at hi; subst hi
              · refine ⟨_, rfl, fun w H => ?_⟩
                refine op_boxa (wn rfl) rfl rfl rfl S H rfl fun b73 a w S H => ?_
                refine t_next H (by repeat (first | exact List.Sublist.refl _ | apply List.Sublist.cons)) (rem' := [8]) rfl ?_
                refine t_q 8 rfl (by kernel_rfl) (rem' := []) rfl rfl rfl rfl S (fun w H => y_assign rfl S rfl) fun a S => ?_
                refine t_nil (fun w H => ?_)
                exact ⟨b73, b71, _, ((((S.nil.cons S 12 rfl).cons S 3 rfl).cons S 2 rfl).cons S 1 rfl).cons S 0 rfl, ((H.nilO 3 1 encI).pickK [.b b73, .s (.slice none 0 0), .s (.slice pu ([] ++ order).length cu), .s (.slice (some ⟨b71, 0, none⟩) order.length order.length), .s v]).sub (by repeat (first | exact List.Sublist.refl _ | exact List.nil_sublist _ | apply List.Sublist.cons_cons | apply List.Sublist.cons))⟩
          · refine ⟨_, rfl, fun w H => ?_⟩
            refine op_y (wn rfl) rfl rfl S (y_lens rfl Try.underlying22 S H rfl) fun a S => ?_
            refine t_next H (by repeat (first | exact List.Sublist.refl _ | apply List.Sublist.cons)) (rem' := [2, 5, 6, 7, 8]) rfl ?_
            refine t_b [2, 5] (by kernel_rfl) rfl ?_
            intro i hi; simp only [List.mem_cons, List.not_mem_nil, or_false] at hi; rcases hi with rfl | rfl
            · refine ⟨_, rfl, fun w H => ?_⟩
              refine op_appendT (wn rfl) rfl rfl rfl Try.underlying22 Finf3 rfl rfl S H rfl rfl (by simp [encI, Value.oneCell']) (by first | assumption | omega | (simp only [List.length_append, List.length_take, List.length_drop, List.length_replicate, List.length_set, List.length_map, List.length_cons, List.length_nil]; omega)) (by first | assumption | omega | (simp only [List.length_append, List.length_take, List.length_drop, List.length_replicate, List.length_set, List.length_map, List.length_cons, List.length_nil]; omega)) fun u68 a w S H => ?_
              obtain ⟨pu, cu, rfl⟩ := (H.sl u68).shape
              refine t_tail H rfl (rem' := [5, 6, 7, 8]) rfl ?_
              refine t_b [5] (by kernel_rfl) rfl ?_
              intro i hi; simp only [List.mem_cons, List.not_mem_nil, or_false] at hi; subst hi
              · refine ⟨_, rfl, fun w H => ?_⟩
                refine op_make (encI) (0) (wn rfl) rfl rfl rfl Try.underlying22 Finf3 rfl rfl S H rfl rfl rfl (by omega) (by omega) fun b71 a w S H => ?_
                refine t_next H (by repeat (first | exact List.Sublist.refl _ | apply List.Sublist.cons)) (rem' := [6, 7, 8]) rfl ?_
                refine t_q 6 rfl (by kernel_rfl) (rem' := [7, 8]) rfl rfl rfl rfl S (fun w H => y_buildf rfl Fbld50 S rfl (idx := [0, 2]) rfl (cs := [.slice pu ([] ++ order).length cu, .slice none 0 0, .slice (some ⟨b71, 0, none⟩) order.length order.length, .slice none 0 0]) (by kernel_rfl)) fun a S => ?_
                refine t_b [7] (by kernel_rfl) rfl ?_
                intro i hi; simp only [List.mem_cons, List.not_mem_nil, or_false] at hi; subst hi
                · refine ⟨_, rfl, fun w H => ?_⟩
                  refine op_boxa (wn rfl) rfl rfl rfl S H rfl fun b73 a w S H => ?_
                  refine t_next H (by repeat (first | exact List.Sublist.refl _ | apply List.Sublist.cons)) (rem' := [8]) rfl ?_
                  refine t_q 8 rfl (by kernel_rfl) (rem' := []) rfl rfl rfl rfl S (fun w H => y_assign rfl S rfl) fun a S => ?_
                  refine t_nil (fun w H => ?_)
                  exact ⟨b73, b71, _, ((((S.nil.cons S 12 rfl).cons S 3 rfl).cons S 2 rfl).cons S 1 rfl).cons S 0 rfl, ((H.nilO 3 1 encI).pickK [.b b73, .s (.slice none 0 0), .s (.slice pu ([] ++ order).length cu), .s (.slice (some ⟨b71, 0, none⟩) order.length order.length), .s v]).sub (by repeat (first | exact List.Sublist.refl _ | exact List.nil_sublist _ | apply List.Sublist.cons_cons | apply List.Sublist.cons))⟩
            · refine ⟨_, rfl, fun w H => ?_⟩
              refine op_make (encI) (0) (wn rfl) rfl rfl rfl Try.underlying22 Finf3 rfl rfl S H rfl rfl rfl (by omega) (by omega) fun b71 a w S H => ?_
              refine t_next H (by repeat (first | exact List.Sublist.refl _ | apply List.Sublist.cons)) (rem' := [2, 6, 7, 8]) rfl ?_
              refine t_b [2] (by kernel_rfl) rfl ?_
              intro i hi; simp only [List.mem_cons, List.not_mem_nil, or_false] at hi; subst hi
              · refine ⟨_, rfl, fun w H => ?_⟩
                refine op_appendT (wn rfl) rfl rfl rfl Try.underlying22 Finf3 rfl rfl S H rfl rfl (by simp [encI, Value.oneCell']) (by first | assumption | omega | (simp only [List.length_append, List.length_take, List.length_drop, List.length_replicate, List.length_set, List.length_map, List.length_cons, List.length_nil]; omega)) (by first | assumption | omega | (simp only [List.length_append, List.length_take, List.length_drop, List.length_replicate, List.length_set, List.length_map, List.length_cons, List.length_nil]; omega)) fun u68 a w S H => ?_
                obtain ⟨pu, cu, rfl⟩ := (H.sl u68).shape
                refine t_tail H rfl (rem' := [6, 7, 8]) rfl ?_
                refine t_q 6 rfl (by kernel_rfl) (rem' := [7, 8]) rfl rfl rfl rfl S (fun w H => y_buildf rfl Fbld50 S rfl (idx := [0, 2]) rfl (cs := [.slice pu ([] ++ order).length cu, .slice none 0 0, .slice (some ⟨b71, 0, none⟩) order.length order.length, .slice none 0 0]) (by kernel_rfl)) fun a S => ?_
                refine t_b [7] (by kernel_rfl) rfl ?_
                intro i hi; simp only [List.mem_cons, List.not_mem_nil, or_false] at hi; subst hi
                · refine ⟨_, rfl, fun w H => ?_⟩
                  refine op_boxa (wn rfl) rfl rfl rfl S H rfl fun b73 a w S H => ?_
                  refine t_next H (by repeat (first | exact List.Sublist.refl _ | apply List.Sublist.cons)) (rem' := [8]) rfl ?_
                  refine t_q 8 rfl (by kernel_rfl) (rem' := []) rfl rfl rfl rfl S (fun w H => y_assign rfl S rfl) fun a S => ?_
                  refine t_nil (fun w H => ?_)
                  exact ⟨b73, b71, _, ((((S.nil.cons S 12 rfl).cons S 3 rfl).cons S 2 rfl).cons S 1 rfl).cons S 0 rfl, ((H.nilO 3 1 encI).pickK [.b b73, .s (.slice none 0 0), .s (.slice pu ([] ++ order).length cu), .s (.slice (some ⟨b71, 0, none⟩) order.length order.length), .s v]).sub (by repeat (first | exact List.Sublist.refl _ | exact List.nil_sublist _ | apply List.Sublist.cons_cons | apply List.Sublist.cons))⟩
        · refine ⟨_, rfl, fun w H => ?_⟩
          refine op_y (wn rfl) rfl rfl S (y_lens rfl Try.underlying22 S H rfl) fun a S => ?_
          refine t_next H (by repeat (first | exact List.Sublist.refl _ | apply List.Sublist.cons)) (rem' := [0, 2, 5, 6, 7, 8]) rfl ?_
          refine t_b [0, 5] (by kernel_rfl) rfl ?_
          intro i hi; simp only [List.mem_cons, List.not_mem_nil, or_false] at hi; rcases hi with rfl | rfl
          · refine ⟨_, rfl, fun w H => ?_⟩
            refine op_buildSlice (wn rfl) rfl rfl rfl Try.underlying22 Finf3 S H (idx := []) rfl rfl rfl (z := []) (by kernel_rfl) (cs := []) rfl fun b66 a w S H => ?_
            have H := H.celO [] encI 1 (m := 0) rfl (by simp) rfl (by omega)
            refine t_next H (by repeat (first | exact List.Sublist.refl _ | apply List.Sublist.cons)) (rem' := [2, 5, 6, 7, 8]) rfl ?_
            refine t_b [2, 5] (by kernel_rfl) rfl ?_
            intro i hi; simp only [List.mem_cons, List.not_mem_nil, or_false] at hi; rcases hi with rfl | rfl
            · refine ⟨_, rfl, fun w H => ?_⟩
              refine op_appendT (wn rfl) rfl rfl rfl Try.underlying22 Finf3 rfl rfl S H rfl rfl (by simp [encI, Value.oneCell']) (by first | assumption | omega | (simp only [List.length_append, List.length_take, List.length_drop, List.length_replicate, List.length_set, List.length_map, List.length_cons, List.length_nil]; omega)) (by first | assumption | omega | (simp only [List.length_append, List.length_take, List.length_drop, List.length_replicate, List.length_set, List.length_map, List.length_cons, List.length_nil]; omega)) fun u68 a w S H => ?_
              obtain ⟨pu, cu, rfl⟩ := (H.sl u68).shape
              refine t_tail H rfl (rem' := [5, 6, 7, 8]) rfl ?_
              refine t_b [5] (by kernel_rfl) rfl ?_
              intro i hi; simp only [List.mem_cons, List.not_mem_nil, or_false] at hi; subst hi
              · refine ⟨_, rfl, fun w H => ?_⟩
                refine op_make (encI) (0) (wn rfl) rfl rfl rfl Try.underlying22 Finf3 rfl rfl S H rfl rfl rfl (by omega) (by omega) fun b71 a w S H => ?_
                refine t_next H (by repeat (first | exact List.Sublist.refl _ | apply List.Sublist.cons)) (rem' := [6, 7, 8]) rfl ?_
                refine t_q 6 rfl (by kernel_rfl) (rem' := [7, 8]) rfl rfl rfl rfl S (fun w H => y_buildf rfl Fbld50 S rfl (idx := [0, 2]) rfl (cs := [.slice pu ([] ++ order).length cu, .slice none 0 0, .slice (some ⟨b71, 0, none⟩) order.length order.length, .slice none 0 0]) (by kernel_rfl)) fun a S => ?_
                refine t_b [7] (by kernel_rfl) rfl ?_
                intro i hi; simp only [List.mem_cons, List.not_mem_nil, or_false] at hi; subst hi
                · refine ⟨_, rfl, fun w H => ?_⟩
                  refine op_boxa (wn rfl) rfl rfl rfl S H rfl fun b73 a w S H => ?_
                  refine t_next H (by repeat (first | exact List.Sublist.refl _ | apply List.Sublist.cons)) (rem' := [8]) rfl ?_
                  refine t_q 8 rfl (by kernel_rfl) (rem' := []) rfl rfl rfl rfl S (fun w H => y_assign rfl S rfl) fun a S => ?_
                  refine t_nil (fun w H => ?_)
                  exact ⟨b73, b71, _, ((((S.nil.cons S 12 rfl).cons S 3 rfl).cons S 2 rfl).cons S 1 rfl).cons S 0 rfl, ((H.nilO 3 1 encI).pickK [.b b73, .s (.slice none 0 0), .s (.slice pu ([] ++ order).length cu), .s (.slice (some ⟨b71, 0, none⟩) order.length order.length), .s v]).sub (by repeat (first | exact List.Sublist.refl _ | exact List.nil_sublist _ | apply List.Sublist.cons_cons | apply List.Sublist.cons))⟩
            · refine ⟨_, rfl, fun w H => ?_⟩
              refine op_make (encI) (0) (wn rfl) rfl rfl rfl Try.underlying22 Finf3 rfl rfl S H rfl rfl rfl (by omega) (by omega) fun b71 a w S H => ?_
              refine t_next H (by repeat (first | exact List.Sublist.refl _ | apply List.Sublist.cons)) (rem' := [2, 6, 7, 8]) rfl ?_
              refine t_b [2] (by kernel_rfl) rfl ?_
              intro i hi; simp only [List.mem_cons, List.not_mem_nil, or_false] at hi; subst hi
              · refine ⟨_, rfl, fun w H => ?_⟩
                refine op_appendT (wn rfl) rfl rfl rfl Try.underlying22 Finf3 rfl rfl S H rfl rfl (by simp [encI, Value.oneCell']) (by first | assumption | omega | (simp only [List.length_append, List.length_take, List.length_drop, List.length_replicate, List.length_set, List.length_map, List.length_cons, List.length_nil]; omega)) (by first | assumption | omega | (simp only [List.length_append, List.length_take, List.length_drop, List.length_replicate, List.length_set, List.length_map, List.length_cons, List.length_nil]; omega)) fun u68 a w S H => ?_
                obtain ⟨pu, cu, rfl⟩ := (H.sl u68).shape
                refine t_tail H rfl (rem' := [6, 7, 8]) rfl ?_
                refine t_q 6 rfl (by kernel_rfl) (rem' := [7, 8]) rfl rfl rfl rfl S (fun w H => y_buildf rfl Fbld50 S rfl (idx := [0, 2]) rfl (cs := [.slice pu ([] ++ order).length cu, .slice none 0 0, .slice (some ⟨b71, 0, none⟩) order.length order.length, .slice none 0 0]) (by kernel_rfl)) fun a S => ?_
                refine t_b [7] (by kernel_rfl) rfl ?_
                intro i hi; simp only [List.mem_cons, List.not_mem_nil, or_false] at hi; subst hi
                · refine ⟨_, rfl, fun w H => ?_⟩
                  refine op_boxa (wn rfl) rfl rfl rfl S H rfl fun b73 a w S H => ?_
                  refine t_next H (by repeat (first | exact List.Sublist.refl _ | apply List.Sublist.cons)) (rem' := [8]) rfl ?_
                  refine t_q 8 rfl (by kernel_rfl) (rem' := []) rfl rfl rfl rfl S (fun w H => y_assign rfl S rfl) fun a S => ?_
                  refine t_nil (fun w H => ?_)
                  exact ⟨b73, b71, _, ((((S.nil.cons S 12 rfl).cons S 3 rfl).cons S 2 rfl).cons S 1 rfl).cons S 0 rfl, ((H.nilO 3 1 encI).pickK [.b b73, .s (.slice none 0 0), .s (.slice pu ([] ++ order).length cu), .s (.slice (some ⟨b71, 0, none⟩) order.length order.length), .s v]).sub (by repeat (first | exact List.Sublist.refl _ | exact List.nil_sublist _ | apply List.Sublist.cons_cons | apply List.Sublist.cons))⟩
          · refine ⟨_, rfl, fun w H => ?_⟩
            refine op_make (encI) (0) (wn rfl) rfl rfl rfl Try.underlying22 Finf3 rfl rfl S H rfl rfl rfl (by omega) (by omega) fun b71 a w S H => ?_
            refine t_next H (by repeat (first | exact List.Sublist.refl _ | apply List.Sublist.cons)) (rem' := [0, 2, 6, 7, 8]) rfl ?_
            refine t_b [0] (by kernel_rfl) rfl ?_
            intro i hi; simp only [List.mem_cons, List.not_mem_nil, or_false] at hi; subst hi
            · refine ⟨_, rfl, fun w H => ?_⟩
              refine op_buildSlice (wn rfl) rfl rfl rfl Try.underlying22 Finf3 S H (idx := []) rfl rfl rfl (z := []) (by kernel_rfl) (cs := []) rfl fun b66 a w S H => ?_
              have H := H.celO [] encI 1 (m := 0) rfl (by simp) rfl (by omega)
              refine t_next H (by repeat (first | exact List.Sublist.refl _ | apply List.Sublist.cons)) (rem' := [2, 6, 7, 8]) rfl ?_
              refine t_b [2] (by kernel_rfl) rfl ?_
              intro i hi; simp only [List.mem_cons, List.not_mem_nil, or_false] at hi; subst hi
              · refine ⟨_, rfl, fun w H => ?_⟩
                refine op_appendT (wn rfl) rfl rfl rfl Try.underlying22 Finf3 rfl rfl S H rfl rfl (by simp [encI, Value.oneCell']) (by first | assumption | omega | (simp only [List.length_append, List.length_take, List.length_drop, List.length_replicate, List.length_set, List.length_map, List.length_cons, List.length_nil]; omega)) (by first | assumption | omega | (simp only [List.length_append, List.length_take, List.length_drop, List.length_replicate, List.length_set, List.length_map, List.length_cons, List.length_nil]; omega)) fun u68 a w S H => ?_
                obtain ⟨pu, cu, rfl⟩ := (H.sl u68).shape
                refine t_tail H rfl (rem' := [6, 7, 8]) rfl ?_
                refine t_q 6 rfl (by kernel_rfl) (rem' := [7, 8]) rfl rfl rfl rfl S (fun w H => y_buildf rfl Fbld50 S rfl (idx := [0, 2]) rfl (cs := [.slice pu ([] ++ order).length cu, .slice none 0 0, .slice (some ⟨b71, 0, none⟩) order.length order.length, .slice none 0 0]) (by kernel_rfl)) fun a S => ?_
                refine t_b [7] (by kernel_rfl) rfl ?_
                intro i hi; simp only [List.mem_cons, List.not_mem_nil, or_false] at hi; subst hi
                · refine ⟨_, rfl, fun w H => ?_⟩
                  refine op_boxa (wn rfl) rfl rfl rfl S H rfl fun b73 a w S H => ?_
                  refine t_next H (by repeat (first | exact List.Sublist.refl _ | apply List.Sublist.cons)) (rem' := [8]) rfl ?_
                  refine t_q 8 rfl (by kernel_rfl) (rem' := []) rfl rfl rfl rfl S (fun w H => y_assign rfl S rfl) fun a S => ?_
                  refine t_nil (fun w H => ?_)
                  exact ⟨b73, b71, _, ((((S.nil.cons S 12 rfl).cons S 3 rfl).cons S 2 rfl).cons S 1 rfl).cons S 0 rfl, ((H.nilO 3 1 encI).pickK [.b b73, .s (.slice none 0 0), .s (.slice pu ([] ++ order).length cu), .s (.slice (some ⟨b71, 0, none⟩) order.length order.length), .s v]).sub (by repeat (first | exact List.Sublist.refl _ | exact List.nil_sublist _ | apply List.Sublist.cons_cons | apply List.Sublist.cons))⟩
      rintro a w ⟨b73, b71, vo, S, H⟩
      refine g_seq ?_
      refine g_seq ?_
      -- region 14 ref.go:30
      refine g_region ?_
      refine wl_of (op_y (wn rfl) rfl rfl S (y_assign rfl S rfl) fun a S => ?_)
      refine gl_nil ?_
      refine n_then ?_
      refine g_block ?_
      have SU := ((((S.nil.cons S 12 rfl).cons S 3 rfl).cons S 2 rfl).cons S 1 rfl).cons S 0 rfl
      refine loopW (X := Nat) SU (fun k => [(13, .int .i64 (k : Int))]) (fun k w => k ≤ order.length ∧ ∃ vt, HSat No w0 [Cel b73 50 [vo, vt, (.slice (some ⟨b71, 0, none⟩) order.length order.length), .slice none 0 0], OSl 3 vt 1 encI ((timesL (newRM order width span from_)).take k), OSl 3 vo 1 encI order, OSl 3 (.slice (some ⟨b71, 0, none⟩) order.length order.length) 1 encI (List.replicate order.length 0), Sl v 1 encI order] w) (fun k => order.length - k) 0 (S.nil.cons S 13 rfl) (⟨by omega, .slice none 0 0, H⟩) (fun k a w S hW => ?_)
      simp only [List.cons_append, List.nil_append] at S
      obtain ⟨hk, vt, H⟩ := hW
      refine g_seq ?_
      refine g_seq ?_
      -- region 15 ref.go:30
      refine g_region ?_
      refine wl_of (op_y (wn rfl) rfl rfl S (y_move rfl S rfl) fun a S => ?_)
      refine wl_of (op_y (wn rfl) rfl rfl S (y_move rfl S rfl) fun a S => ?_)
      refine wl_of (op_y (wn rfl) rfl rfl S (y_lens rfl Try.underlying22 S H rfl) fun a S => ?_)
      refine wl_of (op_y (wn rfl) rfl rfl S (y_bin rfl S rfl rfl rfl) fun a S => ?_)
      refine gl_nil ?_
      refine n_then ?_
      -- cond 6
      refine c_if S rfl (fun h12 => ?_) (fun h12 => ?_)
      · have h12p := h12; try simp only [Option.isNone_some, Option.isNone_none, Option.isSome_some, Option.isSome_none, false_or, or_false, true_and, and_true, decide_eq_true_eq, decide_eq_false_iff_not, Bool.or_eq_true, Bool.and_eq_true, Bool.or_eq_false_iff, Bool.and_eq_false_iff, Bool.not_eq_true', Bool.not_eq_false', bne_iff_ne, beq_iff_eq, beq_eq_false_iff_ne, bne_eq_false_iff_eq, ne_eq, Decidable.not_not, Int.not_lt, Int.not_le, gt_iff_lt, ge_iff_le, Bool.true_eq_false, Bool.false_eq_true, not_true_eq_false, not_false_eq_true] at h12p
        have hdm := div_mul_bd (k := (k : Int)) (w := width) (s := span) (by omega) hnum.width.1 hnum.span
        have hnw := hnum.width
        have hnf := hnum.from_
        have htk : ((timesL (newRM order width span from_)).take k).length ≤ k := List.length_take_le _ _
        refine g_skip ?_
        refine n_then ?_
        refine g_seq ?_
        refine g_block ?_
        -- region 17 DRAWS ref.go:31
        refine region_st (loud := [12, 13, 16]) (tails := [13, 16]) (free := [0]) [0, 1, 2, 3, 4, 5, 6, 7, 8, 9, 10, 11, 12, 13, 14, 15, 16] [] Fmo (by kernel_rfl) (by kernel_rfl) rfl H ?_
        refine m_f rfl rfl (wn rfl) rfl rfl S (fun w H => y_move rfl S rfl) fun a S => ?_
        refine m_w rfl rfl (wn rfl) rfl rfl S (fun w H => y_move rfl S rfl) fun a S => ?_
        refine m_w rfl rfl (wn rfl) rfl rfl S (fun w H => y_nilCheck rfl S rfl) fun a S => ?_
        refine m_w rfl rfl (wn rfl) rfl rfl S (fun w H => y_faddrb rfl Ffo50_1 S rfl) fun a S => ?_
        refine m_w rfl rfl (wn rfl) rfl rfl S (fun w H => y_load rfl Fsca22 S H rfl rfl) fun a S => ?_
        refine m_w rfl rfl (wn rfl) rfl rfl S (fun w H => y_move rfl S rfl) fun a S => ?_
        refine m_w rfl rfl (wn rfl) rfl rfl S (fun w H => y_move rfl S rfl) fun a S => ?_
        refine m_w rfl rfl (wn rfl) rfl rfl S (fun w H => y_move rfl S rfl) fun a S => ?_
        refine m_w rfl rfl (wn rfl) rfl rfl S (fun w H => y_quon rfl S rfl rfl (by omega) (by omega) (by omega)) fun a S => ?_
        refine m_w rfl rfl (wn rfl) rfl rfl S (fun w H => y_move rfl S rfl) fun a S => ?_
        refine m_w rfl rfl (wn rfl) rfl rfl S (fun w H => y_mul rfl S rfl rfl (by omega)) fun a S => ?_
        refine m_w rfl rfl (wn rfl) rfl rfl S (fun w H => y_add rfl S rfl rfl (by omega)) fun a S => ?_
        refine m_l rfl rfl (fun w H => op_buildSlice (wn rfl) rfl rfl rfl Try.underlying22 Finf3 S H (idx := [0]) rfl rfl rfl (z := [.int .i64 0]) (by kernel_rfl) (cs := [_]) rfl fun b92 a w S H => m_next H (List.sublist_cons_self _ _) ?_)
        refine m_l rfl rfl (fun w H => op_append ([from_ + (k : Int) / width * span]) (wn rfl) rfl rfl rfl Try.underlying22 Finf3 rfl rfl S H rfl rfl rfl rfl (by simp) (by simp [encI]) (by simp [encI, Value.oneCell']) (by first | assumption | omega | (simp only [List.length_append, List.length_take, List.length_drop, List.length_replicate, List.length_set, List.length_map, List.length_cons, List.length_nil]; omega)) (by first | assumption | omega | (simp only [List.length_append, List.length_take, List.length_drop, List.length_replicate, List.length_set, List.length_map, List.length_cons, List.length_nil]; omega)) fun u93 a w hn93 S H => m_tail H rfl ?_)
        refine m_w rfl rfl (wn rfl) rfl rfl S (fun w H => y_nilCheck rfl S rfl) fun a S => ?_
        refine m_w rfl rfl (wn rfl) rfl rfl S (fun w H => y_faddrb rfl Ffo50_1 S rfl) fun a S => ?_
        refine m_l rfl rfl (fun w H => op_store (wn rfl) rfl rfl S H rfl rfl (H.sl1 _) Fsiz22 rfl fun a w S H => m_tail H rfl ?_)
        dsimp only [List.set, Nat.zero_add, Nat.reduceAdd] at H
        refine m_nil (fun w H => ?_)
        refine n_block ?_
        refine n_then ?_
        -- region 16 ref.go:30
        refine g_region ?_
        refine wl_of (op_y (wn rfl) rfl rfl S (y_move rfl S rfl) fun a S => ?_)
        refine wl_of (op_y (wn rfl) rfl rfl S (y_add rfl S rfl rfl (by omega)) fun a S => ?_)
        refine wl_of (op_y (wn rfl) rfl rfl S (y_assign rfl S rfl) fun a S => ?_)
        refine gl_nil ?_
        refine n_then ?_
        refine ⟨k + 1, S.nil.cons S 13 rfl, ((((S.nil.cons S 12 rfl).cons S 3 rfl).cons S 2 rfl).cons S 1 rfl).cons S 0 rfl, ⟨by omega, u93, ?_⟩, by omega⟩
        rw [← times_step (newRM order width span from_) k (by simpa [newRM] using (show k < order.length by omega))]
        exact H.takeK [.b b73, .s u93, .s vo, .s (.slice (some ⟨b71, 0, none⟩) order.length order.length), .s v]
      · have h12p := h12; try simp only [Option.isNone_some, Option.isNone_none, Option.isSome_some, Option.isSome_none, false_or, or_false, true_and, and_true, decide_eq_true_eq, decide_eq_false_iff_not, Bool.or_eq_true, Bool.and_eq_true, Bool.or_eq_false_iff, Bool.and_eq_false_iff, Bool.not_eq_true', Bool.not_eq_false', bne_iff_ne, beq_iff_eq, beq_eq_false_iff_ne, bne_eq_false_iff_eq, ne_eq, Decidable.not_not, Int.not_lt, Int.not_le, gt_iff_lt, ge_iff_le, Bool.true_eq_false, Bool.false_eq_true, not_true_eq_false, not_false_eq_true] at h12p
        refine g_exit ?_
        refine x_then (x_then (x_eq ?_))
        refine n_then ?_
        have S := S.nil.cons S 12 rfl
        refine g_seq ?_
        -- region 18 ref.go:33
        refine g_region ?_
        refine wl_of (op_y (wn rfl) rfl rfl S (y_move rfl S rfl) fun a S => ?_)
        refine wl_of (op_y (wn rfl) rfl rfl S (y_assign rfl S rfl) fun a S => ?_)
        refine wl_of (op_y (wn rfl) rfl rfl S (y_assign rfl S rfl) fun a S => ?_)
        refine gl_nil ?_
        refine n_then ?_
        refine g_ret ?_
        refine ret2 rfl S rfl rfl ?_
        obtain rfl : k = order.length := by omega
        refine .inr ⟨new_yes hba hnn hnd, b73, vo, vt, (.slice (some ⟨b71, 0, none⟩) order.length order.length), .slice none 0 0, rfl, ?_⟩
        rw [List.take_of_length_le (by rw [timesL_len]; exact Nat.le_refl _), states_new order width span from_] at H
        exact HSat.fold (ls := RRoomL b73 vo vt (.slice (some ⟨b71, 0, none⟩) order.length order.length) (.slice none 0 0) (newRM order width span from_)) (l := []) (((H.nilO 3 1 encI).pickK [.b b73, .s vo, .s vt, .s (.slice (some ⟨b71, 0, none⟩) order.length order.length), .s (.slice none 0 0)]).sub (by simp only [RRoomL, List.cons_append, List.nil_append]; repeat (first | exact List.Sublist.refl _ | exact List.nil_sublist _ | apply List.Sublist.cons_cons | apply List.Sublist.cons))) (RRoomL_own _ _ _ _ _ _)

end Go.Proofs.Ytgplcgfdaoenfaa
