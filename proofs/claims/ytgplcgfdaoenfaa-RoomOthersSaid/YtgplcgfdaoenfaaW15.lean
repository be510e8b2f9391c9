/- The walks. No condition. -/
import Derived.Test.YtgplcgfdaoenfaaChecked
import Derived.Test.YtgplcgfdaoenfaaGwCut
import Derived.Test.YtgplcgfdaoenfaaFacts
import Derived.Test.YtgplcgfdaoenfaaPlain
import Derived.Test.YtgplcgfdaoenfaaW12
namespace Go.Proofs.Ytgplcgfdaoenfaa
open Go Go.Gw
set_option linter.unusedVariables false
set_option linter.unusedSimpArgs false

theorem made_any (v1 v2 : Value) (order : List Int) (width span from_ : Int) (l : List Op) (w0 : World) (hv1 : IsSl w0 v1 1 encI order) (hv2 : IsSl w0 v2 3 Op.enc l) :
    Ret Try.prog 21 #[v1, .int .i64 width, .int .i64 span, .int .i64 from_, v2] w0 (fun u w => ∃ p, u = .pointer p ∧ Ext w0 w) := by
  by_cases h : order.length ≤ 60 ∧ l.length ≤ 40 ∧ newOK order width span from_ = true
  · exact (made_ok v1 v2 order width span from_ l w0 hv1 hv2 h.2.2 h.1 h.2.1).mono fun u w hh => by
      obtain ⟨b, _, _, _, _, e, H⟩ := hh
      exact ⟨_, e, H.toExt⟩
  · exact (made_none v1 v2 order width span from_ l w0 hv1 hv2 h).mono fun u w hh => ⟨_, hh.1, hh.2⟩
set_option maxHeartbeats 1000000 in
/-- foyer/foyerlaw21.RoomOrder -/
theorem law2_no (v1 v2 : Value) (order : List Int) (width span from_ : Int) (l : List Op) (w0 : World) (hv1 : IsSl w0 v1 1 encI order) (hv2 : IsSl w0 v2 3 Op.enc l) (now later : Int) (hno : ¬ (order.length ≤ 60 ∧ l.length ≤ 40 ∧ newOK order width span from_ = true)) :
    Ret Try.prog 4 #[v1, .int .i64 width, .int .i64 span, .int .i64 from_, v2, .int .i64 now, .int .i64 later] w0 (fun v w => v = .bool true ∧ Ext w0 w) := by
  refine ret_of_wp (nt := 86) Try.func4 rfl rfl rfl (fl := [(0, v1), (1, .int .i64 width), (2, .int .i64 span), (3, .int .i64 from_), (4, v2), (5, .int .i64 now), (6, .int .i64 later)]) rfl (fun a S => ?_)
  have H := HSat.start w0
  have H := H.ro0 (Sl v1 1 encI order) rfl (hv1)
  have H := H.ro0 (Sl v2 3 Op.enc l) rfl (hv2)
  refine g_seq ?_
  -- region 0 law.go:79
  refine g_region ?_
  refine wl_of (op_y (wn rfl) rfl rfl S (y_assign rfl S rfl) fun a S => ?_)
  refine gl_nil ?_
  refine n_then ?_
  refine g_seq ?_
  -- region 1 law.go:80
  refine g_region ?_
  refine wl_of (op_call (wn rfl) rfl rfl S (co_func rfl Try.call9 S rfl) (head_spec _) fun v w hc a S => ?_)
  obtain ⟨rfl, he⟩ := hc
  have H := H.ext he
  refine wl_of (op_y (wn rfl) rfl rfl S (y_assign rfl S rfl) fun a S => ?_)
  refine gl_nil ?_
  refine n_then ?_
  refine g_seq ?_
  -- region 2 law.go:81
  refine g_region ?_
  refine wl_of (op_y (wn rfl) rfl rfl S (y_move rfl S rfl) fun a S => ?_)
  refine wl_of (op_y (wn rfl) rfl rfl S (y_move rfl S rfl) fun a S => ?_)
  refine wl_of (op_y (wn rfl) rfl rfl S (y_move rfl S rfl) fun a S => ?_)
  refine wl_of (op_y (wn rfl) rfl rfl S (y_move rfl S rfl) fun a S => ?_)
  refine wl_of (op_y (wn rfl) rfl rfl S (y_move rfl S rfl) fun a S => ?_)
  refine wl_of (op_call (wn rfl) rfl rfl S (co_func rfl Try.call21 S rfl) (made_none v1 v2 order width span from_ l _ (H.sl v1) (H.sl v2) hno) fun v w hc a S => ?_)
  obtain ⟨rfl, he⟩ := hc
  have H := H.ext he
  refine wl_of (op_y (wn rfl) rfl rfl S (y_assign rfl S rfl) fun a S => ?_)
  refine gl_nil ?_
  refine n_then ?_
  have S := (((((S.nil.cons S 6 rfl).cons S 5 rfl).cons S 0 rfl).cons S 14 rfl).cons S 15 rfl).cons S 16 rfl
  refine g_seq ?_
  refine g_seq ?_
  -- region 3 law.go:82
  refine g_region ?_
  refine wl_of (op_y (wn rfl) rfl rfl S (y_move rfl S rfl) fun a S => ?_)
  refine wl_of (op_y (wn rfl) rfl rfl S (y_eqp rfl Try.underlying25 S rfl rfl) fun a S => ?_)
  refine wl_of (op_y (wn rfl) rfl rfl S (y_move rfl S rfl) fun a S => ?_)
  refine' wl_or (B2 := false) 3 30 rfl S H rfl rfl rfl rfl rfl rfl rfl (fun _ S => (wn rfl)) (fun h1 kk => ?yh1) (fun a w S H => ?_)
  case yh1 => exact absurd h1 (by simp)
  refine gl_nil ?_
  refine n_then ?_
  -- cond 1
  refine c_if S rfl (fun h2 => ?_) (fun h2 => ?_)
  · have h2p := h2; try simp only [Option.isNone_some, Option.isNone_none, Option.isSome_some, Option.isSome_none, false_or, or_false, true_and, and_true, decide_eq_true_eq, decide_eq_false_iff_not, Bool.or_eq_true, Bool.and_eq_true, Bool.or_eq_false_iff, Bool.and_eq_false_iff, Bool.not_eq_true', Bool.not_eq_false', bne_iff_ne, beq_iff_eq, beq_eq_false_iff_ne, bne_eq_false_iff_eq, ne_eq, Decidable.not_not, Int.not_lt, Int.not_le, gt_iff_lt, ge_iff_le, Bool.true_eq_false, Bool.false_eq_true, not_true_eq_false, not_false_eq_true] at h2p
    refine g_seq ?_
    -- region 4 law.go:83
    refine g_region ?_
    refine wl_of (op_y (wn rfl) rfl rfl S (y_move rfl S rfl) fun a S => ?_)
    refine wl_of (op_y (wn rfl) rfl rfl S (y_assign rfl S rfl) fun a S => ?_)
    refine gl_nil ?_
    refine n_then ?_
    have S := (((((S.nil.cons S 6 rfl).cons S 5 rfl).cons S 0 rfl).cons S 15 rfl).cons S 16 rfl).cons S 14 rfl
    refine g_ret ?_
    refine r_then (ret1 rfl S rfl ?_)
    exact ⟨rfl, H.toExt⟩
  · have h2p := h2; try simp only [Option.isNone_some, Option.isNone_none, Option.isSome_some, Option.isSome_none, false_or, or_false, true_and, and_true, decide_eq_true_eq, decide_eq_false_iff_not, Bool.or_eq_true, Bool.and_eq_true, Bool.or_eq_false_iff, Bool.and_eq_false_iff, Bool.not_eq_true', Bool.not_eq_false', bne_iff_ne, beq_iff_eq, beq_eq_false_iff_ne, bne_eq_false_iff_eq, ne_eq, Decidable.not_not, Int.not_lt, Int.not_le, gt_iff_lt, ge_iff_le, Bool.true_eq_false, Bool.false_eq_true, not_true_eq_false, not_false_eq_true] at h2p
    all_goals (
      exact absurd h2 (by simp))
set_option maxHeartbeats 1000000 in
/-- foyer/foyerlaw21.RoomServes -/
theorem law3_no (v1 v2 : Value) (order : List Int) (width span from_ : Int) (l : List Op) (w0 : World) (hv1 : IsSl w0 v1 1 encI order) (hv2 : IsSl w0 v2 3 Op.enc l) (i now : Int) (hno : ¬ (order.length ≤ 60 ∧ l.length ≤ 40 ∧ newOK order width span from_ = true)) :
    Ret Try.prog 5 #[v1, .int .i64 width, .int .i64 span, .int .i64 from_, v2, .int .i64 i, .int .i64 now] w0 (fun v w => v = .bool true ∧ Ext w0 w) := by
  refine ret_of_wp (nt := 106) Try.func5 rfl rfl rfl (fl := [(0, v1), (1, .int .i64 width), (2, .int .i64 span), (3, .int .i64 from_), (4, v2), (5, .int .i64 i), (6, .int .i64 now)]) rfl (fun a S => ?_)
  have H := HSat.start w0
  have H := H.ro0 (Sl v1 1 encI order) rfl (hv1)
  have H := H.ro0 (Sl v2 3 Op.enc l) rfl (hv2)
  refine g_seq ?_
  -- region 0 law.go:103
  refine g_region ?_
  refine wl_of (op_y (wn rfl) rfl rfl S (y_assign rfl S rfl) fun a S => ?_)
  refine gl_nil ?_
  refine n_then ?_
  refine g_seq ?_
  -- region 1 law.go:104
  refine g_region ?_
  refine wl_of (op_call (wn rfl) rfl rfl S (co_func rfl Try.call9 S rfl) (head_spec _) fun v w hc a S => ?_)
  obtain ⟨rfl, he⟩ := hc
  have H := H.ext he
  refine wl_of (op_y (wn rfl) rfl rfl S (y_assign rfl S rfl) fun a S => ?_)
  refine gl_nil ?_
  refine n_then ?_
  refine g_seq ?_
  -- region 2 law.go:105
  refine g_region ?_
  refine wl_of (op_y (wn rfl) rfl rfl S (y_move rfl S rfl) fun a S => ?_)
  refine wl_of (op_y (wn rfl) rfl rfl S (y_move rfl S rfl) fun a S => ?_)
  refine wl_of (op_y (wn rfl) rfl rfl S (y_move rfl S rfl) fun a S => ?_)
  refine wl_of (op_y (wn rfl) rfl rfl S (y_move rfl S rfl) fun a S => ?_)
  refine wl_of (op_y (wn rfl) rfl rfl S (y_move rfl S rfl) fun a S => ?_)
  refine wl_of (op_call (wn rfl) rfl rfl S (co_func rfl Try.call21 S rfl) (made_none v1 v2 order width span from_ l _ (H.sl v1) (H.sl v2) hno) fun v w hc a S => ?_)
  obtain ⟨rfl, he⟩ := hc
  have H := H.ext he
  refine wl_of (op_y (wn rfl) rfl rfl S (y_assign rfl S rfl) fun a S => ?_)
  refine gl_nil ?_
  refine n_then ?_
  have S := ((((S.nil.cons S 6 rfl).cons S 5 rfl).cons S 14 rfl).cons S 15 rfl).cons S 16 rfl
  refine g_seq ?_
  refine g_seq ?_
  -- region 3 law.go:106
  refine g_region ?_
  refine wl_of (op_y (wn rfl) rfl rfl S (y_move rfl S rfl) fun a S => ?_)
  refine wl_of (op_y (wn rfl) rfl rfl S (y_eqp rfl Try.underlying25 S rfl rfl) fun a S => ?_)
  refine gl_nil ?_
  refine n_then ?_
  -- cond 1
  refine c_if S rfl (fun h1 => ?_) (fun h1 => ?_)
  · have h1p := h1; try simp only [Option.isNone_some, Option.isNone_none, Option.isSome_some, Option.isSome_none, false_or, or_false, true_and, and_true, decide_eq_true_eq, decide_eq_false_iff_not, Bool.or_eq_true, Bool.and_eq_true, Bool.or_eq_false_iff, Bool.and_eq_false_iff, Bool.not_eq_true', Bool.not_eq_false', bne_iff_ne, beq_iff_eq, beq_eq_false_iff_ne, bne_eq_false_iff_eq, ne_eq, Decidable.not_not, Int.not_lt, Int.not_le, gt_iff_lt, ge_iff_le, Bool.true_eq_false, Bool.false_eq_true, not_true_eq_false, not_false_eq_true] at h1p
    refine g_seq ?_
    -- region 4 law.go:107
    refine g_region ?_
    refine wl_of (op_y (wn rfl) rfl rfl S (y_move rfl S rfl) fun a S => ?_)
    refine wl_of (op_y (wn rfl) rfl rfl S (y_assign rfl S rfl) fun a S => ?_)
    refine gl_nil ?_
    refine n_then ?_
    have S := ((((S.nil.cons S 6 rfl).cons S 5 rfl).cons S 15 rfl).cons S 16 rfl).cons S 14 rfl
    refine g_ret ?_
    refine r_then (ret1 rfl S rfl ?_)
    exact ⟨rfl, H.toExt⟩
  · have h1p := h1; try simp only [Option.isNone_some, Option.isNone_none, Option.isSome_some, Option.isSome_none, false_or, or_false, true_and, and_true, decide_eq_true_eq, decide_eq_false_iff_not, Bool.or_eq_true, Bool.and_eq_true, Bool.or_eq_false_iff, Bool.and_eq_false_iff, Bool.not_eq_true', Bool.not_eq_false', bne_iff_ne, beq_iff_eq, beq_eq_false_iff_ne, bne_eq_false_iff_eq, ne_eq, Decidable.not_not, Int.not_lt, Int.not_le, gt_iff_lt, ge_iff_le, Bool.true_eq_false, Bool.false_eq_true, not_true_eq_false, not_false_eq_true] at h1p
    all_goals (
      exact absurd h1 (by simp))
set_option maxHeartbeats 1000000 in
/-- foyer/foyerlaw21.RoomWidth -/
theorem law4_no (v1 : Value) (order : List Int) (width span from_ now : Int) (w0 : World) (hv1 : IsSl w0 v1 1 encI order) (hno : ¬ (order.length ≤ 60 ∧ newOK order width span from_ = true)) :
    Ret Try.prog 6 #[v1, .int .i64 width, .int .i64 span, .int .i64 from_, .int .i64 now] w0 (fun v w => v = .bool true ∧ Ext w0 w) := by
  refine ret_of_wp (nt := 68) Try.func6 rfl rfl rfl (fl := [(0, v1), (1, .int .i64 width), (2, .int .i64 span), (3, .int .i64 from_), (4, .int .i64 now)]) rfl (fun a S => ?_)
  have H := HSat.start w0
  have H := H.ro0 (Sl v1 1 encI order) rfl (hv1)
  refine g_seq ?_
  -- region 0 law.go:122
  refine g_region ?_
  refine wl_of (op_y (wn rfl) rfl rfl S (y_assign rfl S rfl) fun a S => ?_)
  refine gl_nil ?_
  refine n_then ?_
  refine g_seq ?_
  -- region 1 law.go:123
  refine g_region ?_
  refine wl_of (op_call (wn rfl) rfl rfl S (co_func rfl Try.call9 S rfl) (head_spec _) fun v w hc a S => ?_)
  obtain ⟨rfl, he⟩ := hc
  have H := H.ext he
  refine wl_of (op_y (wn rfl) rfl rfl S (y_assign rfl S rfl) fun a S => ?_)
  refine gl_nil ?_
  refine n_then ?_
  refine g_seq ?_
  -- region 2 law.go:124
  refine g_region ?_
  refine wl_of (op_y (wn rfl) rfl rfl S (y_move rfl S rfl) fun a S => ?_)
  refine wl_of (op_y (wn rfl) rfl rfl S (y_move rfl S rfl) fun a S => ?_)
  refine wl_of (op_y (wn rfl) rfl rfl S (y_move rfl S rfl) fun a S => ?_)
  refine wl_of (op_y (wn rfl) rfl rfl S (y_move rfl S rfl) fun a S => ?_)
  refine wl_of (op_call (wn rfl) rfl rfl S (co_func rfl Try.call21 S rfl) (made_none v1 (.slice none 0 0) order width span from_ [] _ (H.sl v1) (IsSl.nil _ _ _) (fun h => hno ⟨h.1, h.2.2⟩)) fun v w hc a S => ?_)
  obtain ⟨rfl, he⟩ := hc
  have H := H.ext he
  refine wl_of (op_y (wn rfl) rfl rfl S (y_assign rfl S rfl) fun a S => ?_)
  refine gl_nil ?_
  refine n_then ?_
  have S := ((((((S.nil.cons S 4 rfl).cons S 3 rfl).cons S 2 rfl).cons S 1 rfl).cons S 10 rfl).cons S 11 rfl).cons S 12 rfl
  refine g_seq ?_
  refine g_seq ?_
  -- region 3 law.go:125
  refine g_region ?_
  refine wl_of (op_y (wn rfl) rfl rfl S (y_move rfl S rfl) fun a S => ?_)
  refine wl_of (op_y (wn rfl) rfl rfl S (y_eqp rfl Try.underlying25 S rfl rfl) fun a S => ?_)
  refine wl_of (op_y (wn rfl) rfl rfl S (y_move rfl S rfl) fun a S => ?_)
  refine' wl_or (B2 := false) 2 22 rfl S H rfl rfl rfl rfl rfl rfl rfl (fun _ S => (wn rfl)) (fun h1 kk => ?yh1) (fun a w S H => ?_)
  case yh1 => exact absurd h1 (by simp)
  refine wl_of (op_y (wn rfl) rfl rfl S (y_move rfl S rfl) fun a S => ?_)
  refine' wl_or (B2 := false) 2 26 rfl S H rfl rfl rfl rfl rfl rfl rfl (fun _ S => (wn rfl)) (fun h2 kk => ?yh2) (fun a w S H => ?_)
  case yh2 => exact absurd h2 (by simp)
  refine gl_nil ?_
  refine n_then ?_
  have S := (((((((S.nil.cons S 4 rfl).cons S 3 rfl).cons S 2 rfl).cons S 1 rfl).cons S 10 rfl).cons S 11 rfl).cons S 12 rfl).cons S 29 rfl
  -- cond 1
  refine c_if S rfl (fun h3 => ?_) (fun h3 => ?_)
  · have h3p := h3; try simp only [Option.isNone_some, Option.isNone_none, Option.isSome_some, Option.isSome_none, false_or, or_false, true_and, and_true, decide_eq_true_eq, decide_eq_false_iff_not, Bool.or_eq_true, Bool.and_eq_true, Bool.or_eq_false_iff, Bool.and_eq_false_iff, Bool.not_eq_true', Bool.not_eq_false', bne_iff_ne, beq_iff_eq, beq_eq_false_iff_ne, bne_eq_false_iff_eq, ne_eq, Decidable.not_not, Int.not_lt, Int.not_le, gt_iff_lt, ge_iff_le, Bool.true_eq_false, Bool.false_eq_true, not_true_eq_false, not_false_eq_true] at h3p
    refine g_seq ?_
    -- region 4 law.go:126
    refine g_region ?_
    refine wl_of (op_y (wn rfl) rfl rfl S (y_move rfl S rfl) fun a S => ?_)
    refine wl_of (op_y (wn rfl) rfl rfl S (y_assign rfl S rfl) fun a S => ?_)
    refine gl_nil ?_
    refine n_then ?_
    refine g_ret ?_
    refine r_then (ret1 rfl S rfl ?_)
    exact ⟨rfl, H.toExt⟩
  · have h3p := h3; try simp only [Option.isNone_some, Option.isNone_none, Option.isSome_some, Option.isSome_none, false_or, or_false, true_and, and_true, decide_eq_true_eq, decide_eq_false_iff_not, Bool.or_eq_true, Bool.and_eq_true, Bool.or_eq_false_iff, Bool.and_eq_false_iff, Bool.not_eq_true', Bool.not_eq_false', bne_iff_ne, beq_iff_eq, beq_eq_false_iff_ne, bne_eq_false_iff_eq, ne_eq, Decidable.not_not, Int.not_lt, Int.not_le, gt_iff_lt, ge_iff_le, Bool.true_eq_false, Bool.false_eq_true, not_true_eq_false, not_false_eq_true] at h3p
    all_goals (
      exact absurd h3 (by simp))
set_option maxHeartbeats 1000000 in
/-- foyer/foyerlaw21.RoomEnds -/
theorem law5_no (v1 v2 : Value) (order : List Int) (width span from_ : Int) (l : List Op) (w0 : World) (hv1 : IsSl w0 v1 1 encI order) (hv2 : IsSl w0 v2 3 Op.enc l) (hno : ¬ (order.length ≤ 60 ∧ l.length ≤ 40 ∧ newOK order width span from_ = true)) :
    Ret Try.prog 7 #[v1, .int .i64 width, .int .i64 span, .int .i64 from_, v2] w0 (fun v w => v = .bool true ∧ Ext w0 w) := by
  refine ret_of_wp (nt := 106) Try.func7 rfl rfl rfl (fl := [(0, v1), (1, .int .i64 width), (2, .int .i64 span), (3, .int .i64 from_), (4, v2)]) rfl (fun a S => ?_)
  have H := HSat.start w0
  have H := H.ro0 (Sl v1 1 encI order) rfl (hv1)
  have H := H.ro0 (Sl v2 3 Op.enc l) rfl (hv2)
  refine g_seq ?_
  -- region 0 law.go:133
  refine g_region ?_
  refine wl_of (op_y (wn rfl) rfl rfl S (y_assign rfl S rfl) fun a S => ?_)
  refine gl_nil ?_
  refine n_then ?_
  refine g_seq ?_
  -- region 1 law.go:134
  refine g_region ?_
  refine wl_of (op_call (wn rfl) rfl rfl S (co_func rfl Try.call9 S rfl) (head_spec _) fun v w hc a S => ?_)
  obtain ⟨rfl, he⟩ := hc
  have H := H.ext he
  refine wl_of (op_y (wn rfl) rfl rfl S (y_assign rfl S rfl) fun a S => ?_)
  refine gl_nil ?_
  refine n_then ?_
  refine g_seq ?_
  -- region 2 law.go:135
  refine g_region ?_
  refine wl_of (op_y (wn rfl) rfl rfl S (y_move rfl S rfl) fun a S => ?_)
  refine wl_of (op_y (wn rfl) rfl rfl S (y_move rfl S rfl) fun a S => ?_)
  refine wl_of (op_y (wn rfl) rfl rfl S (y_move rfl S rfl) fun a S => ?_)
  refine wl_of (op_y (wn rfl) rfl rfl S (y_move rfl S rfl) fun a S => ?_)
  refine wl_of (op_y (wn rfl) rfl rfl S (y_move rfl S rfl) fun a S => ?_)
  refine wl_of (op_call (wn rfl) rfl rfl S (co_func rfl Try.call21 S rfl) (made_none v1 v2 order width span from_ l _ (H.sl v1) (H.sl v2) hno) fun v w hc a S => ?_)
  obtain ⟨rfl, he⟩ := hc
  have H := H.ext he
  refine wl_of (op_y (wn rfl) rfl rfl S (y_assign rfl S rfl) fun a S => ?_)
  refine gl_nil ?_
  refine n_then ?_
  have S := (((((((S.nil.cons S 4 rfl).cons S 3 rfl).cons S 2 rfl).cons S 1 rfl).cons S 0 rfl).cons S 10 rfl).cons S 11 rfl).cons S 12 rfl
  refine g_seq ?_
  refine g_seq ?_
  -- region 3 law.go:136
  refine g_region ?_
  refine wl_of (op_y (wn rfl) rfl rfl S (y_move rfl S rfl) fun a S => ?_)
  refine wl_of (op_y (wn rfl) rfl rfl S (y_eqp rfl Try.underlying25 S rfl rfl) fun a S => ?_)
  refine gl_nil ?_
  refine n_then ?_
  -- cond 1
  refine c_if S rfl (fun h1 => ?_) (fun h1 => ?_)
  · have h1p := h1; try simp only [Option.isNone_some, Option.isNone_none, Option.isSome_some, Option.isSome_none, false_or, or_false, true_and, and_true, decide_eq_true_eq, decide_eq_false_iff_not, Bool.or_eq_true, Bool.and_eq_true, Bool.or_eq_false_iff, Bool.and_eq_false_iff, Bool.not_eq_true', Bool.not_eq_false', bne_iff_ne, beq_iff_eq, beq_eq_false_iff_ne, bne_eq_false_iff_eq, ne_eq, Decidable.not_not, Int.not_lt, Int.not_le, gt_iff_lt, ge_iff_le, Bool.true_eq_false, Bool.false_eq_true, not_true_eq_false, not_false_eq_true] at h1p
    refine g_seq ?_
    -- region 4 law.go:137
    refine g_region ?_
    refine wl_of (op_y (wn rfl) rfl rfl S (y_move rfl S rfl) fun a S => ?_)
    refine wl_of (op_y (wn rfl) rfl rfl S (y_assign rfl S rfl) fun a S => ?_)
    refine gl_nil ?_
    refine n_then ?_
    have S := (((((((S.nil.cons S 4 rfl).cons S 3 rfl).cons S 2 rfl).cons S 1 rfl).cons S 0 rfl).cons S 11 rfl).cons S 12 rfl).cons S 10 rfl
    refine g_ret ?_
    refine r_then (ret1 rfl S rfl ?_)
    exact ⟨rfl, H.toExt⟩
  · have h1p := h1; try simp only [Option.isNone_some, Option.isNone_none, Option.isSome_some, Option.isSome_none, false_or, or_false, true_and, and_true, decide_eq_true_eq, decide_eq_false_iff_not, Bool.or_eq_true, Bool.and_eq_true, Bool.or_eq_false_iff, Bool.and_eq_false_iff, Bool.not_eq_true', Bool.not_eq_false', bne_iff_ne, beq_iff_eq, beq_eq_false_iff_ne, bne_eq_false_iff_eq, ne_eq, Decidable.not_not, Int.not_lt, Int.not_le, gt_iff_lt, ge_iff_le, Bool.true_eq_false, Bool.false_eq_true, not_true_eq_false, not_false_eq_true] at h1p
    all_goals (
      exact absurd h1 (by simp))
set_option maxHeartbeats 1000000 in
/-- foyer/foyerlaw21.RoomOthers -/
theorem law6_no (v1 v2 : Value) (order : List Int) (width span from_ : Int) (l : List Op) (w0 : World) (hv1 : IsSl w0 v1 1 encI order) (hv2 : IsSl w0 v2 3 Op.enc l) (now : Int) (hno : ¬ (order.length ≤ 60 ∧ l.length ≤ 40 ∧ newOK order width span from_ = true)) :
    Ret Try.prog 8 #[v1, .int .i64 width, .int .i64 span, .int .i64 from_, v2, .int .i64 now] w0 (fun v w => v = .bool true ∧ Ext w0 w) := by
  refine ret_of_wp (nt := 81) Try.func8 rfl rfl rfl (fl := [(0, v1), (1, .int .i64 width), (2, .int .i64 span), (3, .int .i64 from_), (4, v2), (5, .int .i64 now)]) rfl (fun a S => ?_)
  have H := HSat.start w0
  have H := H.ro0 (Sl v1 1 encI order) rfl (hv1)
  have H := H.ro0 (Sl v2 3 Op.enc l) rfl (hv2)
  refine g_seq ?_
  -- region 0 law.go:161
  refine g_region ?_
  refine wl_of (op_y (wn rfl) rfl rfl S (y_assign rfl S rfl) fun a S => ?_)
  refine gl_nil ?_
  refine n_then ?_
  refine g_seq ?_
  -- region 1 law.go:162
  refine g_region ?_
  refine wl_of (op_call (wn rfl) rfl rfl S (co_func rfl Try.call9 S rfl) (head_spec _) fun v w hc a S => ?_)
  obtain ⟨rfl, he⟩ := hc
  have H := H.ext he
  refine wl_of (op_y (wn rfl) rfl rfl S (y_assign rfl S rfl) fun a S => ?_)
  refine gl_nil ?_
  refine n_then ?_
  refine g_seq ?_
  -- region 2 law.go:163
  refine g_region ?_
  refine wl_of (op_y (wn rfl) rfl rfl S (y_move rfl S rfl) fun a S => ?_)
  refine wl_of (op_y (wn rfl) rfl rfl S (y_move rfl S rfl) fun a S => ?_)
  refine wl_of (op_y (wn rfl) rfl rfl S (y_move rfl S rfl) fun a S => ?_)
  refine wl_of (op_y (wn rfl) rfl rfl S (y_move rfl S rfl) fun a S => ?_)
  refine wl_of (op_y (wn rfl) rfl rfl S (y_move rfl S rfl) fun a S => ?_)
  refine wl_of (op_call (wn rfl) rfl rfl S (co_func rfl Try.call21 S rfl) (made_none v1 v2 order width span from_ l _ (H.sl v1) (H.sl v2) hno) fun v w hc a S => ?_)
  obtain ⟨rfl, he⟩ := hc
  have H := H.ext he
  refine wl_of (op_y (wn rfl) rfl rfl S (y_assign rfl S rfl) fun a S => ?_)
  refine gl_nil ?_
  refine n_then ?_
  have S := (((((((S.nil.cons S 5 rfl).cons S 3 rfl).cons S 2 rfl).cons S 1 rfl).cons S 0 rfl).cons S 12 rfl).cons S 13 rfl).cons S 14 rfl
  refine g_seq ?_
  -- region 3 law.go:164
  refine g_region ?_
  refine wl_of (op_y (wn rfl) rfl rfl S (y_move rfl S rfl) fun a S => ?_)
  refine wl_of (op_y (wn rfl) rfl rfl S (y_move rfl S rfl) fun a S => ?_)
  refine wl_of (op_y (wn rfl) rfl rfl S (y_move rfl S rfl) fun a S => ?_)
  refine wl_of (op_y (wn rfl) rfl rfl S (y_move rfl S rfl) fun a S => ?_)
  refine wl_of (op_call (wn rfl) rfl rfl S (co_func rfl Try.call21 S rfl) (made_any v1 (.slice none 0 0) order width span from_ [] _ (H.sl v1) (IsSl.nil _ _ _)) fun v w hc a S => ?_)
  obtain ⟨p, rfl, he⟩ := hc
  have H := H.ext he
  refine wl_of (op_y (wn rfl) rfl rfl S (y_assign rfl S rfl) fun a S => ?_)
  refine gl_nil ?_
  refine n_then ?_
  have S := (((((((S.nil.cons S 5 rfl).cons S 3 rfl).cons S 2 rfl).cons S 0 rfl).cons S 12 rfl).cons S 13 rfl).cons S 14 rfl).cons S 15 rfl
  refine g_seq ?_
  refine g_seq ?_
  -- region 4 law.go:165
  refine g_region ?_
  refine wl_of (op_y (wn rfl) rfl rfl S (y_move rfl S rfl) fun a S => ?_)
  refine wl_of (op_y (wn rfl) rfl rfl S (y_eqp rfl Try.underlying25 S rfl rfl) fun a S => ?_)
  refine wl_of (op_y (wn rfl) rfl rfl S (y_move rfl S rfl) fun a S => ?_)
  refine' wl_or (B2 := false) 2 36 rfl S H rfl rfl rfl rfl rfl rfl rfl (fun _ S => (wn rfl)) (fun h1 kk => ?yh1) (fun a w S H => ?_)
  case yh1 => exact absurd h1 (by simp)
  refine gl_nil ?_
  refine n_then ?_
  -- cond 1
  refine c_if S rfl (fun h2 => ?_) (fun h2 => ?_)
  · have h2p := h2; try simp only [Option.isNone_some, Option.isNone_none, Option.isSome_some, Option.isSome_none, false_or, or_false, true_and, and_true, decide_eq_true_eq, decide_eq_false_iff_not, Bool.or_eq_true, Bool.and_eq_true, Bool.or_eq_false_iff, Bool.and_eq_false_iff, Bool.not_eq_true', Bool.not_eq_false', bne_iff_ne, beq_iff_eq, beq_eq_false_iff_ne, bne_eq_false_iff_eq, ne_eq, Decidable.not_not, Int.not_lt, Int.not_le, gt_iff_lt, ge_iff_le, Bool.true_eq_false, Bool.false_eq_true, not_true_eq_false, not_false_eq_true] at h2p
    refine g_seq ?_
    -- region 5 law.go:166
    refine g_region ?_
    refine wl_of (op_y (wn rfl) rfl rfl S (y_move rfl S rfl) fun a S => ?_)
    refine wl_of (op_y (wn rfl) rfl rfl S (y_assign rfl S rfl) fun a S => ?_)
    refine gl_nil ?_
    refine n_then ?_
    have S := (((((((S.nil.cons S 5 rfl).cons S 3 rfl).cons S 2 rfl).cons S 0 rfl).cons S 13 rfl).cons S 14 rfl).cons S 15 rfl).cons S 12 rfl
    refine g_ret ?_
    refine r_then (ret1 rfl S rfl ?_)
    exact ⟨rfl, H.toExt⟩
  · have h2p := h2; try simp only [Option.isNone_some, Option.isNone_none, Option.isSome_some, Option.isSome_none, false_or, or_false, true_and, and_true, decide_eq_true_eq, decide_eq_false_iff_not, Bool.or_eq_true, Bool.and_eq_true, Bool.or_eq_false_iff, Bool.and_eq_false_iff, Bool.not_eq_true', Bool.not_eq_false', bne_iff_ne, beq_iff_eq, beq_eq_false_iff_ne, bne_eq_false_iff_eq, ne_eq, Decidable.not_not, Int.not_lt, Int.not_le, gt_iff_lt, ge_iff_le, Bool.true_eq_false, Bool.false_eq_true, not_true_eq_false, not_false_eq_true] at h2p
    all_goals (
      exact absurd h2 (by simp))

end Go.Proofs.Ytgplcgfdaoenfaa
