/- The walks. No condition. -/
import Derived.Test.YtgplcgfdaoenfaaChecked
import Derived.Test.YtgplcgfdaoenfaaGwCut
import Derived.Test.YtgplcgfdaoenfaaFacts
import Derived.Test.YtgplcgfdaoenfaaPlain
import Derived.Test.YtgplcgfdaoenfaaPlainB
import Derived.Test.YtgplcgfdaoenfaaW10
namespace Go.Proofs.Ytgplcgfdaoenfaa
open Go Go.Gw
set_option linter.unusedVariables false
set_option linter.unusedSimpArgs false

theorem made_none (v1 v2 : Value) (order : List Int) (width span from_ : Int) (l : List Op) (w0 : World) (hv1 : IsSl w0 v1 1 encI order) (hv2 : IsSl w0 v2 3 Op.enc l) (hno : ¬ (order.length ≤ 60 ∧ l.length ≤ 40 ∧ newOK order width span from_ = true)) :
    Ret Try.prog 21 #[v1, .int .i64 width, .int .i64 span, .int .i64 from_, v2] w0 (fun u w => u = .pointer none ∧ Ext w0 w) := by
  by_cases hl : order.length > 60 ∨ l.length > 40
  · exact made_long v1 v2 order width span from_ l w0 hv1 hv2 hl
  · cases hb : newOK order width span from_ with
    | false => exact made_bad v1 v2 order width span from_ l w0 hv1 hv2 hb
    | true => exact absurd ⟨by omega, by omega, hb⟩ hno
set_option maxHeartbeats 4000000 in
/-- foyer/foyerlaw21.RoomOrder -/
theorem law2_ok (v1 v2 : Value) (order : List Int) (width span from_ : Int) (l : List Op) (w0 : World) (hv1 : IsSl w0 v1 1 encI order) (hv2 : IsSl w0 v2 3 Op.enc l) (now later : Int) (hok : newOK order width span from_ = true) (hl1 : order.length ≤ 60) (hl2 : l.length ≤ 40) :
    Ret Try.prog 4 #[v1, .int .i64 width, .int .i64 span, .int .i64 from_, v2, .int .i64 now, .int .i64 later] w0 (fun v w => v = .bool true ∧ Ext w0 w) := by
  refine ret_of_wp (nt := 86) Try.func4 rfl rfl rfl (fl := [(0, v1), (1, .int .i64 width), (2, .int .i64 span), (3, .int .i64 from_), (4, v2), (5, .int .i64 now), (6, .int .i64 later)]) rfl (fun a S => ?_)
  have H := HSat.start w0
  have H := H.ro0 (Sl v1 1 encI order) rfl (hv1)
  have H := H.ro0 (Sl v2 3 Op.enc l) rfl (hv2)
  refine g_seq ?_
  -- region 0 law.go:79
  refine g_region ?_
  refine wl_of (op_y (wn rfl) rfl rfl S (y_assign rfl S rfl) fun a S => ?_)
  refine gl_nil ?_
  refine n_then ?_
  refine g_seq ?_
  -- region 1 law.go:80
  refine g_region ?_
  refine wl_of (op_call (wn rfl) rfl rfl S (co_func rfl Try.call9 S rfl) (head_spec _) fun v w hc a S => ?_)
  obtain ⟨rfl, he⟩ := hc
  have H := H.ext he
  refine wl_of (op_y (wn rfl) rfl rfl S (y_assign rfl S rfl) fun a S => ?_)
  refine gl_nil ?_
  refine n_then ?_
  refine g_seq ?_
  -- region 2 law.go:81
  refine g_region ?_
  refine wl_of (op_y (wn rfl) rfl rfl S (y_move rfl S rfl) fun a S => ?_)
  refine wl_of (op_y (wn rfl) rfl rfl S (y_move rfl S rfl) fun a S => ?_)
  refine wl_of (op_y (wn rfl) rfl rfl S (y_move rfl S rfl) fun a S => ?_)
  refine wl_of (op_y (wn rfl) rfl rfl S (y_move rfl S rfl) fun a S => ?_)
  refine wl_of (op_y (wn rfl) rfl rfl S (y_move rfl S rfl) fun a S => ?_)
  refine wl_of (op_call (wn rfl) rfl rfl S (co_func rfl Try.call21 S rfl) (made_ok v1 v2 order width span from_ l _ (H.sl v1) (H.sl v2) hok hl1 hl2) fun v w hc a S => ?_)
  obtain ⟨b, ms, mp, vo, v0, rfl, H1⟩ := hc
  have H := H.call1 H1 rfl
  obtain ⟨r, hr⟩ : ∃ r, r = (madeRM order width span from_ l) := ⟨_, rfl⟩
  have hwr := made_wf hok l
  have har := made_alike order width span from_ l
  rw [← hr] at H hwr har
  refine wl_of (op_y (wn rfl) rfl rfl S (y_assign rfl S rfl) fun a S => ?_)
  refine gl_nil ?_
  refine n_then ?_
  have S := (((((S.nil.cons S 6 rfl).cons S 5 rfl).cons S 0 rfl).cons S 14 rfl).cons S 15 rfl).cons S 16 rfl
  refine g_seq ?_
  refine g_seq ?_
  -- region 3 law.go:82
  refine g_region ?_
  refine wl_of (op_y (wn rfl) rfl rfl S (y_move rfl S rfl) fun a S => ?_)
  refine wl_of (op_y (wn rfl) rfl rfl S (y_eqp rfl Try.underlying25 S rfl rfl) fun a S => ?_)
  refine wl_of (op_y (wn rfl) rfl rfl S (y_move rfl S rfl) fun a S => ?_)
  refine wl_of (op_y (wg' 30 rfl rfl S rfl rfl rfl) rfl rfl S (y_move rfl S rfl) fun a S => ?_)
  refine wl_of (op_y (wg' 30 rfl rfl S rfl rfl rfl) rfl rfl S (y_move rfl S rfl) fun a S => ?_)
  refine wl_of (op_y (wg' 30 rfl rfl S rfl rfl rfl) rfl rfl S (y_bin rfl S rfl rfl rfl) fun a S => ?_)
  refine wl_of (op_y (wn rfl) rfl rfl S (y_or' rfl rfl S rfl rfl) fun a S => ?_)
  refine gl_nil ?_
  refine n_then ?_
  have S := ((((((S.nil.cons S 6 rfl).cons S 5 rfl).cons S 0 rfl).cons S 14 rfl).cons S 15 rfl).cons S 16 rfl).cons S 34 rfl
  -- cond 1
  refine c_if S rfl (fun h2 => ?_) (fun h2 => ?_)
  · have h2p := h2; try simp only [Option.isNone_some, Option.isNone_none, Option.isSome_some, Option.isSome_none, false_or, or_false, true_and, and_true, decide_eq_true_eq, decide_eq_false_iff_not, Bool.or_eq_true, Bool.and_eq_true, Bool.or_eq_false_iff, Bool.and_eq_false_iff, Bool.not_eq_true', Bool.not_eq_false', bne_iff_ne, beq_iff_eq, beq_eq_false_iff_ne, bne_eq_false_iff_eq, ne_eq, Decidable.not_not, Int.not_lt, Int.not_le, gt_iff_lt, ge_iff_le, Bool.true_eq_false, Bool.false_eq_true, not_true_eq_false, not_false_eq_true] at h2p
    refine g_seq ?_
    -- region 4 law.go:83
    refine g_region ?_
    refine wl_of (op_y (wn rfl) rfl rfl S (y_move rfl S rfl) fun a S => ?_)
    refine wl_of (op_y (wn rfl) rfl rfl S (y_assign rfl S rfl) fun a S => ?_)
    refine gl_nil ?_
    refine n_then ?_
    refine g_ret ?_
    refine r_then (ret1 rfl S rfl ?_)
    exact ⟨rfl, H.toExt⟩
  · have h2p := h2; try simp only [Option.isNone_some, Option.isNone_none, Option.isSome_some, Option.isSome_none, false_or, or_false, true_and, and_true, decide_eq_true_eq, decide_eq_false_iff_not, Bool.or_eq_true, Bool.and_eq_true, Bool.or_eq_false_iff, Bool.and_eq_false_iff, Bool.not_eq_true', Bool.not_eq_false', bne_iff_ne, beq_iff_eq, beq_eq_false_iff_ne, bne_eq_false_iff_eq, ne_eq, Decidable.not_not, Int.not_lt, Int.not_le, gt_iff_lt, ge_iff_le, Bool.true_eq_false, Bool.false_eq_true, not_true_eq_false, not_false_eq_true] at h2p
    have hle : now ≤ later := by simpa using h2
    have hct := (called_take r hle).1
    have hcl : (called r later).length ≤ order.length := by have := called_len r later; rwa [har.order] at this
    refine g_skip ?_
    refine n_then ?_
    refine g_seq ?_
    -- region 5 law.go:85
    refine g_region ?_
    refine wl_of (op_y (wn rfl) rfl rfl S (y_move rfl S rfl) fun a S => ?_)
    refine wl_of (op_y (wn rfl) rfl rfl S (y_move rfl S rfl) fun a S => ?_)
    refine wl_of (op_call (wn rfl) rfl rfl S (co_func rfl Try.call13 S rfl) (called_spec b ms mp vo v0 r now (l.length) _ (H.front (RoomA b ms mp vo r v0)) hwr) fun u38 w hc a S => ?_)
    have H1 := hc
    have H := H.call1 H1 rfl
    refine wl_of (op_y (wn rfl) rfl rfl S (y_move rfl S rfl) fun a S => ?_)
    refine wl_of (op_y (wn rfl) rfl rfl S (y_move rfl S rfl) fun a S => ?_)
    refine wl_of (op_call (wn rfl) rfl rfl S (co_func rfl Try.call13 S rfl) (called_spec b ms mp vo v0 r later (l.length) _ (H.front (RoomA b ms mp vo r v0)) hwr) fun u41 w hc a S => ?_)
    have H1 := hc
    have H := H.call1 H1 rfl
    refine wl_of (op_y (wn rfl) rfl rfl S (y_assign rfl S rfl) fun a S => ?_)
    refine wl_of (op_y (wn rfl) rfl rfl S (y_assign rfl S rfl) fun a S => ?_)
    refine gl_nil ?_
    refine n_then ?_
    have S := ((((S.nil.cons S 0 rfl).cons S 14 rfl).cons S 15 rfl).cons S 17 rfl).cons S 18 rfl
    refine g_seq ?_
    refine g_seq ?_
    -- region 6 law.go:86
    refine g_region ?_
    refine wl_of (op_y (wn rfl) rfl rfl S (y_move rfl S rfl) fun a S => ?_)
    refine wl_of (op_y (wn rfl) rfl rfl S (y_lens rfl Try.underlying22 S H rfl) fun a S => ?_)
    refine wl_of (op_y (wn rfl) rfl rfl S (y_move rfl S rfl) fun a S => ?_)
    refine wl_of (op_y (wn rfl) rfl rfl S (y_lens rfl Try.underlying22 S H rfl) fun a S => ?_)
    refine wl_of (op_y (wn rfl) rfl rfl S (y_bin rfl S rfl rfl rfl) fun a S => ?_)
    refine wl_of (op_y (wn rfl) rfl rfl S (y_move rfl S rfl) fun a S => ?_)
    refine wl_of (op_y (wg' 47 rfl rfl S rfl (decide_eq_false (by have := (called_take r hle).1; omega)) rfl) rfl rfl S (y_move rfl S rfl) fun a S => ?_)
    refine wl_of (op_y (wg' 47 rfl rfl S rfl (decide_eq_false (by have := (called_take r hle).1; omega)) rfl) rfl rfl S (y_move rfl S rfl) fun a S => ?_)
    refine wl_of (op_y (wg' 47 rfl rfl S rfl (decide_eq_false (by have := (called_take r hle).1; omega)) rfl) rfl rfl S (y_move rfl S rfl) fun a S => ?_)
    refine wl_of (op_y (wg' 47 rfl rfl S rfl (decide_eq_false (by have := (called_take r hle).1; omega)) rfl) rfl rfl S (y_lens rfl Try.underlying22 S H rfl) fun a S => ?_)
    refine wl_of (op_y (wg' 47 rfl rfl S rfl (decide_eq_false (by have := (called_take r hle).1; omega)) rfl) rfl rfl S (y_sliceH rfl Try.underlying22 Fsiz3 S H rfl rfl (by first | assumption | omega | (simp only [List.length_append, List.length_take, List.length_drop, List.length_replicate, List.length_set, List.length_map, List.length_cons, List.length_nil]; omega))) fun a S => ?_)
    refine wl_of (op_call (wg' 47 rfl rfl S rfl (decide_eq_false (by have := (called_take r hle).1; omega)) rfl) rfl rfl S (co_func rfl Try.call12 S rfl) (ints_spec u38 (subV u41 0 (called r now).length 1) (called r now) (((called r later).take (called r now).length).drop 0) _ (H.sl _) (H.sl _)) fun v w hc a S => ?_)
    obtain ⟨rfl, he⟩ := hc
    have H := H.ext he
    refine wl_of (op_y (wg' 47 rfl rfl S rfl (decide_eq_false (by have := (called_take r hle).1; omega)) rfl) rfl rfl S (y_not rfl S rfl) fun a S => ?_)
    refine wl_of (op_y (wn rfl) rfl rfl S (y_or' rfl (decide_eq_false (by have := (called_take r hle).1; omega)) S rfl rfl) fun a S => ?_)
    refine gl_nil ?_
    refine n_then ?_
    have S := ((((S.nil.cons S 0 rfl).cons S 14 rfl).cons S 15 rfl).cons S 18 rfl).cons S 55 rfl
    -- cond 2
    refine c_if S rfl (fun h4 => ?_) (fun h4 => ?_)
    · have h4p := h4; try simp only [Option.isNone_some, Option.isNone_none, Option.isSome_some, Option.isSome_none, false_or, or_false, true_and, and_true, decide_eq_true_eq, decide_eq_false_iff_not, Bool.or_eq_true, Bool.and_eq_true, Bool.or_eq_false_iff, Bool.and_eq_false_iff, Bool.not_eq_true', Bool.not_eq_false', bne_iff_ne, beq_iff_eq, beq_eq_false_iff_ne, bne_eq_false_iff_eq, ne_eq, Decidable.not_not, Int.not_lt, Int.not_le, gt_iff_lt, ge_iff_le, Bool.true_eq_false, Bool.false_eq_true, not_true_eq_false, not_false_eq_true] at h4p
      all_goals (
        exfalso; rw [List.drop_zero, ← (called_take r hle).2] at h4; have hq := (called_take r hle).1; simp at h4; omega)
    · have h4p := h4; try simp only [Option.isNone_some, Option.isNone_none, Option.isSome_some, Option.isSome_none, false_or, or_false, true_and, and_true, decide_eq_true_eq, decide_eq_false_iff_not, Bool.or_eq_true, Bool.and_eq_true, Bool.or_eq_false_iff, Bool.and_eq_false_iff, Bool.not_eq_true', Bool.not_eq_false', bne_iff_ne, beq_iff_eq, beq_eq_false_iff_ne, bne_eq_false_iff_eq, ne_eq, Decidable.not_not, Int.not_lt, Int.not_le, gt_iff_lt, ge_iff_le, Bool.true_eq_false, Bool.false_eq_true, not_true_eq_false, not_false_eq_true] at h4p
      refine g_skip ?_
      refine n_then ?_
      refine g_seq ?_
      -- region 8 law.go:89
      refine g_region ?_
      refine wl_of (op_y (wn rfl) rfl rfl S (y_assign rfl S rfl) fun a S => ?_)
      refine gl_nil ?_
      refine n_then ?_
      refine g_seq ?_
      refine g_seq ?_
      -- region 9 law.go:90
      refine g_region ?_
      refine wl_of (op_y (wn rfl) rfl rfl S (y_assign rfl S rfl) fun a S => ?_)
      refine gl_nil ?_
      refine n_then ?_
      refine g_block ?_
      -- slots written in the loop and forgotten at its head: [14]
      have SU := ((S.nil.cons S 0 rfl).cons S 15 rfl).cons S 18 rfl
      refine loop_k (X := Nat × Nat) SU (fun x => [(19, .int .i64 (x.1 : Int)), (20, .int .i64 (x.2 : Int))]) (fun x => x.1 ≤ order.length ∧ x.2 ≤ (called r later).length ∧ ((called r later).drop x.2).Sublist (order.drop x.1)) (fun x => (called r later).length - x.2) (0, 0) ((S.nil.cons S 20 rfl).cons S 19 rfl) H (⟨by simp, by simp, by have := called_sub r later; rw [har.order] at this; simpa [newRM] using this⟩) (fun x a w S H hi => ?_)
      simp only [List.cons_append, List.nil_append] at S hi
      obtain ⟨k, i⟩ := x
      obtain ⟨hk, hii, hs⟩ := hi
      dsimp only at S hk hii hs
      refine g_seq ?_
      refine g_seq ?_
      -- region 10 law.go:90
      refine g_region ?_
      refine wl_of (op_y (wn rfl) rfl rfl S (y_move rfl S rfl) fun a S => ?_)
      refine wl_of (op_y (wn rfl) rfl rfl S (y_move rfl S rfl) fun a S => ?_)
      refine wl_of (op_y (wn rfl) rfl rfl S (y_lens rfl Try.underlying22 S H rfl) fun a S => ?_)
      refine wl_of (op_y (wn rfl) rfl rfl S (y_bin rfl S rfl rfl rfl) fun a S => ?_)
      refine gl_nil ?_
      refine n_then ?_
      -- cond 3
      refine c_if S rfl (fun h5 => ?_) (fun h5 => ?_)
      · have h5p := h5; try simp only [Option.isNone_some, Option.isNone_none, Option.isSome_some, Option.isSome_none, false_or, or_false, true_and, and_true, decide_eq_true_eq, decide_eq_false_iff_not, Bool.or_eq_true, Bool.and_eq_true, Bool.or_eq_false_iff, Bool.and_eq_false_iff, Bool.not_eq_true', Bool.not_eq_false', bne_iff_ne, beq_iff_eq, beq_eq_false_iff_ne, bne_eq_false_iff_eq, ne_eq, Decidable.not_not, Int.not_lt, Int.not_le, gt_iff_lt, ge_iff_le, Bool.true_eq_false, Bool.false_eq_true, not_true_eq_false, not_false_eq_true] at h5p
        have hil : i < (called r later).length := by omega
        refine g_skip ?_
        refine n_then ?_
        refine g_seq ?_
        refine g_block ?_
        refine g_seq ?_
        refine g_block ?_
        have SU := (((((((S.nil.cons S 0 rfl).cons S 15 rfl).cons S 18 rfl).cons S 20 rfl).cons S 56 rfl).cons S 57 rfl).cons S 58 rfl).cons S 59 rfl
        refine loop_k (X := Nat) SU (fun j => [(19, .int .i64 (j : Int))]) (fun j => j ≤ order.length ∧ ((called r later).drop i).Sublist (order.drop j)) (fun j => order.length - j) k (S.nil.cons S 19 rfl) H (⟨hk, hs⟩) (fun j a w S H hi => ?_)
        simp only [List.cons_append, List.nil_append] at S hi
        obtain ⟨hj, hs⟩ := hi
        refine g_seq ?_
        refine g_seq ?_
        -- region 12 DRAWS law.go:91
        refine region_st (loud := []) (tails := []) (free := []) [0, 1, 2, 3, 4, 5, 6, 7, 8, 9, 10, 11, 12, 13, 14] [] Fmo (by kernel_rfl) (by kernel_rfl) rfl H ?_
        refine m_w rfl rfl (wn rfl) rfl rfl S (fun w H => y_move rfl S rfl) fun a S => ?_
        refine m_w rfl rfl (wn rfl) rfl rfl S (fun w H => y_move rfl S rfl) fun a S => ?_
        refine m_w rfl rfl (wn rfl) rfl rfl S (fun w H => y_lens rfl Try.underlying22 S H rfl) fun a S => ?_
        refine m_w rfl rfl (wn rfl) rfl rfl S (fun w H => y_bin rfl S rfl rfl rfl) fun a S => ?_
        refine m_w rfl rfl (wn rfl) rfl rfl S (fun w H => y_move rfl S rfl) fun a S => ?_
        refine' m_andq [5, 6, 7, 8, 9, 10, 11, 12, 13] 66 S rfl rfl rfl rfl rfl rfl rfl rfl rfl (fun _ S => (wn rfl)) (fun h6 kk => ?yh6) (fun a S => ?_)
        case yh6 =>
          have h6p := h6; try simp only [Option.isNone_some, Option.isNone_none, Option.isSome_some, Option.isSome_none, false_or, or_false, true_and, and_true, decide_eq_true_eq, decide_eq_false_iff_not, Bool.or_eq_true, Bool.and_eq_true, Bool.or_eq_false_iff, Bool.and_eq_false_iff, Bool.not_eq_true', Bool.not_eq_false', bne_iff_ne, beq_iff_eq, beq_eq_false_iff_ne, bne_eq_false_iff_eq, ne_eq, Decidable.not_not, Int.not_lt, Int.not_le, gt_iff_lt, ge_iff_le, Bool.true_eq_false, Bool.false_eq_true, not_true_eq_false, not_false_eq_true] at h6p
          refine m_w rfl rfl (wg' 66 rfl rfl S rfl h6 rfl) rfl rfl S (fun w H => y_move rfl S rfl) fun a S => ?_
          refine m_w rfl rfl (wg' 66 rfl rfl S rfl h6 rfl) rfl rfl S (fun w H => y_move rfl S rfl) fun a S => ?_
          refine m_w rfl rfl (wg' 66 rfl rfl S rfl h6 rfl) rfl rfl S (fun w H => y_iaddrn rfl Try.underlying22 Fsiz3 S H rfl rfl (by first | assumption | omega | (simp only [List.length_append, List.length_take, List.length_drop, List.length_replicate, List.length_set, List.length_map, List.length_cons, List.length_nil]; omega))) fun a S => ?_
          refine m_w rfl rfl (wg' 66 rfl rfl S rfl h6 rfl) rfl rfl S (fun w H => y_loadsD _ 0 rfl Fsca3 S H rfl (by omega) rfl) fun a S => ?_
          refine m_w rfl rfl (wg' 66 rfl rfl S rfl h6 rfl) rfl rfl S (fun w H => y_move rfl S rfl) fun a S => ?_
          refine m_w rfl rfl (wg' 66 rfl rfl S rfl h6 rfl) rfl rfl S (fun w H => y_move rfl S rfl) fun a S => ?_
          refine m_w rfl rfl (wg' 66 rfl rfl S rfl h6 rfl) rfl rfl S (fun w H => y_iaddrn rfl Try.underlying22 Fsiz3 S H rfl rfl (by first | assumption | omega | (simp only [List.length_append, List.length_take, List.length_drop, List.length_replicate, List.length_set, List.length_map, List.length_cons, List.length_nil]; omega))) fun a S => ?_
          refine m_w rfl rfl (wg' 66 rfl rfl S rfl h6 rfl) rfl rfl S (fun w H => y_loadsD _ 0 rfl Fsca3 S H rfl (by omega) rfl) fun a S => ?_
          refine m_w rfl rfl (wg' 66 rfl rfl S rfl h6 rfl) rfl rfl S (fun w H => y_bin rfl S rfl rfl rfl) fun a S => ?_
          refine m_w rfl rfl (wn rfl) rfl rfl S (fun w H => y_and' rfl h6 S rfl rfl) fun a S => ?_
          exact kk _ (S.join 10 76 rfl rfl)
        refine m_nil (fun w H => ?_)
        refine n_then ?_
        -- cond 4
        refine c_if S rfl (fun h7 => ?_) (fun h7 => ?_)
        · have h7p := h7; try simp only [Option.isNone_some, Option.isNone_none, Option.isSome_some, Option.isSome_none, false_or, or_false, true_and, and_true, decide_eq_true_eq, decide_eq_false_iff_not, Bool.or_eq_true, Bool.and_eq_true, Bool.or_eq_false_iff, Bool.and_eq_false_iff, Bool.not_eq_true', Bool.not_eq_false', bne_iff_ne, beq_iff_eq, beq_eq_false_iff_ne, bne_eq_false_iff_eq, ne_eq, Decidable.not_not, Int.not_lt, Int.not_le, gt_iff_lt, ge_iff_le, Bool.true_eq_false, Bool.false_eq_true, not_true_eq_false, not_false_eq_true] at h7p
          have hjl : j < order.length := by have := h7p.1; omega
          have hne : order[j] ≠ (called r later)[i] := by have := h7p.2; rwa [getD_at order j hjl, getD_at _ i hil] at this
          refine g_skip ?_
          refine n_then ?_
          refine g_block ?_
          -- region 13 law.go:92
          refine g_region ?_
          refine wl_of (op_y (wn rfl) rfl rfl S (y_move rfl S rfl) fun a S => ?_)
          refine wl_of (op_y (wn rfl) rfl rfl S (y_add rfl S rfl rfl (by omega)) fun a S => ?_)
          refine wl_of (op_y (wn rfl) rfl rfl S (y_assign rfl S rfl) fun a S => ?_)
          refine gl_nil ?_
          refine n_block ?_
          refine n_then ?_
          refine ⟨j + 1, S.nil.cons S 19 rfl, (((((((S.nil.cons S 0 rfl).cons S 15 rfl).cons S 18 rfl).cons S 20 rfl).cons S 56 rfl).cons S 57 rfl).cons S 58 rfl).cons S 59 rfl, H, ?_, ?_⟩
          · exact ⟨by omega, sub_next hjl hil hs hne⟩
          · omega
        · have h7p := h7; try simp only [Option.isNone_some, Option.isNone_none, Option.isSome_some, Option.isSome_none, false_or, or_false, true_and, and_true, decide_eq_true_eq, decide_eq_false_iff_not, Bool.or_eq_true, Bool.and_eq_true, Bool.or_eq_false_iff, Bool.and_eq_false_iff, Bool.not_eq_true', Bool.not_eq_false', bne_iff_ne, beq_iff_eq, beq_eq_false_iff_ne, bne_eq_false_iff_eq, ne_eq, Decidable.not_not, Int.not_lt, Int.not_le, gt_iff_lt, ge_iff_le, Bool.true_eq_false, Bool.false_eq_true, not_true_eq_false, not_false_eq_true] at h7p
          refine g_exit ?_
          refine x_then (x_then (x_eq ?_))
          refine n_then ?_
          refine g_seq ?_
          refine g_seq ?_
          -- region 14 law.go:94
          refine g_region ?_
          refine wl_of (op_y (wn rfl) rfl rfl S (y_move rfl S rfl) fun a S => ?_)
          refine wl_of (op_y (wn rfl) rfl rfl S (y_move rfl S rfl) fun a S => ?_)
          refine wl_of (op_y (wn rfl) rfl rfl S (y_lens rfl Try.underlying22 S H rfl) fun a S => ?_)
          refine wl_of (op_y (wn rfl) rfl rfl S (y_bin rfl S rfl rfl rfl) fun a S => ?_)
          refine gl_nil ?_
          refine n_then ?_
          -- cond 5
          refine c_if S rfl (fun h8 => ?_) (fun h8 => ?_)
          · have h8p := h8; try simp only [Option.isNone_some, Option.isNone_none, Option.isSome_some, Option.isSome_none, false_or, or_false, true_and, and_true, decide_eq_true_eq, decide_eq_false_iff_not, Bool.or_eq_true, Bool.and_eq_true, Bool.or_eq_false_iff, Bool.and_eq_false_iff, Bool.not_eq_true', Bool.not_eq_false', bne_iff_ne, beq_iff_eq, beq_eq_false_iff_ne, bne_eq_false_iff_eq, ne_eq, Decidable.not_not, Int.not_lt, Int.not_le, gt_iff_lt, ge_iff_le, Bool.true_eq_false, Bool.false_eq_true, not_true_eq_false, not_false_eq_true] at h8p
            all_goals (
              exfalso
              have e : j = order.length := by simp at h8; omega
              subst e
              exact sub_end hil hs)
          · have h8p := h8; try simp only [Option.isNone_some, Option.isNone_none, Option.isSome_some, Option.isSome_none, false_or, or_false, true_and, and_true, decide_eq_true_eq, decide_eq_false_iff_not, Bool.or_eq_true, Bool.and_eq_true, Bool.or_eq_false_iff, Bool.and_eq_false_iff, Bool.not_eq_true', Bool.not_eq_false', bne_iff_ne, beq_iff_eq, beq_eq_false_iff_ne, bne_eq_false_iff_eq, ne_eq, Decidable.not_not, Int.not_lt, Int.not_le, gt_iff_lt, ge_iff_le, Bool.true_eq_false, Bool.false_eq_true, not_true_eq_false, not_false_eq_true] at h8p
            have hjl : j < order.length := by omega
            have hee : order[j] = (called r later)[i] := by
              have h4 := h7p
              rcases h4 with h4 | h4
              · omega
              · rwa [getD_at order j hjl, getD_at _ i hil] at h4
            refine g_skip ?_
            refine n_then ?_
            -- region 16 law.go:97
            refine g_region ?_
            refine wl_of (op_y (wn rfl) rfl rfl S (y_move rfl S rfl) fun a S => ?_)
            refine wl_of (op_y (wn rfl) rfl rfl S (y_add rfl S rfl rfl (by omega)) fun a S => ?_)
            refine wl_of (op_y (wn rfl) rfl rfl S (y_assign rfl S rfl) fun a S => ?_)
            refine gl_nil ?_
            refine n_block ?_
            refine n_then ?_
            -- region 11 law.go:90
            refine g_region ?_
            refine wl_of (op_y (wn rfl) rfl rfl S (y_move rfl S rfl) fun a S => ?_)
            refine wl_of (op_y (wn rfl) rfl rfl S (y_add rfl S rfl rfl (by omega)) fun a S => ?_)
            refine wl_of (op_y (wn rfl) rfl rfl S (y_assign rfl S rfl) fun a S => ?_)
            refine gl_nil ?_
            refine n_then ?_
            refine ⟨(j + 1, i + 1), (S.nil.cons S 20 rfl).cons S 19 rfl, ((S.nil.cons S 0 rfl).cons S 15 rfl).cons S 18 rfl, H, ?_, ?_⟩
            · exact ⟨by dsimp only; omega, by dsimp only; omega, sub_both hjl hil hs hee⟩
            · dsimp only; omega
      · have h5p := h5; try simp only [Option.isNone_some, Option.isNone_none, Option.isSome_some, Option.isSome_none, false_or, or_false, true_and, and_true, decide_eq_true_eq, decide_eq_false_iff_not, Bool.or_eq_true, Bool.and_eq_true, Bool.or_eq_false_iff, Bool.and_eq_false_iff, Bool.not_eq_true', Bool.not_eq_false', bne_iff_ne, beq_iff_eq, beq_eq_false_iff_ne, bne_eq_false_iff_eq, ne_eq, Decidable.not_not, Int.not_lt, Int.not_le, gt_iff_lt, ge_iff_le, Bool.true_eq_false, Bool.false_eq_true, not_true_eq_false, not_false_eq_true] at h5p
        refine g_exit ?_
        refine x_then (x_then (x_eq ?_))
        refine n_then ?_
        have S := S.nil.cons S 15 rfl
        refine g_seq ?_
        -- region 17 law.go:99
        refine g_region ?_
        refine wl_of (op_y (wn rfl) rfl rfl S (y_move rfl S rfl) fun a S => ?_)
        refine wl_of (op_y (wn rfl) rfl rfl S (y_assign rfl S rfl) fun a S => ?_)
        refine gl_nil ?_
        refine n_then ?_
        refine g_ret ?_
        refine ret1 rfl S rfl ?_
        exact ⟨rfl, H.toExt⟩

end Go.Proofs.Ytgplcgfdaoenfaa
