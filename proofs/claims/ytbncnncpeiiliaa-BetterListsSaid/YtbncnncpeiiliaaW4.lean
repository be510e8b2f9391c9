/- The walks. No condition. -/
import Derived.Test.YtbncnncpeiiliaaChecked
import Derived.Test.YtbncnncpeiiliaaGwRows
import Derived.Test.YtbncnncpeiiliaaFacts
import Derived.Test.YtbncnncpeiiliaaPlain
import Derived.Test.YtbncnncpeiiliaaW3
namespace Go.Proofs.Ytbncnncpeiiliaa
open Go Go.Gw
set_option linter.unusedVariables false
set_option linter.unusedSimpArgs false
set_option maxHeartbeats 1000000 in
/-- foyer/foyerlaw39.BetterMatchesReference -/
theorem law1 (v1 v2 : Value) (old next : List Pl) (w0 : World) (hv1 : IsSl w0 v1 9 Pl.enc old) (hv2 : IsSl w0 v2 9 Pl.enc next) :
    Ret Try.prog 3 #[v1, v2] w0 (fun v w => v = .bool true ∧ Ext w0 w) := by
  refine ret_of_wp (nt := 58) Try.func3 rfl rfl rfl (fl := [(0, v1), (1, v2)]) rfl (fun a S => ?_)
  have H := HSat.start w0
  have H := H.ro0 (Sl v1 9 Pl.enc old) rfl (hv1)
  have H := H.ro0 (Sl v2 9 Pl.enc next) rfl (hv2)
  refine g_seq ?_
  -- region 0 law.go:23
  refine g_region ?_
  refine wl_of (op_y (wn rfl) rfl rfl S (y_assign rfl S rfl) fun a S => ?_)
  refine gl_nil ?_
  refine n_then ?_
  refine g_seq ?_
  -- region 1 law.go:24
  refine g_region ?_
  refine wl_of (op_call (wn rfl) rfl rfl S (co_func rfl Try.call8 S rfl) (head_spec _) fun v w hc a S => ?_)
  obtain ⟨rfl, he⟩ := hc
  have H := H.ext he
  refine wl_of (op_y (wn rfl) rfl rfl S (y_assign rfl S rfl) fun a S => ?_)
  refine gl_nil ?_
  refine n_then ?_
  refine g_seq ?_
  refine g_seq ?_
  -- region 2 law.go:25
  refine g_region ?_
  refine wl_of (op_y (wn rfl) rfl rfl S (y_move rfl S rfl) fun a S => ?_)
  refine wl_of (op_y (wn rfl) rfl rfl S (y_lens rfl Try.underlying22 S H rfl) fun a S => ?_)
  refine wl_of (op_y (wn rfl) rfl rfl S (y_bin rfl S rfl rfl rfl) fun a S => ?_)
  refine wl_of (op_y (wn rfl) rfl rfl S (y_move rfl S rfl) fun a S => ?_)
  refine' wl_or 3 11 rfl S H rfl rfl rfl rfl rfl rfl rfl (fun _ S => (wn rfl)) (fun h1 kk => ?yh1) (fun a w S H => ?_)
  case yh1 =>
    have h1p := h1; try simp only [Option.isNone_some, Option.isNone_none, Option.isSome_some, Option.isSome_none, false_or, or_false, true_and, and_true, decide_eq_true_eq, decide_eq_false_iff_not, Bool.or_eq_true, Bool.and_eq_true, Bool.or_eq_false_iff, Bool.and_eq_false_iff, Bool.not_eq_true', Bool.not_eq_false', bne_iff_ne, beq_iff_eq, beq_eq_false_iff_ne, bne_eq_false_iff_eq, ne_eq, Decidable.not_not, Int.not_lt, Int.not_le, gt_iff_lt, ge_iff_le, Bool.true_eq_false, Bool.false_eq_true, not_true_eq_false, not_false_eq_true] at h1p
    refine wl_of (op_y (wg' 11 rfl rfl S rfl h1 rfl) rfl rfl S (y_move rfl S rfl) fun a S => ?_)
    refine wl_of (op_y (wg' 11 rfl rfl S rfl h1 rfl) rfl rfl S (y_lens rfl Try.underlying22 S H rfl) fun a S => ?_)
    refine wl_of (op_y (wg' 11 rfl rfl S rfl h1 rfl) rfl rfl S (y_bin rfl S rfl rfl rfl) fun a S => ?_)
    refine wl_of (op_y (wn rfl) rfl rfl S (y_or' rfl h1 S rfl rfl) fun a S => ?_)
    exact kk _ _ (S.join 4 15 rfl rfl) H
  refine gl_nil ?_
  refine n_then ?_
  have S := ((((S.nil.cons S 1 rfl).cons S 0 rfl).cons S 4 rfl).cons S 5 rfl).cons S 15 rfl
  -- cond 1
  refine c_if S rfl (fun h2 => ?_) (fun h2 => ?_)
  · have h2p := h2; try simp only [Option.isNone_some, Option.isNone_none, Option.isSome_some, Option.isSome_none, false_or, or_false, true_and, and_true, decide_eq_true_eq, decide_eq_false_iff_not, Bool.or_eq_true, Bool.and_eq_true, Bool.or_eq_false_iff, Bool.and_eq_false_iff, Bool.not_eq_true', Bool.not_eq_false', bne_iff_ne, beq_iff_eq, beq_eq_false_iff_ne, bne_eq_false_iff_eq, ne_eq, Decidable.not_not, Int.not_lt, Int.not_le, gt_iff_lt, ge_iff_le, Bool.true_eq_false, Bool.false_eq_true, not_true_eq_false, not_false_eq_true] at h2p
    refine g_seq ?_
    -- region 3 law.go:26
    refine g_region ?_
    refine wl_of (op_y (wn rfl) rfl rfl S (y_move rfl S rfl) fun a S => ?_)
    refine wl_of (op_y (wn rfl) rfl rfl S (y_assign rfl S rfl) fun a S => ?_)
    refine gl_nil ?_
    refine n_then ?_
    refine g_ret ?_
    refine r_then (ret1 rfl S rfl ?_)
    exact ⟨rfl, H.toExt⟩
  · have h2p := h2; try simp only [Option.isNone_some, Option.isNone_none, Option.isSome_some, Option.isSome_none, false_or, or_false, true_and, and_true, decide_eq_true_eq, decide_eq_false_iff_not, Bool.or_eq_true, Bool.and_eq_true, Bool.or_eq_false_iff, Bool.and_eq_false_iff, Bool.not_eq_true', Bool.not_eq_false', bne_iff_ne, beq_iff_eq, beq_eq_false_iff_ne, bne_eq_false_iff_eq, ne_eq, Decidable.not_not, Int.not_lt, Int.not_le, gt_iff_lt, ge_iff_le, Bool.true_eq_false, Bool.false_eq_true, not_true_eq_false, not_false_eq_true] at h2p
    refine g_skip ?_
    refine n_then ?_
    refine g_seq ?_
    refine g_seq ?_
    -- region 4 law.go:28
    refine g_region ?_
    refine wl_of (op_y (wn rfl) rfl rfl S (y_assign rfl S rfl) fun a S => ?_)
    refine gl_nil ?_
    refine n_then ?_
    refine g_block ?_
    -- slots written in the loop and forgotten at its head: [4]
    have SU := ((S.nil.cons S 1 rfl).cons S 0 rfl).cons S 5 rfl
    refine loop_k (X := Nat) SU (fun k => [(6, .int .i64 (k : Int))]) (fun k => k ≤ old.length ∧ k ≤ next.length) (fun k => old.length - k) 0 (S.nil.cons S 6 rfl) H (⟨by omega, by omega⟩) (fun k a w S H hi => ?_)
    simp only [List.cons_append, List.nil_append] at S hi
    refine g_seq ?_
    refine g_seq ?_
    -- region 5 law.go:28
    refine g_region ?_
    refine wl_of (op_y (wn rfl) rfl rfl S (y_move rfl S rfl) fun a S => ?_)
    refine wl_of (op_y (wn rfl) rfl rfl S (y_move rfl S rfl) fun a S => ?_)
    refine wl_of (op_y (wn rfl) rfl rfl S (y_lens rfl Try.underlying22 S H rfl) fun a S => ?_)
    refine wl_of (op_y (wn rfl) rfl rfl S (y_bin rfl S rfl rfl rfl) fun a S => ?_)
    refine wl_of (op_y (wn rfl) rfl rfl S (y_move rfl S rfl) fun a S => ?_)
    refine' wl_and 4 21 rfl S H rfl rfl rfl rfl rfl rfl rfl (fun _ S => (wn rfl)) (fun h3 kk => ?yh3) (fun a w S H => ?_)
    case yh3 =>
      have h3p := h3; try simp only [Option.isNone_some, Option.isNone_none, Option.isSome_some, Option.isSome_none, false_or, or_false, true_and, and_true, decide_eq_true_eq, decide_eq_false_iff_not, Bool.or_eq_true, Bool.and_eq_true, Bool.or_eq_false_iff, Bool.and_eq_false_iff, Bool.not_eq_true', Bool.not_eq_false', bne_iff_ne, beq_iff_eq, beq_eq_false_iff_ne, bne_eq_false_iff_eq, ne_eq, Decidable.not_not, Int.not_lt, Int.not_le, gt_iff_lt, ge_iff_le, Bool.true_eq_false, Bool.false_eq_true, not_true_eq_false, not_false_eq_true] at h3p
      refine wl_of (op_y (wg' 21 rfl rfl S rfl h3 rfl) rfl rfl S (y_move rfl S rfl) fun a S => ?_)
      refine wl_of (op_y (wg' 21 rfl rfl S rfl h3 rfl) rfl rfl S (y_move rfl S rfl) fun a S => ?_)
      refine wl_of (op_y (wg' 21 rfl rfl S rfl h3 rfl) rfl rfl S (y_lens rfl Try.underlying22 S H rfl) fun a S => ?_)
      refine wl_of (op_y (wg' 21 rfl rfl S rfl h3 rfl) rfl rfl S (y_bin rfl S rfl rfl rfl) fun a S => ?_)
      refine wl_of (op_y (wn rfl) rfl rfl S (y_and' rfl h3 S rfl rfl) fun a S => ?_)
      exact kk _ _ (S.join 5 26 rfl rfl) H
    refine gl_nil ?_
    refine n_then ?_
    -- cond 2
    refine c_if S rfl (fun h4 => ?_) (fun h4 => ?_)
    · have h4p := h4; try simp only [Option.isNone_some, Option.isNone_none, Option.isSome_some, Option.isSome_none, false_or, or_false, true_and, and_true, decide_eq_true_eq, decide_eq_false_iff_not, Bool.or_eq_true, Bool.and_eq_true, Bool.or_eq_false_iff, Bool.and_eq_false_iff, Bool.not_eq_true', Bool.not_eq_false', bne_iff_ne, beq_iff_eq, beq_eq_false_iff_ne, bne_eq_false_iff_eq, ne_eq, Decidable.not_not, Int.not_lt, Int.not_le, gt_iff_lt, ge_iff_le, Bool.true_eq_false, Bool.false_eq_true, not_true_eq_false, not_false_eq_true] at h4p
      refine g_skip ?_
      refine n_then ?_
      refine g_seq ?_
      refine g_block ?_
      refine g_seq ?_
      -- region 7 DRAWS law.go:29
      refine region_st (loud := []) (tails := []) (free := []) [0, 1, 2, 3, 4, 5, 6, 7, 8, 9, 10, 11, 12, 13, 14, 15, 16, 17, 18] [] Fmo (by kernel_rfl) (by kernel_rfl) rfl H ?_
      refine m_w rfl rfl (wn rfl) rfl rfl S (fun w H => y_move rfl S rfl) fun a S => ?_
      refine m_w rfl rfl (wn rfl) rfl rfl S (fun w H => y_move rfl S rfl) fun a S => ?_
      refine m_w rfl rfl (wn rfl) rfl rfl S (fun w H => y_iaddrn rfl Try.underlying22 Fsiz26 S H rfl rfl (by first | assumption | omega | (simp only [List.length_append, List.length_take, List.length_drop, List.length_replicate, List.length_set, List.length_map, List.length_cons, List.length_nil]; omega))) fun a S => ?_
      refine m_loadsa _ rfl rfl (wn rfl) rfl rfl S rfl rfl (by exact Fagg26) (by first | assumption | omega | (simp only [List.length_append, List.length_take, List.length_drop, List.length_replicate, List.length_set, List.length_map, List.length_cons, List.length_nil]; omega)) fun a S => ?_
      refine m_w rfl rfl (wn rfl) rfl rfl S (fun w H => y_move rfl S rfl) fun a S => ?_
      refine m_w rfl rfl (wn rfl) rfl rfl S (fun w H => y_move rfl S rfl) fun a S => ?_
      refine m_w rfl rfl (wn rfl) rfl rfl S (fun w H => y_iaddrn rfl Try.underlying22 Fsiz26 S H rfl rfl (by first | assumption | omega | (simp only [List.length_append, List.length_take, List.length_drop, List.length_replicate, List.length_set, List.length_map, List.length_cons, List.length_nil]; omega))) fun a S => ?_
      refine m_loadsa _ rfl rfl (wn rfl) rfl rfl S rfl rfl (by exact Fagg26) (by first | assumption | omega | (simp only [List.length_append, List.length_take, List.length_drop, List.length_replicate, List.length_set, List.length_map, List.length_cons, List.length_nil]; omega)) fun a S => ?_
      refine m_c rfl rfl (wn rfl) rfl rfl S (fun w => co_func rfl Try.call9 S rfl) (fun w H => atLeast_spec _ _ _) fun a S => ?_
      refine m_w rfl rfl (wn rfl) rfl rfl S (fun w H => y_move rfl S rfl) fun a S => ?_
      refine m_w rfl rfl (wn rfl) rfl rfl S (fun w H => y_move rfl S rfl) fun a S => ?_
      refine m_w rfl rfl (wn rfl) rfl rfl S (fun w H => y_iaddrn rfl Try.underlying22 Fsiz26 S H rfl rfl (by first | assumption | omega | (simp only [List.length_append, List.length_take, List.length_drop, List.length_replicate, List.length_set, List.length_map, List.length_cons, List.length_nil]; omega))) fun a S => ?_
      refine m_loadsa _ rfl rfl (wn rfl) rfl rfl S rfl rfl (by exact Fagg26) (by first | assumption | omega | (simp only [List.length_append, List.length_take, List.length_drop, List.length_replicate, List.length_set, List.length_map, List.length_cons, List.length_nil]; omega)) fun a S => ?_
      refine m_w rfl rfl (wn rfl) rfl rfl S (fun w H => y_move rfl S rfl) fun a S => ?_
      refine m_w rfl rfl (wn rfl) rfl rfl S (fun w H => y_move rfl S rfl) fun a S => ?_
      refine m_w rfl rfl (wn rfl) rfl rfl S (fun w H => y_iaddrn rfl Try.underlying22 Fsiz26 S H rfl rfl (by first | assumption | omega | (simp only [List.length_append, List.length_take, List.length_drop, List.length_replicate, List.length_set, List.length_map, List.length_cons, List.length_nil]; omega))) fun a S => ?_
      refine m_loadsa _ rfl rfl (wn rfl) rfl rfl S rfl rfl (by exact Fagg26) (by first | assumption | omega | (simp only [List.length_append, List.length_take, List.length_drop, List.length_replicate, List.length_set, List.length_map, List.length_cons, List.length_nil]; omega)) fun a S => ?_
      refine m_c rfl rfl (wn rfl) rfl rfl S (fun w => co_func rfl Try.call10 S rfl) (fun w H => refAtLeast_spec _ _ _) fun a S => ?_
      refine m_w rfl rfl (wn rfl) rfl rfl S (fun w H => y_neb rfl Try.underlying4 S rfl rfl) fun a S => ?_
      refine m_nil (fun w H => ?_)
      refine n_then ?_
      -- cond 3
      refine c_if S rfl (fun h5 => ?_) (fun h5 => ?_)
      · have h5p := h5; try simp only [Option.isNone_some, Option.isNone_none, Option.isSome_some, Option.isSome_none, false_or, or_false, true_and, and_true, decide_eq_true_eq, decide_eq_false_iff_not, Bool.or_eq_true, Bool.and_eq_true, Bool.or_eq_false_iff, Bool.and_eq_false_iff, Bool.not_eq_true', Bool.not_eq_false', bne_iff_ne, beq_iff_eq, beq_eq_false_iff_ne, bne_eq_false_iff_eq, ne_eq, Decidable.not_not, Int.not_lt, Int.not_le, gt_iff_lt, ge_iff_le, Bool.true_eq_false, Bool.false_eq_true, not_true_eq_false, not_false_eq_true] at h5p
        all_goals (
          exact absurd h5 (by simp))
      · have h5p := h5; try simp only [Option.isNone_some, Option.isNone_none, Option.isSome_some, Option.isSome_none, false_or, or_false, true_and, and_true, decide_eq_true_eq, decide_eq_false_iff_not, Bool.or_eq_true, Bool.and_eq_true, Bool.or_eq_false_iff, Bool.and_eq_false_iff, Bool.not_eq_true', Bool.not_eq_false', bne_iff_ne, beq_iff_eq, beq_eq_false_iff_ne, bne_eq_false_iff_eq, ne_eq, Decidable.not_not, Int.not_lt, Int.not_le, gt_iff_lt, ge_iff_le, Bool.true_eq_false, Bool.false_eq_true, not_true_eq_false, not_false_eq_true] at h5p
        refine g_skip ?_
        refine n_block ?_
        refine n_then ?_
        -- region 6 law.go:28
        refine g_region ?_
        refine wl_of (op_y (wn rfl) rfl rfl S (y_move rfl S rfl) fun a S => ?_)
        refine wl_of (op_y (wn rfl) rfl rfl S (y_add rfl S rfl rfl (by omega)) fun a S => ?_)
        refine wl_of (op_y (wn rfl) rfl rfl S (y_assign rfl S rfl) fun a S => ?_)
        refine gl_nil ?_
        refine n_then ?_
        refine ⟨k + 1, S.nil.cons S 6 rfl, ((S.nil.cons S 1 rfl).cons S 0 rfl).cons S 5 rfl, H, ?_, ?_⟩
        · omega
        · omega
    · have h4p := h4; try simp only [Option.isNone_some, Option.isNone_none, Option.isSome_some, Option.isSome_none, false_or, or_false, true_and, and_true, decide_eq_true_eq, decide_eq_false_iff_not, Bool.or_eq_true, Bool.and_eq_true, Bool.or_eq_false_iff, Bool.and_eq_false_iff, Bool.not_eq_true', Bool.not_eq_false', bne_iff_ne, beq_iff_eq, beq_eq_false_iff_ne, bne_eq_false_iff_eq, ne_eq, Decidable.not_not, Int.not_lt, Int.not_le, gt_iff_lt, ge_iff_le, Bool.true_eq_false, Bool.false_eq_true, not_true_eq_false, not_false_eq_true] at h4p
      refine g_exit ?_
      refine x_then (x_then (x_eq ?_))
      refine n_then ?_
      have S := ((S.nil.cons S 1 rfl).cons S 0 rfl).cons S 5 rfl
      refine g_seq ?_
      -- region 9 law.go:33
      refine g_region ?_
      refine wl_of (op_y (wn rfl) rfl rfl S (y_move rfl S rfl) fun a S => ?_)
      refine wl_of (op_y (wn rfl) rfl rfl S (y_move rfl S rfl) fun a S => ?_)
      refine' wl_and (B2 := (decide (edgesL old next = edgesL old next))) 7 49 rfl S H rfl rfl rfl rfl rfl rfl rfl (fun _ S => (wn rfl)) (fun h6 kk => ?yh6) (fun a w S H => ?_)
      case yh6 =>
        have h6p := h6; try simp only [Option.isNone_some, Option.isNone_none, Option.isSome_some, Option.isSome_none, false_or, or_false, true_and, and_true, decide_eq_true_eq, decide_eq_false_iff_not, Bool.or_eq_true, Bool.and_eq_true, Bool.or_eq_false_iff, Bool.and_eq_false_iff, Bool.not_eq_true', Bool.not_eq_false', bne_iff_ne, beq_iff_eq, beq_eq_false_iff_ne, bne_eq_false_iff_eq, ne_eq, Decidable.not_not, Int.not_lt, Int.not_le, gt_iff_lt, ge_iff_le, Bool.true_eq_false, Bool.false_eq_true, not_true_eq_false, not_false_eq_true] at h6p
        refine wl_of (op_y (wg' 49 rfl rfl S rfl h6 rfl) rfl rfl S (y_move rfl S rfl) fun a S => ?_)
        refine wl_of (op_y (wg' 49 rfl rfl S rfl h6 rfl) rfl rfl S (y_move rfl S rfl) fun a S => ?_)
        refine wl_of (op_call (wg' 49 rfl rfl S rfl h6 rfl) rfl rfl S (co_func rfl Try.call12 S rfl) (edges_spec v1 v2 old next _ (H.sl _) (H.sl _) (by omega) (by omega)) fun u52 w hc a S => ?_)
        obtain ⟨ps52, hps52, H1⟩ := hc
        have H := H.call2 H1 rfl rfl
        refine wl_of (op_y (wg' 49 rfl rfl S rfl h6 rfl) rfl rfl S (y_move rfl S rfl) fun a S => ?_)
        refine wl_of (op_y (wg' 49 rfl rfl S rfl h6 rfl) rfl rfl S (y_move rfl S rfl) fun a S => ?_)
        refine wl_of (op_call (wg' 49 rfl rfl S rfl h6 rfl) rfl rfl S (co_func rfl Try.call13 S rfl) (refEdges_spec v1 v2 old next _ (H.sl _) (H.sl _) (by omega) (by omega)) fun u55 w hc a S => ?_)
        obtain ⟨ps55, hps55, H1⟩ := hc
        have H := H.call2 H1 rfl rfl
        refine wl_of (op_call (wg' 49 rfl rfl S rfl h6 rfl) rfl rfl S (co_func rfl Try.call11 S rfl) (same_spec _ _ ps52 ps55 _ (H.sl _) (H.sl _) (H.rws 3 ps52) (H.rws 3 ps55)) fun v w hc a S => ?_)
        obtain ⟨rfl, he⟩ := hc
        have H := H.ext he
        rw [hps52, hps55] at S
        refine wl_of (op_y (wn rfl) rfl rfl S (y_and' rfl h6 S rfl rfl) fun a S => ?_)
        exact kk _ _ (S.join 8 57 rfl rfl) (H.drop 4)
      refine wl_of (op_y (wn rfl) rfl rfl S (y_assign rfl S rfl) fun a S => ?_)
      refine gl_nil ?_
      refine n_then ?_
      have S := S.nil.cons S 4 rfl
      refine g_ret ?_
      refine ret1 rfl S rfl ?_
      exact ⟨by simp, H.toExt⟩
set_option maxHeartbeats 1000000 in
/-- foyer/foyerlaw39.BetterOrder -/
theorem law2 (p q r : Pl) (w0 : World) :
    Ret Try.prog 4 #[.agg (Pl.enc p).toArray, .agg (Pl.enc q).toArray, .agg (Pl.enc r).toArray] w0 (fun v w => v = .bool true ∧ Ext w0 w) := by
  refine ret_of_wp (nt := 91) Try.func4 rfl rfl rfl (fl := [(0, .agg (Pl.enc p).toArray), (1, .agg (Pl.enc q).toArray), (2, .agg (Pl.enc r).toArray)]) rfl (fun a S => ?_)
  have H := HSat.start w0
  refine g_seq ?_
  -- region 0 law.go:37
  refine g_region ?_
  refine wl_of (op_boxa (wn rfl) rfl rfl rfl S H rfl fun b3 a w S H => ?_)
  refine wl_of (op_boxa (wn rfl) rfl rfl rfl S H rfl fun b4 a w S H => ?_)
  refine wl_of (op_boxa (wn rfl) rfl rfl rfl S H rfl fun b5 a w S H => ?_)
  refine wl_of (op_y (wn rfl) rfl rfl S (y_assign rfl S rfl) fun a S => ?_)
  refine gl_nil ?_
  refine n_then ?_
  refine g_seq ?_
  -- region 1 law.go:38
  refine g_region ?_
  refine wl_of (op_call (wn rfl) rfl rfl S (co_func rfl Try.call8 S rfl) (head_spec _) fun v w hc a S => ?_)
  obtain ⟨rfl, he⟩ := hc
  have H := H.ext he
  refine wl_of (op_y (wn rfl) rfl rfl S (y_assign rfl S rfl) fun a S => ?_)
  refine gl_nil ?_
  refine n_then ?_
  have S := ((((S.nil.cons S 3 rfl).cons S 4 rfl).cons S 5 rfl).cons S 6 rfl).cons S 7 rfl
  refine g_seq ?_
  -- region 2 DRAWS law.go:39
  refine region_st (loud := []) (tails := []) (free := []) [0, 1, 2, 3, 4, 5, 6, 7, 8, 9, 10, 11, 12, 13, 14, 15] [] Fmo (by kernel_rfl) (by kernel_rfl) rfl H ?_
  refine m_w rfl rfl (wn rfl) rfl rfl S (fun w H => y_load0 rfl S H rfl (by exact Fagg26)) fun a S => ?_
  refine m_w rfl rfl (wn rfl) rfl rfl S (fun w H => y_load0 rfl S H rfl (by exact Fagg26)) fun a S => ?_
  refine m_c rfl rfl (wn rfl) rfl rfl S (fun w => co_func rfl Try.call9 S rfl) (fun w H => atLeast_spec p q _) fun a S => ?_
  refine m_w rfl rfl (wn rfl) rfl rfl S (fun w H => y_load0 rfl S H rfl (by exact Fagg26)) fun a S => ?_
  refine m_w rfl rfl (wn rfl) rfl rfl S (fun w H => y_load0 rfl S H rfl (by exact Fagg26)) fun a S => ?_
  refine m_c rfl rfl (wn rfl) rfl rfl S (fun w => co_func rfl Try.call9 S rfl) (fun w H => atLeast_spec q p _) fun a S => ?_
  refine m_w rfl rfl (wn rfl) rfl rfl S (fun w H => y_load0 rfl S H rfl (by exact Fagg26)) fun a S => ?_
  refine m_w rfl rfl (wn rfl) rfl rfl S (fun w H => y_load0 rfl S H rfl (by exact Fagg26)) fun a S => ?_
  refine m_c rfl rfl (wn rfl) rfl rfl S (fun w => co_func rfl Try.call9 S rfl) (fun w H => atLeast_spec q r _) fun a S => ?_
  refine m_w rfl rfl (wn rfl) rfl rfl S (fun w H => y_load0 rfl S H rfl (by exact Fagg26)) fun a S => ?_
  refine m_w rfl rfl (wn rfl) rfl rfl S (fun w H => y_load0 rfl S H rfl (by exact Fagg26)) fun a S => ?_
  refine m_c rfl rfl (wn rfl) rfl rfl S (fun w => co_func rfl Try.call9 S rfl) (fun w H => atLeast_spec p r _) fun a S => ?_
  refine m_w rfl rfl (wn rfl) rfl rfl S (fun w H => y_assign rfl S rfl) fun a S => ?_
  refine m_w rfl rfl (wn rfl) rfl rfl S (fun w H => y_assign rfl S rfl) fun a S => ?_
  refine m_w rfl rfl (wn rfl) rfl rfl S (fun w H => y_assign rfl S rfl) fun a S => ?_
  refine m_w rfl rfl (wn rfl) rfl rfl S (fun w H => y_assign rfl S rfl) fun a S => ?_
  refine m_nil (fun w H => ?_)
  refine n_then ?_
  have S := (((((((S.nil.cons S 3 rfl).cons S 4 rfl).cons S 6 rfl).cons S 7 rfl).cons S 8 rfl).cons S 9 rfl).cons S 10 rfl).cons S 11 rfl
  refine g_seq ?_
  refine g_seq ?_
  -- region 3 law.go:40
  refine g_region ?_
  refine wl_of (op_y (wn rfl) rfl rfl S (y_load0 rfl S H rfl (by exact Fagg26)) fun a S => ?_)
  refine wl_of (op_y (wn rfl) rfl rfl S (y_load0 rfl S H rfl (by exact Fagg26)) fun a S => ?_)
  refine wl_of (op_call (wn rfl) rfl rfl S (co_func rfl Try.call9 S rfl) (atLeast_spec p p _) fun v w hc a S => ?_)
  obtain ⟨rfl, he⟩ := hc
  have H := H.ext he
  refine wl_of (op_y (wn rfl) rfl rfl S (y_not rfl S rfl) fun a S => ?_)
  refine wl_of (op_y (wn rfl) rfl rfl S (y_move rfl S rfl) fun a S => ?_)
  refine' wl_or 8 29 rfl S H rfl rfl rfl rfl rfl rfl rfl (fun _ S => (wn rfl)) (fun h1 kk => ?yh1) (fun a w S H => ?_)
  case yh1 =>
    have h1p := h1; try simp only [Option.isNone_some, Option.isNone_none, Option.isSome_some, Option.isSome_none, false_or, or_false, true_and, and_true, decide_eq_true_eq, decide_eq_false_iff_not, Bool.or_eq_true, Bool.and_eq_true, Bool.or_eq_false_iff, Bool.and_eq_false_iff, Bool.not_eq_true', Bool.not_eq_false', bne_iff_ne, beq_iff_eq, beq_eq_false_iff_ne, bne_eq_false_iff_eq, ne_eq, Decidable.not_not, Int.not_lt, Int.not_le, gt_iff_lt, ge_iff_le, Bool.true_eq_false, Bool.false_eq_true, not_true_eq_false, not_false_eq_true] at h1p
    refine wl_of (op_y (wg' 29 rfl rfl S rfl h1 rfl) rfl rfl S (y_move rfl S rfl) fun a S => ?_)
    refine wl_of (op_y (wg' 29 rfl rfl S rfl h1 rfl) rfl rfl S (y_move rfl S rfl) fun a S => ?_)
    refine' wl_and 1 31 rfl S H rfl rfl rfl rfl rfl rfl rfl (fun _ S => (wg' 29 rfl rfl S rfl h1 rfl)) (fun h2 kk => ?yh2) (fun a w S H => ?_)
    case yh2 =>
      have h2p := h2; try simp only [Option.isNone_some, Option.isNone_none, Option.isSome_some, Option.isSome_none, false_or, or_false, true_and, and_true, decide_eq_true_eq, decide_eq_false_iff_not, Bool.or_eq_true, Bool.and_eq_true, Bool.or_eq_false_iff, Bool.and_eq_false_iff, Bool.not_eq_true', Bool.not_eq_false', bne_iff_ne, beq_iff_eq, beq_eq_false_iff_ne, bne_eq_false_iff_eq, ne_eq, Decidable.not_not, Int.not_lt, Int.not_le, gt_iff_lt, ge_iff_le, Bool.true_eq_false, Bool.false_eq_true, not_true_eq_false, not_false_eq_true] at h2p
      refine wl_of (op_y (wg' 31 rfl rfl S rfl h2 rfl) rfl rfl S (y_move rfl S rfl) fun a S => ?_)
      refine wl_of (op_y (wg' 29 rfl rfl S rfl h1 rfl) rfl rfl S (y_and' rfl h2 S rfl rfl) fun a S => ?_)
      exact kk _ _ (S.join 2 33 rfl rfl) H
    refine wl_of (op_y (wg' 29 rfl rfl S rfl h1 rfl) rfl rfl S (y_move rfl S rfl) fun a S => ?_)
    refine' wl_and 2 34 rfl S H rfl rfl rfl rfl rfl rfl rfl (fun _ S => (wg' 29 rfl rfl S rfl h1 rfl)) (fun h3 kk => ?yh3) (fun a w S H => ?_)
    case yh3 =>
      have h3p := h3; try simp only [Option.isNone_some, Option.isNone_none, Option.isSome_some, Option.isSome_none, false_or, or_false, true_and, and_true, decide_eq_true_eq, decide_eq_false_iff_not, Bool.or_eq_true, Bool.and_eq_true, Bool.or_eq_false_iff, Bool.and_eq_false_iff, Bool.not_eq_true', Bool.not_eq_false', bne_iff_ne, beq_iff_eq, beq_eq_false_iff_ne, bne_eq_false_iff_eq, ne_eq, Decidable.not_not, Int.not_lt, Int.not_le, gt_iff_lt, ge_iff_le, Bool.true_eq_false, Bool.false_eq_true, not_true_eq_false, not_false_eq_true] at h3p
      refine wl_of (op_y (wg' 34 rfl rfl S rfl h3 rfl) rfl rfl S (y_move rfl S rfl) fun a S => ?_)
      refine wl_of (op_y (wg' 34 rfl rfl S rfl h3 rfl) rfl rfl S (y_not rfl S rfl) fun a S => ?_)
      refine wl_of (op_y (wg' 29 rfl rfl S rfl h1 rfl) rfl rfl S (y_and' rfl h3 S rfl rfl) fun a S => ?_)
      exact kk _ _ (S.join 3 37 rfl rfl) H
    refine wl_of (op_y (wn rfl) rfl rfl S (y_or' rfl h1 S rfl rfl) fun a S => ?_)
    exact kk _ _ (S.join 6 38 rfl rfl) H
  refine wl_of (op_y (wn rfl) rfl rfl S (y_move rfl S rfl) fun a S => ?_)
  refine' wl_or 18 39 rfl S H rfl rfl rfl rfl rfl rfl rfl (fun _ S => (wn rfl)) (fun h4 kk => ?yh4) (fun a w S H => ?_)
  case yh4 =>
    have h4p := h4; try simp only [Option.isNone_some, Option.isNone_none, Option.isSome_some, Option.isSome_none, false_or, or_false, true_and, and_true, decide_eq_true_eq, decide_eq_false_iff_not, Bool.or_eq_true, Bool.and_eq_true, Bool.or_eq_false_iff, Bool.and_eq_false_iff, Bool.not_eq_true', Bool.not_eq_false', bne_iff_ne, beq_iff_eq, beq_eq_false_iff_ne, bne_eq_false_iff_eq, ne_eq, Decidable.not_not, Int.not_lt, Int.not_le, gt_iff_lt, ge_iff_le, Bool.true_eq_false, Bool.false_eq_true, not_true_eq_false, not_false_eq_true] at h4p
    refine wl_of (op_y (wg' 39 rfl rfl S rfl h4 rfl) rfl rfl S (y_move rfl S rfl) fun a S => ?_)
    refine wl_of (op_y (wg' 39 rfl rfl S rfl h4 rfl) rfl rfl S (y_move rfl S rfl) fun a S => ?_)
    refine' wl_and 15 41 rfl S H rfl rfl rfl rfl rfl rfl rfl (fun _ S => (wg' 39 rfl rfl S rfl h4 rfl)) (fun h5 kk => ?yh5) (fun a w S H => ?_)
    case yh5 =>
      have h5p := h5; try simp only [Option.isNone_some, Option.isNone_none, Option.isSome_some, Option.isSome_none, false_or, or_false, true_and, and_true, decide_eq_true_eq, decide_eq_false_iff_not, Bool.or_eq_true, Bool.and_eq_true, Bool.or_eq_false_iff, Bool.and_eq_false_iff, Bool.not_eq_true', Bool.not_eq_false', bne_iff_ne, beq_iff_eq, beq_eq_false_iff_ne, bne_eq_false_iff_eq, ne_eq, Decidable.not_not, Int.not_lt, Int.not_le, gt_iff_lt, ge_iff_le, Bool.true_eq_false, Bool.false_eq_true, not_true_eq_false, not_false_eq_true] at h5p
      refine wl_of (op_y (wg' 41 rfl rfl S rfl h5 rfl) rfl rfl S (y_faddrb rfl Ffo26_0 S rfl) fun a S => ?_)
      refine wl_of (op_y (wg' 41 rfl rfl S rfl h5 rfl) rfl rfl S (y_load rfl Fsca3 S H rfl rfl) fun a S => ?_)
      refine wl_of (op_y (wg' 41 rfl rfl S rfl h5 rfl) rfl rfl S (y_faddrb rfl Ffo26_0 S rfl) fun a S => ?_)
      refine wl_of (op_y (wg' 41 rfl rfl S rfl h5 rfl) rfl rfl S (y_load rfl Fsca3 S H rfl rfl) fun a S => ?_)
      refine wl_of (op_y (wg' 41 rfl rfl S rfl h5 rfl) rfl rfl S (y_bin rfl S rfl rfl rfl) fun a S => ?_)
      refine wl_of (op_y (wg' 41 rfl rfl S rfl h5 rfl) rfl rfl S (y_move rfl S rfl) fun a S => ?_)
      refine' wl_or 8 47 rfl S H rfl rfl rfl rfl rfl rfl rfl (fun _ S => (wg' 41 rfl rfl S rfl h5 rfl)) (fun h6 kk => ?yh6) (fun a w S H => ?_)
      case yh6 =>
        have h6p := h6; try simp only [Option.isNone_some, Option.isNone_none, Option.isSome_some, Option.isSome_none, false_or, or_false, true_and, and_true, decide_eq_true_eq, decide_eq_false_iff_not, Bool.or_eq_true, Bool.and_eq_true, Bool.or_eq_false_iff, Bool.and_eq_false_iff, Bool.not_eq_true', Bool.not_eq_false', bne_iff_ne, beq_iff_eq, beq_eq_false_iff_ne, bne_eq_false_iff_eq, ne_eq, Decidable.not_not, Int.not_lt, Int.not_le, gt_iff_lt, ge_iff_le, Bool.true_eq_false, Bool.false_eq_true, not_true_eq_false, not_false_eq_true] at h6p
        refine wl_of (op_y (wg' 47 rfl rfl S rfl h6 rfl) rfl rfl S (y_faddrb rfl Ffo26_8 S rfl) fun a S => ?_)
        refine wl_of (op_y (wg' 47 rfl rfl S rfl h6 rfl) rfl rfl S (y_load rfl Fsca3 S H rfl rfl) fun a S => ?_)
        refine wl_of (op_y (wg' 47 rfl rfl S rfl h6 rfl) rfl rfl S (y_bin rfl S rfl rfl rfl) fun a S => ?_)
        refine wl_of (op_y (wg' 47 rfl rfl S rfl h6 rfl) rfl rfl S (y_move rfl S rfl) fun a S => ?_)
        refine' wl_and 3 51 rfl S H rfl rfl rfl rfl rfl rfl rfl (fun _ S => (wg' 47 rfl rfl S rfl h6 rfl)) (fun h7 kk => ?yh7) (fun a w S H => ?_)
        case yh7 =>
          have h7p := h7; try simp only [Option.isNone_some, Option.isNone_none, Option.isSome_some, Option.isSome_none, false_or, or_false, true_and, and_true, decide_eq_true_eq, decide_eq_false_iff_not, Bool.or_eq_true, Bool.and_eq_true, Bool.or_eq_false_iff, Bool.and_eq_false_iff, Bool.not_eq_true', Bool.not_eq_false', bne_iff_ne, beq_iff_eq, beq_eq_false_iff_ne, bne_eq_false_iff_eq, ne_eq, Decidable.not_not, Int.not_lt, Int.not_le, gt_iff_lt, ge_iff_le, Bool.true_eq_false, Bool.false_eq_true, not_true_eq_false, not_false_eq_true] at h7p
          refine wl_of (op_y (wg' 51 rfl rfl S rfl h7 rfl) rfl rfl S (y_faddrb rfl Ffo26_8 S rfl) fun a S => ?_)
          refine wl_of (op_y (wg' 51 rfl rfl S rfl h7 rfl) rfl rfl S (y_load rfl Fsca3 S H rfl rfl) fun a S => ?_)
          refine wl_of (op_y (wg' 51 rfl rfl S rfl h7 rfl) rfl rfl S (y_bin rfl S rfl rfl rfl) fun a S => ?_)
          refine wl_of (op_y (wg' 47 rfl rfl S rfl h6 rfl) rfl rfl S (y_and' rfl h7 S rfl rfl) fun a S => ?_)
          exact kk _ _ (S.join 4 55 rfl rfl) H
        refine wl_of (op_y (wg' 41 rfl rfl S rfl h5 rfl) rfl rfl S (y_or' rfl h6 S rfl rfl) fun a S => ?_)
        exact kk _ _ (S.join 6 56 rfl rfl) H
      refine wl_of (op_y (wg' 39 rfl rfl S rfl h4 rfl) rfl rfl S (y_and' rfl h5 S rfl rfl) fun a S => ?_)
      exact kk _ _ (S.join 8 57 rfl rfl) H
    refine wl_of (op_y (wn rfl) rfl rfl S (y_or' rfl h4 S rfl rfl) fun a S => ?_)
    exact kk _ _ (S.join 4 58 rfl rfl) H
  refine gl_nil ?_
  refine n_then ?_
  have S := ((((((S.nil.cons S 3 rfl).cons S 4 rfl).cons S 6 rfl).cons S 7 rfl).cons S 8 rfl).cons S 9 rfl).cons S 58 rfl
  -- cond 1
  refine c_if S rfl (fun h8 => ?_) (fun h8 => ?_)
  · have h8p := h8; try simp only [Option.isNone_some, Option.isNone_none, Option.isSome_some, Option.isSome_none, false_or, or_false, true_and, and_true, decide_eq_true_eq, decide_eq_false_iff_not, Bool.or_eq_true, Bool.and_eq_true, Bool.or_eq_false_iff, Bool.and_eq_false_iff, Bool.not_eq_true', Bool.not_eq_false', bne_iff_ne, beq_iff_eq, beq_eq_false_iff_ne, bne_eq_false_iff_eq, ne_eq, Decidable.not_not, Int.not_lt, Int.not_le, gt_iff_lt, ge_iff_le, Bool.true_eq_false, Bool.false_eq_true, not_true_eq_false, not_false_eq_true] at h8p
    all_goals (
      exact absurd h8 (by rw [order_bad p q r]; simp))
  · have h8p := h8; try simp only [Option.isNone_some, Option.isNone_none, Option.isSome_some, Option.isSome_none, false_or, or_false, true_and, and_true, decide_eq_true_eq, decide_eq_false_iff_not, Bool.or_eq_true, Bool.and_eq_true, Bool.or_eq_false_iff, Bool.and_eq_false_iff, Bool.not_eq_true', Bool.not_eq_false', bne_iff_ne, beq_iff_eq, beq_eq_false_iff_ne, bne_eq_false_iff_eq, ne_eq, Decidable.not_not, Int.not_lt, Int.not_le, gt_iff_lt, ge_iff_le, Bool.true_eq_false, Bool.false_eq_true, not_true_eq_false, not_false_eq_true] at h8p
    refine g_skip ?_
    refine n_then ?_
    refine g_seq ?_
    -- region 5 law.go:43
    refine g_region ?_
    refine wl_of (op_y (wn rfl) rfl rfl S (y_move rfl S rfl) fun a S => ?_)
    refine wl_of (op_y (wn rfl) rfl rfl S (y_move rfl S rfl) fun a S => ?_)
    refine' wl_and 29 60 rfl S H rfl rfl rfl rfl rfl rfl rfl (fun _ S => (wn rfl)) (fun h9 kk => ?yh9) (fun a w S H => ?_)
    case yh9 =>
      have h9p := h9; try simp only [Option.isNone_some, Option.isNone_none, Option.isSome_some, Option.isSome_none, false_or, or_false, true_and, and_true, decide_eq_true_eq, decide_eq_false_iff_not, Bool.or_eq_true, Bool.and_eq_true, Bool.or_eq_false_iff, Bool.and_eq_false_iff, Bool.not_eq_true', Bool.not_eq_false', bne_iff_ne, beq_iff_eq, beq_eq_false_iff_ne, bne_eq_false_iff_eq, ne_eq, Decidable.not_not, Int.not_lt, Int.not_le, gt_iff_lt, ge_iff_le, Bool.true_eq_false, Bool.false_eq_true, not_true_eq_false, not_false_eq_true] at h9p
      refine wl_of (op_y (wg' 60 rfl rfl S rfl h9 rfl) rfl rfl S (y_move rfl S rfl) fun a S => ?_)
      refine wl_of (op_y (wg' 60 rfl rfl S rfl h9 rfl) rfl rfl S (y_not rfl S rfl) fun a S => ?_)
      refine wl_of (op_y (wg' 60 rfl rfl S rfl h9 rfl) rfl rfl S (y_move rfl S rfl) fun a S => ?_)
      refine' wl_or 2 63 rfl S H rfl rfl rfl rfl rfl rfl rfl (fun _ S => (wg' 60 rfl rfl S rfl h9 rfl)) (fun h10 kk => ?yh10) (fun a w S H => ?_)
      case yh10 =>
        have h10p := h10; try simp only [Option.isNone_some, Option.isNone_none, Option.isSome_some, Option.isSome_none, false_or, or_false, true_and, and_true, decide_eq_true_eq, decide_eq_false_iff_not, Bool.or_eq_true, Bool.and_eq_true, Bool.or_eq_false_iff, Bool.and_eq_false_iff, Bool.not_eq_true', Bool.not_eq_false', bne_iff_ne, beq_iff_eq, beq_eq_false_iff_ne, bne_eq_false_iff_eq, ne_eq, Decidable.not_not, Int.not_lt, Int.not_le, gt_iff_lt, ge_iff_le, Bool.true_eq_false, Bool.false_eq_true, not_true_eq_false, not_false_eq_true] at h10p
        refine wl_of (op_y (wg' 63 rfl rfl S rfl h10 rfl) rfl rfl S (y_move rfl S rfl) fun a S => ?_)
        refine wl_of (op_y (wg' 63 rfl rfl S rfl h10 rfl) rfl rfl S (y_not rfl S rfl) fun a S => ?_)
        refine wl_of (op_y (wg' 60 rfl rfl S rfl h9 rfl) rfl rfl S (y_or' rfl h10 S rfl rfl) fun a S => ?_)
        exact kk _ _ (S.join 3 66 rfl rfl) H
      refine wl_of (op_y (wg' 60 rfl rfl S rfl h9 rfl) rfl rfl S (y_move rfl S rfl) fun a S => ?_)
      refine' wl_or 21 67 rfl S H rfl rfl rfl rfl rfl rfl rfl (fun _ S => (wg' 60 rfl rfl S rfl h9 rfl)) (fun h11 kk => ?yh11) (fun a w S H => ?_)
      case yh11 =>
        have h11p := h11; try simp only [Option.isNone_some, Option.isNone_none, Option.isSome_some, Option.isSome_none, false_or, or_false, true_and, and_true, decide_eq_true_eq, decide_eq_false_iff_not, Bool.or_eq_true, Bool.and_eq_true, Bool.or_eq_false_iff, Bool.and_eq_false_iff, Bool.not_eq_true', Bool.not_eq_false', bne_iff_ne, beq_iff_eq, beq_eq_false_iff_ne, bne_eq_false_iff_eq, ne_eq, Decidable.not_not, Int.not_lt, Int.not_le, gt_iff_lt, ge_iff_le, Bool.true_eq_false, Bool.false_eq_true, not_true_eq_false, not_false_eq_true] at h11p
        refine wl_of (op_y (wg' 67 rfl rfl S rfl h11 rfl) rfl rfl S (y_faddrb rfl Ffo26_7 S rfl) fun a S => ?_)
        refine wl_of (op_y (wg' 67 rfl rfl S rfl h11 rfl) rfl rfl S (y_load rfl Fsca3 S H rfl rfl) fun a S => ?_)
        refine wl_of (op_y (wg' 67 rfl rfl S rfl h11 rfl) rfl rfl S (y_faddrb rfl Ffo26_7 S rfl) fun a S => ?_)
        refine wl_of (op_y (wg' 67 rfl rfl S rfl h11 rfl) rfl rfl S (y_load rfl Fsca3 S H rfl rfl) fun a S => ?_)
        refine wl_of (op_y (wg' 67 rfl rfl S rfl h11 rfl) rfl rfl S (y_bin rfl S rfl rfl rfl) fun a S => ?_)
        refine wl_of (op_y (wg' 67 rfl rfl S rfl h11 rfl) rfl rfl S (y_move rfl S rfl) fun a S => ?_)
        refine' wl_and 5 73 rfl S H rfl rfl rfl rfl rfl rfl rfl (fun _ S => (wg' 67 rfl rfl S rfl h11 rfl)) (fun h12 kk => ?yh12) (fun a w S H => ?_)
        case yh12 =>
          have h12p := h12; try simp only [Option.isNone_some, Option.isNone_none, Option.isSome_some, Option.isSome_none, false_or, or_false, true_and, and_true, decide_eq_true_eq, decide_eq_false_iff_not, Bool.or_eq_true, Bool.and_eq_true, Bool.or_eq_false_iff, Bool.and_eq_false_iff, Bool.not_eq_true', Bool.not_eq_false', bne_iff_ne, beq_iff_eq, beq_eq_false_iff_ne, bne_eq_false_iff_eq, ne_eq, Decidable.not_not, Int.not_lt, Int.not_le, gt_iff_lt, ge_iff_le, Bool.true_eq_false, Bool.false_eq_true, not_true_eq_false, not_false_eq_true] at h12p
          refine wl_of (op_y (wg' 73 rfl rfl S rfl h12 rfl) rfl rfl S (y_faddrb rfl Ffo26_1 S rfl) fun a S => ?_)
          refine wl_of (op_y (wg' 73 rfl rfl S rfl h12 rfl) rfl rfl S (y_load rfl Fsca3 S H rfl rfl) fun a S => ?_)
          refine wl_of (op_y (wg' 73 rfl rfl S rfl h12 rfl) rfl rfl S (y_faddrb rfl Ffo26_1 S rfl) fun a S => ?_)
          refine wl_of (op_y (wg' 73 rfl rfl S rfl h12 rfl) rfl rfl S (y_load rfl Fsca3 S H rfl rfl) fun a S => ?_)
          refine wl_of (op_y (wg' 73 rfl rfl S rfl h12 rfl) rfl rfl S (y_bin rfl S rfl rfl rfl) fun a S => ?_)
          refine wl_of (op_y (wg' 67 rfl rfl S rfl h11 rfl) rfl rfl S (y_and' rfl h12 S rfl rfl) fun a S => ?_)
          exact kk _ _ (S.join 6 79 rfl rfl) H
        refine wl_of (op_y (wg' 67 rfl rfl S rfl h11 rfl) rfl rfl S (y_move rfl S rfl) fun a S => ?_)
        refine' wl_and 7 80 rfl S H rfl rfl rfl rfl rfl rfl rfl (fun _ S => (wg' 67 rfl rfl S rfl h11 rfl)) (fun h13 kk => ?yh13) (fun a w S H => ?_)
        case yh13 =>
          have h13p := h13; try simp only [Option.isNone_some, Option.isNone_none, Option.isSome_some, Option.isSome_none, false_or, or_false, true_and, and_true, decide_eq_true_eq, decide_eq_false_iff_not, Bool.or_eq_true, Bool.and_eq_true, Bool.or_eq_false_iff, Bool.and_eq_false_iff, Bool.not_eq_true', Bool.not_eq_false', bne_iff_ne, beq_iff_eq, beq_eq_false_iff_ne, bne_eq_false_iff_eq, ne_eq, Decidable.not_not, Int.not_lt, Int.not_le, gt_iff_lt, ge_iff_le, Bool.true_eq_false, Bool.false_eq_true, not_true_eq_false, not_false_eq_true] at h13p
          refine wl_of (op_y (wg' 80 rfl rfl S rfl h13 rfl) rfl rfl S (y_faddrb rfl Ffo26_8 S rfl) fun a S => ?_)
          refine wl_of (op_y (wg' 80 rfl rfl S rfl h13 rfl) rfl rfl S (y_load rfl Fsca3 S H rfl rfl) fun a S => ?_)
          refine wl_of (op_y (wg' 80 rfl rfl S rfl h13 rfl) rfl rfl S (y_bin rfl S rfl rfl rfl) fun a S => ?_)
          refine wl_of (op_y (wg' 80 rfl rfl S rfl h13 rfl) rfl rfl S (y_faddrb rfl Ffo26_8 S rfl) fun a S => ?_)
          refine wl_of (op_y (wg' 80 rfl rfl S rfl h13 rfl) rfl rfl S (y_load rfl Fsca3 S H rfl rfl) fun a S => ?_)
          refine wl_of (op_y (wg' 80 rfl rfl S rfl h13 rfl) rfl rfl S (y_bin rfl S rfl rfl rfl) fun a S => ?_)
          refine wl_of (op_y (wg' 80 rfl rfl S rfl h13 rfl) rfl rfl S (y_eqb rfl Try.underlying4 S rfl rfl) fun a S => ?_)
          refine wl_of (op_y (wg' 67 rfl rfl S rfl h11 rfl) rfl rfl S (y_and' rfl h13 S rfl rfl) fun a S => ?_)
          exact kk _ _ (S.join 8 88 rfl rfl) H
        refine wl_of (op_y (wg' 60 rfl rfl S rfl h9 rfl) rfl rfl S (y_or' rfl h11 S rfl rfl) fun a S => ?_)
        exact kk _ _ (S.join 10 89 rfl rfl) H
      refine wl_of (op_y (wn rfl) rfl rfl S (y_and' rfl h9 S rfl rfl) fun a S => ?_)
      exact kk _ _ (S.join 7 90 rfl rfl) H
    refine wl_of (op_y (wn rfl) rfl rfl S (y_assign rfl S rfl) fun a S => ?_)
    refine gl_nil ?_
    refine n_then ?_
    have S := S.nil.cons S 6 rfl
    refine g_ret ?_
    refine ret1 rfl S rfl ?_
    refine ⟨congrArg Value.bool ?_, H.toExt⟩
    rw [order_good p q]; rfl
set_option maxHeartbeats 1000000 in
/-- foyer/foyerlaw39.BetterEdges -/
theorem law3 (v1 v2 : Value) (old next : List Pl) (w0 : World) (hv1 : IsSl w0 v1 9 Pl.enc old) (hv2 : IsSl w0 v2 9 Pl.enc next) :
    Ret Try.prog 5 #[v1, v2] w0 (fun v w => v = .bool true ∧ Ext w0 w) := by
  refine ret_of_wp (nt := 81) Try.func5 rfl rfl rfl (fl := [(0, v1), (1, v2)]) rfl (fun a S => ?_)
  have H := HSat.start w0
  have H := H.ro0 (Sl v1 9 Pl.enc old) rfl (hv1)
  have H := H.ro0 (Sl v2 9 Pl.enc next) rfl (hv2)
  refine g_seq ?_
  -- region 0 law.go:47
  refine g_region ?_
  refine wl_of (op_y (wn rfl) rfl rfl S (y_assign rfl S rfl) fun a S => ?_)
  refine gl_nil ?_
  refine n_then ?_
  refine g_seq ?_
  -- region 1 law.go:48
  refine g_region ?_
  refine wl_of (op_call (wn rfl) rfl rfl S (co_func rfl Try.call8 S rfl) (head_spec _) fun v w hc a S => ?_)
  obtain ⟨rfl, he⟩ := hc
  have H := H.ext he
  refine wl_of (op_y (wn rfl) rfl rfl S (y_assign rfl S rfl) fun a S => ?_)
  refine gl_nil ?_
  refine n_then ?_
  refine g_seq ?_
  refine g_seq ?_
  -- region 2 law.go:49
  refine g_region ?_
  refine wl_of (op_y (wn rfl) rfl rfl S (y_move rfl S rfl) fun a S => ?_)
  refine wl_of (op_y (wn rfl) rfl rfl S (y_lens rfl Try.underlying22 S H rfl) fun a S => ?_)
  refine wl_of (op_y (wn rfl) rfl rfl S (y_bin rfl S rfl rfl rfl) fun a S => ?_)
  refine wl_of (op_y (wn rfl) rfl rfl S (y_move rfl S rfl) fun a S => ?_)
  refine' wl_or 3 15 rfl S H rfl rfl rfl rfl rfl rfl rfl (fun _ S => (wn rfl)) (fun h1 kk => ?yh1) (fun a w S H => ?_)
  case yh1 =>
    have h1p := h1; try simp only [Option.isNone_some, Option.isNone_none, Option.isSome_some, Option.isSome_none, false_or, or_false, true_and, and_true, decide_eq_true_eq, decide_eq_false_iff_not, Bool.or_eq_true, Bool.and_eq_true, Bool.or_eq_false_iff, Bool.and_eq_false_iff, Bool.not_eq_true', Bool.not_eq_false', bne_iff_ne, beq_iff_eq, beq_eq_false_iff_ne, bne_eq_false_iff_eq, ne_eq, Decidable.not_not, Int.not_lt, Int.not_le, gt_iff_lt, ge_iff_le, Bool.true_eq_false, Bool.false_eq_true, not_true_eq_false, not_false_eq_true] at h1p
    refine wl_of (op_y (wg' 15 rfl rfl S rfl h1 rfl) rfl rfl S (y_move rfl S rfl) fun a S => ?_)
    refine wl_of (op_y (wg' 15 rfl rfl S rfl h1 rfl) rfl rfl S (y_lens rfl Try.underlying22 S H rfl) fun a S => ?_)
    refine wl_of (op_y (wg' 15 rfl rfl S rfl h1 rfl) rfl rfl S (y_bin rfl S rfl rfl rfl) fun a S => ?_)
    refine wl_of (op_y (wn rfl) rfl rfl S (y_or' rfl h1 S rfl rfl) fun a S => ?_)
    exact kk _ _ (S.join 4 19 rfl rfl) H
  refine gl_nil ?_
  refine n_then ?_
  have S := ((((S.nil.cons S 1 rfl).cons S 0 rfl).cons S 4 rfl).cons S 5 rfl).cons S 19 rfl
  -- cond 1
  refine c_if S rfl (fun h2 => ?_) (fun h2 => ?_)
  · have h2p := h2; try simp only [Option.isNone_some, Option.isNone_none, Option.isSome_some, Option.isSome_none, false_or, or_false, true_and, and_true, decide_eq_true_eq, decide_eq_false_iff_not, Bool.or_eq_true, Bool.and_eq_true, Bool.or_eq_false_iff, Bool.and_eq_false_iff, Bool.not_eq_true', Bool.not_eq_false', bne_iff_ne, beq_iff_eq, beq_eq_false_iff_ne, bne_eq_false_iff_eq, ne_eq, Decidable.not_not, Int.not_lt, Int.not_le, gt_iff_lt, ge_iff_le, Bool.true_eq_false, Bool.false_eq_true, not_true_eq_false, not_false_eq_true] at h2p
    refine g_seq ?_
    -- region 3 law.go:50
    refine g_region ?_
    refine wl_of (op_y (wn rfl) rfl rfl S (y_move rfl S rfl) fun a S => ?_)
    refine wl_of (op_y (wn rfl) rfl rfl S (y_assign rfl S rfl) fun a S => ?_)
    refine gl_nil ?_
    refine n_then ?_
    refine g_ret ?_
    refine r_then (ret1 rfl S rfl ?_)
    exact ⟨rfl, H.toExt⟩
  · have h2p := h2; try simp only [Option.isNone_some, Option.isNone_none, Option.isSome_some, Option.isSome_none, false_or, or_false, true_and, and_true, decide_eq_true_eq, decide_eq_false_iff_not, Bool.or_eq_true, Bool.and_eq_true, Bool.or_eq_false_iff, Bool.and_eq_false_iff, Bool.not_eq_true', Bool.not_eq_false', bne_iff_ne, beq_iff_eq, beq_eq_false_iff_ne, bne_eq_false_iff_eq, ne_eq, Decidable.not_not, Int.not_lt, Int.not_le, gt_iff_lt, ge_iff_le, Bool.true_eq_false, Bool.false_eq_true, not_true_eq_false, not_false_eq_true] at h2p
    refine g_skip ?_
    refine n_then ?_
    refine g_seq ?_
    -- region 4 law.go:52
    refine g_region ?_
    refine wl_of (op_y (wn rfl) rfl rfl S (y_move rfl S rfl) fun a S => ?_)
    refine wl_of (op_y (wn rfl) rfl rfl S (y_move rfl S rfl) fun a S => ?_)
    refine wl_of (op_call (wn rfl) rfl rfl S (co_func rfl Try.call12 S rfl) (edges_spec v1 v2 old next _ (H.sl _) (H.sl _) (by omega) (by omega)) fun u23 w hc a S => ?_)
    obtain ⟨ps23, hps23, H1⟩ := hc
    have H := H.call2 H1 rfl rfl
    have hlen : ps23.length = old.length := by have := congrArg List.length hps23; simpa [edgesL] using this
    refine wl_of (op_y (wn rfl) rfl rfl S (y_assign rfl S rfl) fun a S => ?_)
    refine gl_nil ?_
    refine n_then ?_
    have S := ((((S.nil.cons S 1 rfl).cons S 0 rfl).cons S 4 rfl).cons S 5 rfl).cons S 6 rfl
    refine g_seq ?_
    refine g_seq ?_
    -- region 5 law.go:53
    refine g_region ?_
    refine wl_of (op_y (wn rfl) rfl rfl S (y_move rfl S rfl) fun a S => ?_)
    refine wl_of (op_y (wn rfl) rfl rfl S (y_lens rfl Try.underlying28 S H rfl) fun a S => ?_)
    refine wl_of (op_y (wn rfl) rfl rfl S (y_move rfl S rfl) fun a S => ?_)
    refine wl_of (op_y (wn rfl) rfl rfl S (y_lens rfl Try.underlying22 S H rfl) fun a S => ?_)
    refine wl_of (op_y (wn rfl) rfl rfl S (y_bin rfl S rfl rfl rfl) fun a S => ?_)
    refine gl_nil ?_
    refine n_then ?_
    have S := (((((S.nil.cons S 1 rfl).cons S 0 rfl).cons S 4 rfl).cons S 5 rfl).cons S 6 rfl).cons S 28 rfl
    -- cond 2
    refine c_if S rfl (fun h3 => ?_) (fun h3 => ?_)
    · have h3p := h3; try simp only [Option.isNone_some, Option.isNone_none, Option.isSome_some, Option.isSome_none, false_or, or_false, true_and, and_true, decide_eq_true_eq, decide_eq_false_iff_not, Bool.or_eq_true, Bool.and_eq_true, Bool.or_eq_false_iff, Bool.and_eq_false_iff, Bool.not_eq_true', Bool.not_eq_false', bne_iff_ne, beq_iff_eq, beq_eq_false_iff_ne, bne_eq_false_iff_eq, ne_eq, Decidable.not_not, Int.not_lt, Int.not_le, gt_iff_lt, ge_iff_le, Bool.true_eq_false, Bool.false_eq_true, not_true_eq_false, not_false_eq_true] at h3p
      all_goals (
        exact absurd h3 (by simp [hlen]))
    · have h3p := h3; try simp only [Option.isNone_some, Option.isNone_none, Option.isSome_some, Option.isSome_none, false_or, or_false, true_and, and_true, decide_eq_true_eq, decide_eq_false_iff_not, Bool.or_eq_true, Bool.and_eq_true, Bool.or_eq_false_iff, Bool.and_eq_false_iff, Bool.not_eq_true', Bool.not_eq_false', bne_iff_ne, beq_iff_eq, beq_eq_false_iff_ne, bne_eq_false_iff_eq, ne_eq, Decidable.not_not, Int.not_lt, Int.not_le, gt_iff_lt, ge_iff_le, Bool.true_eq_false, Bool.false_eq_true, not_true_eq_false, not_false_eq_true] at h3p
      refine g_skip ?_
      refine n_then ?_
      refine g_seq ?_
      refine g_seq ?_
      -- region 7 law.go:56
      refine g_region ?_
      refine wl_of (op_y (wn rfl) rfl rfl S (y_assign rfl S rfl) fun a S => ?_)
      refine gl_nil ?_
      refine n_then ?_
      refine g_block ?_
      -- slots written in the loop and forgotten at its head: [4]
      have SU := (((S.nil.cons S 1 rfl).cons S 0 rfl).cons S 5 rfl).cons S 6 rfl
      refine loop_k (X := Nat) SU (fun i => [(7, .int .i64 (i : Int))]) (fun i => i ≤ old.length) (fun i => old.length - i) 0 (S.nil.cons S 7 rfl) H (by omega) (fun i a w S H hi => ?_)
      simp only [List.cons_append, List.nil_append] at S hi
      refine g_seq ?_
      refine g_seq ?_
      -- region 8 law.go:56
      refine g_region ?_
      refine wl_of (op_y (wn rfl) rfl rfl S (y_move rfl S rfl) fun a S => ?_)
      refine wl_of (op_y (wn rfl) rfl rfl S (y_move rfl S rfl) fun a S => ?_)
      refine wl_of (op_y (wn rfl) rfl rfl S (y_lens rfl Try.underlying28 S H rfl) fun a S => ?_)
      refine wl_of (op_y (wn rfl) rfl rfl S (y_bin rfl S rfl rfl rfl) fun a S => ?_)
      refine gl_nil ?_
      refine n_then ?_
      -- cond 3
      refine c_if S rfl (fun h4 => ?_) (fun h4 => ?_)
      · have h4p := h4; try simp only [Option.isNone_some, Option.isNone_none, Option.isSome_some, Option.isSome_none, false_or, or_false, true_and, and_true, decide_eq_true_eq, decide_eq_false_iff_not, Bool.or_eq_true, Bool.and_eq_true, Bool.or_eq_false_iff, Bool.and_eq_false_iff, Bool.not_eq_true', Bool.not_eq_false', bne_iff_ne, beq_iff_eq, beq_eq_false_iff_ne, bne_eq_false_iff_eq, ne_eq, Decidable.not_not, Int.not_lt, Int.not_le, gt_iff_lt, ge_iff_le, Bool.true_eq_false, Bool.false_eq_true, not_true_eq_false, not_false_eq_true] at h4p
        have hir : i < ps23.length := by omega
        have hrow : ps23[i].2 = fits old[i] next 0 := by rw [map_row hps23 i hir, edges_row _ _ _ (by omega)]
        have hfl := fits_len old[i] next 0
        refine g_skip ?_
        refine n_then ?_
        refine g_seq ?_
        refine g_block ?_
        refine g_seq ?_
        -- region 10 law.go:57
        refine g_region ?_
        refine wl_of (op_y (wn rfl) rfl rfl S (y_assign rfl S rfl) fun a S => ?_)
        refine gl_nil ?_
        refine n_then ?_
        refine g_seq ?_
        refine g_seq ?_
        -- region 11 law.go:58
        refine g_region ?_
        refine wl_of (op_y (wn rfl) rfl rfl S (y_assign rfl S rfl) fun a S => ?_)
        refine gl_nil ?_
        refine n_then ?_
        refine g_block ?_
        have SU := ((((((((S.nil.cons S 1 rfl).cons S 0 rfl).cons S 5 rfl).cons S 6 rfl).cons S 7 rfl).cons S 29 rfl).cons S 30 rfl).cons S 31 rfl).cons S 32 rfl
        refine loop_k (X := Nat) SU (fun k => [(8, .int .i64 ((fits old[i] (next.take k) 0).length : Int)), (9, .int .i64 (k : Int))]) (fun k => k ≤ next.length) (fun k => next.length - k) 0 ((S.nil.cons S 9 rfl).cons S 8 rfl) H (by omega) (fun k a w S H hi => ?_)
        simp only [List.cons_append, List.nil_append] at S hi
        refine g_seq ?_
        refine g_seq ?_
        -- region 12 law.go:58
        refine g_region ?_
        refine wl_of (op_y (wn rfl) rfl rfl S (y_move rfl S rfl) fun a S => ?_)
        refine wl_of (op_y (wn rfl) rfl rfl S (y_move rfl S rfl) fun a S => ?_)
        refine wl_of (op_y (wn rfl) rfl rfl S (y_lens rfl Try.underlying22 S H rfl) fun a S => ?_)
        refine wl_of (op_y (wn rfl) rfl rfl S (y_bin rfl S rfl rfl rfl) fun a S => ?_)
        refine gl_nil ?_
        refine n_then ?_
        -- cond 4
        refine c_if S rfl (fun h5 => ?_) (fun h5 => ?_)
        · have h5p := h5; try simp only [Option.isNone_some, Option.isNone_none, Option.isSome_some, Option.isSome_none, false_or, or_false, true_and, and_true, decide_eq_true_eq, decide_eq_false_iff_not, Bool.or_eq_true, Bool.and_eq_true, Bool.or_eq_false_iff, Bool.and_eq_false_iff, Bool.not_eq_true', Bool.not_eq_false', bne_iff_ne, beq_iff_eq, beq_eq_false_iff_ne, bne_eq_false_iff_eq, ne_eq, Decidable.not_not, Int.not_lt, Int.not_le, gt_iff_lt, ge_iff_le, Bool.true_eq_false, Bool.false_eq_true, not_true_eq_false, not_false_eq_true] at h5p
          have hfk := fits_len old[i] (next.take k) 0
          have htl : (next.take k).length ≤ k := List.length_take_le _ _
          have hst := fits_step old[i] next k (by omega)
          refine g_skip ?_
          refine n_then ?_
          refine g_seq ?_
          refine g_block ?_
          refine g_seq ?_
          -- region 14 law.go:59
          refine g_region ?_
          refine wl_of (op_y (wn rfl) rfl rfl S (y_move rfl S rfl) fun a S => ?_)
          refine wl_of (op_y (wn rfl) rfl rfl S (y_move rfl S rfl) fun a S => ?_)
          refine wl_of (op_y (wn rfl) rfl rfl S (y_move rfl S rfl) fun a S => ?_)
          refine wl_of (op_y (wn rfl) rfl rfl S (y_iaddrn rfl Try.underlying28 Fsiz32 S H rfl rfl (by first | assumption | omega | (simp only [List.length_append, List.length_take, List.length_drop, List.length_replicate, List.length_set, List.length_map, List.length_cons, List.length_nil]; omega))) fun a S => ?_)
          refine wl_of (op_y (wn rfl) rfl rfl S (y_loads _ rfl Fsca32 S H rfl (by first | assumption | omega | (simp only [List.length_append, List.length_take, List.length_drop, List.length_replicate, List.length_set, List.length_map, List.length_cons, List.length_nil]; omega)) rfl) fun a S => ?_)
          refine wl_of (op_y (wn rfl) rfl rfl S (y_lens rfl Try.underlying32 S H rfl) fun a S => ?_)
          refine wl_of (op_y (wn rfl) rfl rfl S (y_bin rfl S rfl rfl rfl) fun a S => ?_)
          refine wl_of (op_y (wn rfl) rfl rfl S (y_move rfl S rfl) fun a S => ?_)
          refine' wl_and (B2 := ((ps23[i].2).getD (fits old[i] (next.take k) 0).length 0 == (k : Int))) 9 48 rfl S H rfl rfl rfl rfl rfl rfl rfl (fun _ S => (wn rfl)) (fun h6 kk => ?yh6) (fun a w S H => ?_)
          case yh6 =>
            have h6p := h6; try simp only [Option.isNone_some, Option.isNone_none, Option.isSome_some, Option.isSome_none, false_or, or_false, true_and, and_true, decide_eq_true_eq, decide_eq_false_iff_not, Bool.or_eq_true, Bool.and_eq_true, Bool.or_eq_false_iff, Bool.and_eq_false_iff, Bool.not_eq_true', Bool.not_eq_false', bne_iff_ne, beq_iff_eq, beq_eq_false_iff_ne, bne_eq_false_iff_eq, ne_eq, Decidable.not_not, Int.not_lt, Int.not_le, gt_iff_lt, ge_iff_le, Bool.true_eq_false, Bool.false_eq_true, not_true_eq_false, not_false_eq_true] at h6p
            refine wl_of (op_y (wg' 48 rfl rfl S rfl h6 rfl) rfl rfl S (y_move rfl S rfl) fun a S => ?_)
            refine wl_of (op_y (wg' 48 rfl rfl S rfl h6 rfl) rfl rfl S (y_move rfl S rfl) fun a S => ?_)
            refine wl_of (op_y (wg' 48 rfl rfl S rfl h6 rfl) rfl rfl S (y_iaddrn rfl Try.underlying28 Fsiz32 S H rfl rfl (by first | assumption | omega | (simp only [List.length_append, List.length_take, List.length_drop, List.length_replicate, List.length_set, List.length_map, List.length_cons, List.length_nil]; omega))) fun a S => ?_)
            refine wl_of (op_y (wg' 48 rfl rfl S rfl h6 rfl) rfl rfl S (y_loads _ rfl Fsca32 S H rfl (by first | assumption | omega | (simp only [List.length_append, List.length_take, List.length_drop, List.length_replicate, List.length_set, List.length_map, List.length_cons, List.length_nil]; omega)) rfl) fun a S => ?_)
            refine wl_of (op_y (wg' 48 rfl rfl S rfl h6 rfl) rfl rfl S (y_move rfl S rfl) fun a S => ?_)
            refine wl_of (op_y (wg' 48 rfl rfl S rfl h6 rfl) rfl rfl S (y_iaddrn rfl Try.underlying32 Fsiz3 S H rfl rfl (by first | assumption | omega | (simp only [List.length_append, List.length_take, List.length_drop, List.length_replicate, List.length_set, List.length_map, List.length_cons, List.length_nil]; omega))) fun a S => ?_)
            refine wl_of (op_y (wg' 48 rfl rfl S rfl h6 rfl) rfl rfl S (y_loadsD _ 0 rfl Fsca3 S H rfl (by omega) rfl) fun a S => ?_)
            refine wl_of (op_y (wg' 48 rfl rfl S rfl h6 rfl) rfl rfl S (y_move rfl S rfl) fun a S => ?_)
            refine wl_of (op_y (wg' 48 rfl rfl S rfl h6 rfl) rfl rfl S (y_bin rfl S rfl rfl rfl) fun a S => ?_)
            refine wl_of (op_y (wn rfl) rfl rfl S (y_and' rfl h6 S rfl rfl) fun a S => ?_)
            exact kk _ _ (S.join 10 58 rfl rfl) H
          refine wl_of (op_y (wn rfl) rfl rfl S (y_assign rfl S rfl) fun a S => ?_)
          refine gl_nil ?_
          refine n_then ?_
          refine g_seq ?_
          refine g_seq ?_
          -- region 15 DRAWS law.go:60
          refine region_st (loud := []) (tails := []) (free := []) [0, 1, 2, 3, 4, 5, 6, 7, 8, 9, 10] [] Fmo (by kernel_rfl) (by kernel_rfl) rfl H ?_
          refine m_w rfl rfl (wn rfl) rfl rfl S (fun w H => y_move rfl S rfl) fun a S => ?_
          refine m_w rfl rfl (wn rfl) rfl rfl S (fun w H => y_move rfl S rfl) fun a S => ?_
          refine m_w rfl rfl (wn rfl) rfl rfl S (fun w H => y_move rfl S rfl) fun a S => ?_
          refine m_w rfl rfl (wn rfl) rfl rfl S (fun w H => y_iaddrn rfl Try.underlying22 Fsiz26 S H rfl rfl (by first | assumption | omega | (simp only [List.length_append, List.length_take, List.length_drop, List.length_replicate, List.length_set, List.length_map, List.length_cons, List.length_nil]; omega))) fun a S => ?_
          refine m_loadsa _ rfl rfl (wn rfl) rfl rfl S rfl rfl (by exact Fagg26) (by first | assumption | omega | (simp only [List.length_append, List.length_take, List.length_drop, List.length_replicate, List.length_set, List.length_map, List.length_cons, List.length_nil]; omega)) fun a S => ?_
          refine m_w rfl rfl (wn rfl) rfl rfl S (fun w H => y_move rfl S rfl) fun a S => ?_
          refine m_w rfl rfl (wn rfl) rfl rfl S (fun w H => y_move rfl S rfl) fun a S => ?_
          refine m_w rfl rfl (wn rfl) rfl rfl S (fun w H => y_iaddrn rfl Try.underlying22 Fsiz26 S H rfl rfl (by first | assumption | omega | (simp only [List.length_append, List.length_take, List.length_drop, List.length_replicate, List.length_set, List.length_map, List.length_cons, List.length_nil]; omega))) fun a S => ?_
          refine m_loadsa _ rfl rfl (wn rfl) rfl rfl S rfl rfl (by exact Fagg26) (by first | assumption | omega | (simp only [List.length_append, List.length_take, List.length_drop, List.length_replicate, List.length_set, List.length_map, List.length_cons, List.length_nil]; omega)) fun a S => ?_
          refine m_c rfl rfl (wn rfl) rfl rfl S (fun w => co_func rfl Try.call9 S rfl) (fun w H => atLeast_spec next[k] old[i] _) fun a S => ?_
          refine m_w rfl rfl (wn rfl) rfl rfl S (fun w H => y_neb rfl Try.underlying4 S rfl rfl) fun a S => ?_
          refine m_nil (fun w H => ?_)
          refine n_then ?_
          -- cond 5
          refine c_if S rfl (fun h7 => ?_) (fun h7 => ?_)
          · have h7p := h7; try simp only [Option.isNone_some, Option.isNone_none, Option.isSome_some, Option.isSome_none, false_or, or_false, true_and, and_true, decide_eq_true_eq, decide_eq_false_iff_not, Bool.or_eq_true, Bool.and_eq_true, Bool.or_eq_false_iff, Bool.and_eq_false_iff, Bool.not_eq_true', Bool.not_eq_false', bne_iff_ne, beq_iff_eq, beq_eq_false_iff_ne, bne_eq_false_iff_eq, ne_eq, Decidable.not_not, Int.not_lt, Int.not_le, gt_iff_lt, ge_iff_le, Bool.true_eq_false, Bool.false_eq_true, not_true_eq_false, not_false_eq_true] at h7p
            all_goals (
              exfalso; rw [hrow, is_iff old[i] next k (by omega)] at h7; simp at h7)
          · have h7p := h7; try simp only [Option.isNone_some, Option.isNone_none, Option.isSome_some, Option.isSome_none, false_or, or_false, true_and, and_true, decide_eq_true_eq, decide_eq_false_iff_not, Bool.or_eq_true, Bool.and_eq_true, Bool.or_eq_false_iff, Bool.and_eq_false_iff, Bool.not_eq_true', Bool.not_eq_false', bne_iff_ne, beq_iff_eq, beq_eq_false_iff_ne, bne_eq_false_iff_eq, ne_eq, Decidable.not_not, Int.not_lt, Int.not_le, gt_iff_lt, ge_iff_le, Bool.true_eq_false, Bool.false_eq_true, not_true_eq_false, not_false_eq_true] at h7p
            refine g_skip ?_
            refine n_then ?_
            refine g_seq ?_
            -- region 17 law.go:63
            refine g_region ?_
            refine wl_of (op_y (wn rfl) rfl rfl S (y_move rfl S rfl) fun a S => ?_)
            refine gl_nil ?_
            refine n_then ?_
            -- cond 6 (both ways go on)
            refine c_if S rfl (fun h8 => ?_) (fun h8 => ?_)
            · have h8p := h8; try simp only [Option.isNone_some, Option.isNone_none, Option.isSome_some, Option.isSome_none, false_or, or_false, true_and, and_true, decide_eq_true_eq, decide_eq_false_iff_not, Bool.or_eq_true, Bool.and_eq_true, Bool.or_eq_false_iff, Bool.and_eq_false_iff, Bool.not_eq_true', Bool.not_eq_false', bne_iff_ne, beq_iff_eq, beq_eq_false_iff_ne, bne_eq_false_iff_eq, ne_eq, Decidable.not_not, Int.not_lt, Int.not_le, gt_iff_lt, ge_iff_le, Bool.true_eq_false, Bool.false_eq_true, not_true_eq_false, not_false_eq_true] at h8p
              have e5 : refAtLeast next[k] old[i] = true := by rw [← is_iff old[i] next k (by omega), ← hrow]; exact h8
              rw [if_pos e5] at hst
              -- region 18 law.go:64
              refine g_region ?_
              refine wl_of (op_y (wn rfl) rfl rfl S (y_move rfl S rfl) fun a S => ?_)
              refine wl_of (op_y (wn rfl) rfl rfl S (y_add rfl S rfl rfl (by omega)) fun a S => ?_)
              refine wl_of (op_y (wn rfl) rfl rfl S (y_assign rfl S rfl) fun a S => ?_)
              refine gl_nil ?_
              refine n_block ?_
              refine n_then ?_
              -- region 13 law.go:58
              refine g_region ?_
              refine wl_of (op_y (wn rfl) rfl rfl S (y_move rfl S rfl) fun a S => ?_)
              refine wl_of (op_y (wn rfl) rfl rfl S (y_add rfl S rfl rfl (by omega)) fun a S => ?_)
              refine wl_of (op_y (wn rfl) rfl rfl S (y_assign rfl S rfl) fun a S => ?_)
              refine gl_nil ?_
              refine n_then ?_
              first
              | (have e8 : ((fits old[i] (next.take k) 0).length : Int) + 1 = ((fits old[i] (next.take (k + 1)) 0).length : Int) := by rw [hst]; simp
                 rw [e8] at S
                 exact ⟨k + 1, (S.nil.cons S 9 rfl).cons S 8 rfl, ((((((((S.nil.cons S 1 rfl).cons S 0 rfl).cons S 5 rfl).cons S 6 rfl).cons S 7 rfl).cons S 29 rfl).cons S 30 rfl).cons S 31 rfl).cons S 32 rfl, H, by omega, by omega⟩)
              | (have e8 : ((fits old[i] (next.take k) 0).length : Int) = ((fits old[i] (next.take (k + 1)) 0).length : Int) := by rw [hst]; simp
                 rw [e8] at S
                 exact ⟨k + 1, (S.nil.cons S 9 rfl).cons S 8 rfl, ((((((((S.nil.cons S 1 rfl).cons S 0 rfl).cons S 5 rfl).cons S 6 rfl).cons S 7 rfl).cons S 29 rfl).cons S 30 rfl).cons S 31 rfl).cons S 32 rfl, H, by omega, by omega⟩)
            · have h8p := h8; try simp only [Option.isNone_some, Option.isNone_none, Option.isSome_some, Option.isSome_none, false_or, or_false, true_and, and_true, decide_eq_true_eq, decide_eq_false_iff_not, Bool.or_eq_true, Bool.and_eq_true, Bool.or_eq_false_iff, Bool.and_eq_false_iff, Bool.not_eq_true', Bool.not_eq_false', bne_iff_ne, beq_iff_eq, beq_eq_false_iff_ne, bne_eq_false_iff_eq, ne_eq, Decidable.not_not, Int.not_lt, Int.not_le, gt_iff_lt, ge_iff_le, Bool.true_eq_false, Bool.false_eq_true, not_true_eq_false, not_false_eq_true] at h8p
              have e5 : ¬ refAtLeast next[k] old[i] = true := by rw [← is_iff old[i] next k (by omega), ← hrow, h8]; simp
              rw [if_neg e5] at hst
              refine g_skip ?_
              refine n_block ?_
              refine n_then ?_
              -- region 13 law.go:58
              refine g_region ?_
              refine wl_of (op_y (wn rfl) rfl rfl S (y_move rfl S rfl) fun a S => ?_)
              refine wl_of (op_y (wn rfl) rfl rfl S (y_add rfl S rfl rfl (by omega)) fun a S => ?_)
              refine wl_of (op_y (wn rfl) rfl rfl S (y_assign rfl S rfl) fun a S => ?_)
              refine gl_nil ?_
              refine n_then ?_
              first
              | (have e8 : ((fits old[i] (next.take k) 0).length : Int) + 1 = ((fits old[i] (next.take (k + 1)) 0).length : Int) := by rw [hst]; simp
                 rw [e8] at S
                 exact ⟨k + 1, (S.nil.cons S 9 rfl).cons S 8 rfl, ((((((((S.nil.cons S 1 rfl).cons S 0 rfl).cons S 5 rfl).cons S 6 rfl).cons S 7 rfl).cons S 29 rfl).cons S 30 rfl).cons S 31 rfl).cons S 32 rfl, H, by omega, by omega⟩)
              | (have e8 : ((fits old[i] (next.take k) 0).length : Int) = ((fits old[i] (next.take (k + 1)) 0).length : Int) := by rw [hst]; simp
                 rw [e8] at S
                 exact ⟨k + 1, (S.nil.cons S 9 rfl).cons S 8 rfl, ((((((((S.nil.cons S 1 rfl).cons S 0 rfl).cons S 5 rfl).cons S 6 rfl).cons S 7 rfl).cons S 29 rfl).cons S 30 rfl).cons S 31 rfl).cons S 32 rfl, H, by omega, by omega⟩)
        · have h5p := h5; try simp only [Option.isNone_some, Option.isNone_none, Option.isSome_some, Option.isSome_none, false_or, or_false, true_and, and_true, decide_eq_true_eq, decide_eq_false_iff_not, Bool.or_eq_true, Bool.and_eq_true, Bool.or_eq_false_iff, Bool.and_eq_false_iff, Bool.not_eq_true', Bool.not_eq_false', bne_iff_ne, beq_iff_eq, beq_eq_false_iff_ne, bne_eq_false_iff_eq, ne_eq, Decidable.not_not, Int.not_lt, Int.not_le, gt_iff_lt, ge_iff_le, Bool.true_eq_false, Bool.false_eq_true, not_true_eq_false, not_false_eq_true] at h5p
          obtain rfl : k = next.length := by omega
          rw [List.take_length] at S
          refine g_exit ?_
          refine x_then (x_then (x_eq ?_))
          refine n_then ?_
          refine g_seq ?_
          -- region 19 law.go:67
          refine g_region ?_
          refine wl_of (op_y (wn rfl) rfl rfl S (y_move rfl S rfl) fun a S => ?_)
          refine wl_of (op_y (wn rfl) rfl rfl S (y_move rfl S rfl) fun a S => ?_)
          refine wl_of (op_y (wn rfl) rfl rfl S (y_move rfl S rfl) fun a S => ?_)
          refine wl_of (op_y (wn rfl) rfl rfl S (y_iaddrn rfl Try.underlying28 Fsiz32 S H rfl rfl (by first | assumption | omega | (simp only [List.length_append, List.length_take, List.length_drop, List.length_replicate, List.length_set, List.length_map, List.length_cons, List.length_nil]; omega))) fun a S => ?_)
          refine wl_of (op_y (wn rfl) rfl rfl S (y_loads _ rfl Fsca32 S H rfl (by first | assumption | omega | (simp only [List.length_append, List.length_take, List.length_drop, List.length_replicate, List.length_set, List.length_map, List.length_cons, List.length_nil]; omega)) rfl) fun a S => ?_)
          refine wl_of (op_y (wn rfl) rfl rfl S (y_lens rfl Try.underlying32 S H rfl) fun a S => ?_)
          refine wl_of (op_y (wn rfl) rfl rfl S (y_bin rfl S rfl rfl rfl) fun a S => ?_)
          refine gl_nil ?_
          refine n_then ?_
          -- cond 7
          refine c_if S rfl (fun h9 => ?_) (fun h9 => ?_)
          · have h9p := h9; try simp only [Option.isNone_some, Option.isNone_none, Option.isSome_some, Option.isSome_none, false_or, or_false, true_and, and_true, decide_eq_true_eq, decide_eq_false_iff_not, Bool.or_eq_true, Bool.and_eq_true, Bool.or_eq_false_iff, Bool.and_eq_false_iff, Bool.not_eq_true', Bool.not_eq_false', bne_iff_ne, beq_iff_eq, beq_eq_false_iff_ne, bne_eq_false_iff_eq, ne_eq, Decidable.not_not, Int.not_lt, Int.not_le, gt_iff_lt, ge_iff_le, Bool.true_eq_false, Bool.false_eq_true, not_true_eq_false, not_false_eq_true] at h9p
            all_goals (
              exfalso; rw [hrow] at h9; simp at h9)
          · have h9p := h9; try simp only [Option.isNone_some, Option.isNone_none, Option.isSome_some, Option.isSome_none, false_or, or_false, true_and, and_true, decide_eq_true_eq, decide_eq_false_iff_not, Bool.or_eq_true, Bool.and_eq_true, Bool.or_eq_false_iff, Bool.and_eq_false_iff, Bool.not_eq_true', Bool.not_eq_false', bne_iff_ne, beq_iff_eq, beq_eq_false_iff_ne, bne_eq_false_iff_eq, ne_eq, Decidable.not_not, Int.not_lt, Int.not_le, gt_iff_lt, ge_iff_le, Bool.true_eq_false, Bool.false_eq_true, not_true_eq_false, not_false_eq_true] at h9p
            refine g_skip ?_
            refine n_block ?_
            refine n_then ?_
            -- region 9 law.go:56
            refine g_region ?_
            refine wl_of (op_y (wn rfl) rfl rfl S (y_move rfl S rfl) fun a S => ?_)
            refine wl_of (op_y (wn rfl) rfl rfl S (y_add rfl S rfl rfl (by omega)) fun a S => ?_)
            refine wl_of (op_y (wn rfl) rfl rfl S (y_assign rfl S rfl) fun a S => ?_)
            refine gl_nil ?_
            refine n_then ?_
            refine ⟨i + 1, S.nil.cons S 7 rfl, (((S.nil.cons S 1 rfl).cons S 0 rfl).cons S 5 rfl).cons S 6 rfl, H, ?_, ?_⟩
            · omega
            · omega
      · have h4p := h4; try simp only [Option.isNone_some, Option.isNone_none, Option.isSome_some, Option.isSome_none, false_or, or_false, true_and, and_true, decide_eq_true_eq, decide_eq_false_iff_not, Bool.or_eq_true, Bool.and_eq_true, Bool.or_eq_false_iff, Bool.and_eq_false_iff, Bool.not_eq_true', Bool.not_eq_false', bne_iff_ne, beq_iff_eq, beq_eq_false_iff_ne, bne_eq_false_iff_eq, ne_eq, Decidable.not_not, Int.not_lt, Int.not_le, gt_iff_lt, ge_iff_le, Bool.true_eq_false, Bool.false_eq_true, not_true_eq_false, not_false_eq_true] at h4p
        skip
        refine g_exit ?_
        refine x_then (x_then (x_eq ?_))
        refine n_then ?_
        have S := S.nil.cons S 5 rfl
        refine g_seq ?_
        -- region 21 law.go:71
        refine g_region ?_
        refine wl_of (op_y (wn rfl) rfl rfl S (y_move rfl S rfl) fun a S => ?_)
        refine wl_of (op_y (wn rfl) rfl rfl S (y_assign rfl S rfl) fun a S => ?_)
        refine gl_nil ?_
        refine n_then ?_
        refine g_ret ?_
        refine ret1 rfl S rfl ?_
        exact ⟨rfl, H.toExt⟩

end Go.Proofs.Ytbncnncpeiiliaa
