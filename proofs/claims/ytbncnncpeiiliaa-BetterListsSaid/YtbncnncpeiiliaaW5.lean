/- The walks. No condition. -/
import Derived.Test.YtbncnncpeiiliaaChecked
import Derived.Test.YtbncnncpeiiliaaGwRows
import Derived.Test.YtbncnncpeiiliaaFacts
import Derived.Test.YtbncnncpeiiliaaPlain
import Derived.Test.YtbncnncpeiiliaaW4
namespace Go.Proofs.Ytbncnncpeiiliaa
open Go Go.Gw
set_option linter.unusedVariables false
set_option linter.unusedSimpArgs false
set_option maxHeartbeats 2000000 in
/-- foyer/foyerlaw39.BetterImproves -/
theorem law4 (p q : Pl) (n0 n1 n2 n3 : Int) (w0 : World) (hn0 : 0 ≤ n0 ∧ n0 ≤ 255) (hn1 : 0 ≤ n1 ∧ n1 ≤ 255) (hn2 : 0 ≤ n2 ∧ n2 ≤ 255) (hn3 : 0 ≤ n3 ∧ n3 ≤ 255) :
    Ret Try.prog 6 #[.agg (Pl.enc p).toArray, .agg (Pl.enc q).toArray, .agg #[.int .u8 n0, .int .u8 n1, .int .u8 n2, .int .u8 n3]] w0 (fun v w => v = .bool true ∧ Ext w0 w) := by
  refine ret_of_wp (nt := 92) Try.func6 rfl rfl rfl (fl := [(0, .agg (Pl.enc p).toArray), (1, .agg (Pl.enc q).toArray), (2, .agg #[.int .u8 n0, .int .u8 n1, .int .u8 n2, .int .u8 n3])]) rfl (fun a S => ?_)
  have H := HSat.start w0
  refine g_seq ?_
  -- region 0 law.go:75
  refine g_region ?_
  refine wl_of (op_boxa (wn rfl) rfl rfl rfl S H rfl fun b3 a w S H => ?_)
  refine wl_of (op_boxa (wn rfl) rfl rfl rfl S H rfl fun b4 a w S H => ?_)
  refine wl_of (op_boxa (wn rfl) rfl rfl rfl S H rfl fun b5 a w S H => ?_)
  refine wl_of (op_y (wn rfl) rfl rfl S (y_assign rfl S rfl) fun a S => ?_)
  refine gl_nil ?_
  refine n_then ?_
  refine g_seq ?_
  -- region 1 law.go:76
  refine g_region ?_
  refine wl_of (op_call (wn rfl) rfl rfl S (co_func rfl Try.call8 S rfl) (head_spec _) fun v w hc a S => ?_)
  obtain ⟨rfl, he⟩ := hc
  have H := H.ext he
  refine wl_of (op_y (wn rfl) rfl rfl S (y_assign rfl S rfl) fun a S => ?_)
  refine gl_nil ?_
  refine n_then ?_
  have S := ((((S.nil.cons S 3 rfl).cons S 4 rfl).cons S 5 rfl).cons S 6 rfl).cons S 7 rfl
  refine g_seq ?_
  refine g_seq ?_
  -- region 2 law.go:77
  refine g_region ?_
  refine wl_of (op_y (wn rfl) rfl rfl S (y_load0 rfl S H rfl (by exact Fagg26)) fun a S => ?_)
  refine wl_of (op_y (wn rfl) rfl rfl S (y_load0 rfl S H rfl (by exact Fagg26)) fun a S => ?_)
  refine wl_of (op_buildSlice (wn rfl) rfl rfl rfl Try.underlying22 Finf26 S H (idx := [0, 1]) rfl rfl rfl (z := [.int .i64 0, .int .i64 0, .int .i64 0, .int .i64 0, .int .i64 0, .int .i64 0, .int .i64 0, .int .i64 0, .int .i64 0, .int .i64 0, .int .i64 0, .int .i64 0, .int .i64 0, .int .i64 0, .int .i64 0, .int .i64 0, .int .i64 0, .int .i64 0]) (by kernel_rfl) (cs := [.int .i64 p.kind, .int .i64 p.level, .int .i64 p.block, .int .i64 p.row, .int .i64 p.seat, .int .i64 p.x, .int .i64 p.y, .int .i64 p.view, .int .i64 p.with_, .int .i64 q.kind, .int .i64 q.level, .int .i64 q.block, .int .i64 q.row, .int .i64 q.seat, .int .i64 q.x, .int .i64 q.y, .int .i64 q.view, .int .i64 q.with_]) (by kernel_rfl) fun b15 a w S H => ?_)
  have H := H.celO [p, q] Pl.enc 9 (m := 2) rfl (by simp [Pl.enc]) rfl (by decide)
  refine wl_of (op_y (wn rfl) rfl rfl S (y_lens rfl Try.underlying22 S H rfl) fun a S => ?_)
  refine wl_of (op_y (wn rfl) rfl rfl S (y_move rfl S rfl) fun a S => ?_)
  refine gl_nil ?_
  refine n_then ?_
  refine g_block ?_
  -- slots written in the loop and forgotten at its head: [6]
  have SU := (((((S.nil.cons S 3 rfl).cons S 4 rfl).cons S 5 rfl).cons S 7 rfl).cons S 15 rfl).cons S 16 rfl
  refine loop_k (X := Nat) SU (fun k => [(17, .int .i64 (k : Int))]) (fun k => k ≤ 2 ∧ ∀ j (h : j < [p, q].length), j < k → inR [p, q][j]) (fun k => 2 - k) 0 (S.nil.cons S 17 rfl) H (⟨by omega, fun j h hj => by omega⟩) (fun k a w S H hi => ?_)
  simp only [List.cons_append, List.nil_append] at S hi
  obtain ⟨hk, hin⟩ := hi
  refine g_seq ?_
  -- region 3 law.go:77
  refine g_region ?_
  refine wl_of (op_y (wn rfl) rfl rfl S (y_bin rfl S rfl rfl rfl) fun a S => ?_)
  refine gl_nil ?_
  refine n_then ?_
  refine g_seq ?_
  -- cond 1
  refine c_if S rfl (fun h1 => ?_) (fun h1 => ?_)
  · have h1p := h1; try simp only [Option.isNone_some, Option.isNone_none, Option.isSome_some, Option.isSome_none, false_or, or_false, true_and, and_true, decide_eq_true_eq, decide_eq_false_iff_not, Bool.or_eq_true, Bool.and_eq_true, Bool.or_eq_false_iff, Bool.and_eq_false_iff, Bool.not_eq_true', Bool.not_eq_false', bne_iff_ne, beq_iff_eq, beq_eq_false_iff_ne, bne_eq_false_iff_eq, ne_eq, Decidable.not_not, Int.not_lt, Int.not_le, gt_iff_lt, ge_iff_le, Bool.true_eq_false, Bool.false_eq_true, not_true_eq_false, not_false_eq_true] at h1p
    have hk2 : k < 2 := by have := h1p; simp only [List.length_cons, List.length_nil] at this; omega
    refine g_skip ?_
    refine n_then ?_
    refine g_seq ?_
    refine g_block ?_
    refine g_seq ?_
    -- region 4 law.go:77
    refine g_region ?_
    refine wl_of (op_y (wn rfl) rfl rfl S (y_iaddrn rfl Try.underlying22 Fsiz26 S H rfl rfl (by first | assumption | omega | (simp only [List.length_append, List.length_take, List.length_drop, List.length_replicate, List.length_set, List.length_map, List.length_cons, List.length_nil]; omega))) fun a S => ?_)
    refine wl_of (op_y (wn rfl) rfl rfl S (y_loadsa _ rfl S H rfl (by exact Fagg26) (by first | assumption | omega | (simp only [List.length_append, List.length_take, List.length_drop, List.length_replicate, List.length_set, List.length_map, List.length_cons, List.length_nil]; omega))) fun a S => ?_)
    refine wl_of (op_alloc (wn rfl) rfl rfl rfl S H Fzer26 fun b9 a w S H => ?_)
    refine wl_of (op_storea (wn rfl) rfl rfl S H rfl rfl rfl Fsiz26 rfl (cs' := [_, _, _, _, _, _, _, _, _]) rfl fun a w S H => ?_)
    refine gl_nil ?_
    refine n_then ?_
    refine g_seq ?_
    -- region 5 law.go:78
    refine g_region ?_
    refine wl_of (op_y (wn rfl) rfl rfl S (y_faddrb rfl Ffo26_7 S rfl) fun a S => ?_)
    refine wl_of (op_y (wn rfl) rfl rfl S (y_load rfl Fsca3 S H rfl rfl) fun a S => ?_)
    refine wl_of (op_y (wn rfl) rfl rfl S (y_bin rfl S rfl rfl rfl) fun a S => ?_)
    refine wl_of (op_y (wn rfl) rfl rfl S (y_move rfl S rfl) fun a S => ?_)
    refine' wl_or 3 24 rfl S H rfl rfl rfl rfl rfl rfl rfl (fun _ S => (wn rfl)) (fun h2 kk => ?yh2) (fun a w S H => ?_)
    case yh2 =>
      have h2p := h2; try simp only [Option.isNone_some, Option.isNone_none, Option.isSome_some, Option.isSome_none, false_or, or_false, true_and, and_true, decide_eq_true_eq, decide_eq_false_iff_not, Bool.or_eq_true, Bool.and_eq_true, Bool.or_eq_false_iff, Bool.and_eq_false_iff, Bool.not_eq_true', Bool.not_eq_false', bne_iff_ne, beq_iff_eq, beq_eq_false_iff_ne, bne_eq_false_iff_eq, ne_eq, Decidable.not_not, Int.not_lt, Int.not_le, gt_iff_lt, ge_iff_le, Bool.true_eq_false, Bool.false_eq_true, not_true_eq_false, not_false_eq_true] at h2p
      refine wl_of (op_y (wg' 24 rfl rfl S rfl h2 rfl) rfl rfl S (y_faddrb rfl Ffo26_7 S rfl) fun a S => ?_)
      refine wl_of (op_y (wg' 24 rfl rfl S rfl h2 rfl) rfl rfl S (y_load rfl Fsca3 S H rfl rfl) fun a S => ?_)
      refine wl_of (op_y (wg' 24 rfl rfl S rfl h2 rfl) rfl rfl S (y_bin rfl S rfl rfl rfl) fun a S => ?_)
      refine wl_of (op_y (wn rfl) rfl rfl S (y_or' rfl h2 S rfl rfl) fun a S => ?_)
      exact kk _ _ (S.join 4 28 rfl rfl) H
    refine wl_of (op_y (wn rfl) rfl rfl S (y_move rfl S rfl) fun a S => ?_)
    refine' wl_or 3 29 rfl S H rfl rfl rfl rfl rfl rfl rfl (fun _ S => (wn rfl)) (fun h3 kk => ?yh3) (fun a w S H => ?_)
    case yh3 =>
      have h3p := h3; try simp only [Option.isNone_some, Option.isNone_none, Option.isSome_some, Option.isSome_none, false_or, or_false, true_and, and_true, decide_eq_true_eq, decide_eq_false_iff_not, Bool.or_eq_true, Bool.and_eq_true, Bool.or_eq_false_iff, Bool.and_eq_false_iff, Bool.not_eq_true', Bool.not_eq_false', bne_iff_ne, beq_iff_eq, beq_eq_false_iff_ne, bne_eq_false_iff_eq, ne_eq, Decidable.not_not, Int.not_lt, Int.not_le, gt_iff_lt, ge_iff_le, Bool.true_eq_false, Bool.false_eq_true, not_true_eq_false, not_false_eq_true] at h3p
      refine wl_of (op_y (wg' 29 rfl rfl S rfl h3 rfl) rfl rfl S (y_faddrb rfl Ffo26_1 S rfl) fun a S => ?_)
      refine wl_of (op_y (wg' 29 rfl rfl S rfl h3 rfl) rfl rfl S (y_load rfl Fsca3 S H rfl rfl) fun a S => ?_)
      refine wl_of (op_y (wg' 29 rfl rfl S rfl h3 rfl) rfl rfl S (y_bin rfl S rfl rfl rfl) fun a S => ?_)
      refine wl_of (op_y (wn rfl) rfl rfl S (y_or' rfl h3 S rfl rfl) fun a S => ?_)
      exact kk _ _ (S.join 4 33 rfl rfl) H
    refine wl_of (op_y (wn rfl) rfl rfl S (y_move rfl S rfl) fun a S => ?_)
    refine' wl_or 3 34 rfl S H rfl rfl rfl rfl rfl rfl rfl (fun _ S => (wn rfl)) (fun h4 kk => ?yh4) (fun a w S H => ?_)
    case yh4 =>
      have h4p := h4; try simp only [Option.isNone_some, Option.isNone_none, Option.isSome_some, Option.isSome_none, false_or, or_false, true_and, and_true, decide_eq_true_eq, decide_eq_false_iff_not, Bool.or_eq_true, Bool.and_eq_true, Bool.or_eq_false_iff, Bool.and_eq_false_iff, Bool.not_eq_true', Bool.not_eq_false', bne_iff_ne, beq_iff_eq, beq_eq_false_iff_ne, bne_eq_false_iff_eq, ne_eq, Decidable.not_not, Int.not_lt, Int.not_le, gt_iff_lt, ge_iff_le, Bool.true_eq_false, Bool.false_eq_true, not_true_eq_false, not_false_eq_true] at h4p
      refine wl_of (op_y (wg' 34 rfl rfl S rfl h4 rfl) rfl rfl S (y_faddrb rfl Ffo26_1 S rfl) fun a S => ?_)
      refine wl_of (op_y (wg' 34 rfl rfl S rfl h4 rfl) rfl rfl S (y_load rfl Fsca3 S H rfl rfl) fun a S => ?_)
      refine wl_of (op_y (wg' 34 rfl rfl S rfl h4 rfl) rfl rfl S (y_bin rfl S rfl rfl rfl) fun a S => ?_)
      refine wl_of (op_y (wn rfl) rfl rfl S (y_or' rfl h4 S rfl rfl) fun a S => ?_)
      exact kk _ _ (S.join 4 38 rfl rfl) H
    refine gl_nil ?_
    refine n_then ?_
    -- cond 2
    refine c_if S rfl (fun h5 => ?_) (fun h5 => ?_)
    · have h5p := h5; try simp only [Option.isNone_some, Option.isNone_none, Option.isSome_some, Option.isSome_none, false_or, or_false, true_and, and_true, decide_eq_true_eq, decide_eq_false_iff_not, Bool.or_eq_true, Bool.and_eq_true, Bool.or_eq_false_iff, Bool.and_eq_false_iff, Bool.not_eq_true', Bool.not_eq_false', bne_iff_ne, beq_iff_eq, beq_eq_false_iff_ne, bne_eq_false_iff_eq, ne_eq, Decidable.not_not, Int.not_lt, Int.not_le, gt_iff_lt, ge_iff_le, Bool.true_eq_false, Bool.false_eq_true, not_true_eq_false, not_false_eq_true] at h5p
      refine g_seq ?_
      -- region 6 law.go:79
      refine g_region ?_
      refine wl_of (op_y (wn rfl) rfl rfl S (y_move rfl S rfl) fun a S => ?_)
      refine wl_of (op_y (wn rfl) rfl rfl S (y_assign rfl S rfl) fun a S => ?_)
      refine gl_nil ?_
      refine n_then ?_
      refine g_ret ?_
      refine r_block (r_then (r_then (r_block (r_then (ret1 rfl S rfl ?_)))))
      exact ⟨rfl, H.toExt⟩
    · have h5p := h5; try simp only [Option.isNone_some, Option.isNone_none, Option.isSome_some, Option.isSome_none, false_or, or_false, true_and, and_true, decide_eq_true_eq, decide_eq_false_iff_not, Bool.or_eq_true, Bool.and_eq_true, Bool.or_eq_false_iff, Bool.and_eq_false_iff, Bool.not_eq_true', Bool.not_eq_false', bne_iff_ne, beq_iff_eq, beq_eq_false_iff_ne, bne_eq_false_iff_eq, ne_eq, Decidable.not_not, Int.not_lt, Int.not_le, gt_iff_lt, ge_iff_le, Bool.true_eq_false, Bool.false_eq_true, not_true_eq_false, not_false_eq_true] at h5p
      refine g_skip ?_
      refine n_block ?_
      refine n_then ?_
      -- region 7 law.go:77
      refine g_region ?_
      refine wl_of (op_y (wn rfl) rfl rfl S (y_add rfl S rfl rfl (by omega)) fun a S => ?_)
      refine wl_of (op_y (wn rfl) rfl rfl S (y_move rfl S rfl) fun a S => ?_)
      refine gl_nil ?_
      refine n_then ?_
      refine ⟨k + 1, S.nil.cons S 17 rfl, (((((S.nil.cons S 3 rfl).cons S 4 rfl).cons S 5 rfl).cons S 7 rfl).cons S 15 rfl).cons S 16 rfl, H.drop 1, ?_, ?_⟩
      · refine ⟨by omega, fun j h hj => ?_⟩
        by_cases hjk : j < k
        · exact hin j h hjk
        · obtain rfl : j = k := by omega
          unfold inR; omega
      · omega
  · have h1p := h1; try simp only [Option.isNone_some, Option.isNone_none, Option.isSome_some, Option.isSome_none, false_or, or_false, true_and, and_true, decide_eq_true_eq, decide_eq_false_iff_not, Bool.or_eq_true, Bool.and_eq_true, Bool.or_eq_false_iff, Bool.and_eq_false_iff, Bool.not_eq_true', Bool.not_eq_false', bne_iff_ne, beq_iff_eq, beq_eq_false_iff_ne, bne_eq_false_iff_eq, ne_eq, Decidable.not_not, Int.not_lt, Int.not_le, gt_iff_lt, ge_iff_le, Bool.true_eq_false, Bool.false_eq_true, not_true_eq_false, not_false_eq_true] at h1p
    have hk2 : k = 2 := by have := h1p; simp only [List.length_cons, List.length_nil] at this; omega
    have hpr : inR p := hin 0 (by simp) (by omega)
    have hqr : inR q := hin 1 (by simp) (by omega)
    unfold inR at hpr hqr
    refine g_exit ?_
    refine x_then (x_then (x_eq ?_))
    refine n_then ?_
    have S := (((S.nil.cons S 3 rfl).cons S 4 rfl).cons S 5 rfl).cons S 7 rfl
    refine g_seq ?_
    refine g_seq ?_
    -- region 8 law.go:82
    refine g_region ?_
    refine wl_of (op_y (wn rfl) rfl rfl S (y_load0 rfl S H rfl (by exact Fagg26)) fun a S => ?_)
    refine wl_of (op_y (wn rfl) rfl rfl S (y_load0 rfl S H rfl (by exact Fagg26)) fun a S => ?_)
    refine wl_of (op_call (wn rfl) rfl rfl S (co_func rfl Try.call9 S rfl) (atLeast_spec p q _) fun v w hc a S => ?_)
    obtain ⟨rfl, he⟩ := hc
    have H := H.ext he
    refine wl_of (op_y (wn rfl) rfl rfl S (y_not rfl S rfl) fun a S => ?_)
    refine gl_nil ?_
    refine n_then ?_
    -- cond 3
    refine c_if S rfl (fun h6 => ?_) (fun h6 => ?_)
    · have h6p := h6; try simp only [Option.isNone_some, Option.isNone_none, Option.isSome_some, Option.isSome_none, false_or, or_false, true_and, and_true, decide_eq_true_eq, decide_eq_false_iff_not, Bool.or_eq_true, Bool.and_eq_true, Bool.or_eq_false_iff, Bool.and_eq_false_iff, Bool.not_eq_true', Bool.not_eq_false', bne_iff_ne, beq_iff_eq, beq_eq_false_iff_ne, bne_eq_false_iff_eq, ne_eq, Decidable.not_not, Int.not_lt, Int.not_le, gt_iff_lt, ge_iff_le, Bool.true_eq_false, Bool.false_eq_true, not_true_eq_false, not_false_eq_true] at h6p
      skip
      refine g_seq ?_
      -- region 9 law.go:83
      refine g_region ?_
      refine wl_of (op_y (wn rfl) rfl rfl S (y_move rfl S rfl) fun a S => ?_)
      refine wl_of (op_y (wn rfl) rfl rfl S (y_assign rfl S rfl) fun a S => ?_)
      refine gl_nil ?_
      refine n_then ?_
      have S := ((((S.nil.cons S 3 rfl).cons S 4 rfl).cons S 5 rfl).cons S 7 rfl).cons S 6 rfl
      refine g_ret ?_
      refine r_then (ret1 rfl S rfl ?_)
      exact ⟨rfl, H.toExt⟩
    · have h6p := h6; try simp only [Option.isNone_some, Option.isNone_none, Option.isSome_some, Option.isSome_none, false_or, or_false, true_and, and_true, decide_eq_true_eq, decide_eq_false_iff_not, Bool.or_eq_true, Bool.and_eq_true, Bool.or_eq_false_iff, Bool.and_eq_false_iff, Bool.not_eq_true', Bool.not_eq_false', bne_iff_ne, beq_iff_eq, beq_eq_false_iff_ne, bne_eq_false_iff_eq, ne_eq, Decidable.not_not, Int.not_lt, Int.not_le, gt_iff_lt, ge_iff_le, Bool.true_eq_false, Bool.false_eq_true, not_true_eq_false, not_false_eq_true] at h6p
      have hal : refAtLeast p q = true := by simpa using h6
      have him := improves p q hal n0 n1 n2 n3 hn0.1 hn1.1 hn2.1 hn3.1
      refine g_skip ?_
      refine n_then ?_
      have S := (((S.nil.cons S 3 rfl).cons S 4 rfl).cons S 5 rfl).cons S 7 rfl
      refine g_seq ?_
      -- region 10 DRAWS law.go:85
      -- several orders
      refine cut (fun a w => ∃ b10 b11, St 92 [(3, .pointer (some ⟨b3, 0, none⟩)), (4, .pointer (some ⟨b4, 0, none⟩)), (5, .pointer (some ⟨b5, 0, none⟩)), (7, .bool true), (10, .pointer (some ⟨b10, 0, none⟩)), (11, .pointer (some ⟨b11, 0, none⟩))] a ∧ HSat No w0 [Cel b11 26 (Pl.enc q), Cel b10 26 (Pl.enc p), Cel b5 33 [.int .u8 n0, .int .u8 n1, .int .u8 n2, .int .u8 n3], Cel b4 26 (Pl.enc q), Cel b3 26 (Pl.enc p)] w) ?_ ?_
      · skip
        refine t_st (tails := [4, 5]) Fmo H ?_
        refine t_q 0 rfl (by kernel_rfl) (rem' := [1, 2, 3, 4, 5]) rfl rfl rfl rfl S (fun w H => y_load0 rfl S H rfl (by exact Fagg26)) fun a S => ?_
        refine t_b [1, 2, 3] (by kernel_rfl) rfl ?_
        intro i hi; simp only [List.mem_cons, List.not_mem_nil, or_false] at hi; rcases hi with rfl | rfl | rfl
        · refine ⟨_, rfl, fun w H => ?_⟩
          refine op_y (wn rfl) rfl rfl S (y_load0 rfl S H rfl (by exact Fagg26)) fun a S => ?_
          refine t_next H (by repeat (first | exact List.Sublist.refl _ | apply List.Sublist.cons)) (rem' := [2, 3, 4, 5]) rfl ?_
          refine t_b [2, 3] (by kernel_rfl) rfl ?_
          intro i hi; simp only [List.mem_cons, List.not_mem_nil, or_false] at hi; rcases hi with rfl | rfl
          · refine ⟨_, rfl, fun w H => ?_⟩
            refine op_alloc (wn rfl) rfl rfl rfl S H Fzer26 fun b10 a w S H => ?_
            refine t_next H (by repeat (first | exact List.Sublist.refl _ | apply List.Sublist.cons)) (rem' := [3, 4, 5]) rfl ?_
            refine t_b [3] (by kernel_rfl) rfl ?_
            intro i hi; simp only [List.mem_cons, List.not_mem_nil, or_false] at hi; subst hi
            · refine ⟨_, rfl, fun w H => ?_⟩
              refine op_alloc (wn rfl) rfl rfl rfl S H Fzer26 fun b11 a w S H => ?_
              refine t_next H (by repeat (first | exact List.Sublist.refl _ | apply List.Sublist.cons)) (rem' := [4, 5]) rfl ?_
              refine t_b [4] (by kernel_rfl) rfl ?_
              intro i hi; simp only [List.mem_cons, List.not_mem_nil, or_false] at hi; subst hi
              · refine ⟨_, rfl, fun w H => ?_⟩
                refine op_storea (wn rfl) rfl rfl S H rfl rfl rfl Fsiz26 rfl (cs' := [_, _, _, _, _, _, _, _, _]) rfl fun a w S H => ?_
                refine t_tail H rfl (rem' := [5]) rfl ?_
                refine t_b [5] (by kernel_rfl) rfl ?_
                intro i hi; simp only [List.mem_cons, List.not_mem_nil, or_false] at hi; subst hi
                · refine ⟨_, rfl, fun w H => ?_⟩
                  refine op_storea (wn rfl) rfl rfl S H rfl rfl rfl Fsiz26 rfl (cs' := [_, _, _, _, _, _, _, _, _]) rfl fun a w S H => ?_
                  refine t_tail H rfl (rem' := []) rfl ?_
                  refine t_nil (fun w H => ?_)
                  exact ⟨b10, b11, (((((S.nil.cons S 11 rfl).cons S 10 rfl).cons S 7 rfl).cons S 5 rfl).cons S 4 rfl).cons S 3 rfl, H.takeK [.b b11, .b b10, .b b5, .b b4, .b b3]⟩
          · refine ⟨_, rfl, fun w H => ?_⟩
            refine op_alloc (wn rfl) rfl rfl rfl S H Fzer26 fun b11 a w S H => ?_
            refine t_next H (by repeat (first | exact List.Sublist.refl _ | apply List.Sublist.cons)) (rem' := [2, 4, 5]) rfl ?_
            refine t_b [2] (by kernel_rfl) rfl ?_
            intro i hi; simp only [List.mem_cons, List.not_mem_nil, or_false] at hi; subst hi
            · refine ⟨_, rfl, fun w H => ?_⟩
              refine op_alloc (wn rfl) rfl rfl rfl S H Fzer26 fun b10 a w S H => ?_
              refine t_next H (by repeat (first | exact List.Sublist.refl _ | apply List.Sublist.cons)) (rem' := [4, 5]) rfl ?_
              refine t_b [4] (by kernel_rfl) rfl ?_
              intro i hi; simp only [List.mem_cons, List.not_mem_nil, or_false] at hi; subst hi
              · refine ⟨_, rfl, fun w H => ?_⟩
                refine op_storea (wn rfl) rfl rfl S H rfl rfl rfl Fsiz26 rfl (cs' := [_, _, _, _, _, _, _, _, _]) rfl fun a w S H => ?_
                refine t_tail H rfl (rem' := [5]) rfl ?_
                refine t_b [5] (by kernel_rfl) rfl ?_
                intro i hi; simp only [List.mem_cons, List.not_mem_nil, or_false] at hi; subst hi
                · refine ⟨_, rfl, fun w H => ?_⟩
                  refine op_storea (wn rfl) rfl rfl S H rfl rfl rfl Fsiz26 rfl (cs' := [_, _, _, _, _, _, _, _, _]) rfl fun a w S H => ?_
                  refine t_tail H rfl (rem' := []) rfl ?_
                  refine t_nil (fun w H => ?_)
                  exact ⟨b10, b11, (((((S.nil.cons S 11 rfl).cons S 10 rfl).cons S 7 rfl).cons S 5 rfl).cons S 4 rfl).cons S 3 rfl, H.takeK [.b b11, .b b10, .b b5, .b b4, .b b3]⟩
        · refine ⟨_, rfl, fun w H => ?_⟩
          refine op_alloc (wn rfl) rfl rfl rfl S H Fzer26 fun b10 a w S H => ?_
          refine t_next H (by repeat (first | exact List.Sublist.refl _ | apply List.Sublist.cons)) (rem' := [1, 3, 4, 5]) rfl ?_
          refine t_b [1, 3] (by kernel_rfl) rfl ?_
          intro i hi; simp only [List.mem_cons, List.not_mem_nil, or_false] at hi; rcases hi with rfl | rfl
          · refine ⟨_, rfl, fun w H => ?_⟩
            refine op_y (wn rfl) rfl rfl S (y_load0 rfl S H rfl (by exact Fagg26)) fun a S => ?_
            refine t_next H (by repeat (first | exact List.Sublist.refl _ | apply List.Sublist.cons)) (rem' := [3, 4, 5]) rfl ?_
            refine t_b [3] (by kernel_rfl) rfl ?_
            intro i hi; simp only [List.mem_cons, List.not_mem_nil, or_false] at hi; subst hi
            · refine ⟨_, rfl, fun w H => ?_⟩
              refine op_alloc (wn rfl) rfl rfl rfl S H Fzer26 fun b11 a w S H => ?_
              refine t_next H (by repeat (first | exact List.Sublist.refl _ | apply List.Sublist.cons)) (rem' := [4, 5]) rfl ?_
              refine t_b [4] (by kernel_rfl) rfl ?_
              intro i hi; simp only [List.mem_cons, List.not_mem_nil, or_false] at hi; subst hi
              · refine ⟨_, rfl, fun w H => ?_⟩
                refine op_storea (wn rfl) rfl rfl S H rfl rfl rfl Fsiz26 rfl (cs' := [_, _, _, _, _, _, _, _, _]) rfl fun a w S H => ?_
                refine t_tail H rfl (rem' := [5]) rfl ?_
                refine t_b [5] (by kernel_rfl) rfl ?_
                intro i hi; simp only [List.mem_cons, List.not_mem_nil, or_false] at hi; subst hi
                · refine ⟨_, rfl, fun w H => ?_⟩
                  refine op_storea (wn rfl) rfl rfl S H rfl rfl rfl Fsiz26 rfl (cs' := [_, _, _, _, _, _, _, _, _]) rfl fun a w S H => ?_
                  refine t_tail H rfl (rem' := []) rfl ?_
                  refine t_nil (fun w H => ?_)
                  exact ⟨b10, b11, (((((S.nil.cons S 11 rfl).cons S 10 rfl).cons S 7 rfl).cons S 5 rfl).cons S 4 rfl).cons S 3 rfl, H.takeK [.b b11, .b b10, .b b5, .b b4, .b b3]⟩
          · refine ⟨_, rfl, fun w H => ?_⟩
            refine op_alloc (wn rfl) rfl rfl rfl S H Fzer26 fun b11 a w S H => ?_
            refine t_next H (by repeat (first | exact List.Sublist.refl _ | apply List.Sublist.cons)) (rem' := [1, 4, 5]) rfl ?_
            refine t_b [1, 4] (by kernel_rfl) rfl ?_
            intro i hi; simp only [List.mem_cons, List.not_mem_nil, or_false] at hi; rcases hi with rfl | rfl
            · refine ⟨_, rfl, fun w H => ?_⟩
              refine op_y (wn rfl) rfl rfl S (y_load0 rfl S H rfl (by exact Fagg26)) fun a S => ?_
              refine t_next H (by repeat (first | exact List.Sublist.refl _ | apply List.Sublist.cons)) (rem' := [4, 5]) rfl ?_
              refine t_b [4] (by kernel_rfl) rfl ?_
              intro i hi; simp only [List.mem_cons, List.not_mem_nil, or_false] at hi; subst hi
              · refine ⟨_, rfl, fun w H => ?_⟩
                refine op_storea (wn rfl) rfl rfl S H rfl rfl rfl Fsiz26 rfl (cs' := [_, _, _, _, _, _, _, _, _]) rfl fun a w S H => ?_
                refine t_tail H rfl (rem' := [5]) rfl ?_
                refine t_b [5] (by kernel_rfl) rfl ?_
                intro i hi; simp only [List.mem_cons, List.not_mem_nil, or_false] at hi; subst hi
                · refine ⟨_, rfl, fun w H => ?_⟩
                  refine op_storea (wn rfl) rfl rfl S H rfl rfl rfl Fsiz26 rfl (cs' := [_, _, _, _, _, _, _, _, _]) rfl fun a w S H => ?_
                  refine t_tail H rfl (rem' := []) rfl ?_
                  refine t_nil (fun w H => ?_)
                  exact ⟨b10, b11, (((((S.nil.cons S 11 rfl).cons S 10 rfl).cons S 7 rfl).cons S 5 rfl).cons S 4 rfl).cons S 3 rfl, H.takeK [.b b11, .b b10, .b b5, .b b4, .b b3]⟩
            · refine ⟨_, rfl, fun w H => ?_⟩
              refine op_storea (wn rfl) rfl rfl S H rfl rfl rfl Fsiz26 rfl (cs' := [_, _, _, _, _, _, _, _, _]) rfl fun a w S H => ?_
              refine t_tail H rfl (rem' := [1, 5]) rfl ?_
              refine t_q 1 rfl (by kernel_rfl) (rem' := [5]) rfl rfl rfl rfl S (fun w H => y_load0 rfl S H rfl (by exact Fagg26)) fun a S => ?_
              refine t_b [5] (by kernel_rfl) rfl ?_
              intro i hi; simp only [List.mem_cons, List.not_mem_nil, or_false] at hi; subst hi
              · refine ⟨_, rfl, fun w H => ?_⟩
                refine op_storea (wn rfl) rfl rfl S H rfl rfl rfl Fsiz26 rfl (cs' := [_, _, _, _, _, _, _, _, _]) rfl fun a w S H => ?_
                refine t_tail H rfl (rem' := []) rfl ?_
                refine t_nil (fun w H => ?_)
                exact ⟨b10, b11, (((((S.nil.cons S 11 rfl).cons S 10 rfl).cons S 7 rfl).cons S 5 rfl).cons S 4 rfl).cons S 3 rfl, H.takeK [.b b11, .b b10, .b b5, .b b4, .b b3]⟩
        · refine ⟨_, rfl, fun w H => ?_⟩
          refine op_alloc (wn rfl) rfl rfl rfl S H Fzer26 fun b11 a w S H => ?_
          refine t_next H (by repeat (first | exact List.Sublist.refl _ | apply List.Sublist.cons)) (rem' := [1, 2, 4, 5]) rfl ?_
          refine t_b [1, 2] (by kernel_rfl) rfl ?_
          intro i hi; simp only [List.mem_cons, List.not_mem_nil, or_false] at hi; rcases hi with rfl | rfl
          · refine ⟨_, rfl, fun w H => ?_⟩
            refine op_y (wn rfl) rfl rfl S (y_load0 rfl S H rfl (by exact Fagg26)) fun a S => ?_
            refine t_next H (by repeat (first | exact List.Sublist.refl _ | apply List.Sublist.cons)) (rem' := [2, 4, 5]) rfl ?_
            refine t_b [2] (by kernel_rfl) rfl ?_
            intro i hi; simp only [List.mem_cons, List.not_mem_nil, or_false] at hi; subst hi
            · refine ⟨_, rfl, fun w H => ?_⟩
              refine op_alloc (wn rfl) rfl rfl rfl S H Fzer26 fun b10 a w S H => ?_
              refine t_next H (by repeat (first | exact List.Sublist.refl _ | apply List.Sublist.cons)) (rem' := [4, 5]) rfl ?_
              refine t_b [4] (by kernel_rfl) rfl ?_
              intro i hi; simp only [List.mem_cons, List.not_mem_nil, or_false] at hi; subst hi
              · refine ⟨_, rfl, fun w H => ?_⟩
                refine op_storea (wn rfl) rfl rfl S H rfl rfl rfl Fsiz26 rfl (cs' := [_, _, _, _, _, _, _, _, _]) rfl fun a w S H => ?_
                refine t_tail H rfl (rem' := [5]) rfl ?_
                refine t_b [5] (by kernel_rfl) rfl ?_
                intro i hi; simp only [List.mem_cons, List.not_mem_nil, or_false] at hi; subst hi
                · refine ⟨_, rfl, fun w H => ?_⟩
                  refine op_storea (wn rfl) rfl rfl S H rfl rfl rfl Fsiz26 rfl (cs' := [_, _, _, _, _, _, _, _, _]) rfl fun a w S H => ?_
                  refine t_tail H rfl (rem' := []) rfl ?_
                  refine t_nil (fun w H => ?_)
                  exact ⟨b10, b11, (((((S.nil.cons S 11 rfl).cons S 10 rfl).cons S 7 rfl).cons S 5 rfl).cons S 4 rfl).cons S 3 rfl, H.takeK [.b b11, .b b10, .b b5, .b b4, .b b3]⟩
          · refine ⟨_, rfl, fun w H => ?_⟩
            refine op_alloc (wn rfl) rfl rfl rfl S H Fzer26 fun b10 a w S H => ?_
            refine t_next H (by repeat (first | exact List.Sublist.refl _ | apply List.Sublist.cons)) (rem' := [1, 4, 5]) rfl ?_
            refine t_b [1, 4] (by kernel_rfl) rfl ?_
            intro i hi; simp only [List.mem_cons, List.not_mem_nil, or_false] at hi; rcases hi with rfl | rfl
            · refine ⟨_, rfl, fun w H => ?_⟩
              refine op_y (wn rfl) rfl rfl S (y_load0 rfl S H rfl (by exact Fagg26)) fun a S => ?_
              refine t_next H (by repeat (first | exact List.Sublist.refl _ | apply List.Sublist.cons)) (rem' := [4, 5]) rfl ?_
              refine t_b [4] (by kernel_rfl) rfl ?_
              intro i hi; simp only [List.mem_cons, List.not_mem_nil, or_false] at hi; subst hi
              · refine ⟨_, rfl, fun w H => ?_⟩
                refine op_storea (wn rfl) rfl rfl S H rfl rfl rfl Fsiz26 rfl (cs' := [_, _, _, _, _, _, _, _, _]) rfl fun a w S H => ?_
                refine t_tail H rfl (rem' := [5]) rfl ?_
                refine t_b [5] (by kernel_rfl) rfl ?_
                intro i hi; simp only [List.mem_cons, List.not_mem_nil, or_false] at hi; subst hi
                · refine ⟨_, rfl, fun w H => ?_⟩
                  refine op_storea (wn rfl) rfl rfl S H rfl rfl rfl Fsiz26 rfl (cs' := [_, _, _, _, _, _, _, _, _]) rfl fun a w S H => ?_
                  refine t_tail H rfl (rem' := []) rfl ?_
                  refine t_nil (fun w H => ?_)
                  exact ⟨b10, b11, (((((S.nil.cons S 11 rfl).cons S 10 rfl).cons S 7 rfl).cons S 5 rfl).cons S 4 rfl).cons S 3 rfl, H.takeK [.b b11, .b b10, .b b5, .b b4, .b b3]⟩
            · refine ⟨_, rfl, fun w H => ?_⟩
              refine op_storea (wn rfl) rfl rfl S H rfl rfl rfl Fsiz26 rfl (cs' := [_, _, _, _, _, _, _, _, _]) rfl fun a w S H => ?_
              refine t_tail H rfl (rem' := [1, 5]) rfl ?_
              refine t_q 1 rfl (by kernel_rfl) (rem' := [5]) rfl rfl rfl rfl S (fun w H => y_load0 rfl S H rfl (by exact Fagg26)) fun a S => ?_
              refine t_b [5] (by kernel_rfl) rfl ?_
              intro i hi; simp only [List.mem_cons, List.not_mem_nil, or_false] at hi; subst hi
              · refine ⟨_, rfl, fun w H => ?_⟩
                refine op_storea (wn rfl) rfl rfl S H rfl rfl rfl Fsiz26 rfl (cs' := [_, _, _, _, _, _, _, _, _]) rfl fun a w S H => ?_
                refine t_tail H rfl (rem' := []) rfl ?_
                refine t_nil (fun w H => ?_)
                exact ⟨b10, b11, (((((S.nil.cons S 11 rfl).cons S 10 rfl).cons S 7 rfl).cons S 5 rfl).cons S 4 rfl).cons S 3 rfl, H.takeK [.b b11, .b b10, .b b5, .b b4, .b b3]⟩
      rintro a w ⟨b10, b11, S, H⟩
      refine g_seq ?_
      -- region 11 law.go:86
      refine g_region ?_
      refine wl_of (op_y (wn rfl) rfl rfl S (y_faddrb rfl Ffo26_7 S rfl) fun a S => ?_)
      refine wl_of (op_y (wn rfl) rfl rfl S (y_load rfl Fsca3 S H rfl rfl) fun a S => ?_)
      refine wl_of (op_y (wn rfl) rfl rfl S (y_iaddra rfl Try.underlying33 Fsiz5 S rfl rfl (by omega)) fun a S => ?_)
      refine wl_of (op_y (wn rfl) rfl rfl S (y_load rfl Fsca5 S H rfl rfl) fun a S => ?_)
      refine wl_of (op_y (wn rfl) rfl rfl S (y_conv rfl Try.underlying5 Try.underlying3 S rfl (by omega)) fun a S => ?_)
      refine wl_of (op_y (wn rfl) rfl rfl S (y_sub rfl S rfl rfl (by omega)) fun a S => ?_)
      refine wl_of (op_y (wn rfl) rfl rfl S (y_faddrb rfl Ffo26_7 S rfl) fun a S => ?_)
      refine wl_of (op_store (wn rfl) rfl rfl S H rfl rfl rfl Fsiz3 rfl fun a w S H => ?_)
      dsimp only [List.set, Nat.zero_add, Nat.reduceAdd] at H
      refine gl_nil ?_
      refine n_then ?_
      have S := (((((S.nil.cons S 11 rfl).cons S 10 rfl).cons S 7 rfl).cons S 5 rfl).cons S 4 rfl).cons S 3 rfl
      refine g_seq ?_
      -- region 12 law.go:87
      refine g_region ?_
      refine wl_of (op_y (wn rfl) rfl rfl S (y_faddrb rfl Ffo26_1 S rfl) fun a S => ?_)
      refine wl_of (op_y (wn rfl) rfl rfl S (y_load rfl Fsca3 S H rfl rfl) fun a S => ?_)
      refine wl_of (op_y (wn rfl) rfl rfl S (y_iaddra rfl Try.underlying33 Fsiz5 S rfl rfl (by omega)) fun a S => ?_)
      refine wl_of (op_y (wn rfl) rfl rfl S (y_load rfl Fsca5 S H rfl rfl) fun a S => ?_)
      refine wl_of (op_y (wn rfl) rfl rfl S (y_conv rfl Try.underlying5 Try.underlying3 S rfl (by omega)) fun a S => ?_)
      refine wl_of (op_y (wn rfl) rfl rfl S (y_sub rfl S rfl rfl (by omega)) fun a S => ?_)
      refine wl_of (op_y (wn rfl) rfl rfl S (y_faddrb rfl Ffo26_1 S rfl) fun a S => ?_)
      refine wl_of (op_store (wn rfl) rfl rfl S H rfl rfl rfl Fsiz3 rfl fun a w S H => ?_)
      dsimp only [List.set, Nat.zero_add, Nat.reduceAdd] at H
      refine gl_nil ?_
      refine n_then ?_
      have S := (((((S.nil.cons S 11 rfl).cons S 10 rfl).cons S 7 rfl).cons S 5 rfl).cons S 4 rfl).cons S 3 rfl
      refine g_seq ?_
      -- region 13 law.go:88
      refine g_region ?_
      refine wl_of (op_y (wn rfl) rfl rfl S (y_faddrb rfl Ffo26_7 S rfl) fun a S => ?_)
      refine wl_of (op_y (wn rfl) rfl rfl S (y_load rfl Fsca3 S H rfl rfl) fun a S => ?_)
      refine wl_of (op_y (wn rfl) rfl rfl S (y_iaddra rfl Try.underlying33 Fsiz5 S rfl rfl (by omega)) fun a S => ?_)
      refine wl_of (op_y (wn rfl) rfl rfl S (y_load rfl Fsca5 S H rfl rfl) fun a S => ?_)
      refine wl_of (op_y (wn rfl) rfl rfl S (y_conv rfl Try.underlying5 Try.underlying3 S rfl (by omega)) fun a S => ?_)
      refine wl_of (op_y (wn rfl) rfl rfl S (y_add rfl S rfl rfl (by omega)) fun a S => ?_)
      refine wl_of (op_y (wn rfl) rfl rfl S (y_faddrb rfl Ffo26_7 S rfl) fun a S => ?_)
      refine wl_of (op_store (wn rfl) rfl rfl S H rfl rfl rfl Fsiz3 rfl fun a w S H => ?_)
      dsimp only [List.set, Nat.zero_add, Nat.reduceAdd] at H
      refine gl_nil ?_
      refine n_then ?_
      have S := (((((S.nil.cons S 11 rfl).cons S 10 rfl).cons S 7 rfl).cons S 5 rfl).cons S 4 rfl).cons S 3 rfl
      refine g_seq ?_
      -- region 14 law.go:89
      refine g_region ?_
      refine wl_of (op_y (wn rfl) rfl rfl S (y_faddrb rfl Ffo26_1 S rfl) fun a S => ?_)
      refine wl_of (op_y (wn rfl) rfl rfl S (y_load rfl Fsca3 S H rfl rfl) fun a S => ?_)
      refine wl_of (op_y (wn rfl) rfl rfl S (y_iaddra rfl Try.underlying33 Fsiz5 S rfl rfl (by omega)) fun a S => ?_)
      refine wl_of (op_y (wn rfl) rfl rfl S (y_load rfl Fsca5 S H rfl rfl) fun a S => ?_)
      refine wl_of (op_y (wn rfl) rfl rfl S (y_conv rfl Try.underlying5 Try.underlying3 S rfl (by omega)) fun a S => ?_)
      refine wl_of (op_y (wn rfl) rfl rfl S (y_add rfl S rfl rfl (by omega)) fun a S => ?_)
      refine wl_of (op_y (wn rfl) rfl rfl S (y_faddrb rfl Ffo26_1 S rfl) fun a S => ?_)
      refine wl_of (op_store (wn rfl) rfl rfl S H rfl rfl rfl Fsiz3 rfl fun a w S H => ?_)
      dsimp only [List.set, Nat.zero_add, Nat.reduceAdd] at H
      refine gl_nil ?_
      refine n_then ?_
      have S := ((((S.nil.cons S 11 rfl).cons S 10 rfl).cons S 7 rfl).cons S 4 rfl).cons S 3 rfl
      refine g_seq ?_
      -- region 15 law.go:90
      refine g_region ?_
      refine wl_of (op_y (wn rfl) rfl rfl S (y_move rfl S rfl) fun a S => ?_)
      refine wl_of (op_y (wn rfl) rfl rfl S (y_move rfl S rfl) fun a S => ?_)
      refine' wl_and 3 77 rfl S H rfl rfl rfl rfl rfl rfl rfl (fun _ S => (wn rfl)) (fun h7 kk => ?yh7) (fun a w S H => ?_)
      case yh7 =>
        have h7p := h7; try simp only [Option.isNone_some, Option.isNone_none, Option.isSome_some, Option.isSome_none, false_or, or_false, true_and, and_true, decide_eq_true_eq, decide_eq_false_iff_not, Bool.or_eq_true, Bool.and_eq_true, Bool.or_eq_false_iff, Bool.and_eq_false_iff, Bool.not_eq_true', Bool.not_eq_false', bne_iff_ne, beq_iff_eq, beq_eq_false_iff_ne, bne_eq_false_iff_eq, ne_eq, Decidable.not_not, Int.not_lt, Int.not_le, gt_iff_lt, ge_iff_le, Bool.true_eq_false, Bool.false_eq_true, not_true_eq_false, not_false_eq_true] at h7p
        refine wl_of (op_y (wg' 77 rfl rfl S rfl h7 rfl) rfl rfl S (y_load0 rfl S H rfl (by exact Fagg26)) fun a S => ?_)
        refine wl_of (op_y (wg' 77 rfl rfl S rfl h7 rfl) rfl rfl S (y_load0 rfl S H rfl (by exact Fagg26)) fun a S => ?_)
        refine wl_of (op_call (wg' 77 rfl rfl S rfl h7 rfl) rfl rfl S (co_func rfl Try.call9 S rfl) (atLeast_spec { p with view := p.view - n0, level := p.level - n1 } { q with view := q.view + n2, level := q.level + n3 } _) fun v w hc a S => ?_)
        obtain ⟨rfl, he⟩ := hc
        have H := H.ext he
        refine wl_of (op_y (wn rfl) rfl rfl S (y_and' rfl h7 S rfl rfl) fun a S => ?_)
        exact kk _ _ (S.join 4 81 rfl rfl) H
      refine wl_of (op_y (wn rfl) rfl rfl S (y_move rfl S rfl) fun a S => ?_)
      refine' wl_and 3 82 rfl S H rfl rfl rfl rfl rfl rfl rfl (fun _ S => (wn rfl)) (fun h8 kk => ?yh8) (fun a w S H => ?_)
      case yh8 =>
        have h8p := h8; try simp only [Option.isNone_some, Option.isNone_none, Option.isSome_some, Option.isSome_none, false_or, or_false, true_and, and_true, decide_eq_true_eq, decide_eq_false_iff_not, Bool.or_eq_true, Bool.and_eq_true, Bool.or_eq_false_iff, Bool.and_eq_false_iff, Bool.not_eq_true', Bool.not_eq_false', bne_iff_ne, beq_iff_eq, beq_eq_false_iff_ne, bne_eq_false_iff_eq, ne_eq, Decidable.not_not, Int.not_lt, Int.not_le, gt_iff_lt, ge_iff_le, Bool.true_eq_false, Bool.false_eq_true, not_true_eq_false, not_false_eq_true] at h8p
        refine wl_of (op_y (wg' 82 rfl rfl S rfl h8 rfl) rfl rfl S (y_load0 rfl S H rfl (by exact Fagg26)) fun a S => ?_)
        refine wl_of (op_y (wg' 82 rfl rfl S rfl h8 rfl) rfl rfl S (y_load0 rfl S H rfl (by exact Fagg26)) fun a S => ?_)
        refine wl_of (op_call (wg' 82 rfl rfl S rfl h8 rfl) rfl rfl S (co_func rfl Try.call9 S rfl) (atLeast_spec { p with view := p.view - n0, level := p.level - n1 } q _) fun v w hc a S => ?_)
        obtain ⟨rfl, he⟩ := hc
        have H := H.ext he
        refine wl_of (op_y (wn rfl) rfl rfl S (y_and' rfl h8 S rfl rfl) fun a S => ?_)
        exact kk _ _ (S.join 4 86 rfl rfl) H
      refine wl_of (op_y (wn rfl) rfl rfl S (y_move rfl S rfl) fun a S => ?_)
      refine' wl_and 3 87 rfl S H rfl rfl rfl rfl rfl rfl rfl (fun _ S => (wn rfl)) (fun h9 kk => ?yh9) (fun a w S H => ?_)
      case yh9 =>
        have h9p := h9; try simp only [Option.isNone_some, Option.isNone_none, Option.isSome_some, Option.isSome_none, false_or, or_false, true_and, and_true, decide_eq_true_eq, decide_eq_false_iff_not, Bool.or_eq_true, Bool.and_eq_true, Bool.or_eq_false_iff, Bool.and_eq_false_iff, Bool.not_eq_true', Bool.not_eq_false', bne_iff_ne, beq_iff_eq, beq_eq_false_iff_ne, bne_eq_false_iff_eq, ne_eq, Decidable.not_not, Int.not_lt, Int.not_le, gt_iff_lt, ge_iff_le, Bool.true_eq_false, Bool.false_eq_true, not_true_eq_false, not_false_eq_true] at h9p
        refine wl_of (op_y (wg' 87 rfl rfl S rfl h9 rfl) rfl rfl S (y_load0 rfl S H rfl (by exact Fagg26)) fun a S => ?_)
        refine wl_of (op_y (wg' 87 rfl rfl S rfl h9 rfl) rfl rfl S (y_load0 rfl S H rfl (by exact Fagg26)) fun a S => ?_)
        refine wl_of (op_call (wg' 87 rfl rfl S rfl h9 rfl) rfl rfl S (co_func rfl Try.call9 S rfl) (atLeast_spec p { q with view := q.view + n2, level := q.level + n3 } _) fun v w hc a S => ?_)
        obtain ⟨rfl, he⟩ := hc
        have H := H.ext he
        refine wl_of (op_y (wn rfl) rfl rfl S (y_and' rfl h9 S rfl rfl) fun a S => ?_)
        exact kk _ _ (S.join 4 91 rfl rfl) H
      refine wl_of (op_y (wn rfl) rfl rfl S (y_assign rfl S rfl) fun a S => ?_)
      refine gl_nil ?_
      refine n_then ?_
      have S := S.nil.cons S 6 rfl
      refine g_ret ?_
      refine ret1 rfl S rfl ?_
      exact ⟨by rw [him.1, him.2.1, him.2.2]; rfl, H.toExt⟩
/-- foyer/foyerlaw39.bare -/
theorem bare_spec (v : Value) (l : List Pl) (w0 : World) (hv : IsSl w0 v 9 Pl.enc l) (hl : l.length ≤ 1000) :
    Ret Try.prog 14 #[v] w0 (fun u w => HSat No w0 [OSl 26 u 9 Pl.enc (l.map bareP)] w) := by
  refine ret_of_wp (nt := 36) Try.func14 rfl rfl rfl (fl := [(0, v)]) rfl (fun a S => ?_)
  have H := HSat.start w0
  have H := H.ro0 (Sl v 9 Pl.enc l) rfl (hv)
  refine g_seq ?_
  -- region 0 law.go:115
  refine g_region ?_
  refine wl_of (op_y (wn rfl) rfl rfl S (y_assign rfl S rfl) fun a S => ?_)
  refine gl_nil ?_
  refine n_then ?_
  refine g_seq ?_
  -- region 1 law.go:116
  refine g_region ?_
  refine wl_of (op_y (wn rfl) rfl rfl S (y_assign rfl S rfl) fun a S => ?_)
  refine gl_nil ?_
  refine n_then ?_
  refine g_seq ?_
  refine g_seq ?_
  -- region 2 law.go:117
  refine g_region ?_
  refine wl_of (op_y (wn rfl) rfl rfl S (y_assign rfl S rfl) fun a S => ?_)
  refine gl_nil ?_
  refine n_then ?_
  refine g_block ?_
  have SU := (S.nil.cons S 0 rfl).cons S 2 rfl
  refine loopW (X := Nat × Value) SU (fun x => [(3, x.2), (4, .int .i64 (x.1 : Int))]) (fun x w => x.1 ≤ l.length ∧ HSat No w0 [OSl 26 x.2 9 Pl.enc ((l.take x.1).map bareP), Sl v 9 Pl.enc l] w) (fun x => l.length - x.1) (0, .slice none 0 0) ((S.nil.cons S 4 rfl).cons S 3 rfl) (⟨by simp, H.nilO 26 9 Pl.enc⟩) (fun x a w S hW => ?_)
  simp only [List.cons_append, List.nil_append] at S
  obtain ⟨k, s⟩ := x
  obtain ⟨hk, H⟩ := hW
  dsimp only at S H hk
  refine g_seq ?_
  refine g_seq ?_
  -- region 3 law.go:117
  refine g_region ?_
  refine wl_of (op_y (wn rfl) rfl rfl S (y_move rfl S rfl) fun a S => ?_)
  refine wl_of (op_y (wn rfl) rfl rfl S (y_move rfl S rfl) fun a S => ?_)
  refine wl_of (op_y (wn rfl) rfl rfl S (y_lens rfl Try.underlying22 S H rfl) fun a S => ?_)
  refine wl_of (op_y (wn rfl) rfl rfl S (y_bin rfl S rfl rfl rfl) fun a S => ?_)
  refine gl_nil ?_
  refine n_then ?_
  -- cond 1
  refine c_if S rfl (fun h1 => ?_) (fun h1 => ?_)
  · have h1p := h1; try simp only [Option.isNone_some, Option.isNone_none, Option.isSome_some, Option.isSome_none, false_or, or_false, true_and, and_true, decide_eq_true_eq, decide_eq_false_iff_not, Bool.or_eq_true, Bool.and_eq_true, Bool.or_eq_false_iff, Bool.and_eq_false_iff, Bool.not_eq_true', Bool.not_eq_false', bne_iff_ne, beq_iff_eq, beq_eq_false_iff_ne, bne_eq_false_iff_eq, ne_eq, Decidable.not_not, Int.not_lt, Int.not_le, gt_iff_lt, ge_iff_le, Bool.true_eq_false, Bool.false_eq_true, not_true_eq_false, not_false_eq_true] at h1p
    have htl : ((l.take k).map bareP).length = k := by simp; omega
    refine g_skip ?_
    refine n_then ?_
    refine g_seq ?_
    refine g_block ?_
    -- region 5 DRAWS law.go:118
    refine region_st (loud := [22, 23]) (tails := [23]) (free := []) [0, 1, 2, 3, 4, 5, 6, 7, 8, 9, 10, 11, 12, 13, 14, 15, 16, 17, 18, 19, 20, 21, 22, 23, 24] [] Fmo (by kernel_rfl) (by kernel_rfl) rfl H ?_
    refine m_w rfl rfl (wn rfl) rfl rfl S (fun w H => y_move rfl S rfl) fun a S => ?_
    refine m_w rfl rfl (wn rfl) rfl rfl S (fun w H => y_move rfl S rfl) fun a S => ?_
    refine m_w rfl rfl (wn rfl) rfl rfl S (fun w H => y_move rfl S rfl) fun a S => ?_
    refine m_w rfl rfl (wn rfl) rfl rfl S (fun w H => y_iaddrn rfl Try.underlying22 Fsiz26 S H rfl rfl (by first | assumption | omega | (simp only [List.length_append, List.length_take, List.length_drop, List.length_replicate, List.length_set, List.length_map, List.length_cons, List.length_nil]; omega))) fun a S => ?_
    refine m_w rfl rfl (wn rfl) rfl rfl S (fun w H => y_faddr rfl Ffo26_0 S rfl) fun a S => ?_
    refine m_loadsf _ rfl rfl (wn rfl) rfl rfl S rfl Fsca3 rfl (by first | assumption | omega | (simp only [List.length_append, List.length_take, List.length_drop, List.length_replicate, List.length_set, List.length_map, List.length_cons, List.length_nil]; omega)) rfl fun a S => ?_
    refine m_w rfl rfl (wn rfl) rfl rfl S (fun w H => y_move rfl S rfl) fun a S => ?_
    refine m_w rfl rfl (wn rfl) rfl rfl S (fun w H => y_move rfl S rfl) fun a S => ?_
    refine m_w rfl rfl (wn rfl) rfl rfl S (fun w H => y_iaddrn rfl Try.underlying22 Fsiz26 S H rfl rfl (by first | assumption | omega | (simp only [List.length_append, List.length_take, List.length_drop, List.length_replicate, List.length_set, List.length_map, List.length_cons, List.length_nil]; omega))) fun a S => ?_
    refine m_w rfl rfl (wn rfl) rfl rfl S (fun w H => y_faddr rfl Ffo26_1 S rfl) fun a S => ?_
    refine m_loadsf _ rfl rfl (wn rfl) rfl rfl S rfl Fsca3 rfl (by first | assumption | omega | (simp only [List.length_append, List.length_take, List.length_drop, List.length_replicate, List.length_set, List.length_map, List.length_cons, List.length_nil]; omega)) rfl fun a S => ?_
    refine m_w rfl rfl (wn rfl) rfl rfl S (fun w H => y_move rfl S rfl) fun a S => ?_
    refine m_w rfl rfl (wn rfl) rfl rfl S (fun w H => y_move rfl S rfl) fun a S => ?_
    refine m_w rfl rfl (wn rfl) rfl rfl S (fun w H => y_iaddrn rfl Try.underlying22 Fsiz26 S H rfl rfl (by first | assumption | omega | (simp only [List.length_append, List.length_take, List.length_drop, List.length_replicate, List.length_set, List.length_map, List.length_cons, List.length_nil]; omega))) fun a S => ?_
    refine m_w rfl rfl (wn rfl) rfl rfl S (fun w H => y_faddr rfl Ffo26_7 S rfl) fun a S => ?_
    refine m_loadsf _ rfl rfl (wn rfl) rfl rfl S rfl Fsca3 rfl (by first | assumption | omega | (simp only [List.length_append, List.length_take, List.length_drop, List.length_replicate, List.length_set, List.length_map, List.length_cons, List.length_nil]; omega)) rfl fun a S => ?_
    refine m_w rfl rfl (wn rfl) rfl rfl S (fun w H => y_move rfl S rfl) fun a S => ?_
    refine m_w rfl rfl (wn rfl) rfl rfl S (fun w H => y_move rfl S rfl) fun a S => ?_
    refine m_w rfl rfl (wn rfl) rfl rfl S (fun w H => y_iaddrn rfl Try.underlying22 Fsiz26 S H rfl rfl (by first | assumption | omega | (simp only [List.length_append, List.length_take, List.length_drop, List.length_replicate, List.length_set, List.length_map, List.length_cons, List.length_nil]; omega))) fun a S => ?_
    refine m_w rfl rfl (wn rfl) rfl rfl S (fun w H => y_faddr rfl Ffo26_8 S rfl) fun a S => ?_
    refine m_loadsf _ rfl rfl (wn rfl) rfl rfl S rfl Fsca3 rfl (by first | assumption | omega | (simp only [List.length_append, List.length_take, List.length_drop, List.length_replicate, List.length_set, List.length_map, List.length_cons, List.length_nil]; omega)) rfl fun a S => ?_
    refine m_w rfl rfl (wn rfl) rfl rfl S (fun w H => y_buildf rfl Fbld26 S rfl (idx := [0, 1, 7, 8]) rfl (cs := [.int .i64 l[k].kind, .int .i64 l[k].level, .int .i64 0, .int .i64 0, .int .i64 0, .int .i64 0, .int .i64 0, .int .i64 l[k].view, .int .i64 l[k].with_]) (by kernel_rfl)) fun a S => ?_
    refine m_l rfl rfl (fun w H => op_buildSlice (wn rfl) rfl rfl rfl Try.underlying22 Finf26 S H (idx := [0]) rfl rfl rfl (z := [.int .i64 0, .int .i64 0, .int .i64 0, .int .i64 0, .int .i64 0, .int .i64 0, .int .i64 0, .int .i64 0, .int .i64 0]) (by kernel_rfl) (cs := [.int .i64 l[k].kind, .int .i64 l[k].level, .int .i64 0, .int .i64 0, .int .i64 0, .int .i64 0, .int .i64 0, .int .i64 l[k].view, .int .i64 l[k].with_]) (by kernel_rfl) fun b33 a w S H => m_next H (List.sublist_cons_self _ _) ?_)
    refine m_l rfl rfl (fun w H => op_append ([bareP l[k]]) (wn rfl) rfl rfl rfl Try.underlying22 Finf26 rfl rfl S H rfl rfl rfl rfl (by simp) (by simp [Pl.enc, bareP]) (by simp [Pl.enc, bareP, Value.oneCell']) (by first | assumption | omega | (simp only [List.length_append, List.length_take, List.length_drop, List.length_replicate, List.length_set, List.length_map, List.length_cons, List.length_nil]; omega)) (by first | assumption | omega | (simp only [List.length_append, List.length_take, List.length_drop, List.length_replicate, List.length_set, List.length_map, List.length_cons, List.length_nil]; omega)) fun u34 a w hn34 S H => m_tail H rfl ?_)
    refine m_w rfl rfl (wn rfl) rfl rfl S (fun w H => y_assign rfl S rfl) fun a S => ?_
    refine m_nil (fun w H => ?_)
    refine n_block ?_
    refine n_then ?_
    -- region 4 law.go:117
    refine g_region ?_
    refine wl_of (op_y (wn rfl) rfl rfl S (y_move rfl S rfl) fun a S => ?_)
    refine wl_of (op_y (wn rfl) rfl rfl S (y_add rfl S rfl rfl (by omega)) fun a S => ?_)
    refine wl_of (op_y (wn rfl) rfl rfl S (y_assign rfl S rfl) fun a S => ?_)
    refine gl_nil ?_
    refine n_then ?_
    refine ⟨(k + 1, u34), (S.nil.cons S 4 rfl).cons S 3 rfl, (S.nil.cons S 0 rfl).cons S 2 rfl, ⟨by simp only; omega, ?_⟩, by simp only; omega⟩
    rw [List.take_succ_eq_append_getElem (by omega), List.map_append]
    exact H.take [OSl 26 u34 9 Pl.enc ((l.take k).map bareP ++ [bareP l[k]]), Sl v 9 Pl.enc l]
  · have h1p := h1; try simp only [Option.isNone_some, Option.isNone_none, Option.isSome_some, Option.isSome_none, false_or, or_false, true_and, and_true, decide_eq_true_eq, decide_eq_false_iff_not, Bool.or_eq_true, Bool.and_eq_true, Bool.or_eq_false_iff, Bool.and_eq_false_iff, Bool.not_eq_true', Bool.not_eq_false', bne_iff_ne, beq_iff_eq, beq_eq_false_iff_ne, bne_eq_false_iff_eq, ne_eq, Decidable.not_not, Int.not_lt, Int.not_le, gt_iff_lt, ge_iff_le, Bool.true_eq_false, Bool.false_eq_true, not_true_eq_false, not_false_eq_true] at h1p
    obtain rfl : k = l.length := by omega
    rw [List.take_length] at H
    refine g_exit ?_
    refine x_then (x_then (x_eq ?_))
    refine n_then ?_
    have S := (S.nil.cons S 2 rfl).cons S 3 rfl
    refine g_seq ?_
    -- region 6 law.go:120
    refine g_region ?_
    refine wl_of (op_y (wn rfl) rfl rfl S (y_move rfl S rfl) fun a S => ?_)
    refine wl_of (op_y (wn rfl) rfl rfl S (y_assign rfl S rfl) fun a S => ?_)
    refine gl_nil ?_
    refine n_then ?_
    refine g_ret ?_
    refine ret1 rfl S rfl ?_
    exact H.take [OSl 26 s 9 Pl.enc (l.map bareP)]
set_option maxHeartbeats 4000000 in
/-- foyer/foyerlaw39.BetterLists -/
theorem law5 (v1 v2 v3 : Value) (old next more : List Pl) (w0 : World) (hv1 : IsSl w0 v1 9 Pl.enc old) (hv2 : IsSl w0 v2 9 Pl.enc next) (hv3 : IsSl w0 v3 9 Pl.enc more) :
    Ret Try.prog 7 #[v1, v2, v3] w0 (fun v w => v = .bool true ∧ Ext w0 w) := by
  refine ret_of_wp (nt := 120) Try.func7 rfl rfl rfl (fl := [(0, v1), (1, v2), (2, v3)]) rfl (fun a S => ?_)
  have H := HSat.start w0
  have H := H.ro0 (Sl v1 9 Pl.enc old) rfl (hv1)
  have H := H.ro0 (Sl v2 9 Pl.enc next) rfl (hv2)
  have H := H.ro0 (Sl v3 9 Pl.enc more) rfl (hv3)
  refine g_seq ?_
  -- region 0 law.go:94
  refine g_region ?_
  refine wl_of (op_y (wn rfl) rfl rfl S (y_assign rfl S rfl) fun a S => ?_)
  refine gl_nil ?_
  refine n_then ?_
  refine g_seq ?_
  -- region 1 law.go:95
  refine g_region ?_
  refine wl_of (op_call (wn rfl) rfl rfl S (co_func rfl Try.call8 S rfl) (head_spec _) fun v w hc a S => ?_)
  obtain ⟨rfl, he⟩ := hc
  have H := H.ext he
  refine wl_of (op_y (wn rfl) rfl rfl S (y_assign rfl S rfl) fun a S => ?_)
  refine gl_nil ?_
  refine n_then ?_
  refine g_seq ?_
  refine g_seq ?_
  -- region 2 law.go:96
  refine g_region ?_
  refine wl_of (op_y (wn rfl) rfl rfl S (y_move rfl S rfl) fun a S => ?_)
  refine wl_of (op_y (wn rfl) rfl rfl S (y_lens rfl Try.underlying22 S H rfl) fun a S => ?_)
  refine wl_of (op_y (wn rfl) rfl rfl S (y_bin rfl S rfl rfl rfl) fun a S => ?_)
  refine wl_of (op_y (wn rfl) rfl rfl S (y_move rfl S rfl) fun a S => ?_)
  refine' wl_or 3 19 rfl S H rfl rfl rfl rfl rfl rfl rfl (fun _ S => (wn rfl)) (fun h1 kk => ?yh1) (fun a w S H => ?_)
  case yh1 =>
    have h1p := h1; try simp only [Option.isNone_some, Option.isNone_none, Option.isSome_some, Option.isSome_none, false_or, or_false, true_and, and_true, decide_eq_true_eq, decide_eq_false_iff_not, Bool.or_eq_true, Bool.and_eq_true, Bool.or_eq_false_iff, Bool.and_eq_false_iff, Bool.not_eq_true', Bool.not_eq_false', bne_iff_ne, beq_iff_eq, beq_eq_false_iff_ne, bne_eq_false_iff_eq, ne_eq, Decidable.not_not, Int.not_lt, Int.not_le, gt_iff_lt, ge_iff_le, Bool.true_eq_false, Bool.false_eq_true, not_true_eq_false, not_false_eq_true] at h1p
    refine wl_of (op_y (wg' 19 rfl rfl S rfl h1 rfl) rfl rfl S (y_move rfl S rfl) fun a S => ?_)
    refine wl_of (op_y (wg' 19 rfl rfl S rfl h1 rfl) rfl rfl S (y_lens rfl Try.underlying22 S H rfl) fun a S => ?_)
    refine wl_of (op_y (wg' 19 rfl rfl S rfl h1 rfl) rfl rfl S (y_bin rfl S rfl rfl rfl) fun a S => ?_)
    refine wl_of (op_y (wn rfl) rfl rfl S (y_or' rfl h1 S rfl rfl) fun a S => ?_)
    exact kk _ _ (S.join 4 23 rfl rfl) H
  refine wl_of (op_y (wn rfl) rfl rfl S (y_move rfl S rfl) fun a S => ?_)
  refine' wl_or 3 24 rfl S H rfl rfl rfl rfl rfl rfl rfl (fun _ S => (wn rfl)) (fun h2 kk => ?yh2) (fun a w S H => ?_)
  case yh2 =>
    have h2p := h2; try simp only [Option.isNone_some, Option.isNone_none, Option.isSome_some, Option.isSome_none, false_or, or_false, true_and, and_true, decide_eq_true_eq, decide_eq_false_iff_not, Bool.or_eq_true, Bool.and_eq_true, Bool.or_eq_false_iff, Bool.and_eq_false_iff, Bool.not_eq_true', Bool.not_eq_false', bne_iff_ne, beq_iff_eq, beq_eq_false_iff_ne, bne_eq_false_iff_eq, ne_eq, Decidable.not_not, Int.not_lt, Int.not_le, gt_iff_lt, ge_iff_le, Bool.true_eq_false, Bool.false_eq_true, not_true_eq_false, not_false_eq_true] at h2p
    refine wl_of (op_y (wg' 24 rfl rfl S rfl h2 rfl) rfl rfl S (y_move rfl S rfl) fun a S => ?_)
    refine wl_of (op_y (wg' 24 rfl rfl S rfl h2 rfl) rfl rfl S (y_lens rfl Try.underlying22 S H rfl) fun a S => ?_)
    refine wl_of (op_y (wg' 24 rfl rfl S rfl h2 rfl) rfl rfl S (y_bin rfl S rfl rfl rfl) fun a S => ?_)
    refine wl_of (op_y (wn rfl) rfl rfl S (y_or' rfl h2 S rfl rfl) fun a S => ?_)
    exact kk _ _ (S.join 4 28 rfl rfl) H
  refine gl_nil ?_
  refine n_then ?_
  have S := (((((S.nil.cons S 2 rfl).cons S 1 rfl).cons S 0 rfl).cons S 6 rfl).cons S 7 rfl).cons S 28 rfl
  -- cond 1
  refine c_if S rfl (fun h3 => ?_) (fun h3 => ?_)
  · have h3p := h3; try simp only [Option.isNone_some, Option.isNone_none, Option.isSome_some, Option.isSome_none, false_or, or_false, true_and, and_true, decide_eq_true_eq, decide_eq_false_iff_not, Bool.or_eq_true, Bool.and_eq_true, Bool.or_eq_false_iff, Bool.and_eq_false_iff, Bool.not_eq_true', Bool.not_eq_false', bne_iff_ne, beq_iff_eq, beq_eq_false_iff_ne, bne_eq_false_iff_eq, ne_eq, Decidable.not_not, Int.not_lt, Int.not_le, gt_iff_lt, ge_iff_le, Bool.true_eq_false, Bool.false_eq_true, not_true_eq_false, not_false_eq_true] at h3p
    refine g_seq ?_
    -- region 3 law.go:97
    refine g_region ?_
    refine wl_of (op_y (wn rfl) rfl rfl S (y_move rfl S rfl) fun a S => ?_)
    refine wl_of (op_y (wn rfl) rfl rfl S (y_assign rfl S rfl) fun a S => ?_)
    refine gl_nil ?_
    refine n_then ?_
    refine g_ret ?_
    refine r_then (ret1 rfl S rfl ?_)
    exact ⟨rfl, H.toExt⟩
  · have h3p := h3; try simp only [Option.isNone_some, Option.isNone_none, Option.isSome_some, Option.isSome_none, false_or, or_false, true_and, and_true, decide_eq_true_eq, decide_eq_false_iff_not, Bool.or_eq_true, Bool.and_eq_true, Bool.or_eq_false_iff, Bool.and_eq_false_iff, Bool.not_eq_true', Bool.not_eq_false', bne_iff_ne, beq_iff_eq, beq_eq_false_iff_ne, bne_eq_false_iff_eq, ne_eq, Decidable.not_not, Int.not_lt, Int.not_le, gt_iff_lt, ge_iff_le, Bool.true_eq_false, Bool.false_eq_true, not_true_eq_false, not_false_eq_true] at h3p
    refine g_skip ?_
    refine n_then ?_
    refine g_seq ?_
    -- region 4 law.go:99
    refine g_region ?_
    refine wl_of (op_buildSlice (wn rfl) rfl rfl rfl Try.underlying22 Finf26 S H (idx := []) rfl rfl rfl (z := []) (by kernel_rfl) (cs := []) rfl fun b30 a w S H => ?_)
    have H := H.celO [] Pl.enc 9 (m := 0) rfl (by simp) rfl (by omega)
    refine wl_of (op_y (wn rfl) rfl rfl S (y_move rfl S rfl) fun a S => ?_)
    refine wl_of (op_appendT (wn rfl) rfl rfl rfl Try.underlying22 Finf26 rfl rfl S H rfl rfl (by simp [Pl.enc, Value.oneCell']) (by first | assumption | omega | (simp only [List.length_append, List.length_take, List.length_drop, List.length_replicate, List.length_set, List.length_map, List.length_cons, List.length_nil]; omega)) (by first | assumption | omega | (simp only [List.length_append, List.length_take, List.length_drop, List.length_replicate, List.length_set, List.length_map, List.length_cons, List.length_nil]; omega)) fun u32 a w S H => ?_)
    refine wl_of (op_y (wn rfl) rfl rfl S (y_move rfl S rfl) fun a S => ?_)
    refine wl_of (op_appendT (wn rfl) rfl rfl rfl Try.underlying22 Finf26 rfl rfl S H rfl rfl (by simp [Pl.enc, Value.oneCell']) (by first | assumption | omega | (simp only [List.length_append, List.length_take, List.length_drop, List.length_replicate, List.length_set, List.length_map, List.length_cons, List.length_nil]; omega)) (by first | assumption | omega | (simp only [List.length_append, List.length_take, List.length_drop, List.length_replicate, List.length_set, List.length_map, List.length_cons, List.length_nil]; omega)) fun u34 a w S H => ?_)
    refine wl_of (op_y (wn rfl) rfl rfl S (y_assign rfl S rfl) fun a S => ?_)
    refine gl_nil ?_
    refine n_then ?_
    have S := (((((S.nil.cons S 2 rfl).cons S 1 rfl).cons S 0 rfl).cons S 6 rfl).cons S 7 rfl).cons S 8 rfl
    refine g_seq ?_
    -- region 5 law.go:100
    refine g_region ?_
    refine wl_of (op_y (wn rfl) rfl rfl S (y_move rfl S rfl) fun a S => ?_)
    refine wl_of (op_y (wn rfl) rfl rfl S (y_move rfl S rfl) fun a S => ?_)
    refine wl_of (op_call (wn rfl) rfl rfl S (co_func rfl Try.call12 S rfl) (edges_spec v1 v2 old next _ (H.sl _) (H.sl _) (by omega) (by omega)) fun u37 w hc a S => ?_)
    obtain ⟨ps37, hps37, H1⟩ := hc
    have H := H.call2 H1 rfl rfl
    refine wl_of (op_y (wn rfl) rfl rfl S (y_move rfl S rfl) fun a S => ?_)
    refine wl_of (op_y (wn rfl) rfl rfl S (y_move rfl S rfl) fun a S => ?_)
    refine wl_of (op_call (wn rfl) rfl rfl S (co_func rfl Try.call12 S rfl) (edges_spec v1 v3 old more _ (H.sl _) (H.sl _) (by omega) (by omega)) fun u40 w hc a S => ?_)
    obtain ⟨ps40, hps40, H1⟩ := hc
    have H := H.call2 H1 rfl rfl
    refine wl_of (op_y (wn rfl) rfl rfl S (y_move rfl S rfl) fun a S => ?_)
    refine wl_of (op_y (wn rfl) rfl rfl S (y_move rfl S rfl) fun a S => ?_)
    refine wl_of (op_call (wn rfl) rfl rfl S (co_func rfl Try.call12 S rfl) (edges_spec v1 u34 old (([] ++ next) ++ more) _ (H.sl _) (H.sl _) (by omega) (by simp; omega)) fun u43 w hc a S => ?_)
    obtain ⟨ps43, hps43, H1⟩ := hc
    have H := H.call2 H1 rfl rfl
    have hl37 : ps37.length = old.length := by have := congrArg List.length hps37; simpa [edgesL] using this
    have hl40 : ps40.length = old.length := by have := congrArg List.length hps40; simpa [edgesL] using this
    refine wl_of (op_y (wn rfl) rfl rfl S (y_assign rfl S rfl) fun a S => ?_)
    refine wl_of (op_y (wn rfl) rfl rfl S (y_assign rfl S rfl) fun a S => ?_)
    refine wl_of (op_y (wn rfl) rfl rfl S (y_assign rfl S rfl) fun a S => ?_)
    refine gl_nil ?_
    refine n_then ?_
    have S := (((((((S.nil.cons S 1 rfl).cons S 0 rfl).cons S 6 rfl).cons S 7 rfl).cons S 8 rfl).cons S 9 rfl).cons S 10 rfl).cons S 11 rfl
    refine g_seq ?_
    refine g_seq ?_
    -- region 6 law.go:101
    refine g_region ?_
    refine wl_of (op_y (wn rfl) rfl rfl S (y_move rfl S rfl) fun a S => ?_)
    refine wl_of (op_y (wn rfl) rfl rfl S (y_lens rfl Try.underlying28 S H rfl) fun a S => ?_)
    refine wl_of (op_y (wn rfl) rfl rfl S (y_move rfl S rfl) fun a S => ?_)
    refine wl_of (op_y (wn rfl) rfl rfl S (y_lens rfl Try.underlying22 S H rfl) fun a S => ?_)
    refine wl_of (op_y (wn rfl) rfl rfl S (y_bin rfl S rfl rfl rfl) fun a S => ?_)
    refine wl_of (op_y (wn rfl) rfl rfl S (y_move rfl S rfl) fun a S => ?_)
    refine' wl_or 5 49 rfl S H rfl rfl rfl rfl rfl rfl rfl (fun _ S => (wn rfl)) (fun h4 kk => ?yh4) (fun a w S H => ?_)
    case yh4 =>
      have h4p := h4; try simp only [Option.isNone_some, Option.isNone_none, Option.isSome_some, Option.isSome_none, false_or, or_false, true_and, and_true, decide_eq_true_eq, decide_eq_false_iff_not, Bool.or_eq_true, Bool.and_eq_true, Bool.or_eq_false_iff, Bool.and_eq_false_iff, Bool.not_eq_true', Bool.not_eq_false', bne_iff_ne, beq_iff_eq, beq_eq_false_iff_ne, bne_eq_false_iff_eq, ne_eq, Decidable.not_not, Int.not_lt, Int.not_le, gt_iff_lt, ge_iff_le, Bool.true_eq_false, Bool.false_eq_true, not_true_eq_false, not_false_eq_true] at h4p
      refine wl_of (op_y (wg' 49 rfl rfl S rfl h4 rfl) rfl rfl S (y_move rfl S rfl) fun a S => ?_)
      refine wl_of (op_y (wg' 49 rfl rfl S rfl h4 rfl) rfl rfl S (y_lens rfl Try.underlying28 S H rfl) fun a S => ?_)
      refine wl_of (op_y (wg' 49 rfl rfl S rfl h4 rfl) rfl rfl S (y_move rfl S rfl) fun a S => ?_)
      refine wl_of (op_y (wg' 49 rfl rfl S rfl h4 rfl) rfl rfl S (y_lens rfl Try.underlying22 S H rfl) fun a S => ?_)
      refine wl_of (op_y (wg' 49 rfl rfl S rfl h4 rfl) rfl rfl S (y_bin rfl S rfl rfl rfl) fun a S => ?_)
      refine wl_of (op_y (wn rfl) rfl rfl S (y_or' rfl h4 S rfl rfl) fun a S => ?_)
      exact kk _ _ (S.join 6 55 rfl rfl) H
    refine gl_nil ?_
    refine n_then ?_
    have S := ((((((((S.nil.cons S 1 rfl).cons S 0 rfl).cons S 6 rfl).cons S 7 rfl).cons S 8 rfl).cons S 9 rfl).cons S 10 rfl).cons S 11 rfl).cons S 55 rfl
    -- cond 2
    refine c_if S rfl (fun h5 => ?_) (fun h5 => ?_)
    · have h5p := h5; try simp only [Option.isNone_some, Option.isNone_none, Option.isSome_some, Option.isSome_none, false_or, or_false, true_and, and_true, decide_eq_true_eq, decide_eq_false_iff_not, Bool.or_eq_true, Bool.and_eq_true, Bool.or_eq_false_iff, Bool.and_eq_false_iff, Bool.not_eq_true', Bool.not_eq_false', bne_iff_ne, beq_iff_eq, beq_eq_false_iff_ne, bne_eq_false_iff_eq, ne_eq, Decidable.not_not, Int.not_lt, Int.not_le, gt_iff_lt, ge_iff_le, Bool.true_eq_false, Bool.false_eq_true, not_true_eq_false, not_false_eq_true] at h5p
      all_goals (
        exact absurd h5 (by simp [hl37, hl40]))
    · have h5p := h5; try simp only [Option.isNone_some, Option.isNone_none, Option.isSome_some, Option.isSome_none, false_or, or_false, true_and, and_true, decide_eq_true_eq, decide_eq_false_iff_not, Bool.or_eq_true, Bool.and_eq_true, Bool.or_eq_false_iff, Bool.and_eq_false_iff, Bool.not_eq_true', Bool.not_eq_false', bne_iff_ne, beq_iff_eq, beq_eq_false_iff_ne, bne_eq_false_iff_eq, ne_eq, Decidable.not_not, Int.not_lt, Int.not_le, gt_iff_lt, ge_iff_le, Bool.true_eq_false, Bool.false_eq_true, not_true_eq_false, not_false_eq_true] at h5p
      refine g_skip ?_
      refine n_then ?_
      refine g_seq ?_
      -- region 8 law.go:104
      refine g_region ?_
      refine wl_of (op_y (wn rfl) rfl rfl S (y_move rfl S rfl) fun a S => ?_)
      refine wl_of (op_y (wn rfl) rfl rfl S (y_lens rfl Try.underlying22 S H rfl) fun a S => ?_)
      refine wl_of (op_make (encRow (α := Int)) ((Value.slice none 0 0, [])) (wn rfl) rfl rfl rfl Try.underlying28 Finf32 rfl rfl S H rfl rfl rfl (by omega) (by omega) fun b58 a w S H => ?_)
      have H := (H.rowsNil 3 1 encI old.length).take [OSl 32 (.slice (some ⟨b58, 0, none⟩) old.length old.length) 1 encRow (List.replicate old.length (Value.slice none 0 0, ([] : List Int))), RowsA 3 1 encI (List.replicate old.length (Value.slice none 0 0, ([] : List Int))), OSl 32 u43 1 encRow ps43, RowsA 3 1 encI ps43, OSl 32 u40 1 encRow ps40, RowsA 3 1 encI ps40, OSl 32 u37 1 encRow ps37, RowsA 3 1 encI ps37, OSl 26 u34 9 Pl.enc (([] ++ next) ++ more), Sl v3 9 Pl.enc more, Sl v2 9 Pl.enc next, Sl v1 9 Pl.enc old]
      refine wl_of (op_y (wn rfl) rfl rfl S (y_assign rfl S rfl) fun a S => ?_)
      refine gl_nil ?_
      refine n_then ?_
      have S := ((((((((S.nil.cons S 1 rfl).cons S 0 rfl).cons S 6 rfl).cons S 7 rfl).cons S 8 rfl).cons S 9 rfl).cons S 10 rfl).cons S 11 rfl).cons S 12 rfl
      refine g_seq ?_
      refine g_seq ?_
      -- region 9 law.go:105
      refine g_region ?_
      refine wl_of (op_y (wn rfl) rfl rfl S (y_assign rfl S rfl) fun a S => ?_)
      refine gl_nil ?_
      refine n_then ?_
      refine g_block ?_
      have SU := ((((((((S.nil.cons S 1 rfl).cons S 0 rfl).cons S 6 rfl).cons S 7 rfl).cons S 8 rfl).cons S 9 rfl).cons S 10 rfl).cons S 11 rfl).cons S 12 rfl
      refine loopW (X := Nat) SU (fun i => [(13, .int .i64 (i : Int))]) (fun i w => i ≤ old.length ∧ ∃ pw : List (Value × List Int), (i < old.length → pw.map (·.2) = rowsG (wantL old next more) i []) ∧ (i = old.length → pw.map (·.2) = (wantL old next more)) ∧ pw.length = old.length ∧ HSat No w0 [OSl 32 (.slice (some ⟨b58, 0, none⟩) old.length old.length) 1 encRow pw, RowsA 3 1 encI pw, OSl 32 u43 1 encRow ps43, RowsA 3 1 encI ps43, OSl 32 u40 1 encRow ps40, RowsA 3 1 encI ps40, OSl 32 u37 1 encRow ps37, RowsA 3 1 encI ps37, OSl 26 u34 9 Pl.enc (([] ++ next) ++ more), Sl v3 9 Pl.enc more, Sl v2 9 Pl.enc next, Sl v1 9 Pl.enc old] w) (fun i => old.length - i) 0 (S.nil.cons S 13 rfl) (⟨by omega, (List.replicate old.length (Value.slice none 0 0, ([] : List Int))), fun h => by rw [List.map_replicate, ← want_len old next more]; exact rowsG_start _ (by intro e; have := want_len old next more; rw [e] at this; simp at this; omega), fun h => by have e := List.length_eq_zero_iff.1 h.symm; subst e; rfl, by simp, H⟩) (fun i a w S hW => ?_)
      simp only [List.cons_append, List.nil_append] at S
      obtain ⟨hi, pw, hp1, hp2, hpl, H⟩ := hW
      refine g_seq ?_
      refine g_seq ?_
      -- region 10 law.go:105
      refine g_region ?_
      refine wl_of (op_y (wn rfl) rfl rfl S (y_move rfl S rfl) fun a S => ?_)
      refine wl_of (op_y (wn rfl) rfl rfl S (y_move rfl S rfl) fun a S => ?_)
      refine wl_of (op_y (wn rfl) rfl rfl S (y_lens rfl Try.underlying22 S H rfl) fun a S => ?_)
      refine wl_of (op_y (wn rfl) rfl rfl S (y_bin rfl S rfl rfl rfl) fun a S => ?_)
      refine gl_nil ?_
      refine n_then ?_
      -- cond 3
      refine c_if S rfl (fun h6 => ?_) (fun h6 => ?_)
      · have h6p := h6; try simp only [Option.isNone_some, Option.isNone_none, Option.isSome_some, Option.isSome_none, false_or, or_false, true_and, and_true, decide_eq_true_eq, decide_eq_false_iff_not, Bool.or_eq_true, Bool.and_eq_true, Bool.or_eq_false_iff, Bool.and_eq_false_iff, Bool.not_eq_true', Bool.not_eq_false', bne_iff_ne, beq_iff_eq, beq_eq_false_iff_ne, bne_eq_false_iff_eq, ne_eq, Decidable.not_not, Int.not_lt, Int.not_le, gt_iff_lt, ge_iff_le, Bool.true_eq_false, Bool.false_eq_true, not_true_eq_false, not_false_eq_true] at h6p
        have hpw0 := hp1 (by omega)
        have hir : i < pw.length := by omega
        have ha37 : i < ps37.length := by omega
        have ha40 : i < ps40.length := by omega
        have hr37 : ps37[i].2 = fits old[i] next 0 := by rw [map_row hps37 i ha37, edges_row _ _ _ (by omega)]
        have hr40 : ps40[i].2 = fits old[i] more 0 := by rw [map_row hps40 i ha40, edges_row _ _ _ (by omega)]
        have hf1 := fits_len old[i] next 0
        have hf2 := fits_len old[i] more 0
        have hwl := want_len old next more
        have hrw : pw[i].2 = [] := by rw [map_row hpw0 i hir]; exact rowsG_get (wantL old next more) i [] (by omega)
        have hq1 := congrArg List.length hr37
        have hq2 := congrArg List.length hrw
        have hq3 := congrArg List.length hr40
        simp only [List.length_nil] at hq2
        have H := (H.front (RowsA 3 1 encI pw)).rowOut i hir
        refine g_skip ?_
        refine n_then ?_
        refine g_seq ?_
        refine g_block ?_
        refine g_seq ?_
        -- region 12 DRAWS law.go:106
        refine region_st (loud := [10, 12]) (tails := [10, 12]) (free := [0, 1]) [0, 1, 2, 3, 4, 5, 6, 7, 8, 9, 10, 11, 12] [] Fmo (by kernel_rfl) (by kernel_rfl) rfl H ?_
        refine m_f rfl rfl (wn rfl) rfl rfl S (fun w H => y_move rfl S rfl) fun a S => ?_
        refine m_f rfl rfl (wn rfl) rfl rfl S (fun w H => y_move rfl S rfl) fun a S => ?_
        refine m_w rfl rfl (wn rfl) rfl rfl S (fun w H => y_move rfl S rfl) fun a S => ?_
        refine m_w rfl rfl (wn rfl) rfl rfl S (fun w H => y_move rfl S rfl) fun a S => ?_
        refine m_w rfl rfl (wn rfl) rfl rfl S (fun w H => y_iaddrn rfl Try.underlying28 Fsiz32 S H rfl rfl (by first | assumption | omega | (simp only [List.length_append, List.length_take, List.length_drop, List.length_replicate, List.length_set, List.length_map, List.length_cons, List.length_nil]; omega))) fun a S => ?_
        refine m_loads _ rfl rfl (wn rfl) rfl rfl S rfl Fsca32 rfl (by first | assumption | omega | (simp only [List.length_append, List.length_take, List.length_drop, List.length_replicate, List.length_set, List.length_map, List.length_cons, List.length_nil]; omega)) rfl fun a S => ?_
        refine m_w rfl rfl (wn rfl) rfl rfl S (fun w H => y_move rfl S rfl) fun a S => ?_
        refine m_w rfl rfl (wn rfl) rfl rfl S (fun w H => y_move rfl S rfl) fun a S => ?_
        refine m_w rfl rfl (wn rfl) rfl rfl S (fun w H => y_iaddrn rfl Try.underlying28 Fsiz32 S H rfl rfl (by first | assumption | omega | (simp only [List.length_append, List.length_take, List.length_drop, List.length_replicate, List.length_set, List.length_map, List.length_cons, List.length_nil]; omega))) fun a S => ?_
        refine m_loads _ rfl rfl (wn rfl) rfl rfl S rfl Fsca32 rfl (by first | assumption | omega | (simp only [List.length_append, List.length_take, List.length_drop, List.length_replicate, List.length_set, List.length_map, List.length_cons, List.length_nil]; omega)) rfl fun a S => ?_
        refine m_l rfl rfl (fun w H => op_appendT (wn rfl) rfl rfl rfl Try.underlying32 Finf3 rfl rfl S H rfl rfl (by simp [encI, Value.oneCell']) (by first | assumption | omega | (simp only [List.length_append, List.length_take, List.length_drop, List.length_replicate, List.length_set, List.length_map, List.length_cons, List.length_nil]; omega)) (by first | assumption | omega | (simp only [List.length_append, List.length_take, List.length_drop, List.length_replicate, List.length_set, List.length_map, List.length_cons, List.length_nil]; omega)) fun u75 a w S H => m_tail H rfl ?_)
        refine m_w rfl rfl (wn rfl) rfl rfl S (fun w H => y_iaddrn rfl Try.underlying28 Fsiz32 S H rfl rfl (by first | assumption | omega | (simp only [List.length_append, List.length_take, List.length_drop, List.length_replicate, List.length_set, List.length_map, List.length_cons, List.length_nil]; omega))) fun a S => ?_
        refine m_l rfl rfl (fun w H => op_store1 _ ((u75, pw[i].2 ++ ps37[i].2)) (wn rfl) rfl rfl S H rfl rfl (H.slc _) (H.sl1 _) Fsiz32 (by first | assumption | omega | (simp only [List.length_append, List.length_take, List.length_drop, List.length_replicate, List.length_set, List.length_map, List.length_cons, List.length_nil]; omega)) (by exact rfl) fun a w S H => m_tail H rfl ?_)
        refine m_nil (fun w H => ?_)
        refine n_then ?_
        refine g_seq ?_
        -- region 13 law.go:107
        refine g_region ?_
        refine wl_of (op_y (wn rfl) rfl rfl S (y_assign rfl S rfl) fun a S => ?_)
        refine gl_nil ?_
        refine n_then ?_
        refine g_block ?_
        have SU := (((((((((((((((((((((((((S.nil.cons S 1 rfl).cons S 0 rfl).cons S 6 rfl).cons S 7 rfl).cons S 8 rfl).cons S 9 rfl).cons S 10 rfl).cons S 11 rfl).cons S 12 rfl).cons S 13 rfl).cons S 59 rfl).cons S 60 rfl).cons S 61 rfl).cons S 62 rfl).cons S 65 rfl).cons S 66 rfl).cons S 67 rfl).cons S 68 rfl).cons S 69 rfl).cons S 70 rfl).cons S 71 rfl).cons S 72 rfl).cons S 73 rfl).cons S 74 rfl).cons S 75 rfl).cons S 76 rfl
        refine loopW (X := Nat) SU (fun j => [(14, .int .i64 (j : Int))]) (fun j w => j ≤ ps40[i].2.length ∧ ∃ pw : List (Value × List Int), pw.map (·.2) = rowsG (wantL old next more) i (fits old[i] next 0 ++ (ps40[i].2.take j).map (· + (next.length : Int))) ∧ pw.length = old.length ∧ HSat No w0 [OSl 32 (.slice (some ⟨b58, 0, none⟩) old.length old.length) 1 encRow pw, RowsA 3 1 encI pw, OSl 32 u43 1 encRow ps43, RowsA 3 1 encI ps43, OSl 32 u40 1 encRow ps40, RowsA 3 1 encI ps40, OSl 32 u37 1 encRow ps37, RowsA 3 1 encI ps37, OSl 26 u34 9 Pl.enc (([] ++ next) ++ more), Sl v3 9 Pl.enc more, Sl v2 9 Pl.enc next, Sl v1 9 Pl.enc old] w) (fun j => ps40[i].2.length - j) 0 (S.nil.cons S 14 rfl) (⟨by omega, pw.set i (u75, pw[i].2 ++ ps37[i].2), by rw [List.map_set, hpw0, hrw, hr37, rowsG_set _ _ _ _ (by omega)]; simp, by simp [hpl], ((H.front2 (OSl 3 u75 1 encI (pw[i].2 ++ ps37[i].2)) (RowsA 3 1 encI (pw.eraseIdx i))).rowIn hir).take [OSl 32 (.slice (some ⟨b58, 0, none⟩) old.length old.length) 1 encRow (pw.set i (u75, pw[i].2 ++ ps37[i].2)), RowsA 3 1 encI (pw.set i (u75, pw[i].2 ++ ps37[i].2)), OSl 32 u43 1 encRow ps43, RowsA 3 1 encI ps43, OSl 32 u40 1 encRow ps40, RowsA 3 1 encI ps40, OSl 32 u37 1 encRow ps37, RowsA 3 1 encI ps37, OSl 26 u34 9 Pl.enc (([] ++ next) ++ more), Sl v3 9 Pl.enc more, Sl v2 9 Pl.enc next, Sl v1 9 Pl.enc old]⟩) (fun j a w S hW => ?_)
        simp only [List.cons_append, List.nil_append] at S
        obtain ⟨hj, pw, hpw, hpl, H⟩ := hW
        refine g_seq ?_
        refine g_seq ?_
        -- region 14 law.go:107
        refine g_region ?_
        refine wl_of (op_y (wn rfl) rfl rfl S (y_move rfl S rfl) fun a S => ?_)
        refine wl_of (op_y (wn rfl) rfl rfl S (y_move rfl S rfl) fun a S => ?_)
        refine wl_of (op_y (wn rfl) rfl rfl S (y_move rfl S rfl) fun a S => ?_)
        refine wl_of (op_y (wn rfl) rfl rfl S (y_iaddrn rfl Try.underlying28 Fsiz32 S H rfl rfl (by first | assumption | omega | (simp only [List.length_append, List.length_take, List.length_drop, List.length_replicate, List.length_set, List.length_map, List.length_cons, List.length_nil]; omega))) fun a S => ?_)
        refine wl_of (op_y (wn rfl) rfl rfl S (y_loads _ rfl Fsca32 S H rfl (by first | assumption | omega | (simp only [List.length_append, List.length_take, List.length_drop, List.length_replicate, List.length_set, List.length_map, List.length_cons, List.length_nil]; omega)) rfl) fun a S => ?_)
        refine wl_of (op_y (wn rfl) rfl rfl S (y_lens rfl Try.underlying32 S H rfl) fun a S => ?_)
        refine wl_of (op_y (wn rfl) rfl rfl S (y_bin rfl S rfl rfl rfl) fun a S => ?_)
        refine gl_nil ?_
        refine n_then ?_
        -- cond 4
        refine c_if S rfl (fun h7 => ?_) (fun h7 => ?_)
        · have h7p := h7; try simp only [Option.isNone_some, Option.isNone_none, Option.isSome_some, Option.isSome_none, false_or, or_false, true_and, and_true, decide_eq_true_eq, decide_eq_false_iff_not, Bool.or_eq_true, Bool.and_eq_true, Bool.or_eq_false_iff, Bool.and_eq_false_iff, Bool.not_eq_true', Bool.not_eq_false', bne_iff_ne, beq_iff_eq, beq_eq_false_iff_ne, bne_eq_false_iff_eq, ne_eq, Decidable.not_not, Int.not_lt, Int.not_le, gt_iff_lt, ge_iff_le, Bool.true_eq_false, Bool.false_eq_true, not_true_eq_false, not_false_eq_true] at h7p
          have hir2 : i < pw.length := by omega
          have hrw2 : pw[i].2 = fits old[i] next 0 ++ (ps40[i].2.take j).map (· + (next.length : Int)) := by rw [map_row hpw i hir2]; exact rowsG_get (wantL old next more) i _ (by omega)
          have hq4 := congrArg List.length hrw2
          simp only [List.length_append, List.length_map, List.length_take] at hq4
          have hbd : 0 ≤ ps40[i].2[j] ∧ ps40[i].2[j] ≤ 1000 := by
            have hm : ps40[i].2[j] ∈ fits old[i] more 0 := by rw [← hr40]; exact List.getElem_mem _
            exact ⟨by have := fits_ge old[i] more 0 _ hm; omega, by have := fits_lt old[i] more 0 _ hm; omega⟩
          have H := (H.front (RowsA 3 1 encI pw)).rowOut i hir2
          refine g_skip ?_
          refine n_then ?_
          refine g_seq ?_
          refine g_block ?_
          -- region 16 DRAWS law.go:108
          refine region_st (loud := [16, 17, 19]) (tails := [17, 19]) (free := [0, 1]) [0, 1, 2, 3, 4, 5, 6, 7, 8, 9, 10, 11, 12, 13, 14, 15, 16, 17, 18, 19] [] Fmo (by kernel_rfl) (by kernel_rfl) rfl H ?_
          refine m_f rfl rfl (wn rfl) rfl rfl S (fun w H => y_move rfl S rfl) fun a S => ?_
          refine m_f rfl rfl (wn rfl) rfl rfl S (fun w H => y_move rfl S rfl) fun a S => ?_
          refine m_w rfl rfl (wn rfl) rfl rfl S (fun w H => y_move rfl S rfl) fun a S => ?_
          refine m_w rfl rfl (wn rfl) rfl rfl S (fun w H => y_move rfl S rfl) fun a S => ?_
          refine m_w rfl rfl (wn rfl) rfl rfl S (fun w H => y_iaddrn rfl Try.underlying28 Fsiz32 S H rfl rfl (by first | assumption | omega | (simp only [List.length_append, List.length_take, List.length_drop, List.length_replicate, List.length_set, List.length_map, List.length_cons, List.length_nil]; omega))) fun a S => ?_
          refine m_loads _ rfl rfl (wn rfl) rfl rfl S rfl Fsca32 rfl (by first | assumption | omega | (simp only [List.length_append, List.length_take, List.length_drop, List.length_replicate, List.length_set, List.length_map, List.length_cons, List.length_nil]; omega)) rfl fun a S => ?_
          refine m_w rfl rfl (wn rfl) rfl rfl S (fun w H => y_move rfl S rfl) fun a S => ?_
          refine m_w rfl rfl (wn rfl) rfl rfl S (fun w H => y_move rfl S rfl) fun a S => ?_
          refine m_w rfl rfl (wn rfl) rfl rfl S (fun w H => y_iaddrn rfl Try.underlying28 Fsiz32 S H rfl rfl (by first | assumption | omega | (simp only [List.length_append, List.length_take, List.length_drop, List.length_replicate, List.length_set, List.length_map, List.length_cons, List.length_nil]; omega))) fun a S => ?_
          refine m_loads _ rfl rfl (wn rfl) rfl rfl S rfl Fsca32 rfl (by first | assumption | omega | (simp only [List.length_append, List.length_take, List.length_drop, List.length_replicate, List.length_set, List.length_map, List.length_cons, List.length_nil]; omega)) rfl fun a S => ?_
          refine m_w rfl rfl (wn rfl) rfl rfl S (fun w H => y_move rfl S rfl) fun a S => ?_
          refine m_w rfl rfl (wn rfl) rfl rfl S (fun w H => y_iaddrn rfl Try.underlying32 Fsiz3 S H rfl rfl (by first | assumption | omega | (simp only [List.length_append, List.length_take, List.length_drop, List.length_replicate, List.length_set, List.length_map, List.length_cons, List.length_nil]; omega))) fun a S => ?_
          refine m_loads _ rfl rfl (wn rfl) rfl rfl S rfl Fsca3 rfl (by first | assumption | omega | (simp only [List.length_append, List.length_take, List.length_drop, List.length_replicate, List.length_set, List.length_map, List.length_cons, List.length_nil]; omega)) rfl fun a S => ?_
          refine m_w rfl rfl (wn rfl) rfl rfl S (fun w H => y_move rfl S rfl) fun a S => ?_
          refine m_w rfl rfl (wn rfl) rfl rfl S (fun w H => y_lens rfl Try.underlying22 S H rfl) fun a S => ?_
          refine m_w rfl rfl (wn rfl) rfl rfl S (fun w H => y_add rfl S rfl rfl (by omega)) fun a S => ?_
          refine m_l rfl rfl (fun w H => op_buildSlice (wn rfl) rfl rfl rfl Try.underlying32 Finf3 S H (idx := [0]) rfl rfl rfl (z := [.int .i64 0]) (by kernel_rfl) (cs := [_]) rfl fun b102 a w S H => m_next H (List.sublist_cons_self _ _) ?_)
          refine m_l rfl rfl (fun w H => op_append ([ps40[i].2[j] + (next.length : Int)]) (wn rfl) rfl rfl rfl Try.underlying32 Finf3 rfl rfl S H rfl rfl rfl rfl (by simp) (by simp [encI]) (by simp [encI, Value.oneCell']) (by first | assumption | omega | (simp only [List.length_append, List.length_take, List.length_drop, List.length_replicate, List.length_set, List.length_map, List.length_cons, List.length_nil]; omega)) (by first | assumption | omega | (simp only [List.length_append, List.length_take, List.length_drop, List.length_replicate, List.length_set, List.length_map, List.length_cons, List.length_nil]; omega)) fun u103 a w hn103 S H => m_tail H rfl ?_)
          refine m_w rfl rfl (wn rfl) rfl rfl S (fun w H => y_iaddrn rfl Try.underlying28 Fsiz32 S H rfl rfl (by first | assumption | omega | (simp only [List.length_append, List.length_take, List.length_drop, List.length_replicate, List.length_set, List.length_map, List.length_cons, List.length_nil]; omega))) fun a S => ?_
          refine m_l rfl rfl (fun w H => op_store1 _ ((u103, pw[i].2 ++ [ps40[i].2[j] + (next.length : Int)])) (wn rfl) rfl rfl S H rfl rfl (H.slc _) (H.sl1 _) Fsiz32 (by first | assumption | omega | (simp only [List.length_append, List.length_take, List.length_drop, List.length_replicate, List.length_set, List.length_map, List.length_cons, List.length_nil]; omega)) (by exact rfl) fun a w S H => m_tail H rfl ?_)
          refine m_nil (fun w H => ?_)
          refine n_block ?_
          refine n_then ?_
          -- region 15 law.go:107
          refine g_region ?_
          refine wl_of (op_y (wn rfl) rfl rfl S (y_move rfl S rfl) fun a S => ?_)
          refine wl_of (op_y (wn rfl) rfl rfl S (y_add rfl S rfl rfl (by omega)) fun a S => ?_)
          refine wl_of (op_y (wn rfl) rfl rfl S (y_assign rfl S rfl) fun a S => ?_)
          refine gl_nil ?_
          refine n_then ?_
          exact ⟨j + 1, S.nil.cons S 14 rfl, (((((((((((((((((((((((((S.nil.cons S 1 rfl).cons S 0 rfl).cons S 6 rfl).cons S 7 rfl).cons S 8 rfl).cons S 9 rfl).cons S 10 rfl).cons S 11 rfl).cons S 12 rfl).cons S 13 rfl).cons S 59 rfl).cons S 60 rfl).cons S 61 rfl).cons S 62 rfl).cons S 65 rfl).cons S 66 rfl).cons S 67 rfl).cons S 68 rfl).cons S 69 rfl).cons S 70 rfl).cons S 71 rfl).cons S 72 rfl).cons S 73 rfl).cons S 74 rfl).cons S 75 rfl).cons S 76 rfl, ⟨by omega, pw.set i (u103, pw[i].2 ++ [ps40[i].2[j] + (next.length : Int)]), by rw [List.map_set, hpw, hrw2, rowsG_set _ _ _ _ (by omega), List.take_succ_eq_append_getElem (by omega), List.map_append, List.append_assoc]; rfl, by simp [hpl], ((H.front2 (OSl 3 u103 1 encI (pw[i].2 ++ [ps40[i].2[j] + (next.length : Int)])) (RowsA 3 1 encI (pw.eraseIdx i))).rowIn hir2).take [OSl 32 (.slice (some ⟨b58, 0, none⟩) old.length old.length) 1 encRow (pw.set i (u103, pw[i].2 ++ [ps40[i].2[j] + (next.length : Int)])), RowsA 3 1 encI (pw.set i (u103, pw[i].2 ++ [ps40[i].2[j] + (next.length : Int)])), OSl 32 u43 1 encRow ps43, RowsA 3 1 encI ps43, OSl 32 u40 1 encRow ps40, RowsA 3 1 encI ps40, OSl 32 u37 1 encRow ps37, RowsA 3 1 encI ps37, OSl 26 u34 9 Pl.enc (([] ++ next) ++ more), Sl v3 9 Pl.enc more, Sl v2 9 Pl.enc next, Sl v1 9 Pl.enc old]⟩, by omega⟩
        · have h7p := h7; try simp only [Option.isNone_some, Option.isNone_none, Option.isSome_some, Option.isSome_none, false_or, or_false, true_and, and_true, decide_eq_true_eq, decide_eq_false_iff_not, Bool.or_eq_true, Bool.and_eq_true, Bool.or_eq_false_iff, Bool.and_eq_false_iff, Bool.not_eq_true', Bool.not_eq_false', bne_iff_ne, beq_iff_eq, beq_eq_false_iff_ne, bne_eq_false_iff_eq, ne_eq, Decidable.not_not, Int.not_lt, Int.not_le, gt_iff_lt, ge_iff_le, Bool.true_eq_false, Bool.false_eq_true, not_true_eq_false, not_false_eq_true] at h7p
          obtain rfl : j = ps40[i].2.length := by omega
          rw [List.take_length, hr40, ← want_at old next more i (by omega)] at hpw
          refine g_exit ?_
          refine x_then (x_then (x_eq ?_))
          refine n_block ?_
          refine n_then ?_
          -- region 11 law.go:105
          refine g_region ?_
          refine wl_of (op_y (wn rfl) rfl rfl S (y_move rfl S rfl) fun a S => ?_)
          refine wl_of (op_y (wn rfl) rfl rfl S (y_add rfl S rfl rfl (by omega)) fun a S => ?_)
          refine wl_of (op_y (wn rfl) rfl rfl S (y_assign rfl S rfl) fun a S => ?_)
          refine gl_nil ?_
          refine n_then ?_
          exact ⟨i + 1, S.nil.cons S 13 rfl, ((((((((S.nil.cons S 1 rfl).cons S 0 rfl).cons S 6 rfl).cons S 7 rfl).cons S 8 rfl).cons S 9 rfl).cons S 10 rfl).cons S 11 rfl).cons S 12 rfl, ⟨by omega, pw, fun h => by rw [hpw, rowsG_next _ _ (by omega)], fun h => by rw [hpw, rowsG_end _ _ (by omega)], hpl, H⟩, by omega⟩
      · have h6p := h6; try simp only [Option.isNone_some, Option.isNone_none, Option.isSome_some, Option.isSome_none, false_or, or_false, true_and, and_true, decide_eq_true_eq, decide_eq_false_iff_not, Bool.or_eq_true, Bool.and_eq_true, Bool.or_eq_false_iff, Bool.and_eq_false_iff, Bool.not_eq_true', Bool.not_eq_false', bne_iff_ne, beq_iff_eq, beq_eq_false_iff_ne, bne_eq_false_iff_eq, ne_eq, Decidable.not_not, Int.not_lt, Int.not_le, gt_iff_lt, ge_iff_le, Bool.true_eq_false, Bool.false_eq_true, not_true_eq_false, not_false_eq_true] at h6p
        obtain rfl : i = old.length := by omega
        have hpw := hp2 rfl
        refine g_exit ?_
        refine x_then (x_then (x_eq ?_))
        refine n_then ?_
        have S := (((((S.nil.cons S 0 rfl).cons S 6 rfl).cons S 7 rfl).cons S 8 rfl).cons S 11 rfl).cons S 12 rfl
        refine g_seq ?_
        -- region 17 law.go:111
        refine g_region ?_
        refine wl_of (op_y (wn rfl) rfl rfl S (y_move rfl S rfl) fun a S => ?_)
        refine wl_of (op_y (wn rfl) rfl rfl S (y_move rfl S rfl) fun a S => ?_)
        refine' wl_and 3 106 rfl S H rfl rfl rfl rfl rfl rfl rfl (fun _ S => (wn rfl)) (fun h8 kk => ?yh8) (fun a w S H => ?_)
        case yh8 =>
          have h8p := h8; try simp only [Option.isNone_some, Option.isNone_none, Option.isSome_some, Option.isSome_none, false_or, or_false, true_and, and_true, decide_eq_true_eq, decide_eq_false_iff_not, Bool.or_eq_true, Bool.and_eq_true, Bool.or_eq_false_iff, Bool.and_eq_false_iff, Bool.not_eq_true', Bool.not_eq_false', bne_iff_ne, beq_iff_eq, beq_eq_false_iff_ne, bne_eq_false_iff_eq, ne_eq, Decidable.not_not, Int.not_lt, Int.not_le, gt_iff_lt, ge_iff_le, Bool.true_eq_false, Bool.false_eq_true, not_true_eq_false, not_false_eq_true] at h8p
          refine wl_of (op_y (wg' 106 rfl rfl S rfl h8 rfl) rfl rfl S (y_move rfl S rfl) fun a S => ?_)
          refine wl_of (op_y (wg' 106 rfl rfl S rfl h8 rfl) rfl rfl S (y_move rfl S rfl) fun a S => ?_)
          refine wl_of (op_call (wg' 106 rfl rfl S rfl h8 rfl) rfl rfl S (co_func rfl Try.call11 S rfl) (same_spec _ _ ps43 pw _ (H.sl _) (H.sl _) (H.rws 3 ps43) (H.rws 3 pw)) fun v w hc a S => ?_)
          obtain ⟨rfl, he⟩ := hc
          have H := H.ext he
          refine wl_of (op_y (wn rfl) rfl rfl S (y_and' rfl h8 S rfl rfl) fun a S => ?_)
          exact kk _ _ (S.join 4 110 rfl rfl) H
        refine wl_of (op_y (wn rfl) rfl rfl S (y_move rfl S rfl) fun a S => ?_)
        refine' wl_and (B2 := (decide (edgesL (old.map bareP) ((([] ++ next) ++ more).map bareP) = ps43.map (·.2)))) 7 111 rfl S H rfl rfl rfl rfl rfl rfl rfl (fun _ S => (wn rfl)) (fun h9 kk => ?yh9) (fun a w S H => ?_)
        case yh9 =>
          have h9p := h9; try simp only [Option.isNone_some, Option.isNone_none, Option.isSome_some, Option.isSome_none, false_or, or_false, true_and, and_true, decide_eq_true_eq, decide_eq_false_iff_not, Bool.or_eq_true, Bool.and_eq_true, Bool.or_eq_false_iff, Bool.and_eq_false_iff, Bool.not_eq_true', Bool.not_eq_false', bne_iff_ne, beq_iff_eq, beq_eq_false_iff_ne, bne_eq_false_iff_eq, ne_eq, Decidable.not_not, Int.not_lt, Int.not_le, gt_iff_lt, ge_iff_le, Bool.true_eq_false, Bool.false_eq_true, not_true_eq_false, not_false_eq_true] at h9p
          refine wl_of (op_y (wg' 111 rfl rfl S rfl h9 rfl) rfl rfl S (y_move rfl S rfl) fun a S => ?_)
          refine wl_of (op_call (wg' 111 rfl rfl S rfl h9 rfl) rfl rfl S (co_func rfl Try.call14 S rfl) (bare_spec v1 old _ (H.sl _) (by omega)) fun u113 w hc a S => ?_)
          have H1 := hc
          have H := H.call1 H1 rfl
          refine wl_of (op_y (wg' 111 rfl rfl S rfl h9 rfl) rfl rfl S (y_move rfl S rfl) fun a S => ?_)
          refine wl_of (op_call (wg' 111 rfl rfl S rfl h9 rfl) rfl rfl S (co_func rfl Try.call14 S rfl) (bare_spec u34 (([] ++ next) ++ more) _ (H.sl _) (by simp; omega)) fun u115 w hc a S => ?_)
          have H1 := hc
          have H := H.call1 H1 rfl
          refine wl_of (op_call (wg' 111 rfl rfl S rfl h9 rfl) rfl rfl S (co_func rfl Try.call12 S rfl) (edges_spec u113 u115 (old.map bareP) ((([] ++ next) ++ more).map bareP) _ (H.sl _) (H.sl _) (by simp; omega) (by simp; omega)) fun u116 w hc a S => ?_)
          obtain ⟨ps116, hps116, H1⟩ := hc
          have H := H.call2 H1 rfl rfl
          refine wl_of (op_y (wg' 111 rfl rfl S rfl h9 rfl) rfl rfl S (y_move rfl S rfl) fun a S => ?_)
          refine wl_of (op_call (wg' 111 rfl rfl S rfl h9 rfl) rfl rfl S (co_func rfl Try.call11 S rfl) (same_spec _ _ ps116 ps43 _ (H.sl _) (H.sl _) (H.rws 3 ps116) (H.rws 3 ps43)) fun v w hc a S => ?_)
          obtain ⟨rfl, he⟩ := hc
          have H := H.ext he
          rw [hps116] at S
          refine wl_of (op_y (wn rfl) rfl rfl S (y_and' rfl h9 S rfl rfl) fun a S => ?_)
          exact kk _ _ (S.join 8 119 rfl rfl) (H.drop 4)
        refine wl_of (op_y (wn rfl) rfl rfl S (y_assign rfl S rfl) fun a S => ?_)
        refine gl_nil ?_
        refine n_then ?_
        have S := S.nil.cons S 6 rfl
        refine g_ret ?_
        refine ret1 rfl S rfl ?_
        exact ⟨by rw [hps43, hpw, want_eq, edges_bare]; simp, H.toExt⟩

end Go.Proofs.Ytbncnncpeiiliaa
