/- The walks. No condition. -/
import Derived.Test.YtgplcgfdaoenfaaChecked
import Derived.Test.YtgplcgfdaoenfaaGwCut
import Derived.Test.YtgplcgfdaoenfaaFacts
import Derived.Test.YtgplcgfdaoenfaaPlain
import Derived.Test.YtgplcgfdaoenfaaW9
namespace Go.Proofs.Ytgplcgfdaoenfaa
open Go Go.Gw
set_option linter.unusedVariables false
set_option linter.unusedSimpArgs false
/-- foyer/foyerref01.Ints -/
theorem ints_spec (v1 v2 : Value) (xs ys : List Int) (w0 : World) (h1 : IsSl w0 v1 1 encI xs) (h2 : IsSl w0 v2 1 encI ys) :
    Ret Try.prog 12 #[v1, v2] w0 (fun u w => u = .bool (decide (xs = ys)) ∧ Ext w0 w) := by
  refine ret_of_wp (nt := 26) Try.func12 rfl rfl rfl (fl := [(0, v1), (1, v2)]) rfl (fun a S => ?_)
  have H := HSat.start w0
  have H := H.ro0 (Sl v1 1 encI xs) rfl (h1)
  have H := H.ro0 (Sl v2 1 encI ys) rfl (h2)
  have hl1 := h1.len
  refine g_seq ?_
  -- region 0 ref.go:137
  refine g_region ?_
  refine wl_of (op_y (wn rfl) rfl rfl S (y_assign rfl S rfl) fun a S => ?_)
  refine gl_nil ?_
  refine n_then ?_
  refine g_seq ?_
  refine g_seq ?_
  -- region 1 ref.go:138
  refine g_region ?_
  refine wl_of (op_y (wn rfl) rfl rfl S (y_move rfl S rfl) fun a S => ?_)
  refine wl_of (op_y (wn rfl) rfl rfl S (y_lens rfl Try.underlying22 S H rfl) fun a S => ?_)
  refine wl_of (op_y (wn rfl) rfl rfl S (y_move rfl S rfl) fun a S => ?_)
  refine wl_of (op_y (wn rfl) rfl rfl S (y_lens rfl Try.underlying22 S H rfl) fun a S => ?_)
  refine wl_of (op_y (wn rfl) rfl rfl S (y_bin rfl S rfl rfl rfl) fun a S => ?_)
  refine gl_nil ?_
  refine n_then ?_
  have S := (((S.nil.cons S 1 rfl).cons S 0 rfl).cons S 4 rfl).cons S 10 rfl
  -- cond 1
  refine c_if S rfl (fun h1 => ?_) (fun h1 => ?_)
  · have h1p := h1; try simp only [Option.isNone_some, Option.isNone_none, Option.isSome_some, Option.isSome_none, false_or, or_false, true_and, and_true, decide_eq_true_eq, decide_eq_false_iff_not, Bool.or_eq_true, Bool.and_eq_true, Bool.or_eq_false_iff, Bool.and_eq_false_iff, Bool.not_eq_true', Bool.not_eq_false', bne_iff_ne, beq_iff_eq, beq_eq_false_iff_ne, bne_eq_false_iff_eq, ne_eq, Decidable.not_not, Int.not_lt, Int.not_le, gt_iff_lt, ge_iff_le, Bool.true_eq_false, Bool.false_eq_true, not_true_eq_false, not_false_eq_true] at h1p
    refine g_seq ?_
    -- region 2 ref.go:139
    refine g_region ?_
    refine wl_of (op_y (wn rfl) rfl rfl S (y_assign rfl S rfl) fun a S => ?_)
    refine gl_nil ?_
    refine n_then ?_
    refine g_ret ?_
    refine r_then (ret1 rfl S rfl ?_)
    refine ⟨congrArg Value.bool ?_, H.toExt⟩
    symm; rw [decide_eq_false_iff_not]; rintro rfl; simp at h1
  · have h1p := h1; try simp only [Option.isNone_some, Option.isNone_none, Option.isSome_some, Option.isSome_none, false_or, or_false, true_and, and_true, decide_eq_true_eq, decide_eq_false_iff_not, Bool.or_eq_true, Bool.and_eq_true, Bool.or_eq_false_iff, Bool.and_eq_false_iff, Bool.not_eq_true', Bool.not_eq_false', bne_iff_ne, beq_iff_eq, beq_eq_false_iff_ne, bne_eq_false_iff_eq, ne_eq, Decidable.not_not, Int.not_lt, Int.not_le, gt_iff_lt, ge_iff_le, Bool.true_eq_false, Bool.false_eq_true, not_true_eq_false, not_false_eq_true] at h1p
    refine g_skip ?_
    refine n_then ?_
    refine g_seq ?_
    refine g_seq ?_
    -- region 3 ref.go:141
    refine g_region ?_
    refine wl_of (op_y (wn rfl) rfl rfl S (y_assign rfl S rfl) fun a S => ?_)
    refine gl_nil ?_
    refine n_then ?_
    refine g_block ?_
    -- slots written in the loop and forgotten at its head: [4]
    have SU := (S.nil.cons S 1 rfl).cons S 0 rfl
    refine loop_k (X := Nat) SU (fun k => [(5, .int .i64 (k : Int))]) (fun k => k ≤ xs.length ∧ xs.take k = ys.take k) (fun k => xs.length - k) 0 (S.nil.cons S 5 rfl) H (⟨by omega, rfl⟩) (fun k a w S H hi => ?_)
    simp only [List.cons_append, List.nil_append] at S hi
    obtain ⟨hk, htk⟩ := hi
    refine g_seq ?_
    refine g_seq ?_
    -- region 4 ref.go:141
    refine g_region ?_
    refine wl_of (op_y (wn rfl) rfl rfl S (y_move rfl S rfl) fun a S => ?_)
    refine wl_of (op_y (wn rfl) rfl rfl S (y_move rfl S rfl) fun a S => ?_)
    refine wl_of (op_y (wn rfl) rfl rfl S (y_lens rfl Try.underlying22 S H rfl) fun a S => ?_)
    refine wl_of (op_y (wn rfl) rfl rfl S (y_bin rfl S rfl rfl rfl) fun a S => ?_)
    refine gl_nil ?_
    refine n_then ?_
    -- cond 2
    refine c_if S rfl (fun h2 => ?_) (fun h2 => ?_)
    · have h2p := h2; try simp only [Option.isNone_some, Option.isNone_none, Option.isSome_some, Option.isSome_none, false_or, or_false, true_and, and_true, decide_eq_true_eq, decide_eq_false_iff_not, Bool.or_eq_true, Bool.and_eq_true, Bool.or_eq_false_iff, Bool.and_eq_false_iff, Bool.not_eq_true', Bool.not_eq_false', bne_iff_ne, beq_iff_eq, beq_eq_false_iff_ne, bne_eq_false_iff_eq, ne_eq, Decidable.not_not, Int.not_lt, Int.not_le, gt_iff_lt, ge_iff_le, Bool.true_eq_false, Bool.false_eq_true, not_true_eq_false, not_false_eq_true] at h2p
      refine g_skip ?_
      refine n_then ?_
      refine g_seq ?_
      refine g_block ?_
      refine g_seq ?_
      -- region 6 DRAWS ref.go:142
      refine region_st (loud := []) (tails := []) (free := []) [0, 1, 2, 3, 4, 5, 6, 7, 8] [] Fmo (by kernel_rfl) (by kernel_rfl) rfl H ?_
      refine m_w rfl rfl (wn rfl) rfl rfl S (fun w H => y_move rfl S rfl) fun a S => ?_
      refine m_w rfl rfl (wn rfl) rfl rfl S (fun w H => y_move rfl S rfl) fun a S => ?_
      refine m_w rfl rfl (wn rfl) rfl rfl S (fun w H => y_iaddrn rfl Try.underlying22 Fsiz3 S H rfl rfl (by first | assumption | omega | (simp only [List.length_append, List.length_take, List.length_drop, List.length_replicate, List.length_set, List.length_map, List.length_cons, List.length_nil]; omega))) fun a S => ?_
      refine m_loads _ rfl rfl (wn rfl) rfl rfl S rfl Fsca3 rfl (by first | assumption | omega | (simp only [List.length_append, List.length_take, List.length_drop, List.length_replicate, List.length_set, List.length_map, List.length_cons, List.length_nil]; omega)) rfl fun a S => ?_
      refine m_w rfl rfl (wn rfl) rfl rfl S (fun w H => y_move rfl S rfl) fun a S => ?_
      refine m_w rfl rfl (wn rfl) rfl rfl S (fun w H => y_move rfl S rfl) fun a S => ?_
      refine m_w rfl rfl (wn rfl) rfl rfl S (fun w H => y_iaddrn rfl Try.underlying22 Fsiz3 S H rfl rfl (by first | assumption | omega | (simp only [List.length_append, List.length_take, List.length_drop, List.length_replicate, List.length_set, List.length_map, List.length_cons, List.length_nil]; omega))) fun a S => ?_
      refine m_loads _ rfl rfl (wn rfl) rfl rfl S rfl Fsca3 rfl (by first | assumption | omega | (simp only [List.length_append, List.length_take, List.length_drop, List.length_replicate, List.length_set, List.length_map, List.length_cons, List.length_nil]; omega)) rfl fun a S => ?_
      refine m_w rfl rfl (wn rfl) rfl rfl S (fun w H => y_bin rfl S rfl rfl rfl) fun a S => ?_
      refine m_nil (fun w H => ?_)
      refine n_then ?_
      -- cond 3
      refine c_if S rfl (fun h3 => ?_) (fun h3 => ?_)
      · have h3p := h3; try simp only [Option.isNone_some, Option.isNone_none, Option.isSome_some, Option.isSome_none, false_or, or_false, true_and, and_true, decide_eq_true_eq, decide_eq_false_iff_not, Bool.or_eq_true, Bool.and_eq_true, Bool.or_eq_false_iff, Bool.and_eq_false_iff, Bool.not_eq_true', Bool.not_eq_false', bne_iff_ne, beq_iff_eq, beq_eq_false_iff_ne, bne_eq_false_iff_eq, ne_eq, Decidable.not_not, Int.not_lt, Int.not_le, gt_iff_lt, ge_iff_le, Bool.true_eq_false, Bool.false_eq_true, not_true_eq_false, not_false_eq_true] at h3p
        refine g_seq ?_
        -- region 7 ref.go:143
        refine g_region ?_
        refine wl_of (op_y (wn rfl) rfl rfl S (y_assign rfl S rfl) fun a S => ?_)
        refine gl_nil ?_
        refine n_then ?_
        refine g_ret ?_
        refine r_block (r_then (r_then (r_block (r_then (ret1 rfl S rfl ?_)))))
        refine ⟨congrArg Value.bool ?_, H.toExt⟩
        symm; rw [decide_eq_false_iff_not]; rintro rfl; simp at h3
      · have h3p := h3; try simp only [Option.isNone_some, Option.isNone_none, Option.isSome_some, Option.isSome_none, false_or, or_false, true_and, and_true, decide_eq_true_eq, decide_eq_false_iff_not, Bool.or_eq_true, Bool.and_eq_true, Bool.or_eq_false_iff, Bool.and_eq_false_iff, Bool.not_eq_true', Bool.not_eq_false', bne_iff_ne, beq_iff_eq, beq_eq_false_iff_ne, bne_eq_false_iff_eq, ne_eq, Decidable.not_not, Int.not_lt, Int.not_le, gt_iff_lt, ge_iff_le, Bool.true_eq_false, Bool.false_eq_true, not_true_eq_false, not_false_eq_true] at h3p
        refine g_skip ?_
        refine n_block ?_
        refine n_then ?_
        -- region 5 ref.go:141
        refine g_region ?_
        refine wl_of (op_y (wn rfl) rfl rfl S (y_move rfl S rfl) fun a S => ?_)
        refine wl_of (op_y (wn rfl) rfl rfl S (y_add rfl S rfl rfl (by omega)) fun a S => ?_)
        refine wl_of (op_y (wn rfl) rfl rfl S (y_assign rfl S rfl) fun a S => ?_)
        refine gl_nil ?_
        refine n_then ?_
        refine ⟨k + 1, S.nil.cons S 5 rfl, (S.nil.cons S 1 rfl).cons S 0 rfl, H, ?_, ?_⟩
        · exact ⟨by omega, by rw [List.take_succ_eq_append_getElem (by omega), List.take_succ_eq_append_getElem (by omega), htk, h3p]⟩
        · omega
    · have h2p := h2; try simp only [Option.isNone_some, Option.isNone_none, Option.isSome_some, Option.isSome_none, false_or, or_false, true_and, and_true, decide_eq_true_eq, decide_eq_false_iff_not, Bool.or_eq_true, Bool.and_eq_true, Bool.or_eq_false_iff, Bool.and_eq_false_iff, Bool.not_eq_true', Bool.not_eq_false', bne_iff_ne, beq_iff_eq, beq_eq_false_iff_ne, bne_eq_false_iff_eq, ne_eq, Decidable.not_not, Int.not_lt, Int.not_le, gt_iff_lt, ge_iff_le, Bool.true_eq_false, Bool.false_eq_true, not_true_eq_false, not_false_eq_true] at h2p
      refine g_exit ?_
      refine x_then (x_then (x_eq ?_))
      refine n_then ?_
      have S := S.nil
      refine g_seq ?_
      -- region 8 ref.go:146
      refine g_region ?_
      refine wl_of (op_y (wn rfl) rfl rfl S (y_assign rfl S rfl) fun a S => ?_)
      refine gl_nil ?_
      refine n_then ?_
      refine g_ret ?_
      refine ret1 rfl S rfl ?_
      refine ⟨congrArg Value.bool ?_, H.toExt⟩
      symm; rw [decide_eq_true_eq]
      obtain rfl : k = xs.length := by omega
      rwa [List.take_length, List.take_of_length_le (by omega)] at htk
set_option maxHeartbeats 4000000 in
/-- foyer/foyerlaw21.head -/
theorem head_spec (w0 : World) :
    Ret Try.prog 9 #[] w0 (fun v w => v = .bool true ∧ Ext w0 w) := by
  refine ret_of_wp (nt := 94) Try.func9 rfl rfl rfl (fl := []) rfl (fun a S => ?_)
  have H := HSat.start w0
  refine g_seq ?_
  -- region 0 law.go:12
  refine g_region ?_
  refine wl_of (op_y (wn rfl) rfl rfl S (y_assign rfl S rfl) fun a S => ?_)
  refine gl_nil ?_
  refine n_then ?_
  refine g_seq ?_
  -- region 1 law.go:13
  refine g_region ?_
  refine wl_of (op_buildSlice (wn rfl) rfl rfl rfl Try.underlying22 Finf3 S H (idx := [0, 1, 2]) rfl rfl rfl (z := [.int .i64 0, .int .i64 0, .int .i64 0]) (by kernel_rfl) (cs := [_, _, _]) rfl fun b9 a w S H => ?_)
  refine wl_of (op_call (wn rfl) rfl rfl S (co_func rfl Try.call10 S rfl) (new_ok _ [5, 3, 9] 2 10 100 _ (H.slb b9 _ encI 1 rfl rfl (by simp [encI]) (by decide)) (by decide)) fun v w hc a S => ?_)
  obtain ⟨b, ms, mp, vo, v0, rfl, H1⟩ := hc
  have H := H.call1 H1 rfl
  refine wl_of (op_y (wn rfl) rfl rfl S (y_move rfl S rfl) fun a S => ?_)
  refine wl_of (op_y (wn rfl) rfl rfl S (y_extract rfl S rfl rfl) fun a S => ?_)
  refine wl_of (op_y (wn rfl) rfl rfl S (y_extract rfl S rfl rfl) fun a S => ?_)
  refine wl_of (op_y (wn rfl) rfl rfl S (y_assign rfl S rfl) fun a S => ?_)
  refine wl_of (op_y (wn rfl) rfl rfl S (y_assign rfl S rfl) fun a S => ?_)
  refine gl_nil ?_
  refine n_then ?_
  have S := ((S.nil.cons S 0 rfl).cons S 1 rfl).cons S 2 rfl
  refine g_seq ?_
  -- region 2 law.go:14
  refine g_region ?_
  refine wl_of (op_buildSlice (wn rfl) rfl rfl rfl Try.underlying22 Finf3 S H (idx := [0, 1]) rfl rfl rfl (z := [.int .i64 0, .int .i64 0]) (by kernel_rfl) (cs := [_, _]) rfl fun b14 a w S H => ?_)
  refine wl_of (op_call (wn rfl) rfl rfl S (co_func rfl Try.call10 S rfl) (new_bad _ [5, 5] 2 10 100 _ (H.slb b14 _ encI 1 rfl rfl (by simp [encI]) (by decide)) (by decide)) fun v w hc a S => ?_)
  obtain ⟨rfl, he⟩ := hc
  have H := H.ext he
  refine wl_of (op_y (wn rfl) rfl rfl S (y_move rfl S rfl) fun a S => ?_)
  refine wl_of (op_y (wn rfl) rfl rfl S (y_extract rfl S rfl rfl) fun a S => ?_)
  refine wl_of (op_y (wn rfl) rfl rfl S (y_extract rfl S rfl rfl) fun a S => ?_)
  refine wl_of (op_y (wn rfl) rfl rfl S (y_assign rfl S rfl) fun a S => ?_)
  refine wl_of (op_y (wn rfl) rfl rfl S (y_assign rfl S rfl) fun a S => ?_)
  refine gl_nil ?_
  refine n_then ?_
  have S := (((S.nil.cons S 0 rfl).cons S 1 rfl).cons S 2 rfl).cons S 4 rfl
  refine g_seq ?_
  refine g_seq ?_
  -- region 3 law.go:15
  refine g_region ?_
  refine wl_of (op_y (wn rfl) rfl rfl S (y_move rfl S rfl) fun a S => ?_)
  refine wl_of (op_y (wn rfl) rfl rfl S (y_bin rfl S rfl rfl rfl) fun a S => ?_)
  refine wl_of (op_y (wn rfl) rfl rfl S (y_move rfl S rfl) fun a S => ?_)
  refine wl_of (op_y (wg' 20 rfl rfl S rfl rfl rfl) rfl rfl S (y_move rfl S rfl) fun a S => ?_)
  refine wl_of (op_y (wg' 20 rfl rfl S rfl rfl rfl) rfl rfl S (y_bin rfl S rfl rfl rfl) fun a S => ?_)
  refine wl_of (op_y (wn rfl) rfl rfl S (y_or' rfl rfl S rfl rfl) fun a S => ?_)
  refine wl_of (op_y (wn rfl) rfl rfl S (y_move rfl S rfl) fun a S => ?_)
  refine wl_of (op_y (wg' 24 rfl rfl S rfl rfl rfl) rfl rfl S (y_move rfl S rfl) fun a S => ?_)
  refine wl_of (op_y (wg' 24 rfl rfl S rfl rfl rfl) rfl rfl S (y_eqp rfl Try.underlying25 S rfl rfl) fun a S => ?_)
  refine wl_of (op_y (wn rfl) rfl rfl S (y_or' rfl rfl S rfl rfl) fun a S => ?_)
  refine gl_nil ?_
  refine n_then ?_
  have S := ((S.nil.cons S 0 rfl).cons S 1 rfl).cons S 27 rfl
  -- cond 1
  refine c_if S rfl (fun h3 => ?_) (fun h3 => ?_)
  · have h3p := h3; try simp only [Option.isNone_some, Option.isNone_none, Option.isSome_some, Option.isSome_none, false_or, or_false, true_and, and_true, decide_eq_true_eq, decide_eq_false_iff_not, Bool.or_eq_true, Bool.and_eq_true, Bool.or_eq_false_iff, Bool.and_eq_false_iff, Bool.not_eq_true', Bool.not_eq_false', bne_iff_ne, beq_iff_eq, beq_eq_false_iff_ne, bne_eq_false_iff_eq, ne_eq, Decidable.not_not, Int.not_lt, Int.not_le, gt_iff_lt, ge_iff_le, Bool.true_eq_false, Bool.false_eq_true, not_true_eq_false, not_false_eq_true] at h3p
    all_goals (
      exact absurd h3 (by simp))
  · have h3p := h3; try simp only [Option.isNone_some, Option.isNone_none, Option.isSome_some, Option.isSome_none, false_or, or_false, true_and, and_true, decide_eq_true_eq, decide_eq_false_iff_not, Bool.or_eq_true, Bool.and_eq_true, Bool.or_eq_false_iff, Bool.and_eq_false_iff, Bool.not_eq_true', Bool.not_eq_false', bne_iff_ne, beq_iff_eq, beq_eq_false_iff_ne, bne_eq_false_iff_eq, ne_eq, Decidable.not_not, Int.not_lt, Int.not_le, gt_iff_lt, ge_iff_le, Bool.true_eq_false, Bool.false_eq_true, not_true_eq_false, not_false_eq_true] at h3p
    refine g_skip ?_
    refine n_then ?_
    refine g_seq ?_
    -- region 5 law.go:18
    refine g_region ?_
    refine wl_of (op_y (wn rfl) rfl rfl S (y_move rfl S rfl) fun a S => ?_)
    refine wl_of (op_call (wn rfl) rfl rfl S (co_func rfl Try.call13 S rfl) (called_spec b ms mp vo v0 (newRM [5, 3, 9] 2 10 100) 99 0 _ (H.front (RoomA b ms mp vo (newRM [5, 3, 9] 2 10 100) v0)) (new_wf (by decide))) fun u29 w hc a S => ?_)
    have H1 := hc
    have H := H.call1 H1 rfl
    refine wl_of (op_y (wn rfl) rfl rfl S (y_lens rfl Try.underlying22 S H rfl) fun a S => ?_)
    refine wl_of (op_y (wn rfl) rfl rfl S (y_bin rfl S rfl rfl rfl) fun a S => ?_)
    refine wl_of (op_y (wn rfl) rfl rfl S (y_move rfl S rfl) fun a S => ?_)
    refine wl_of (op_y (wg' 32 rfl rfl S rfl (by kernel_rfl) rfl) rfl rfl S (y_move rfl S rfl) fun a S => ?_)
    refine wl_of (op_call (wg' 32 rfl rfl S rfl (by kernel_rfl) rfl) rfl rfl S (co_func rfl Try.call13 S rfl) (called_spec b ms mp vo v0 (newRM [5, 3, 9] 2 10 100) 100 0 _ (H.front (RoomA b ms mp vo (newRM [5, 3, 9] 2 10 100) v0)) (new_wf (by decide))) fun u34 w hc a S => ?_)
    have H1 := hc
    have H := H.call1 H1 rfl
    refine wl_of (op_buildSlice (wg' 32 rfl rfl S rfl (by kernel_rfl) rfl) rfl rfl rfl Try.underlying22 Finf3 S H (idx := [0, 1]) rfl rfl rfl (z := [.int .i64 0, .int .i64 0]) (by kernel_rfl) (cs := [_, _]) rfl fun b35 a w S H => ?_)
    refine wl_of (op_call (wg' 32 rfl rfl S rfl (by kernel_rfl) rfl) rfl rfl S (co_func rfl Try.call12 S rfl) (ints_spec _ _ (called (newRM [5, 3, 9] 2 10 100) 100) [5, 3] _ (H.sl u34) (H.slb b35 _ encI 1 rfl rfl (by simp [encI]) (by decide))) fun v w hc a S => ?_)
    obtain ⟨rfl, he⟩ := hc
    have H := H.ext he
    refine wl_of (op_y (wn rfl) rfl rfl S (y_and' rfl (by kernel_rfl) S rfl rfl) fun a S => ?_)
    refine wl_of (op_y (wn rfl) rfl rfl S (y_move rfl S rfl) fun a S => ?_)
    refine wl_of (op_y (wg' 38 rfl rfl S rfl (by kernel_rfl) rfl) rfl rfl S (y_move rfl S rfl) fun a S => ?_)
    refine wl_of (op_call (wg' 38 rfl rfl S rfl (by kernel_rfl) rfl) rfl rfl S (co_func rfl Try.call13 S rfl) (called_spec b ms mp vo v0 (newRM [5, 3, 9] 2 10 100) 110 0 _ (H.front (RoomA b ms mp vo (newRM [5, 3, 9] 2 10 100) v0)) (new_wf (by decide))) fun u40 w hc a S => ?_)
    have H1 := hc
    have H := H.call1 H1 rfl
    refine wl_of (op_buildSlice (wg' 38 rfl rfl S rfl (by kernel_rfl) rfl) rfl rfl rfl Try.underlying22 Finf3 S H (idx := [0, 1, 2]) rfl rfl rfl (z := [.int .i64 0, .int .i64 0, .int .i64 0]) (by kernel_rfl) (cs := [_, _, _]) rfl fun b41 a w S H => ?_)
    refine wl_of (op_call (wg' 38 rfl rfl S rfl (by kernel_rfl) rfl) rfl rfl S (co_func rfl Try.call12 S rfl) (ints_spec _ _ (called (newRM [5, 3, 9] 2 10 100) 110) [5, 3, 9] _ (H.sl u40) (H.slb b41 _ encI 1 rfl rfl (by simp [encI]) (by decide))) fun v w hc a S => ?_)
    obtain ⟨rfl, he⟩ := hc
    have H := H.ext he
    refine wl_of (op_y (wn rfl) rfl rfl S (y_and' rfl (by kernel_rfl) S rfl rfl) fun a S => ?_)
    refine wl_of (op_y (wn rfl) rfl rfl S (y_assign rfl S rfl) fun a S => ?_)
    refine gl_nil ?_
    refine n_then ?_
    have S := ((S.nil.cons S 0 rfl).cons S 1 rfl).cons S 5 rfl
    refine g_seq ?_
    -- region 6 law.go:19
    refine g_region ?_
    refine wl_of (op_y (wn rfl) rfl rfl S (y_move rfl S rfl) fun a S => ?_)
    refine wl_of (op_call (wn rfl) rfl rfl S (co_func rfl Try.call19 S rfl) (Ret.atE (x := RoomA b ms mp vo (newRM [5, 3, 9] 2 10 100) v0) H (fun H => serve_spec b ms mp vo v0 (newRM [5, 3, 9] 2 10 100) 9 105 0 _ H (new_wf (by decide)) (by omega))) fun v w hc a S => ?_)
    obtain ⟨rfl, v1, H⟩ := hc
    
    refine wl_of (op_y (wn rfl) rfl rfl S (y_bin rfl S rfl rfl rfl) fun a S => ?_)
    refine wl_of (op_y (wn rfl) rfl rfl S (y_move rfl S rfl) fun a S => ?_)
    refine wl_of (op_y (wg' 47 rfl rfl S rfl (by kernel_rfl) rfl) rfl rfl S (y_move rfl S rfl) fun a S => ?_)
    refine wl_of (op_call (wg' 47 rfl rfl S rfl (by kernel_rfl) rfl) rfl rfl S (co_func rfl Try.call19 S rfl) (Ret.atE (x := RoomA b ms mp vo (serve (newRM [5, 3, 9] 2 10 100) 9 105).2 v1) H (fun H => serve_spec b ms mp vo v1 (serve (newRM [5, 3, 9] 2 10 100) 9 105).2 3 105 1 _ H (serve_wf (new_wf (by decide)) 9 105) (by omega))) fun v w hc a S => ?_)
    obtain ⟨rfl, v2, H⟩ := hc
    
    refine wl_of (op_y (wg' 47 rfl rfl S rfl (by kernel_rfl) rfl) rfl rfl S (y_bin rfl S rfl rfl rfl) fun a S => ?_)
    refine wl_of (op_y (wn rfl) rfl rfl S (y_and' rfl (by kernel_rfl) S rfl rfl) fun a S => ?_)
    refine wl_of (op_y (wn rfl) rfl rfl S (y_move rfl S rfl) fun a S => ?_)
    refine wl_of (op_y (wg' 52 rfl rfl S rfl (by kernel_rfl) rfl) rfl rfl S (y_move rfl S rfl) fun a S => ?_)
    refine wl_of (op_call (wg' 52 rfl rfl S rfl (by kernel_rfl) rfl) rfl rfl S (co_func rfl Try.call19 S rfl) (Ret.atE (x := RoomA b ms mp vo (serve (serve (newRM [5, 3, 9] 2 10 100) 9 105).2 3 105).2 v2) H (fun H => serve_spec b ms mp vo v2 (serve (serve (newRM [5, 3, 9] 2 10 100) 9 105).2 3 105).2 3 105 2 _ H (serve_wf (serve_wf (new_wf (by decide)) 9 105) 3 105) (by omega))) fun v w hc a S => ?_)
    obtain ⟨rfl, v3, H⟩ := hc
    
    refine wl_of (op_y (wg' 52 rfl rfl S rfl (by kernel_rfl) rfl) rfl rfl S (y_bin rfl S rfl rfl rfl) fun a S => ?_)
    refine wl_of (op_y (wn rfl) rfl rfl S (y_and' rfl (by kernel_rfl) S rfl rfl) fun a S => ?_)
    refine wl_of (op_y (wn rfl) rfl rfl S (y_move rfl S rfl) fun a S => ?_)
    refine wl_of (op_y (wg' 57 rfl rfl S rfl (by kernel_rfl) rfl) rfl rfl S (y_move rfl S rfl) fun a S => ?_)
    refine wl_of (op_call (wg' 57 rfl rfl S rfl (by kernel_rfl) rfl) rfl rfl S (co_func rfl Try.call19 S rfl) (Ret.atE (x := RoomA b ms mp vo (serve (serve (serve (newRM [5, 3, 9] 2 10 100) 9 105).2 3 105).2 3 105).2 v3) H (fun H => serve_spec b ms mp vo v3 (serve (serve (serve (newRM [5, 3, 9] 2 10 100) 9 105).2 3 105).2 3 105).2 7 105 3 _ H (serve_wf (serve_wf (serve_wf (new_wf (by decide)) 9 105) 3 105) 3 105) (by omega))) fun v w hc a S => ?_)
    obtain ⟨rfl, v4, H⟩ := hc
    
    refine wl_of (op_y (wg' 57 rfl rfl S rfl (by kernel_rfl) rfl) rfl rfl S (y_bin rfl S rfl rfl rfl) fun a S => ?_)
    refine wl_of (op_y (wn rfl) rfl rfl S (y_and' rfl (by kernel_rfl) S rfl rfl) fun a S => ?_)
    refine wl_of (op_y (wn rfl) rfl rfl S (y_move rfl S rfl) fun a S => ?_)
    refine wl_of (op_y (wg' 62 rfl rfl S rfl (by kernel_rfl) rfl) rfl rfl S (y_move rfl S rfl) fun a S => ?_)
    refine wl_of (op_call (wg' 62 rfl rfl S rfl (by kernel_rfl) rfl) rfl rfl S (co_func rfl Try.call17 S rfl) (Ret.at_ (x := RoomA b ms mp vo (serve (serve (serve (serve (newRM [5, 3, 9] 2 10 100) 9 105).2 3 105).2 3 105).2 7 105).2 v4) H (fun H => leave_spec b ms mp vo v4 (serve (serve (serve (serve (newRM [5, 3, 9] 2 10 100) 9 105).2 3 105).2 3 105).2 7 105).2 5 4 _ H (serve_wf (serve_wf (serve_wf (serve_wf (new_wf (by decide)) 9 105) 3 105) 3 105) 7 105))) fun v w hc a S => ?_)
    obtain ⟨rfl, H⟩ := hc
    
    refine wl_of (op_y (wg' 62 rfl rfl S rfl (by kernel_rfl) rfl) rfl rfl S (y_bin rfl S rfl rfl rfl) fun a S => ?_)
    refine wl_of (op_y (wn rfl) rfl rfl S (y_and' rfl (by kernel_rfl) S rfl rfl) fun a S => ?_)
    refine wl_of (op_y (wn rfl) rfl rfl S (y_assign rfl S rfl) fun a S => ?_)
    refine gl_nil ?_
    refine n_then ?_
    have S := (((S.nil.cons S 0 rfl).cons S 1 rfl).cons S 5 rfl).cons S 6 rfl
    refine g_seq ?_
    -- region 7 law.go:20
    refine g_region ?_
    refine wl_of (op_y (wn rfl) rfl rfl S (y_assign rfl S rfl) fun a S => ?_)
    refine gl_nil ?_
    refine n_then ?_
    refine g_seq ?_
    -- region 8 law.go:21
    refine g_region ?_
    refine wl_of (op_y (wn rfl) rfl rfl S (y_move rfl S rfl) fun a S => ?_)
    refine wl_of (op_y (wn rfl) rfl rfl S (y_move rfl S rfl) fun a S => ?_)
    refine wl_of (op_y (wg' 68 rfl rfl S rfl (by kernel_rfl) rfl) rfl rfl S (y_move rfl S rfl) fun a S => ?_)
    refine wl_of (op_y (wn rfl) rfl rfl S (y_and' rfl (by kernel_rfl) S rfl rfl) fun a S => ?_)
    refine wl_of (op_y (wn rfl) rfl rfl S (y_move rfl S rfl) fun a S => ?_)
    refine wl_of (op_y (wg' 71 rfl rfl S rfl (by kernel_rfl) rfl) rfl rfl S (y_move rfl S rfl) fun a S => ?_)
    refine wl_of (op_call (wg' 71 rfl rfl S rfl (by kernel_rfl) rfl) rfl rfl S (co_func rfl Try.call13 S rfl) (called_spec b ms mp vo v4 (leave (serve (serve (serve (serve (newRM [5, 3, 9] 2 10 100) 9 105).2 3 105).2 3 105).2 7 105).2 5).2 200 5 _ (H.front (RoomA b ms mp vo (leave (serve (serve (serve (serve (newRM [5, 3, 9] 2 10 100) 9 105).2 3 105).2 3 105).2 7 105).2 5).2 v4)) (leave_wf (serve_wf (serve_wf (serve_wf (serve_wf (new_wf (by decide)) 9 105) 3 105) 3 105) 7 105) 5)) fun u73 w hc a S => ?_)
    have H1 := hc
    have H := H.call1 H1 rfl
    refine wl_of (op_buildSlice (wg' 71 rfl rfl S rfl (by kernel_rfl) rfl) rfl rfl rfl Try.underlying22 Finf3 S H (idx := [0]) rfl rfl rfl (z := [.int .i64 0]) (by kernel_rfl) (cs := [_]) rfl fun b74 a w S H => ?_)
    refine wl_of (op_call (wg' 71 rfl rfl S rfl (by kernel_rfl) rfl) rfl rfl S (co_func rfl Try.call12 S rfl) (ints_spec _ _ (called (leave (serve (serve (serve (serve (newRM [5, 3, 9] 2 10 100) 9 105).2 3 105).2 3 105).2 7 105).2 5).2 200) [9] _ (H.sl u73) (H.slb b74 _ encI 1 rfl rfl (by simp [encI]) (by decide))) fun v w hc a S => ?_)
    obtain ⟨rfl, he⟩ := hc
    have H := H.ext he
    refine wl_of (op_y (wn rfl) rfl rfl S (y_and' rfl (by kernel_rfl) S rfl rfl) fun a S => ?_)
    refine wl_of (op_y (wn rfl) rfl rfl S (y_move rfl S rfl) fun a S => ?_)
    refine wl_of (op_y (wg' 77 rfl rfl S rfl (by kernel_rfl) rfl) rfl rfl S (y_move rfl S rfl) fun a S => ?_)
    refine wl_of (op_call (wg' 77 rfl rfl S rfl (by kernel_rfl) rfl) rfl rfl S (co_func rfl Try.call15 S rfl) (served_spec b ms mp vo v4 (leave (serve (serve (serve (serve (newRM [5, 3, 9] 2 10 100) 9 105).2 3 105).2 3 105).2 7 105).2 5).2 5 _ (H.front (RoomA b ms mp vo (leave (serve (serve (serve (serve (newRM [5, 3, 9] 2 10 100) 9 105).2 3 105).2 3 105).2 7 105).2 5).2 v4)) (leave_wf (serve_wf (serve_wf (serve_wf (serve_wf (new_wf (by decide)) 9 105) 3 105) 3 105) 7 105) 5) (by omega)) fun u79 w hc a S => ?_)
    have H1 := hc
    have H := H.call1 H1 rfl
    refine wl_of (op_buildSlice (wg' 77 rfl rfl S rfl (by kernel_rfl) rfl) rfl rfl rfl Try.underlying22 Finf3 S H (idx := [0]) rfl rfl rfl (z := [.int .i64 0]) (by kernel_rfl) (cs := [_]) rfl fun b80 a w S H => ?_)
    refine wl_of (op_call (wg' 77 rfl rfl S rfl (by kernel_rfl) rfl) rfl rfl S (co_func rfl Try.call12 S rfl) (ints_spec _ _ (leave (serve (serve (serve (serve (newRM [5, 3, 9] 2 10 100) 9 105).2 3 105).2 3 105).2 7 105).2 5).2.served [3] _ (H.sl u79) (H.slb b80 _ encI 1 rfl rfl (by simp [encI]) (by decide))) fun v w hc a S => ?_)
    obtain ⟨rfl, he⟩ := hc
    have H := H.ext he
    refine wl_of (op_y (wn rfl) rfl rfl S (y_and' rfl (by kernel_rfl) S rfl rfl) fun a S => ?_)
    refine wl_of (op_y (wn rfl) rfl rfl S (y_move rfl S rfl) fun a S => ?_)
    refine wl_of (op_y (wg' 83 rfl rfl S rfl (by kernel_rfl) rfl) rfl rfl S (y_move rfl S rfl) fun a S => ?_)
    refine wl_of (op_call (wg' 83 rfl rfl S rfl (by kernel_rfl) rfl) rfl rfl S (co_func rfl Try.call17 S rfl) (leave_nil _ _) fun v w hc a S => ?_)
    obtain ⟨rfl, he⟩ := hc
    have H := H.ext he
    refine wl_of (op_y (wg' 83 rfl rfl S rfl (by kernel_rfl) rfl) rfl rfl S (y_bin rfl S rfl rfl rfl) fun a S => ?_)
    refine wl_of (op_y (wn rfl) rfl rfl S (y_and' rfl (by kernel_rfl) S rfl rfl) fun a S => ?_)
    refine wl_of (op_y (wn rfl) rfl rfl S (y_move rfl S rfl) fun a S => ?_)
    refine wl_of (op_y (wg' 88 rfl rfl S rfl (by kernel_rfl) rfl) rfl rfl S (y_move rfl S rfl) fun a S => ?_)
    refine wl_of (op_call (wg' 88 rfl rfl S rfl (by kernel_rfl) rfl) rfl rfl S (co_func rfl Try.call13 S rfl) (called_nil 9 _) fun u90 w hc a S => ?_)
    have H1 := hc
    have H := H.call1 H1 rfl
    refine wl_of (op_y (wg' 88 rfl rfl S rfl (by kernel_rfl) rfl) rfl rfl S (y_lens rfl Try.underlying22 S H rfl) fun a S => ?_)
    refine wl_of (op_y (wg' 88 rfl rfl S rfl (by kernel_rfl) rfl) rfl rfl S (y_bin rfl S rfl rfl rfl) fun a S => ?_)
    refine wl_of (op_y (wn rfl) rfl rfl S (y_and' rfl (by kernel_rfl) S rfl rfl) fun a S => ?_)
    refine wl_of (op_y (wn rfl) rfl rfl S (y_assign rfl S rfl) fun a S => ?_)
    refine gl_nil ?_
    refine n_then ?_
    have S := S.nil.cons S 0 rfl
    refine g_ret ?_
    refine ret1 rfl S rfl ?_
    exact ⟨rfl, H.toExt⟩

end Go.Proofs.Ytgplcgfdaoenfaa
