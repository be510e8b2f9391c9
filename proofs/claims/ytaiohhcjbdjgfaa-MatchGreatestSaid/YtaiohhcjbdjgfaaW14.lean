/- The walks. No condition. -/
import Derived.Test.YtaiohhcjbdjgfaaChecked
import Derived.Test.YtaiohhcjbdjgfaaGwCut
import Derived.Test.YtaiohhcjbdjgfaaFacts
import Derived.Test.YtaiohhcjbdjgfaaPlain
import Derived.Test.YtaiohhcjbdjgfaaW8
namespace Go.Proofs.Ytaiohhcjbdjgfaa
open Go Go.Gw
set_option linter.unusedVariables false
set_option linter.unusedSimpArgs false
set_option maxHeartbeats 2000000 in
/-- foyer/foyerlaw40.MatchFurther -/
theorem law6 (v : Value) (ps : List (Value × List Int)) (right at_ to_ : Int) (w0 : World) (hv : IsSl w0 v 1 encRow ps) (hr : ∀ p ∈ ps, IsSl w0 p.1 1 encI p.2) (ha : 0 ≤ at_ ∧ at_ ≤ 255) (ht : 0 ≤ to_ ∧ to_ ≤ 255) :
    Ret Try.prog 8 #[v, .int .i64 right, .int .u8 at_, .int .u8 to_] w0 (fun v w => v = .bool true ∧ Ext w0 w) := by
  refine ret_of_wp (nt := 76) Try.func8 rfl rfl rfl (fl := [(0, v), (1, .int .i64 right), (2, .int .u8 at_), (3, .int .u8 to_)]) rfl (fun a S => ?_)
  have H := HSat.start w0
  have H := H.ro0 (Sl v 1 encRow ps) rfl (hv)
  have H := H.ro0 (RowsS 1 encI ps) rfl (hr)
  have hl := hv.len
  have hgl := gr_len ps
  refine g_seq ?_
  -- region 0 law.go:118
  refine g_region ?_
  refine wl_of (op_y (wn rfl) rfl rfl S (y_assign rfl S rfl) fun a S => ?_)
  refine gl_nil ?_
  refine n_then ?_
  refine g_seq ?_
  -- region 1 law.go:119
  refine g_region ?_
  refine wl_of (op_call (wn rfl) rfl rfl S (co_func rfl Try.call11 S rfl) (head_spec _) fun v w hc a S => ?_)
  obtain ⟨rfl, he⟩ := hc
  have H := H.ext he
  refine wl_of (op_y (wn rfl) rfl rfl S (y_assign rfl S rfl) fun a S => ?_)
  refine gl_nil ?_
  refine n_then ?_
  refine g_seq ?_
  refine g_seq ?_
  -- region 2 law.go:120
  refine g_region ?_
  refine wl_of (op_y (wn rfl) rfl rfl S (y_move rfl S rfl) fun a S => ?_)
  refine wl_of (op_call (wn rfl) rfl rfl S (co_func rfl Try.call12 S rfl) (few_spec v ps 50 _ (H.sl v) (H.rwsS ps)) fun v w hc a S => ?_)
  obtain ⟨rfl, he⟩ := hc
  have H := H.ext he
  refine wl_of (op_y (wn rfl) rfl rfl S (y_not rfl S rfl) fun a S => ?_)
  refine wl_of (op_y (wn rfl) rfl rfl S (y_move rfl S rfl) fun a S => ?_)
  refine' wl_or 4 18 rfl S H rfl rfl rfl rfl rfl rfl rfl (fun _ S => (wn rfl)) (fun h1 kk => ?yh1) (fun a w S H => ?_)
  case yh1 =>
    have h1p := h1; try simp only [Option.isNone_some, Option.isNone_none, Option.isSome_some, Option.isSome_none, false_or, or_false, true_and, and_true, decide_eq_true_eq, decide_eq_false_iff_not, Bool.or_eq_true, Bool.and_eq_true, Bool.or_eq_false_iff, Bool.and_eq_false_iff, Bool.not_eq_true', Bool.not_eq_false', bne_iff_ne, beq_iff_eq, beq_eq_false_iff_ne, bne_eq_false_iff_eq, ne_eq, Decidable.not_not, Int.not_lt, Int.not_le, gt_iff_lt, ge_iff_le, Bool.true_eq_false, Bool.false_eq_true, not_true_eq_false, not_false_eq_true] at h1p
    refine wl_of (op_y (wg' 18 rfl rfl S rfl h1 rfl) rfl rfl S (y_move rfl S rfl) fun a S => ?_)
    refine wl_of (op_y (wg' 18 rfl rfl S rfl h1 rfl) rfl rfl S (y_move rfl S rfl) fun a S => ?_)
    refine wl_of (op_call (wg' 18 rfl rfl S rfl h1 rfl) rfl rfl S (co_func rfl Try.call16 S rfl) (rvalid_spec v ps right _ (H.sl v) (H.rwsS ps)) fun v w hc a S => ?_)
    obtain ⟨rfl, he⟩ := hc
    have H := H.ext he
    refine wl_of (op_y (wg' 18 rfl rfl S rfl h1 rfl) rfl rfl S (y_not rfl S rfl) fun a S => ?_)
    refine wl_of (op_y (wn rfl) rfl rfl S (y_or' rfl h1 S rfl rfl) fun a S => ?_)
    exact kk _ _ (S.join 5 23 rfl rfl) H
  refine wl_of (op_y (wn rfl) rfl rfl S (y_move rfl S rfl) fun a S => ?_)
  refine' wl_or 3 24 rfl S H rfl rfl rfl rfl rfl rfl rfl (fun _ S => (wn rfl)) (fun h2 kk => ?yh2) (fun a w S H => ?_)
  case yh2 =>
    have h2p := h2; try simp only [Option.isNone_some, Option.isNone_none, Option.isSome_some, Option.isSome_none, false_or, or_false, true_and, and_true, decide_eq_true_eq, decide_eq_false_iff_not, Bool.or_eq_true, Bool.and_eq_true, Bool.or_eq_false_iff, Bool.and_eq_false_iff, Bool.not_eq_true', Bool.not_eq_false', bne_iff_ne, beq_iff_eq, beq_eq_false_iff_ne, bne_eq_false_iff_eq, ne_eq, Decidable.not_not, Int.not_lt, Int.not_le, gt_iff_lt, ge_iff_le, Bool.true_eq_false, Bool.false_eq_true, not_true_eq_false, not_false_eq_true] at h2p
    refine wl_of (op_y (wg' 24 rfl rfl S rfl h2 rfl) rfl rfl S (y_move rfl S rfl) fun a S => ?_)
    refine wl_of (op_y (wg' 24 rfl rfl S rfl h2 rfl) rfl rfl S (y_lens rfl Try.underlying22 S H rfl) fun a S => ?_)
    refine wl_of (op_y (wg' 24 rfl rfl S rfl h2 rfl) rfl rfl S (y_bin rfl S rfl rfl rfl) fun a S => ?_)
    refine wl_of (op_y (wn rfl) rfl rfl S (y_or' rfl h2 S rfl rfl) fun a S => ?_)
    exact kk _ _ (S.join 4 28 rfl rfl) H
  refine wl_of (op_y (wn rfl) rfl rfl S (y_move rfl S rfl) fun a S => ?_)
  refine' wl_or 2 29 rfl S H rfl rfl rfl rfl rfl rfl rfl (fun _ S => (wn rfl)) (fun h3 kk => ?yh3) (fun a w S H => ?_)
  case yh3 =>
    have h3p := h3; try simp only [Option.isNone_some, Option.isNone_none, Option.isSome_some, Option.isSome_none, false_or, or_false, true_and, and_true, decide_eq_true_eq, decide_eq_false_iff_not, Bool.or_eq_true, Bool.and_eq_true, Bool.or_eq_false_iff, Bool.and_eq_false_iff, Bool.not_eq_true', Bool.not_eq_false', bne_iff_ne, beq_iff_eq, beq_eq_false_iff_ne, bne_eq_false_iff_eq, ne_eq, Decidable.not_not, Int.not_lt, Int.not_le, gt_iff_lt, ge_iff_le, Bool.true_eq_false, Bool.false_eq_true, not_true_eq_false, not_false_eq_true] at h3p
    refine wl_of (op_y (wg' 29 rfl rfl S rfl h3 rfl) rfl rfl S (y_move rfl S rfl) fun a S => ?_)
    refine wl_of (op_y (wg' 29 rfl rfl S rfl h3 rfl) rfl rfl S (y_bin rfl S rfl rfl rfl) fun a S => ?_)
    refine wl_of (op_y (wn rfl) rfl rfl S (y_or' rfl h3 S rfl rfl) fun a S => ?_)
    exact kk _ _ (S.join 3 32 rfl rfl) H
  refine gl_nil ?_
  refine n_then ?_
  have S := ((((((S.nil.cons S 3 rfl).cons S 2 rfl).cons S 1 rfl).cons S 0 rfl).cons S 8 rfl).cons S 9 rfl).cons S 32 rfl
  -- cond 1
  refine c_if S rfl (fun h4 => ?_) (fun h4 => ?_)
  · have h4p := h4; try simp only [Option.isNone_some, Option.isNone_none, Option.isSome_some, Option.isSome_none, false_or, or_false, true_and, and_true, decide_eq_true_eq, decide_eq_false_iff_not, Bool.or_eq_true, Bool.and_eq_true, Bool.or_eq_false_iff, Bool.and_eq_false_iff, Bool.not_eq_true', Bool.not_eq_false', bne_iff_ne, beq_iff_eq, beq_eq_false_iff_ne, bne_eq_false_iff_eq, ne_eq, Decidable.not_not, Int.not_lt, Int.not_le, gt_iff_lt, ge_iff_le, Bool.true_eq_false, Bool.false_eq_true, not_true_eq_false, not_false_eq_true] at h4p
    refine g_seq ?_
    -- region 3 law.go:121
    refine g_region ?_
    refine wl_of (op_y (wn rfl) rfl rfl S (y_move rfl S rfl) fun a S => ?_)
    refine wl_of (op_y (wn rfl) rfl rfl S (y_assign rfl S rfl) fun a S => ?_)
    refine gl_nil ?_
    refine n_then ?_
    refine g_ret ?_
    refine r_then (ret1 rfl S rfl ?_)
    exact ⟨rfl, H.toExt⟩
  · have h4p := h4; try simp only [Option.isNone_some, Option.isNone_none, Option.isSome_some, Option.isSome_none, false_or, or_false, true_and, and_true, decide_eq_true_eq, decide_eq_false_iff_not, Bool.or_eq_true, Bool.and_eq_true, Bool.or_eq_false_iff, Bool.and_eq_false_iff, Bool.not_eq_true', Bool.not_eq_false', bne_iff_ne, beq_iff_eq, beq_eq_false_iff_ne, bne_eq_false_iff_eq, ne_eq, Decidable.not_not, Int.not_lt, Int.not_le, gt_iff_lt, ge_iff_le, Bool.true_eq_false, Bool.false_eq_true, not_true_eq_false, not_false_eq_true] at h4p
    have hvg : validG (gr ps) right = true := h4p.1.1.2
    have hfw := few_parts h4p.1.1.1
    rw [hgl] at hfw
    have hvp := validG_parts hvg
    have hne : ps.length ≠ 0 := by have := h4p.1.2; omega
    have hr0 : right ≠ 0 := h4p.2
    have hsz : sizeN (gotL (gr ps) right) ≤ 50 := by have h1 := sizeN_le (gotL (gr ps) right); have h2 := (match_isM hvg).len; omega
    refine g_skip ?_
    refine n_then ?_
    refine g_seq ?_
    -- region 4 law.go:123
    refine g_region ?_
    refine wl_of (op_y (wn rfl) rfl rfl S (y_move rfl S rfl) fun a S => ?_)
    refine wl_of (op_call (wn rfl) rfl rfl S (co_func rfl Try.call22 S rfl) (copied_spec v ps _ (H.sl v) (H.rwsS ps) (by omega) (fun p hp => by obtain ⟨j, hj, rfl⟩ := List.getElem_of_mem hp; have := hfw.2 j; rw [gr_row ps hj] at this; omega)) fun u35 w hc a S => ?_)
    obtain ⟨qs, hqs, H1⟩ := hc
    have H := H.call2 H1 rfl rfl
    have hql := congrArg List.length hqs
    rw [gr_len, gr_len] at hql
    refine wl_of (op_y (wn rfl) rfl rfl S (y_assign rfl S rfl) fun a S => ?_)
    refine gl_nil ?_
    refine n_then ?_
    refine g_seq ?_
    -- region 5 law.go:124
    refine g_region ?_
    refine wl_of (op_y (wn rfl) rfl rfl S (y_move rfl S rfl) fun a S => ?_)
    refine wl_of (op_y (wn rfl) rfl rfl S (y_conv rfl Try.underlying5 Try.underlying3 S rfl (by omega)) fun a S => ?_)
    refine wl_of (op_y (wn rfl) rfl rfl S (y_move rfl S rfl) fun a S => ?_)
    refine wl_of (op_y (wn rfl) rfl rfl S (y_lens rfl Try.underlying22 S H rfl) fun a S => ?_)
    refine wl_of (op_y (wn rfl) rfl rfl S (y_remn rfl S rfl rfl (by omega) (by omega)) fun a S => ?_)
    have ham := Int.emod_nonneg at_ (show (ps.length : Int) ≠ 0 by omega)
    have ham2 := Int.emod_lt_of_pos at_ (show 0 < (ps.length : Int) by omega)
    have htm := Int.emod_nonneg to_ hr0
    have htm2 := Int.emod_lt_of_pos to_ (show 0 < right by omega)
    obtain ⟨i, hi⟩ : ∃ i : Nat, at_ % (ps.length : Int) = i := ⟨(at_ % (ps.length : Int)).toNat, by omega⟩
    have hiq : i < qs.length := by omega
    rw [hi] at S
    have H := (H.front (RowsA 3 1 encI qs)).rowOut i hiq
    have hv2 := further_valid hvg (i := i) (by omega) (x := to_ % right) ⟨htm, htm2⟩
    have hlw := further_law hvg (i := i) (by omega) (x := to_ % right) ⟨htm, htm2⟩
    have hrl2 : qs[i].2.length ≤ 50 := by rw [gr_at hqs hiq]; have := hfw.2 i; omega
    refine wl_of (op_y (wn rfl) rfl rfl S (y_assign rfl S rfl) fun a S => ?_)
    refine gl_nil ?_
    refine n_then ?_
    have S := ((((((S.nil.cons S 3 rfl).cons S 1 rfl).cons S 0 rfl).cons S 8 rfl).cons S 9 rfl).cons S 10 rfl).cons S 11 rfl
    refine g_seq ?_
    -- region 6 DRAWS law.go:125
    refine region_st (loud := [10, 11, 13]) (tails := [11, 13]) (free := [0, 1]) [0, 1, 2, 3, 4, 5, 6, 7, 8, 9, 10, 11, 12, 13] [] Fmo (by kernel_rfl) (by kernel_rfl) rfl H ?_
    refine m_f rfl rfl (wn rfl) rfl rfl S (fun w H => y_move rfl S rfl) fun a S => ?_
    refine m_f rfl rfl (wn rfl) rfl rfl S (fun w H => y_move rfl S rfl) fun a S => ?_
    refine m_w rfl rfl (wn rfl) rfl rfl S (fun w H => y_move rfl S rfl) fun a S => ?_
    refine m_w rfl rfl (wn rfl) rfl rfl S (fun w H => y_move rfl S rfl) fun a S => ?_
    refine m_w rfl rfl (wn rfl) rfl rfl S (fun w H => y_iaddrn rfl Try.underlying22 Fsiz23 S H rfl rfl (by first | assumption | omega | (simp only [List.length_append, List.length_take, List.length_drop, List.length_replicate, List.length_set, List.length_map, List.length_cons, List.length_nil]; omega))) fun a S => ?_
    refine m_loads _ rfl rfl (wn rfl) rfl rfl S rfl Fsca23 rfl (by first | assumption | omega | (simp only [List.length_append, List.length_take, List.length_drop, List.length_replicate, List.length_set, List.length_map, List.length_cons, List.length_nil]; omega)) rfl fun a S => ?_
    refine m_w rfl rfl (wn rfl) rfl rfl S (fun w H => y_move rfl S rfl) fun a S => ?_
    refine m_w rfl rfl (wn rfl) rfl rfl S (fun w H => y_conv rfl Try.underlying5 Try.underlying3 S rfl (by omega)) fun a S => ?_
    refine m_w rfl rfl (wn rfl) rfl rfl S (fun w H => y_move rfl S rfl) fun a S => ?_
    refine m_w rfl rfl (wn rfl) rfl rfl S (fun w H => y_remn rfl S rfl rfl (by omega) (by omega)) fun a S => ?_
    refine m_l rfl rfl (fun w H => op_buildSlice (wn rfl) rfl rfl rfl Try.underlying23 Finf3 S H (idx := [0]) rfl rfl rfl (z := [.int .i64 0]) (by kernel_rfl) (cs := [_]) rfl fun b51 a w S H => m_next H (List.sublist_cons_self _ _) ?_)
    refine m_l rfl rfl (fun w H => op_append ([to_ % right]) (wn rfl) rfl rfl rfl Try.underlying23 Finf3 rfl rfl S H rfl rfl rfl rfl (by simp) (by simp [encI]) (by simp [encI, Value.oneCell']) (by simp only [List.length_cons, List.length_nil]; omega) (by simp only [List.length_cons, List.length_nil]; omega) fun u52 a w hn52 S H => m_tail H rfl ?_)
    refine m_w rfl rfl (wn rfl) rfl rfl S (fun w H => y_iaddrn rfl Try.underlying22 Fsiz23 S H rfl rfl (by first | assumption | omega | (simp only [List.length_append, List.length_take, List.length_drop, List.length_replicate, List.length_set, List.length_map, List.length_cons, List.length_nil]; omega))) fun a S => ?_
    refine m_l rfl rfl (fun w H => op_store1 _ ((u52, qs[i].2 ++ [to_ % right])) (wn rfl) rfl rfl S H rfl rfl (H.slc _) (H.sl1 _) Fsiz23 (by first | assumption | omega | (simp only [List.length_append, List.length_take, List.length_drop, List.length_replicate, List.length_set, List.length_map, List.length_cons, List.length_nil]; omega)) (by exact rfl) fun a w S H => m_tail H rfl ?_)
    refine m_nil (fun w H => ?_)
    refine n_then ?_
    have S := ((((S.nil.cons S 1 rfl).cons S 0 rfl).cons S 8 rfl).cons S 9 rfl).cons S 10 rfl
    refine g_seq ?_
    -- region 7 law.go:126
    refine g_region ?_
    refine wl_of (op_y (wn rfl) rfl rfl S (y_move rfl S rfl) fun a S => ?_)
    have H := (H.front2 (OSl 3 u52 1 encI (qs[i].2 ++ [to_ % right])) (RowsA 3 1 encI (qs.eraseIdx i))).rowIn hiq
    refine wl_of (op_y (wn rfl) rfl rfl S (y_move rfl S rfl) fun a S => ?_)
    refine wl_of (op_call (wn rfl) rfl rfl S (co_func rfl Try.call23 S rfl) (size_ok v ps right _ (H.sl v) (H.rwsS ps) hvg) fun v w hc a S => ?_)
    obtain ⟨rfl, he⟩ := hc
    have H := H.ext he
    refine wl_of (op_y (wn rfl) rfl rfl S (y_assign rfl S rfl) fun a S => ?_)
    refine gl_nil ?_
    refine n_then ?_
    have S := ((((S.nil.cons S 1 rfl).cons S 8 rfl).cons S 9 rfl).cons S 10 rfl).cons S 12 rfl
    refine g_seq ?_
    -- region 8 law.go:127
    refine g_region ?_
    refine wl_of (op_y (wn rfl) rfl rfl S (y_move rfl S rfl) fun a S => ?_)
    refine wl_of (op_y (wn rfl) rfl rfl S (y_move rfl S rfl) fun a S => ?_)
    refine wl_of (op_call (wn rfl) rfl rfl S (co_func rfl Try.call23 S rfl) (size_ok u35 (qs.set i (u52, qs[i].2 ++ [to_ % right])) right _ (H.sl u35) (H.rws 3 (qs.set i (u52, qs[i].2 ++ [to_ % right]))) (by rw [gr_set, gr_at hqs hiq, hqs]; exact hv2)) fun v w hc a S => ?_)
    obtain ⟨rfl, he⟩ := hc
    have H := H.ext he
    refine wl_of (op_y (wn rfl) rfl rfl S (y_assign rfl S rfl) fun a S => ?_)
    refine gl_nil ?_
    refine n_then ?_
    have S := (((S.nil.cons S 8 rfl).cons S 9 rfl).cons S 12 rfl).cons S 13 rfl
    refine g_seq ?_
    -- region 9 law.go:128
    refine g_region ?_
    refine wl_of (op_y (wn rfl) rfl rfl S (y_move rfl S rfl) fun a S => ?_)
    refine wl_of (op_y (wn rfl) rfl rfl S (y_move rfl S rfl) fun a S => ?_)
    refine wl_of (op_y (wg' 61 rfl rfl S rfl rfl rfl) rfl rfl S (y_move rfl S rfl) fun a S => ?_)
    refine wl_of (op_y (wg' 61 rfl rfl S rfl rfl rfl) rfl rfl S (y_bin rfl S rfl rfl rfl) fun a S => ?_)
    refine wl_of (op_y (wn rfl) rfl rfl S (y_and' rfl rfl S rfl rfl) fun a S => ?_)
    refine wl_of (op_y (wn rfl) rfl rfl S (y_move rfl S rfl) fun a S => ?_)
    refine wl_of (op_y (wg' 65 rfl rfl S rfl (by simp) rfl) rfl rfl S (y_move rfl S rfl) fun a S => ?_)
    refine wl_of (op_y (wg' 65 rfl rfl S rfl (by simp) rfl) rfl rfl S (y_move rfl S rfl) fun a S => ?_)
    refine wl_of (op_y (wg' 65 rfl rfl S rfl (by simp) rfl) rfl rfl S (y_bin rfl S rfl rfl rfl) fun a S => ?_)
    refine wl_of (op_y (wg' 65 rfl rfl S rfl (by simp) rfl) rfl rfl S (y_move rfl S rfl) fun a S => ?_)
    refine' wl_or 4 69 rfl S H rfl rfl rfl rfl rfl rfl rfl (fun _ S => (wg' 65 rfl rfl S rfl (by simp) rfl)) (fun h7 kk => ?yh7) (fun a w S H => ?_)
    case yh7 =>
      have h7p := h7; try simp only [Option.isNone_some, Option.isNone_none, Option.isSome_some, Option.isSome_none, false_or, or_false, true_and, and_true, decide_eq_true_eq, decide_eq_false_iff_not, Bool.or_eq_true, Bool.and_eq_true, Bool.or_eq_false_iff, Bool.and_eq_false_iff, Bool.not_eq_true', Bool.not_eq_false', bne_iff_ne, beq_iff_eq, beq_eq_false_iff_ne, bne_eq_false_iff_eq, ne_eq, Decidable.not_not, Int.not_lt, Int.not_le, gt_iff_lt, ge_iff_le, Bool.true_eq_false, Bool.false_eq_true, not_true_eq_false, not_false_eq_true] at h7p
      refine wl_of (op_y (wg' 69 rfl rfl S rfl h7 rfl) rfl rfl S (y_move rfl S rfl) fun a S => ?_)
      refine wl_of (op_y (wg' 69 rfl rfl S rfl h7 rfl) rfl rfl S (y_move rfl S rfl) fun a S => ?_)
      refine wl_of (op_y (wg' 69 rfl rfl S rfl h7 rfl) rfl rfl S (y_add rfl S rfl rfl (by omega)) fun a S => ?_)
      refine wl_of (op_y (wg' 69 rfl rfl S rfl h7 rfl) rfl rfl S (y_bin rfl S rfl rfl rfl) fun a S => ?_)
      refine wl_of (op_y (wg' 65 rfl rfl S rfl (by simp) rfl) rfl rfl S (y_or' rfl h7 S rfl rfl) fun a S => ?_)
      exact kk _ _ (S.join 5 74 rfl rfl) H
    refine wl_of (op_y (wn rfl) rfl rfl S (y_and' rfl (by simp) S rfl rfl) fun a S => ?_)
    refine wl_of (op_y (wn rfl) rfl rfl S (y_assign rfl S rfl) fun a S => ?_)
    refine gl_nil ?_
    refine n_then ?_
    have S := S.nil.cons S 8 rfl
    refine g_ret ?_
    refine ret1 rfl S rfl ?_
    refine ⟨?_, H.toExt⟩
    rw [gr_set, gr_at hqs hiq, hqs]
    rcases hlw with e | e <;> rw [e] <;> simp

end Go.Proofs.Ytaiohhcjbdjgfaa
