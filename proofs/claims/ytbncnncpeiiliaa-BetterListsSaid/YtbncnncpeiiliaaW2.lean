/- The walks. No condition. -/
import Derived.Test.YtbncnncpeiiliaaChecked
import Derived.Test.YtbncnncpeiiliaaGwRows
import Derived.Test.YtbncnncpeiiliaaFacts
import Derived.Test.YtbncnncpeiiliaaPlain
import Derived.Test.YtbncnncpeiiliaaW1
namespace Go.Proofs.Ytbncnncpeiiliaa
open Go Go.Gw
set_option linter.unusedVariables false
set_option linter.unusedSimpArgs false
/-- foyer/foyerref39.Same -/
theorem same_spec (va vb : Value) (pa pb : List (Value × List Int)) (w0 : World) (ha : IsSl w0 va 1 encRow pa) (hb : IsSl w0 vb 1 encRow pb) (ra : ∀ p ∈ pa, IsSl w0 p.1 1 encI p.2) (rb : ∀ p ∈ pb, IsSl w0 p.1 1 encI p.2) :
    Ret Try.prog 11 #[va, vb] w0 (fun u w => u = .bool (decide (pa.map (·.2) = pb.map (·.2))) ∧ Ext w0 w) := by
  refine ret_of_wp (nt := 53) Try.func11 rfl rfl rfl (fl := [(0, va), (1, vb)]) rfl (fun a S => ?_)
  have H := HSat.start w0
  have H := H.ro0 (Sl va 1 encRow pa) rfl (ha)
  have H := H.ro0 (Sl vb 1 encRow pb) rfl (hb)
  have H := H.ro0 (RowsS 1 encI pa) rfl (ra)
  have H := H.ro0 (RowsS 1 encI pb) rfl (rb)
  have hl1 := ha.len
  refine g_seq ?_
  -- region 0 ref.go:25
  refine g_region ?_
  refine wl_of (op_y (wn rfl) rfl rfl S (y_assign rfl S rfl) fun a S => ?_)
  refine gl_nil ?_
  refine n_then ?_
  refine g_seq ?_
  refine g_seq ?_
  -- region 1 ref.go:26
  refine g_region ?_
  refine wl_of (op_y (wn rfl) rfl rfl S (y_move rfl S rfl) fun a S => ?_)
  refine wl_of (op_y (wn rfl) rfl rfl S (y_lens rfl Try.underlying28 S H rfl) fun a S => ?_)
  refine wl_of (op_y (wn rfl) rfl rfl S (y_move rfl S rfl) fun a S => ?_)
  refine wl_of (op_y (wn rfl) rfl rfl S (y_lens rfl Try.underlying28 S H rfl) fun a S => ?_)
  refine wl_of (op_y (wn rfl) rfl rfl S (y_bin rfl S rfl rfl rfl) fun a S => ?_)
  refine gl_nil ?_
  refine n_then ?_
  have S := (((S.nil.cons S 1 rfl).cons S 0 rfl).cons S 4 rfl).cons S 11 rfl
  -- cond 1
  refine c_if S rfl (fun h1 => ?_) (fun h1 => ?_)
  · have h1p := h1; try simp only [Option.isNone_some, Option.isNone_none, Option.isSome_some, Option.isSome_none, false_or, or_false, true_and, and_true, decide_eq_true_eq, decide_eq_false_iff_not, Bool.or_eq_true, Bool.and_eq_true, Bool.or_eq_false_iff, Bool.and_eq_false_iff, Bool.not_eq_true', Bool.not_eq_false', bne_iff_ne, beq_iff_eq, beq_eq_false_iff_ne, bne_eq_false_iff_eq, ne_eq, Decidable.not_not, Int.not_lt, Int.not_le, gt_iff_lt, ge_iff_le, Bool.true_eq_false, Bool.false_eq_true, not_true_eq_false, not_false_eq_true] at h1p
    have hno : ¬ pa.map (·.2) = pb.map (·.2) := fun e => by have := congrArg List.length e; simp only [List.length_map] at this; simp [this] at h1
    refine g_seq ?_
    -- region 2 ref.go:27
    refine g_region ?_
    refine wl_of (op_y (wn rfl) rfl rfl S (y_assign rfl S rfl) fun a S => ?_)
    refine gl_nil ?_
    refine n_then ?_
    refine g_ret ?_
    refine r_then (ret1 rfl S rfl ?_)
    exact ⟨congrArg Value.bool (decide_eq_false hno).symm, H.toExt⟩
  · have h1p := h1; try simp only [Option.isNone_some, Option.isNone_none, Option.isSome_some, Option.isSome_none, false_or, or_false, true_and, and_true, decide_eq_true_eq, decide_eq_false_iff_not, Bool.or_eq_true, Bool.and_eq_true, Bool.or_eq_false_iff, Bool.and_eq_false_iff, Bool.not_eq_true', Bool.not_eq_false', bne_iff_ne, beq_iff_eq, beq_eq_false_iff_ne, bne_eq_false_iff_eq, ne_eq, Decidable.not_not, Int.not_lt, Int.not_le, gt_iff_lt, ge_iff_le, Bool.true_eq_false, Bool.false_eq_true, not_true_eq_false, not_false_eq_true] at h1p
    have hlen : pa.length = pb.length := by omega
    refine g_skip ?_
    refine n_then ?_
    refine g_seq ?_
    refine g_seq ?_
    -- region 3 ref.go:29
    refine g_region ?_
    refine wl_of (op_y (wn rfl) rfl rfl S (y_assign rfl S rfl) fun a S => ?_)
    refine gl_nil ?_
    refine n_then ?_
    refine g_block ?_
    -- slots written in the loop and forgotten at its head: [4]
    have SU := (S.nil.cons S 1 rfl).cons S 0 rfl
    refine loop_k (X := Nat) SU (fun i => [(5, .int .i64 (i : Int))]) (fun i => i ≤ pa.length ∧ (pa.map (·.2)).take i = (pb.map (·.2)).take i) (fun i => pa.length - i) 0 (S.nil.cons S 5 rfl) H (⟨by omega, rfl⟩) (fun i a w S H hi => ?_)
    simp only [List.cons_append, List.nil_append] at S hi
    obtain ⟨hi, hti⟩ := hi
    refine g_seq ?_
    refine g_seq ?_
    -- region 4 ref.go:29
    refine g_region ?_
    refine wl_of (op_y (wn rfl) rfl rfl S (y_move rfl S rfl) fun a S => ?_)
    refine wl_of (op_y (wn rfl) rfl rfl S (y_move rfl S rfl) fun a S => ?_)
    refine wl_of (op_y (wn rfl) rfl rfl S (y_lens rfl Try.underlying28 S H rfl) fun a S => ?_)
    refine wl_of (op_y (wn rfl) rfl rfl S (y_bin rfl S rfl rfl rfl) fun a S => ?_)
    refine gl_nil ?_
    refine n_then ?_
    -- cond 2
    refine c_if S rfl (fun h2 => ?_) (fun h2 => ?_)
    · have h2p := h2; try simp only [Option.isNone_some, Option.isNone_none, Option.isSome_some, Option.isSome_none, false_or, or_false, true_and, and_true, decide_eq_true_eq, decide_eq_false_iff_not, Bool.or_eq_true, Bool.and_eq_true, Bool.or_eq_false_iff, Bool.and_eq_false_iff, Bool.not_eq_true', Bool.not_eq_false', bne_iff_ne, beq_iff_eq, beq_eq_false_iff_ne, bne_eq_false_iff_eq, ne_eq, Decidable.not_not, Int.not_lt, Int.not_le, gt_iff_lt, ge_iff_le, Bool.true_eq_false, Bool.false_eq_true, not_true_eq_false, not_false_eq_true] at h2p
      refine g_skip ?_
      refine n_then ?_
      refine g_seq ?_
      refine g_block ?_
      refine g_seq ?_
      refine g_seq ?_
      -- region 6 DRAWS ref.go:30
      refine region_st (loud := []) (tails := []) (free := []) [0, 1, 2, 3, 4, 5, 6, 7, 8, 9, 10] [] Fmo (by kernel_rfl) (by kernel_rfl) rfl H ?_
      refine m_w rfl rfl (wn rfl) rfl rfl S (fun w H => y_move rfl S rfl) fun a S => ?_
      refine m_w rfl rfl (wn rfl) rfl rfl S (fun w H => y_move rfl S rfl) fun a S => ?_
      refine m_w rfl rfl (wn rfl) rfl rfl S (fun w H => y_iaddrn rfl Try.underlying28 Fsiz32 S H rfl rfl (by first | assumption | omega | (simp only [List.length_append, List.length_take, List.length_drop, List.length_replicate, List.length_set, List.length_map, List.length_cons, List.length_nil]; omega))) fun a S => ?_
      refine m_loads _ rfl rfl (wn rfl) rfl rfl S rfl Fsca32 rfl (by first | assumption | omega | (simp only [List.length_append, List.length_take, List.length_drop, List.length_replicate, List.length_set, List.length_map, List.length_cons, List.length_nil]; omega)) rfl fun a S => ?_
      refine m_w rfl rfl (wn rfl) rfl rfl S (fun w H => y_lens rfl Try.underlying32 S H rfl) fun a S => ?_
      refine m_w rfl rfl (wn rfl) rfl rfl S (fun w H => y_move rfl S rfl) fun a S => ?_
      refine m_w rfl rfl (wn rfl) rfl rfl S (fun w H => y_move rfl S rfl) fun a S => ?_
      refine m_w rfl rfl (wn rfl) rfl rfl S (fun w H => y_iaddrn rfl Try.underlying28 Fsiz32 S H rfl rfl (by first | assumption | omega | (simp only [List.length_append, List.length_take, List.length_drop, List.length_replicate, List.length_set, List.length_map, List.length_cons, List.length_nil]; omega))) fun a S => ?_
      refine m_loads _ rfl rfl (wn rfl) rfl rfl S rfl Fsca32 rfl (by first | assumption | omega | (simp only [List.length_append, List.length_take, List.length_drop, List.length_replicate, List.length_set, List.length_map, List.length_cons, List.length_nil]; omega)) rfl fun a S => ?_
      refine m_w rfl rfl (wn rfl) rfl rfl S (fun w H => y_lens rfl Try.underlying32 S H rfl) fun a S => ?_
      refine m_w rfl rfl (wn rfl) rfl rfl S (fun w H => y_bin rfl S rfl rfl rfl) fun a S => ?_
      refine m_nil (fun w H => ?_)
      refine n_then ?_
      -- cond 3
      refine c_if S rfl (fun h3 => ?_) (fun h3 => ?_)
      · have h3p := h3; try simp only [Option.isNone_some, Option.isNone_none, Option.isSome_some, Option.isSome_none, false_or, or_false, true_and, and_true, decide_eq_true_eq, decide_eq_false_iff_not, Bool.or_eq_true, Bool.and_eq_true, Bool.or_eq_false_iff, Bool.and_eq_false_iff, Bool.not_eq_true', Bool.not_eq_false', bne_iff_ne, beq_iff_eq, beq_eq_false_iff_ne, bne_eq_false_iff_eq, ne_eq, Decidable.not_not, Int.not_lt, Int.not_le, gt_iff_lt, ge_iff_le, Bool.true_eq_false, Bool.false_eq_true, not_true_eq_false, not_false_eq_true] at h3p
        have hno : ¬ pa.map (·.2) = pb.map (·.2) := fun e => by have := congrArg (fun l => (l[i]?).map List.length) e; simp [show i < pa.length by omega, show i < pb.length by omega] at this; simp [this] at h3
        refine g_seq ?_
        -- region 7 ref.go:31
        refine g_region ?_
        refine wl_of (op_y (wn rfl) rfl rfl S (y_assign rfl S rfl) fun a S => ?_)
        refine gl_nil ?_
        refine n_then ?_
        refine g_ret ?_
        refine r_then (r_block (r_then (r_then (r_block (r_then (ret1 rfl S rfl ?_))))))
        exact ⟨congrArg Value.bool (decide_eq_false hno).symm, H.toExt⟩
      · have h3p := h3; try simp only [Option.isNone_some, Option.isNone_none, Option.isSome_some, Option.isSome_none, false_or, or_false, true_and, and_true, decide_eq_true_eq, decide_eq_false_iff_not, Bool.or_eq_true, Bool.and_eq_true, Bool.or_eq_false_iff, Bool.and_eq_false_iff, Bool.not_eq_true', Bool.not_eq_false', bne_iff_ne, beq_iff_eq, beq_eq_false_iff_ne, bne_eq_false_iff_eq, ne_eq, Decidable.not_not, Int.not_lt, Int.not_le, gt_iff_lt, ge_iff_le, Bool.true_eq_false, Bool.false_eq_true, not_true_eq_false, not_false_eq_true] at h3p
        have hle : pa[i].2.length = pb[i].2.length := by omega
        have hll := (ra _ (List.getElem_mem (show i < pa.length by omega))).len
        refine g_skip ?_
        refine n_then ?_
        refine g_seq ?_
        -- region 8 ref.go:33
        refine g_region ?_
        refine wl_of (op_y (wn rfl) rfl rfl S (y_assign rfl S rfl) fun a S => ?_)
        refine gl_nil ?_
        refine n_then ?_
        refine g_block ?_
        have SU := (((((((((((((((((S.nil.cons S 1 rfl).cons S 0 rfl).cons S 5 rfl).cons S 12 rfl).cons S 13 rfl).cons S 14 rfl).cons S 15 rfl).cons S 18 rfl).cons S 19 rfl).cons S 20 rfl).cons S 21 rfl).cons S 22 rfl).cons S 23 rfl).cons S 24 rfl).cons S 25 rfl).cons S 26 rfl).cons S 27 rfl).cons S 28 rfl
        refine loop_k (X := Nat) SU (fun j => [(6, .int .i64 (j : Int))]) (fun j => j ≤ pa[i].2.length ∧ pa[i].2.take j = pb[i].2.take j) (fun j => pa[i].2.length - j) 0 (S.nil.cons S 6 rfl) H (⟨by omega, rfl⟩) (fun j a w S H hi => ?_)
        simp only [List.cons_append, List.nil_append] at S hi
        obtain ⟨hj, htj⟩ := hi
        refine g_seq ?_
        refine g_seq ?_
        -- region 9 ref.go:33
        refine g_region ?_
        refine wl_of (op_y (wn rfl) rfl rfl S (y_move rfl S rfl) fun a S => ?_)
        refine wl_of (op_y (wn rfl) rfl rfl S (y_move rfl S rfl) fun a S => ?_)
        refine wl_of (op_y (wn rfl) rfl rfl S (y_move rfl S rfl) fun a S => ?_)
        refine wl_of (op_y (wn rfl) rfl rfl S (y_iaddrn rfl Try.underlying28 Fsiz32 S H rfl rfl (by first | assumption | omega | (simp only [List.length_append, List.length_take, List.length_drop, List.length_replicate, List.length_set, List.length_map, List.length_cons, List.length_nil]; omega))) fun a S => ?_)
        refine wl_of (op_y (wn rfl) rfl rfl S (y_loads _ rfl Fsca32 S H rfl (by first | assumption | omega | (simp only [List.length_append, List.length_take, List.length_drop, List.length_replicate, List.length_set, List.length_map, List.length_cons, List.length_nil]; omega)) rfl) fun a S => ?_)
        refine wl_of (op_y (wn rfl) rfl rfl S (y_lens rfl Try.underlying32 S H rfl) fun a S => ?_)
        refine wl_of (op_y (wn rfl) rfl rfl S (y_bin rfl S rfl rfl rfl) fun a S => ?_)
        refine gl_nil ?_
        refine n_then ?_
        -- cond 4
        refine c_if S rfl (fun h4 => ?_) (fun h4 => ?_)
        · have h4p := h4; try simp only [Option.isNone_some, Option.isNone_none, Option.isSome_some, Option.isSome_none, false_or, or_false, true_and, and_true, decide_eq_true_eq, decide_eq_false_iff_not, Bool.or_eq_true, Bool.and_eq_true, Bool.or_eq_false_iff, Bool.and_eq_false_iff, Bool.not_eq_true', Bool.not_eq_false', bne_iff_ne, beq_iff_eq, beq_eq_false_iff_ne, bne_eq_false_iff_eq, ne_eq, Decidable.not_not, Int.not_lt, Int.not_le, gt_iff_lt, ge_iff_le, Bool.true_eq_false, Bool.false_eq_true, not_true_eq_false, not_false_eq_true] at h4p
          refine g_skip ?_
          refine n_then ?_
          refine g_seq ?_
          refine g_block ?_
          refine g_seq ?_
          -- region 11 DRAWS ref.go:34
          refine region_st (loud := []) (tails := []) (free := []) [0, 1, 2, 3, 4, 5, 6, 7, 8, 9, 10, 11, 12, 13, 14] [] Fmo (by kernel_rfl) (by kernel_rfl) rfl H ?_
          refine m_w rfl rfl (wn rfl) rfl rfl S (fun w H => y_move rfl S rfl) fun a S => ?_
          refine m_w rfl rfl (wn rfl) rfl rfl S (fun w H => y_move rfl S rfl) fun a S => ?_
          refine m_w rfl rfl (wn rfl) rfl rfl S (fun w H => y_iaddrn rfl Try.underlying28 Fsiz32 S H rfl rfl (by first | assumption | omega | (simp only [List.length_append, List.length_take, List.length_drop, List.length_replicate, List.length_set, List.length_map, List.length_cons, List.length_nil]; omega))) fun a S => ?_
          refine m_loads _ rfl rfl (wn rfl) rfl rfl S rfl Fsca32 rfl (by first | assumption | omega | (simp only [List.length_append, List.length_take, List.length_drop, List.length_replicate, List.length_set, List.length_map, List.length_cons, List.length_nil]; omega)) rfl fun a S => ?_
          refine m_w rfl rfl (wn rfl) rfl rfl S (fun w H => y_move rfl S rfl) fun a S => ?_
          refine m_w rfl rfl (wn rfl) rfl rfl S (fun w H => y_iaddrn rfl Try.underlying32 Fsiz3 S H rfl rfl (by first | assumption | omega | (simp only [List.length_append, List.length_take, List.length_drop, List.length_replicate, List.length_set, List.length_map, List.length_cons, List.length_nil]; omega))) fun a S => ?_
          refine m_loads _ rfl rfl (wn rfl) rfl rfl S rfl Fsca3 rfl (by first | assumption | omega | (simp only [List.length_append, List.length_take, List.length_drop, List.length_replicate, List.length_set, List.length_map, List.length_cons, List.length_nil]; omega)) rfl fun a S => ?_
          refine m_w rfl rfl (wn rfl) rfl rfl S (fun w H => y_move rfl S rfl) fun a S => ?_
          refine m_w rfl rfl (wn rfl) rfl rfl S (fun w H => y_move rfl S rfl) fun a S => ?_
          refine m_w rfl rfl (wn rfl) rfl rfl S (fun w H => y_iaddrn rfl Try.underlying28 Fsiz32 S H rfl rfl (by first | assumption | omega | (simp only [List.length_append, List.length_take, List.length_drop, List.length_replicate, List.length_set, List.length_map, List.length_cons, List.length_nil]; omega))) fun a S => ?_
          refine m_loads _ rfl rfl (wn rfl) rfl rfl S rfl Fsca32 rfl (by first | assumption | omega | (simp only [List.length_append, List.length_take, List.length_drop, List.length_replicate, List.length_set, List.length_map, List.length_cons, List.length_nil]; omega)) rfl fun a S => ?_
          refine m_w rfl rfl (wn rfl) rfl rfl S (fun w H => y_move rfl S rfl) fun a S => ?_
          refine m_w rfl rfl (wn rfl) rfl rfl S (fun w H => y_iaddrn rfl Try.underlying32 Fsiz3 S H rfl rfl (by first | assumption | omega | (simp only [List.length_append, List.length_take, List.length_drop, List.length_replicate, List.length_set, List.length_map, List.length_cons, List.length_nil]; omega))) fun a S => ?_
          refine m_loads _ rfl rfl (wn rfl) rfl rfl S rfl Fsca3 rfl (by first | assumption | omega | (simp only [List.length_append, List.length_take, List.length_drop, List.length_replicate, List.length_set, List.length_map, List.length_cons, List.length_nil]; omega)) rfl fun a S => ?_
          refine m_w rfl rfl (wn rfl) rfl rfl S (fun w H => y_bin rfl S rfl rfl rfl) fun a S => ?_
          refine m_nil (fun w H => ?_)
          refine n_then ?_
          -- cond 5
          refine c_if S rfl (fun h5 => ?_) (fun h5 => ?_)
          · have h5p := h5; try simp only [Option.isNone_some, Option.isNone_none, Option.isSome_some, Option.isSome_none, false_or, or_false, true_and, and_true, decide_eq_true_eq, decide_eq_false_iff_not, Bool.or_eq_true, Bool.and_eq_true, Bool.or_eq_false_iff, Bool.and_eq_false_iff, Bool.not_eq_true', Bool.not_eq_false', bne_iff_ne, beq_iff_eq, beq_eq_false_iff_ne, bne_eq_false_iff_eq, ne_eq, Decidable.not_not, Int.not_lt, Int.not_le, gt_iff_lt, ge_iff_le, Bool.true_eq_false, Bool.false_eq_true, not_true_eq_false, not_false_eq_true] at h5p
            have hno : ¬ pa.map (·.2) = pb.map (·.2) := fun e => by have := congrArg (fun l => (l[i]?).bind (fun r => r[j]?)) e; simp [show i < pa.length by omega, show i < pb.length by omega, show j < pa[i].2.length by omega, show j < pb[i].2.length by omega] at this; simp [this] at h5
            refine g_seq ?_
            -- region 12 ref.go:35
            refine g_region ?_
            refine wl_of (op_y (wn rfl) rfl rfl S (y_assign rfl S rfl) fun a S => ?_)
            refine gl_nil ?_
            refine n_then ?_
            refine g_ret ?_
            refine r_block (r_then (r_then (r_block (r_block (r_then (r_then (r_block (r_then (ret1 rfl S rfl ?_)))))))))
            exact ⟨congrArg Value.bool (decide_eq_false hno).symm, H.toExt⟩
          · have h5p := h5; try simp only [Option.isNone_some, Option.isNone_none, Option.isSome_some, Option.isSome_none, false_or, or_false, true_and, and_true, decide_eq_true_eq, decide_eq_false_iff_not, Bool.or_eq_true, Bool.and_eq_true, Bool.or_eq_false_iff, Bool.and_eq_false_iff, Bool.not_eq_true', Bool.not_eq_false', bne_iff_ne, beq_iff_eq, beq_eq_false_iff_ne, bne_eq_false_iff_eq, ne_eq, Decidable.not_not, Int.not_lt, Int.not_le, gt_iff_lt, ge_iff_le, Bool.true_eq_false, Bool.false_eq_true, not_true_eq_false, not_false_eq_true] at h5p
            have heq : pa[i].2[j] = pb[i].2[j] := by simpa using h5
            refine g_skip ?_
            refine n_block ?_
            refine n_then ?_
            -- region 10 ref.go:33
            refine g_region ?_
            refine wl_of (op_y (wn rfl) rfl rfl S (y_move rfl S rfl) fun a S => ?_)
            refine wl_of (op_y (wn rfl) rfl rfl S (y_add rfl S rfl rfl (by omega)) fun a S => ?_)
            refine wl_of (op_y (wn rfl) rfl rfl S (y_assign rfl S rfl) fun a S => ?_)
            refine gl_nil ?_
            refine n_then ?_
            refine ⟨j + 1, S.nil.cons S 6 rfl, (((((((((((((((((S.nil.cons S 1 rfl).cons S 0 rfl).cons S 5 rfl).cons S 12 rfl).cons S 13 rfl).cons S 14 rfl).cons S 15 rfl).cons S 18 rfl).cons S 19 rfl).cons S 20 rfl).cons S 21 rfl).cons S 22 rfl).cons S 23 rfl).cons S 24 rfl).cons S 25 rfl).cons S 26 rfl).cons S 27 rfl).cons S 28 rfl, H, ?_, ?_⟩
            · exact ⟨by omega, by rw [List.take_succ_eq_append_getElem (by omega), List.take_succ_eq_append_getElem (by omega), htj, heq]⟩
            · omega
        · have h4p := h4; try simp only [Option.isNone_some, Option.isNone_none, Option.isSome_some, Option.isSome_none, false_or, or_false, true_and, and_true, decide_eq_true_eq, decide_eq_false_iff_not, Bool.or_eq_true, Bool.and_eq_true, Bool.or_eq_false_iff, Bool.and_eq_false_iff, Bool.not_eq_true', Bool.not_eq_false', bne_iff_ne, beq_iff_eq, beq_eq_false_iff_ne, bne_eq_false_iff_eq, ne_eq, Decidable.not_not, Int.not_lt, Int.not_le, gt_iff_lt, ge_iff_le, Bool.true_eq_false, Bool.false_eq_true, not_true_eq_false, not_false_eq_true] at h4p
          have hrow : pa[i].2 = pb[i].2 := by
            have e : j = pa[i].2.length := by omega
            rw [e, List.take_length, List.take_of_length_le (by omega)] at htj; exact htj
          refine g_exit ?_
          refine x_then (x_then (x_eq ?_))
          refine n_block ?_
          refine n_then ?_
          -- region 5 ref.go:29
          refine g_region ?_
          refine wl_of (op_y (wn rfl) rfl rfl S (y_move rfl S rfl) fun a S => ?_)
          refine wl_of (op_y (wn rfl) rfl rfl S (y_add rfl S rfl rfl (by omega)) fun a S => ?_)
          refine wl_of (op_y (wn rfl) rfl rfl S (y_assign rfl S rfl) fun a S => ?_)
          refine gl_nil ?_
          refine n_then ?_
          refine ⟨i + 1, S.nil.cons S 5 rfl, (S.nil.cons S 1 rfl).cons S 0 rfl, H, ?_, ?_⟩
          · exact ⟨by omega, by rw [List.take_succ_eq_append_getElem (by simp; omega), List.take_succ_eq_append_getElem (by simp; omega), hti]; simp only [List.getElem_map]; rw [hrow]⟩
          · omega
    · have h2p := h2; try simp only [Option.isNone_some, Option.isNone_none, Option.isSome_some, Option.isSome_none, false_or, or_false, true_and, and_true, decide_eq_true_eq, decide_eq_false_iff_not, Bool.or_eq_true, Bool.and_eq_true, Bool.or_eq_false_iff, Bool.and_eq_false_iff, Bool.not_eq_true', Bool.not_eq_false', bne_iff_ne, beq_iff_eq, beq_eq_false_iff_ne, bne_eq_false_iff_eq, ne_eq, Decidable.not_not, Int.not_lt, Int.not_le, gt_iff_lt, ge_iff_le, Bool.true_eq_false, Bool.false_eq_true, not_true_eq_false, not_false_eq_true] at h2p
      refine g_exit ?_
      refine x_then (x_then (x_eq ?_))
      refine n_then ?_
      have S := S.nil
      refine g_seq ?_
      -- region 13 ref.go:39
      refine g_region ?_
      refine wl_of (op_y (wn rfl) rfl rfl S (y_assign rfl S rfl) fun a S => ?_)
      refine gl_nil ?_
      refine n_then ?_
      refine g_ret ?_
      refine ret1 rfl S rfl ?_
      obtain rfl : i = pa.length := by omega
      exact ⟨congrArg Value.bool (decide_eq_true (by rw [List.take_of_length_le (by simp), List.take_of_length_le (by simp; omega)] at hti; exact hti)).symm, H.toExt⟩
set_option maxHeartbeats 1000000 in
/-- foyer/foyerref39.Edges -/
theorem refEdges_spec (v1 v2 : Value) (old next : List Pl) (w0 : World) (hv1 : IsSl w0 v1 9 Pl.enc old) (hv2 : IsSl w0 v2 9 Pl.enc next) (hl1 : old.length ≤ 1000) (hl2 : next.length ≤ 1000) :
    Ret Try.prog 13 #[v1, v2] w0 (fun u w => ∃ ps : List (Value × List Int), ps.map (·.2) = edgesL old next ∧ HSat No w0 [OSl 32 u 1 encRow ps, RowsA 3 1 encI ps] w) := by
  refine ret_of_wp (nt := 43) Try.func13 rfl rfl rfl (fl := [(0, v1), (1, v2)]) rfl (fun a S => ?_)
  have H := HSat.start w0
  have H := H.ro0 (Sl v1 9 Pl.enc old) rfl (hv1)
  have H := H.ro0 (Sl v2 9 Pl.enc next) rfl (hv2)
  refine g_seq ?_
  -- region 0 ref.go:12
  refine g_region ?_
  refine wl_of (op_y (wn rfl) rfl rfl S (y_assign rfl S rfl) fun a S => ?_)
  refine gl_nil ?_
  refine n_then ?_
  refine g_seq ?_
  -- region 1 ref.go:13
  refine g_region ?_
  refine wl_of (op_y (wn rfl) rfl rfl S (y_move rfl S rfl) fun a S => ?_)
  refine wl_of (op_y (wn rfl) rfl rfl S (y_lens rfl Try.underlying22 S H rfl) fun a S => ?_)
  refine wl_of (op_make (encRow (α := Int)) ((Value.slice none 0 0, [])) (wn rfl) rfl rfl rfl Try.underlying28 Finf32 rfl rfl S H rfl rfl rfl (by omega) (by omega) fun b10 a w S H => ?_)
  have H := (H.rowsNil 3 1 encI old.length).take [OSl 32 (.slice (some ⟨b10, 0, none⟩) old.length old.length) 1 encRow (List.replicate old.length (Value.slice none 0 0, ([] : List Int))), RowsA 3 1 encI (List.replicate old.length (Value.slice none 0 0, ([] : List Int))), Sl v2 9 Pl.enc next, Sl v1 9 Pl.enc old]
  refine wl_of (op_y (wn rfl) rfl rfl S (y_assign rfl S rfl) fun a S => ?_)
  refine gl_nil ?_
  refine n_then ?_
  refine g_seq ?_
  refine g_seq ?_
  -- region 2 ref.go:14
  refine g_region ?_
  refine wl_of (op_y (wn rfl) rfl rfl S (y_assign rfl S rfl) fun a S => ?_)
  refine gl_nil ?_
  refine n_then ?_
  refine g_block ?_
  have SU := (((S.nil.cons S 1 rfl).cons S 0 rfl).cons S 4 rfl).cons S 5 rfl
  refine loopW (X := Nat) SU (fun i => [(6, .int .i64 (i : Int))]) (fun i w => i ≤ old.length ∧ ∃ ps : List (Value × List Int), (i < old.length → ps.map (·.2) = rowsAt old next i []) ∧ (i = old.length → ps.map (·.2) = edgesL old next) ∧ ps.length = old.length ∧ HSat No w0 [OSl 32 (.slice (some ⟨b10, 0, none⟩) old.length old.length) 1 encRow ps, RowsA 3 1 encI ps, Sl v2 9 Pl.enc next, Sl v1 9 Pl.enc old] w) (fun i => old.length - i) 0 (S.nil.cons S 6 rfl) (⟨by omega, (List.replicate old.length (Value.slice none 0 0, ([] : List Int))), fun h => by rw [List.map_replicate, rowsAt_start _ _ (List.length_pos_iff.1 h)], fun h => by rw [List.length_eq_zero_iff.1 h.symm]; rfl, by simp, H⟩) (fun i a w S hW => ?_)
  simp only [List.cons_append, List.nil_append] at S
  obtain ⟨hi, ps, hp1, hp2, hpl, H⟩ := hW
  refine g_seq ?_
  refine g_seq ?_
  -- region 3 ref.go:14
  refine g_region ?_
  refine wl_of (op_y (wn rfl) rfl rfl S (y_move rfl S rfl) fun a S => ?_)
  refine wl_of (op_y (wn rfl) rfl rfl S (y_move rfl S rfl) fun a S => ?_)
  refine wl_of (op_y (wn rfl) rfl rfl S (y_lens rfl Try.underlying22 S H rfl) fun a S => ?_)
  refine wl_of (op_y (wn rfl) rfl rfl S (y_bin rfl S rfl rfl rfl) fun a S => ?_)
  refine gl_nil ?_
  refine n_then ?_
  -- cond 1
  refine c_if S rfl (fun h1 => ?_) (fun h1 => ?_)
  · have h1p := h1; try simp only [Option.isNone_some, Option.isNone_none, Option.isSome_some, Option.isSome_none, false_or, or_false, true_and, and_true, decide_eq_true_eq, decide_eq_false_iff_not, Bool.or_eq_true, Bool.and_eq_true, Bool.or_eq_false_iff, Bool.and_eq_false_iff, Bool.not_eq_true', Bool.not_eq_false', bne_iff_ne, beq_iff_eq, beq_eq_false_iff_ne, bne_eq_false_iff_eq, ne_eq, Decidable.not_not, Int.not_lt, Int.not_le, gt_iff_lt, ge_iff_le, Bool.true_eq_false, Bool.false_eq_true, not_true_eq_false, not_false_eq_true] at h1p
    have hps0 := hp1 (by omega)
    refine g_skip ?_
    refine n_then ?_
    refine g_seq ?_
    refine g_block ?_
    refine g_seq ?_
    -- region 5 ref.go:15
    refine g_region ?_
    refine wl_of (op_y (wn rfl) rfl rfl S (y_assign rfl S rfl) fun a S => ?_)
    refine gl_nil ?_
    refine n_then ?_
    refine g_block ?_
    have SU := ((((((((S.nil.cons S 1 rfl).cons S 0 rfl).cons S 4 rfl).cons S 5 rfl).cons S 6 rfl).cons S 11 rfl).cons S 12 rfl).cons S 13 rfl).cons S 14 rfl
    refine loopW (X := Nat) SU (fun k => [(7, .int .i64 (k : Int))]) (fun k w => k ≤ next.length ∧ ∃ ps : List (Value × List Int), ps.map (·.2) = rowsAt old next i (fits old[i] (next.take k) 0) ∧ ps.length = old.length ∧ HSat No w0 [OSl 32 (.slice (some ⟨b10, 0, none⟩) old.length old.length) 1 encRow ps, RowsA 3 1 encI ps, Sl v2 9 Pl.enc next, Sl v1 9 Pl.enc old] w) (fun k => next.length - k) 0 (S.nil.cons S 7 rfl) (⟨by omega, ps, hps0, hpl, H⟩) (fun k a w S hW => ?_)
    simp only [List.cons_append, List.nil_append] at S
    obtain ⟨hk, ps, hps, hpl, H⟩ := hW
    refine g_seq ?_
    refine g_seq ?_
    -- region 6 ref.go:15
    refine g_region ?_
    refine wl_of (op_y (wn rfl) rfl rfl S (y_move rfl S rfl) fun a S => ?_)
    refine wl_of (op_y (wn rfl) rfl rfl S (y_move rfl S rfl) fun a S => ?_)
    refine wl_of (op_y (wn rfl) rfl rfl S (y_lens rfl Try.underlying22 S H rfl) fun a S => ?_)
    refine wl_of (op_y (wn rfl) rfl rfl S (y_bin rfl S rfl rfl rfl) fun a S => ?_)
    refine gl_nil ?_
    refine n_then ?_
    -- cond 2
    refine c_if S rfl (fun h2 => ?_) (fun h2 => ?_)
    · have h2p := h2; try simp only [Option.isNone_some, Option.isNone_none, Option.isSome_some, Option.isSome_none, false_or, or_false, true_and, and_true, decide_eq_true_eq, decide_eq_false_iff_not, Bool.or_eq_true, Bool.and_eq_true, Bool.or_eq_false_iff, Bool.and_eq_false_iff, Bool.not_eq_true', Bool.not_eq_false', bne_iff_ne, beq_iff_eq, beq_eq_false_iff_ne, bne_eq_false_iff_eq, ne_eq, Decidable.not_not, Int.not_lt, Int.not_le, gt_iff_lt, ge_iff_le, Bool.true_eq_false, Bool.false_eq_true, not_true_eq_false, not_false_eq_true] at h2p
      refine g_skip ?_
      refine n_then ?_
      refine g_seq ?_
      refine g_block ?_
      refine g_seq ?_
      -- region 8 DRAWS ref.go:16
      refine region_st (loud := []) (tails := []) (free := []) [0, 1, 2, 3, 4, 5, 6, 7, 8] [] Fmo (by kernel_rfl) (by kernel_rfl) rfl H ?_
      refine m_w rfl rfl (wn rfl) rfl rfl S (fun w H => y_move rfl S rfl) fun a S => ?_
      refine m_w rfl rfl (wn rfl) rfl rfl S (fun w H => y_move rfl S rfl) fun a S => ?_
      refine m_w rfl rfl (wn rfl) rfl rfl S (fun w H => y_iaddrn rfl Try.underlying22 Fsiz26 S H rfl rfl (by first | assumption | omega | (simp only [List.length_append, List.length_take, List.length_drop, List.length_replicate, List.length_set, List.length_map, List.length_cons, List.length_nil]; omega))) fun a S => ?_
      refine m_loadsa _ rfl rfl (wn rfl) rfl rfl S rfl rfl (by exact Fagg26) (by first | assumption | omega | (simp only [List.length_append, List.length_take, List.length_drop, List.length_replicate, List.length_set, List.length_map, List.length_cons, List.length_nil]; omega)) fun a S => ?_
      refine m_w rfl rfl (wn rfl) rfl rfl S (fun w H => y_move rfl S rfl) fun a S => ?_
      refine m_w rfl rfl (wn rfl) rfl rfl S (fun w H => y_move rfl S rfl) fun a S => ?_
      refine m_w rfl rfl (wn rfl) rfl rfl S (fun w H => y_iaddrn rfl Try.underlying22 Fsiz26 S H rfl rfl (by first | assumption | omega | (simp only [List.length_append, List.length_take, List.length_drop, List.length_replicate, List.length_set, List.length_map, List.length_cons, List.length_nil]; omega))) fun a S => ?_
      refine m_loadsa _ rfl rfl (wn rfl) rfl rfl S rfl rfl (by exact Fagg26) (by first | assumption | omega | (simp only [List.length_append, List.length_take, List.length_drop, List.length_replicate, List.length_set, List.length_map, List.length_cons, List.length_nil]; omega)) fun a S => ?_
      refine m_c rfl rfl (wn rfl) rfl rfl S (fun w => co_func rfl Try.call10 S rfl) (fun w H => refAtLeast_spec _ _ _) fun a S => ?_
      refine m_nil (fun w H => ?_)
      refine n_then ?_
      -- cond 3 (both ways go on)
      refine c_if S rfl (fun h3 => ?_) (fun h3 => ?_)
      · have h3p := h3; try simp only [Option.isNone_some, Option.isNone_none, Option.isSome_some, Option.isSome_none, false_or, or_false, true_and, and_true, decide_eq_true_eq, decide_eq_false_iff_not, Bool.or_eq_true, Bool.and_eq_true, Bool.or_eq_false_iff, Bool.and_eq_false_iff, Bool.not_eq_true', Bool.not_eq_false', bne_iff_ne, beq_iff_eq, beq_eq_false_iff_ne, bne_eq_false_iff_eq, ne_eq, Decidable.not_not, Int.not_lt, Int.not_le, gt_iff_lt, ge_iff_le, Bool.true_eq_false, Bool.false_eq_true, not_true_eq_false, not_false_eq_true] at h3p
        have hrl : ps[i].2 = fits old[i] (next.take k) 0 := by
          have e := rowsAt_get old next i (fits old[i] (next.take k) 0) (by omega)
          rw [← e]; simp only [← hps, List.getElem_map]
        have hfl := fits_len old[i] (next.take k) 0
        have htl : (next.take k).length ≤ k := List.length_take_le _ _
        have hrl2 := congrArg List.length hrl
        have hir : i < ps.length := by omega
        have H := (H.front (RowsA 3 1 encI ps)).rowOut i hir
        -- region 9 ref.go:17
        refine g_region ?_
        refine wl_of (op_y (wn rfl) rfl rfl S (y_move rfl S rfl) fun a S => ?_)
        refine wl_of (op_y (wn rfl) rfl rfl S (y_move rfl S rfl) fun a S => ?_)
        refine wl_of (op_y (wn rfl) rfl rfl S (y_move rfl S rfl) fun a S => ?_)
        refine wl_of (op_y (wn rfl) rfl rfl S (y_move rfl S rfl) fun a S => ?_)
        refine wl_of (op_y (wn rfl) rfl rfl S (y_iaddrn rfl Try.underlying28 Fsiz32 S H rfl rfl (by first | assumption | omega | (simp only [List.length_append, List.length_take, List.length_drop, List.length_replicate, List.length_set, List.length_map, List.length_cons, List.length_nil]; omega))) fun a S => ?_)
        refine wl_of (op_y (wn rfl) rfl rfl S (y_loads _ rfl Fsca32 S H rfl (by first | assumption | omega | (simp only [List.length_append, List.length_take, List.length_drop, List.length_replicate, List.length_set, List.length_map, List.length_cons, List.length_nil]; omega)) rfl) fun a S => ?_)
        refine wl_of (op_y (wn rfl) rfl rfl S (y_move rfl S rfl) fun a S => ?_)
        refine wl_of (op_buildSlice (wn rfl) rfl rfl rfl Try.underlying32 Finf3 S H (idx := [0]) rfl rfl rfl (z := [.int .i64 0]) (by kernel_rfl) (cs := [_]) rfl fun b39 a w S H => ?_)
        refine wl_of (op_append ([(k : Int)]) (wn rfl) rfl rfl rfl Try.underlying32 Finf3 rfl rfl S H rfl rfl rfl rfl (by simp) (by simp [encI]) (by simp [encI, Value.oneCell']) (by simp only [List.length_cons, List.length_nil]; omega) (by simp only [List.length_cons, List.length_nil]; omega) fun u40 a w hn40 S H => ?_)
        refine wl_of (op_y (wn rfl) rfl rfl S (y_iaddrn rfl Try.underlying28 Fsiz32 S H rfl rfl (by first | assumption | omega | (simp only [List.length_append, List.length_take, List.length_drop, List.length_replicate, List.length_set, List.length_map, List.length_cons, List.length_nil]; omega))) fun a S => ?_)
        refine wl_of (op_store1 _ ((u40, ps[i].2 ++ [(k : Int)])) (wn rfl) rfl rfl S H rfl rfl (H.slc _) (H.sl1 _) Fsiz32 (by first | assumption | omega | (simp only [List.length_append, List.length_take, List.length_drop, List.length_replicate, List.length_set, List.length_map, List.length_cons, List.length_nil]; omega)) (by exact rfl) fun a w S H => ?_)
        refine gl_nil ?_
        refine n_block ?_
        refine n_then ?_
        -- region 7 ref.go:15
        refine g_region ?_
        refine wl_of (op_y (wn rfl) rfl rfl S (y_move rfl S rfl) fun a S => ?_)
        refine wl_of (op_y (wn rfl) rfl rfl S (y_add rfl S rfl rfl (by omega)) fun a S => ?_)
        refine wl_of (op_y (wn rfl) rfl rfl S (y_assign rfl S rfl) fun a S => ?_)
        refine gl_nil ?_
        refine n_then ?_
        first
        | exact ⟨k + 1, S.nil.cons S 7 rfl, ((((((((S.nil.cons S 1 rfl).cons S 0 rfl).cons S 4 rfl).cons S 5 rfl).cons S 6 rfl).cons S 11 rfl).cons S 12 rfl).cons S 13 rfl).cons S 14 rfl, ⟨by omega, ps, by rw [hps, fits_step _ _ _ (by omega), if_neg (by rw [h3]; simp), List.append_nil], hpl, H⟩, by omega⟩
        | exact ⟨k + 1, S.nil.cons S 7 rfl, ((((((((S.nil.cons S 1 rfl).cons S 0 rfl).cons S 4 rfl).cons S 5 rfl).cons S 6 rfl).cons S 11 rfl).cons S 12 rfl).cons S 13 rfl).cons S 14 rfl, ⟨by omega, ps.set i (u40, ps[i].2 ++ [(k : Int)]), by rw [List.map_set, hps, hrl, rowsAt_set _ _ _ _ _ (by omega), fits_step _ _ _ (by omega), if_pos h3], by simp [hpl], ((H.front2 (OSl 3 u40 1 encI (ps[i].2 ++ [(k : Int)])) (RowsA 3 1 encI (ps.eraseIdx i))).rowIn hir).take [OSl 32 (.slice (some ⟨b10, 0, none⟩) old.length old.length) 1 encRow (ps.set i (u40, ps[i].2 ++ [(k : Int)])), RowsA 3 1 encI (ps.set i (u40, ps[i].2 ++ [(k : Int)])), Sl v2 9 Pl.enc next, Sl v1 9 Pl.enc old]⟩, by omega⟩
      · have h3p := h3; try simp only [Option.isNone_some, Option.isNone_none, Option.isSome_some, Option.isSome_none, false_or, or_false, true_and, and_true, decide_eq_true_eq, decide_eq_false_iff_not, Bool.or_eq_true, Bool.and_eq_true, Bool.or_eq_false_iff, Bool.and_eq_false_iff, Bool.not_eq_true', Bool.not_eq_false', bne_iff_ne, beq_iff_eq, beq_eq_false_iff_ne, bne_eq_false_iff_eq, ne_eq, Decidable.not_not, Int.not_lt, Int.not_le, gt_iff_lt, ge_iff_le, Bool.true_eq_false, Bool.false_eq_true, not_true_eq_false, not_false_eq_true] at h3p
        refine g_skip ?_
        refine n_block ?_
        refine n_then ?_
        -- region 7 ref.go:15
        refine g_region ?_
        refine wl_of (op_y (wn rfl) rfl rfl S (y_move rfl S rfl) fun a S => ?_)
        refine wl_of (op_y (wn rfl) rfl rfl S (y_add rfl S rfl rfl (by omega)) fun a S => ?_)
        refine wl_of (op_y (wn rfl) rfl rfl S (y_assign rfl S rfl) fun a S => ?_)
        refine gl_nil ?_
        refine n_then ?_
        first
        | exact ⟨k + 1, S.nil.cons S 7 rfl, ((((((((S.nil.cons S 1 rfl).cons S 0 rfl).cons S 4 rfl).cons S 5 rfl).cons S 6 rfl).cons S 11 rfl).cons S 12 rfl).cons S 13 rfl).cons S 14 rfl, ⟨by omega, ps, by rw [hps, fits_step _ _ _ (by omega), if_neg (by rw [h3]; simp), List.append_nil], hpl, H⟩, by omega⟩
        | exact ⟨k + 1, S.nil.cons S 7 rfl, ((((((((S.nil.cons S 1 rfl).cons S 0 rfl).cons S 4 rfl).cons S 5 rfl).cons S 6 rfl).cons S 11 rfl).cons S 12 rfl).cons S 13 rfl).cons S 14 rfl, ⟨by omega, ps.set i (u40, ps[i].2 ++ [(k : Int)]), by rw [List.map_set, hps, hrl, rowsAt_set _ _ _ _ _ (by omega), fits_step _ _ _ (by omega), if_pos h3], by simp [hpl], ((H.front2 (OSl 3 u40 1 encI (ps[i].2 ++ [(k : Int)])) (RowsA 3 1 encI (ps.eraseIdx i))).rowIn hir).take [OSl 32 (.slice (some ⟨b10, 0, none⟩) old.length old.length) 1 encRow (ps.set i (u40, ps[i].2 ++ [(k : Int)])), RowsA 3 1 encI (ps.set i (u40, ps[i].2 ++ [(k : Int)])), Sl v2 9 Pl.enc next, Sl v1 9 Pl.enc old]⟩, by omega⟩
    · have h2p := h2; try simp only [Option.isNone_some, Option.isNone_none, Option.isSome_some, Option.isSome_none, false_or, or_false, true_and, and_true, decide_eq_true_eq, decide_eq_false_iff_not, Bool.or_eq_true, Bool.and_eq_true, Bool.or_eq_false_iff, Bool.and_eq_false_iff, Bool.not_eq_true', Bool.not_eq_false', bne_iff_ne, beq_iff_eq, beq_eq_false_iff_ne, bne_eq_false_iff_eq, ne_eq, Decidable.not_not, Int.not_lt, Int.not_le, gt_iff_lt, ge_iff_le, Bool.true_eq_false, Bool.false_eq_true, not_true_eq_false, not_false_eq_true] at h2p
      obtain rfl : k = next.length := by omega
      rw [List.take_length] at hps
      refine g_exit ?_
      refine x_then (x_then (x_eq ?_))
      refine n_block ?_
      refine n_then ?_
      -- region 4 ref.go:14
      refine g_region ?_
      refine wl_of (op_y (wn rfl) rfl rfl S (y_move rfl S rfl) fun a S => ?_)
      refine wl_of (op_y (wn rfl) rfl rfl S (y_add rfl S rfl rfl (by omega)) fun a S => ?_)
      refine wl_of (op_y (wn rfl) rfl rfl S (y_assign rfl S rfl) fun a S => ?_)
      refine gl_nil ?_
      refine n_then ?_
      exact ⟨i + 1, S.nil.cons S 6 rfl, (((S.nil.cons S 1 rfl).cons S 0 rfl).cons S 4 rfl).cons S 5 rfl, ⟨by omega, ps, fun h => by rw [hps, rowsAt_next _ _ _ h], fun h => by rw [hps, rowsAt_end _ _ _ h], hpl, H⟩, by omega⟩
  · have h1p := h1; try simp only [Option.isNone_some, Option.isNone_none, Option.isSome_some, Option.isSome_none, false_or, or_false, true_and, and_true, decide_eq_true_eq, decide_eq_false_iff_not, Bool.or_eq_true, Bool.and_eq_true, Bool.or_eq_false_iff, Bool.and_eq_false_iff, Bool.not_eq_true', Bool.not_eq_false', bne_iff_ne, beq_iff_eq, beq_eq_false_iff_ne, bne_eq_false_iff_eq, ne_eq, Decidable.not_not, Int.not_lt, Int.not_le, gt_iff_lt, ge_iff_le, Bool.true_eq_false, Bool.false_eq_true, not_true_eq_false, not_false_eq_true] at h1p
    obtain rfl : i = old.length := by omega
    have hps := hp2 rfl
    refine g_exit ?_
    refine x_then (x_then (x_eq ?_))
    refine n_then ?_
    have S := (S.nil.cons S 4 rfl).cons S 5 rfl
    refine g_seq ?_
    -- region 10 ref.go:21
    refine g_region ?_
    refine wl_of (op_y (wn rfl) rfl rfl S (y_move rfl S rfl) fun a S => ?_)
    refine wl_of (op_y (wn rfl) rfl rfl S (y_assign rfl S rfl) fun a S => ?_)
    refine gl_nil ?_
    refine n_then ?_
    refine g_ret ?_
    refine ret1 rfl S rfl ?_
    exact ⟨ps, hps, H.take [OSl 32 (.slice (some ⟨b10, 0, none⟩) old.length old.length) 1 encRow ps, RowsA 3 1 encI ps]⟩

end Go.Proofs.Ytbncnncpeiiliaa
