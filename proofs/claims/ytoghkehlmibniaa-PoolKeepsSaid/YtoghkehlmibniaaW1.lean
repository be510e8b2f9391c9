/- The walks. No condition. -/
import Derived.Test.YtoghkehlmibniaaChecked
import Derived.Test.YtoghkehlmibniaaGwQue
import Derived.Test.YtoghkehlmibniaaFacts
import Derived.Test.YtoghkehlmibniaaPlain
namespace Go.Proofs.Ytoghkehlmibniaa
open Go Go.Gw
set_option linter.unusedVariables false
set_option linter.unusedSimpArgs false
/-- foyer/foyerref11.In -/
theorem in_spec (v : Value) (xs : List Int) (n : Int) (w0 : World) (hv : IsSl w0 v 1 encI xs) :
    Ret Try.prog 21 #[v, .int .i64 n] w0 (fun u w => u = .bool (decide (n ∈ xs)) ∧ Ext w0 w) := by
  refine ret_of_wp (nt := 18) Try.func21 rfl rfl rfl (fl := [(0, v), (1, .int .i64 n)]) rfl (fun a S => ?_)
  have H := HSat.start w0
  have H := H.ro0 (Sl v 1 encI xs) rfl (hv)
  have hl := hv.len
  refine g_seq ?_
  -- region 0 ref.go:76
  refine g_region ?_
  refine wl_of (op_y (wn rfl) rfl rfl S (y_assign rfl S rfl) fun a S => ?_)
  refine gl_nil ?_
  refine n_then ?_
  refine g_seq ?_
  refine g_seq ?_
  -- region 1 ref.go:77
  refine g_region ?_
  refine wl_of (op_y (wn rfl) rfl rfl S (y_assign rfl S rfl) fun a S => ?_)
  refine gl_nil ?_
  refine n_then ?_
  refine g_block ?_
  -- slots written in the loop and forgotten at its head: [4]
  have SU := (S.nil.cons S 1 rfl).cons S 0 rfl
  refine loop_k (X := Nat) SU (fun k => [(5, .int .i64 (k : Int))]) (fun k => k ≤ xs.length ∧ ∀ j (h : j < xs.length), j < k → xs[j] ≠ n) (fun k => xs.length - k) 0 (S.nil.cons S 5 rfl) H (⟨by omega, fun j h hj => by omega⟩) (fun k a w S H hi => ?_)
  simp only [List.cons_append, List.nil_append] at S hi
  obtain ⟨hk, hno⟩ := hi
  refine g_seq ?_
  refine g_seq ?_
  -- region 2 ref.go:77
  refine g_region ?_
  refine wl_of (op_y (wn rfl) rfl rfl S (y_move rfl S rfl) fun a S => ?_)
  refine wl_of (op_y (wn rfl) rfl rfl S (y_move rfl S rfl) fun a S => ?_)
  refine wl_of (op_y (wn rfl) rfl rfl S (y_lens rfl Try.underlying23 S H rfl) fun a S => ?_)
  refine wl_of (op_y (wn rfl) rfl rfl S (y_bin rfl S rfl rfl rfl) fun a S => ?_)
  refine gl_nil ?_
  refine n_then ?_
  -- cond 1
  refine c_if S rfl (fun h1 => ?_) (fun h1 => ?_)
  · have h1p := h1; try simp only [Option.isNone_some, Option.isNone_none, Option.isSome_some, Option.isSome_none, false_or, or_false, true_and, and_true, decide_eq_true_eq, decide_eq_false_iff_not, Bool.or_eq_true, Bool.and_eq_true, Bool.or_eq_false_iff, Bool.and_eq_false_iff, Bool.not_eq_true', Bool.not_eq_false', bne_iff_ne, beq_iff_eq, beq_eq_false_iff_ne, bne_eq_false_iff_eq, ne_eq, Decidable.not_not, Int.not_lt, Int.not_le, gt_iff_lt, ge_iff_le, Bool.true_eq_false, Bool.false_eq_true, not_true_eq_false, not_false_eq_true] at h1p
    refine g_skip ?_
    refine n_then ?_
    refine g_seq ?_
    refine g_block ?_
    refine g_seq ?_
    -- region 4 ref.go:78
    refine g_region ?_
    refine wl_of (op_y (wn rfl) rfl rfl S (y_move rfl S rfl) fun a S => ?_)
    refine wl_of (op_y (wn rfl) rfl rfl S (y_move rfl S rfl) fun a S => ?_)
    refine wl_of (op_y (wn rfl) rfl rfl S (y_iaddrn rfl Try.underlying23 Fsiz3 S H rfl rfl (by first | assumption | omega | (simp only [List.length_append, List.length_take, List.length_drop, List.length_replicate, List.length_set, List.length_map, List.length_cons, List.length_nil]; omega))) fun a S => ?_)
    refine wl_of (op_y (wn rfl) rfl rfl S (y_loads _ rfl Fsca3 S H rfl (by first | assumption | omega | (simp only [List.length_append, List.length_take, List.length_drop, List.length_replicate, List.length_set, List.length_map, List.length_cons, List.length_nil]; omega)) rfl) fun a S => ?_)
    refine wl_of (op_y (wn rfl) rfl rfl S (y_move rfl S rfl) fun a S => ?_)
    refine wl_of (op_y (wn rfl) rfl rfl S (y_bin rfl S rfl rfl rfl) fun a S => ?_)
    refine gl_nil ?_
    refine n_then ?_
    -- cond 2
    refine c_if S rfl (fun h2 => ?_) (fun h2 => ?_)
    · have h2p := h2; try simp only [Option.isNone_some, Option.isNone_none, Option.isSome_some, Option.isSome_none, false_or, or_false, true_and, and_true, decide_eq_true_eq, decide_eq_false_iff_not, Bool.or_eq_true, Bool.and_eq_true, Bool.or_eq_false_iff, Bool.and_eq_false_iff, Bool.not_eq_true', Bool.not_eq_false', bne_iff_ne, beq_iff_eq, beq_eq_false_iff_ne, bne_eq_false_iff_eq, ne_eq, Decidable.not_not, Int.not_lt, Int.not_le, gt_iff_lt, ge_iff_le, Bool.true_eq_false, Bool.false_eq_true, not_true_eq_false, not_false_eq_true] at h2p
      refine g_seq ?_
      -- region 5 ref.go:79
      refine g_region ?_
      refine wl_of (op_y (wn rfl) rfl rfl S (y_assign rfl S rfl) fun a S => ?_)
      refine gl_nil ?_
      refine n_then ?_
      refine g_ret ?_
      refine r_block (r_then (r_then (r_block (r_then (ret1 rfl S rfl ?_)))))
      exact ⟨congrArg Value.bool (decide_eq_true (by rw [← h2p]; exact List.getElem_mem _)).symm, H.toExt⟩
    · have h2p := h2; try simp only [Option.isNone_some, Option.isNone_none, Option.isSome_some, Option.isSome_none, false_or, or_false, true_and, and_true, decide_eq_true_eq, decide_eq_false_iff_not, Bool.or_eq_true, Bool.and_eq_true, Bool.or_eq_false_iff, Bool.and_eq_false_iff, Bool.not_eq_true', Bool.not_eq_false', bne_iff_ne, beq_iff_eq, beq_eq_false_iff_ne, bne_eq_false_iff_eq, ne_eq, Decidable.not_not, Int.not_lt, Int.not_le, gt_iff_lt, ge_iff_le, Bool.true_eq_false, Bool.false_eq_true, not_true_eq_false, not_false_eq_true] at h2p
      refine g_skip ?_
      refine n_block ?_
      refine n_then ?_
      -- region 3 ref.go:77
      refine g_region ?_
      refine wl_of (op_y (wn rfl) rfl rfl S (y_move rfl S rfl) fun a S => ?_)
      refine wl_of (op_y (wn rfl) rfl rfl S (y_add rfl S rfl rfl (by omega)) fun a S => ?_)
      refine wl_of (op_y (wn rfl) rfl rfl S (y_assign rfl S rfl) fun a S => ?_)
      refine gl_nil ?_
      refine n_then ?_
      refine ⟨k + 1, S.nil.cons S 5 rfl, (S.nil.cons S 1 rfl).cons S 0 rfl, H, ?_, ?_⟩
      · exact ⟨by omega, fun j h hj => by by_cases hjk : j < k; exact hno j h hjk; (obtain rfl : j = k := by omega); exact h2p⟩
      · omega
  · have h1p := h1; try simp only [Option.isNone_some, Option.isNone_none, Option.isSome_some, Option.isSome_none, false_or, or_false, true_and, and_true, decide_eq_true_eq, decide_eq_false_iff_not, Bool.or_eq_true, Bool.and_eq_true, Bool.or_eq_false_iff, Bool.and_eq_false_iff, Bool.not_eq_true', Bool.not_eq_false', bne_iff_ne, beq_iff_eq, beq_eq_false_iff_ne, bne_eq_false_iff_eq, ne_eq, Decidable.not_not, Int.not_lt, Int.not_le, gt_iff_lt, ge_iff_le, Bool.true_eq_false, Bool.false_eq_true, not_true_eq_false, not_false_eq_true] at h1p
    refine g_exit ?_
    refine x_then (x_then (x_eq ?_))
    refine n_then ?_
    have S := S.nil
    refine g_seq ?_
    -- region 6 ref.go:82
    refine g_region ?_
    refine wl_of (op_y (wn rfl) rfl rfl S (y_assign rfl S rfl) fun a S => ?_)
    refine gl_nil ?_
    refine n_then ?_
    refine g_ret ?_
    refine ret1 rfl S rfl ?_
    exact ⟨congrArg Value.bool (decide_eq_false (find_no (fun j hj => hno j hj (by omega)))).symm, H.toExt⟩
/-- slices.Index[[]int,int] -/
theorem index_spec (v : Value) (xs : List Int) (n : Int) (w0 : World) (hv : IsSl w0 v 1 encI xs) :
    Ret Try.prog 27 #[v, .int .i64 n] w0 (fun u w => u = .int .i64 (idxI xs n) ∧ Ext w0 w) := by
  refine ret_of_wp (nt := 19) Try.func27 rfl rfl rfl (fl := [(0, v), (1, .int .i64 n)]) rfl (fun a S => ?_)
  have H := HSat.start w0
  have H := H.ro0 (Sl v 1 encI xs) rfl (hv)
  have hl := hv.len
  refine g_seq ?_
  -- region 0 slices.go:96
  refine g_region ?_
  refine wl_of (op_y (wn rfl) rfl rfl S (y_assign rfl S rfl) fun a S => ?_)
  refine gl_nil ?_
  refine n_then ?_
  refine g_seq ?_
  refine g_seq ?_
  -- region 1 slices.go:97
  refine g_region ?_
  refine wl_of (op_y (wn rfl) rfl rfl S (y_move rfl S rfl) fun a S => ?_)
  refine wl_of (op_y (wn rfl) rfl rfl S (y_lens rfl Try.underlying23 S H rfl) fun a S => ?_)
  refine wl_of (op_y (wn rfl) rfl rfl S (y_move rfl S rfl) fun a S => ?_)
  refine gl_nil ?_
  refine n_then ?_
  refine g_block ?_
  -- slots written in the loop and forgotten at its head: [4]
  have SU := ((S.nil.cons S 1 rfl).cons S 0 rfl).cons S 7 rfl
  refine loop_k (X := Nat) SU (fun k => [(8, .int .i64 (k : Int))]) (fun k => k ≤ xs.length ∧ ∀ j, j < k → atI xs j ≠ n) (fun k => xs.length - k) 0 (S.nil.cons S 8 rfl) H (⟨by omega, fun j hj => by omega⟩) (fun k a w S H hi => ?_)
  simp only [List.cons_append, List.nil_append] at S hi
  obtain ⟨hk, hno⟩ := hi
  refine g_seq ?_
  -- region 2 slices.go:97
  refine g_region ?_
  refine wl_of (op_y (wn rfl) rfl rfl S (y_bin rfl S rfl rfl rfl) fun a S => ?_)
  refine gl_nil ?_
  refine n_then ?_
  refine g_seq ?_
  -- cond 1
  refine c_if S rfl (fun h1 => ?_) (fun h1 => ?_)
  · have h1p := h1; try simp only [Option.isNone_some, Option.isNone_none, Option.isSome_some, Option.isSome_none, false_or, or_false, true_and, and_true, decide_eq_true_eq, decide_eq_false_iff_not, Bool.or_eq_true, Bool.and_eq_true, Bool.or_eq_false_iff, Bool.and_eq_false_iff, Bool.not_eq_true', Bool.not_eq_false', bne_iff_ne, beq_iff_eq, beq_eq_false_iff_ne, bne_eq_false_iff_eq, ne_eq, Decidable.not_not, Int.not_lt, Int.not_le, gt_iff_lt, ge_iff_le, Bool.true_eq_false, Bool.false_eq_true, not_true_eq_false, not_false_eq_true] at h1p
    refine g_skip ?_
    refine n_then ?_
    refine g_seq ?_
    refine g_block ?_
    refine g_seq ?_
    -- region 3 slices.go:97
    refine g_region ?_
    refine wl_of (op_y (wn rfl) rfl rfl S (y_move rfl S rfl) fun a S => ?_)
    refine wl_of (op_y (wn rfl) rfl rfl S (y_assign rfl S rfl) fun a S => ?_)
    refine gl_nil ?_
    refine n_then ?_
    refine g_seq ?_
    -- region 4 slices.go:98
    refine g_region ?_
    refine wl_of (op_y (wn rfl) rfl rfl S (y_move rfl S rfl) fun a S => ?_)
    refine wl_of (op_y (wn rfl) rfl rfl S (y_move rfl S rfl) fun a S => ?_)
    refine wl_of (op_y (wn rfl) rfl rfl S (y_move rfl S rfl) fun a S => ?_)
    refine wl_of (op_y (wn rfl) rfl rfl S (y_iaddrn rfl Try.underlying23 Fsiz3 S H rfl rfl (by first | assumption | omega | (simp only [List.length_append, List.length_take, List.length_drop, List.length_replicate, List.length_set, List.length_map, List.length_cons, List.length_nil]; omega))) fun a S => ?_)
    refine wl_of (op_y (wn rfl) rfl rfl S (y_loads _ rfl Fsca3 S H rfl (by first | assumption | omega | (simp only [List.length_append, List.length_take, List.length_drop, List.length_replicate, List.length_set, List.length_map, List.length_cons, List.length_nil]; omega)) rfl) fun a S => ?_)
    refine wl_of (op_y (wn rfl) rfl rfl S (y_bin rfl S rfl rfl rfl) fun a S => ?_)
    refine gl_nil ?_
    refine n_then ?_
    -- cond 2
    refine c_if S rfl (fun h2 => ?_) (fun h2 => ?_)
    · have h2p := h2; try simp only [Option.isNone_some, Option.isNone_none, Option.isSome_some, Option.isSome_none, false_or, or_false, true_and, and_true, decide_eq_true_eq, decide_eq_false_iff_not, Bool.or_eq_true, Bool.and_eq_true, Bool.or_eq_false_iff, Bool.and_eq_false_iff, Bool.not_eq_true', Bool.not_eq_false', bne_iff_ne, beq_iff_eq, beq_eq_false_iff_ne, bne_eq_false_iff_eq, ne_eq, Decidable.not_not, Int.not_lt, Int.not_le, gt_iff_lt, ge_iff_le, Bool.true_eq_false, Bool.false_eq_true, not_true_eq_false, not_false_eq_true] at h2p
      refine g_seq ?_
      -- region 5 slices.go:99
      refine g_region ?_
      refine wl_of (op_y (wn rfl) rfl rfl S (y_move rfl S rfl) fun a S => ?_)
      refine wl_of (op_y (wn rfl) rfl rfl S (y_assign rfl S rfl) fun a S => ?_)
      refine gl_nil ?_
      refine n_then ?_
      refine g_ret ?_
      refine r_block (r_then (r_then (r_block (r_then (ret1 rfl S rfl ?_)))))
      exact ⟨by rw [idxI_some (show k < xs.length by omega) (by rw [atI_eq (by omega)]; exact h2p.symm) hno], H.toExt⟩
    · have h2p := h2; try simp only [Option.isNone_some, Option.isNone_none, Option.isSome_some, Option.isSome_none, false_or, or_false, true_and, and_true, decide_eq_true_eq, decide_eq_false_iff_not, Bool.or_eq_true, Bool.and_eq_true, Bool.or_eq_false_iff, Bool.and_eq_false_iff, Bool.not_eq_true', Bool.not_eq_false', bne_iff_ne, beq_iff_eq, beq_eq_false_iff_ne, bne_eq_false_iff_eq, ne_eq, Decidable.not_not, Int.not_lt, Int.not_le, gt_iff_lt, ge_iff_le, Bool.true_eq_false, Bool.false_eq_true, not_true_eq_false, not_false_eq_true] at h2p
      refine g_skip ?_
      refine n_block ?_
      refine n_then ?_
      -- region 6 slices.go:97
      refine g_region ?_
      refine wl_of (op_y (wn rfl) rfl rfl S (y_add rfl S rfl rfl (by omega)) fun a S => ?_)
      refine wl_of (op_y (wn rfl) rfl rfl S (y_move rfl S rfl) fun a S => ?_)
      refine gl_nil ?_
      refine n_then ?_
      refine ⟨k + 1, S.nil.cons S 8 rfl, ((S.nil.cons S 1 rfl).cons S 0 rfl).cons S 7 rfl, H, ?_, ?_⟩
      · exact ⟨by omega, fun j hj => by by_cases hjk : j < k; exact hno j hjk; (obtain rfl : j = k := by omega); rw [atI_eq (by omega)]; exact fun e => h2p e.symm⟩
      · omega
  · have h1p := h1; try simp only [Option.isNone_some, Option.isNone_none, Option.isSome_some, Option.isSome_none, false_or, or_false, true_and, and_true, decide_eq_true_eq, decide_eq_false_iff_not, Bool.or_eq_true, Bool.and_eq_true, Bool.or_eq_false_iff, Bool.and_eq_false_iff, Bool.not_eq_true', Bool.not_eq_false', bne_iff_ne, beq_iff_eq, beq_eq_false_iff_ne, bne_eq_false_iff_eq, ne_eq, Decidable.not_not, Int.not_lt, Int.not_le, gt_iff_lt, ge_iff_le, Bool.true_eq_false, Bool.false_eq_true, not_true_eq_false, not_false_eq_true] at h1p
    refine g_exit ?_
    refine x_then (x_then (x_eq ?_))
    refine n_then ?_
    have S := S.nil
    refine g_seq ?_
    -- region 7 slices.go:102
    refine g_region ?_
    refine wl_of (op_y (wn rfl) rfl rfl S (y_assign rfl S rfl) fun a S => ?_)
    refine gl_nil ?_
    refine n_then ?_
    refine g_ret ?_
    refine ret1 rfl S rfl ?_
    exact ⟨by rw [idxI_none (fun j hj => hno j (by omega))], H.toExt⟩
/-- foyer/foyerref11.Ints -/
theorem ints_spec (v1 v2 : Value) (xs ys : List Int) (w0 : World) (h1 : IsSl w0 v1 1 encI xs) (h2 : IsSl w0 v2 1 encI ys) :
    Ret Try.prog 15 #[v1, v2] w0 (fun u w => u = .bool (decide (xs = ys)) ∧ Ext w0 w) := by
  refine ret_of_wp (nt := 26) Try.func15 rfl rfl rfl (fl := [(0, v1), (1, v2)]) rfl (fun a S => ?_)
  have H := HSat.start w0
  have H := H.ro0 (Sl v1 1 encI xs) rfl (h1)
  have H := H.ro0 (Sl v2 1 encI ys) rfl (h2)
  have hl1 := h1.len
  refine g_seq ?_
  -- region 0 ref.go:162
  refine g_region ?_
  refine wl_of (op_y (wn rfl) rfl rfl S (y_assign rfl S rfl) fun a S => ?_)
  refine gl_nil ?_
  refine n_then ?_
  refine g_seq ?_
  refine g_seq ?_
  -- region 1 ref.go:163
  refine g_region ?_
  refine wl_of (op_y (wn rfl) rfl rfl S (y_move rfl S rfl) fun a S => ?_)
  refine wl_of (op_y (wn rfl) rfl rfl S (y_lens rfl Try.underlying23 S H rfl) fun a S => ?_)
  refine wl_of (op_y (wn rfl) rfl rfl S (y_move rfl S rfl) fun a S => ?_)
  refine wl_of (op_y (wn rfl) rfl rfl S (y_lens rfl Try.underlying23 S H rfl) fun a S => ?_)
  refine wl_of (op_y (wn rfl) rfl rfl S (y_bin rfl S rfl rfl rfl) fun a S => ?_)
  refine gl_nil ?_
  refine n_then ?_
  have S := (((S.nil.cons S 1 rfl).cons S 0 rfl).cons S 4 rfl).cons S 10 rfl
  -- cond 1
  refine c_if S rfl (fun h1 => ?_) (fun h1 => ?_)
  · have h1p := h1; try simp only [Option.isNone_some, Option.isNone_none, Option.isSome_some, Option.isSome_none, false_or, or_false, true_and, and_true, decide_eq_true_eq, decide_eq_false_iff_not, Bool.or_eq_true, Bool.and_eq_true, Bool.or_eq_false_iff, Bool.and_eq_false_iff, Bool.not_eq_true', Bool.not_eq_false', bne_iff_ne, beq_iff_eq, beq_eq_false_iff_ne, bne_eq_false_iff_eq, ne_eq, Decidable.not_not, Int.not_lt, Int.not_le, gt_iff_lt, ge_iff_le, Bool.true_eq_false, Bool.false_eq_true, not_true_eq_false, not_false_eq_true] at h1p
    refine g_seq ?_
    -- region 2 ref.go:164
    refine g_region ?_
    refine wl_of (op_y (wn rfl) rfl rfl S (y_assign rfl S rfl) fun a S => ?_)
    refine gl_nil ?_
    refine n_then ?_
    refine g_ret ?_
    refine r_then (ret1 rfl S rfl ?_)
    refine ⟨congrArg Value.bool ?_, H.toExt⟩
    symm; rw [decide_eq_false_iff_not]; rintro rfl; simp at h1
  · have h1p := h1; try simp only [Option.isNone_some, Option.isNone_none, Option.isSome_some, Option.isSome_none, false_or, or_false, true_and, and_true, decide_eq_true_eq, decide_eq_false_iff_not, Bool.or_eq_true, Bool.and_eq_true, Bool.or_eq_false_iff, Bool.and_eq_false_iff, Bool.not_eq_true', Bool.not_eq_false', bne_iff_ne, beq_iff_eq, beq_eq_false_iff_ne, bne_eq_false_iff_eq, ne_eq, Decidable.not_not, Int.not_lt, Int.not_le, gt_iff_lt, ge_iff_le, Bool.true_eq_false, Bool.false_eq_true, not_true_eq_false, not_false_eq_true] at h1p
    refine g_skip ?_
    refine n_then ?_
    refine g_seq ?_
    refine g_seq ?_
    -- region 3 ref.go:166
    refine g_region ?_
    refine wl_of (op_y (wn rfl) rfl rfl S (y_assign rfl S rfl) fun a S => ?_)
    refine gl_nil ?_
    refine n_then ?_
    refine g_block ?_
    -- slots written in the loop and forgotten at its head: [4]
    have SU := (S.nil.cons S 1 rfl).cons S 0 rfl
    refine loop_k (X := Nat) SU (fun k => [(5, .int .i64 (k : Int))]) (fun k => k ≤ xs.length ∧ xs.take k = ys.take k) (fun k => xs.length - k) 0 (S.nil.cons S 5 rfl) H (⟨by omega, rfl⟩) (fun k a w S H hi => ?_)
    simp only [List.cons_append, List.nil_append] at S hi
    obtain ⟨hk, htk⟩ := hi
    refine g_seq ?_
    refine g_seq ?_
    -- region 4 ref.go:166
    refine g_region ?_
    refine wl_of (op_y (wn rfl) rfl rfl S (y_move rfl S rfl) fun a S => ?_)
    refine wl_of (op_y (wn rfl) rfl rfl S (y_move rfl S rfl) fun a S => ?_)
    refine wl_of (op_y (wn rfl) rfl rfl S (y_lens rfl Try.underlying23 S H rfl) fun a S => ?_)
    refine wl_of (op_y (wn rfl) rfl rfl S (y_bin rfl S rfl rfl rfl) fun a S => ?_)
    refine gl_nil ?_
    refine n_then ?_
    -- cond 2
    refine c_if S rfl (fun h2 => ?_) (fun h2 => ?_)
    · have h2p := h2; try simp only [Option.isNone_some, Option.isNone_none, Option.isSome_some, Option.isSome_none, false_or, or_false, true_and, and_true, decide_eq_true_eq, decide_eq_false_iff_not, Bool.or_eq_true, Bool.and_eq_true, Bool.or_eq_false_iff, Bool.and_eq_false_iff, Bool.not_eq_true', Bool.not_eq_false', bne_iff_ne, beq_iff_eq, beq_eq_false_iff_ne, bne_eq_false_iff_eq, ne_eq, Decidable.not_not, Int.not_lt, Int.not_le, gt_iff_lt, ge_iff_le, Bool.true_eq_false, Bool.false_eq_true, not_true_eq_false, not_false_eq_true] at h2p
      refine g_skip ?_
      refine n_then ?_
      refine g_seq ?_
      refine g_block ?_
      refine g_seq ?_
      -- region 6 DRAWS ref.go:167
      refine region_st (loud := []) (tails := []) (free := []) [0, 1, 2, 3, 4, 5, 6, 7, 8] [] Fmo (by kernel_rfl) (by kernel_rfl) rfl H ?_
      refine m_w rfl rfl (wn rfl) rfl rfl S (fun w H => y_move rfl S rfl) fun a S => ?_
      refine m_w rfl rfl (wn rfl) rfl rfl S (fun w H => y_move rfl S rfl) fun a S => ?_
      refine m_w rfl rfl (wn rfl) rfl rfl S (fun w H => y_iaddrn rfl Try.underlying23 Fsiz3 S H rfl rfl (by first | assumption | omega | (simp only [List.length_append, List.length_take, List.length_drop, List.length_replicate, List.length_set, List.length_map, List.length_cons, List.length_nil]; omega))) fun a S => ?_
      refine m_loads _ rfl rfl (wn rfl) rfl rfl S rfl Fsca3 rfl (by first | assumption | omega | (simp only [List.length_append, List.length_take, List.length_drop, List.length_replicate, List.length_set, List.length_map, List.length_cons, List.length_nil]; omega)) rfl fun a S => ?_
      refine m_w rfl rfl (wn rfl) rfl rfl S (fun w H => y_move rfl S rfl) fun a S => ?_
      refine m_w rfl rfl (wn rfl) rfl rfl S (fun w H => y_move rfl S rfl) fun a S => ?_
      refine m_w rfl rfl (wn rfl) rfl rfl S (fun w H => y_iaddrn rfl Try.underlying23 Fsiz3 S H rfl rfl (by first | assumption | omega | (simp only [List.length_append, List.length_take, List.length_drop, List.length_replicate, List.length_set, List.length_map, List.length_cons, List.length_nil]; omega))) fun a S => ?_
      refine m_loads _ rfl rfl (wn rfl) rfl rfl S rfl Fsca3 rfl (by first | assumption | omega | (simp only [List.length_append, List.length_take, List.length_drop, List.length_replicate, List.length_set, List.length_map, List.length_cons, List.length_nil]; omega)) rfl fun a S => ?_
      refine m_w rfl rfl (wn rfl) rfl rfl S (fun w H => y_bin rfl S rfl rfl rfl) fun a S => ?_
      refine m_nil (fun w H => ?_)
      refine n_then ?_
      -- cond 3
      refine c_if S rfl (fun h3 => ?_) (fun h3 => ?_)
      · have h3p := h3; try simp only [Option.isNone_some, Option.isNone_none, Option.isSome_some, Option.isSome_none, false_or, or_false, true_and, and_true, decide_eq_true_eq, decide_eq_false_iff_not, Bool.or_eq_true, Bool.and_eq_true, Bool.or_eq_false_iff, Bool.and_eq_false_iff, Bool.not_eq_true', Bool.not_eq_false', bne_iff_ne, beq_iff_eq, beq_eq_false_iff_ne, bne_eq_false_iff_eq, ne_eq, Decidable.not_not, Int.not_lt, Int.not_le, gt_iff_lt, ge_iff_le, Bool.true_eq_false, Bool.false_eq_true, not_true_eq_false, not_false_eq_true] at h3p
        refine g_seq ?_
        -- region 7 ref.go:168
        refine g_region ?_
        refine wl_of (op_y (wn rfl) rfl rfl S (y_assign rfl S rfl) fun a S => ?_)
        refine gl_nil ?_
        refine n_then ?_
        refine g_ret ?_
        refine r_block (r_then (r_then (r_block (r_then (ret1 rfl S rfl ?_)))))
        refine ⟨congrArg Value.bool ?_, H.toExt⟩
        symm; rw [decide_eq_false_iff_not]; rintro rfl; simp at h3
      · have h3p := h3; try simp only [Option.isNone_some, Option.isNone_none, Option.isSome_some, Option.isSome_none, false_or, or_false, true_and, and_true, decide_eq_true_eq, decide_eq_false_iff_not, Bool.or_eq_true, Bool.and_eq_true, Bool.or_eq_false_iff, Bool.and_eq_false_iff, Bool.not_eq_true', Bool.not_eq_false', bne_iff_ne, beq_iff_eq, beq_eq_false_iff_ne, bne_eq_false_iff_eq, ne_eq, Decidable.not_not, Int.not_lt, Int.not_le, gt_iff_lt, ge_iff_le, Bool.true_eq_false, Bool.false_eq_true, not_true_eq_false, not_false_eq_true] at h3p
        refine g_skip ?_
        refine n_block ?_
        refine n_then ?_
        -- region 5 ref.go:166
        refine g_region ?_
        refine wl_of (op_y (wn rfl) rfl rfl S (y_move rfl S rfl) fun a S => ?_)
        refine wl_of (op_y (wn rfl) rfl rfl S (y_add rfl S rfl rfl (by omega)) fun a S => ?_)
        refine wl_of (op_y (wn rfl) rfl rfl S (y_assign rfl S rfl) fun a S => ?_)
        refine gl_nil ?_
        refine n_then ?_
        refine ⟨k + 1, S.nil.cons S 5 rfl, (S.nil.cons S 1 rfl).cons S 0 rfl, H, ?_, ?_⟩
        · exact ⟨by omega, by rw [List.take_succ_eq_append_getElem (by omega), List.take_succ_eq_append_getElem (by omega), htk, h3p]⟩
        · omega
    · have h2p := h2; try simp only [Option.isNone_some, Option.isNone_none, Option.isSome_some, Option.isSome_none, false_or, or_false, true_and, and_true, decide_eq_true_eq, decide_eq_false_iff_not, Bool.or_eq_true, Bool.and_eq_true, Bool.or_eq_false_iff, Bool.and_eq_false_iff, Bool.not_eq_true', Bool.not_eq_false', bne_iff_ne, beq_iff_eq, beq_eq_false_iff_ne, bne_eq_false_iff_eq, ne_eq, Decidable.not_not, Int.not_lt, Int.not_le, gt_iff_lt, ge_iff_le, Bool.true_eq_false, Bool.false_eq_true, not_true_eq_false, not_false_eq_true] at h2p
      refine g_exit ?_
      refine x_then (x_then (x_eq ?_))
      refine n_then ?_
      have S := S.nil
      refine g_seq ?_
      -- region 8 ref.go:171
      refine g_region ?_
      refine wl_of (op_y (wn rfl) rfl rfl S (y_assign rfl S rfl) fun a S => ?_)
      refine gl_nil ?_
      refine n_then ?_
      refine g_ret ?_
      refine ret1 rfl S rfl ?_
      refine ⟨congrArg Value.bool ?_, H.toExt⟩
      symm; rw [decide_eq_true_eq]
      obtain rfl : k = xs.length := by omega
      rwa [List.take_length, List.take_of_length_le (by omega)] at htk
/-- foyer/foyerref35.Few -/
theorem few_spec (v : Value) (ps : List (Value × List Int)) (n : Int) (w0 : World) (hv : IsSl w0 v 1 encRow ps) (hr : ∀ p ∈ ps, IsSl w0 p.1 1 encI p.2) :
    Ret Try.prog 12 #[v, .int .i64 n] w0 (fun u w => u = .bool (fewW (gr ps) n) ∧ Ext w0 w) := by
  refine ret_of_wp (nt := 22) Try.func12 rfl rfl rfl (fl := [(0, v), (1, .int .i64 n)]) rfl (fun a S => ?_)
  have H := HSat.start w0
  have H := H.ro0 (Sl v 1 encRow ps) rfl (hv)
  have H := H.ro0 (RowsS 1 encI ps) rfl (hr)
  have hl := hv.len
  refine g_seq ?_
  -- region 0 ref.go:156
  refine g_region ?_
  refine wl_of (op_y (wn rfl) rfl rfl S (y_assign rfl S rfl) fun a S => ?_)
  refine gl_nil ?_
  refine n_then ?_
  refine g_seq ?_
  refine g_seq ?_
  -- region 1 ref.go:157
  refine g_region ?_
  refine wl_of (op_y (wn rfl) rfl rfl S (y_assign rfl S rfl) fun a S => ?_)
  refine gl_nil ?_
  refine n_then ?_
  refine g_block ?_
  -- slots written in the loop and forgotten at its head: [4]
  have SU := (S.nil.cons S 1 rfl).cons S 0 rfl
  refine loop_k (X := Nat) SU (fun k => [(5, .int .i64 (k : Int))]) (fun k => k ≤ ps.length ∧ ∀ j (h : j < ps.length), j < k → (ps[j].2.length : Int) ≤ 40) (fun k => ps.length - k) 0 (S.nil.cons S 5 rfl) H (⟨by omega, fun j h hj => by omega⟩) (fun k a w S H hi => ?_)
  simp only [List.cons_append, List.nil_append] at S hi
  obtain ⟨hk, hno⟩ := hi
  refine g_seq ?_
  refine g_seq ?_
  -- region 2 ref.go:157
  refine g_region ?_
  refine wl_of (op_y (wn rfl) rfl rfl S (y_move rfl S rfl) fun a S => ?_)
  refine wl_of (op_y (wn rfl) rfl rfl S (y_move rfl S rfl) fun a S => ?_)
  refine wl_of (op_y (wn rfl) rfl rfl S (y_lens rfl Try.underlying22 S H rfl) fun a S => ?_)
  refine wl_of (op_y (wn rfl) rfl rfl S (y_bin rfl S rfl rfl rfl) fun a S => ?_)
  refine gl_nil ?_
  refine n_then ?_
  -- cond 1
  refine c_if S rfl (fun h1 => ?_) (fun h1 => ?_)
  · have h1p := h1; try simp only [Option.isNone_some, Option.isNone_none, Option.isSome_some, Option.isSome_none, false_or, or_false, true_and, and_true, decide_eq_true_eq, decide_eq_false_iff_not, Bool.or_eq_true, Bool.and_eq_true, Bool.or_eq_false_iff, Bool.and_eq_false_iff, Bool.not_eq_true', Bool.not_eq_false', bne_iff_ne, beq_iff_eq, beq_eq_false_iff_ne, bne_eq_false_iff_eq, ne_eq, Decidable.not_not, Int.not_lt, Int.not_le, gt_iff_lt, ge_iff_le, Bool.true_eq_false, Bool.false_eq_true, not_true_eq_false, not_false_eq_true] at h1p
    refine g_skip ?_
    refine n_then ?_
    refine g_seq ?_
    refine g_block ?_
    refine g_seq ?_
    -- region 4 ref.go:158
    refine g_region ?_
    refine wl_of (op_y (wn rfl) rfl rfl S (y_move rfl S rfl) fun a S => ?_)
    refine wl_of (op_y (wn rfl) rfl rfl S (y_move rfl S rfl) fun a S => ?_)
    refine wl_of (op_y (wn rfl) rfl rfl S (y_iaddrn rfl Try.underlying22 Fsiz23 S H rfl rfl (by first | assumption | omega | (simp only [List.length_append, List.length_take, List.length_drop, List.length_replicate, List.length_set, List.length_map, List.length_cons, List.length_nil]; omega))) fun a S => ?_)
    refine wl_of (op_y (wn rfl) rfl rfl S (y_loads _ rfl Fsca23 S H rfl (by first | assumption | omega | (simp only [List.length_append, List.length_take, List.length_drop, List.length_replicate, List.length_set, List.length_map, List.length_cons, List.length_nil]; omega)) rfl) fun a S => ?_)
    refine wl_of (op_y (wn rfl) rfl rfl S (y_lens rfl Try.underlying23 S H rfl) fun a S => ?_)
    refine wl_of (op_y (wn rfl) rfl rfl S (y_bin rfl S rfl rfl rfl) fun a S => ?_)
    refine gl_nil ?_
    refine n_then ?_
    -- cond 2
    refine c_if S rfl (fun h2 => ?_) (fun h2 => ?_)
    · have h2p := h2; try simp only [Option.isNone_some, Option.isNone_none, Option.isSome_some, Option.isSome_none, false_or, or_false, true_and, and_true, decide_eq_true_eq, decide_eq_false_iff_not, Bool.or_eq_true, Bool.and_eq_true, Bool.or_eq_false_iff, Bool.and_eq_false_iff, Bool.not_eq_true', Bool.not_eq_false', bne_iff_ne, beq_iff_eq, beq_eq_false_iff_ne, bne_eq_false_iff_eq, ne_eq, Decidable.not_not, Int.not_lt, Int.not_le, gt_iff_lt, ge_iff_le, Bool.true_eq_false, Bool.false_eq_true, not_true_eq_false, not_false_eq_true] at h2p
      refine g_seq ?_
      -- region 5 ref.go:159
      refine g_region ?_
      refine wl_of (op_y (wn rfl) rfl rfl S (y_assign rfl S rfl) fun a S => ?_)
      refine gl_nil ?_
      refine n_then ?_
      refine g_ret ?_
      refine r_block (r_then (r_then (r_block (r_then (ret1 rfl S rfl ?_)))))
      exact ⟨congrArg Value.bool (few_no k (by omega) (by omega)).symm, H.toExt⟩
    · have h2p := h2; try simp only [Option.isNone_some, Option.isNone_none, Option.isSome_some, Option.isSome_none, false_or, or_false, true_and, and_true, decide_eq_true_eq, decide_eq_false_iff_not, Bool.or_eq_true, Bool.and_eq_true, Bool.or_eq_false_iff, Bool.and_eq_false_iff, Bool.not_eq_true', Bool.not_eq_false', bne_iff_ne, beq_iff_eq, beq_eq_false_iff_ne, bne_eq_false_iff_eq, ne_eq, Decidable.not_not, Int.not_lt, Int.not_le, gt_iff_lt, ge_iff_le, Bool.true_eq_false, Bool.false_eq_true, not_true_eq_false, not_false_eq_true] at h2p
      refine g_skip ?_
      refine n_block ?_
      refine n_then ?_
      -- region 3 ref.go:157
      refine g_region ?_
      refine wl_of (op_y (wn rfl) rfl rfl S (y_move rfl S rfl) fun a S => ?_)
      refine wl_of (op_y (wn rfl) rfl rfl S (y_add rfl S rfl rfl (by omega)) fun a S => ?_)
      refine wl_of (op_y (wn rfl) rfl rfl S (y_assign rfl S rfl) fun a S => ?_)
      refine gl_nil ?_
      refine n_then ?_
      refine ⟨k + 1, S.nil.cons S 5 rfl, (S.nil.cons S 1 rfl).cons S 0 rfl, H, ?_, ?_⟩
      · exact ⟨by omega, fun j h hj => by by_cases hjk : j < k; exact hno j h hjk; (obtain rfl : j = k := by omega); simpa using h2⟩
      · omega
  · have h1p := h1; try simp only [Option.isNone_some, Option.isNone_none, Option.isSome_some, Option.isSome_none, false_or, or_false, true_and, and_true, decide_eq_true_eq, decide_eq_false_iff_not, Bool.or_eq_true, Bool.and_eq_true, Bool.or_eq_false_iff, Bool.and_eq_false_iff, Bool.not_eq_true', Bool.not_eq_false', bne_iff_ne, beq_iff_eq, beq_eq_false_iff_ne, bne_eq_false_iff_eq, ne_eq, Decidable.not_not, Int.not_lt, Int.not_le, gt_iff_lt, ge_iff_le, Bool.true_eq_false, Bool.false_eq_true, not_true_eq_false, not_false_eq_true] at h1p
    refine g_exit ?_
    refine x_then (x_then (x_eq ?_))
    refine n_then ?_
    have S := (S.nil.cons S 1 rfl).cons S 0 rfl
    refine g_seq ?_
    -- region 6 ref.go:162
    refine g_region ?_
    refine wl_of (op_y (wn rfl) rfl rfl S (y_move rfl S rfl) fun a S => ?_)
    refine wl_of (op_y (wn rfl) rfl rfl S (y_lens rfl Try.underlying22 S H rfl) fun a S => ?_)
    refine wl_of (op_y (wn rfl) rfl rfl S (y_move rfl S rfl) fun a S => ?_)
    refine wl_of (op_y (wn rfl) rfl rfl S (y_bin rfl S rfl rfl rfl) fun a S => ?_)
    refine wl_of (op_y (wn rfl) rfl rfl S (y_assign rfl S rfl) fun a S => ?_)
    refine gl_nil ?_
    refine n_then ?_
    have S := S.nil.cons S 4 rfl
    refine g_ret ?_
    refine ret1 rfl S rfl ?_
    exact ⟨congrArg Value.bool (few_end n (fun j hj => hno j hj (by omega))).symm, H.toExt⟩
/-- foyer/foyerref35.Rank -/
theorem rank_spec (v : Value) (ps : List (Value × List Int)) (i : Nat) (t : Int) (w0 : World) (hv : IsSl w0 v 1 encRow ps) (hr : ∀ p ∈ ps, IsSl w0 p.1 1 encI p.2) (hi0 : i < ps.length) (hrb : ps[i].2.length ≤ 1000000) :
    Ret Try.prog 22 #[v, .int .i64 (i : Int), .int .i64 t] w0 (fun u w => u = .int .i64 (rankL ps[i].2 i t : Int) ∧ Ext w0 w) := by
  refine ret_of_wp (nt := 34) Try.func22 rfl rfl rfl (fl := [(0, v), (1, .int .i64 (i : Int)), (2, .int .i64 t)]) rfl (fun a S => ?_)
  have H := HSat.start w0
  have H := H.ro0 (Sl v 1 encRow ps) rfl (hv)
  have H := H.ro0 (RowsS 1 encI ps) rfl (hr)
  have hl := hv.len
  have hrl := (hr _ (List.getElem_mem hi0)).len
  refine g_seq ?_
  -- region 0 ref.go:25
  refine g_region ?_
  refine wl_of (op_y (wn rfl) rfl rfl S (y_assign rfl S rfl) fun a S => ?_)
  refine gl_nil ?_
  refine n_then ?_
  refine g_seq ?_
  -- region 1 ref.go:26
  refine g_region ?_
  refine wl_of (op_y (wn rfl) rfl rfl S (y_move rfl S rfl) fun a S => ?_)
  refine wl_of (op_y (wn rfl) rfl rfl S (y_move rfl S rfl) fun a S => ?_)
  refine wl_of (op_y (wn rfl) rfl rfl S (y_iaddrn rfl Try.underlying22 Fsiz23 S H rfl rfl (by first | assumption | omega | (simp only [List.length_append, List.length_take, List.length_drop, List.length_replicate, List.length_set, List.length_map, List.length_cons, List.length_nil]; omega))) fun a S => ?_)
  refine wl_of (op_y (wn rfl) rfl rfl S (y_loads _ rfl Fsca23 S H rfl (by first | assumption | omega | (simp only [List.length_append, List.length_take, List.length_drop, List.length_replicate, List.length_set, List.length_map, List.length_cons, List.length_nil]; omega)) rfl) fun a S => ?_)
  refine wl_of (op_y (wn rfl) rfl rfl S (y_assign rfl S rfl) fun a S => ?_)
  refine gl_nil ?_
  refine n_then ?_
  have S := (((S.nil.cons S 2 rfl).cons S 1 rfl).cons S 6 rfl).cons S 7 rfl
  refine g_seq ?_
  refine g_seq ?_
  -- region 2 ref.go:27
  refine g_region ?_
  refine wl_of (op_y (wn rfl) rfl rfl S (y_assign rfl S rfl) fun a S => ?_)
  refine gl_nil ?_
  refine n_then ?_
  refine g_block ?_
  -- slots written in the loop and forgotten at its head: [6]
  have SU := ((S.nil.cons S 2 rfl).cons S 1 rfl).cons S 7 rfl
  refine loop_k (X := Nat) SU (fun k => [(8, .int .i64 (k : Int))]) (fun k => k ≤ ps[i].2.length ∧ ∀ j, j < k → atI ps[i].2 j ≠ t) (fun k => ps[i].2.length - k) 0 (S.nil.cons S 8 rfl) H (⟨by omega, fun j hj => by omega⟩) (fun k a w S H hi => ?_)
  simp only [List.cons_append, List.nil_append] at S hi
  obtain ⟨hk, hno⟩ := hi
  refine g_seq ?_
  refine g_seq ?_
  -- region 3 ref.go:27
  refine g_region ?_
  refine wl_of (op_y (wn rfl) rfl rfl S (y_move rfl S rfl) fun a S => ?_)
  refine wl_of (op_y (wn rfl) rfl rfl S (y_move rfl S rfl) fun a S => ?_)
  refine wl_of (op_y (wn rfl) rfl rfl S (y_lens rfl Try.underlying23 S H rfl) fun a S => ?_)
  refine wl_of (op_y (wn rfl) rfl rfl S (y_bin rfl S rfl rfl rfl) fun a S => ?_)
  refine gl_nil ?_
  refine n_then ?_
  -- cond 1
  refine c_if S rfl (fun h1 => ?_) (fun h1 => ?_)
  · have h1p := h1; try simp only [Option.isNone_some, Option.isNone_none, Option.isSome_some, Option.isSome_none, false_or, or_false, true_and, and_true, decide_eq_true_eq, decide_eq_false_iff_not, Bool.or_eq_true, Bool.and_eq_true, Bool.or_eq_false_iff, Bool.and_eq_false_iff, Bool.not_eq_true', Bool.not_eq_false', bne_iff_ne, beq_iff_eq, beq_eq_false_iff_ne, bne_eq_false_iff_eq, ne_eq, Decidable.not_not, Int.not_lt, Int.not_le, gt_iff_lt, ge_iff_le, Bool.true_eq_false, Bool.false_eq_true, not_true_eq_false, not_false_eq_true] at h1p
    have hkl : k < ps[i].2.length := by omega
    refine g_skip ?_
    refine n_then ?_
    refine g_seq ?_
    refine g_block ?_
    refine g_seq ?_
    -- region 5 ref.go:28
    refine g_region ?_
    refine wl_of (op_y (wn rfl) rfl rfl S (y_move rfl S rfl) fun a S => ?_)
    refine wl_of (op_y (wn rfl) rfl rfl S (y_move rfl S rfl) fun a S => ?_)
    refine wl_of (op_y (wn rfl) rfl rfl S (y_iaddrn rfl Try.underlying23 Fsiz3 S H rfl rfl (by first | assumption | omega | (simp only [List.length_append, List.length_take, List.length_drop, List.length_replicate, List.length_set, List.length_map, List.length_cons, List.length_nil]; omega))) fun a S => ?_)
    refine wl_of (op_y (wn rfl) rfl rfl S (y_loads _ rfl Fsca3 S H rfl (by first | assumption | omega | (simp only [List.length_append, List.length_take, List.length_drop, List.length_replicate, List.length_set, List.length_map, List.length_cons, List.length_nil]; omega)) rfl) fun a S => ?_)
    refine wl_of (op_y (wn rfl) rfl rfl S (y_move rfl S rfl) fun a S => ?_)
    refine wl_of (op_y (wn rfl) rfl rfl S (y_bin rfl S rfl rfl rfl) fun a S => ?_)
    refine gl_nil ?_
    refine n_then ?_
    -- cond 2
    refine c_if S rfl (fun h2 => ?_) (fun h2 => ?_)
    · have h2p := h2; try simp only [Option.isNone_some, Option.isNone_none, Option.isSome_some, Option.isSome_none, false_or, or_false, true_and, and_true, decide_eq_true_eq, decide_eq_false_iff_not, Bool.or_eq_true, Bool.and_eq_true, Bool.or_eq_false_iff, Bool.and_eq_false_iff, Bool.not_eq_true', Bool.not_eq_false', bne_iff_ne, beq_iff_eq, beq_eq_false_iff_ne, bne_eq_false_iff_eq, ne_eq, Decidable.not_not, Int.not_lt, Int.not_le, gt_iff_lt, ge_iff_le, Bool.true_eq_false, Bool.false_eq_true, not_true_eq_false, not_false_eq_true] at h2p
      refine g_seq ?_
      -- region 6 ref.go:29
      refine g_region ?_
      refine wl_of (op_y (wn rfl) rfl rfl S (y_move rfl S rfl) fun a S => ?_)
      refine wl_of (op_y (wn rfl) rfl rfl S (y_assign rfl S rfl) fun a S => ?_)
      refine gl_nil ?_
      refine n_then ?_
      refine g_ret ?_
      refine r_block (r_then (r_then (r_block (r_then (ret1 rfl S rfl ?_)))))
      exact ⟨by rw [rankL, findL_some.2 ⟨hkl, by rw [atI_eq hkl]; exact h2p, hno⟩], H.toExt⟩
    · have h2p := h2; try simp only [Option.isNone_some, Option.isNone_none, Option.isSome_some, Option.isSome_none, false_or, or_false, true_and, and_true, decide_eq_true_eq, decide_eq_false_iff_not, Bool.or_eq_true, Bool.and_eq_true, Bool.or_eq_false_iff, Bool.and_eq_false_iff, Bool.not_eq_true', Bool.not_eq_false', bne_iff_ne, beq_iff_eq, beq_eq_false_iff_ne, bne_eq_false_iff_eq, ne_eq, Decidable.not_not, Int.not_lt, Int.not_le, gt_iff_lt, ge_iff_le, Bool.true_eq_false, Bool.false_eq_true, not_true_eq_false, not_false_eq_true] at h2p
      refine g_skip ?_
      refine n_block ?_
      refine n_then ?_
      -- region 4 ref.go:27
      refine g_region ?_
      refine wl_of (op_y (wn rfl) rfl rfl S (y_move rfl S rfl) fun a S => ?_)
      refine wl_of (op_y (wn rfl) rfl rfl S (y_add rfl S rfl rfl (by omega)) fun a S => ?_)
      refine wl_of (op_y (wn rfl) rfl rfl S (y_assign rfl S rfl) fun a S => ?_)
      refine gl_nil ?_
      refine n_then ?_
      refine ⟨k + 1, S.nil.cons S 8 rfl, ((S.nil.cons S 2 rfl).cons S 1 rfl).cons S 7 rfl, H, ?_, ?_⟩
      · exact ⟨by omega, fun j hj => by by_cases hjk : j < k; exact hno j hjk; (obtain rfl : j = k := by omega); rw [atI_eq (by omega)]; exact h2p⟩
      · omega
  · have h1p := h1; try simp only [Option.isNone_some, Option.isNone_none, Option.isSome_some, Option.isSome_none, false_or, or_false, true_and, and_true, decide_eq_true_eq, decide_eq_false_iff_not, Bool.or_eq_true, Bool.and_eq_true, Bool.or_eq_false_iff, Bool.and_eq_false_iff, Bool.not_eq_true', Bool.not_eq_false', bne_iff_ne, beq_iff_eq, beq_eq_false_iff_ne, bne_eq_false_iff_eq, ne_eq, Decidable.not_not, Int.not_lt, Int.not_le, gt_iff_lt, ge_iff_le, Bool.true_eq_false, Bool.false_eq_true, not_true_eq_false, not_false_eq_true] at h1p
    have hfn : findL ps[i].2 t = none := findL_none.2 (fun hm => by obtain ⟨q, hq, e⟩ := mem_at hm; exact hno q (by omega) e)
    refine g_exit ?_
    refine x_then (x_then (x_eq ?_))
    refine n_then ?_
    have S := ((S.nil.cons S 2 rfl).cons S 1 rfl).cons S 7 rfl
    refine g_seq ?_
    refine g_seq ?_
    -- region 7 ref.go:32
    refine g_region ?_
    refine wl_of (op_y (wn rfl) rfl rfl S (y_move rfl S rfl) fun a S => ?_)
    refine wl_of (op_y (wn rfl) rfl rfl S (y_move rfl S rfl) fun a S => ?_)
    refine wl_of (op_y (wn rfl) rfl rfl S (y_bin rfl S rfl rfl rfl) fun a S => ?_)
    refine gl_nil ?_
    refine n_then ?_
    have S := (S.nil.cons S 7 rfl).cons S 28 rfl
    -- cond 3
    refine c_if S rfl (fun h3 => ?_) (fun h3 => ?_)
    · have h3p := h3; try simp only [Option.isNone_some, Option.isNone_none, Option.isSome_some, Option.isSome_none, false_or, or_false, true_and, and_true, decide_eq_true_eq, decide_eq_false_iff_not, Bool.or_eq_true, Bool.and_eq_true, Bool.or_eq_false_iff, Bool.and_eq_false_iff, Bool.not_eq_true', Bool.not_eq_false', bne_iff_ne, beq_iff_eq, beq_eq_false_iff_ne, bne_eq_false_iff_eq, ne_eq, Decidable.not_not, Int.not_lt, Int.not_le, gt_iff_lt, ge_iff_le, Bool.true_eq_false, Bool.false_eq_true, not_true_eq_false, not_false_eq_true] at h3p
      refine g_seq ?_
      -- region 8 ref.go:33
      refine g_region ?_
      refine wl_of (op_y (wn rfl) rfl rfl S (y_move rfl S rfl) fun a S => ?_)
      refine wl_of (op_y (wn rfl) rfl rfl S (y_lens rfl Try.underlying23 S H rfl) fun a S => ?_)
      refine wl_of (op_y (wn rfl) rfl rfl S (y_assign rfl S rfl) fun a S => ?_)
      refine gl_nil ?_
      refine n_then ?_
      refine g_ret ?_
      refine r_then (ret1 rfl S rfl ?_)
      exact ⟨by rw [rankL, hfn]; simp only; rw [if_pos (show t = (i : Int) from h3p)], H.toExt⟩
    · have h3p := h3; try simp only [Option.isNone_some, Option.isNone_none, Option.isSome_some, Option.isSome_none, false_or, or_false, true_and, and_true, decide_eq_true_eq, decide_eq_false_iff_not, Bool.or_eq_true, Bool.and_eq_true, Bool.or_eq_false_iff, Bool.and_eq_false_iff, Bool.not_eq_true', Bool.not_eq_false', bne_iff_ne, beq_iff_eq, beq_eq_false_iff_ne, bne_eq_false_iff_eq, ne_eq, Decidable.not_not, Int.not_lt, Int.not_le, gt_iff_lt, ge_iff_le, Bool.true_eq_false, Bool.false_eq_true, not_true_eq_false, not_false_eq_true] at h3p
      refine g_skip ?_
      refine n_then ?_
      refine g_seq ?_
      -- region 9 ref.go:35
      refine g_region ?_
      refine wl_of (op_y (wn rfl) rfl rfl S (y_move rfl S rfl) fun a S => ?_)
      refine wl_of (op_y (wn rfl) rfl rfl S (y_lens rfl Try.underlying23 S H rfl) fun a S => ?_)
      refine wl_of (op_y (wn rfl) rfl rfl S (y_add rfl S rfl rfl (by omega)) fun a S => ?_)
      refine wl_of (op_y (wn rfl) rfl rfl S (y_assign rfl S rfl) fun a S => ?_)
      refine gl_nil ?_
      refine n_then ?_
      have S := S.nil.cons S 6 rfl
      refine g_ret ?_
      refine ret1 rfl S rfl ?_
      exact ⟨by rw [rankL, hfn]; simp only; rw [if_neg (show ¬ t = (i : Int) from h3p)]; rfl, H.toExt⟩
/-- foyer/foyerref35.Accepts -/
theorem accepts_spec (v : Value) (ps : List (Value × List Int)) (i : Nat) (t : Int) (w0 : World) (hv : IsSl w0 v 1 encRow ps) (hr : ∀ p ∈ ps, IsSl w0 p.1 1 encI p.2) (hi0 : i < ps.length) (hrb : ps[i].2.length ≤ 1000000) :
    Ret Try.prog 20 #[v, .int .i64 (i : Int), .int .i64 t] w0 (fun u w => u = .bool (decide (rankL ps[i].2 i t ≤ rankL ps[i].2 i i)) ∧ Ext w0 w) := by
  refine ret_of_wp (nt := 16) Try.func20 rfl rfl rfl (fl := [(0, v), (1, .int .i64 (i : Int)), (2, .int .i64 t)]) rfl (fun a S => ?_)
  have H := HSat.start w0
  have H := H.ro0 (Sl v 1 encRow ps) rfl (hv)
  have H := H.ro0 (RowsS 1 encI ps) rfl (hr)
  refine g_seq ?_
  -- region 0 ref.go:39
  refine g_region ?_
  refine wl_of (op_y (wn rfl) rfl rfl S (y_assign rfl S rfl) fun a S => ?_)
  refine gl_nil ?_
  refine n_then ?_
  refine g_seq ?_
  -- region 1 ref.go:39
  refine g_region ?_
  refine wl_of (op_y (wn rfl) rfl rfl S (y_move rfl S rfl) fun a S => ?_)
  refine wl_of (op_y (wn rfl) rfl rfl S (y_move rfl S rfl) fun a S => ?_)
  refine wl_of (op_y (wn rfl) rfl rfl S (y_move rfl S rfl) fun a S => ?_)
  refine wl_of (op_call (wn rfl) rfl rfl S (co_func rfl Try.call22 S rfl) (rank_spec v ps i t _ (H.sl v) (H.rwsS ps) hi0 hrb) fun v w hc a S => ?_)
  obtain ⟨rfl, he⟩ := hc
  have H := H.ext he
  refine wl_of (op_y (wn rfl) rfl rfl S (y_move rfl S rfl) fun a S => ?_)
  refine wl_of (op_y (wn rfl) rfl rfl S (y_move rfl S rfl) fun a S => ?_)
  refine wl_of (op_y (wn rfl) rfl rfl S (y_move rfl S rfl) fun a S => ?_)
  refine wl_of (op_call (wn rfl) rfl rfl S (co_func rfl Try.call22 S rfl) (rank_spec v ps i i _ (H.sl v) (H.rwsS ps) hi0 hrb) fun v w hc a S => ?_)
  obtain ⟨rfl, he⟩ := hc
  have H := H.ext he
  refine wl_of (op_y (wn rfl) rfl rfl S (y_bin rfl S rfl rfl rfl) fun a S => ?_)
  refine wl_of (op_y (wn rfl) rfl rfl S (y_assign rfl S rfl) fun a S => ?_)
  refine gl_nil ?_
  refine n_then ?_
  have S := S.nil.cons S 6 rfl
  refine g_ret ?_
  refine ret1 rfl S rfl ?_
  exact ⟨congrArg Value.bool (decide_eq_decide.2 Int.ofNat_le), H.toExt⟩
/-- foyer/pool.right -/
theorem right_spec (v : Value) (ps : List (Value × List Int)) (w0 : World) (hv : IsSl w0 v 1 encRow ps) (hr : ∀ p ∈ ps, IsSl w0 p.1 1 encI p.2) :
    Ret Try.prog 23 #[v] w0 (fun u w => u = .bool (rightW (gr ps)) ∧ Ext w0 w) := by
  refine ret_of_wp (nt := 38) Try.func23 rfl rfl rfl (fl := [(0, v)]) rfl (fun a S => ?_)
  have H := HSat.start w0
  have H := H.ro0 (Sl v 1 encRow ps) rfl (hv)
  have H := H.ro0 (RowsS 1 encI ps) rfl (hr)
  have hl := hv.len
  refine g_seq ?_
  -- region 0 pool.go:11
  refine g_region ?_
  refine wl_of (op_y (wn rfl) rfl rfl S (y_assign rfl S rfl) fun a S => ?_)
  refine gl_nil ?_
  refine n_then ?_
  refine g_seq ?_
  refine g_seq ?_
  -- region 1 pool.go:12
  refine g_region ?_
  refine wl_of (op_y (wn rfl) rfl rfl S (y_move rfl S rfl) fun a S => ?_)
  refine wl_of (op_y (wn rfl) rfl rfl S (y_lens rfl Try.underlying22 S H rfl) fun a S => ?_)
  refine wl_of (op_y (wn rfl) rfl rfl S (y_move rfl S rfl) fun a S => ?_)
  refine gl_nil ?_
  refine n_then ?_
  refine g_block ?_
  -- slots written in the loop and forgotten at its head: [2]
  have SU := ((S.nil.cons S 0 rfl).cons S 8 rfl).cons S 9 rfl
  refine loopW (X := Nat) SU (fun k => [(10, .int .i64 (k : Int))]) (fun k w => k ≤ ps.length ∧ (∀ i (h : i < ps.length), i < k → RowOK ps.length ps[i].2) ∧ HSat No w0 [RowsS 1 encI ps, Sl v 1 encRow ps] w) (fun k => ps.length - k) 0 (S.nil.cons S 10 rfl) (⟨by omega, fun i h hi => by omega, H⟩) (fun k a w S hW => ?_)
  simp only [List.cons_append, List.nil_append] at S
  obtain ⟨hk, hno, H⟩ := hW
  refine g_seq ?_
  -- region 2 pool.go:12
  refine g_region ?_
  refine wl_of (op_y (wn rfl) rfl rfl S (y_bin rfl S rfl rfl rfl) fun a S => ?_)
  refine gl_nil ?_
  refine n_then ?_
  refine g_seq ?_
  -- cond 1
  refine c_if S rfl (fun h1 => ?_) (fun h1 => ?_)
  · have h1p := h1; try simp only [Option.isNone_some, Option.isNone_none, Option.isSome_some, Option.isSome_none, false_or, or_false, true_and, and_true, decide_eq_true_eq, decide_eq_false_iff_not, Bool.or_eq_true, Bool.and_eq_true, Bool.or_eq_false_iff, Bool.and_eq_false_iff, Bool.not_eq_true', Bool.not_eq_false', bne_iff_ne, beq_iff_eq, beq_eq_false_iff_ne, bne_eq_false_iff_eq, ne_eq, Decidable.not_not, Int.not_lt, Int.not_le, gt_iff_lt, ge_iff_le, Bool.true_eq_false, Bool.false_eq_true, not_true_eq_false, not_false_eq_true] at h1p
    have hkp : k < ps.length := by omega
    have hrl := (hr _ (List.getElem_mem hkp)).len
    refine g_skip ?_
    refine n_then ?_
    refine g_seq ?_
    refine g_block ?_
    refine g_seq ?_
    -- region 3 pool.go:12
    refine g_region ?_
    refine wl_of (op_y (wn rfl) rfl rfl S (y_iaddrn rfl Try.underlying22 Fsiz23 S H rfl rfl (by first | assumption | omega | (simp only [List.length_append, List.length_take, List.length_drop, List.length_replicate, List.length_set, List.length_map, List.length_cons, List.length_nil]; omega))) fun a S => ?_)
    refine wl_of (op_y (wn rfl) rfl rfl S (y_loads _ rfl Fsca23 S H rfl (by first | assumption | omega | (simp only [List.length_append, List.length_take, List.length_drop, List.length_replicate, List.length_set, List.length_map, List.length_cons, List.length_nil]; omega)) rfl) fun a S => ?_)
    refine wl_of (op_y (wn rfl) rfl rfl S (y_assign rfl S rfl) fun a S => ?_)
    refine gl_nil ?_
    refine n_then ?_
    refine g_seq ?_
    -- region 4 pool.go:13
    refine g_region ?_
    refine wl_of (op_makeMap (fun n : Int => .int .i64 n) (fun b : Bool => .bool b) (wn rfl) rfl rfl rfl S H fun b14 a w S H => ?_)
    refine wl_of (op_y (wn rfl) rfl rfl S (y_assign rfl S rfl) fun a S => ?_)
    refine gl_nil ?_
    refine n_then ?_
    refine g_seq ?_
    -- region 5 pool.go:14
    refine g_region ?_
    refine wl_of (op_y (wn rfl) rfl rfl S (y_move rfl S rfl) fun a S => ?_)
    refine wl_of (op_y (wn rfl) rfl rfl S (y_lens rfl Try.underlying23 S H rfl) fun a S => ?_)
    refine wl_of (op_y (wn rfl) rfl rfl S (y_move rfl S rfl) fun a S => ?_)
    refine gl_nil ?_
    refine n_then ?_
    refine g_block ?_
    have H : HSat No w0 [MapA b14 (fun n : Int => .int .i64 n) (fun b : Bool => .bool b) (memS ((ps[k].2.take 0).reverse)) 0, RowsS 1 encI ps, Sl v 1 encRow ps] _ := H
    have SU := (((((((((((S.nil.cons S 0 rfl).cons S 8 rfl).cons S 9 rfl).cons S 10 rfl).cons S 11 rfl).cons S 12 rfl).cons S 13 rfl).cons S 4 rfl).cons S 14 rfl).cons S 5 rfl).cons S 15 rfl).cons S 16 rfl
    refine loopW (X := Nat) SU (fun q => [(17, .int .i64 (q : Int))]) (fun q w => q ≤ ps[k].2.length ∧ (∀ j, j < q → (0 ≤ atI ps[k].2 j ∧ atI ps[k].2 j < ps.length) ∧ ∀ p, p < j → atI ps[k].2 p ≠ atI ps[k].2 j) ∧ ∃ c, HSat No w0 [MapA b14 (fun n : Int => .int .i64 n) (fun b : Bool => .bool b) (memS ((ps[k].2.take q).reverse)) c, RowsS 1 encI ps, Sl v 1 encRow ps] w) (fun q => ps[k].2.length - q) 0 (S.nil.cons S 17 rfl) (⟨by omega, fun j hj => by omega, 0, H⟩) (fun q a w S hW => ?_)
    simp only [List.cons_append, List.nil_append] at S
    clear H
    obtain ⟨hq, hpre, c, H⟩ := hW
    refine g_seq ?_
    -- region 6 pool.go:14
    refine g_region ?_
    refine wl_of (op_y (wn rfl) rfl rfl S (y_bin rfl S rfl rfl rfl) fun a S => ?_)
    refine gl_nil ?_
    refine n_then ?_
    refine g_seq ?_
    -- cond 2
    refine c_if S rfl (fun h2 => ?_) (fun h2 => ?_)
    · have h2p := h2; try simp only [Option.isNone_some, Option.isNone_none, Option.isSome_some, Option.isSome_none, false_or, or_false, true_and, and_true, decide_eq_true_eq, decide_eq_false_iff_not, Bool.or_eq_true, Bool.and_eq_true, Bool.or_eq_false_iff, Bool.and_eq_false_iff, Bool.not_eq_true', Bool.not_eq_false', bne_iff_ne, beq_iff_eq, beq_eq_false_iff_ne, bne_eq_false_iff_eq, ne_eq, Decidable.not_not, Int.not_lt, Int.not_le, gt_iff_lt, ge_iff_le, Bool.true_eq_false, Bool.false_eq_true, not_true_eq_false, not_false_eq_true] at h2p
      have hql : q < ps[k].2.length := by omega
      have hat := atI_eq hql
      have hnb := not_before hql
      refine g_skip ?_
      refine n_then ?_
      refine g_seq ?_
      refine g_block ?_
      refine g_seq ?_
      -- region 7 pool.go:14
      refine g_region ?_
      refine wl_of (op_y (wn rfl) rfl rfl S (y_iaddrn rfl Try.underlying23 Fsiz3 S H rfl rfl (by first | assumption | omega | (simp only [List.length_append, List.length_take, List.length_drop, List.length_replicate, List.length_set, List.length_map, List.length_cons, List.length_nil]; omega))) fun a S => ?_)
      refine wl_of (op_y (wn rfl) rfl rfl S (y_loads _ rfl Fsca3 S H rfl (by first | assumption | omega | (simp only [List.length_append, List.length_take, List.length_drop, List.length_replicate, List.length_set, List.length_map, List.length_cons, List.length_nil]; omega)) rfl) fun a S => ?_)
      refine wl_of (op_y (wn rfl) rfl rfl S (y_assign rfl S rfl) fun a S => ?_)
      refine gl_nil ?_
      refine n_then ?_
      refine g_seq ?_
      refine g_seq ?_
      -- region 8 pool.go:15
      refine g_region ?_
      refine wl_of (op_y (wn rfl) rfl rfl S (y_move rfl S rfl) fun a S => ?_)
      refine wl_of (op_y (wn rfl) rfl rfl S (y_bin rfl S rfl rfl rfl) fun a S => ?_)
      refine wl_of (op_y (wn rfl) rfl rfl S (y_move rfl S rfl) fun a S => ?_)
      refine' wl_or 4 23 rfl S H rfl rfl rfl rfl rfl rfl rfl (fun _ S => (wn rfl)) (fun h3 kk => ?yh3) (fun a w S H => ?_)
      case yh3 =>
        have h3p := h3; try simp only [Option.isNone_some, Option.isNone_none, Option.isSome_some, Option.isSome_none, false_or, or_false, true_and, and_true, decide_eq_true_eq, decide_eq_false_iff_not, Bool.or_eq_true, Bool.and_eq_true, Bool.or_eq_false_iff, Bool.and_eq_false_iff, Bool.not_eq_true', Bool.not_eq_false', bne_iff_ne, beq_iff_eq, beq_eq_false_iff_ne, bne_eq_false_iff_eq, ne_eq, Decidable.not_not, Int.not_lt, Int.not_le, gt_iff_lt, ge_iff_le, Bool.true_eq_false, Bool.false_eq_true, not_true_eq_false, not_false_eq_true] at h3p
        refine wl_of (op_y (wg' 23 rfl rfl S rfl h3 rfl) rfl rfl S (y_move rfl S rfl) fun a S => ?_)
        refine wl_of (op_y (wg' 23 rfl rfl S rfl h3 rfl) rfl rfl S (y_move rfl S rfl) fun a S => ?_)
        refine wl_of (op_y (wg' 23 rfl rfl S rfl h3 rfl) rfl rfl S (y_lens rfl Try.underlying22 S H rfl) fun a S => ?_)
        refine wl_of (op_y (wg' 23 rfl rfl S rfl h3 rfl) rfl rfl S (y_bin rfl S rfl rfl rfl) fun a S => ?_)
        refine wl_of (op_y (wn rfl) rfl rfl S (y_or' rfl h3 S rfl rfl) fun a S => ?_)
        exact kk _ _ (S.join 5 28 rfl rfl) H
      refine wl_of (op_y (wn rfl) rfl rfl S (y_move rfl S rfl) fun a S => ?_)
      refine' wl_or 3 29 rfl S H rfl rfl rfl rfl rfl rfl rfl (fun _ S => (wn rfl)) (fun h4 kk => ?yh4) (fun a w S H => ?_)
      case yh4 =>
        have h4p := h4; try simp only [Option.isNone_some, Option.isNone_none, Option.isSome_some, Option.isSome_none, false_or, or_false, true_and, and_true, decide_eq_true_eq, decide_eq_false_iff_not, Bool.or_eq_true, Bool.and_eq_true, Bool.or_eq_false_iff, Bool.and_eq_false_iff, Bool.not_eq_true', Bool.not_eq_false', bne_iff_ne, beq_iff_eq, beq_eq_false_iff_ne, bne_eq_false_iff_eq, ne_eq, Decidable.not_not, Int.not_lt, Int.not_le, gt_iff_lt, ge_iff_le, Bool.true_eq_false, Bool.false_eq_true, not_true_eq_false, not_false_eq_true] at h4p
        refine wl_of (op_y (wg' 29 rfl rfl S rfl h4 rfl) rfl rfl S (y_move rfl S rfl) fun a S => ?_)
        refine wl_of (op_y (wg' 29 rfl rfl S rfl h4 rfl) rfl rfl S (y_move rfl S rfl) fun a S => ?_)
        refine wl_of (op_y (wg' 29 rfl rfl S rfl h4 rfl) rfl rfl S (y_lookup _ (false) rfl Try.underlying45 Finf4 S H rfl (keyOK_int Try.underlying3) (by exact rfl) (by exact rfl)) fun a S => ?_)
        refine wl_of (op_y (wn rfl) rfl rfl S (y_or' rfl h4 S rfl rfl) fun a S => ?_)
        exact kk _ _ (S.join 4 33 rfl rfl) H
      refine gl_nil ?_
      refine n_then ?_
      -- cond 3
      refine c_if S rfl (fun h5 => ?_) (fun h5 => ?_)
      · have h5p := h5; try simp only [Option.isNone_some, Option.isNone_none, Option.isSome_some, Option.isSome_none, false_or, or_false, true_and, and_true, decide_eq_true_eq, decide_eq_false_iff_not, Bool.or_eq_true, Bool.and_eq_true, Bool.or_eq_false_iff, Bool.and_eq_false_iff, Bool.not_eq_true', Bool.not_eq_false', bne_iff_ne, beq_iff_eq, beq_eq_false_iff_ne, bne_eq_false_iff_eq, ne_eq, Decidable.not_not, Int.not_lt, Int.not_le, gt_iff_lt, ge_iff_le, Bool.true_eq_false, Bool.false_eq_true, not_true_eq_false, not_false_eq_true] at h5p
        have hx := h5
        rw [memS_get] at hx
        simp only [Bool.or_eq_true, decide_eq_true_eq, List.mem_reverse] at hx
        refine g_seq ?_
        -- region 9 pool.go:16
        refine g_region ?_
        refine wl_of (op_y (wn rfl) rfl rfl S (y_assign rfl S rfl) fun a S => ?_)
        refine gl_nil ?_
        refine n_then ?_
        refine g_ret ?_
        refine r_then (r_block (r_then (r_then (r_block (r_block (r_then (r_then (r_block (r_then (ret1 rfl S rfl ?_))))))))))
        exact ⟨congrArg Value.bool (right_no k q hkp hql (fun h => by rw [hat] at h; rcases hx with (hx | hx) | hx; omega; omega; exact hnb.1 (by rw [hat]; exact h.2) hx)).symm, H.toExt⟩
      · have h5p := h5; try simp only [Option.isNone_some, Option.isNone_none, Option.isSome_some, Option.isSome_none, false_or, or_false, true_and, and_true, decide_eq_true_eq, decide_eq_false_iff_not, Bool.or_eq_true, Bool.and_eq_true, Bool.or_eq_false_iff, Bool.and_eq_false_iff, Bool.not_eq_true', Bool.not_eq_false', bne_iff_ne, beq_iff_eq, beq_eq_false_iff_ne, bne_eq_false_iff_eq, ne_eq, Decidable.not_not, Int.not_lt, Int.not_le, gt_iff_lt, ge_iff_le, Bool.true_eq_false, Bool.false_eq_true, not_true_eq_false, not_false_eq_true] at h5p
        have hx := h5
        rw [memS_get] at hx
        simp only [Bool.or_eq_false_iff, decide_eq_false_iff_not, List.mem_reverse] at hx
        refine g_skip ?_
        refine n_then ?_
        -- region 10 pool.go:18
        refine g_region ?_
        refine wl_of (op_y (wn rfl) rfl rfl S (y_move rfl S rfl) fun a S => ?_)
        refine wl_of (op_y (wn rfl) rfl rfl S (y_move rfl S rfl) fun a S => ?_)
        refine wl_of (op_mapUpdate _ (_) (wn rfl) rfl rfl Try.underlying45 S H rfl (keyOK_int Try.underlying3) (by exact rfl) (by exact rfl) fun a w S H => ?_)
        refine gl_nil ?_
        refine n_block ?_
        refine n_then ?_
        -- region 11 pool.go:14
        refine g_region ?_
        refine wl_of (op_y (wn rfl) rfl rfl S (y_add rfl S rfl rfl (by omega)) fun a S => ?_)
        refine wl_of (op_y (wn rfl) rfl rfl S (y_move rfl S rfl) fun a S => ?_)
        refine gl_nil ?_
        refine n_then ?_
        refine ⟨q + 1, S.nil.cons S 17 rfl, (((((((((((S.nil.cons S 0 rfl).cons S 8 rfl).cons S 9 rfl).cons S 10 rfl).cons S 11 rfl).cons S 12 rfl).cons S 13 rfl).cons S 4 rfl).cons S 14 rfl).cons S 5 rfl).cons S 15 rfl).cons S 16 rfl, ⟨by omega, fun j hj => ?_, ?_⟩, by omega⟩
        · by_cases hj2 : j < q
          · exact hpre j hj2
          · obtain rfl : j = q := by omega
            exact ⟨by rw [hat]; omega, hnb.2 hx.2⟩
        · rw [take_rev hql]; exact ⟨_, H⟩
    · have h2p := h2; try simp only [Option.isNone_some, Option.isNone_none, Option.isSome_some, Option.isSome_none, false_or, or_false, true_and, and_true, decide_eq_true_eq, decide_eq_false_iff_not, Bool.or_eq_true, Bool.and_eq_true, Bool.or_eq_false_iff, Bool.and_eq_false_iff, Bool.not_eq_true', Bool.not_eq_false', bne_iff_ne, beq_iff_eq, beq_eq_false_iff_ne, bne_eq_false_iff_eq, ne_eq, Decidable.not_not, Int.not_lt, Int.not_le, gt_iff_lt, ge_iff_le, Bool.true_eq_false, Bool.false_eq_true, not_true_eq_false, not_false_eq_true] at h2p
      have hrow : RowOK ps.length ps[k].2 := fun j hj => hpre j (by omega)
      refine g_exit ?_
      refine x_then (x_then (x_eq ?_))
      refine n_block ?_
      refine n_then ?_
      -- region 12 pool.go:12
      refine g_region ?_
      refine wl_of (op_y (wn rfl) rfl rfl S (y_add rfl S rfl rfl (by omega)) fun a S => ?_)
      refine wl_of (op_y (wn rfl) rfl rfl S (y_move rfl S rfl) fun a S => ?_)
      refine gl_nil ?_
      refine n_then ?_
      exact ⟨k + 1, S.nil.cons S 10 rfl, ((S.nil.cons S 0 rfl).cons S 8 rfl).cons S 9 rfl, ⟨by omega, fun i h hik => by by_cases hi2 : i < k; exact hno i h hi2; (obtain rfl : i = k := by omega); exact hrow, H.take [RowsS 1 encI ps, Sl v 1 encRow ps]⟩, by omega⟩
  · have h1p := h1; try simp only [Option.isNone_some, Option.isNone_none, Option.isSome_some, Option.isSome_none, false_or, or_false, true_and, and_true, decide_eq_true_eq, decide_eq_false_iff_not, Bool.or_eq_true, Bool.and_eq_true, Bool.or_eq_false_iff, Bool.and_eq_false_iff, Bool.not_eq_true', Bool.not_eq_false', bne_iff_ne, beq_iff_eq, beq_eq_false_iff_ne, bne_eq_false_iff_eq, ne_eq, Decidable.not_not, Int.not_lt, Int.not_le, gt_iff_lt, ge_iff_le, Bool.true_eq_false, Bool.false_eq_true, not_true_eq_false, not_false_eq_true] at h1p
    refine g_exit ?_
    refine x_then (x_then (x_eq ?_))
    refine n_then ?_
    have S := S.nil
    refine g_seq ?_
    -- region 13 pool.go:21
    refine g_region ?_
    refine wl_of (op_y (wn rfl) rfl rfl S (y_assign rfl S rfl) fun a S => ?_)
    refine gl_nil ?_
    refine n_then ?_
    refine g_ret ?_
    refine ret1 rfl S rfl ?_
    exact ⟨congrArg Value.bool (right_yes (fun i hi => hno i hi (by omega))).symm, H.toExt⟩
set_option maxHeartbeats 1000000 in
/-- foyer/foyerref35.Right -/
theorem rright_spec (v : Value) (ps : List (Value × List Int)) (w0 : World) (hv : IsSl w0 v 1 encRow ps) (hr : ∀ p ∈ ps, IsSl w0 p.1 1 encI p.2) (hlp : ps.length ≤ 1000000) :
    Ret Try.prog 18 #[v] w0 (fun u w => u = .bool (rightW (gr ps)) ∧ Ext w0 w) := by
  refine ret_of_wp (nt := 49) Try.func18 rfl rfl rfl (fl := [(0, v)]) rfl (fun a S => ?_)
  have H := HSat.start w0
  have H := H.ro0 (Sl v 1 encRow ps) rfl (hv)
  have H := H.ro0 (RowsS 1 encI ps) rfl (hr)
  have hl := hv.len
  refine g_seq ?_
  -- region 0 ref.go:10
  refine g_region ?_
  refine wl_of (op_y (wn rfl) rfl rfl S (y_assign rfl S rfl) fun a S => ?_)
  refine gl_nil ?_
  refine n_then ?_
  refine g_seq ?_
  refine g_seq ?_
  -- region 1 ref.go:11
  refine g_region ?_
  refine wl_of (op_y (wn rfl) rfl rfl S (y_assign rfl S rfl) fun a S => ?_)
  refine gl_nil ?_
  refine n_then ?_
  refine g_block ?_
  -- slots written in the loop and forgotten at its head: [2]
  have SU := S.nil.cons S 0 rfl
  refine loopW (X := Nat) SU (fun k => [(3, .int .i64 (k : Int))]) (fun k w => k ≤ ps.length ∧ (∀ i (h : i < ps.length), i < k → RowOK ps.length ps[i].2) ∧ HSat No w0 [RowsS 1 encI ps, Sl v 1 encRow ps] w) (fun k => ps.length - k) 0 (S.nil.cons S 3 rfl) (⟨by omega, fun i h hi => by omega, H⟩) (fun k a w S hW => ?_)
  simp only [List.cons_append, List.nil_append] at S
  obtain ⟨hk, hno, H⟩ := hW
  refine g_seq ?_
  refine g_seq ?_
  -- region 2 ref.go:11
  refine g_region ?_
  refine wl_of (op_y (wn rfl) rfl rfl S (y_move rfl S rfl) fun a S => ?_)
  refine wl_of (op_y (wn rfl) rfl rfl S (y_move rfl S rfl) fun a S => ?_)
  refine wl_of (op_y (wn rfl) rfl rfl S (y_lens rfl Try.underlying22 S H rfl) fun a S => ?_)
  refine wl_of (op_y (wn rfl) rfl rfl S (y_bin rfl S rfl rfl rfl) fun a S => ?_)
  refine gl_nil ?_
  refine n_then ?_
  -- cond 1
  refine c_if S rfl (fun h1 => ?_) (fun h1 => ?_)
  · have h1p := h1; try simp only [Option.isNone_some, Option.isNone_none, Option.isSome_some, Option.isSome_none, false_or, or_false, true_and, and_true, decide_eq_true_eq, decide_eq_false_iff_not, Bool.or_eq_true, Bool.and_eq_true, Bool.or_eq_false_iff, Bool.and_eq_false_iff, Bool.not_eq_true', Bool.not_eq_false', bne_iff_ne, beq_iff_eq, beq_eq_false_iff_ne, bne_eq_false_iff_eq, ne_eq, Decidable.not_not, Int.not_lt, Int.not_le, gt_iff_lt, ge_iff_le, Bool.true_eq_false, Bool.false_eq_true, not_true_eq_false, not_false_eq_true] at h1p
    have hkp : k < ps.length := by omega
    have hrl := (hr _ (List.getElem_mem hkp)).len
    refine g_skip ?_
    refine n_then ?_
    refine g_seq ?_
    refine g_block ?_
    refine g_seq ?_
    -- region 4 ref.go:12
    refine g_region ?_
    refine wl_of (op_y (wn rfl) rfl rfl S (y_move rfl S rfl) fun a S => ?_)
    refine wl_of (op_y (wn rfl) rfl rfl S (y_lens rfl Try.underlying22 S H rfl) fun a S => ?_)
    refine wl_of (op_make (encB) (false) (wn rfl) rfl rfl rfl Try.underlying38 Finf4 rfl rfl S H rfl rfl rfl (by omega) (by omega) fun b15 a w S H => ?_)
    refine wl_of (op_y (wn rfl) rfl rfl S (y_assign rfl S rfl) fun a S => ?_)
    refine gl_nil ?_
    refine n_then ?_
    refine g_seq ?_
    -- region 5 ref.go:13
    refine g_region ?_
    refine wl_of (op_y (wn rfl) rfl rfl S (y_assign rfl S rfl) fun a S => ?_)
    refine gl_nil ?_
    refine n_then ?_
    refine g_block ?_
    have SU := (((((((((S.nil.cons S 0 rfl).cons S 3 rfl).cons S 7 rfl).cons S 8 rfl).cons S 9 rfl).cons S 10 rfl).cons S 13 rfl).cons S 14 rfl).cons S 15 rfl).cons S 4 rfl
    refine loopW (X := Nat) SU (fun q => [(5, .int .i64 (q : Int))]) (fun q w => q ≤ ps[k].2.length ∧ (∀ j, j < q → (0 ≤ atI ps[k].2 j ∧ atI ps[k].2 j < ps.length) ∧ ∀ p, p < j → atI ps[k].2 p ≠ atI ps[k].2 j) ∧ HSat No w0 [OSl 4 (.slice (some ⟨b15, 0, none⟩) ps.length ps.length) 1 encB (setT (List.replicate ps.length false) (ps[k].2.take q)), RowsS 1 encI ps, Sl v 1 encRow ps] w) (fun q => ps[k].2.length - q) 0 (S.nil.cons S 5 rfl) (⟨by omega, fun j hj => by omega, H⟩) (fun q a w S hW => ?_)
    simp only [List.cons_append, List.nil_append] at S
    clear H
    obtain ⟨hq, hpre, H⟩ := hW
    refine g_seq ?_
    refine g_seq ?_
    -- region 6 ref.go:13
    refine g_region ?_
    refine wl_of (op_y (wn rfl) rfl rfl S (y_move rfl S rfl) fun a S => ?_)
    refine wl_of (op_y (wn rfl) rfl rfl S (y_move rfl S rfl) fun a S => ?_)
    refine wl_of (op_y (wn rfl) rfl rfl S (y_move rfl S rfl) fun a S => ?_)
    refine wl_of (op_y (wn rfl) rfl rfl S (y_iaddrn rfl Try.underlying22 Fsiz23 S H rfl rfl (by first | assumption | omega | (simp only [List.length_append, List.length_take, List.length_drop, List.length_replicate, List.length_set, List.length_map, List.length_cons, List.length_nil]; omega))) fun a S => ?_)
    refine wl_of (op_y (wn rfl) rfl rfl S (y_loads _ rfl Fsca23 S H rfl (by first | assumption | omega | (simp only [List.length_append, List.length_take, List.length_drop, List.length_replicate, List.length_set, List.length_map, List.length_cons, List.length_nil]; omega)) rfl) fun a S => ?_)
    refine wl_of (op_y (wn rfl) rfl rfl S (y_lens rfl Try.underlying23 S H rfl) fun a S => ?_)
    refine wl_of (op_y (wn rfl) rfl rfl S (y_bin rfl S rfl rfl rfl) fun a S => ?_)
    refine gl_nil ?_
    refine n_then ?_
    -- cond 2
    refine c_if S rfl (fun h2 => ?_) (fun h2 => ?_)
    · have h2p := h2; try simp only [Option.isNone_some, Option.isNone_none, Option.isSome_some, Option.isSome_none, false_or, or_false, true_and, and_true, decide_eq_true_eq, decide_eq_false_iff_not, Bool.or_eq_true, Bool.and_eq_true, Bool.or_eq_false_iff, Bool.and_eq_false_iff, Bool.not_eq_true', Bool.not_eq_false', bne_iff_ne, beq_iff_eq, beq_eq_false_iff_ne, bne_eq_false_iff_eq, ne_eq, Decidable.not_not, Int.not_lt, Int.not_le, gt_iff_lt, ge_iff_le, Bool.true_eq_false, Bool.false_eq_true, not_true_eq_false, not_false_eq_true] at h2p
      have hql : q < ps[k].2.length := by omega
      have hat := atI_eq hql
      have hnb := not_before hql
      have hsl : (setT (List.replicate ps.length false) (ps[k].2.take q)).length = ps.length := by rw [setT_len]; simp
      have hget := fun (h : 0 ≤ ps[k].2[q]) => setT_get (n := ps.length) (Nat.le_of_lt hql) (fun j hj => (hpre j hj).1) (x := ps[k].2[q]) h
      refine g_skip ?_
      refine n_then ?_
      refine g_seq ?_
      refine g_block ?_
      refine g_seq ?_
      -- region 8 ref.go:14
      refine g_region ?_
      refine wl_of (op_y (wn rfl) rfl rfl S (y_move rfl S rfl) fun a S => ?_)
      refine wl_of (op_y (wn rfl) rfl rfl S (y_move rfl S rfl) fun a S => ?_)
      refine wl_of (op_y (wn rfl) rfl rfl S (y_iaddrn rfl Try.underlying22 Fsiz23 S H rfl rfl (by first | assumption | omega | (simp only [List.length_append, List.length_take, List.length_drop, List.length_replicate, List.length_set, List.length_map, List.length_cons, List.length_nil]; omega))) fun a S => ?_)
      refine wl_of (op_y (wn rfl) rfl rfl S (y_loads _ rfl Fsca23 S H rfl (by first | assumption | omega | (simp only [List.length_append, List.length_take, List.length_drop, List.length_replicate, List.length_set, List.length_map, List.length_cons, List.length_nil]; omega)) rfl) fun a S => ?_)
      refine wl_of (op_y (wn rfl) rfl rfl S (y_move rfl S rfl) fun a S => ?_)
      refine wl_of (op_y (wn rfl) rfl rfl S (y_iaddrn rfl Try.underlying23 Fsiz3 S H rfl rfl (by first | assumption | omega | (simp only [List.length_append, List.length_take, List.length_drop, List.length_replicate, List.length_set, List.length_map, List.length_cons, List.length_nil]; omega))) fun a S => ?_)
      refine wl_of (op_y (wn rfl) rfl rfl S (y_loads _ rfl Fsca3 S H rfl (by first | assumption | omega | (simp only [List.length_append, List.length_take, List.length_drop, List.length_replicate, List.length_set, List.length_map, List.length_cons, List.length_nil]; omega)) rfl) fun a S => ?_)
      refine wl_of (op_y (wn rfl) rfl rfl S (y_assign rfl S rfl) fun a S => ?_)
      refine gl_nil ?_
      refine n_then ?_
      refine g_seq ?_
      refine g_seq ?_
      -- region 9 ref.go:15
      refine g_region ?_
      refine wl_of (op_y (wn rfl) rfl rfl S (y_move rfl S rfl) fun a S => ?_)
      refine wl_of (op_y (wn rfl) rfl rfl S (y_bin rfl S rfl rfl rfl) fun a S => ?_)
      refine wl_of (op_y (wn rfl) rfl rfl S (y_move rfl S rfl) fun a S => ?_)
      refine' wl_or 4 34 rfl S H rfl rfl rfl rfl rfl rfl rfl (fun _ S => (wn rfl)) (fun h3 kk => ?yh3) (fun a w S H => ?_)
      case yh3 =>
        have h3p := h3; try simp only [Option.isNone_some, Option.isNone_none, Option.isSome_some, Option.isSome_none, false_or, or_false, true_and, and_true, decide_eq_true_eq, decide_eq_false_iff_not, Bool.or_eq_true, Bool.and_eq_true, Bool.or_eq_false_iff, Bool.and_eq_false_iff, Bool.not_eq_true', Bool.not_eq_false', bne_iff_ne, beq_iff_eq, beq_eq_false_iff_ne, bne_eq_false_iff_eq, ne_eq, Decidable.not_not, Int.not_lt, Int.not_le, gt_iff_lt, ge_iff_le, Bool.true_eq_false, Bool.false_eq_true, not_true_eq_false, not_false_eq_true] at h3p
        refine wl_of (op_y (wg' 34 rfl rfl S rfl h3 rfl) rfl rfl S (y_move rfl S rfl) fun a S => ?_)
        refine wl_of (op_y (wg' 34 rfl rfl S rfl h3 rfl) rfl rfl S (y_move rfl S rfl) fun a S => ?_)
        refine wl_of (op_y (wg' 34 rfl rfl S rfl h3 rfl) rfl rfl S (y_lens rfl Try.underlying22 S H rfl) fun a S => ?_)
        refine wl_of (op_y (wg' 34 rfl rfl S rfl h3 rfl) rfl rfl S (y_bin rfl S rfl rfl rfl) fun a S => ?_)
        refine wl_of (op_y (wn rfl) rfl rfl S (y_or' rfl h3 S rfl rfl) fun a S => ?_)
        exact kk _ _ (S.join 5 39 rfl rfl) H
      refine wl_of (op_y (wn rfl) rfl rfl S (y_move rfl S rfl) fun a S => ?_)
      refine' wl_or 4 40 rfl S H rfl rfl rfl rfl rfl rfl rfl (fun _ S => (wn rfl)) (fun h4 kk => ?yh4) (fun a w S H => ?_)
      case yh4 =>
        have h4p := h4; try simp only [Option.isNone_some, Option.isNone_none, Option.isSome_some, Option.isSome_none, false_or, or_false, true_and, and_true, decide_eq_true_eq, decide_eq_false_iff_not, Bool.or_eq_true, Bool.and_eq_true, Bool.or_eq_false_iff, Bool.and_eq_false_iff, Bool.not_eq_true', Bool.not_eq_false', bne_iff_ne, beq_iff_eq, beq_eq_false_iff_ne, bne_eq_false_iff_eq, ne_eq, Decidable.not_not, Int.not_lt, Int.not_le, gt_iff_lt, ge_iff_le, Bool.true_eq_false, Bool.false_eq_true, not_true_eq_false, not_false_eq_true] at h4p
        refine wl_of (op_y (wg' 40 rfl rfl S rfl h4 rfl) rfl rfl S (y_move rfl S rfl) fun a S => ?_)
        refine wl_of (op_y (wg' 40 rfl rfl S rfl h4 rfl) rfl rfl S (y_move rfl S rfl) fun a S => ?_)
        refine wl_of (op_y (wg' 40 rfl rfl S rfl h4 rfl) rfl rfl S (y_iaddrs rfl Try.underlying38 Fsiz4 S H rfl rfl (by first | assumption | omega | (simp only [List.length_append, List.length_take, List.length_drop, List.length_replicate, List.length_set, List.length_map, List.length_cons, List.length_nil]; omega))) fun a S => ?_)
        refine wl_of (op_y (wg' 40 rfl rfl S rfl h4 rfl) rfl rfl S (y_loadsD _ false rfl Fsca4 S H rfl (by rw [hsl]; omega) rfl) fun a S => ?_)
        refine wl_of (op_y (wn rfl) rfl rfl S (y_or' rfl h4 S rfl rfl) fun a S => ?_)
        exact kk _ _ (S.join 5 45 rfl rfl) H
      refine gl_nil ?_
      refine n_then ?_
      -- cond 3
      refine c_if S rfl (fun h5 => ?_) (fun h5 => ?_)
      · have h5p := h5; try simp only [Option.isNone_some, Option.isNone_none, Option.isSome_some, Option.isSome_none, false_or, or_false, true_and, and_true, decide_eq_true_eq, decide_eq_false_iff_not, Bool.or_eq_true, Bool.and_eq_true, Bool.or_eq_false_iff, Bool.and_eq_false_iff, Bool.not_eq_true', Bool.not_eq_false', bne_iff_ne, beq_iff_eq, beq_eq_false_iff_ne, bne_eq_false_iff_eq, ne_eq, Decidable.not_not, Int.not_lt, Int.not_le, gt_iff_lt, ge_iff_le, Bool.true_eq_false, Bool.false_eq_true, not_true_eq_false, not_false_eq_true] at h5p
        have hx : ps[k].2[q] < 0 ∨ ps[k].2[q] ≥ ps.length ∨ ps[k].2[q] ∈ ps[k].2.take q := by
          by_cases h0 : ps[k].2[q] < 0
          · exact .inl h0
          · have hg := hget (by omega)
            unfold atB at hg
            rw [hg] at h5
            simp only [Bool.or_eq_true, decide_eq_true_eq] at h5
            rcases h5 with (h | h) | h
            · exact .inl h
            · exact .inr (.inl h)
            · exact .inr (.inr h)
        refine g_seq ?_
        -- region 10 ref.go:16
        refine g_region ?_
        refine wl_of (op_y (wn rfl) rfl rfl S (y_assign rfl S rfl) fun a S => ?_)
        refine gl_nil ?_
        refine n_then ?_
        refine g_ret ?_
        refine r_then (r_block (r_then (r_then (r_block (r_block (r_then (r_then (r_block (r_then (ret1 rfl S rfl ?_))))))))))
        exact ⟨congrArg Value.bool (right_no k q hkp hql (fun h => by rw [hat] at h; rcases hx with hx | hx | hx; omega; omega; exact hnb.1 (by rw [hat]; exact h.2) hx)).symm, H.toExt⟩
      · have h5p := h5; try simp only [Option.isNone_some, Option.isNone_none, Option.isSome_some, Option.isSome_none, false_or, or_false, true_and, and_true, decide_eq_true_eq, decide_eq_false_iff_not, Bool.or_eq_true, Bool.and_eq_true, Bool.or_eq_false_iff, Bool.and_eq_false_iff, Bool.not_eq_true', Bool.not_eq_false', bne_iff_ne, beq_iff_eq, beq_eq_false_iff_ne, bne_eq_false_iff_eq, ne_eq, Decidable.not_not, Int.not_lt, Int.not_le, gt_iff_lt, ge_iff_le, Bool.true_eq_false, Bool.false_eq_true, not_true_eq_false, not_false_eq_true] at h5p
        have hx0 : 0 ≤ ps[k].2[q] ∧ ps[k].2[q] < ps.length := by have := h5p.1; omega
        have hx : ps[k].2[q] ∉ ps[k].2.take q := by
          have hg := hget hx0.1
          unfold atB at hg
          have := h5p.2
          rw [hg] at this; simpa using this
        refine g_skip ?_
        refine n_then ?_
        -- region 11 ref.go:18
        refine g_region ?_
        refine wl_of (op_y (wn rfl) rfl rfl S (y_move rfl S rfl) fun a S => ?_)
        refine wl_of (op_y (wn rfl) rfl rfl S (y_move rfl S rfl) fun a S => ?_)
        refine wl_of (op_y (wn rfl) rfl rfl S (y_iaddrs rfl Try.underlying38 Fsiz4 S H rfl rfl (by first | assumption | omega | (simp only [List.length_append, List.length_take, List.length_drop, List.length_replicate, List.length_set, List.length_map, List.length_cons, List.length_nil]; omega))) fun a S => ?_)
        refine wl_of (op_store1 _ (_) (wn rfl) rfl rfl S H rfl rfl rfl rfl Fsiz4 (by first | assumption | omega | (simp only [List.length_append, List.length_take, List.length_drop, List.length_replicate, List.length_set, List.length_map, List.length_cons, List.length_nil]; omega)) (by exact rfl) fun a w S H => ?_)
        refine gl_nil ?_
        refine n_block ?_
        refine n_then ?_
        -- region 7 ref.go:13
        refine g_region ?_
        refine wl_of (op_y (wn rfl) rfl rfl S (y_move rfl S rfl) fun a S => ?_)
        refine wl_of (op_y (wn rfl) rfl rfl S (y_add rfl S rfl rfl (by omega)) fun a S => ?_)
        refine wl_of (op_y (wn rfl) rfl rfl S (y_assign rfl S rfl) fun a S => ?_)
        refine gl_nil ?_
        refine n_then ?_
        refine ⟨q + 1, S.nil.cons S 5 rfl, (((((((((S.nil.cons S 0 rfl).cons S 3 rfl).cons S 7 rfl).cons S 8 rfl).cons S 9 rfl).cons S 10 rfl).cons S 13 rfl).cons S 14 rfl).cons S 15 rfl).cons S 4 rfl, ⟨by omega, fun j hj => ?_, ?_⟩, by omega⟩
        · by_cases hj2 : j < q
          · exact hpre j hj2
          · obtain rfl : j = q := by omega
            exact ⟨by rw [hat]; exact hx0, hnb.2 hx⟩
        · rw [← setT_take hql]; exact H
    · have h2p := h2; try simp only [Option.isNone_some, Option.isNone_none, Option.isSome_some, Option.isSome_none, false_or, or_false, true_and, and_true, decide_eq_true_eq, decide_eq_false_iff_not, Bool.or_eq_true, Bool.and_eq_true, Bool.or_eq_false_iff, Bool.and_eq_false_iff, Bool.not_eq_true', Bool.not_eq_false', bne_iff_ne, beq_iff_eq, beq_eq_false_iff_ne, bne_eq_false_iff_eq, ne_eq, Decidable.not_not, Int.not_lt, Int.not_le, gt_iff_lt, ge_iff_le, Bool.true_eq_false, Bool.false_eq_true, not_true_eq_false, not_false_eq_true] at h2p
      have hrow : RowOK ps.length ps[k].2 := fun j hj => hpre j (by omega)
      refine g_exit ?_
      refine x_then (x_then (x_eq ?_))
      refine n_block ?_
      refine n_then ?_
      -- region 3 ref.go:11
      refine g_region ?_
      refine wl_of (op_y (wn rfl) rfl rfl S (y_move rfl S rfl) fun a S => ?_)
      refine wl_of (op_y (wn rfl) rfl rfl S (y_add rfl S rfl rfl (by omega)) fun a S => ?_)
      refine wl_of (op_y (wn rfl) rfl rfl S (y_assign rfl S rfl) fun a S => ?_)
      refine gl_nil ?_
      refine n_then ?_
      exact ⟨k + 1, S.nil.cons S 3 rfl, S.nil.cons S 0 rfl, ⟨by omega, fun i h hik => by by_cases hi2 : i < k; exact hno i h hi2; (obtain rfl : i = k := by omega); exact hrow, H.take [RowsS 1 encI ps, Sl v 1 encRow ps]⟩, by omega⟩
  · have h1p := h1; try simp only [Option.isNone_some, Option.isNone_none, Option.isSome_some, Option.isSome_none, false_or, or_false, true_and, and_true, decide_eq_true_eq, decide_eq_false_iff_not, Bool.or_eq_true, Bool.and_eq_true, Bool.or_eq_false_iff, Bool.and_eq_false_iff, Bool.not_eq_true', Bool.not_eq_false', bne_iff_ne, beq_iff_eq, beq_eq_false_iff_ne, bne_eq_false_iff_eq, ne_eq, Decidable.not_not, Int.not_lt, Int.not_le, gt_iff_lt, ge_iff_le, Bool.true_eq_false, Bool.false_eq_true, not_true_eq_false, not_false_eq_true] at h1p
    refine g_exit ?_
    refine x_then (x_then (x_eq ?_))
    refine n_then ?_
    have S := S.nil
    refine g_seq ?_
    -- region 12 ref.go:21
    refine g_region ?_
    refine wl_of (op_y (wn rfl) rfl rfl S (y_assign rfl S rfl) fun a S => ?_)
    refine gl_nil ?_
    refine n_then ?_
    refine g_ret ?_
    refine ret1 rfl S rfl ?_
    exact ⟨congrArg Value.bool (right_yes (fun i hi => hno i hi (by omega))).symm, H.toExt⟩

end Go.Proofs.Ytoghkehlmibniaa
