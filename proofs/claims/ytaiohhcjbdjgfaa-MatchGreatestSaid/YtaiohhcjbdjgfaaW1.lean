/- The walks. No condition. -/
import Derived.Test.YtaiohhcjbdjgfaaChecked
import Derived.Test.YtaiohhcjbdjgfaaGwCut
import Derived.Test.YtaiohhcjbdjgfaaFacts
import Derived.Test.YtaiohhcjbdjgfaaPlain
namespace Go.Proofs.Ytaiohhcjbdjgfaa
open Go Go.Gw
set_option linter.unusedVariables false
set_option linter.unusedSimpArgs false
/-- foyer/foyerref40.In -/
theorem in_spec (v : Value) (xs : List Int) (n : Int) (w0 : World) (hv : IsSl w0 v 1 encI xs) :
    Ret Try.prog 20 #[v, .int .i64 n] w0 (fun u w => u = .bool (decide (n ∈ xs)) ∧ Ext w0 w) := by
  refine ret_of_wp (nt := 18) Try.func20 rfl rfl rfl (fl := [(0, v), (1, .int .i64 n)]) rfl (fun a S => ?_)
  have H := HSat.start w0
  have H := H.ro0 (Sl v 1 encI xs) rfl (hv)
  have hl := hv.len
  refine g_seq ?_
  -- region 0 ref.go:20
  refine g_region ?_
  refine wl_of (op_y (wn rfl) rfl rfl S (y_assign rfl S rfl) fun a S => ?_)
  refine gl_nil ?_
  refine n_then ?_
  refine g_seq ?_
  refine g_seq ?_
  -- region 1 ref.go:21
  refine g_region ?_
  refine wl_of (op_y (wn rfl) rfl rfl S (y_assign rfl S rfl) fun a S => ?_)
  refine gl_nil ?_
  refine n_then ?_
  refine g_block ?_
  -- slots written in the loop and forgotten at its head: [4]
  have SU := (S.nil.cons S 1 rfl).cons S 0 rfl
  refine loop_k (X := Nat) SU (fun k => [(5, .int .i64 (k : Int))]) (fun k => k ≤ xs.length ∧ ∀ j (h : j < xs.length), j < k → xs[j] ≠ n) (fun k => xs.length - k) 0 (S.nil.cons S 5 rfl) H (⟨by omega, fun j h hj => by omega⟩) (fun k a w S H hi => ?_)
  simp only [List.cons_append, List.nil_append] at S hi
  obtain ⟨hk, hno⟩ := hi
  refine g_seq ?_
  refine g_seq ?_
  -- region 2 ref.go:21
  refine g_region ?_
  refine wl_of (op_y (wn rfl) rfl rfl S (y_move rfl S rfl) fun a S => ?_)
  refine wl_of (op_y (wn rfl) rfl rfl S (y_move rfl S rfl) fun a S => ?_)
  refine wl_of (op_y (wn rfl) rfl rfl S (y_lens rfl Try.underlying23 S H rfl) fun a S => ?_)
  refine wl_of (op_y (wn rfl) rfl rfl S (y_bin rfl S rfl rfl rfl) fun a S => ?_)
  refine gl_nil ?_
  refine n_then ?_
  -- cond 1
  refine c_if S rfl (fun h1 => ?_) (fun h1 => ?_)
  · have h1p := h1; try simp only [Option.isNone_some, Option.isNone_none, Option.isSome_some, Option.isSome_none, false_or, or_false, true_and, and_true, decide_eq_true_eq, decide_eq_false_iff_not, Bool.or_eq_true, Bool.and_eq_true, Bool.or_eq_false_iff, Bool.and_eq_false_iff, Bool.not_eq_true', Bool.not_eq_false', bne_iff_ne, beq_iff_eq, beq_eq_false_iff_ne, bne_eq_false_iff_eq, ne_eq, Decidable.not_not, Int.not_lt, Int.not_le, gt_iff_lt, ge_iff_le, Bool.true_eq_false, Bool.false_eq_true, not_true_eq_false, not_false_eq_true] at h1p
    refine g_skip ?_
    refine n_then ?_
    refine g_seq ?_
    refine g_block ?_
    refine g_seq ?_
    -- region 4 ref.go:22
    refine g_region ?_
    refine wl_of (op_y (wn rfl) rfl rfl S (y_move rfl S rfl) fun a S => ?_)
    refine wl_of (op_y (wn rfl) rfl rfl S (y_move rfl S rfl) fun a S => ?_)
    refine wl_of (op_y (wn rfl) rfl rfl S (y_iaddrn rfl Try.underlying23 Fsiz3 S H rfl rfl (by first | assumption | omega | (simp only [List.length_append, List.length_take, List.length_drop, List.length_replicate, List.length_set, List.length_map, List.length_cons, List.length_nil]; omega))) fun a S => ?_)
    refine wl_of (op_y (wn rfl) rfl rfl S (y_loads _ rfl Fsca3 S H rfl (by first | assumption | omega | (simp only [List.length_append, List.length_take, List.length_drop, List.length_replicate, List.length_set, List.length_map, List.length_cons, List.length_nil]; omega)) rfl) fun a S => ?_)
    refine wl_of (op_y (wn rfl) rfl rfl S (y_move rfl S rfl) fun a S => ?_)
    refine wl_of (op_y (wn rfl) rfl rfl S (y_bin rfl S rfl rfl rfl) fun a S => ?_)
    refine gl_nil ?_
    refine n_then ?_
    -- cond 2
    refine c_if S rfl (fun h2 => ?_) (fun h2 => ?_)
    · have h2p := h2; try simp only [Option.isNone_some, Option.isNone_none, Option.isSome_some, Option.isSome_none, false_or, or_false, true_and, and_true, decide_eq_true_eq, decide_eq_false_iff_not, Bool.or_eq_true, Bool.and_eq_true, Bool.or_eq_false_iff, Bool.and_eq_false_iff, Bool.not_eq_true', Bool.not_eq_false', bne_iff_ne, beq_iff_eq, beq_eq_false_iff_ne, bne_eq_false_iff_eq, ne_eq, Decidable.not_not, Int.not_lt, Int.not_le, gt_iff_lt, ge_iff_le, Bool.true_eq_false, Bool.false_eq_true, not_true_eq_false, not_false_eq_true] at h2p
      refine g_seq ?_
      -- region 5 ref.go:23
      refine g_region ?_
      refine wl_of (op_y (wn rfl) rfl rfl S (y_assign rfl S rfl) fun a S => ?_)
      refine gl_nil ?_
      refine n_then ?_
      refine g_ret ?_
      refine r_block (r_then (r_then (r_block (r_then (ret1 rfl S rfl ?_)))))
      exact ⟨congrArg Value.bool (decide_eq_true (by rw [← h2p]; exact List.getElem_mem _)).symm, H.toExt⟩
    · have h2p := h2; try simp only [Option.isNone_some, Option.isNone_none, Option.isSome_some, Option.isSome_none, false_or, or_false, true_and, and_true, decide_eq_true_eq, decide_eq_false_iff_not, Bool.or_eq_true, Bool.and_eq_true, Bool.or_eq_false_iff, Bool.and_eq_false_iff, Bool.not_eq_true', Bool.not_eq_false', bne_iff_ne, beq_iff_eq, beq_eq_false_iff_ne, bne_eq_false_iff_eq, ne_eq, Decidable.not_not, Int.not_lt, Int.not_le, gt_iff_lt, ge_iff_le, Bool.true_eq_false, Bool.false_eq_true, not_true_eq_false, not_false_eq_true] at h2p
      refine g_skip ?_
      refine n_block ?_
      refine n_then ?_
      -- region 3 ref.go:21
      refine g_region ?_
      refine wl_of (op_y (wn rfl) rfl rfl S (y_move rfl S rfl) fun a S => ?_)
      refine wl_of (op_y (wn rfl) rfl rfl S (y_add rfl S rfl rfl (by omega)) fun a S => ?_)
      refine wl_of (op_y (wn rfl) rfl rfl S (y_assign rfl S rfl) fun a S => ?_)
      refine gl_nil ?_
      refine n_then ?_
      refine ⟨k + 1, S.nil.cons S 5 rfl, (S.nil.cons S 1 rfl).cons S 0 rfl, H, ?_, ?_⟩
      · exact ⟨by omega, fun j h hj => by by_cases hjk : j < k; exact hno j h hjk; (obtain rfl : j = k := by omega); exact h2p⟩
      · omega
  · have h1p := h1; try simp only [Option.isNone_some, Option.isNone_none, Option.isSome_some, Option.isSome_none, false_or, or_false, true_and, and_true, decide_eq_true_eq, decide_eq_false_iff_not, Bool.or_eq_true, Bool.and_eq_true, Bool.or_eq_false_iff, Bool.and_eq_false_iff, Bool.not_eq_true', Bool.not_eq_false', bne_iff_ne, beq_iff_eq, beq_eq_false_iff_ne, bne_eq_false_iff_eq, ne_eq, Decidable.not_not, Int.not_lt, Int.not_le, gt_iff_lt, ge_iff_le, Bool.true_eq_false, Bool.false_eq_true, not_true_eq_false, not_false_eq_true] at h1p
    refine g_exit ?_
    refine x_then (x_then (x_eq ?_))
    refine n_then ?_
    have S := S.nil
    refine g_seq ?_
    -- region 6 ref.go:26
    refine g_region ?_
    refine wl_of (op_y (wn rfl) rfl rfl S (y_assign rfl S rfl) fun a S => ?_)
    refine gl_nil ?_
    refine n_then ?_
    refine g_ret ?_
    refine ret1 rfl S rfl ?_
    exact ⟨congrArg Value.bool (decide_eq_false (find_no (fun j hj => hno j hj (by omega)))).symm, H.toExt⟩
/-- slices.Index[[]int,int] -/
theorem index_spec (v : Value) (xs : List Int) (n : Int) (w0 : World) (hv : IsSl w0 v 1 encI xs) :
    Ret Try.prog 36 #[v, .int .i64 n] w0 (fun u w => ∃ i : Int, u = .int .i64 i ∧ decide (n ∈ xs) = decide (i ≥ 0) ∧ Ext w0 w) := by
  refine ret_of_wp (nt := 19) Try.func36 rfl rfl rfl (fl := [(0, v), (1, .int .i64 n)]) rfl (fun a S => ?_)
  have H := HSat.start w0
  have H := H.ro0 (Sl v 1 encI xs) rfl (hv)
  have hl := hv.len
  refine g_seq ?_
  -- region 0 slices.go:96
  refine g_region ?_
  refine wl_of (op_y (wn rfl) rfl rfl S (y_assign rfl S rfl) fun a S => ?_)
  refine gl_nil ?_
  refine n_then ?_
  refine g_seq ?_
  refine g_seq ?_
  -- region 1 slices.go:97
  refine g_region ?_
  refine wl_of (op_y (wn rfl) rfl rfl S (y_move rfl S rfl) fun a S => ?_)
  refine wl_of (op_y (wn rfl) rfl rfl S (y_lens rfl Try.underlying23 S H rfl) fun a S => ?_)
  refine wl_of (op_y (wn rfl) rfl rfl S (y_move rfl S rfl) fun a S => ?_)
  refine gl_nil ?_
  refine n_then ?_
  refine g_block ?_
  -- slots written in the loop and forgotten at its head: [4]
  have SU := ((S.nil.cons S 1 rfl).cons S 0 rfl).cons S 7 rfl
  refine loop_k (X := Nat) SU (fun k => [(8, .int .i64 (k : Int))]) (fun k => k ≤ xs.length ∧ ∀ j (h : j < xs.length), j < k → xs[j] ≠ n) (fun k => xs.length - k) 0 (S.nil.cons S 8 rfl) H (⟨by omega, fun j h hj => by omega⟩) (fun k a w S H hi => ?_)
  simp only [List.cons_append, List.nil_append] at S hi
  obtain ⟨hk, hno⟩ := hi
  refine g_seq ?_
  -- region 2 slices.go:97
  refine g_region ?_
  refine wl_of (op_y (wn rfl) rfl rfl S (y_bin rfl S rfl rfl rfl) fun a S => ?_)
  refine gl_nil ?_
  refine n_then ?_
  refine g_seq ?_
  -- cond 1
  refine c_if S rfl (fun h1 => ?_) (fun h1 => ?_)
  · have h1p := h1; try simp only [Option.isNone_some, Option.isNone_none, Option.isSome_some, Option.isSome_none, false_or, or_false, true_and, and_true, decide_eq_true_eq, decide_eq_false_iff_not, Bool.or_eq_true, Bool.and_eq_true, Bool.or_eq_false_iff, Bool.and_eq_false_iff, Bool.not_eq_true', Bool.not_eq_false', bne_iff_ne, beq_iff_eq, beq_eq_false_iff_ne, bne_eq_false_iff_eq, ne_eq, Decidable.not_not, Int.not_lt, Int.not_le, gt_iff_lt, ge_iff_le, Bool.true_eq_false, Bool.false_eq_true, not_true_eq_false, not_false_eq_true] at h1p
    refine g_skip ?_
    refine n_then ?_
    refine g_seq ?_
    refine g_block ?_
    refine g_seq ?_
    -- region 3 slices.go:97
    refine g_region ?_
    refine wl_of (op_y (wn rfl) rfl rfl S (y_move rfl S rfl) fun a S => ?_)
    refine wl_of (op_y (wn rfl) rfl rfl S (y_assign rfl S rfl) fun a S => ?_)
    refine gl_nil ?_
    refine n_then ?_
    refine g_seq ?_
    -- region 4 slices.go:98
    refine g_region ?_
    refine wl_of (op_y (wn rfl) rfl rfl S (y_move rfl S rfl) fun a S => ?_)
    refine wl_of (op_y (wn rfl) rfl rfl S (y_move rfl S rfl) fun a S => ?_)
    refine wl_of (op_y (wn rfl) rfl rfl S (y_move rfl S rfl) fun a S => ?_)
    refine wl_of (op_y (wn rfl) rfl rfl S (y_iaddrn rfl Try.underlying23 Fsiz3 S H rfl rfl (by first | assumption | omega | (simp only [List.length_append, List.length_take, List.length_drop, List.length_replicate, List.length_set, List.length_map, List.length_cons, List.length_nil]; omega))) fun a S => ?_)
    refine wl_of (op_y (wn rfl) rfl rfl S (y_loads _ rfl Fsca3 S H rfl (by first | assumption | omega | (simp only [List.length_append, List.length_take, List.length_drop, List.length_replicate, List.length_set, List.length_map, List.length_cons, List.length_nil]; omega)) rfl) fun a S => ?_)
    refine wl_of (op_y (wn rfl) rfl rfl S (y_bin rfl S rfl rfl rfl) fun a S => ?_)
    refine gl_nil ?_
    refine n_then ?_
    -- cond 2
    refine c_if S rfl (fun h2 => ?_) (fun h2 => ?_)
    · have h2p := h2; try simp only [Option.isNone_some, Option.isNone_none, Option.isSome_some, Option.isSome_none, false_or, or_false, true_and, and_true, decide_eq_true_eq, decide_eq_false_iff_not, Bool.or_eq_true, Bool.and_eq_true, Bool.or_eq_false_iff, Bool.and_eq_false_iff, Bool.not_eq_true', Bool.not_eq_false', bne_iff_ne, beq_iff_eq, beq_eq_false_iff_ne, bne_eq_false_iff_eq, ne_eq, Decidable.not_not, Int.not_lt, Int.not_le, gt_iff_lt, ge_iff_le, Bool.true_eq_false, Bool.false_eq_true, not_true_eq_false, not_false_eq_true] at h2p
      refine g_seq ?_
      -- region 5 slices.go:99
      refine g_region ?_
      refine wl_of (op_y (wn rfl) rfl rfl S (y_move rfl S rfl) fun a S => ?_)
      refine wl_of (op_y (wn rfl) rfl rfl S (y_assign rfl S rfl) fun a S => ?_)
      refine gl_nil ?_
      refine n_then ?_
      refine g_ret ?_
      refine r_block (r_then (r_then (r_block (r_then (ret1 rfl S rfl ?_)))))
      exact ⟨k, rfl, by rw [decide_eq_true (show (k : Int) ≥ 0 by omega)]; exact decide_eq_true (by rw [h2p]; exact List.getElem_mem _), H.toExt⟩
    · have h2p := h2; try simp only [Option.isNone_some, Option.isNone_none, Option.isSome_some, Option.isSome_none, false_or, or_false, true_and, and_true, decide_eq_true_eq, decide_eq_false_iff_not, Bool.or_eq_true, Bool.and_eq_true, Bool.or_eq_false_iff, Bool.and_eq_false_iff, Bool.not_eq_true', Bool.not_eq_false', bne_iff_ne, beq_iff_eq, beq_eq_false_iff_ne, bne_eq_false_iff_eq, ne_eq, Decidable.not_not, Int.not_lt, Int.not_le, gt_iff_lt, ge_iff_le, Bool.true_eq_false, Bool.false_eq_true, not_true_eq_false, not_false_eq_true] at h2p
      refine g_skip ?_
      refine n_block ?_
      refine n_then ?_
      -- region 6 slices.go:97
      refine g_region ?_
      refine wl_of (op_y (wn rfl) rfl rfl S (y_add rfl S rfl rfl (by omega)) fun a S => ?_)
      refine wl_of (op_y (wn rfl) rfl rfl S (y_move rfl S rfl) fun a S => ?_)
      refine gl_nil ?_
      refine n_then ?_
      refine ⟨k + 1, S.nil.cons S 8 rfl, ((S.nil.cons S 1 rfl).cons S 0 rfl).cons S 7 rfl, H, ?_, ?_⟩
      · exact ⟨by omega, fun j h hj => by by_cases hjk : j < k; exact hno j h hjk; (obtain rfl : j = k := by omega); exact fun e => h2p e.symm⟩
      · omega
  · have h1p := h1; try simp only [Option.isNone_some, Option.isNone_none, Option.isSome_some, Option.isSome_none, false_or, or_false, true_and, and_true, decide_eq_true_eq, decide_eq_false_iff_not, Bool.or_eq_true, Bool.and_eq_true, Bool.or_eq_false_iff, Bool.and_eq_false_iff, Bool.not_eq_true', Bool.not_eq_false', bne_iff_ne, beq_iff_eq, beq_eq_false_iff_ne, bne_eq_false_iff_eq, ne_eq, Decidable.not_not, Int.not_lt, Int.not_le, gt_iff_lt, ge_iff_le, Bool.true_eq_false, Bool.false_eq_true, not_true_eq_false, not_false_eq_true] at h1p
    refine g_exit ?_
    refine x_then (x_then (x_eq ?_))
    refine n_then ?_
    have S := S.nil
    refine g_seq ?_
    -- region 7 slices.go:102
    refine g_region ?_
    refine wl_of (op_y (wn rfl) rfl rfl S (y_assign rfl S rfl) fun a S => ?_)
    refine gl_nil ?_
    refine n_then ?_
    refine g_ret ?_
    refine ret1 rfl S rfl ?_
    exact ⟨-1, rfl, decide_eq_false (find_no (fun j hj => hno j hj (by omega))), H.toExt⟩
/-- slices.Contains[[]int,int] -/
theorem contains_spec (v : Value) (xs : List Int) (n : Int) (w0 : World) (hv : IsSl w0 v 1 encI xs) :
    Ret Try.prog 26 #[v, .int .i64 n] w0 (fun u w => u = .bool (decide (n ∈ xs)) ∧ Ext w0 w) := by
  refine ret_of_wp (nt := 9) Try.func26 rfl rfl rfl (fl := [(0, v), (1, .int .i64 n)]) rfl (fun a S => ?_)
  have H := HSat.start w0
  refine g_seq ?_
  -- region 0 slices.go:117
  refine g_region ?_
  refine wl_of (op_y (wn rfl) rfl rfl S (y_assign rfl S rfl) fun a S => ?_)
  refine gl_nil ?_
  refine n_then ?_
  refine g_seq ?_
  -- region 1 slices.go:118
  refine g_region ?_
  refine wl_of (op_y (wn rfl) rfl rfl S (y_move rfl S rfl) fun a S => ?_)
  refine wl_of (op_y (wn rfl) rfl rfl S (y_move rfl S rfl) fun a S => ?_)
  refine wl_of (op_call (wn rfl) rfl rfl S (co_func rfl Try.call36 S rfl) (index_spec v xs n w0 hv) fun v w hc a S => ?_)
  obtain ⟨i, rfl, hany, he1⟩ := hc
  have H := H.ext he1
  refine wl_of (op_y (wn rfl) rfl rfl S (y_bin rfl S rfl rfl rfl) fun a S => ?_)
  refine wl_of (op_y (wn rfl) rfl rfl S (y_assign rfl S rfl) fun a S => ?_)
  refine gl_nil ?_
  refine n_then ?_
  have S := S.nil.cons S 4 rfl
  refine g_ret ?_
  refine ret1 rfl S rfl ?_
  exact ⟨by rw [hany], H.toExt⟩
/-- slices.IndexFunc[[]int,int] -/
theorem indexFunc_spec (v : Value) (xs : List Int) (f : FuncId) (cap : List Value) (he : Enters Try.prog f) (pr : Int → Bool) (w0 : World) (hv : IsSl w0 v 1 encI xs)
    (hstep : ∀ x ∈ xs, ∀ w, Ext w0 w → Ret Try.prog f ([Value.int .i64 x] ++ cap).toArray w (fun u w' => u = .bool (pr x) ∧ Ext w w')) :
    Ret Try.prog 37 #[v, .func (.func f) #[] cap.toArray] w0 (fun u w => (u = .int .i64 (-1) ∧ xs.any pr = false ∧ Ext w0 w) ∨ (∃ j : Nat, u = .int .i64 (j : Int) ∧ xs.any pr = true ∧ Ext w0 w)) := by
  refine ret_of_wp (nt := 19) Try.func37 rfl rfl rfl (fl := [(0, v), (1, .func (.func f) #[] cap.toArray)]) rfl (fun a S => ?_)
  have H := HSat.start w0
  have H := H.ro0 (Sl v 1 encI xs) rfl (hv)
  have hlen := hv.len
  refine g_seq ?_
  -- region 0 slices.go:107
  refine g_region ?_
  refine wl_of (op_y (wn rfl) rfl rfl S (y_assign rfl S rfl) fun a S => ?_)
  refine gl_nil ?_
  refine n_then ?_
  refine g_seq ?_
  refine g_seq ?_
  -- region 1 slices.go:108
  refine g_region ?_
  refine wl_of (op_y (wn rfl) rfl rfl S (y_move rfl S rfl) fun a S => ?_)
  refine wl_of (op_y (wn rfl) rfl rfl S (y_lens rfl Try.underlying23 S H rfl) fun a S => ?_)
  refine wl_of (op_y (wn rfl) rfl rfl S (y_move rfl S rfl) fun a S => ?_)
  refine gl_nil ?_
  refine n_then ?_
  refine g_block ?_
  -- slots written in the loop and forgotten at its head: [4]
  have SU := ((S.nil.cons S 1 rfl).cons S 0 rfl).cons S 7 rfl
  refine loop_k (X := Nat) SU (fun k => [(8, .int .i64 (k : Int))]) (fun k => k ≤ xs.length ∧ (∀ j (h : j < xs.length), j < k → pr xs[j] = false)) (fun k => xs.length - k) 0 (S.nil.cons S 8 rfl) H (⟨by omega, fun j h hj => by omega⟩) (fun k a w S H hi => ?_)
  simp only [List.cons_append, List.nil_append] at S hi
  obtain ⟨hk, hpr⟩ := hi
  refine g_seq ?_
  -- region 2 slices.go:108
  refine g_region ?_
  refine wl_of (op_y (wn rfl) rfl rfl S (y_bin rfl S rfl rfl rfl) fun a S => ?_)
  refine gl_nil ?_
  refine n_then ?_
  refine g_seq ?_
  -- cond 1
  refine c_if S rfl (fun h1 => ?_) (fun h1 => ?_)
  · have h1p := h1; try simp only [Option.isNone_some, Option.isNone_none, Option.isSome_some, Option.isSome_none, false_or, or_false, true_and, and_true, decide_eq_true_eq, decide_eq_false_iff_not, Bool.or_eq_true, Bool.and_eq_true, Bool.or_eq_false_iff, Bool.and_eq_false_iff, Bool.not_eq_true', Bool.not_eq_false', bne_iff_ne, beq_iff_eq, beq_eq_false_iff_ne, bne_eq_false_iff_eq, ne_eq, Decidable.not_not, Int.not_lt, Int.not_le, gt_iff_lt, ge_iff_le, Bool.true_eq_false, Bool.false_eq_true, not_true_eq_false, not_false_eq_true] at h1p
    refine g_skip ?_
    refine n_then ?_
    refine g_seq ?_
    refine g_block ?_
    refine g_seq ?_
    -- region 3 slices.go:108
    refine g_region ?_
    refine wl_of (op_y (wn rfl) rfl rfl S (y_move rfl S rfl) fun a S => ?_)
    refine wl_of (op_y (wn rfl) rfl rfl S (y_assign rfl S rfl) fun a S => ?_)
    refine gl_nil ?_
    refine n_then ?_
    refine g_seq ?_
    -- region 4 slices.go:109
    refine g_region ?_
    refine wl_of (op_y (wn rfl) rfl rfl S (y_move rfl S rfl) fun a S => ?_)
    refine wl_of (op_y (wn rfl) rfl rfl S (y_move rfl S rfl) fun a S => ?_)
    refine wl_of (op_y (wn rfl) rfl rfl S (y_move rfl S rfl) fun a S => ?_)
    refine wl_of (op_y (wn rfl) rfl rfl S (y_iaddrn rfl Try.underlying23 Fsiz3 S H rfl rfl (by first | assumption | omega | (simp only [List.length_append, List.length_take, List.length_drop, List.length_replicate, List.length_set, List.length_map, List.length_cons, List.length_nil]; omega))) fun a S => ?_)
    refine wl_of (op_y (wn rfl) rfl rfl S (y_loads _ rfl Fsca3 S H rfl (by first | assumption | omega | (simp only [List.length_append, List.length_take, List.length_drop, List.length_replicate, List.length_set, List.length_map, List.length_cons, List.length_nil]; omega)) rfl) fun a S => ?_)
    refine wl_of (op_call (wn rfl) rfl rfl S (co_value rfl he S rfl rfl) (hstep _ (List.getElem_mem (by omega)) w H.toExt) fun v w hc a S => ?_)
    obtain ⟨rfl, he1⟩ := hc
    have H := H.ext he1
    refine gl_nil ?_
    refine n_then ?_
    -- cond 2
    refine c_if S rfl (fun h2 => ?_) (fun h2 => ?_)
    · have h2p := h2; try simp only [Option.isNone_some, Option.isNone_none, Option.isSome_some, Option.isSome_none, false_or, or_false, true_and, and_true, decide_eq_true_eq, decide_eq_false_iff_not, Bool.or_eq_true, Bool.and_eq_true, Bool.or_eq_false_iff, Bool.and_eq_false_iff, Bool.not_eq_true', Bool.not_eq_false', bne_iff_ne, beq_iff_eq, beq_eq_false_iff_ne, bne_eq_false_iff_eq, ne_eq, Decidable.not_not, Int.not_lt, Int.not_le, gt_iff_lt, ge_iff_le, Bool.true_eq_false, Bool.false_eq_true, not_true_eq_false, not_false_eq_true] at h2p
      refine g_seq ?_
      -- region 5 slices.go:110
      refine g_region ?_
      refine wl_of (op_y (wn rfl) rfl rfl S (y_move rfl S rfl) fun a S => ?_)
      refine wl_of (op_y (wn rfl) rfl rfl S (y_assign rfl S rfl) fun a S => ?_)
      refine gl_nil ?_
      refine n_then ?_
      refine g_ret ?_
      refine r_block (r_then (r_then (r_block (r_then (ret1 rfl S rfl ?_)))))
      exact .inr ⟨k, rfl, List.any_eq_true.2 ⟨_, List.getElem_mem (by omega), h2⟩, H.toExt⟩
    · have h2p := h2; try simp only [Option.isNone_some, Option.isNone_none, Option.isSome_some, Option.isSome_none, false_or, or_false, true_and, and_true, decide_eq_true_eq, decide_eq_false_iff_not, Bool.or_eq_true, Bool.and_eq_true, Bool.or_eq_false_iff, Bool.and_eq_false_iff, Bool.not_eq_true', Bool.not_eq_false', bne_iff_ne, beq_iff_eq, beq_eq_false_iff_ne, bne_eq_false_iff_eq, ne_eq, Decidable.not_not, Int.not_lt, Int.not_le, gt_iff_lt, ge_iff_le, Bool.true_eq_false, Bool.false_eq_true, not_true_eq_false, not_false_eq_true] at h2p
      refine g_skip ?_
      refine n_block ?_
      refine n_then ?_
      -- region 6 slices.go:108
      refine g_region ?_
      refine wl_of (op_y (wn rfl) rfl rfl S (y_add rfl S rfl rfl (by omega)) fun a S => ?_)
      refine wl_of (op_y (wn rfl) rfl rfl S (y_move rfl S rfl) fun a S => ?_)
      refine gl_nil ?_
      refine n_then ?_
      refine ⟨k + 1, S.nil.cons S 8 rfl, ((S.nil.cons S 1 rfl).cons S 0 rfl).cons S 7 rfl, H, ?_, ?_⟩
      · exact ⟨by omega, fun j h hj => by by_cases hjk : j < k; exact hpr j h hjk; (obtain rfl : j = k := by omega); exact h2⟩
      · omega
  · have h1p := h1; try simp only [Option.isNone_some, Option.isNone_none, Option.isSome_some, Option.isSome_none, false_or, or_false, true_and, and_true, decide_eq_true_eq, decide_eq_false_iff_not, Bool.or_eq_true, Bool.and_eq_true, Bool.or_eq_false_iff, Bool.and_eq_false_iff, Bool.not_eq_true', Bool.not_eq_false', bne_iff_ne, beq_iff_eq, beq_eq_false_iff_ne, bne_eq_false_iff_eq, ne_eq, Decidable.not_not, Int.not_lt, Int.not_le, gt_iff_lt, ge_iff_le, Bool.true_eq_false, Bool.false_eq_true, not_true_eq_false, not_false_eq_true] at h1p
    refine g_exit ?_
    refine x_then (x_then (x_eq ?_))
    refine n_then ?_
    have S := S.nil
    refine g_seq ?_
    -- region 7 slices.go:113
    refine g_region ?_
    refine wl_of (op_y (wn rfl) rfl rfl S (y_assign rfl S rfl) fun a S => ?_)
    refine gl_nil ?_
    refine n_then ?_
    refine g_ret ?_
    refine ret1 rfl S rfl ?_
    obtain rfl : k = xs.length := by omega
    exact .inl ⟨rfl, List.any_eq_false.2 (fun x hx => by obtain ⟨j, hj, rfl⟩ := List.getElem_of_mem hx; simp [hpr j hj hj]), H.toExt⟩
/-- slices.ContainsFunc[[]int,int] -/
theorem containsFunc_spec (v : Value) (xs : List Int) (f : FuncId) (cap : List Value) (he : Enters Try.prog f) (pr : Int → Bool) (w0 : World) (hv : IsSl w0 v 1 encI xs)
    (hstep : ∀ x ∈ xs, ∀ w, Ext w0 w → Ret Try.prog f ([Value.int .i64 x] ++ cap).toArray w (fun u w' => u = .bool (pr x) ∧ Ext w w')) :
    Ret Try.prog 27 #[v, .func (.func f) #[] cap.toArray] w0 (fun u w => u = .bool (xs.any pr) ∧ Ext w0 w) := by
  refine ret_of_wp (nt := 9) Try.func27 rfl rfl rfl (fl := [(0, v), (1, .func (.func f) #[] cap.toArray)]) rfl (fun a S => ?_)
  have H := HSat.start w0
  refine g_seq ?_
  -- region 0 slices.go:124
  refine g_region ?_
  refine wl_of (op_y (wn rfl) rfl rfl S (y_assign rfl S rfl) fun a S => ?_)
  refine gl_nil ?_
  refine n_then ?_
  refine g_seq ?_
  -- region 1 slices.go:125
  refine g_region ?_
  refine wl_of (op_y (wn rfl) rfl rfl S (y_move rfl S rfl) fun a S => ?_)
  refine wl_of (op_y (wn rfl) rfl rfl S (y_move rfl S rfl) fun a S => ?_)
  refine wl_of (op_call (wn rfl) rfl rfl S (co_func rfl Try.call37 S rfl) (Ret.mono (indexFunc_spec v xs f cap he pr w0 hv hstep) (fun u w h => (show ∃ i : Int, u = .int .i64 i ∧ xs.any pr = decide (i ≥ 0) ∧ Ext w0 w from by rcases h with ⟨h1, h2, h3⟩ | ⟨j, h1, h2, h3⟩; exact ⟨-1, h1, by rw [h2]; rfl, h3⟩; exact ⟨j, h1, by rw [h2]; simp, h3⟩))) fun v w hc a S => ?_)
  obtain ⟨i, rfl, hany, he1⟩ := hc
  have H := H.ext he1
  refine wl_of (op_y (wn rfl) rfl rfl S (y_bin rfl S rfl rfl rfl) fun a S => ?_)
  refine wl_of (op_y (wn rfl) rfl rfl S (y_assign rfl S rfl) fun a S => ?_)
  refine gl_nil ?_
  refine n_then ?_
  have S := S.nil.cons S 4 rfl
  refine g_ret ?_
  refine ret1 rfl S rfl ?_
  exact ⟨by rw [hany], H.toExt⟩
/-- slices.IndexFunc[[][]int,[]int] -/
theorem indexFuncR_spec (v : Value) (xs : List (Value × List Int)) (f : FuncId) (cap : List Value) (he : Enters Try.prog f) (pr : (Value × List Int) → Bool) (w0 : World) (hv : IsSl w0 v 1 encRow xs)
    (hstep : ∀ x ∈ xs, ∀ w, Ext w0 w → Ret Try.prog f ([x.1] ++ cap).toArray w (fun u w' => u = .bool (pr x) ∧ Ext w w')) :
    Ret Try.prog 38 #[v, .func (.func f) #[] cap.toArray] w0 (fun u w => (u = .int .i64 (-1) ∧ xs.any pr = false ∧ Ext w0 w) ∨ (∃ j : Nat, u = .int .i64 (j : Int) ∧ xs.any pr = true ∧ Ext w0 w)) := by
  refine ret_of_wp (nt := 19) Try.func38 rfl rfl rfl (fl := [(0, v), (1, .func (.func f) #[] cap.toArray)]) rfl (fun a S => ?_)
  have H := HSat.start w0
  have H := H.ro0 (Sl v 1 encRow xs) rfl (hv)
  have hlen := hv.len
  refine g_seq ?_
  -- region 0 slices.go:107
  refine g_region ?_
  refine wl_of (op_y (wn rfl) rfl rfl S (y_assign rfl S rfl) fun a S => ?_)
  refine gl_nil ?_
  refine n_then ?_
  refine g_seq ?_
  refine g_seq ?_
  -- region 1 slices.go:108
  refine g_region ?_
  refine wl_of (op_y (wn rfl) rfl rfl S (y_move rfl S rfl) fun a S => ?_)
  refine wl_of (op_y (wn rfl) rfl rfl S (y_lens rfl Try.underlying22 S H rfl) fun a S => ?_)
  refine wl_of (op_y (wn rfl) rfl rfl S (y_move rfl S rfl) fun a S => ?_)
  refine gl_nil ?_
  refine n_then ?_
  refine g_block ?_
  -- slots written in the loop and forgotten at its head: [4]
  have SU := ((S.nil.cons S 1 rfl).cons S 0 rfl).cons S 7 rfl
  refine loop_k (X := Nat) SU (fun k => [(8, .int .i64 (k : Int))]) (fun k => k ≤ xs.length ∧ (∀ j (h : j < xs.length), j < k → pr xs[j] = false)) (fun k => xs.length - k) 0 (S.nil.cons S 8 rfl) H (⟨by omega, fun j h hj => by omega⟩) (fun k a w S H hi => ?_)
  simp only [List.cons_append, List.nil_append] at S hi
  obtain ⟨hk, hpr⟩ := hi
  refine g_seq ?_
  -- region 2 slices.go:108
  refine g_region ?_
  refine wl_of (op_y (wn rfl) rfl rfl S (y_bin rfl S rfl rfl rfl) fun a S => ?_)
  refine gl_nil ?_
  refine n_then ?_
  refine g_seq ?_
  -- cond 1
  refine c_if S rfl (fun h1 => ?_) (fun h1 => ?_)
  · have h1p := h1; try simp only [Option.isNone_some, Option.isNone_none, Option.isSome_some, Option.isSome_none, false_or, or_false, true_and, and_true, decide_eq_true_eq, decide_eq_false_iff_not, Bool.or_eq_true, Bool.and_eq_true, Bool.or_eq_false_iff, Bool.and_eq_false_iff, Bool.not_eq_true', Bool.not_eq_false', bne_iff_ne, beq_iff_eq, beq_eq_false_iff_ne, bne_eq_false_iff_eq, ne_eq, Decidable.not_not, Int.not_lt, Int.not_le, gt_iff_lt, ge_iff_le, Bool.true_eq_false, Bool.false_eq_true, not_true_eq_false, not_false_eq_true] at h1p
    refine g_skip ?_
    refine n_then ?_
    refine g_seq ?_
    refine g_block ?_
    refine g_seq ?_
    -- region 3 slices.go:108
    refine g_region ?_
    refine wl_of (op_y (wn rfl) rfl rfl S (y_move rfl S rfl) fun a S => ?_)
    refine wl_of (op_y (wn rfl) rfl rfl S (y_assign rfl S rfl) fun a S => ?_)
    refine gl_nil ?_
    refine n_then ?_
    refine g_seq ?_
    -- region 4 slices.go:109
    refine g_region ?_
    refine wl_of (op_y (wn rfl) rfl rfl S (y_move rfl S rfl) fun a S => ?_)
    refine wl_of (op_y (wn rfl) rfl rfl S (y_move rfl S rfl) fun a S => ?_)
    refine wl_of (op_y (wn rfl) rfl rfl S (y_move rfl S rfl) fun a S => ?_)
    refine wl_of (op_y (wn rfl) rfl rfl S (y_iaddrn rfl Try.underlying22 Fsiz23 S H rfl rfl (by first | assumption | omega | (simp only [List.length_append, List.length_take, List.length_drop, List.length_replicate, List.length_set, List.length_map, List.length_cons, List.length_nil]; omega))) fun a S => ?_)
    refine wl_of (op_y (wn rfl) rfl rfl S (y_loads _ rfl Fsca23 S H rfl (by first | assumption | omega | (simp only [List.length_append, List.length_take, List.length_drop, List.length_replicate, List.length_set, List.length_map, List.length_cons, List.length_nil]; omega)) rfl) fun a S => ?_)
    refine wl_of (op_call (wn rfl) rfl rfl S (co_value rfl he S rfl rfl) (hstep _ (List.getElem_mem (by omega)) w H.toExt) fun v w hc a S => ?_)
    obtain ⟨rfl, he1⟩ := hc
    have H := H.ext he1
    refine gl_nil ?_
    refine n_then ?_
    -- cond 2
    refine c_if S rfl (fun h2 => ?_) (fun h2 => ?_)
    · have h2p := h2; try simp only [Option.isNone_some, Option.isNone_none, Option.isSome_some, Option.isSome_none, false_or, or_false, true_and, and_true, decide_eq_true_eq, decide_eq_false_iff_not, Bool.or_eq_true, Bool.and_eq_true, Bool.or_eq_false_iff, Bool.and_eq_false_iff, Bool.not_eq_true', Bool.not_eq_false', bne_iff_ne, beq_iff_eq, beq_eq_false_iff_ne, bne_eq_false_iff_eq, ne_eq, Decidable.not_not, Int.not_lt, Int.not_le, gt_iff_lt, ge_iff_le, Bool.true_eq_false, Bool.false_eq_true, not_true_eq_false, not_false_eq_true] at h2p
      refine g_seq ?_
      -- region 5 slices.go:110
      refine g_region ?_
      refine wl_of (op_y (wn rfl) rfl rfl S (y_move rfl S rfl) fun a S => ?_)
      refine wl_of (op_y (wn rfl) rfl rfl S (y_assign rfl S rfl) fun a S => ?_)
      refine gl_nil ?_
      refine n_then ?_
      refine g_ret ?_
      refine r_block (r_then (r_then (r_block (r_then (ret1 rfl S rfl ?_)))))
      exact .inr ⟨k, rfl, List.any_eq_true.2 ⟨_, List.getElem_mem (by omega), h2⟩, H.toExt⟩
    · have h2p := h2; try simp only [Option.isNone_some, Option.isNone_none, Option.isSome_some, Option.isSome_none, false_or, or_false, true_and, and_true, decide_eq_true_eq, decide_eq_false_iff_not, Bool.or_eq_true, Bool.and_eq_true, Bool.or_eq_false_iff, Bool.and_eq_false_iff, Bool.not_eq_true', Bool.not_eq_false', bne_iff_ne, beq_iff_eq, beq_eq_false_iff_ne, bne_eq_false_iff_eq, ne_eq, Decidable.not_not, Int.not_lt, Int.not_le, gt_iff_lt, ge_iff_le, Bool.true_eq_false, Bool.false_eq_true, not_true_eq_false, not_false_eq_true] at h2p
      refine g_skip ?_
      refine n_block ?_
      refine n_then ?_
      -- region 6 slices.go:108
      refine g_region ?_
      refine wl_of (op_y (wn rfl) rfl rfl S (y_add rfl S rfl rfl (by omega)) fun a S => ?_)
      refine wl_of (op_y (wn rfl) rfl rfl S (y_move rfl S rfl) fun a S => ?_)
      refine gl_nil ?_
      refine n_then ?_
      refine ⟨k + 1, S.nil.cons S 8 rfl, ((S.nil.cons S 1 rfl).cons S 0 rfl).cons S 7 rfl, H, ?_, ?_⟩
      · exact ⟨by omega, fun j h hj => by by_cases hjk : j < k; exact hpr j h hjk; (obtain rfl : j = k := by omega); exact h2⟩
      · omega
  · have h1p := h1; try simp only [Option.isNone_some, Option.isNone_none, Option.isSome_some, Option.isSome_none, false_or, or_false, true_and, and_true, decide_eq_true_eq, decide_eq_false_iff_not, Bool.or_eq_true, Bool.and_eq_true, Bool.or_eq_false_iff, Bool.and_eq_false_iff, Bool.not_eq_true', Bool.not_eq_false', bne_iff_ne, beq_iff_eq, beq_eq_false_iff_ne, bne_eq_false_iff_eq, ne_eq, Decidable.not_not, Int.not_lt, Int.not_le, gt_iff_lt, ge_iff_le, Bool.true_eq_false, Bool.false_eq_true, not_true_eq_false, not_false_eq_true] at h1p
    refine g_exit ?_
    refine x_then (x_then (x_eq ?_))
    refine n_then ?_
    have S := S.nil
    refine g_seq ?_
    -- region 7 slices.go:113
    refine g_region ?_
    refine wl_of (op_y (wn rfl) rfl rfl S (y_assign rfl S rfl) fun a S => ?_)
    refine gl_nil ?_
    refine n_then ?_
    refine g_ret ?_
    refine ret1 rfl S rfl ?_
    obtain rfl : k = xs.length := by omega
    exact .inl ⟨rfl, List.any_eq_false.2 (fun x hx => by obtain ⟨j, hj, rfl⟩ := List.getElem_of_mem hx; simp [hpr j hj hj]), H.toExt⟩
/-- slices.ContainsFunc[[][]int,[]int] -/
theorem containsFuncR_spec (v : Value) (xs : List (Value × List Int)) (f : FuncId) (cap : List Value) (he : Enters Try.prog f) (pr : (Value × List Int) → Bool) (w0 : World) (hv : IsSl w0 v 1 encRow xs)
    (hstep : ∀ x ∈ xs, ∀ w, Ext w0 w → Ret Try.prog f ([x.1] ++ cap).toArray w (fun u w' => u = .bool (pr x) ∧ Ext w w')) :
    Ret Try.prog 33 #[v, .func (.func f) #[] cap.toArray] w0 (fun u w => u = .bool (xs.any pr) ∧ Ext w0 w) := by
  refine ret_of_wp (nt := 9) Try.func33 rfl rfl rfl (fl := [(0, v), (1, .func (.func f) #[] cap.toArray)]) rfl (fun a S => ?_)
  have H := HSat.start w0
  refine g_seq ?_
  -- region 0 slices.go:124
  refine g_region ?_
  refine wl_of (op_y (wn rfl) rfl rfl S (y_assign rfl S rfl) fun a S => ?_)
  refine gl_nil ?_
  refine n_then ?_
  refine g_seq ?_
  -- region 1 slices.go:125
  refine g_region ?_
  refine wl_of (op_y (wn rfl) rfl rfl S (y_move rfl S rfl) fun a S => ?_)
  refine wl_of (op_y (wn rfl) rfl rfl S (y_move rfl S rfl) fun a S => ?_)
  refine wl_of (op_call (wn rfl) rfl rfl S (co_func rfl Try.call38 S rfl) (Ret.mono (indexFuncR_spec v xs f cap he pr w0 hv hstep) (fun u w h => (show ∃ i : Int, u = .int .i64 i ∧ xs.any pr = decide (i ≥ 0) ∧ Ext w0 w from by rcases h with ⟨h1, h2, h3⟩ | ⟨j, h1, h2, h3⟩; exact ⟨-1, h1, by rw [h2]; rfl, h3⟩; exact ⟨j, h1, by rw [h2]; simp, h3⟩))) fun v w hc a S => ?_)
  obtain ⟨i, rfl, hany, he1⟩ := hc
  have H := H.ext he1
  refine wl_of (op_y (wn rfl) rfl rfl S (y_bin rfl S rfl rfl rfl) fun a S => ?_)
  refine wl_of (op_y (wn rfl) rfl rfl S (y_assign rfl S rfl) fun a S => ?_)
  refine gl_nil ?_
  refine n_then ?_
  have S := S.nil.cons S 4 rfl
  refine g_ret ?_
  refine ret1 rfl S rfl ?_
  exact ⟨by rw [hany], H.toExt⟩
/-- foyer/foyerref40.Few -/
theorem few_spec (v : Value) (ps : List (Value × List Int)) (n : Int) (w0 : World) (hv : IsSl w0 v 1 encRow ps) (hr : ∀ p ∈ ps, IsSl w0 p.1 1 encI p.2) :
    Ret Try.prog 12 #[v, .int .i64 n] w0 (fun u w => u = .bool (fewG (gr ps) n) ∧ Ext w0 w) := by
  refine ret_of_wp (nt := 29) Try.func12 rfl rfl rfl (fl := [(0, v), (1, .int .i64 n)]) rfl (fun a S => ?_)
  have H := HSat.start w0
  have H := H.ro0 (Sl v 1 encRow ps) rfl (hv)
  have H := H.ro0 (RowsS 1 encI ps) rfl (hr)
  have hl := hv.len
  refine g_seq ?_
  -- region 0 ref.go:111
  refine g_region ?_
  refine wl_of (op_y (wn rfl) rfl rfl S (y_assign rfl S rfl) fun a S => ?_)
  refine gl_nil ?_
  refine n_then ?_
  refine g_seq ?_
  refine g_seq ?_
  -- region 1 ref.go:112
  refine g_region ?_
  refine wl_of (op_y (wn rfl) rfl rfl S (y_assign rfl S rfl) fun a S => ?_)
  refine gl_nil ?_
  refine n_then ?_
  refine g_block ?_
  -- slots written in the loop and forgotten at its head: [4]
  have SU := (S.nil.cons S 1 rfl).cons S 0 rfl
  refine loop_k (X := Nat) SU (fun k => [(5, .int .i64 (k : Int))]) (fun k => k ≤ ps.length ∧ ∀ j (h : j < ps.length), j < k → (ps[j].2.length : Int) ≤ n) (fun k => ps.length - k) 0 (S.nil.cons S 5 rfl) H (⟨by omega, fun j h hj => by omega⟩) (fun k a w S H hi => ?_)
  simp only [List.cons_append, List.nil_append] at S hi
  obtain ⟨hk, hno⟩ := hi
  refine g_seq ?_
  refine g_seq ?_
  -- region 2 ref.go:112
  refine g_region ?_
  refine wl_of (op_y (wn rfl) rfl rfl S (y_move rfl S rfl) fun a S => ?_)
  refine wl_of (op_y (wn rfl) rfl rfl S (y_move rfl S rfl) fun a S => ?_)
  refine wl_of (op_y (wn rfl) rfl rfl S (y_lens rfl Try.underlying22 S H rfl) fun a S => ?_)
  refine wl_of (op_y (wn rfl) rfl rfl S (y_bin rfl S rfl rfl rfl) fun a S => ?_)
  refine wl_of (op_y (wn rfl) rfl rfl S (y_move rfl S rfl) fun a S => ?_)
  refine' wl_and 4 10 rfl S H rfl rfl rfl rfl rfl rfl rfl (fun _ S => (wn rfl)) (fun h1 kk => ?yh1) (fun a w S H => ?_)
  case yh1 =>
    have h1p := h1; try simp only [Option.isNone_some, Option.isNone_none, Option.isSome_some, Option.isSome_none, false_or, or_false, true_and, and_true, decide_eq_true_eq, decide_eq_false_iff_not, Bool.or_eq_true, Bool.and_eq_true, Bool.or_eq_false_iff, Bool.and_eq_false_iff, Bool.not_eq_true', Bool.not_eq_false', bne_iff_ne, beq_iff_eq, beq_eq_false_iff_ne, bne_eq_false_iff_eq, ne_eq, Decidable.not_not, Int.not_lt, Int.not_le, gt_iff_lt, ge_iff_le, Bool.true_eq_false, Bool.false_eq_true, not_true_eq_false, not_false_eq_true] at h1p
    refine wl_of (op_y (wg' 10 rfl rfl S rfl h1 rfl) rfl rfl S (y_move rfl S rfl) fun a S => ?_)
    refine wl_of (op_y (wg' 10 rfl rfl S rfl h1 rfl) rfl rfl S (y_lens rfl Try.underlying22 S H rfl) fun a S => ?_)
    refine wl_of (op_y (wg' 10 rfl rfl S rfl h1 rfl) rfl rfl S (y_move rfl S rfl) fun a S => ?_)
    refine wl_of (op_y (wg' 10 rfl rfl S rfl h1 rfl) rfl rfl S (y_bin rfl S rfl rfl rfl) fun a S => ?_)
    refine wl_of (op_y (wn rfl) rfl rfl S (y_and' rfl h1 S rfl rfl) fun a S => ?_)
    exact kk _ _ (S.join 5 15 rfl rfl) H
  refine gl_nil ?_
  refine n_then ?_
  -- cond 1
  refine c_if S rfl (fun h2 => ?_) (fun h2 => ?_)
  · have h2p := h2; try simp only [Option.isNone_some, Option.isNone_none, Option.isSome_some, Option.isSome_none, false_or, or_false, true_and, and_true, decide_eq_true_eq, decide_eq_false_iff_not, Bool.or_eq_true, Bool.and_eq_true, Bool.or_eq_false_iff, Bool.and_eq_false_iff, Bool.not_eq_true', Bool.not_eq_false', bne_iff_ne, beq_iff_eq, beq_eq_false_iff_ne, bne_eq_false_iff_eq, ne_eq, Decidable.not_not, Int.not_lt, Int.not_le, gt_iff_lt, ge_iff_le, Bool.true_eq_false, Bool.false_eq_true, not_true_eq_false, not_false_eq_true] at h2p
    have hkl : k < ps.length := by omega
    refine g_skip ?_
    refine n_then ?_
    refine g_seq ?_
    refine g_block ?_
    refine g_seq ?_
    -- region 4 ref.go:113
    refine g_region ?_
    refine wl_of (op_y (wn rfl) rfl rfl S (y_move rfl S rfl) fun a S => ?_)
    refine wl_of (op_y (wn rfl) rfl rfl S (y_move rfl S rfl) fun a S => ?_)
    refine wl_of (op_y (wn rfl) rfl rfl S (y_iaddrn rfl Try.underlying22 Fsiz23 S H rfl rfl (by first | assumption | omega | (simp only [List.length_append, List.length_take, List.length_drop, List.length_replicate, List.length_set, List.length_map, List.length_cons, List.length_nil]; omega))) fun a S => ?_)
    refine wl_of (op_y (wn rfl) rfl rfl S (y_loads _ rfl Fsca23 S H rfl (by first | assumption | omega | (simp only [List.length_append, List.length_take, List.length_drop, List.length_replicate, List.length_set, List.length_map, List.length_cons, List.length_nil]; omega)) rfl) fun a S => ?_)
    refine wl_of (op_y (wn rfl) rfl rfl S (y_lens rfl Try.underlying23 S H rfl) fun a S => ?_)
    refine wl_of (op_y (wn rfl) rfl rfl S (y_move rfl S rfl) fun a S => ?_)
    refine wl_of (op_y (wn rfl) rfl rfl S (y_bin rfl S rfl rfl rfl) fun a S => ?_)
    refine gl_nil ?_
    refine n_then ?_
    -- cond 2
    refine c_if S rfl (fun h3 => ?_) (fun h3 => ?_)
    · have h3p := h3; try simp only [Option.isNone_some, Option.isNone_none, Option.isSome_some, Option.isSome_none, false_or, or_false, true_and, and_true, decide_eq_true_eq, decide_eq_false_iff_not, Bool.or_eq_true, Bool.and_eq_true, Bool.or_eq_false_iff, Bool.and_eq_false_iff, Bool.not_eq_true', Bool.not_eq_false', bne_iff_ne, beq_iff_eq, beq_eq_false_iff_ne, bne_eq_false_iff_eq, ne_eq, Decidable.not_not, Int.not_lt, Int.not_le, gt_iff_lt, ge_iff_le, Bool.true_eq_false, Bool.false_eq_true, not_true_eq_false, not_false_eq_true] at h3p
      refine g_seq ?_
      -- region 5 ref.go:114
      refine g_region ?_
      refine wl_of (op_y (wn rfl) rfl rfl S (y_assign rfl S rfl) fun a S => ?_)
      refine gl_nil ?_
      refine n_then ?_
      refine g_ret ?_
      refine r_block (r_then (r_then (r_block (r_then (ret1 rfl S rfl ?_)))))
      exact ⟨congrArg Value.bool (few_no k hkl (by omega)).symm, H.toExt⟩
    · have h3p := h3; try simp only [Option.isNone_some, Option.isNone_none, Option.isSome_some, Option.isSome_none, false_or, or_false, true_and, and_true, decide_eq_true_eq, decide_eq_false_iff_not, Bool.or_eq_true, Bool.and_eq_true, Bool.or_eq_false_iff, Bool.and_eq_false_iff, Bool.not_eq_true', Bool.not_eq_false', bne_iff_ne, beq_iff_eq, beq_eq_false_iff_ne, bne_eq_false_iff_eq, ne_eq, Decidable.not_not, Int.not_lt, Int.not_le, gt_iff_lt, ge_iff_le, Bool.true_eq_false, Bool.false_eq_true, not_true_eq_false, not_false_eq_true] at h3p
      refine g_skip ?_
      refine n_block ?_
      refine n_then ?_
      -- region 3 ref.go:112
      refine g_region ?_
      refine wl_of (op_y (wn rfl) rfl rfl S (y_move rfl S rfl) fun a S => ?_)
      refine wl_of (op_y (wn rfl) rfl rfl S (y_add rfl S rfl rfl (by omega)) fun a S => ?_)
      refine wl_of (op_y (wn rfl) rfl rfl S (y_assign rfl S rfl) fun a S => ?_)
      refine gl_nil ?_
      refine n_then ?_
      refine ⟨k + 1, S.nil.cons S 5 rfl, (S.nil.cons S 1 rfl).cons S 0 rfl, H, ?_, ?_⟩
      · exact ⟨by omega, fun j h hj => by by_cases hjk : j < k; exact hno j h hjk; (obtain rfl : j = k := by omega); simpa using h3⟩
      · omega
  · have h2p := h2; try simp only [Option.isNone_some, Option.isNone_none, Option.isSome_some, Option.isSome_none, false_or, or_false, true_and, and_true, decide_eq_true_eq, decide_eq_false_iff_not, Bool.or_eq_true, Bool.and_eq_true, Bool.or_eq_false_iff, Bool.and_eq_false_iff, Bool.not_eq_true', Bool.not_eq_false', bne_iff_ne, beq_iff_eq, beq_eq_false_iff_ne, bne_eq_false_iff_eq, ne_eq, Decidable.not_not, Int.not_lt, Int.not_le, gt_iff_lt, ge_iff_le, Bool.true_eq_false, Bool.false_eq_true, not_true_eq_false, not_false_eq_true] at h2p
    refine g_exit ?_
    refine x_then (x_then (x_eq ?_))
    refine n_then ?_
    have S := (S.nil.cons S 1 rfl).cons S 0 rfl
    refine g_seq ?_
    -- region 6 ref.go:117
    refine g_region ?_
    refine wl_of (op_y (wn rfl) rfl rfl S (y_move rfl S rfl) fun a S => ?_)
    refine wl_of (op_y (wn rfl) rfl rfl S (y_lens rfl Try.underlying22 S H rfl) fun a S => ?_)
    refine wl_of (op_y (wn rfl) rfl rfl S (y_move rfl S rfl) fun a S => ?_)
    refine wl_of (op_y (wn rfl) rfl rfl S (y_bin rfl S rfl rfl rfl) fun a S => ?_)
    refine wl_of (op_y (wn rfl) rfl rfl S (y_assign rfl S rfl) fun a S => ?_)
    refine gl_nil ?_
    refine n_then ?_
    have S := S.nil.cons S 4 rfl
    refine g_ret ?_
    refine ret1 rfl S rfl ?_
    exact ⟨congrArg Value.bool (few_end k n hk hno (by omega)).symm, H.toExt⟩
/-- foyer/match.increasing -/
theorem increasing_spec (v : Value) (xs : List Int) (n : Int) (w0 : World) (hv : IsSl w0 v 1 encI xs) :
    Ret Try.prog 25 #[v, .int .i64 n] w0 (fun u w => u = .bool (formedB xs n) ∧ Ext w0 w) := by
  refine ret_of_wp (nt := 24) Try.func25 rfl rfl rfl (fl := [(0, v), (1, .int .i64 n)]) rfl (fun a S => ?_)
  have H := HSat.start w0
  have H := H.ro0 (Sl v 1 encI xs) rfl (hv)
  have hl := hv.len
  refine g_seq ?_
  -- region 0 match.go:86
  refine g_region ?_
  refine wl_of (op_y (wn rfl) rfl rfl S (y_assign rfl S rfl) fun a S => ?_)
  refine gl_nil ?_
  refine n_then ?_
  refine g_seq ?_
  -- region 1 match.go:87
  refine g_region ?_
  refine wl_of (op_y (wn rfl) rfl rfl S (y_assign rfl S rfl) fun a S => ?_)
  refine gl_nil ?_
  refine n_then ?_
  refine g_seq ?_
  refine g_seq ?_
  -- region 2 match.go:88
  refine g_region ?_
  refine wl_of (op_y (wn rfl) rfl rfl S (y_move rfl S rfl) fun a S => ?_)
  refine wl_of (op_y (wn rfl) rfl rfl S (y_lens rfl Try.underlying23 S H rfl) fun a S => ?_)
  refine wl_of (op_y (wn rfl) rfl rfl S (y_move rfl S rfl) fun a S => ?_)
  refine gl_nil ?_
  refine n_then ?_
  refine g_block ?_
  -- slots written in the loop and forgotten at its head: [4]
  have SU := ((S.nil.cons S 1 rfl).cons S 8 rfl).cons S 9 rfl
  refine loop_k (X := Nat) SU (fun k => [(5, .int .i64 (if k = 0 then -1 else atI xs (k - 1))), (10, .int .i64 (k : Int))]) (fun k => k ≤ xs.length ∧ ∀ j, j < k → 0 ≤ atI xs j ∧ atI xs j < n ∧ (0 < j → atI xs (j - 1) < atI xs j)) (fun k => xs.length - k) 0 ((S.nil.cons S 10 rfl).cons S 5 rfl) H (⟨by omega, fun j hj => by omega⟩) (fun k a w S H hi => ?_)
  simp only [List.cons_append, List.nil_append] at S hi
  obtain ⟨hk, hno⟩ := hi
  refine g_seq ?_
  -- region 3 match.go:88
  refine g_region ?_
  refine wl_of (op_y (wn rfl) rfl rfl S (y_bin rfl S rfl rfl rfl) fun a S => ?_)
  refine gl_nil ?_
  refine n_then ?_
  refine g_seq ?_
  -- cond 1
  refine c_if S rfl (fun h1 => ?_) (fun h1 => ?_)
  · have h1p := h1; try simp only [Option.isNone_some, Option.isNone_none, Option.isSome_some, Option.isSome_none, false_or, or_false, true_and, and_true, decide_eq_true_eq, decide_eq_false_iff_not, Bool.or_eq_true, Bool.and_eq_true, Bool.or_eq_false_iff, Bool.and_eq_false_iff, Bool.not_eq_true', Bool.not_eq_false', bne_iff_ne, beq_iff_eq, beq_eq_false_iff_ne, bne_eq_false_iff_eq, ne_eq, Decidable.not_not, Int.not_lt, Int.not_le, gt_iff_lt, ge_iff_le, Bool.true_eq_false, Bool.false_eq_true, not_true_eq_false, not_false_eq_true] at h1p
    have hkl : k < xs.length := by omega
    have hat := atI_eq hkl
    have hpr := fun h0 : 0 < k => hno (k - 1) (by omega)
    refine g_skip ?_
    refine n_then ?_
    refine g_seq ?_
    refine g_block ?_
    refine g_seq ?_
    -- region 4 match.go:88
    refine g_region ?_
    refine wl_of (op_y (wn rfl) rfl rfl S (y_iaddrn rfl Try.underlying23 Fsiz3 S H rfl rfl (by first | assumption | omega | (simp only [List.length_append, List.length_take, List.length_drop, List.length_replicate, List.length_set, List.length_map, List.length_cons, List.length_nil]; omega))) fun a S => ?_)
    refine wl_of (op_y (wn rfl) rfl rfl S (y_loads _ rfl Fsca3 S H rfl (by first | assumption | omega | (simp only [List.length_append, List.length_take, List.length_drop, List.length_replicate, List.length_set, List.length_map, List.length_cons, List.length_nil]; omega)) rfl) fun a S => ?_)
    refine wl_of (op_y (wn rfl) rfl rfl S (y_assign rfl S rfl) fun a S => ?_)
    refine gl_nil ?_
    refine n_then ?_
    refine g_seq ?_
    refine g_seq ?_
    -- region 5 match.go:89
    refine g_region ?_
    refine wl_of (op_y (wn rfl) rfl rfl S (y_move rfl S rfl) fun a S => ?_)
    refine wl_of (op_y (wn rfl) rfl rfl S (y_move rfl S rfl) fun a S => ?_)
    refine wl_of (op_y (wn rfl) rfl rfl S (y_bin rfl S rfl rfl rfl) fun a S => ?_)
    refine wl_of (op_y (wn rfl) rfl rfl S (y_move rfl S rfl) fun a S => ?_)
    refine' wl_or 3 17 rfl S H rfl rfl rfl rfl rfl rfl rfl (fun _ S => (wn rfl)) (fun h2 kk => ?yh2) (fun a w S H => ?_)
    case yh2 =>
      have h2p := h2; try simp only [Option.isNone_some, Option.isNone_none, Option.isSome_some, Option.isSome_none, false_or, or_false, true_and, and_true, decide_eq_true_eq, decide_eq_false_iff_not, Bool.or_eq_true, Bool.and_eq_true, Bool.or_eq_false_iff, Bool.and_eq_false_iff, Bool.not_eq_true', Bool.not_eq_false', bne_iff_ne, beq_iff_eq, beq_eq_false_iff_ne, bne_eq_false_iff_eq, ne_eq, Decidable.not_not, Int.not_lt, Int.not_le, gt_iff_lt, ge_iff_le, Bool.true_eq_false, Bool.false_eq_true, not_true_eq_false, not_false_eq_true] at h2p
      refine wl_of (op_y (wg' 17 rfl rfl S rfl h2 rfl) rfl rfl S (y_move rfl S rfl) fun a S => ?_)
      refine wl_of (op_y (wg' 17 rfl rfl S rfl h2 rfl) rfl rfl S (y_move rfl S rfl) fun a S => ?_)
      refine wl_of (op_y (wg' 17 rfl rfl S rfl h2 rfl) rfl rfl S (y_bin rfl S rfl rfl rfl) fun a S => ?_)
      refine wl_of (op_y (wn rfl) rfl rfl S (y_or' rfl h2 S rfl rfl) fun a S => ?_)
      exact kk _ _ (S.join 4 21 rfl rfl) H
    refine gl_nil ?_
    refine n_then ?_
    -- cond 2
    refine c_if S rfl (fun h3 => ?_) (fun h3 => ?_)
    · have h3p := h3; try simp only [Option.isNone_some, Option.isNone_none, Option.isSome_some, Option.isSome_none, false_or, or_false, true_and, and_true, decide_eq_true_eq, decide_eq_false_iff_not, Bool.or_eq_true, Bool.and_eq_true, Bool.or_eq_false_iff, Bool.and_eq_false_iff, Bool.not_eq_true', Bool.not_eq_false', bne_iff_ne, beq_iff_eq, beq_eq_false_iff_ne, bne_eq_false_iff_eq, ne_eq, Decidable.not_not, Int.not_lt, Int.not_le, gt_iff_lt, ge_iff_le, Bool.true_eq_false, Bool.false_eq_true, not_true_eq_false, not_false_eq_true] at h3p
      refine g_seq ?_
      -- region 6 match.go:90
      refine g_region ?_
      refine wl_of (op_y (wn rfl) rfl rfl S (y_assign rfl S rfl) fun a S => ?_)
      refine gl_nil ?_
      refine n_then ?_
      refine g_ret ?_
      refine r_then (r_block (r_then (r_then (r_block (r_then (ret1 rfl S rfl ?_))))))
      exact ⟨congrArg Value.bool (formed_no k hkl hno (by rw [hat]; split at h3p <;> omega)).symm, H.toExt⟩
    · have h3p := h3; try simp only [Option.isNone_some, Option.isNone_none, Option.isSome_some, Option.isSome_none, false_or, or_false, true_and, and_true, decide_eq_true_eq, decide_eq_false_iff_not, Bool.or_eq_true, Bool.and_eq_true, Bool.or_eq_false_iff, Bool.and_eq_false_iff, Bool.not_eq_true', Bool.not_eq_false', bne_iff_ne, beq_iff_eq, beq_eq_false_iff_ne, bne_eq_false_iff_eq, ne_eq, Decidable.not_not, Int.not_lt, Int.not_le, gt_iff_lt, ge_iff_le, Bool.true_eq_false, Bool.false_eq_true, not_true_eq_false, not_false_eq_true] at h3p
      refine g_skip ?_
      refine n_then ?_
      -- region 7 match.go:92
      refine g_region ?_
      refine wl_of (op_y (wn rfl) rfl rfl S (y_move rfl S rfl) fun a S => ?_)
      refine wl_of (op_y (wn rfl) rfl rfl S (y_assign rfl S rfl) fun a S => ?_)
      refine gl_nil ?_
      refine n_block ?_
      refine n_then ?_
      -- region 8 match.go:88
      refine g_region ?_
      refine wl_of (op_y (wn rfl) rfl rfl S (y_add rfl S rfl rfl (by omega)) fun a S => ?_)
      refine wl_of (op_y (wn rfl) rfl rfl S (y_move rfl S rfl) fun a S => ?_)
      refine gl_nil ?_
      refine n_then ?_
      refine ⟨k + 1, (S.nil.cons S 10 rfl).cons S 5 (by simp [List.lookup, hat]), ((S.nil.cons S 1 rfl).cons S 8 rfl).cons S 9 rfl, H, ⟨by omega, fun j hj => ?_⟩, by omega⟩
      by_cases hjk : j < k
      · exact hno j hjk
      · obtain rfl : j = k := by omega
        rw [hat]; split at h3p <;> exact ⟨by omega, by omega, fun h0 => by omega⟩
  · have h1p := h1; try simp only [Option.isNone_some, Option.isNone_none, Option.isSome_some, Option.isSome_none, false_or, or_false, true_and, and_true, decide_eq_true_eq, decide_eq_false_iff_not, Bool.or_eq_true, Bool.and_eq_true, Bool.or_eq_false_iff, Bool.and_eq_false_iff, Bool.not_eq_true', Bool.not_eq_false', bne_iff_ne, beq_iff_eq, beq_eq_false_iff_ne, bne_eq_false_iff_eq, ne_eq, Decidable.not_not, Int.not_lt, Int.not_le, gt_iff_lt, ge_iff_le, Bool.true_eq_false, Bool.false_eq_true, not_true_eq_false, not_false_eq_true] at h1p
    refine g_exit ?_
    refine x_then (x_then (x_eq ?_))
    refine n_then ?_
    have S := S.nil
    refine g_seq ?_
    -- region 9 match.go:94
    refine g_region ?_
    refine wl_of (op_y (wn rfl) rfl rfl S (y_assign rfl S rfl) fun a S => ?_)
    refine gl_nil ?_
    refine n_then ?_
    refine g_ret ?_
    refine ret1 rfl S rfl ?_
    obtain rfl : k = xs.length := by omega
    exact ⟨congrArg Value.bool (formedB_iff.2 ⟨hno⟩).symm, H.toExt⟩
/-- foyer/foyerref40.formed -/
theorem formed_spec (v : Value) (xs : List Int) (n : Int) (w0 : World) (hv : IsSl w0 v 1 encI xs) :
    Ret Try.prog 29 #[v, .int .i64 n] w0 (fun u w => u = .bool (formedB xs n) ∧ Ext w0 w) := by
  refine ret_of_wp (nt := 41) Try.func29 rfl rfl rfl (fl := [(0, v), (1, .int .i64 n)]) rfl (fun a S => ?_)
  have H := HSat.start w0
  have H := H.ro0 (Sl v 1 encI xs) rfl (hv)
  have hl := hv.len
  refine g_seq ?_
  -- region 0 ref.go:53
  refine g_region ?_
  refine wl_of (op_y (wn rfl) rfl rfl S (y_assign rfl S rfl) fun a S => ?_)
  refine gl_nil ?_
  refine n_then ?_
  refine g_seq ?_
  refine g_seq ?_
  -- region 1 ref.go:54
  refine g_region ?_
  refine wl_of (op_y (wn rfl) rfl rfl S (y_assign rfl S rfl) fun a S => ?_)
  refine gl_nil ?_
  refine n_then ?_
  refine g_block ?_
  -- slots written in the loop and forgotten at its head: [4]
  have SU := (S.nil.cons S 1 rfl).cons S 0 rfl
  refine loop_k (X := Nat) SU (fun k => [(5, .int .i64 (k : Int))]) (fun k => k ≤ xs.length ∧ ∀ j, j < k → 0 ≤ atI xs j ∧ atI xs j < n ∧ (0 < j → atI xs (j - 1) < atI xs j)) (fun k => xs.length - k) 0 (S.nil.cons S 5 rfl) H (⟨by omega, fun j hj => by omega⟩) (fun k a w S H hi => ?_)
  simp only [List.cons_append, List.nil_append] at S hi
  obtain ⟨hk, hno⟩ := hi
  refine g_seq ?_
  refine g_seq ?_
  -- region 2 ref.go:54
  refine g_region ?_
  refine wl_of (op_y (wn rfl) rfl rfl S (y_move rfl S rfl) fun a S => ?_)
  refine wl_of (op_y (wn rfl) rfl rfl S (y_move rfl S rfl) fun a S => ?_)
  refine wl_of (op_y (wn rfl) rfl rfl S (y_lens rfl Try.underlying23 S H rfl) fun a S => ?_)
  refine wl_of (op_y (wn rfl) rfl rfl S (y_bin rfl S rfl rfl rfl) fun a S => ?_)
  refine gl_nil ?_
  refine n_then ?_
  -- cond 1
  refine c_if S rfl (fun h1 => ?_) (fun h1 => ?_)
  · have h1p := h1; try simp only [Option.isNone_some, Option.isNone_none, Option.isSome_some, Option.isSome_none, false_or, or_false, true_and, and_true, decide_eq_true_eq, decide_eq_false_iff_not, Bool.or_eq_true, Bool.and_eq_true, Bool.or_eq_false_iff, Bool.and_eq_false_iff, Bool.not_eq_true', Bool.not_eq_false', bne_iff_ne, beq_iff_eq, beq_eq_false_iff_ne, bne_eq_false_iff_eq, ne_eq, Decidable.not_not, Int.not_lt, Int.not_le, gt_iff_lt, ge_iff_le, Bool.true_eq_false, Bool.false_eq_true, not_true_eq_false, not_false_eq_true] at h1p
    have hkl : k < xs.length := by omega
    have hat := atI_eq hkl
    have hk1 : ((k : Int) - 1).toNat < xs.length := by omega
    have hat1 : atI xs (k - 1) = xs[((k : Int) - 1).toNat] := by rw [show k - 1 = ((k : Int) - 1).toNat by omega]; exact atI_eq hk1
    refine g_skip ?_
    refine n_then ?_
    refine g_seq ?_
    refine g_block ?_
    refine g_seq ?_
    -- region 4 DRAWS ref.go:55
    refine region_st (loud := []) (tails := []) (free := []) [0, 1, 2, 3, 4, 5, 6, 7, 8, 9, 10, 11, 12, 13, 14, 15, 16, 17, 18, 19, 20, 21, 22, 23, 24, 25, 26, 27, 28] [] Fmo (by kernel_rfl) (by kernel_rfl) rfl H ?_
    refine m_w rfl rfl (wn rfl) rfl rfl S (fun w H => y_move rfl S rfl) fun a S => ?_
    refine m_w rfl rfl (wn rfl) rfl rfl S (fun w H => y_move rfl S rfl) fun a S => ?_
    refine m_w rfl rfl (wn rfl) rfl rfl S (fun w H => y_iaddrn rfl Try.underlying23 Fsiz3 S H rfl rfl (by first | assumption | omega | (simp only [List.length_append, List.length_take, List.length_drop, List.length_replicate, List.length_set, List.length_map, List.length_cons, List.length_nil]; omega))) fun a S => ?_
    refine m_loads _ rfl rfl (wn rfl) rfl rfl S rfl Fsca3 rfl (by first | assumption | omega | (simp only [List.length_append, List.length_take, List.length_drop, List.length_replicate, List.length_set, List.length_map, List.length_cons, List.length_nil]; omega)) rfl fun a S => ?_
    refine m_w rfl rfl (wn rfl) rfl rfl S (fun w H => y_bin rfl S rfl rfl rfl) fun a S => ?_
    refine m_w rfl rfl (wn rfl) rfl rfl S (fun w H => y_move rfl S rfl) fun a S => ?_
    refine' m_orq [6, 7, 8, 9, 10, 11] 17 S rfl rfl rfl rfl rfl rfl rfl rfl rfl (fun _ S => (wn rfl)) (fun h2 kk => ?yh2) (fun a S => ?_)
    case yh2 =>
      have h2p := h2; try simp only [Option.isNone_some, Option.isNone_none, Option.isSome_some, Option.isSome_none, false_or, or_false, true_and, and_true, decide_eq_true_eq, decide_eq_false_iff_not, Bool.or_eq_true, Bool.and_eq_true, Bool.or_eq_false_iff, Bool.and_eq_false_iff, Bool.not_eq_true', Bool.not_eq_false', bne_iff_ne, beq_iff_eq, beq_eq_false_iff_ne, bne_eq_false_iff_eq, ne_eq, Decidable.not_not, Int.not_lt, Int.not_le, gt_iff_lt, ge_iff_le, Bool.true_eq_false, Bool.false_eq_true, not_true_eq_false, not_false_eq_true] at h2p
      refine m_w rfl rfl (wg' 17 rfl rfl S rfl h2 rfl) rfl rfl S (fun w H => y_move rfl S rfl) fun a S => ?_
      refine m_w rfl rfl (wg' 17 rfl rfl S rfl h2 rfl) rfl rfl S (fun w H => y_move rfl S rfl) fun a S => ?_
      refine m_w rfl rfl (wg' 17 rfl rfl S rfl h2 rfl) rfl rfl S (fun w H => y_iaddrn rfl Try.underlying23 Fsiz3 S H rfl rfl (by first | assumption | omega | (simp only [List.length_append, List.length_take, List.length_drop, List.length_replicate, List.length_set, List.length_map, List.length_cons, List.length_nil]; omega))) fun a S => ?_
      refine m_loads _ rfl rfl (wg' 17 rfl rfl S rfl h2 rfl) rfl rfl S rfl Fsca3 rfl (by first | assumption | omega | (simp only [List.length_append, List.length_take, List.length_drop, List.length_replicate, List.length_set, List.length_map, List.length_cons, List.length_nil]; omega)) rfl fun a S => ?_
      refine m_w rfl rfl (wg' 17 rfl rfl S rfl h2 rfl) rfl rfl S (fun w H => y_move rfl S rfl) fun a S => ?_
      refine m_w rfl rfl (wg' 17 rfl rfl S rfl h2 rfl) rfl rfl S (fun w H => y_bin rfl S rfl rfl rfl) fun a S => ?_
      refine m_w rfl rfl (wn rfl) rfl rfl S (fun w H => y_or' rfl h2 S rfl rfl) fun a S => ?_
      exact kk _ (S.join 7 24 rfl rfl)
    refine m_w rfl rfl (wn rfl) rfl rfl S (fun w H => y_move rfl S rfl) fun a S => ?_
    refine' m_orq [14, 15, 16, 17, 18, 19, 20, 21, 22, 23, 24, 25, 26, 27] 25 S rfl rfl rfl rfl rfl rfl rfl rfl rfl (fun _ S => (wn rfl)) (fun h3 kk => ?yh3) (fun a S => ?_)
    case yh3 =>
      have h3p := h3; try simp only [Option.isNone_some, Option.isNone_none, Option.isSome_some, Option.isSome_none, false_or, or_false, true_and, and_true, decide_eq_true_eq, decide_eq_false_iff_not, Bool.or_eq_true, Bool.and_eq_true, Bool.or_eq_false_iff, Bool.and_eq_false_iff, Bool.not_eq_true', Bool.not_eq_false', bne_iff_ne, beq_iff_eq, beq_eq_false_iff_ne, bne_eq_false_iff_eq, ne_eq, Decidable.not_not, Int.not_lt, Int.not_le, gt_iff_lt, ge_iff_le, Bool.true_eq_false, Bool.false_eq_true, not_true_eq_false, not_false_eq_true] at h3p
      refine m_w rfl rfl (wg' 25 rfl rfl S rfl h3 rfl) rfl rfl S (fun w H => y_move rfl S rfl) fun a S => ?_
      refine m_w rfl rfl (wg' 25 rfl rfl S rfl h3 rfl) rfl rfl S (fun w H => y_bin rfl S rfl rfl rfl) fun a S => ?_
      refine m_w rfl rfl (wg' 25 rfl rfl S rfl h3 rfl) rfl rfl S (fun w H => y_move rfl S rfl) fun a S => ?_
      refine' m_andq [17, 18, 19, 20, 21, 22, 23, 24, 25, 26] 28 S rfl rfl rfl rfl rfl rfl rfl rfl rfl (fun _ S => (wg' 25 rfl rfl S rfl h3 rfl)) (fun h4 kk => ?yh4) (fun a S => ?_)
      case yh4 =>
        have h4p := h4; try simp only [Option.isNone_some, Option.isNone_none, Option.isSome_some, Option.isSome_none, false_or, or_false, true_and, and_true, decide_eq_true_eq, decide_eq_false_iff_not, Bool.or_eq_true, Bool.and_eq_true, Bool.or_eq_false_iff, Bool.and_eq_false_iff, Bool.not_eq_true', Bool.not_eq_false', bne_iff_ne, beq_iff_eq, beq_eq_false_iff_ne, bne_eq_false_iff_eq, ne_eq, Decidable.not_not, Int.not_lt, Int.not_le, gt_iff_lt, ge_iff_le, Bool.true_eq_false, Bool.false_eq_true, not_true_eq_false, not_false_eq_true] at h4p
        refine m_w rfl rfl (wg' 28 rfl rfl S rfl h4 rfl) rfl rfl S (fun w H => y_move rfl S rfl) fun a S => ?_
        refine m_w rfl rfl (wg' 28 rfl rfl S rfl h4 rfl) rfl rfl S (fun w H => y_move rfl S rfl) fun a S => ?_
        refine m_w rfl rfl (wg' 28 rfl rfl S rfl h4 rfl) rfl rfl S (fun w H => y_iaddrn rfl Try.underlying23 Fsiz3 S H rfl rfl (by first | assumption | omega | (simp only [List.length_append, List.length_take, List.length_drop, List.length_replicate, List.length_set, List.length_map, List.length_cons, List.length_nil]; omega))) fun a S => ?_
        refine m_loads _ rfl rfl (wg' 28 rfl rfl S rfl h4 rfl) rfl rfl S rfl Fsca3 rfl (by first | assumption | omega | (simp only [List.length_append, List.length_take, List.length_drop, List.length_replicate, List.length_set, List.length_map, List.length_cons, List.length_nil]; omega)) rfl fun a S => ?_
        refine m_w rfl rfl (wg' 28 rfl rfl S rfl h4 rfl) rfl rfl S (fun w H => y_move rfl S rfl) fun a S => ?_
        refine m_w rfl rfl (wg' 28 rfl rfl S rfl h4 rfl) rfl rfl S (fun w H => y_move rfl S rfl) fun a S => ?_
        refine m_w rfl rfl (wg' 28 rfl rfl S rfl h4 rfl) rfl rfl S (fun w H => y_sub rfl S rfl rfl (by omega)) fun a S => ?_
        refine m_w rfl rfl (wg' 28 rfl rfl S rfl h4 rfl) rfl rfl S (fun w H => y_iaddrs rfl Try.underlying23 Fsiz3 S H rfl rfl (by first | assumption | omega | (simp only [List.length_append, List.length_take, List.length_drop, List.length_replicate, List.length_set, List.length_map, List.length_cons, List.length_nil]; omega))) fun a S => ?_
        refine m_loads _ rfl rfl (wg' 28 rfl rfl S rfl h4 rfl) rfl rfl S rfl Fsca3 rfl (by first | assumption | omega | (simp only [List.length_append, List.length_take, List.length_drop, List.length_replicate, List.length_set, List.length_map, List.length_cons, List.length_nil]; omega)) rfl fun a S => ?_
        refine m_w rfl rfl (wg' 28 rfl rfl S rfl h4 rfl) rfl rfl S (fun w H => y_bin rfl S rfl rfl rfl) fun a S => ?_
        refine m_w rfl rfl (wg' 25 rfl rfl S rfl h3 rfl) rfl rfl S (fun w H => y_and' rfl h4 S rfl rfl) fun a S => ?_
        exact kk _ (S.join 11 39 rfl rfl)
      refine m_w rfl rfl (wn rfl) rfl rfl S (fun w H => y_or' rfl h3 S rfl rfl) fun a S => ?_
      exact kk _ (S.join 5 40 rfl rfl)
    refine m_nil (fun w H => ?_)
    refine n_then ?_
    -- cond 2
    refine c_if S rfl (fun h5 => ?_) (fun h5 => ?_)
    · have h5p := h5; try simp only [Option.isNone_some, Option.isNone_none, Option.isSome_some, Option.isSome_none, false_or, or_false, true_and, and_true, decide_eq_true_eq, decide_eq_false_iff_not, Bool.or_eq_true, Bool.and_eq_true, Bool.or_eq_false_iff, Bool.and_eq_false_iff, Bool.not_eq_true', Bool.not_eq_false', bne_iff_ne, beq_iff_eq, beq_eq_false_iff_ne, bne_eq_false_iff_eq, ne_eq, Decidable.not_not, Int.not_lt, Int.not_le, gt_iff_lt, ge_iff_le, Bool.true_eq_false, Bool.false_eq_true, not_true_eq_false, not_false_eq_true] at h5p
      refine g_seq ?_
      -- region 5 ref.go:56
      refine g_region ?_
      refine wl_of (op_y (wn rfl) rfl rfl S (y_assign rfl S rfl) fun a S => ?_)
      refine gl_nil ?_
      refine n_then ?_
      refine g_ret ?_
      refine r_block (r_then (r_then (r_block (r_then (ret1 rfl S rfl ?_)))))
      exact ⟨congrArg Value.bool (formed_no k hkl hno (by rw [hat, hat1]; omega)).symm, H.toExt⟩
    · have h5p := h5; try simp only [Option.isNone_some, Option.isNone_none, Option.isSome_some, Option.isSome_none, false_or, or_false, true_and, and_true, decide_eq_true_eq, decide_eq_false_iff_not, Bool.or_eq_true, Bool.and_eq_true, Bool.or_eq_false_iff, Bool.and_eq_false_iff, Bool.not_eq_true', Bool.not_eq_false', bne_iff_ne, beq_iff_eq, beq_eq_false_iff_ne, bne_eq_false_iff_eq, ne_eq, Decidable.not_not, Int.not_lt, Int.not_le, gt_iff_lt, ge_iff_le, Bool.true_eq_false, Bool.false_eq_true, not_true_eq_false, not_false_eq_true] at h5p
      refine g_skip ?_
      refine n_block ?_
      refine n_then ?_
      -- region 3 ref.go:54
      refine g_region ?_
      refine wl_of (op_y (wn rfl) rfl rfl S (y_move rfl S rfl) fun a S => ?_)
      refine wl_of (op_y (wn rfl) rfl rfl S (y_add rfl S rfl rfl (by omega)) fun a S => ?_)
      refine wl_of (op_y (wn rfl) rfl rfl S (y_assign rfl S rfl) fun a S => ?_)
      refine gl_nil ?_
      refine n_then ?_
      refine ⟨k + 1, S.nil.cons S 5 rfl, (S.nil.cons S 1 rfl).cons S 0 rfl, H, ?_, ?_⟩
      · exact ⟨by omega, fun j hj => by by_cases hjk : j < k; exact hno j hjk; (obtain rfl : j = k := by omega); rw [hat, hat1]; omega⟩
      · omega
  · have h1p := h1; try simp only [Option.isNone_some, Option.isNone_none, Option.isSome_some, Option.isSome_none, false_or, or_false, true_and, and_true, decide_eq_true_eq, decide_eq_false_iff_not, Bool.or_eq_true, Bool.and_eq_true, Bool.or_eq_false_iff, Bool.and_eq_false_iff, Bool.not_eq_true', Bool.not_eq_false', bne_iff_ne, beq_iff_eq, beq_eq_false_iff_ne, bne_eq_false_iff_eq, ne_eq, Decidable.not_not, Int.not_lt, Int.not_le, gt_iff_lt, ge_iff_le, Bool.true_eq_false, Bool.false_eq_true, not_true_eq_false, not_false_eq_true] at h1p
    refine g_exit ?_
    refine x_then (x_then (x_eq ?_))
    refine n_then ?_
    have S := S.nil
    refine g_seq ?_
    -- region 6 ref.go:59
    refine g_region ?_
    refine wl_of (op_y (wn rfl) rfl rfl S (y_assign rfl S rfl) fun a S => ?_)
    refine gl_nil ?_
    refine n_then ?_
    refine g_ret ?_
    refine ret1 rfl S rfl ?_
    obtain rfl : k = xs.length := by omega
    exact ⟨congrArg Value.bool (formedB_iff.2 ⟨hno⟩).symm, H.toExt⟩

end Go.Proofs.Ytaiohhcjbdjgfaa
