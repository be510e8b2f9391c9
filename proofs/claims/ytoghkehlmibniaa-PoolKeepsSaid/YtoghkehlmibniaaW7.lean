/- The walks. No condition. -/
import Derived.Test.YtoghkehlmibniaaChecked
import Derived.Test.YtoghkehlmibniaaGwQue
import Derived.Test.YtoghkehlmibniaaFacts
import Derived.Test.YtoghkehlmibniaaPlain
import Derived.Test.YtoghkehlmibniaaPlainD
import Derived.Test.YtoghkehlmibniaaW6
namespace Go.Proofs.Ytoghkehlmibniaa
open Go Go.Gw
set_option linter.unusedVariables false
set_option linter.unusedSimpArgs false
/-- foyer/foyerref35.best -/
theorem rbest_spec (v : Value) (ps : List (Value × List Int)) (vt : Value) (gone : List Bool) (i : Nat) (w0 : World) (hv : IsSl w0 v 1 encRow ps) (hr : ∀ p ∈ ps, IsSl w0 p.1 1 encI p.2) (ht : IsSl w0 vt 1 encB (flip gone)) (hrt : Right (gr ps)) (hgl : gone.length = ps.length) (hip : i < ps.length) (hgi : atB gone i = false) :
    Ret Try.prog 26 #[v, vt, .int .i64 (i : Int)] w0 (fun u w => u = .int .i64 (nxtL (gr ps) gone i) ∧ Ext w0 w) := by
  refine ret_of_wp (nt := 35) Try.func26 rfl rfl rfl (fl := [(0, v), (1, vt), (2, .int .i64 (i : Int))]) rfl (fun a S => ?_)
  have H := HSat.start w0
  have H := H.ro0 (Sl v 1 encRow ps) rfl (hv)
  have H := H.ro0 (RowsS 1 encI ps) rfl (hr)
  have H := H.ro0 (Sl vt 1 encB (flip gone)) rfl (ht)
  have hl := hv.len
  have hgrl := gr_len ps
  have hrow := gr_row ps hip
  have hfl := flip_len gone
  have hil := (hr _ (List.getElem_mem hip)).len
  have hrn := right_len hrt i
  rw [hrow] at hrn
  refine g_seq ?_
  -- region 0 ref.go:42
  refine g_region ?_
  refine wl_of (op_y (wn rfl) rfl rfl S (y_assign rfl S rfl) fun a S => ?_)
  refine gl_nil ?_
  refine n_then ?_
  refine g_seq ?_
  refine g_seq ?_
  -- region 1 ref.go:43
  refine g_region ?_
  refine wl_of (op_y (wn rfl) rfl rfl S (y_assign rfl S rfl) fun a S => ?_)
  refine gl_nil ?_
  refine n_then ?_
  refine g_block ?_
  -- slots written in the loop and forgotten at its head: [6]
  have SU := ((S.nil.cons S 2 rfl).cons S 1 rfl).cons S 0 rfl
  refine loop_k (X := Nat) SU (fun k => [(7, .int .i64 (k : Int))]) (fun k => k ≤ ps[i].2.length ∧ ∀ j, j < k → atB gone (atI ps[i].2 j).toNat = true) (fun k => ps[i].2.length - k) 0 (S.nil.cons S 7 rfl) H (⟨by omega, fun j hj => by omega⟩) (fun k a w S H hi => ?_)
  simp only [List.cons_append, List.nil_append] at S hi
  obtain ⟨hk, hno⟩ := hi
  refine g_seq ?_
  refine g_seq ?_
  -- region 2 ref.go:43
  refine g_region ?_
  refine wl_of (op_y (wn rfl) rfl rfl S (y_move rfl S rfl) fun a S => ?_)
  refine wl_of (op_y (wn rfl) rfl rfl S (y_move rfl S rfl) fun a S => ?_)
  refine wl_of (op_y (wn rfl) rfl rfl S (y_move rfl S rfl) fun a S => ?_)
  refine wl_of (op_y (wn rfl) rfl rfl S (y_iaddrn rfl Try.underlying22 Fsiz23 S H rfl rfl (by first | assumption | omega | (simp only [List.length_append, List.length_take, List.length_drop, List.length_replicate, List.length_set, List.length_map, List.length_cons, List.length_nil]; omega))) fun a S => ?_)
  refine wl_of (op_y (wn rfl) rfl rfl S (y_loads _ rfl Fsca23 S H rfl (by first | assumption | omega | (simp only [List.length_append, List.length_take, List.length_drop, List.length_replicate, List.length_set, List.length_map, List.length_cons, List.length_nil]; omega)) rfl) fun a S => ?_)
  refine wl_of (op_y (wn rfl) rfl rfl S (y_lens rfl Try.underlying23 S H rfl) fun a S => ?_)
  refine wl_of (op_y (wn rfl) rfl rfl S (y_bin rfl S rfl rfl rfl) fun a S => ?_)
  refine gl_nil ?_
  refine n_then ?_
  -- cond 1
  refine c_if S rfl (fun h1 => ?_) (fun h1 => ?_)
  · have h1p := h1; try simp only [Option.isNone_some, Option.isNone_none, Option.isSome_some, Option.isSome_none, false_or, or_false, true_and, and_true, decide_eq_true_eq, decide_eq_false_iff_not, Bool.or_eq_true, Bool.and_eq_true, Bool.or_eq_false_iff, Bool.and_eq_false_iff, Bool.not_eq_true', Bool.not_eq_false', bne_iff_ne, beq_iff_eq, beq_eq_false_iff_ne, bne_eq_false_iff_eq, ne_eq, Decidable.not_not, Int.not_lt, Int.not_le, gt_iff_lt, ge_iff_le, Bool.true_eq_false, Bool.false_eq_true, not_true_eq_false, not_false_eq_true] at h1p
    have hkl : k < ps[i].2.length := by omega
    obtain ⟨t, ht⟩ : ∃ t : Nat, ps[i].2[k] = t := ⟨ps[i].2[k].toNat, by have := (hrt.rng i _ (by rw [hrow]; exact List.getElem_mem hkl)).1; omega⟩
    have htn : t < ps.length := by have := (hrt.rng i _ (by rw [hrow]; exact List.getElem_mem hkl)).2; omega
    have hat : atI ps[i].2 k = t := by rw [atI_eq hkl]; exact ht
    have hfa := flip_at (gone := gone) (k := t) (by omega) (by omega)
    refine g_skip ?_
    refine n_then ?_
    refine g_seq ?_
    refine g_block ?_
    refine g_seq ?_
    -- region 4 ref.go:44
    refine g_region ?_
    refine wl_of (op_y (wn rfl) rfl rfl S (y_move rfl S rfl) fun a S => ?_)
    refine wl_of (op_y (wn rfl) rfl rfl S (y_move rfl S rfl) fun a S => ?_)
    refine wl_of (op_y (wn rfl) rfl rfl S (y_iaddrn rfl Try.underlying22 Fsiz23 S H rfl rfl (by first | assumption | omega | (simp only [List.length_append, List.length_take, List.length_drop, List.length_replicate, List.length_set, List.length_map, List.length_cons, List.length_nil]; omega))) fun a S => ?_)
    refine wl_of (op_y (wn rfl) rfl rfl S (y_loads _ rfl Fsca23 S H rfl (by first | assumption | omega | (simp only [List.length_append, List.length_take, List.length_drop, List.length_replicate, List.length_set, List.length_map, List.length_cons, List.length_nil]; omega)) rfl) fun a S => ?_)
    refine wl_of (op_y (wn rfl) rfl rfl S (y_move rfl S rfl) fun a S => ?_)
    refine wl_of (op_y (wn rfl) rfl rfl S (y_iaddrn rfl Try.underlying23 Fsiz3 S H rfl rfl (by first | assumption | omega | (simp only [List.length_append, List.length_take, List.length_drop, List.length_replicate, List.length_set, List.length_map, List.length_cons, List.length_nil]; omega))) fun a S => ?_)
    refine wl_of (op_y (wn rfl) rfl rfl S (y_loads _ rfl Fsca3 S H rfl (by first | assumption | omega | (simp only [List.length_append, List.length_take, List.length_drop, List.length_replicate, List.length_set, List.length_map, List.length_cons, List.length_nil]; omega)) rfl) fun a S => ?_)
    rw [ht] at S
    refine wl_of (op_y (wn rfl) rfl rfl S (y_assign rfl S rfl) fun a S => ?_)
    refine gl_nil ?_
    refine n_then ?_
    refine g_seq ?_
    refine g_seq ?_
    -- region 5 ref.go:45
    refine g_region ?_
    refine wl_of (op_y (wn rfl) rfl rfl S (y_move rfl S rfl) fun a S => ?_)
    refine wl_of (op_y (wn rfl) rfl rfl S (y_move rfl S rfl) fun a S => ?_)
    refine wl_of (op_y (wn rfl) rfl rfl S (y_bin rfl S rfl rfl rfl) fun a S => ?_)
    refine gl_nil ?_
    refine n_then ?_
    -- cond 2
    refine c_if S rfl (fun h2 => ?_) (fun h2 => ?_)
    · have h2p := h2; try simp only [Option.isNone_some, Option.isNone_none, Option.isSome_some, Option.isSome_none, false_or, or_false, true_and, and_true, decide_eq_true_eq, decide_eq_false_iff_not, Bool.or_eq_true, Bool.and_eq_true, Bool.or_eq_false_iff, Bool.and_eq_false_iff, Bool.not_eq_true', Bool.not_eq_false', bne_iff_ne, beq_iff_eq, beq_eq_false_iff_ne, bne_eq_false_iff_eq, ne_eq, Decidable.not_not, Int.not_lt, Int.not_le, gt_iff_lt, ge_iff_le, Bool.true_eq_false, Bool.false_eq_true, not_true_eq_false, not_false_eq_true] at h2p
      refine g_seq ?_
      -- region 6 ref.go:46
      refine g_region ?_
      refine wl_of (op_y (wn rfl) rfl rfl S (y_move rfl S rfl) fun a S => ?_)
      refine wl_of (op_y (wn rfl) rfl rfl S (y_assign rfl S rfl) fun a S => ?_)
      refine gl_nil ?_
      refine n_then ?_
      refine g_ret ?_
      refine r_then (r_block (r_then (r_then (r_block (r_then (ret1 rfl S rfl ?_))))))
      have e : t = i := by have := h2p; omega
      exact ⟨by rw [nxtL, Int.toNat_natCast, hrow, bestL_at hno hkl (by rw [hat, Int.toNat_natCast, e]; exact hgi), hat, e], H.toExt⟩
    · have h2p := h2; try simp only [Option.isNone_some, Option.isNone_none, Option.isSome_some, Option.isSome_none, false_or, or_false, true_and, and_true, decide_eq_true_eq, decide_eq_false_iff_not, Bool.or_eq_true, Bool.and_eq_true, Bool.or_eq_false_iff, Bool.and_eq_false_iff, Bool.not_eq_true', Bool.not_eq_false', bne_iff_ne, beq_iff_eq, beq_eq_false_iff_ne, bne_eq_false_iff_eq, ne_eq, Decidable.not_not, Int.not_lt, Int.not_le, gt_iff_lt, ge_iff_le, Bool.true_eq_false, Bool.false_eq_true, not_true_eq_false, not_false_eq_true] at h2p
      refine g_skip ?_
      refine n_then ?_
      refine g_seq ?_
      -- region 7 ref.go:48
      refine g_region ?_
      refine wl_of (op_y (wn rfl) rfl rfl S (y_move rfl S rfl) fun a S => ?_)
      refine wl_of (op_y (wn rfl) rfl rfl S (y_move rfl S rfl) fun a S => ?_)
      refine wl_of (op_y (wn rfl) rfl rfl S (y_iaddrn rfl Try.underlying38 Fsiz4 S H rfl rfl (by first | assumption | omega | (simp only [List.length_append, List.length_take, List.length_drop, List.length_replicate, List.length_set, List.length_map, List.length_cons, List.length_nil]; omega))) fun a S => ?_)
      refine wl_of (op_y (wn rfl) rfl rfl S (y_loads _ rfl Fsca4 S H rfl (by first | assumption | omega | (simp only [List.length_append, List.length_take, List.length_drop, List.length_replicate, List.length_set, List.length_map, List.length_cons, List.length_nil]; omega)) rfl) fun a S => ?_)
      refine gl_nil ?_
      refine n_then ?_
      -- cond 3
      refine c_if S rfl (fun h3 => ?_) (fun h3 => ?_)
      · have h3p := h3; try simp only [Option.isNone_some, Option.isNone_none, Option.isSome_some, Option.isSome_none, false_or, or_false, true_and, and_true, decide_eq_true_eq, decide_eq_false_iff_not, Bool.or_eq_true, Bool.and_eq_true, Bool.or_eq_false_iff, Bool.and_eq_false_iff, Bool.not_eq_true', Bool.not_eq_false', bne_iff_ne, beq_iff_eq, beq_eq_false_iff_ne, bne_eq_false_iff_eq, ne_eq, Decidable.not_not, Int.not_lt, Int.not_le, gt_iff_lt, ge_iff_le, Bool.true_eq_false, Bool.false_eq_true, not_true_eq_false, not_false_eq_true] at h3p
        refine g_seq ?_
        -- region 8 ref.go:49
        refine g_region ?_
        refine wl_of (op_y (wn rfl) rfl rfl S (y_move rfl S rfl) fun a S => ?_)
        refine wl_of (op_y (wn rfl) rfl rfl S (y_assign rfl S rfl) fun a S => ?_)
        refine gl_nil ?_
        refine n_then ?_
        refine g_ret ?_
        refine r_block (r_then (r_then (r_block (r_then (ret1 rfl S rfl ?_)))))
        exact ⟨by rw [nxtL, Int.toNat_natCast, hrow, bestL_at hno hkl (by rw [hat, Int.toNat_natCast]; have := h3; rw [hfa] at this; simpa using this), hat], H.toExt⟩
      · have h3p := h3; try simp only [Option.isNone_some, Option.isNone_none, Option.isSome_some, Option.isSome_none, false_or, or_false, true_and, and_true, decide_eq_true_eq, decide_eq_false_iff_not, Bool.or_eq_true, Bool.and_eq_true, Bool.or_eq_false_iff, Bool.and_eq_false_iff, Bool.not_eq_true', Bool.not_eq_false', bne_iff_ne, beq_iff_eq, beq_eq_false_iff_ne, bne_eq_false_iff_eq, ne_eq, Decidable.not_not, Int.not_lt, Int.not_le, gt_iff_lt, ge_iff_le, Bool.true_eq_false, Bool.false_eq_true, not_true_eq_false, not_false_eq_true] at h3p
        refine g_skip ?_
        refine n_block ?_
        refine n_then ?_
        -- region 3 ref.go:43
        refine g_region ?_
        refine wl_of (op_y (wn rfl) rfl rfl S (y_move rfl S rfl) fun a S => ?_)
        refine wl_of (op_y (wn rfl) rfl rfl S (y_add rfl S rfl rfl (by omega)) fun a S => ?_)
        refine wl_of (op_y (wn rfl) rfl rfl S (y_assign rfl S rfl) fun a S => ?_)
        refine gl_nil ?_
        refine n_then ?_
        refine ⟨k + 1, S.nil.cons S 7 rfl, ((S.nil.cons S 2 rfl).cons S 1 rfl).cons S 0 rfl, H, ?_, ?_⟩
        · exact ⟨by omega, fun j hj => by by_cases hjk : j < k; exact hno j hjk; (obtain rfl : j = k := by omega); rw [hat, Int.toNat_natCast]; have := h3; rw [hfa] at this; simpa using this⟩
        · omega
  · have h1p := h1; try simp only [Option.isNone_some, Option.isNone_none, Option.isSome_some, Option.isSome_none, false_or, or_false, true_and, and_true, decide_eq_true_eq, decide_eq_false_iff_not, Bool.or_eq_true, Bool.and_eq_true, Bool.or_eq_false_iff, Bool.and_eq_false_iff, Bool.not_eq_true', Bool.not_eq_false', bne_iff_ne, beq_iff_eq, beq_eq_false_iff_ne, bne_eq_false_iff_eq, ne_eq, Decidable.not_not, Int.not_lt, Int.not_le, gt_iff_lt, ge_iff_le, Bool.true_eq_false, Bool.false_eq_true, not_true_eq_false, not_false_eq_true] at h1p
    refine g_exit ?_
    refine x_then (x_then (x_eq ?_))
    refine n_then ?_
    have S := S.nil.cons S 2 rfl
    refine g_seq ?_
    -- region 9 ref.go:52
    refine g_region ?_
    refine wl_of (op_y (wn rfl) rfl rfl S (y_move rfl S rfl) fun a S => ?_)
    refine wl_of (op_y (wn rfl) rfl rfl S (y_assign rfl S rfl) fun a S => ?_)
    refine gl_nil ?_
    refine n_then ?_
    refine g_ret ?_
    refine ret1 rfl S rfl ?_
    exact ⟨by rw [nxtL, Int.toNat_natCast, hrow, bestL_end (fun j hj => hno j (by omega))], H.toExt⟩
set_option maxHeartbeats 4000000 in
/-- foyer/foyerref35.Swap -/
theorem rswap_ok (v : Value) (ps : List (Value × List Int)) (w0 : World) (hv : IsSl w0 v 1 encRow ps) (hr : ∀ p ∈ ps, IsSl w0 p.1 1 encI p.2) (hrt : Right (gr ps)) (hl1 : ps.length ≤ 1000) :
    Ret Try.prog 14 #[v] w0 (fun u w => ∃ vo out, u = .tuple #[vo, .int .i64 0] ∧ (∃ r, TTC (gr ps) out r) ∧ HSat No w0 [OSl 3 vo 1 encI out] w) := by
  refine ret_of_wp (nt := 99) Try.func14 rfl rfl rfl (fl := [(0, v)]) rfl (fun a S => ?_)
  have H := HSat.start w0
  have H := H.ro0 (Sl v 1 encRow ps) rfl (hv)
  have H := H.ro0 (RowsS 1 encI ps) rfl (hr)
  have hl := hv.len
  have hgrl := gr_len ps
  refine g_seq ?_
  -- region 0 ref.go:56
  refine g_region ?_
  refine wl_of (op_y (wn rfl) rfl rfl S (y_assign rfl S rfl) fun a S => ?_)
  refine wl_of (op_y (wn rfl) rfl rfl S (y_assign rfl S rfl) fun a S => ?_)
  refine gl_nil ?_
  refine n_then ?_
  refine g_seq ?_
  -- region 1 ref.go:57
  refine g_region ?_
  refine wl_of (op_y (wn rfl) rfl rfl S (y_move rfl S rfl) fun a S => ?_)
  refine wl_of (op_y (wn rfl) rfl rfl S (y_lens rfl Try.underlying22 S H rfl) fun a S => ?_)
  refine wl_of (op_y (wn rfl) rfl rfl S (y_assign rfl S rfl) fun a S => ?_)
  refine gl_nil ?_
  refine n_then ?_
  refine g_seq ?_
  refine g_seq ?_
  -- region 2 ref.go:58
  refine g_region ?_
  refine wl_of (op_y (wn rfl) rfl rfl S (y_move rfl S rfl) fun a S => ?_)
  refine wl_of (op_y (wn rfl) rfl rfl S (y_bin rfl S rfl rfl rfl) fun a S => ?_)
  refine gl_nil ?_
  refine n_then ?_
  -- cond 1
  refine c_if S rfl (fun h1 => ?_) (fun h1 => ?_)
  · have h1p := h1; try simp only [Option.isNone_some, Option.isNone_none, Option.isSome_some, Option.isSome_none, false_or, or_false, true_and, and_true, decide_eq_true_eq, decide_eq_false_iff_not, Bool.or_eq_true, Bool.and_eq_true, Bool.or_eq_false_iff, Bool.and_eq_false_iff, Bool.not_eq_true', Bool.not_eq_false', bne_iff_ne, beq_iff_eq, beq_eq_false_iff_ne, bne_eq_false_iff_eq, ne_eq, Decidable.not_not, Int.not_lt, Int.not_le, gt_iff_lt, ge_iff_le, Bool.true_eq_false, Bool.false_eq_true, not_true_eq_false, not_false_eq_true] at h1p
    all_goals (
      have := h1p; omega)
  · have h1p := h1; try simp only [Option.isNone_some, Option.isNone_none, Option.isSome_some, Option.isSome_none, false_or, or_false, true_and, and_true, decide_eq_true_eq, decide_eq_false_iff_not, Bool.or_eq_true, Bool.and_eq_true, Bool.or_eq_false_iff, Bool.and_eq_false_iff, Bool.not_eq_true', Bool.not_eq_false', bne_iff_ne, beq_iff_eq, beq_eq_false_iff_ne, bne_eq_false_iff_eq, ne_eq, Decidable.not_not, Int.not_lt, Int.not_le, gt_iff_lt, ge_iff_le, Bool.true_eq_false, Bool.false_eq_true, not_true_eq_false, not_false_eq_true] at h1p
    refine g_skip ?_
    refine n_then ?_
    have S := (((S.nil.cons S 0 rfl).cons S 2 rfl).cons S 3 rfl).cons S 4 rfl
    refine g_seq ?_
    refine g_seq ?_
    -- region 4 ref.go:61
    refine g_region ?_
    refine wl_of (op_y (wn rfl) rfl rfl S (y_move rfl S rfl) fun a S => ?_)
    refine wl_of (op_call (wn rfl) rfl rfl S (co_func rfl Try.call18 S rfl) (rright_spec v ps _ (H.sl v) (H.rwsS ps) (by omega)) fun v w hc a S => ?_)
    obtain ⟨rfl, he⟩ := hc
    have H := H.ext he
    refine wl_of (op_y (wn rfl) rfl rfl S (y_not rfl S rfl) fun a S => ?_)
    refine gl_nil ?_
    refine n_then ?_
    -- cond 2
    refine c_if S rfl (fun h2 => ?_) (fun h2 => ?_)
    · have h2p := h2; try simp only [Option.isNone_some, Option.isNone_none, Option.isSome_some, Option.isSome_none, false_or, or_false, true_and, and_true, decide_eq_true_eq, decide_eq_false_iff_not, Bool.or_eq_true, Bool.and_eq_true, Bool.or_eq_false_iff, Bool.and_eq_false_iff, Bool.not_eq_true', Bool.not_eq_false', bne_iff_ne, beq_iff_eq, beq_eq_false_iff_ne, bne_eq_false_iff_eq, ne_eq, Decidable.not_not, Int.not_lt, Int.not_le, gt_iff_lt, ge_iff_le, Bool.true_eq_false, Bool.false_eq_true, not_true_eq_false, not_false_eq_true] at h2p
      all_goals (
        rw [right_iff.2 hrt] at h2; simp at h2)
    · have h2p := h2; try simp only [Option.isNone_some, Option.isNone_none, Option.isSome_some, Option.isSome_none, false_or, or_false, true_and, and_true, decide_eq_true_eq, decide_eq_false_iff_not, Bool.or_eq_true, Bool.and_eq_true, Bool.or_eq_false_iff, Bool.and_eq_false_iff, Bool.not_eq_true', Bool.not_eq_false', bne_iff_ne, beq_iff_eq, beq_eq_false_iff_ne, bne_eq_false_iff_eq, ne_eq, Decidable.not_not, Int.not_lt, Int.not_le, gt_iff_lt, ge_iff_le, Bool.true_eq_false, Bool.false_eq_true, not_true_eq_false, not_false_eq_true] at h2p
      refine g_skip ?_
      refine n_then ?_
      refine g_seq ?_
      -- region 6 ref.go:64
      refine g_region ?_
      refine wl_of (op_y (wn rfl) rfl rfl S (y_move rfl S rfl) fun a S => ?_)
      refine wl_of (op_make (encB) (false) (wn rfl) rfl rfl rfl Try.underlying38 Finf4 rfl rfl S H rfl rfl rfl (by omega) (by omega) fun b23 a w S H => ?_)
      refine wl_of (op_y (wn rfl) rfl rfl S (y_assign rfl S rfl) fun a S => ?_)
      refine gl_nil ?_
      refine n_then ?_
      have S := ((((S.nil.cons S 0 rfl).cons S 2 rfl).cons S 3 rfl).cons S 4 rfl).cons S 5 rfl
      refine g_seq ?_
      refine g_seq ?_
      -- region 7 ref.go:65
      refine g_region ?_
      refine wl_of (op_y (wn rfl) rfl rfl S (y_assign rfl S rfl) fun a S => ?_)
      refine gl_nil ?_
      refine n_then ?_
      refine g_block ?_
      have SU := ((((S.nil.cons S 0 rfl).cons S 2 rfl).cons S 3 rfl).cons S 4 rfl).cons S 5 rfl
      refine loopW (X := Nat) SU (fun k => [(6, .int .i64 (k : Int))]) (fun k w => k ≤ ps.length ∧ ∃ bl, bl.length = ps.length ∧ (∀ j, j < k → atB bl j = true) ∧ HSat No w0 [OSl 4 (.slice (some ⟨b23, 0, none⟩) ps.length ps.length) 1 encB bl, RowsS 1 encI ps, Sl v 1 encRow ps] w) (fun k => ps.length - k) 0 (S.nil.cons S 6 rfl) (⟨by omega, _, by simp, fun j hj => by omega, H⟩) (fun k a w S hW => ?_)
      simp only [List.cons_append, List.nil_append] at S
      clear H
      obtain ⟨hk, bl, hbl, hbt, H⟩ := hW
      refine g_seq ?_
      refine g_seq ?_
      -- region 8 ref.go:65
      refine g_region ?_
      refine wl_of (op_y (wn rfl) rfl rfl S (y_move rfl S rfl) fun a S => ?_)
      refine wl_of (op_y (wn rfl) rfl rfl S (y_move rfl S rfl) fun a S => ?_)
      refine wl_of (op_y (wn rfl) rfl rfl S (y_bin rfl S rfl rfl rfl) fun a S => ?_)
      refine gl_nil ?_
      refine n_then ?_
      -- cond 3
      refine c_if S rfl (fun h3 => ?_) (fun h3 => ?_)
      · have h3p := h3; try simp only [Option.isNone_some, Option.isNone_none, Option.isSome_some, Option.isSome_none, false_or, or_false, true_and, and_true, decide_eq_true_eq, decide_eq_false_iff_not, Bool.or_eq_true, Bool.and_eq_true, Bool.or_eq_false_iff, Bool.and_eq_false_iff, Bool.not_eq_true', Bool.not_eq_false', bne_iff_ne, beq_iff_eq, beq_eq_false_iff_ne, bne_eq_false_iff_eq, ne_eq, Decidable.not_not, Int.not_lt, Int.not_le, gt_iff_lt, ge_iff_le, Bool.true_eq_false, Bool.false_eq_true, not_true_eq_false, not_false_eq_true] at h3p
        have hkn : k < ps.length := by omega
        refine g_skip ?_
        refine n_then ?_
        refine g_seq ?_
        refine g_block ?_
        -- region 10 ref.go:66
        refine g_region ?_
        refine wl_of (op_y (wn rfl) rfl rfl S (y_move rfl S rfl) fun a S => ?_)
        refine wl_of (op_y (wn rfl) rfl rfl S (y_move rfl S rfl) fun a S => ?_)
        refine wl_of (op_y (wn rfl) rfl rfl S (y_iaddrn rfl Try.underlying38 Fsiz4 S H rfl rfl (by first | assumption | omega | (simp only [List.length_append, List.length_take, List.length_drop, List.length_replicate, List.length_set, List.length_map, List.length_cons, List.length_nil]; omega))) fun a S => ?_)
        refine wl_of (op_store1 _ (true) (wn rfl) rfl rfl S H rfl rfl rfl rfl Fsiz4 (by first | assumption | omega | (simp only [List.length_append, List.length_take, List.length_drop, List.length_replicate, List.length_set, List.length_map, List.length_cons, List.length_nil]; omega)) (by exact rfl) fun a w S H => ?_)
        refine gl_nil ?_
        refine n_block ?_
        refine n_then ?_
        -- region 9 ref.go:65
        refine g_region ?_
        refine wl_of (op_y (wn rfl) rfl rfl S (y_move rfl S rfl) fun a S => ?_)
        refine wl_of (op_y (wn rfl) rfl rfl S (y_add rfl S rfl rfl (by omega)) fun a S => ?_)
        refine wl_of (op_y (wn rfl) rfl rfl S (y_assign rfl S rfl) fun a S => ?_)
        refine gl_nil ?_
        refine n_then ?_
        exact ⟨k + 1, S.nil.cons S 6 rfl, ((((S.nil.cons S 0 rfl).cons S 2 rfl).cons S 3 rfl).cons S 4 rfl).cons S 5 rfl, ⟨by omega, bl.set k true, by simpa using hbl, fun j hj => by rw [atB_set _ (by omega)]; split; rfl; exact hbt j (by omega), H⟩, by omega⟩
      · have h3p := h3; try simp only [Option.isNone_some, Option.isNone_none, Option.isSome_some, Option.isSome_none, false_or, or_false, true_and, and_true, decide_eq_true_eq, decide_eq_false_iff_not, Bool.or_eq_true, Bool.and_eq_true, Bool.or_eq_false_iff, Bool.and_eq_false_iff, Bool.not_eq_true', Bool.not_eq_false', bne_iff_ne, beq_iff_eq, beq_eq_false_iff_ne, bne_eq_false_iff_eq, ne_eq, Decidable.not_not, Int.not_lt, Int.not_le, gt_iff_lt, ge_iff_le, Bool.true_eq_false, Bool.false_eq_true, not_true_eq_false, not_false_eq_true] at h3p
        obtain rfl : k = ps.length := by omega
        have hfa := flip_all hbl (fun j hj => hbt j hj)
        refine g_exit ?_
        refine x_then (x_then (x_eq ?_))
        refine n_then ?_
        have S := ((((S.nil.cons S 0 rfl).cons S 2 rfl).cons S 3 rfl).cons S 4 rfl).cons S 5 rfl
        refine g_seq ?_
        -- region 11 ref.go:68
        refine g_region ?_
        refine wl_of (op_y (wn rfl) rfl rfl S (y_move rfl S rfl) fun a S => ?_)
        refine wl_of (op_make (encI) (0) (wn rfl) rfl rfl rfl Try.underlying23 Finf3 rfl rfl S H rfl rfl rfl (by omega) (by omega) fun b33 a w S H => ?_)
        refine wl_of (op_y (wn rfl) rfl rfl S (y_assign rfl S rfl) fun a S => ?_)
        refine gl_nil ?_
        refine n_then ?_
        refine g_seq ?_
        refine g_seq ?_
        -- region 12 ref.go:69
        refine g_region ?_
        refine wl_of (op_y (wn rfl) rfl rfl S (y_assign rfl S rfl) fun a S => ?_)
        refine gl_nil ?_
        refine n_then ?_
        refine g_block ?_
        rw [hfa] at H
        have SU := (((((S.nil.cons S 0 rfl).cons S 2 rfl).cons S 3 rfl).cons S 4 rfl).cons S 5 rfl).cons S 7 rfl
        refine loopW (X := Nat × List Bool) SU (fun x => [(8, .int .i64 (x.1 : Int))]) (fun x w => x.1 ≤ ps.length ∧ ∃ out r J, SwI (gr ps) x.2 out r J ∧ (∀ j, j < x.1 → atB x.2 j = true) ∧ HSat No w0 [OSl 3 (.slice (some ⟨b33, 0, none⟩) ps.length ps.length) 1 encI (out), OSl 4 (.slice (some ⟨b23, 0, none⟩) ps.length ps.length) 1 encB (flip (x.2)), RowsS 1 encI ps, Sl v 1 encRow ps] w) (fun x => ps.length - x.1 + thereC x.2) (0, List.replicate ps.length false) (S.nil.cons S 8 rfl) (⟨by simp, _, _, 0, by have h0 := sw_start (ws := gr ps) (out := List.replicate ps.length 0) (by simp [hgrl]); rw [hgrl] at h0; exact h0, fun j hj => by simp at hj, H⟩) (fun x a w S hW => ?_)
        simp only [List.cons_append, List.nil_append] at S
        clear H
        obtain ⟨k, gone⟩ := x
        obtain ⟨hk, out, r, J, hI, hall, H⟩ := hW
        dsimp only at S H hk hI hall
        refine g_seq ?_
        refine g_seq ?_
        -- region 13 ref.go:69
        refine g_region ?_
        refine wl_of (op_y (wn rfl) rfl rfl S (y_move rfl S rfl) fun a S => ?_)
        refine wl_of (op_y (wn rfl) rfl rfl S (y_move rfl S rfl) fun a S => ?_)
        refine wl_of (op_y (wn rfl) rfl rfl S (y_bin rfl S rfl rfl rfl) fun a S => ?_)
        refine gl_nil ?_
        refine n_then ?_
        -- cond 4
        refine c_if S rfl (fun h4 => ?_) (fun h4 => ?_)
        · have h4p := h4; try simp only [Option.isNone_some, Option.isNone_none, Option.isSome_some, Option.isSome_none, false_or, or_false, true_and, and_true, decide_eq_true_eq, decide_eq_false_iff_not, Bool.or_eq_true, Bool.and_eq_true, Bool.or_eq_false_iff, Bool.and_eq_false_iff, Bool.not_eq_true', Bool.not_eq_false', bne_iff_ne, beq_iff_eq, beq_eq_false_iff_ne, bne_eq_false_iff_eq, ne_eq, Decidable.not_not, Int.not_lt, Int.not_le, gt_iff_lt, ge_iff_le, Bool.true_eq_false, Bool.false_eq_true, not_true_eq_false, not_false_eq_true] at h4p
          have hkl : k < ps.length := by omega
          have hlg := hI.lg
          have hlo := hI.lo
          have hfl := flip_len gone
          have hfa := flip_at (gone := gone) (k := k) (by omega) (by omega)
          refine g_skip ?_
          refine n_then ?_
          refine g_block ?_
          refine g_seq ?_
          refine g_seq ?_
          -- region 14 ref.go:70
          refine g_region ?_
          refine wl_of (op_y (wn rfl) rfl rfl S (y_move rfl S rfl) fun a S => ?_)
          refine wl_of (op_y (wn rfl) rfl rfl S (y_move rfl S rfl) fun a S => ?_)
          refine wl_of (op_y (wn rfl) rfl rfl S (y_iaddrn rfl Try.underlying38 Fsiz4 S H rfl rfl (by first | assumption | omega | (simp only [List.length_append, List.length_take, List.length_drop, List.length_replicate, List.length_set, List.length_map, List.length_cons, List.length_nil]; omega))) fun a S => ?_)
          refine wl_of (op_y (wn rfl) rfl rfl S (y_loads _ rfl Fsca4 S H rfl (by first | assumption | omega | (simp only [List.length_append, List.length_take, List.length_drop, List.length_replicate, List.length_set, List.length_map, List.length_cons, List.length_nil]; omega)) rfl) fun a S => ?_)
          refine wl_of (op_y (wn rfl) rfl rfl S (y_not rfl S rfl) fun a S => ?_)
          refine gl_nil ?_
          refine n_then ?_
          -- cond 5
          refine c_if S rfl (fun h5 => ?_) (fun h5 => ?_)
          · have h5p := h5; try simp only [Option.isNone_some, Option.isNone_none, Option.isSome_some, Option.isSome_none, false_or, or_false, true_and, and_true, decide_eq_true_eq, decide_eq_false_iff_not, Bool.or_eq_true, Bool.and_eq_true, Bool.or_eq_false_iff, Bool.and_eq_false_iff, Bool.not_eq_true', Bool.not_eq_false', bne_iff_ne, beq_iff_eq, beq_eq_false_iff_ne, bne_eq_false_iff_eq, ne_eq, Decidable.not_not, Int.not_lt, Int.not_le, gt_iff_lt, ge_iff_le, Bool.true_eq_false, Bool.false_eq_true, not_true_eq_false, not_false_eq_true] at h5p
            have hgk : atB gone k = true := by rw [hfa] at h5; simpa using h5
            refine g_seq ?_
            -- region 15 ref.go:71
            refine g_region ?_
            refine wl_of (op_y (wn rfl) rfl rfl S (y_move rfl S rfl) fun a S => ?_)
            refine wl_of (op_y (wn rfl) rfl rfl S (y_add rfl S rfl rfl (by omega)) fun a S => ?_)
            refine wl_of (op_y (wn rfl) rfl rfl S (y_assign rfl S rfl) fun a S => ?_)
            refine gl_nil ?_
            refine n_then ?_
            refine g_exit ?_
            refine x_then (x_eq ?_)
            refine n_then ?_
            first
            | exact ⟨(k + 1, gone), S.nil.cons S 8 rfl, (((((S.nil.cons S 0 rfl).cons S 2 rfl).cons S 3 rfl).cons S 4 rfl).cons S 5 rfl).cons S 7 rfl, ⟨by dsimp only; omega, out, r, J, hI, fun j hj => by by_cases hjk : j < k; exact hall j hjk; (obtain rfl : j = k := by dsimp only at hj; omega); exact hgk, H⟩, by dsimp only; omega⟩
            | exact ⟨(k, setT gone way), S.nil.cons S 8 rfl, (((((S.nil.cons S 0 rfl).cons S 2 rfl).cons S 3 rfl).cons S 4 rfl).cons S 5 rfl).cons S 7 rfl, ⟨by dsimp only; omega, setO out way (nxtL (gr ps) gone), _, _, sw_step hrt hI hc, fun j hj => setT_keeps hI.lg hc j (hall j hj), H.take [OSl 3 (.slice (some ⟨b33, 0, none⟩) ps.length ps.length) 1 encI (setO out way (nxtL (gr ps) gone)), OSl 4 (.slice (some ⟨b23, 0, none⟩) ps.length ps.length) 1 encB (flip (setT gone way)), RowsS 1 encI ps, Sl v 1 encRow ps]⟩, by have := there_less hI.lg hc; dsimp only; omega⟩
          · have h5p := h5; try simp only [Option.isNone_some, Option.isNone_none, Option.isSome_some, Option.isSome_none, false_or, or_false, true_and, and_true, decide_eq_true_eq, decide_eq_false_iff_not, Bool.or_eq_true, Bool.and_eq_true, Bool.or_eq_false_iff, Bool.and_eq_false_iff, Bool.not_eq_true', Bool.not_eq_false', bne_iff_ne, beq_iff_eq, beq_eq_false_iff_ne, bne_eq_false_iff_eq, ne_eq, Decidable.not_not, Int.not_lt, Int.not_le, gt_iff_lt, ge_iff_le, Bool.true_eq_false, Bool.false_eq_true, not_true_eq_false, not_false_eq_true] at h5p
            have hgk : atB gone k = false := by rw [hfa] at h5; simpa using h5
            refine g_skip ?_
            refine n_then ?_
            refine g_seq ?_
            -- region 16 ref.go:74
            refine g_region ?_
            refine wl_of (op_y (wn rfl) rfl rfl S (y_move rfl S rfl) fun a S => ?_)
            refine wl_of (op_y (wn rfl) rfl rfl S (y_assign rfl S rfl) fun a S => ?_)
            refine gl_nil ?_
            refine n_then ?_
            refine g_seq ?_
            refine g_seq ?_
            -- region 17 ref.go:75
            refine g_region ?_
            refine wl_of (op_y (wn rfl) rfl rfl S (y_assign rfl S rfl) fun a S => ?_)
            refine gl_nil ?_
            refine n_then ?_
            refine g_block ?_
            have SU := (((((((((((((((S.nil.cons S 0 rfl).cons S 2 rfl).cons S 3 rfl).cons S 4 rfl).cons S 5 rfl).cons S 7 rfl).cons S 8 rfl).cons S 34 rfl).cons S 35 rfl).cons S 36 rfl).cons S 37 rfl).cons S 38 rfl).cons S 39 rfl).cons S 40 rfl).cons S 41 rfl).cons S 44 rfl
            refine loop_k (X := Nat) SU (fun q => [(9, .int .i64 ((itN (nxN (gr ps) gone) q k : Nat) : Int)), (10, .int .i64 (q : Int))]) (fun q => q ≤ ps.length) (fun q => ps.length - q) 0 ((S.nil.cons S 10 rfl).cons S 9 rfl) H (by omega) (fun q a w S H hi => ?_)
            simp only [List.cons_append, List.nil_append] at S hi
            have hq := hi
            refine g_seq ?_
            refine g_seq ?_
            -- region 18 ref.go:75
            refine g_region ?_
            refine wl_of (op_y (wn rfl) rfl rfl S (y_move rfl S rfl) fun a S => ?_)
            refine wl_of (op_y (wn rfl) rfl rfl S (y_move rfl S rfl) fun a S => ?_)
            refine wl_of (op_y (wn rfl) rfl rfl S (y_bin rfl S rfl rfl rfl) fun a S => ?_)
            refine gl_nil ?_
            refine n_then ?_
            -- cond 6
            refine c_if S rfl (fun h6 => ?_) (fun h6 => ?_)
            · have h6p := h6; try simp only [Option.isNone_some, Option.isNone_none, Option.isSome_some, Option.isSome_none, false_or, or_false, true_and, and_true, decide_eq_true_eq, decide_eq_false_iff_not, Bool.or_eq_true, Bool.and_eq_true, Bool.or_eq_false_iff, Bool.and_eq_false_iff, Bool.not_eq_true', Bool.not_eq_false', bne_iff_ne, beq_iff_eq, beq_eq_false_iff_ne, bne_eq_false_iff_eq, ne_eq, Decidable.not_not, Int.not_lt, Int.not_le, gt_iff_lt, ge_iff_le, Bool.true_eq_false, Bool.false_eq_true, not_true_eq_false, not_false_eq_true] at h6p
              obtain ⟨i, hie⟩ : ∃ i, i = itN (nxN (gr ps) gone) q k := ⟨_, rfl⟩
              rw [← hie] at S
              have hil := it_law hrt (by omega) hgk q
              rw [← hie] at hil
              have hig := hil.2
              have hnx := nx_law hrt hil.1 hil.2
              refine g_skip ?_
              refine n_then ?_
              refine g_seq ?_
              refine g_block ?_
              -- region 20 ref.go:76
              refine g_region ?_
              refine wl_of (op_y (wn rfl) rfl rfl S (y_move rfl S rfl) fun a S => ?_)
              refine wl_of (op_y (wn rfl) rfl rfl S (y_move rfl S rfl) fun a S => ?_)
              refine wl_of (op_y (wn rfl) rfl rfl S (y_move rfl S rfl) fun a S => ?_)
              refine wl_of (op_call (wn rfl) rfl rfl S (co_func rfl Try.call26 S rfl) (rbest_spec v ps (.slice (some ⟨b23, 0, none⟩) ps.length ps.length) gone i _ (H.sl v) (H.rwsS ps) (H.sl _) hrt (by rw [hI.lg, hgrl]) (by omega) (by exact hig)) fun v w hc a S => ?_)
              obtain ⟨rfl, he⟩ := hc
              rw [hnx.1] at S
              have H := H.ext he
              refine wl_of (op_y (wn rfl) rfl rfl S (y_assign rfl S rfl) fun a S => ?_)
              refine gl_nil ?_
              refine n_block ?_
              refine n_then ?_
              -- region 19 ref.go:75
              refine g_region ?_
              refine wl_of (op_y (wn rfl) rfl rfl S (y_move rfl S rfl) fun a S => ?_)
              refine wl_of (op_y (wn rfl) rfl rfl S (y_add rfl S rfl rfl (by omega)) fun a S => ?_)
              refine wl_of (op_y (wn rfl) rfl rfl S (y_assign rfl S rfl) fun a S => ?_)
              refine gl_nil ?_
              refine n_then ?_
              exact ⟨q + 1, by subst hie; exact (S.nil.cons S 10 rfl).cons S 9 rfl, (((((((((((((((S.nil.cons S 0 rfl).cons S 2 rfl).cons S 3 rfl).cons S 4 rfl).cons S 5 rfl).cons S 7 rfl).cons S 8 rfl).cons S 34 rfl).cons S 35 rfl).cons S 36 rfl).cons S 37 rfl).cons S 38 rfl).cons S 39 rfl).cons S 40 rfl).cons S 41 rfl).cons S 44 rfl, H, by omega, by omega⟩
            · have h6p := h6; try simp only [Option.isNone_some, Option.isNone_none, Option.isSome_some, Option.isSome_none, false_or, or_false, true_and, and_true, decide_eq_true_eq, decide_eq_false_iff_not, Bool.or_eq_true, Bool.and_eq_true, Bool.or_eq_false_iff, Bool.and_eq_false_iff, Bool.not_eq_true', Bool.not_eq_false', bne_iff_ne, beq_iff_eq, beq_eq_false_iff_ne, bne_eq_false_iff_eq, ne_eq, Decidable.not_not, Int.not_lt, Int.not_le, gt_iff_lt, ge_iff_le, Bool.true_eq_false, Bool.false_eq_true, not_true_eq_false, not_false_eq_true] at h6p
              obtain rfl : q = ps.length := by omega
              obtain ⟨x, hxe⟩ : ∃ x, x = itN (nxN (gr ps) gone) ps.length k := ⟨_, rfl⟩
              rw [← hxe] at S
              have hxl := it_law hrt (by omega) hgk ps.length
              rw [← hxe] at hxl
              have hcy := it_circle (f := nxN (gr ps) gone) (n := ps.length) (x := k) (fun j => by have := (it_law hrt (by omega) hgk j).1; omega)
              rw [← hxe] at hcy
              refine g_exit ?_
              refine x_then (x_then (x_eq ?_))
              refine n_then ?_
              refine g_seq ?_
              -- region 21 ref.go:79
              refine g_region ?_
              refine wl_of (op_y (wn rfl) rfl rfl S (y_assign rfl S rfl) fun a S => ?_)
              refine gl_nil ?_
              refine n_then ?_
              refine g_seq ?_
              refine g_seq ?_
              -- region 22 ref.go:80
              refine g_region ?_
              refine wl_of (op_y (wn rfl) rfl rfl S (y_move rfl S rfl) fun a S => ?_)
              refine wl_of (op_y (wn rfl) rfl rfl S (y_assign rfl S rfl) fun a S => ?_)
              refine gl_nil ?_
              refine n_then ?_
              refine g_block ?_
              have H := H.nilO 3 1 encI
              obtain ⟨x9, hx9⟩ : ∃ x9, x9 = x := ⟨_, rfl⟩
              have SU := (((((((((((((((((((((S.nil.cons S 0 rfl).cons S 2 rfl).cons S 3 rfl).cons S 4 rfl).cons S 5 rfl).cons S 7 rfl).cons S 8 rfl).cons S 34 rfl).cons S 35 rfl).cons S 36 rfl).cons S 37 rfl).cons S 38 rfl).cons S 39 rfl).cons S 40 rfl).cons S 41 rfl).cons S 44 rfl).cons S 10 rfl).cons S 9 rfl).cons S 45 rfl).cons S 46 rfl).cons S 47 rfl).cons S 54 rfl
              refine loopW (X := List Int × Int × Value) SU (fun x => [(11, x.2.2), (12, .int .i64 x.2.1)]) (fun x w => Way (gr ps) gone x.1 x.2.1 ∧ atI (x.1 ++ [x.2.1]) 0 = (x9 : Nat) ∧ HSat No w0 [OSl 3 x.2.2 1 encI x.1, OSl 3 (.slice (some ⟨b33, 0, none⟩) ps.length ps.length) 1 encI (out), OSl 4 (.slice (some ⟨b23, 0, none⟩) ps.length ps.length) 1 encB (flip (gone)), RowsS 1 encI ps, Sl v 1 encRow ps] w) (fun x => ps.length + 1 - x.1.length) ([], (x : Int), .slice none 0 0) ((S.nil.cons S 12 rfl).cons S 11 rfl) (⟨way_start (by dsimp only; omega) (by dsimp only; rw [Int.toNat_natCast]; exact hxl.2), by rw [hx9]; rfl, H⟩) (fun x a w S hW => ?_)
              simp only [List.cons_append, List.nil_append] at S
              clear H
              obtain ⟨way, ki, vw⟩ := x
              obtain ⟨hw, hh, H⟩ := hW
              dsimp only at S H hw hh
              have hir := hw.irng
              obtain ⟨kk, rfl⟩ : ∃ kk : Nat, ki = kk := ⟨ki.toNat, by omega⟩
              have hkg : atB gone kk = false := by have := hw.ithere; rwa [Int.toNat_natCast] at this
              refine g_seq ?_
              refine g_seq ?_
              -- region 23 ref.go:80
              refine g_region ?_
              refine wl_of (op_y (wn rfl) rfl rfl S (y_move rfl S rfl) fun a S => ?_)
              refine wl_of (op_y (wn rfl) rfl rfl S (y_move rfl S rfl) fun a S => ?_)
              refine wl_of (op_call (wn rfl) rfl rfl S (co_func rfl Try.call21 S rfl) (in_spec _ way (kk : Int) _ (H.sl _)) fun v w hc a S => ?_)
              obtain ⟨rfl, he⟩ := hc
              have H := H.ext he
              refine wl_of (op_y (wn rfl) rfl rfl S (y_not rfl S rfl) fun a S => ?_)
              refine gl_nil ?_
              refine n_then ?_
              -- cond 7
              refine c_if S rfl (fun h7 => ?_) (fun h7 => ?_)
              · have h7p := h7; try simp only [Option.isNone_some, Option.isNone_none, Option.isSome_some, Option.isSome_none, false_or, or_false, true_and, and_true, decide_eq_true_eq, decide_eq_false_iff_not, Bool.or_eq_true, Bool.and_eq_true, Bool.or_eq_false_iff, Bool.and_eq_false_iff, Bool.not_eq_true', Bool.not_eq_false', bne_iff_ne, beq_iff_eq, beq_eq_false_iff_ne, bne_eq_false_iff_eq, ne_eq, Decidable.not_not, Int.not_lt, Int.not_le, gt_iff_lt, ge_iff_le, Bool.true_eq_false, Bool.false_eq_true, not_true_eq_false, not_false_eq_true] at h7p
                have hkw : (kk : Int) ∉ way := by simpa using h7
                have hw2 := way_next hrt hw hkw
                have hfew := hw.few
                refine g_skip ?_
                refine n_then ?_
                refine g_seq ?_
                refine g_block ?_
                -- region 25 ref.go:81
                refine g_region ?_
                refine wl_of (op_y (wn rfl) rfl rfl S (y_move rfl S rfl) fun a S => ?_)
                refine wl_of (op_y (wn rfl) rfl rfl S (y_move rfl S rfl) fun a S => ?_)
                refine wl_of (op_buildSlice (wn rfl) rfl rfl rfl Try.underlying23 Finf3 S H (idx := [0]) rfl rfl rfl (z := [.int .i64 0]) (by kernel_rfl) (cs := [_]) rfl fun b65 a w S H => ?_)
                refine wl_of (op_append ([(kk : Int)]) (wn rfl) rfl rfl rfl Try.underlying23 Finf3 rfl rfl S H rfl rfl rfl rfl (by simp) (by simp [encI]) (by simp [encI, Value.oneCell']) (by simp only [List.length_cons, List.length_nil]; omega) (by simp only [List.length_cons, List.length_nil]; omega) fun u66 a w hn66 S H => ?_)
                refine wl_of (op_y (wn rfl) rfl rfl S (y_assign rfl S rfl) fun a S => ?_)
                refine gl_nil ?_
                refine n_block ?_
                refine n_then ?_
                -- region 24 ref.go:80
                refine g_region ?_
                refine wl_of (op_y (wn rfl) rfl rfl S (y_move rfl S rfl) fun a S => ?_)
                refine wl_of (op_y (wn rfl) rfl rfl S (y_move rfl S rfl) fun a S => ?_)
                refine wl_of (op_y (wn rfl) rfl rfl S (y_move rfl S rfl) fun a S => ?_)
                refine wl_of (op_call (wn rfl) rfl rfl S (co_func rfl Try.call26 S rfl) (rbest_spec v ps (.slice (some ⟨b23, 0, none⟩) ps.length ps.length) gone kk _ (H.sl v) (H.rwsS ps) (H.sl _) hrt (by rw [hI.lg, hgrl]) (by omega) hkg) fun v w hc a S => ?_)
                obtain ⟨rfl, he⟩ := hc
                have H := H.ext he
                refine wl_of (op_y (wn rfl) rfl rfl S (y_assign rfl S rfl) fun a S => ?_)
                refine gl_nil ?_
                refine n_then ?_
                exact ⟨(way ++ [(kk : Int)], nxtL (gr ps) gone kk, u66), (S.nil.cons S 12 rfl).cons S 11 rfl, (((((((((((((((((((((S.nil.cons S 0 rfl).cons S 2 rfl).cons S 3 rfl).cons S 4 rfl).cons S 5 rfl).cons S 7 rfl).cons S 8 rfl).cons S 34 rfl).cons S 35 rfl).cons S 36 rfl).cons S 37 rfl).cons S 38 rfl).cons S 39 rfl).cons S 40 rfl).cons S 41 rfl).cons S 44 rfl).cons S 10 rfl).cons S 9 rfl).cons S 45 rfl).cons S 46 rfl).cons S 47 rfl).cons S 54 rfl, ⟨hw2, head_snoc.trans hh, H.take [OSl 3 u66 1 encI (way ++ [(kk : Int)]), OSl 3 (.slice (some ⟨b33, 0, none⟩) ps.length ps.length) 1 encI (out), OSl 4 (.slice (some ⟨b23, 0, none⟩) ps.length ps.length) 1 encB (flip (gone)), RowsS 1 encI ps, Sl v 1 encRow ps]⟩, by dsimp only; simp only [List.length_append, List.length_cons, List.length_nil]; omega⟩
              · have h7p := h7; try simp only [Option.isNone_some, Option.isNone_none, Option.isSome_some, Option.isSome_none, false_or, or_false, true_and, and_true, decide_eq_true_eq, decide_eq_false_iff_not, Bool.or_eq_true, Bool.and_eq_true, Bool.or_eq_false_iff, Bool.and_eq_false_iff, Bool.not_eq_true', Bool.not_eq_false', bne_iff_ne, beq_iff_eq, beq_eq_false_iff_ne, bne_eq_false_iff_eq, ne_eq, Decidable.not_not, Int.not_lt, Int.not_le, gt_iff_lt, ge_iff_le, Bool.true_eq_false, Bool.false_eq_true, not_true_eq_false, not_false_eq_true] at h7p
                have hkw : (kk : Int) ∈ way := by simpa using h7
                have hc := way_circ hrt hw hh (by omega) (by rw [hx9]; exact hxl.2) (by rw [hx9]; exact hcy) hkw
                have hcl := nodup_rng hc.nd hc.rng
                refine g_exit ?_
                refine x_then (x_then (x_eq ?_))
                refine n_then ?_
                refine g_seq ?_
                refine g_seq ?_
                -- region 26 ref.go:83
                refine g_region ?_
                refine wl_of (op_y (wn rfl) rfl rfl S (y_assign rfl S rfl) fun a S => ?_)
                refine gl_nil ?_
                refine n_then ?_
                refine g_block ?_
                have SU := (((((((((((((((((((((((((((S.nil.cons S 0 rfl).cons S 2 rfl).cons S 3 rfl).cons S 4 rfl).cons S 5 rfl).cons S 7 rfl).cons S 8 rfl).cons S 34 rfl).cons S 35 rfl).cons S 36 rfl).cons S 37 rfl).cons S 38 rfl).cons S 39 rfl).cons S 40 rfl).cons S 41 rfl).cons S 44 rfl).cons S 10 rfl).cons S 9 rfl).cons S 45 rfl).cons S 46 rfl).cons S 47 rfl).cons S 54 rfl).cons S 12 rfl).cons S 11 rfl).cons S 55 rfl).cons S 56 rfl).cons S 57 rfl).cons S 58 rfl
                refine loopW (X := Nat) SU (fun q => [(13, .int .i64 (q : Int))]) (fun q w => q ≤ way.length ∧ HSat No w0 [OSl 3 vw 1 encI way, OSl 3 (.slice (some ⟨b33, 0, none⟩) ps.length ps.length) 1 encI (setO out (way.take q) (nxtL (gr ps) gone)), OSl 4 (.slice (some ⟨b23, 0, none⟩) ps.length ps.length) 1 encB (flip (gone)), RowsS 1 encI ps, Sl v 1 encRow ps] w) (fun q => way.length - q) 0 (S.nil.cons S 13 rfl) (⟨by omega, H⟩) (fun q a w S hW => ?_)
                simp only [List.cons_append, List.nil_append] at S
                clear H
                obtain ⟨hq, H⟩ := hW
                refine g_seq ?_
                refine g_seq ?_
                -- region 27 ref.go:83
                refine g_region ?_
                refine wl_of (op_y (wn rfl) rfl rfl S (y_move rfl S rfl) fun a S => ?_)
                refine wl_of (op_y (wn rfl) rfl rfl S (y_move rfl S rfl) fun a S => ?_)
                refine wl_of (op_y (wn rfl) rfl rfl S (y_lens rfl Try.underlying23 S H rfl) fun a S => ?_)
                refine wl_of (op_y (wn rfl) rfl rfl S (y_bin rfl S rfl rfl rfl) fun a S => ?_)
                refine gl_nil ?_
                refine n_then ?_
                -- cond 8
                refine c_if S rfl (fun h8 => ?_) (fun h8 => ?_)
                · have h8p := h8; try simp only [Option.isNone_some, Option.isNone_none, Option.isSome_some, Option.isSome_none, false_or, or_false, true_and, and_true, decide_eq_true_eq, decide_eq_false_iff_not, Bool.or_eq_true, Bool.and_eq_true, Bool.or_eq_false_iff, Bool.and_eq_false_iff, Bool.not_eq_true', Bool.not_eq_false', bne_iff_ne, beq_iff_eq, beq_eq_false_iff_ne, bne_eq_false_iff_eq, ne_eq, Decidable.not_not, Int.not_lt, Int.not_le, gt_iff_lt, ge_iff_le, Bool.true_eq_false, Bool.false_eq_true, not_true_eq_false, not_false_eq_true] at h8p
                  have hql : q < way.length := by omega
                  obtain ⟨e, he⟩ : ∃ e : Nat, way[q] = e := ⟨way[q].toNat, by have := hc.rng _ (List.getElem_mem hql); omega⟩
                  have her : e < ps.length := by have := hc.rng _ (List.getElem_mem hql); omega
                  have hge : atB gone e = false := by have := hc.there _ (List.getElem_mem hql); rwa [he, Int.toNat_natCast] at this
                  have hol : (setO out (way.take q) (nxtL (gr ps) gone)).length = ps.length := by rw [setO_len, hI.lo, hgrl]
                  refine g_skip ?_
                  refine n_then ?_
                  refine g_seq ?_
                  refine g_block ?_
                  -- region 29 DRAWS ref.go:84
                  refine region_st (loud := [13]) (tails := [13]) (free := []) [0, 1, 2, 3, 4, 5, 6, 7, 8, 9, 10, 11, 12, 13] [] Fmo (by kernel_rfl) (by kernel_rfl) rfl H ?_
                  refine m_w rfl rfl (wn rfl) rfl rfl S (fun w H => y_move rfl S rfl) fun a S => ?_
                  refine m_w rfl rfl (wn rfl) rfl rfl S (fun w H => y_move rfl S rfl) fun a S => ?_
                  refine m_w rfl rfl (wn rfl) rfl rfl S (fun w H => y_move rfl S rfl) fun a S => ?_
                  refine m_w rfl rfl (wn rfl) rfl rfl S (fun w H => y_iaddrn rfl Try.underlying23 Fsiz3 S H rfl rfl (by first | assumption | omega | (simp only [List.length_append, List.length_take, List.length_drop, List.length_replicate, List.length_set, List.length_map, List.length_cons, List.length_nil]; omega))) fun a S => ?_
                  refine m_loads _ rfl rfl (wn rfl) rfl rfl S rfl Fsca3 rfl (by first | assumption | omega | (simp only [List.length_append, List.length_take, List.length_drop, List.length_replicate, List.length_set, List.length_map, List.length_cons, List.length_nil]; omega)) rfl fun a S => ?_
                  rw [he] at S
                  refine m_w rfl rfl (wn rfl) rfl rfl S (fun w H => y_move rfl S rfl) fun a S => ?_
                  refine m_w rfl rfl (wn rfl) rfl rfl S (fun w H => y_move rfl S rfl) fun a S => ?_
                  refine m_w rfl rfl (wn rfl) rfl rfl S (fun w H => y_move rfl S rfl) fun a S => ?_
                  refine m_w rfl rfl (wn rfl) rfl rfl S (fun w H => y_move rfl S rfl) fun a S => ?_
                  refine m_w rfl rfl (wn rfl) rfl rfl S (fun w H => y_iaddrn rfl Try.underlying23 Fsiz3 S H rfl rfl (by first | assumption | omega | (simp only [List.length_append, List.length_take, List.length_drop, List.length_replicate, List.length_set, List.length_map, List.length_cons, List.length_nil]; omega))) fun a S => ?_
                  refine m_loads _ rfl rfl (wn rfl) rfl rfl S rfl Fsca3 rfl (by first | assumption | omega | (simp only [List.length_append, List.length_take, List.length_drop, List.length_replicate, List.length_set, List.length_map, List.length_cons, List.length_nil]; omega)) rfl fun a S => ?_
                  rw [he] at S
                  refine m_c rfl rfl (wn rfl) rfl rfl S (fun w => co_func rfl Try.call26 S rfl) (fun w H => rbest_spec v ps (.slice (some ⟨b23, 0, none⟩) ps.length ps.length) gone e _ (H.sl v) (H.rwsS ps) (H.sl _) hrt (by rw [hI.lg, hgrl]) (by omega) hge) fun a S => ?_
                  refine m_w rfl rfl (wn rfl) rfl rfl S (fun w H => y_iaddrn rfl Try.underlying23 Fsiz3 S H rfl rfl (by first | assumption | omega | (simp only [List.length_append, List.length_take, List.length_drop, List.length_replicate, List.length_set, List.length_map, List.length_cons, List.length_nil]; omega))) fun a S => ?_
                  refine m_l rfl rfl (fun w H => op_store1 _ (nxtL (gr ps) gone e) (wn rfl) rfl rfl S H rfl rfl rfl rfl Fsiz3 (by first | assumption | omega | (simp only [List.length_append, List.length_take, List.length_drop, List.length_replicate, List.length_set, List.length_map, List.length_cons, List.length_nil]; omega)) (by exact rfl) fun a w S H => m_tail H rfl ?_)
                  refine m_nil (fun w H => ?_)
                  refine n_block ?_
                  refine n_then ?_
                  -- region 28 ref.go:83
                  refine g_region ?_
                  refine wl_of (op_y (wn rfl) rfl rfl S (y_move rfl S rfl) fun a S => ?_)
                  refine wl_of (op_y (wn rfl) rfl rfl S (y_add rfl S rfl rfl (by omega)) fun a S => ?_)
                  refine wl_of (op_y (wn rfl) rfl rfl S (y_assign rfl S rfl) fun a S => ?_)
                  refine gl_nil ?_
                  refine n_then ?_
                  have hst := setO_step (out := out) (f := nxtL (gr ps) gone) hql
                  rw [he] at hst
                  exact ⟨q + 1, S.nil.cons S 13 rfl, (((((((((((((((((((((((((((S.nil.cons S 0 rfl).cons S 2 rfl).cons S 3 rfl).cons S 4 rfl).cons S 5 rfl).cons S 7 rfl).cons S 8 rfl).cons S 34 rfl).cons S 35 rfl).cons S 36 rfl).cons S 37 rfl).cons S 38 rfl).cons S 39 rfl).cons S 40 rfl).cons S 41 rfl).cons S 44 rfl).cons S 10 rfl).cons S 9 rfl).cons S 45 rfl).cons S 46 rfl).cons S 47 rfl).cons S 54 rfl).cons S 12 rfl).cons S 11 rfl).cons S 55 rfl).cons S 56 rfl).cons S 57 rfl).cons S 58 rfl, ⟨by omega, by rw [← hst]; exact H⟩, by omega⟩
                · have h8p := h8; try simp only [Option.isNone_some, Option.isNone_none, Option.isSome_some, Option.isSome_none, false_or, or_false, true_and, and_true, decide_eq_true_eq, decide_eq_false_iff_not, Bool.or_eq_true, Bool.and_eq_true, Bool.or_eq_false_iff, Bool.and_eq_false_iff, Bool.not_eq_true', Bool.not_eq_false', bne_iff_ne, beq_iff_eq, beq_eq_false_iff_ne, bne_eq_false_iff_eq, ne_eq, Decidable.not_not, Int.not_lt, Int.not_le, gt_iff_lt, ge_iff_le, Bool.true_eq_false, Bool.false_eq_true, not_true_eq_false, not_false_eq_true] at h8p
                  obtain rfl : q = way.length := by omega
                  rw [List.take_length] at H
                  refine g_exit ?_
                  refine x_then (x_then (x_eq ?_))
                  refine n_then ?_
                  refine g_seq ?_
                  -- region 30 ref.go:86
                  refine g_region ?_
                  refine wl_of (op_y (wn rfl) rfl rfl S (y_assign rfl S rfl) fun a S => ?_)
                  refine gl_nil ?_
                  refine n_then ?_
                  refine g_block ?_
                  have SU := ((((((((((((((((((((((((((((((((S.nil.cons S 0 rfl).cons S 2 rfl).cons S 3 rfl).cons S 4 rfl).cons S 5 rfl).cons S 7 rfl).cons S 8 rfl).cons S 34 rfl).cons S 35 rfl).cons S 36 rfl).cons S 37 rfl).cons S 38 rfl).cons S 39 rfl).cons S 40 rfl).cons S 41 rfl).cons S 44 rfl).cons S 10 rfl).cons S 9 rfl).cons S 45 rfl).cons S 46 rfl).cons S 47 rfl).cons S 54 rfl).cons S 12 rfl).cons S 11 rfl).cons S 55 rfl).cons S 56 rfl).cons S 57 rfl).cons S 58 rfl).cons S 13 rfl).cons S 67 rfl).cons S 68 rfl).cons S 69 rfl).cons S 70 rfl
                  refine loopW (X := Nat) SU (fun q => [(14, .int .i64 (q : Int))]) (fun q w => q ≤ way.length ∧ HSat No w0 [OSl 3 vw 1 encI way, OSl 3 (.slice (some ⟨b33, 0, none⟩) ps.length ps.length) 1 encI (setO out way (nxtL (gr ps) gone)), OSl 4 (.slice (some ⟨b23, 0, none⟩) ps.length ps.length) 1 encB (flip (setT gone (way.take q))), RowsS 1 encI ps, Sl v 1 encRow ps] w) (fun q => way.length - q) 0 (S.nil.cons S 14 rfl) (⟨by omega, H⟩) (fun q a w S hW => ?_)
                  simp only [List.cons_append, List.nil_append] at S
                  clear H
                  obtain ⟨hq, H⟩ := hW
                  refine g_seq ?_
                  refine g_seq ?_
                  -- region 31 ref.go:86
                  refine g_region ?_
                  refine wl_of (op_y (wn rfl) rfl rfl S (y_move rfl S rfl) fun a S => ?_)
                  refine wl_of (op_y (wn rfl) rfl rfl S (y_move rfl S rfl) fun a S => ?_)
                  refine wl_of (op_y (wn rfl) rfl rfl S (y_lens rfl Try.underlying23 S H rfl) fun a S => ?_)
                  refine wl_of (op_y (wn rfl) rfl rfl S (y_bin rfl S rfl rfl rfl) fun a S => ?_)
                  refine gl_nil ?_
                  refine n_then ?_
                  -- cond 9
                  refine c_if S rfl (fun h9 => ?_) (fun h9 => ?_)
                  · have h9p := h9; try simp only [Option.isNone_some, Option.isNone_none, Option.isSome_some, Option.isSome_none, false_or, or_false, true_and, and_true, decide_eq_true_eq, decide_eq_false_iff_not, Bool.or_eq_true, Bool.and_eq_true, Bool.or_eq_false_iff, Bool.and_eq_false_iff, Bool.not_eq_true', Bool.not_eq_false', bne_iff_ne, beq_iff_eq, beq_eq_false_iff_ne, bne_eq_false_iff_eq, ne_eq, Decidable.not_not, Int.not_lt, Int.not_le, gt_iff_lt, ge_iff_le, Bool.true_eq_false, Bool.false_eq_true, not_true_eq_false, not_false_eq_true] at h9p
                    have hql : q < way.length := by omega
                    obtain ⟨e, he⟩ : ∃ e : Nat, way[q] = e := ⟨way[q].toNat, by have := hc.rng _ (List.getElem_mem hql); omega⟩
                    have her : e < ps.length := by have := hc.rng _ (List.getElem_mem hql); omega
                    have hol : (flip (setT gone (way.take q))).length = ps.length := by rw [flip_len, setT_len, hI.lg, hgrl]
                    refine g_skip ?_
                    refine n_then ?_
                    refine g_seq ?_
                    refine g_block ?_
                    -- region 33 ref.go:87
                    refine g_region ?_
                    refine wl_of (op_y (wn rfl) rfl rfl S (y_move rfl S rfl) fun a S => ?_)
                    refine wl_of (op_y (wn rfl) rfl rfl S (y_move rfl S rfl) fun a S => ?_)
                    refine wl_of (op_y (wn rfl) rfl rfl S (y_move rfl S rfl) fun a S => ?_)
                    refine wl_of (op_y (wn rfl) rfl rfl S (y_iaddrn rfl Try.underlying23 Fsiz3 S H rfl rfl (by first | assumption | omega | (simp only [List.length_append, List.length_take, List.length_drop, List.length_replicate, List.length_set, List.length_map, List.length_cons, List.length_nil]; omega))) fun a S => ?_)
                    refine wl_of (op_y (wn rfl) rfl rfl S (y_loads _ rfl Fsca3 S H rfl (by first | assumption | omega | (simp only [List.length_append, List.length_take, List.length_drop, List.length_replicate, List.length_set, List.length_map, List.length_cons, List.length_nil]; omega)) rfl) fun a S => ?_)
                    rw [he] at S
                    refine wl_of (op_y (wn rfl) rfl rfl S (y_iaddrn rfl Try.underlying38 Fsiz4 S H rfl rfl (by first | assumption | omega | (simp only [List.length_append, List.length_take, List.length_drop, List.length_replicate, List.length_set, List.length_map, List.length_cons, List.length_nil]; omega))) fun a S => ?_)
                    refine wl_of (op_store1 _ (false) (wn rfl) rfl rfl S H rfl rfl rfl rfl Fsiz4 (by first | assumption | omega | (simp only [List.length_append, List.length_take, List.length_drop, List.length_replicate, List.length_set, List.length_map, List.length_cons, List.length_nil]; omega)) (by exact rfl) fun a w S H => ?_)
                    refine gl_nil ?_
                    refine n_block ?_
                    refine n_then ?_
                    -- region 32 ref.go:86
                    refine g_region ?_
                    refine wl_of (op_y (wn rfl) rfl rfl S (y_move rfl S rfl) fun a S => ?_)
                    refine wl_of (op_y (wn rfl) rfl rfl S (y_add rfl S rfl rfl (by omega)) fun a S => ?_)
                    refine wl_of (op_y (wn rfl) rfl rfl S (y_assign rfl S rfl) fun a S => ?_)
                    refine gl_nil ?_
                    refine n_then ?_
                    have hst := setT_step (gone := gone) hql
                    rw [he] at hst
                    exact ⟨q + 1, S.nil.cons S 14 rfl, ((((((((((((((((((((((((((((((((S.nil.cons S 0 rfl).cons S 2 rfl).cons S 3 rfl).cons S 4 rfl).cons S 5 rfl).cons S 7 rfl).cons S 8 rfl).cons S 34 rfl).cons S 35 rfl).cons S 36 rfl).cons S 37 rfl).cons S 38 rfl).cons S 39 rfl).cons S 40 rfl).cons S 41 rfl).cons S 44 rfl).cons S 10 rfl).cons S 9 rfl).cons S 45 rfl).cons S 46 rfl).cons S 47 rfl).cons S 54 rfl).cons S 12 rfl).cons S 11 rfl).cons S 55 rfl).cons S 56 rfl).cons S 57 rfl).cons S 58 rfl).cons S 13 rfl).cons S 67 rfl).cons S 68 rfl).cons S 69 rfl).cons S 70 rfl, ⟨by omega, by rw [← hst, ← flip_set]; exact H⟩, by omega⟩
                  · have h9p := h9; try simp only [Option.isNone_some, Option.isNone_none, Option.isSome_some, Option.isSome_none, false_or, or_false, true_and, and_true, decide_eq_true_eq, decide_eq_false_iff_not, Bool.or_eq_true, Bool.and_eq_true, Bool.or_eq_false_iff, Bool.and_eq_false_iff, Bool.not_eq_true', Bool.not_eq_false', bne_iff_ne, beq_iff_eq, beq_eq_false_iff_ne, bne_eq_false_iff_eq, ne_eq, Decidable.not_not, Int.not_lt, Int.not_le, gt_iff_lt, ge_iff_le, Bool.true_eq_false, Bool.false_eq_true, not_true_eq_false, not_false_eq_true] at h9p
                    obtain rfl : q = way.length := by omega
                    rw [List.take_length] at H
                    refine g_exit ?_
                    refine x_then (x_then (x_eq ?_))
                    refine n_block ?_
                    refine n_then ?_
                    first
                    | exact ⟨(k + 1, gone), S.nil.cons S 8 rfl, (((((S.nil.cons S 0 rfl).cons S 2 rfl).cons S 3 rfl).cons S 4 rfl).cons S 5 rfl).cons S 7 rfl, ⟨by dsimp only; omega, out, r, J, hI, fun j hj => by by_cases hjk : j < k; exact hall j hjk; (obtain rfl : j = k := by dsimp only at hj; omega); exact hgk, H⟩, by dsimp only; omega⟩
                    | exact ⟨(k, setT gone way), S.nil.cons S 8 rfl, (((((S.nil.cons S 0 rfl).cons S 2 rfl).cons S 3 rfl).cons S 4 rfl).cons S 5 rfl).cons S 7 rfl, ⟨by dsimp only; omega, setO out way (nxtL (gr ps) gone), _, _, sw_step hrt hI hc, fun j hj => setT_keeps hI.lg hc j (hall j hj), H.take [OSl 3 (.slice (some ⟨b33, 0, none⟩) ps.length ps.length) 1 encI (setO out way (nxtL (gr ps) gone)), OSl 4 (.slice (some ⟨b23, 0, none⟩) ps.length ps.length) 1 encB (flip (setT gone way)), RowsS 1 encI ps, Sl v 1 encRow ps]⟩, by have := there_less hI.lg hc; dsimp only; omega⟩
        · have h4p := h4; try simp only [Option.isNone_some, Option.isNone_none, Option.isSome_some, Option.isSome_none, false_or, or_false, true_and, and_true, decide_eq_true_eq, decide_eq_false_iff_not, Bool.or_eq_true, Bool.and_eq_true, Bool.or_eq_false_iff, Bool.and_eq_false_iff, Bool.not_eq_true', Bool.not_eq_false', bne_iff_ne, beq_iff_eq, beq_eq_false_iff_ne, bne_eq_false_iff_eq, ne_eq, Decidable.not_not, Int.not_lt, Int.not_le, gt_iff_lt, ge_iff_le, Bool.true_eq_false, Bool.false_eq_true, not_true_eq_false, not_false_eq_true] at h4p
          have hkl : ps.length ≤ k := by omega
          refine g_exit ?_
          refine x_then (x_then (x_eq ?_))
          refine n_then ?_
          have S := ((S.nil.cons S 2 rfl).cons S 3 rfl).cons S 7 rfl
          refine g_seq ?_
          -- region 34 ref.go:90
          refine g_region ?_
          refine wl_of (op_y (wn rfl) rfl rfl S (y_move rfl S rfl) fun a S => ?_)
          refine wl_of (op_y (wn rfl) rfl rfl S (y_assign rfl S rfl) fun a S => ?_)
          refine wl_of (op_y (wn rfl) rfl rfl S (y_assign rfl S rfl) fun a S => ?_)
          refine gl_nil ?_
          refine n_then ?_
          have S := (S.nil.cons S 2 rfl).cons S 3 rfl
          refine g_ret ?_
          refine ret2 rfl S rfl rfl ?_
          exact ⟨_, out, rfl, ⟨r, sw_end hI (fun j hj => hall j (by omega))⟩, H.take [OSl 3 (.slice (some ⟨b33, 0, none⟩) ps.length ps.length) 1 encI out]⟩
/-- foyer/foyerref35.Swap -/
theorem rswap_bad (v : Value) (ps : List (Value × List Int)) (w0 : World) (hv : IsSl w0 v 1 encRow ps) (hr : ∀ p ∈ ps, IsSl w0 p.1 1 encI p.2) (hrt : rightW (gr ps) = false) (hl1 : ps.length ≤ 1000) :
    Ret Try.prog 14 #[v] w0 (fun u w => u = .tuple #[.slice none 0 0, .int .i64 1] ∧ Ext w0 w) := by
  refine ret_of_wp (nt := 99) Try.func14 rfl rfl rfl (fl := [(0, v)]) rfl (fun a S => ?_)
  have H := HSat.start w0
  have H := H.ro0 (Sl v 1 encRow ps) rfl (hv)
  have H := H.ro0 (RowsS 1 encI ps) rfl (hr)
  have hl := hv.len
  refine g_seq ?_
  -- region 0 ref.go:56
  refine g_region ?_
  refine wl_of (op_y (wn rfl) rfl rfl S (y_assign rfl S rfl) fun a S => ?_)
  refine wl_of (op_y (wn rfl) rfl rfl S (y_assign rfl S rfl) fun a S => ?_)
  refine gl_nil ?_
  refine n_then ?_
  refine g_seq ?_
  -- region 1 ref.go:57
  refine g_region ?_
  refine wl_of (op_y (wn rfl) rfl rfl S (y_move rfl S rfl) fun a S => ?_)
  refine wl_of (op_y (wn rfl) rfl rfl S (y_lens rfl Try.underlying22 S H rfl) fun a S => ?_)
  refine wl_of (op_y (wn rfl) rfl rfl S (y_assign rfl S rfl) fun a S => ?_)
  refine gl_nil ?_
  refine n_then ?_
  refine g_seq ?_
  refine g_seq ?_
  -- region 2 ref.go:58
  refine g_region ?_
  refine wl_of (op_y (wn rfl) rfl rfl S (y_move rfl S rfl) fun a S => ?_)
  refine wl_of (op_y (wn rfl) rfl rfl S (y_bin rfl S rfl rfl rfl) fun a S => ?_)
  refine gl_nil ?_
  refine n_then ?_
  -- cond 1
  refine c_if S rfl (fun h1 => ?_) (fun h1 => ?_)
  · have h1p := h1; try simp only [Option.isNone_some, Option.isNone_none, Option.isSome_some, Option.isSome_none, false_or, or_false, true_and, and_true, decide_eq_true_eq, decide_eq_false_iff_not, Bool.or_eq_true, Bool.and_eq_true, Bool.or_eq_false_iff, Bool.and_eq_false_iff, Bool.not_eq_true', Bool.not_eq_false', bne_iff_ne, beq_iff_eq, beq_eq_false_iff_ne, bne_eq_false_iff_eq, ne_eq, Decidable.not_not, Int.not_lt, Int.not_le, gt_iff_lt, ge_iff_le, Bool.true_eq_false, Bool.false_eq_true, not_true_eq_false, not_false_eq_true] at h1p
    all_goals (
      have := h1p; omega)
  · have h1p := h1; try simp only [Option.isNone_some, Option.isNone_none, Option.isSome_some, Option.isSome_none, false_or, or_false, true_and, and_true, decide_eq_true_eq, decide_eq_false_iff_not, Bool.or_eq_true, Bool.and_eq_true, Bool.or_eq_false_iff, Bool.and_eq_false_iff, Bool.not_eq_true', Bool.not_eq_false', bne_iff_ne, beq_iff_eq, beq_eq_false_iff_ne, bne_eq_false_iff_eq, ne_eq, Decidable.not_not, Int.not_lt, Int.not_le, gt_iff_lt, ge_iff_le, Bool.true_eq_false, Bool.false_eq_true, not_true_eq_false, not_false_eq_true] at h1p
    refine g_skip ?_
    refine n_then ?_
    have S := (((S.nil.cons S 0 rfl).cons S 2 rfl).cons S 3 rfl).cons S 4 rfl
    refine g_seq ?_
    refine g_seq ?_
    -- region 4 ref.go:61
    refine g_region ?_
    refine wl_of (op_y (wn rfl) rfl rfl S (y_move rfl S rfl) fun a S => ?_)
    refine wl_of (op_call (wn rfl) rfl rfl S (co_func rfl Try.call18 S rfl) (rright_spec v ps _ (H.sl v) (H.rwsS ps) (by omega)) fun v w hc a S => ?_)
    obtain ⟨rfl, he⟩ := hc
    have H := H.ext he
    refine wl_of (op_y (wn rfl) rfl rfl S (y_not rfl S rfl) fun a S => ?_)
    refine gl_nil ?_
    refine n_then ?_
    -- cond 2
    refine c_if S rfl (fun h2 => ?_) (fun h2 => ?_)
    · have h2p := h2; try simp only [Option.isNone_some, Option.isNone_none, Option.isSome_some, Option.isSome_none, false_or, or_false, true_and, and_true, decide_eq_true_eq, decide_eq_false_iff_not, Bool.or_eq_true, Bool.and_eq_true, Bool.or_eq_false_iff, Bool.and_eq_false_iff, Bool.not_eq_true', Bool.not_eq_false', bne_iff_ne, beq_iff_eq, beq_eq_false_iff_ne, bne_eq_false_iff_eq, ne_eq, Decidable.not_not, Int.not_lt, Int.not_le, gt_iff_lt, ge_iff_le, Bool.true_eq_false, Bool.false_eq_true, not_true_eq_false, not_false_eq_true] at h2p
      refine g_seq ?_
      -- region 5 ref.go:62
      refine g_region ?_
      refine wl_of (op_y (wn rfl) rfl rfl S (y_assign rfl S rfl) fun a S => ?_)
      refine wl_of (op_y (wn rfl) rfl rfl S (y_assign rfl S rfl) fun a S => ?_)
      refine gl_nil ?_
      refine n_then ?_
      have S := (((S.nil.cons S 0 rfl).cons S 4 rfl).cons S 2 rfl).cons S 3 rfl
      refine g_ret ?_
      refine r_then (ret2 rfl S rfl rfl ?_)
      exact ⟨rfl, H.toExt⟩
    · have h2p := h2; try simp only [Option.isNone_some, Option.isNone_none, Option.isSome_some, Option.isSome_none, false_or, or_false, true_and, and_true, decide_eq_true_eq, decide_eq_false_iff_not, Bool.or_eq_true, Bool.and_eq_true, Bool.or_eq_false_iff, Bool.and_eq_false_iff, Bool.not_eq_true', Bool.not_eq_false', bne_iff_ne, beq_iff_eq, beq_eq_false_iff_ne, bne_eq_false_iff_eq, ne_eq, Decidable.not_not, Int.not_lt, Int.not_le, gt_iff_lt, ge_iff_le, Bool.true_eq_false, Bool.false_eq_true, not_true_eq_false, not_false_eq_true] at h2p
      all_goals (
        rw [hrt] at h2; simp at h2)

end Go.Proofs.Ytoghkehlmibniaa
