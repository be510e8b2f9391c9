/- The walks. No condition. -/
import Derived.Test.YtoghkehlmibniaaChecked
import Derived.Test.YtoghkehlmibniaaGwQue
import Derived.Test.YtoghkehlmibniaaFacts
import Derived.Test.YtoghkehlmibniaaPlain
import Derived.Test.YtoghkehlmibniaaPlainF
import Derived.Test.YtoghkehlmibniaaW14
namespace Go.Proofs.Ytoghkehlmibniaa
open Go Go.Gw
set_option linter.unusedVariables false
set_option linter.unusedSimpArgs false
set_option maxHeartbeats 4000000 in
/-- foyer/foyerlaw35.PoolKeeps -/
theorem law8 (v : Value) (ps : List (Value × List Int)) (w0 : World) (hv : IsSl w0 v 1 encRow ps) (hr : ∀ p ∈ ps, IsSl w0 p.1 1 encI p.2) :
    Ret Try.prog 10 #[v] w0 (fun v w => v = .bool true ∧ Ext w0 w) := by
  refine ret_of_wp (nt := 127) Try.func10 rfl rfl rfl (fl := [(0, v)]) rfl (fun a S => ?_)
  have H := HSat.start w0
  have H := H.ro0 (Sl v 1 encRow ps) rfl (hv)
  have H := H.ro0 (RowsS 1 encI ps) rfl (hr)
  have hl := hv.len
  have hgrl := gr_len ps
  refine g_seq ?_
  -- region 0 law.go:167
  refine g_region ?_
  refine wl_of (op_y (wn rfl) rfl rfl S (y_assign rfl S rfl) fun a S => ?_)
  refine gl_nil ?_
  refine n_then ?_
  refine g_seq ?_
  -- region 1 law.go:168
  refine g_region ?_
  refine wl_of (op_call (wn rfl) rfl rfl S (co_func rfl Try.call11 S rfl) (head_spec _) fun v w hc a S => ?_)
  obtain ⟨rfl, he⟩ := hc
  have H := H.ext he
  refine wl_of (op_y (wn rfl) rfl rfl S (y_assign rfl S rfl) fun a S => ?_)
  refine gl_nil ?_
  refine n_then ?_
  refine g_seq ?_
  refine g_seq ?_
  -- region 2 law.go:169
  refine g_region ?_
  refine wl_of (op_y (wn rfl) rfl rfl S (y_move rfl S rfl) fun a S => ?_)
  refine wl_of (op_call (wn rfl) rfl rfl S (co_func rfl Try.call12 S rfl) (few_spec v ps 30 _ (H.sl v) (H.rwsS ps)) fun v w hc a S => ?_)
  obtain ⟨rfl, he⟩ := hc
  have H := H.ext he
  refine wl_of (op_y (wn rfl) rfl rfl S (y_not rfl S rfl) fun a S => ?_)
  refine gl_nil ?_
  refine n_then ?_
  -- cond 1
  refine c_if S rfl (fun h1 => ?_) (fun h1 => ?_)
  · have h1p := h1; try simp only [Option.isNone_some, Option.isNone_none, Option.isSome_some, Option.isSome_none, false_or, or_false, true_and, and_true, decide_eq_true_eq, decide_eq_false_iff_not, Bool.or_eq_true, Bool.and_eq_true, Bool.or_eq_false_iff, Bool.and_eq_false_iff, Bool.not_eq_true', Bool.not_eq_false', bne_iff_ne, beq_iff_eq, beq_eq_false_iff_ne, bne_eq_false_iff_eq, ne_eq, Decidable.not_not, Int.not_lt, Int.not_le, gt_iff_lt, ge_iff_le, Bool.true_eq_false, Bool.false_eq_true, not_true_eq_false, not_false_eq_true] at h1p
    refine g_seq ?_
    -- region 3 law.go:170
    refine g_region ?_
    refine wl_of (op_y (wn rfl) rfl rfl S (y_move rfl S rfl) fun a S => ?_)
    refine wl_of (op_y (wn rfl) rfl rfl S (y_assign rfl S rfl) fun a S => ?_)
    refine gl_nil ?_
    refine n_then ?_
    have S := ((S.nil.cons S 0 rfl).cons S 3 rfl).cons S 2 rfl
    refine g_ret ?_
    refine r_then (ret1 rfl S rfl ?_)
    exact ⟨rfl, H.toExt⟩
  · have h1p := h1; try simp only [Option.isNone_some, Option.isNone_none, Option.isSome_some, Option.isSome_none, false_or, or_false, true_and, and_true, decide_eq_true_eq, decide_eq_false_iff_not, Bool.or_eq_true, Bool.and_eq_true, Bool.or_eq_false_iff, Bool.and_eq_false_iff, Bool.not_eq_true', Bool.not_eq_false', bne_iff_ne, beq_iff_eq, beq_eq_false_iff_ne, bne_eq_false_iff_eq, ne_eq, Decidable.not_not, Int.not_lt, Int.not_le, gt_iff_lt, ge_iff_le, Bool.true_eq_false, Bool.false_eq_true, not_true_eq_false, not_false_eq_true] at h1p
    have hfw := few_parts (h1p)
    rw [hgrl] at hfw
    refine g_skip ?_
    refine n_then ?_
    have S := ((S.nil.cons S 0 rfl).cons S 2 rfl).cons S 3 rfl
    refine g_seq ?_
    -- region 4 law.go:172
    refine g_region ?_
    refine wl_of (op_y (wn rfl) rfl rfl S (y_move rfl S rfl) fun a S => ?_)
    refine wl_of (op_call (wn rfl) rfl rfl S (co_func rfl Try.call13 S rfl) (swap_any v ps _ (H.sl v) (H.rwsS ps) (by omega)) fun v w hc a S => ?_)
    obtain ⟨vo1, out1, e1, rfl, hs1, H1⟩ := hc
    have H := H.call1 H1 rfl
    refine wl_of (op_y (wn rfl) rfl rfl S (y_move rfl S rfl) fun a S => ?_)
    refine wl_of (op_y (wn rfl) rfl rfl S (y_extract rfl S rfl rfl) fun a S => ?_)
    refine wl_of (op_y (wn rfl) rfl rfl S (y_extract rfl S rfl rfl) fun a S => ?_)
    refine wl_of (op_y (wn rfl) rfl rfl S (y_assign rfl S rfl) fun a S => ?_)
    refine wl_of (op_y (wn rfl) rfl rfl S (y_assign rfl S rfl) fun a S => ?_)
    refine gl_nil ?_
    refine n_then ?_
    have S := ((((S.nil.cons S 0 rfl).cons S 2 rfl).cons S 3 rfl).cons S 4 rfl).cons S 5 rfl
    refine g_seq ?_
    refine g_seq ?_
    -- region 5 law.go:173
    refine g_region ?_
    refine wl_of (op_y (wn rfl) rfl rfl S (y_move rfl S rfl) fun a S => ?_)
    refine wl_of (op_y (wn rfl) rfl rfl S (y_bin rfl S rfl rfl rfl) fun a S => ?_)
    refine wl_of (op_y (wn rfl) rfl rfl S (y_move rfl S rfl) fun a S => ?_)
    refine' wl_or 5 24 rfl S H rfl rfl rfl rfl rfl rfl rfl (fun _ S => (wn rfl)) (fun h2 kk => ?yh2) (fun a w S H => ?_)
    case yh2 =>
      have h2p := h2; try simp only [Option.isNone_some, Option.isNone_none, Option.isSome_some, Option.isSome_none, false_or, or_false, true_and, and_true, decide_eq_true_eq, decide_eq_false_iff_not, Bool.or_eq_true, Bool.and_eq_true, Bool.or_eq_false_iff, Bool.and_eq_false_iff, Bool.not_eq_true', Bool.not_eq_false', bne_iff_ne, beq_iff_eq, beq_eq_false_iff_ne, bne_eq_false_iff_eq, ne_eq, Decidable.not_not, Int.not_lt, Int.not_le, gt_iff_lt, ge_iff_le, Bool.true_eq_false, Bool.false_eq_true, not_true_eq_false, not_false_eq_true] at h2p
      refine wl_of (op_y (wg' 24 rfl rfl S rfl h2 rfl) rfl rfl S (y_move rfl S rfl) fun a S => ?_)
      refine wl_of (op_y (wg' 24 rfl rfl S rfl h2 rfl) rfl rfl S (y_lens rfl Try.underlying23 S H rfl) fun a S => ?_)
      refine wl_of (op_y (wg' 24 rfl rfl S rfl h2 rfl) rfl rfl S (y_move rfl S rfl) fun a S => ?_)
      refine wl_of (op_y (wg' 24 rfl rfl S rfl h2 rfl) rfl rfl S (y_lens rfl Try.underlying22 S H rfl) fun a S => ?_)
      refine wl_of (op_y (wg' 24 rfl rfl S rfl h2 rfl) rfl rfl S (y_bin rfl S rfl rfl rfl) fun a S => ?_)
      refine wl_of (op_y (wn rfl) rfl rfl S (y_or' rfl h2 S rfl rfl) fun a S => ?_)
      exact kk _ _ (S.join 6 30 rfl rfl) H
    refine gl_nil ?_
    refine n_then ?_
    -- cond 2
    refine c_if S rfl (fun h3 => ?_) (fun h3 => ?_)
    · have h3p := h3; try simp only [Option.isNone_some, Option.isNone_none, Option.isSome_some, Option.isSome_none, false_or, or_false, true_and, and_true, decide_eq_true_eq, decide_eq_false_iff_not, Bool.or_eq_true, Bool.and_eq_true, Bool.or_eq_false_iff, Bool.and_eq_false_iff, Bool.not_eq_true', Bool.not_eq_false', bne_iff_ne, beq_iff_eq, beq_eq_false_iff_ne, bne_eq_false_iff_eq, ne_eq, Decidable.not_not, Int.not_lt, Int.not_le, gt_iff_lt, ge_iff_le, Bool.true_eq_false, Bool.false_eq_true, not_true_eq_false, not_false_eq_true] at h3p
      rcases hs1 with ⟨hb, rfl, r, ht⟩ | ⟨hb, rfl, rfl⟩
      · exact absurd h3p (by have := ht.len; simp; omega)
      refine g_seq ?_
      -- region 6 law.go:174
      refine g_region ?_
      refine wl_of (op_y (wn rfl) rfl rfl S (y_move rfl S rfl) fun a S => ?_)
      refine wl_of (op_y (wn rfl) rfl rfl S (y_move rfl S rfl) fun a S => ?_)
      refine wl_of (op_y (wg' 32 rfl rfl S rfl rfl rfl) rfl rfl S (y_move rfl S rfl) fun a S => ?_)
      refine wl_of (op_y (wg' 32 rfl rfl S rfl rfl rfl) rfl rfl S (y_bin rfl S rfl rfl rfl) fun a S => ?_)
      refine wl_of (op_y (wn rfl) rfl rfl S (y_and' rfl rfl S rfl rfl) fun a S => ?_)
      refine wl_of (op_y (wn rfl) rfl rfl S (y_assign rfl S rfl) fun a S => ?_)
      refine gl_nil ?_
      refine n_then ?_
      have S := (((S.nil.cons S 0 rfl).cons S 3 rfl).cons S 4 rfl).cons S 2 rfl
      refine g_ret ?_
      refine r_then (ret1 rfl S rfl ?_)
      exact ⟨rfl, H.toExt⟩
    · have h3p := h3; try simp only [Option.isNone_some, Option.isNone_none, Option.isSome_some, Option.isSome_none, false_or, or_false, true_and, and_true, decide_eq_true_eq, decide_eq_false_iff_not, Bool.or_eq_true, Bool.and_eq_true, Bool.or_eq_false_iff, Bool.and_eq_false_iff, Bool.not_eq_true', Bool.not_eq_false', bne_iff_ne, beq_iff_eq, beq_eq_false_iff_ne, bne_eq_false_iff_eq, ne_eq, Decidable.not_not, Int.not_lt, Int.not_le, gt_iff_lt, ge_iff_le, Bool.true_eq_false, Bool.false_eq_true, not_true_eq_false, not_false_eq_true] at h3p
      rcases hs1 with ⟨hb, rfl, r, ht⟩ | ⟨hb, rfl, rfl⟩
      rotate_left
      · exact absurd h3p.1 (by decide)
      have hol := ht.len
      rw [hgrl] at hol
      refine g_skip ?_
      refine n_then ?_
      have S := (((S.nil.cons S 0 rfl).cons S 2 rfl).cons S 3 rfl).cons S 4 rfl
      refine g_seq ?_
      -- region 7 law.go:176
      refine g_region ?_
      refine wl_of (op_y (wn rfl) rfl rfl S (y_move rfl S rfl) fun a S => ?_)
      refine wl_of (op_y (wn rfl) rfl rfl S (y_lens rfl Try.underlying22 S H rfl) fun a S => ?_)
      refine wl_of (op_make (encRow (α := Int)) ((Value.slice none 0 0, [])) (wn rfl) rfl rfl rfl Try.underlying22 Finf23 rfl rfl S H rfl rfl rfl (by omega) (by omega) fun b38 a w S H => ?_)
      refine wl_of (op_y (wn rfl) rfl rfl S (y_assign rfl S rfl) fun a S => ?_)
      refine gl_nil ?_
      refine n_then ?_
      refine g_seq ?_
      refine g_seq ?_
      -- region 8 law.go:177
      refine g_region ?_
      refine wl_of (op_y (wn rfl) rfl rfl S (y_assign rfl S rfl) fun a S => ?_)
      refine gl_nil ?_
      refine n_then ?_
      refine g_block ?_
      -- slots written in the loop and forgotten at its head: [2]
      have H := (H.rowsNil 3 1 encI ps.length).nilO 23 1 (encRow (α := Int))
      have SU := (((S.nil.cons S 0 rfl).cons S 3 rfl).cons S 4 rfl).cons S 6 rfl
      refine loopW (X := Nat) SU (fun i => [(7, .int .i64 (i : Int))]) (fun i w => i ≤ ps.length ∧ ∃ qs, RowsTo ps.length (fun i => lessR out1 (rowG (gr ps) i) (i : Nat)) qs i [] ∧ HSat No w0 [OSl 23 (.slice (some ⟨b38, 0, none⟩) ps.length ps.length) 1 encRow (qs), RowsA 3 1 encI (qs), OSl 3 vo1 1 encI out1, RowsS 1 encI ps, Sl v 1 encRow ps] w) (fun i => ps.length - i) 0 (S.nil.cons S 7 rfl) (⟨by omega, _, rt_start _ _ _, H.take [OSl 23 (.slice (some ⟨b38, 0, none⟩) ps.length ps.length) 1 encRow (List.replicate ps.length (Value.slice none 0 0, ([] : List Int))), RowsA 3 1 encI (List.replicate ps.length (Value.slice none 0 0, ([] : List Int))), OSl 3 vo1 1 encI out1, RowsS 1 encI ps, Sl v 1 encRow ps]⟩) (fun i a w S hW => ?_)
      simp only [List.cons_append, List.nil_append] at S
      clear H
      obtain ⟨hi, qs, hrt, H⟩ := hW
      refine g_seq ?_
      refine g_seq ?_
      -- region 9 law.go:177
      refine g_region ?_
      refine wl_of (op_y (wn rfl) rfl rfl S (y_move rfl S rfl) fun a S => ?_)
      refine wl_of (op_y (wn rfl) rfl rfl S (y_move rfl S rfl) fun a S => ?_)
      refine wl_of (op_y (wn rfl) rfl rfl S (y_lens rfl Try.underlying22 S H rfl) fun a S => ?_)
      refine wl_of (op_y (wn rfl) rfl rfl S (y_bin rfl S rfl rfl rfl) fun a S => ?_)
      refine gl_nil ?_
      refine n_then ?_
      -- cond 3
      refine c_if S rfl (fun h5 => ?_) (fun h5 => ?_)
      · have h5p := h5; try simp only [Option.isNone_some, Option.isNone_none, Option.isSome_some, Option.isSome_none, false_or, or_false, true_and, and_true, decide_eq_true_eq, decide_eq_false_iff_not, Bool.or_eq_true, Bool.and_eq_true, Bool.or_eq_false_iff, Bool.and_eq_false_iff, Bool.not_eq_true', Bool.not_eq_false', bne_iff_ne, beq_iff_eq, beq_eq_false_iff_ne, bne_eq_false_iff_eq, ne_eq, Decidable.not_not, Int.not_lt, Int.not_le, gt_iff_lt, ge_iff_le, Bool.true_eq_false, Bool.false_eq_true, not_true_eq_false, not_false_eq_true] at h5p
        have hip : i < ps.length := by omega
        have hir : ps[i].2.length ≤ 40 := by have := hfw.2 i; rw [gr_row ps hip] at this; omega
        have hiq : i < qs.length := by rw [hrt.len]; exact hip
        have hio : i < out1.length := by omega
        have hgd : out1.getD i 0 = out1[i] := by rw [List.getD_eq_getElem?_getD, List.getElem?_eq_getElem hio]; rfl
        refine g_skip ?_
        refine n_then ?_
        refine g_seq ?_
        refine g_block ?_
        refine g_seq ?_
        refine g_seq ?_
        -- region 11 law.go:178
        refine g_region ?_
        refine wl_of (op_y (wn rfl) rfl rfl S (y_move rfl S rfl) fun a S => ?_)
        refine wl_of (op_y (wn rfl) rfl rfl S (y_move rfl S rfl) fun a S => ?_)
        refine wl_of (op_y (wn rfl) rfl rfl S (y_iaddrn rfl Try.underlying22 Fsiz23 S H rfl rfl (by first | assumption | omega | (simp only [List.length_append, List.length_take, List.length_drop, List.length_replicate, List.length_set, List.length_map, List.length_cons, List.length_nil]; omega))) fun a S => ?_)
        refine wl_of (op_y (wn rfl) rfl rfl S (y_loads _ rfl Fsca23 S H rfl (by first | assumption | omega | (simp only [List.length_append, List.length_take, List.length_drop, List.length_replicate, List.length_set, List.length_map, List.length_cons, List.length_nil]; omega)) rfl) fun a S => ?_)
        refine wl_of (op_y (wn rfl) rfl rfl S (y_lens rfl Try.underlying23 S H rfl) fun a S => ?_)
        refine wl_of (op_y (wn rfl) rfl rfl S (y_bin rfl S rfl rfl rfl) fun a S => ?_)
        refine wl_of (op_y (wn rfl) rfl rfl S (y_move rfl S rfl) fun a S => ?_)
        refine' wl_or 8 51 rfl S H rfl rfl rfl rfl rfl rfl rfl (fun _ S => (wn rfl)) (fun h6 kk => ?yh6) (fun a w S H => ?_)
        case yh6 =>
          have h6p := h6; try simp only [Option.isNone_some, Option.isNone_none, Option.isSome_some, Option.isSome_none, false_or, or_false, true_and, and_true, decide_eq_true_eq, decide_eq_false_iff_not, Bool.or_eq_true, Bool.and_eq_true, Bool.or_eq_false_iff, Bool.and_eq_false_iff, Bool.not_eq_true', Bool.not_eq_false', bne_iff_ne, beq_iff_eq, beq_eq_false_iff_ne, bne_eq_false_iff_eq, ne_eq, Decidable.not_not, Int.not_lt, Int.not_le, gt_iff_lt, ge_iff_le, Bool.true_eq_false, Bool.false_eq_true, not_true_eq_false, not_false_eq_true] at h6p
          refine wl_of (op_y (wg' 51 rfl rfl S rfl h6 rfl) rfl rfl S (y_move rfl S rfl) fun a S => ?_)
          refine wl_of (op_y (wg' 51 rfl rfl S rfl h6 rfl) rfl rfl S (y_move rfl S rfl) fun a S => ?_)
          refine wl_of (op_y (wg' 51 rfl rfl S rfl h6 rfl) rfl rfl S (y_iaddrn rfl Try.underlying22 Fsiz23 S H rfl rfl (by first | assumption | omega | (simp only [List.length_append, List.length_take, List.length_drop, List.length_replicate, List.length_set, List.length_map, List.length_cons, List.length_nil]; omega))) fun a S => ?_)
          refine wl_of (op_y (wg' 51 rfl rfl S rfl h6 rfl) rfl rfl S (y_loads _ rfl Fsca23 S H rfl (by first | assumption | omega | (simp only [List.length_append, List.length_take, List.length_drop, List.length_replicate, List.length_set, List.length_map, List.length_cons, List.length_nil]; omega)) rfl) fun a S => ?_)
          refine wl_of (op_y (wg' 51 rfl rfl S rfl h6 rfl) rfl rfl S (y_iaddrs rfl Try.underlying23 Fsiz3 S H rfl rfl (by first | assumption | omega | (simp only [List.length_append, List.length_take, List.length_drop, List.length_replicate, List.length_set, List.length_map, List.length_cons, List.length_nil]; omega))) fun a S => ?_)
          refine wl_of (op_y (wg' 51 rfl rfl S rfl h6 rfl) rfl rfl S (y_loadsD _ 0 rfl Fsca3 S H rfl (by omega) rfl) fun a S => ?_)
          refine wl_of (op_y (wg' 51 rfl rfl S rfl h6 rfl) rfl rfl S (y_move rfl S rfl) fun a S => ?_)
          refine wl_of (op_y (wg' 51 rfl rfl S rfl h6 rfl) rfl rfl S (y_bin rfl S rfl rfl rfl) fun a S => ?_)
          refine wl_of (op_y (wn rfl) rfl rfl S (y_or' rfl h6 S rfl rfl) fun a S => ?_)
          exact kk _ _ (S.join 9 60 rfl rfl) H
        refine wl_of (op_y (wn rfl) rfl rfl S (y_move rfl S rfl) fun a S => ?_)
        refine' wl_and 6 61 rfl S H rfl rfl rfl rfl rfl rfl rfl (fun _ S => (wn rfl)) (fun h7 kk => ?yh7) (fun a w S H => ?_)
        case yh7 =>
          have h7p := h7; try simp only [Option.isNone_some, Option.isNone_none, Option.isSome_some, Option.isSome_none, false_or, or_false, true_and, and_true, decide_eq_true_eq, decide_eq_false_iff_not, Bool.or_eq_true, Bool.and_eq_true, Bool.or_eq_false_iff, Bool.and_eq_false_iff, Bool.not_eq_true', Bool.not_eq_false', bne_iff_ne, beq_iff_eq, beq_eq_false_iff_ne, bne_eq_false_iff_eq, ne_eq, Decidable.not_not, Int.not_lt, Int.not_le, gt_iff_lt, ge_iff_le, Bool.true_eq_false, Bool.false_eq_true, not_true_eq_false, not_false_eq_true] at h7p
          refine wl_of (op_y (wg' 61 rfl rfl S rfl h7 rfl) rfl rfl S (y_move rfl S rfl) fun a S => ?_)
          refine wl_of (op_y (wg' 61 rfl rfl S rfl h7 rfl) rfl rfl S (y_move rfl S rfl) fun a S => ?_)
          refine wl_of (op_y (wg' 61 rfl rfl S rfl h7 rfl) rfl rfl S (y_iaddrn rfl Try.underlying23 Fsiz3 S H rfl rfl (by first | assumption | omega | (simp only [List.length_append, List.length_take, List.length_drop, List.length_replicate, List.length_set, List.length_map, List.length_cons, List.length_nil]; omega))) fun a S => ?_)
          refine wl_of (op_y (wg' 61 rfl rfl S rfl h7 rfl) rfl rfl S (y_loadsD _ 0 rfl Fsca3 S H rfl (by omega) rfl) fun a S => ?_)
          refine wl_of (op_y (wg' 61 rfl rfl S rfl h7 rfl) rfl rfl S (y_move rfl S rfl) fun a S => ?_)
          refine wl_of (op_y (wg' 61 rfl rfl S rfl h7 rfl) rfl rfl S (y_bin rfl S rfl rfl rfl) fun a S => ?_)
          refine wl_of (op_y (wn rfl) rfl rfl S (y_and' rfl h7 S rfl rfl) fun a S => ?_)
          exact kk _ _ (S.join 7 68 rfl rfl) H
        refine gl_nil ?_
        refine n_then ?_
        -- cond 4
        refine c_if S rfl (fun h8 => ?_) (fun h8 => ?_)
        · have h8p := h8; try simp only [Option.isNone_some, Option.isNone_none, Option.isSome_some, Option.isSome_none, false_or, or_false, true_and, and_true, decide_eq_true_eq, decide_eq_false_iff_not, Bool.or_eq_true, Bool.and_eq_true, Bool.or_eq_false_iff, Bool.and_eq_false_iff, Bool.not_eq_true', Bool.not_eq_false', bne_iff_ne, beq_iff_eq, beq_eq_false_iff_ne, bne_eq_false_iff_eq, ne_eq, Decidable.not_not, Int.not_lt, Int.not_le, gt_iff_lt, ge_iff_le, Bool.true_eq_false, Bool.false_eq_true, not_true_eq_false, not_false_eq_true] at h8p
          all_goals (
            exfalso
            have hkeep : out1[i] = (i : Int) := by
              have h0 := keep_own ht (k := i) (by omega) (by
                rw [gr_row ps hip]
                refine rank_head ?_
                rcases h8p.1 with h | h
                · exact .inl (List.eq_nil_of_length_eq_zero (by omega))
                · by_cases hz : ps[i].2.length = 0
                  · exact .inl (List.eq_nil_of_length_eq_zero hz)
                  · refine .inr ⟨by omega, ?_⟩
                    rw [atI_eq (by omega)]
                    simpa [List.getD_eq_getElem?_getD, List.getElem?_eq_getElem (show 0 < ps[i].2.length by omega)] using h)
              rwa [atI_eq hio] at h0
            have := h8p.2
            simp only [hgd] at this
            exact this hkeep)
        · have h8p := h8; try simp only [Option.isNone_some, Option.isNone_none, Option.isSome_some, Option.isSome_none, false_or, or_false, true_and, and_true, decide_eq_true_eq, decide_eq_false_iff_not, Bool.or_eq_true, Bool.and_eq_true, Bool.or_eq_false_iff, Bool.and_eq_false_iff, Bool.not_eq_true', Bool.not_eq_false', bne_iff_ne, beq_iff_eq, beq_eq_false_iff_ne, bne_eq_false_iff_eq, ne_eq, Decidable.not_not, Int.not_lt, Int.not_le, gt_iff_lt, ge_iff_le, Bool.true_eq_false, Bool.false_eq_true, not_true_eq_false, not_false_eq_true] at h8p
          refine g_skip ?_
          refine n_then ?_
          refine g_seq ?_
          -- region 13 law.go:181
          refine g_region ?_
          refine wl_of (op_y (wn rfl) rfl rfl S (y_assign rfl S rfl) fun a S => ?_)
          refine gl_nil ?_
          refine n_then ?_
          refine g_block ?_
          have SU := ((((((((((((((((((S.nil.cons S 0 rfl).cons S 3 rfl).cons S 4 rfl).cons S 6 rfl).cons S 7 rfl).cons S 39 rfl).cons S 40 rfl).cons S 41 rfl).cons S 42 rfl).cons S 45 rfl).cons S 46 rfl).cons S 47 rfl).cons S 48 rfl).cons S 49 rfl).cons S 50 rfl).cons S 51 rfl).cons S 60 rfl).cons S 61 rfl).cons S 68 rfl
          refine loopW (X := Nat) SU (fun k => [(8, .int .i64 (k : Int))]) (fun k w => k ≤ ps[i].2.length ∧ (∀ j, j < k → atI ps[i].2 j ≠ i) ∧ ∃ qs2, RowsTo ps.length (fun i => lessR out1 (rowG (gr ps) i) (i : Nat)) qs2 i ((ps[i].2.take k).filter (fun t => decide (atI out1 t.toNat ≠ t))) ∧ HSat No w0 [OSl 23 (.slice (some ⟨b38, 0, none⟩) ps.length ps.length) 1 encRow (qs2), RowsA 3 1 encI (qs2), OSl 3 vo1 1 encI out1, RowsS 1 encI ps, Sl v 1 encRow ps] w) (fun k => ps[i].2.length - k) 0 (S.nil.cons S 8 rfl) (⟨by omega, fun j hj => by omega, qs, hrt, H.take [OSl 23 (.slice (some ⟨b38, 0, none⟩) ps.length ps.length) 1 encRow (qs), RowsA 3 1 encI (qs), OSl 3 vo1 1 encI out1, RowsS 1 encI ps, Sl v 1 encRow ps]⟩) (fun k a w S hW => ?_)
          simp only [List.cons_append, List.nil_append] at S
          clear H hrt
          obtain ⟨hk, hno, qs2, hrt2, H⟩ := hW
          have hiq2 : i < qs2.length := by rw [hrt2.len]; exact hip
          refine g_seq ?_
          refine g_seq ?_
          -- region 14 law.go:181
          refine g_region ?_
          refine wl_of (op_y (wn rfl) rfl rfl S (y_move rfl S rfl) fun a S => ?_)
          refine wl_of (op_y (wn rfl) rfl rfl S (y_move rfl S rfl) fun a S => ?_)
          refine wl_of (op_y (wn rfl) rfl rfl S (y_move rfl S rfl) fun a S => ?_)
          refine wl_of (op_y (wn rfl) rfl rfl S (y_iaddrn rfl Try.underlying22 Fsiz23 S H rfl rfl (by first | assumption | omega | (simp only [List.length_append, List.length_take, List.length_drop, List.length_replicate, List.length_set, List.length_map, List.length_cons, List.length_nil]; omega))) fun a S => ?_)
          refine wl_of (op_y (wn rfl) rfl rfl S (y_loads _ rfl Fsca23 S H rfl (by first | assumption | omega | (simp only [List.length_append, List.length_take, List.length_drop, List.length_replicate, List.length_set, List.length_map, List.length_cons, List.length_nil]; omega)) rfl) fun a S => ?_)
          refine wl_of (op_y (wn rfl) rfl rfl S (y_lens rfl Try.underlying23 S H rfl) fun a S => ?_)
          refine wl_of (op_y (wn rfl) rfl rfl S (y_bin rfl S rfl rfl rfl) fun a S => ?_)
          refine wl_of (op_y (wn rfl) rfl rfl S (y_move rfl S rfl) fun a S => ?_)
          refine' wl_and 9 76 rfl S H rfl rfl rfl rfl rfl rfl rfl (fun _ S => (wn rfl)) (fun h9 kk => ?yh9) (fun a w S H => ?_)
          case yh9 =>
            have h9p := h9; try simp only [Option.isNone_some, Option.isNone_none, Option.isSome_some, Option.isSome_none, false_or, or_false, true_and, and_true, decide_eq_true_eq, decide_eq_false_iff_not, Bool.or_eq_true, Bool.and_eq_true, Bool.or_eq_false_iff, Bool.and_eq_false_iff, Bool.not_eq_true', Bool.not_eq_false', bne_iff_ne, beq_iff_eq, beq_eq_false_iff_ne, bne_eq_false_iff_eq, ne_eq, Decidable.not_not, Int.not_lt, Int.not_le, gt_iff_lt, ge_iff_le, Bool.true_eq_false, Bool.false_eq_true, not_true_eq_false, not_false_eq_true] at h9p
            refine wl_of (op_y (wg' 76 rfl rfl S rfl h9 rfl) rfl rfl S (y_move rfl S rfl) fun a S => ?_)
            refine wl_of (op_y (wg' 76 rfl rfl S rfl h9 rfl) rfl rfl S (y_move rfl S rfl) fun a S => ?_)
            refine wl_of (op_y (wg' 76 rfl rfl S rfl h9 rfl) rfl rfl S (y_iaddrn rfl Try.underlying22 Fsiz23 S H rfl rfl (by first | assumption | omega | (simp only [List.length_append, List.length_take, List.length_drop, List.length_replicate, List.length_set, List.length_map, List.length_cons, List.length_nil]; omega))) fun a S => ?_)
            refine wl_of (op_y (wg' 76 rfl rfl S rfl h9 rfl) rfl rfl S (y_loads _ rfl Fsca23 S H rfl (by first | assumption | omega | (simp only [List.length_append, List.length_take, List.length_drop, List.length_replicate, List.length_set, List.length_map, List.length_cons, List.length_nil]; omega)) rfl) fun a S => ?_)
            refine wl_of (op_y (wg' 76 rfl rfl S rfl h9 rfl) rfl rfl S (y_move rfl S rfl) fun a S => ?_)
            refine wl_of (op_y (wg' 76 rfl rfl S rfl h9 rfl) rfl rfl S (y_iaddrn rfl Try.underlying23 Fsiz3 S H rfl rfl (by first | assumption | omega | (simp only [List.length_append, List.length_take, List.length_drop, List.length_replicate, List.length_set, List.length_map, List.length_cons, List.length_nil]; omega))) fun a S => ?_)
            refine wl_of (op_y (wg' 76 rfl rfl S rfl h9 rfl) rfl rfl S (y_loadsD _ 0 rfl Fsca3 S H rfl (by omega) rfl) fun a S => ?_)
            refine wl_of (op_y (wg' 76 rfl rfl S rfl h9 rfl) rfl rfl S (y_move rfl S rfl) fun a S => ?_)
            refine wl_of (op_y (wg' 76 rfl rfl S rfl h9 rfl) rfl rfl S (y_bin rfl S rfl rfl rfl) fun a S => ?_)
            refine wl_of (op_y (wn rfl) rfl rfl S (y_and' rfl h9 S rfl rfl) fun a S => ?_)
            exact kk _ _ (S.join 10 86 rfl rfl) H
          refine gl_nil ?_
          refine n_then ?_
          -- cond 5
          refine c_if S rfl (fun h10 => ?_) (fun h10 => ?_)
          · have h10p := h10; try simp only [Option.isNone_some, Option.isNone_none, Option.isSome_some, Option.isSome_none, false_or, or_false, true_and, and_true, decide_eq_true_eq, decide_eq_false_iff_not, Bool.or_eq_true, Bool.and_eq_true, Bool.or_eq_false_iff, Bool.and_eq_false_iff, Bool.not_eq_true', Bool.not_eq_false', bne_iff_ne, beq_iff_eq, beq_eq_false_iff_ne, bne_eq_false_iff_eq, ne_eq, Decidable.not_not, Int.not_lt, Int.not_le, gt_iff_lt, ge_iff_le, Bool.true_eq_false, Bool.false_eq_true, not_true_eq_false, not_false_eq_true] at h10p
            have hkl : k < ps[i].2.length := by have := h10p.1; omega
            have hpd : ps[i].2.getD k 0 = ps[i].2[k] := by rw [List.getD_eq_getElem?_getD, List.getElem?_eq_getElem hkl]; rfl
            have hne : ps[i].2[k] ≠ (i : Int) := by have := h10p.2; rw [hpd] at this; exact this
            obtain ⟨t, htt⟩ : ∃ t : Nat, ps[i].2[k] = t := ⟨ps[i].2[k].toNat, by have := ((right_iff.1 hb).rng i _ (by rw [gr_row ps hip]; exact List.getElem_mem hkl)).1; omega⟩
            have htn : t < ps.length := by have := ((right_iff.1 hb).rng i _ (by rw [gr_row ps hip]; exact List.getElem_mem hkl)).2; omega
            have hnow2 := hrt2.now hiq2
            have hto : t < out1.length := by omega
            refine g_skip ?_
            refine n_then ?_
            refine g_seq ?_
            refine g_block ?_
            refine g_seq ?_
            -- region 16 law.go:182
            refine g_region ?_
            refine wl_of (op_y (wn rfl) rfl rfl S (y_move rfl S rfl) fun a S => ?_)
            refine wl_of (op_y (wn rfl) rfl rfl S (y_move rfl S rfl) fun a S => ?_)
            refine wl_of (op_y (wn rfl) rfl rfl S (y_iaddrn rfl Try.underlying22 Fsiz23 S H rfl rfl (by first | assumption | omega | (simp only [List.length_append, List.length_take, List.length_drop, List.length_replicate, List.length_set, List.length_map, List.length_cons, List.length_nil]; omega))) fun a S => ?_)
            refine wl_of (op_y (wn rfl) rfl rfl S (y_loads _ rfl Fsca23 S H rfl (by first | assumption | omega | (simp only [List.length_append, List.length_take, List.length_drop, List.length_replicate, List.length_set, List.length_map, List.length_cons, List.length_nil]; omega)) rfl) fun a S => ?_)
            refine wl_of (op_y (wn rfl) rfl rfl S (y_move rfl S rfl) fun a S => ?_)
            refine wl_of (op_y (wn rfl) rfl rfl S (y_iaddrn rfl Try.underlying23 Fsiz3 S H rfl rfl (by first | assumption | omega | (simp only [List.length_append, List.length_take, List.length_drop, List.length_replicate, List.length_set, List.length_map, List.length_cons, List.length_nil]; omega))) fun a S => ?_)
            refine wl_of (op_y (wn rfl) rfl rfl S (y_loads _ rfl Fsca3 S H rfl (by first | assumption | omega | (simp only [List.length_append, List.length_take, List.length_drop, List.length_replicate, List.length_set, List.length_map, List.length_cons, List.length_nil]; omega)) rfl) fun a S => ?_)
            rw [htt] at S
            refine wl_of (op_y (wn rfl) rfl rfl S (y_assign rfl S rfl) fun a S => ?_)
            refine gl_nil ?_
            refine n_then ?_
            refine g_seq ?_
            -- region 17 law.go:183
            refine g_region ?_
            refine wl_of (op_y (wn rfl) rfl rfl S (y_move rfl S rfl) fun a S => ?_)
            refine wl_of (op_y (wn rfl) rfl rfl S (y_move rfl S rfl) fun a S => ?_)
            refine wl_of (op_y (wn rfl) rfl rfl S (y_iaddrn rfl Try.underlying23 Fsiz3 S H rfl rfl (by first | assumption | omega | (simp only [List.length_append, List.length_take, List.length_drop, List.length_replicate, List.length_set, List.length_map, List.length_cons, List.length_nil]; omega))) fun a S => ?_)
            refine wl_of (op_y (wn rfl) rfl rfl S (y_loads _ rfl Fsca3 S H rfl (by first | assumption | omega | (simp only [List.length_append, List.length_take, List.length_drop, List.length_replicate, List.length_set, List.length_map, List.length_cons, List.length_nil]; omega)) rfl) fun a S => ?_)
            refine wl_of (op_y (wn rfl) rfl rfl S (y_move rfl S rfl) fun a S => ?_)
            refine wl_of (op_y (wn rfl) rfl rfl S (y_bin rfl S rfl rfl rfl) fun a S => ?_)
            refine gl_nil ?_
            refine n_then ?_
            -- cond 6 (both ways go on)
            refine c_if S rfl (fun h11 => ?_) (fun h11 => ?_)
            · have h11p := h11; try simp only [Option.isNone_some, Option.isNone_none, Option.isSome_some, Option.isSome_none, false_or, or_false, true_and, and_true, decide_eq_true_eq, decide_eq_false_iff_not, Bool.or_eq_true, Bool.and_eq_true, Bool.or_eq_false_iff, Bool.and_eq_false_iff, Bool.not_eq_true', Bool.not_eq_false', bne_iff_ne, beq_iff_eq, beq_eq_false_iff_ne, bne_eq_false_iff_eq, ne_eq, Decidable.not_not, Int.not_lt, Int.not_le, gt_iff_lt, ge_iff_le, Bool.true_eq_false, Bool.false_eq_true, not_true_eq_false, not_false_eq_true] at h11p
              have hpt : decide (atI out1 ps[i].2[k].toNat ≠ ps[i].2[k]) = true := by rw [htt]; simp only [decide_eq_true_eq, Int.toNat_natCast]; rw [atI_eq hto]; exact h11p
              have H := (H.front (RowsA 3 1 encI qs2)).rowOut i hiq2
              have hcl : qs2[i].2.length ≤ 40 := by rw [hnow2]; have := List.length_filter_le (fun t => decide (atI out1 t.toNat ≠ t)) (ps[i].2.take k); rw [List.length_take] at this; omega
              -- region 18 law.go:184
              refine g_region ?_
              refine wl_of (op_y (wn rfl) rfl rfl S (y_move rfl S rfl) fun a S => ?_)
              refine wl_of (op_y (wn rfl) rfl rfl S (y_move rfl S rfl) fun a S => ?_)
              refine wl_of (op_y (wn rfl) rfl rfl S (y_move rfl S rfl) fun a S => ?_)
              refine wl_of (op_y (wn rfl) rfl rfl S (y_move rfl S rfl) fun a S => ?_)
              refine wl_of (op_y (wn rfl) rfl rfl S (y_iaddrn rfl Try.underlying22 Fsiz23 S H rfl rfl (by first | assumption | omega | (simp only [List.length_append, List.length_take, List.length_drop, List.length_replicate, List.length_set, List.length_map, List.length_cons, List.length_nil]; omega))) fun a S => ?_)
              refine wl_of (op_y (wn rfl) rfl rfl S (y_loads _ rfl Fsca23 S H rfl (by first | assumption | omega | (simp only [List.length_append, List.length_take, List.length_drop, List.length_replicate, List.length_set, List.length_map, List.length_cons, List.length_nil]; omega)) rfl) fun a S => ?_)
              refine wl_of (op_y (wn rfl) rfl rfl S (y_move rfl S rfl) fun a S => ?_)
              refine wl_of (op_buildSlice (wn rfl) rfl rfl rfl Try.underlying23 Finf3 S H (idx := [0]) rfl rfl rfl (z := [.int .i64 0]) (by kernel_rfl) (cs := [_]) rfl fun b109 a w S H => ?_)
              refine wl_of (op_append ([(t : Int)]) (wn rfl) rfl rfl rfl Try.underlying23 Finf3 rfl rfl S H rfl rfl rfl rfl (by simp) (by simp [encI]) (by simp [encI, Value.oneCell']) (by simp only [List.length_cons, List.length_nil]; omega) (by simp only [List.length_cons, List.length_nil]; omega) fun u110 a w hn110 S H => ?_)
              refine wl_of (op_y (wn rfl) rfl rfl S (y_iaddrn rfl Try.underlying22 Fsiz23 S H rfl rfl (by first | assumption | omega | (simp only [List.length_append, List.length_take, List.length_drop, List.length_replicate, List.length_set, List.length_map, List.length_cons, List.length_nil]; omega))) fun a S => ?_)
              refine wl_of (op_store1 _ ((u110, qs2[i].2 ++ [(t : Int)])) (wn rfl) rfl rfl S H rfl rfl (H.slc _) (H.sl1 _) Fsiz23 (by first | assumption | omega | (simp only [List.length_append, List.length_take, List.length_drop, List.length_replicate, List.length_set, List.length_map, List.length_cons, List.length_nil]; omega)) (by exact rfl) fun a w S H => ?_)
              refine gl_nil ?_
              refine n_block ?_
              refine n_then ?_
              -- region 15 law.go:181
              refine g_region ?_
              refine wl_of (op_y (wn rfl) rfl rfl S (y_move rfl S rfl) fun a S => ?_)
              refine wl_of (op_y (wn rfl) rfl rfl S (y_add rfl S rfl rfl (by omega)) fun a S => ?_)
              refine wl_of (op_y (wn rfl) rfl rfl S (y_assign rfl S rfl) fun a S => ?_)
              refine gl_nil ?_
              refine n_then ?_
              first
              | exact ⟨k + 1, S.nil.cons S 8 rfl, ((((((((((((((((((S.nil.cons S 0 rfl).cons S 3 rfl).cons S 4 rfl).cons S 6 rfl).cons S 7 rfl).cons S 39 rfl).cons S 40 rfl).cons S 41 rfl).cons S 42 rfl).cons S 45 rfl).cons S 46 rfl).cons S 47 rfl).cons S 48 rfl).cons S 49 rfl).cons S 50 rfl).cons S 51 rfl).cons S 60 rfl).cons S 61 rfl).cons S 68 rfl, ⟨by omega, fun j hj => by by_cases hjk : j < k; exact hno j hjk; (obtain rfl : j = k := by omega); rw [atI_eq hkl]; exact hne, _, by rw [filter_snoc hkl, hpt, if_pos rfl, ← hnow2, htt]; exact hrt2.put u110 _, (((H.front2 (OSl 3 u110 1 encI (qs2[i].2 ++ [(t : Int)])) (RowsA 3 1 encI (qs2.eraseIdx i))).rowIn hiq2).take [OSl 23 (.slice (some ⟨b38, 0, none⟩) ps.length ps.length) 1 encRow (qs2.set i (u110, qs2[i].2 ++ [(t : Int)])), RowsA 3 1 encI (qs2.set i (u110, qs2[i].2 ++ [(t : Int)])), OSl 3 vo1 1 encI out1, RowsS 1 encI ps, Sl v 1 encRow ps])⟩, by omega⟩
              | exact ⟨k + 1, S.nil.cons S 8 rfl, ((((((((((((((((((S.nil.cons S 0 rfl).cons S 3 rfl).cons S 4 rfl).cons S 6 rfl).cons S 7 rfl).cons S 39 rfl).cons S 40 rfl).cons S 41 rfl).cons S 42 rfl).cons S 45 rfl).cons S 46 rfl).cons S 47 rfl).cons S 48 rfl).cons S 49 rfl).cons S 50 rfl).cons S 51 rfl).cons S 60 rfl).cons S 61 rfl).cons S 68 rfl, ⟨by omega, fun j hj => by by_cases hjk : j < k; exact hno j hjk; (obtain rfl : j = k := by omega); rw [atI_eq hkl]; exact hne, qs2, by rw [filter_snoc hkl, hpt, if_neg (by simp), List.append_nil]; exact hrt2, H⟩, by omega⟩
            · have h11p := h11; try simp only [Option.isNone_some, Option.isNone_none, Option.isSome_some, Option.isSome_none, false_or, or_false, true_and, and_true, decide_eq_true_eq, decide_eq_false_iff_not, Bool.or_eq_true, Bool.and_eq_true, Bool.or_eq_false_iff, Bool.and_eq_false_iff, Bool.not_eq_true', Bool.not_eq_false', bne_iff_ne, beq_iff_eq, beq_eq_false_iff_ne, bne_eq_false_iff_eq, ne_eq, Decidable.not_not, Int.not_lt, Int.not_le, gt_iff_lt, ge_iff_le, Bool.true_eq_false, Bool.false_eq_true, not_true_eq_false, not_false_eq_true] at h11p
              have hpt : decide (atI out1 ps[i].2[k].toNat ≠ ps[i].2[k]) = false := by rw [htt]; simp only [decide_eq_false_iff_not, Int.toNat_natCast, ne_eq, Decidable.not_not]; rw [atI_eq hto]; have := h11; simpa using this
              refine g_skip ?_
              refine n_block ?_
              refine n_then ?_
              -- region 15 law.go:181
              refine g_region ?_
              refine wl_of (op_y (wn rfl) rfl rfl S (y_move rfl S rfl) fun a S => ?_)
              refine wl_of (op_y (wn rfl) rfl rfl S (y_add rfl S rfl rfl (by omega)) fun a S => ?_)
              refine wl_of (op_y (wn rfl) rfl rfl S (y_assign rfl S rfl) fun a S => ?_)
              refine gl_nil ?_
              refine n_then ?_
              first
              | exact ⟨k + 1, S.nil.cons S 8 rfl, ((((((((((((((((((S.nil.cons S 0 rfl).cons S 3 rfl).cons S 4 rfl).cons S 6 rfl).cons S 7 rfl).cons S 39 rfl).cons S 40 rfl).cons S 41 rfl).cons S 42 rfl).cons S 45 rfl).cons S 46 rfl).cons S 47 rfl).cons S 48 rfl).cons S 49 rfl).cons S 50 rfl).cons S 51 rfl).cons S 60 rfl).cons S 61 rfl).cons S 68 rfl, ⟨by omega, fun j hj => by by_cases hjk : j < k; exact hno j hjk; (obtain rfl : j = k := by omega); rw [atI_eq hkl]; exact hne, _, by rw [filter_snoc hkl, hpt, if_pos rfl, ← hnow2, htt]; exact hrt2.put u110 _, (((H.front2 (OSl 3 u110 1 encI (qs2[i].2 ++ [(t : Int)])) (RowsA 3 1 encI (qs2.eraseIdx i))).rowIn hiq2).take [OSl 23 (.slice (some ⟨b38, 0, none⟩) ps.length ps.length) 1 encRow (qs2.set i (u110, qs2[i].2 ++ [(t : Int)])), RowsA 3 1 encI (qs2.set i (u110, qs2[i].2 ++ [(t : Int)])), OSl 3 vo1 1 encI out1, RowsS 1 encI ps, Sl v 1 encRow ps])⟩, by omega⟩
              | exact ⟨k + 1, S.nil.cons S 8 rfl, ((((((((((((((((((S.nil.cons S 0 rfl).cons S 3 rfl).cons S 4 rfl).cons S 6 rfl).cons S 7 rfl).cons S 39 rfl).cons S 40 rfl).cons S 41 rfl).cons S 42 rfl).cons S 45 rfl).cons S 46 rfl).cons S 47 rfl).cons S 48 rfl).cons S 49 rfl).cons S 50 rfl).cons S 51 rfl).cons S 60 rfl).cons S 61 rfl).cons S 68 rfl, ⟨by omega, fun j hj => by by_cases hjk : j < k; exact hno j hjk; (obtain rfl : j = k := by omega); rw [atI_eq hkl]; exact hne, qs2, by rw [filter_snoc hkl, hpt, if_neg (by simp), List.append_nil]; exact hrt2, H⟩, by omega⟩
          · have h10p := h10; try simp only [Option.isNone_some, Option.isNone_none, Option.isSome_some, Option.isSome_none, false_or, or_false, true_and, and_true, decide_eq_true_eq, decide_eq_false_iff_not, Bool.or_eq_true, Bool.and_eq_true, Bool.or_eq_false_iff, Bool.and_eq_false_iff, Bool.not_eq_true', Bool.not_eq_false', bne_iff_ne, beq_iff_eq, beq_eq_false_iff_ne, bne_eq_false_iff_eq, ne_eq, Decidable.not_not, Int.not_lt, Int.not_le, gt_iff_lt, ge_iff_le, Bool.true_eq_false, Bool.false_eq_true, not_true_eq_false, not_false_eq_true] at h10p
            have hst : k = rankL ps[i].2 i (i : Int) := rank_stop hk hno (by
              by_cases hkl : k < ps[i].2.length
              · have hpd : ps[i].2.getD k 0 = ps[i].2[k] := by rw [List.getD_eq_getElem?_getD, List.getElem?_eq_getElem hkl]; rfl
                have := h10
                simp only [hpd] at this
                refine .inr ⟨?_, hkl⟩
                rw [atI_eq hkl]
                simpa [hkl] using this
              · exact .inl (by omega)) (Nat.le_refl _)
            refine g_exit ?_
            refine x_then (x_then (x_eq ?_))
            refine n_block ?_
            refine n_then ?_
            -- region 10 law.go:177
            refine g_region ?_
            refine wl_of (op_y (wn rfl) rfl rfl S (y_move rfl S rfl) fun a S => ?_)
            refine wl_of (op_y (wn rfl) rfl rfl S (y_add rfl S rfl rfl (by omega)) fun a S => ?_)
            refine wl_of (op_y (wn rfl) rfl rfl S (y_assign rfl S rfl) fun a S => ?_)
            refine gl_nil ?_
            refine n_then ?_
            exact ⟨i + 1, S.nil.cons S 7 rfl, (((S.nil.cons S 0 rfl).cons S 3 rfl).cons S 4 rfl).cons S 6 rfl, ⟨by omega, qs2, hrt2.next (by rw [hst, gr_row ps hip]; rfl), H⟩, by omega⟩
      · have h5p := h5; try simp only [Option.isNone_some, Option.isNone_none, Option.isSome_some, Option.isSome_none, false_or, or_false, true_and, and_true, decide_eq_true_eq, decide_eq_false_iff_not, Bool.or_eq_true, Bool.and_eq_true, Bool.or_eq_false_iff, Bool.and_eq_false_iff, Bool.not_eq_true', Bool.not_eq_false', bne_iff_ne, beq_iff_eq, beq_eq_false_iff_ne, bne_eq_false_iff_eq, ne_eq, Decidable.not_not, Int.not_lt, Int.not_le, gt_iff_lt, ge_iff_le, Bool.true_eq_false, Bool.false_eq_true, not_true_eq_false, not_false_eq_true] at h5p
        obtain rfl : i = ps.length := by omega
        have hgq : gr qs = lessW (gr ps) out1 := by unfold lessW; rw [hrt.done, hgrl]
        have hql := hrt.len
        refine g_exit ?_
        refine x_then (x_then (x_eq ?_))
        refine n_then ?_
        have S := ((S.nil.cons S 3 rfl).cons S 4 rfl).cons S 6 rfl
        refine g_seq ?_
        -- region 19 law.go:188
        refine g_region ?_
        refine wl_of (op_y (wn rfl) rfl rfl S (y_move rfl S rfl) fun a S => ?_)
        refine wl_of (op_call (wn rfl) rfl rfl S (co_func rfl Try.call13 S rfl) (swap_any (.slice (some ⟨b38, 0, none⟩) ps.length ps.length) qs _ (H.sl (.slice (some ⟨b38, 0, none⟩) ps.length ps.length)) (H.rws 3 qs) (by omega)) fun v w hc a S => ?_)
        obtain ⟨vo2, out2, e2, rfl, hs2, H1⟩ := hc
        have H := H.call1 H1 rfl
        rw [hgq] at hs2
        obtain ⟨rfl, he2⟩ : e2 = 0 ∧ out1 = out2 := by
          rcases hs2 with ⟨_, rfl, r2, ht2⟩ | ⟨hb2, _, _⟩
          · exact ⟨rfl, (ttc_unique (less_ttc (right_iff.1 hb) ht) ht2).symm⟩
          · rw [right_iff.2 (less_right (right_iff.1 hb) out1)] at hb2; cases hb2
        refine wl_of (op_y (wn rfl) rfl rfl S (y_move rfl S rfl) fun a S => ?_)
        refine wl_of (op_y (wn rfl) rfl rfl S (y_extract rfl S rfl rfl) fun a S => ?_)
        refine wl_of (op_y (wn rfl) rfl rfl S (y_extract rfl S rfl rfl) fun a S => ?_)
        refine wl_of (op_y (wn rfl) rfl rfl S (y_assign rfl S rfl) fun a S => ?_)
        refine wl_of (op_y (wn rfl) rfl rfl S (y_assign rfl S rfl) fun a S => ?_)
        refine gl_nil ?_
        refine n_then ?_
        have S := (((S.nil.cons S 3 rfl).cons S 4 rfl).cons S 10 rfl).cons S 11 rfl
        refine g_seq ?_
        -- region 20 law.go:189
        refine g_region ?_
        refine wl_of (op_y (wn rfl) rfl rfl S (y_move rfl S rfl) fun a S => ?_)
        refine wl_of (op_y (wn rfl) rfl rfl S (y_move rfl S rfl) fun a S => ?_)
        refine wl_of (op_y (wg' 118 rfl rfl S rfl rfl rfl) rfl rfl S (y_move rfl S rfl) fun a S => ?_)
        refine wl_of (op_y (wg' 118 rfl rfl S rfl rfl rfl) rfl rfl S (y_bin rfl S rfl rfl rfl) fun a S => ?_)
        refine wl_of (op_y (wn rfl) rfl rfl S (y_and' rfl rfl S rfl rfl) fun a S => ?_)
        refine wl_of (op_y (wn rfl) rfl rfl S (y_move rfl S rfl) fun a S => ?_)
        refine wl_of (op_y (wg' 122 rfl rfl S rfl rfl rfl) rfl rfl S (y_move rfl S rfl) fun a S => ?_)
        refine wl_of (op_y (wg' 122 rfl rfl S rfl rfl rfl) rfl rfl S (y_move rfl S rfl) fun a S => ?_)
        refine wl_of (op_call (wg' 122 rfl rfl S rfl rfl rfl) rfl rfl S (co_func rfl Try.call15 S rfl) (ints_spec vo1 vo2 out1 out2 _ (H.sl vo1) (H.sl vo2)) fun v w hc a S => ?_)
        obtain ⟨rfl, he⟩ := hc
        have H := H.ext he
        refine wl_of (op_y (wn rfl) rfl rfl S (y_and' rfl rfl S rfl rfl) fun a S => ?_)
        refine wl_of (op_y (wn rfl) rfl rfl S (y_assign rfl S rfl) fun a S => ?_)
        refine gl_nil ?_
        refine n_then ?_
        have S := S.nil.cons S 2 rfl
        refine g_ret ?_
        refine ret1 rfl S rfl ?_
        exact ⟨by simp [he2], H.toExt⟩

end Go.Proofs.Ytoghkehlmibniaa
