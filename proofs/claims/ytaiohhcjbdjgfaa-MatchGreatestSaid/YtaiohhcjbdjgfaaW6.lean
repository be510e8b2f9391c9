/- The walks. No condition. -/
import Derived.Test.YtaiohhcjbdjgfaaChecked
import Derived.Test.YtaiohhcjbdjgfaaGwCut
import Derived.Test.YtaiohhcjbdjgfaaFacts
import Derived.Test.YtaiohhcjbdjgfaaPlain
import Derived.Test.YtaiohhcjbdjgfaaW5
namespace Go.Proofs.Ytaiohhcjbdjgfaa
open Go Go.Gw
set_option linter.unusedVariables false
set_option linter.unusedSimpArgs false
set_option maxHeartbeats 4000000 in
/-- foyer/match.Match -/
theorem match_ok (v : Value) (ps : List (Value × List Int)) (r : Nat) (w0 : World) (hv : IsSl w0 v 1 encRow ps) (hr : ∀ p ∈ ps, IsSl w0 p.1 1 encI p.2) (hvg : validG (gr ps) r = true) :
    Ret Try.prog 15 #[v, .int .i64 (r : Int)] w0 (fun u w => ∃ vg vl vr, u = .tuple #[vg, .agg #[vl, vr], .int .i64 0] ∧ HSat No w0 [OSl 3 vg 1 encI (gotL (gr ps) r), OSl 3 vl 1 encI (leftL (gr ps) r), OSl 3 vr 1 encI (rightL (gr ps) r)] w) := by
  refine ret_of_wp (nt := 108) Try.func15 rfl rfl rfl (fl := [(0, v), (1, .int .i64 (r : Int))]) rfl (fun a S => ?_)
  have H := HSat.start w0
  have H := H.ro0 (Sl v 1 encRow ps) rfl (hv)
  have H := H.ro0 (RowsS 1 encI ps) rfl (hr)
  have hl := hv.len
  have hlen := gr_len ps
  have hvp := validG_parts hvg
  have hrl : r ≤ 4000 := by omega
  refine g_seq ?_
  -- region 0 match.go:21
  refine g_region ?_
  refine wl_of (op_box1 (wn rfl) rfl rfl rfl S H rfl (H.slc _) fun b2 a w S H => ?_)
  refine wl_of (op_y (wn rfl) rfl rfl S (y_assign rfl S rfl) fun a S => ?_)
  refine wl_of (op_alloc (wn rfl) rfl rfl rfl S H Fzer25 fun b5 a w S H => ?_)
  refine wl_of (op_y (wn rfl) rfl rfl S (y_assign rfl S rfl) fun a S => ?_)
  refine gl_nil ?_
  refine n_then ?_
  refine g_seq ?_
  refine g_seq ?_
  -- region 1 match.go:22
  refine g_region ?_
  refine wl_of (op_y (wn rfl) rfl rfl S (y_load rfl Fsca22 S H rfl rfl) fun a S => ?_)
  refine wl_of (op_y (wn rfl) rfl rfl S (y_move rfl S rfl) fun a S => ?_)
  refine wl_of (op_call (wn rfl) rfl rfl S (co_func rfl Try.call24 S rfl) (valid_spec v ps r _ (H.sl v) (H.rwsS ps)) fun v w hc a S => ?_)
  obtain ⟨rfl, he⟩ := hc
  have H := H.ext he
  refine wl_of (op_y (wn rfl) rfl rfl S (y_not rfl S rfl) fun a S => ?_)
  refine gl_nil ?_
  refine n_then ?_
  have S := (((((S.nil.cons S 1 rfl).cons S 2 rfl).cons S 4 rfl).cons S 5 rfl).cons S 6 rfl).cons S 24 rfl
  -- cond 1
  refine c_if S rfl (fun h1 => ?_) (fun h1 => ?_)
  · have h1p := h1; try simp only [Option.isNone_some, Option.isNone_none, Option.isSome_some, Option.isSome_none, false_or, or_false, true_and, and_true, decide_eq_true_eq, decide_eq_false_iff_not, Bool.or_eq_true, Bool.and_eq_true, Bool.or_eq_false_iff, Bool.and_eq_false_iff, Bool.not_eq_true', Bool.not_eq_false', bne_iff_ne, beq_iff_eq, beq_eq_false_iff_ne, bne_eq_false_iff_eq, ne_eq, Decidable.not_not, Int.not_lt, Int.not_le, gt_iff_lt, ge_iff_le, Bool.true_eq_false, Bool.false_eq_true, not_true_eq_false, not_false_eq_true] at h1p
    all_goals (
      rw [hvg] at h1; simp at h1)
  · have h1p := h1; try simp only [Option.isNone_some, Option.isNone_none, Option.isSome_some, Option.isSome_none, false_or, or_false, true_and, and_true, decide_eq_true_eq, decide_eq_false_iff_not, Bool.or_eq_true, Bool.and_eq_true, Bool.or_eq_false_iff, Bool.and_eq_false_iff, Bool.not_eq_true', Bool.not_eq_false', bne_iff_ne, beq_iff_eq, beq_eq_false_iff_ne, bne_eq_false_iff_eq, ne_eq, Decidable.not_not, Int.not_lt, Int.not_le, gt_iff_lt, ge_iff_le, Bool.true_eq_false, Bool.false_eq_true, not_true_eq_false, not_false_eq_true] at h1p
    refine g_skip ?_
    refine n_then ?_
    refine g_seq ?_
    -- region 3 match.go:25
    refine g_region ?_
    refine wl_of (op_y (wn rfl) rfl rfl S (y_load rfl Fsca22 S H rfl rfl) fun a S => ?_)
    refine wl_of (op_y (wn rfl) rfl rfl S (y_lens rfl Try.underlying22 S H rfl) fun a S => ?_)
    refine wl_of (op_make (encI) (0) (wn rfl) rfl rfl rfl Try.underlying23 Finf3 rfl rfl S H rfl rfl rfl (by omega) (by omega) fun b28 a w S H => ?_)
    refine wl_of (op_alloc (wn rfl) rfl rfl rfl S H Fzer23 fun b7 a w S H => ?_)
    refine wl_of (op_store (wn rfl) rfl rfl S H rfl rfl (H.sl1 _) Fsiz23 rfl fun a w S H => ?_)
    dsimp only [List.set, Nat.zero_add, Nat.reduceAdd] at H
    refine gl_nil ?_
    refine n_then ?_
    have S := (((((S.nil.cons S 1 rfl).cons S 2 rfl).cons S 4 rfl).cons S 5 rfl).cons S 6 rfl).cons S 7 rfl
    refine g_seq ?_
    -- region 4 match.go:26
    refine g_region ?_
    refine wl_of (op_y (wn rfl) rfl rfl S (y_move rfl S rfl) fun a S => ?_)
    refine wl_of (op_make (encI) (0) (wn rfl) rfl rfl rfl Try.underlying23 Finf3 rfl rfl S H rfl rfl rfl (by omega) (by omega) fun b30 a w S H => ?_)
    refine wl_of (op_alloc (wn rfl) rfl rfl rfl S H Fzer23 fun b8 a w S H => ?_)
    refine wl_of (op_store (wn rfl) rfl rfl S H rfl rfl (H.sl1 _) Fsiz23 rfl fun a w S H => ?_)
    dsimp only [List.set, Nat.zero_add, Nat.reduceAdd] at H
    refine gl_nil ?_
    refine n_then ?_
    refine g_seq ?_
    refine g_seq ?_
    -- region 5 match.go:27
    refine g_region ?_
    refine wl_of (op_y (wn rfl) rfl rfl S (y_load rfl Fsca23 S H rfl rfl) fun a S => ?_)
    refine wl_of (op_y (wn rfl) rfl rfl S (y_lens rfl Try.underlying23 S H rfl) fun a S => ?_)
    rw [List.length_replicate] at S
    refine wl_of (op_y (wn rfl) rfl rfl S (y_move rfl S rfl) fun a S => ?_)
    refine gl_nil ?_
    refine n_then ?_
    refine g_block ?_
    have SU := (((((((S.nil.cons S 1 rfl).cons S 2 rfl).cons S 4 rfl).cons S 5 rfl).cons S 6 rfl).cons S 7 rfl).cons S 8 rfl).cons S 32 rfl
    refine loopW (X := Nat) SU (fun k => [(33, .int .i64 (k : Int))]) (fun k w => k ≤ ps.length ∧ HSat No w0 [OSl 3 (.slice (some ⟨b28, 0, none⟩) ps.length ps.length) 1 encI (fillL ps.length k), OSl 3 (.slice (some ⟨b30, 0, none⟩) r r) 1 encI (List.replicate r 0), Cel b8 23 [(.slice (some ⟨b30, 0, none⟩) r r)], Cel b7 23 [(.slice (some ⟨b28, 0, none⟩) ps.length ps.length)], Cel b2 22 [v], Cel b5 25 [.slice none 0 0, .slice none 0 0], RowsS 1 encI ps, Sl v 1 encRow ps] w) (fun k => ps.length - k) 0 (S.nil.cons S 33 rfl) (⟨by omega, by rw [fill_zero]; exact H.take [OSl 3 (.slice (some ⟨b28, 0, none⟩) ps.length ps.length) 1 encI (List.replicate ps.length 0), OSl 3 (.slice (some ⟨b30, 0, none⟩) r r) 1 encI (List.replicate r 0), Cel b8 23 [(.slice (some ⟨b30, 0, none⟩) r r)], Cel b7 23 [(.slice (some ⟨b28, 0, none⟩) ps.length ps.length)], Cel b2 22 [v], Cel b5 25 [.slice none 0 0, .slice none 0 0], RowsS 1 encI ps, Sl v 1 encRow ps]⟩) (fun k a w S hW => ?_)
    simp only [List.cons_append, List.nil_append] at S
    obtain ⟨hk, H⟩ := hW
    have hfl := fill_len hk
    refine g_seq ?_
    -- region 6 match.go:27
    refine g_region ?_
    refine wl_of (op_y (wn rfl) rfl rfl S (y_bin rfl S rfl rfl rfl) fun a S => ?_)
    refine gl_nil ?_
    refine n_then ?_
    refine g_seq ?_
    -- cond 2
    refine c_if S rfl (fun h2 => ?_) (fun h2 => ?_)
    · have h2p := h2; try simp only [Option.isNone_some, Option.isNone_none, Option.isSome_some, Option.isSome_none, false_or, or_false, true_and, and_true, decide_eq_true_eq, decide_eq_false_iff_not, Bool.or_eq_true, Bool.and_eq_true, Bool.or_eq_false_iff, Bool.and_eq_false_iff, Bool.not_eq_true', Bool.not_eq_false', bne_iff_ne, beq_iff_eq, beq_eq_false_iff_ne, bne_eq_false_iff_eq, ne_eq, Decidable.not_not, Int.not_lt, Int.not_le, gt_iff_lt, ge_iff_le, Bool.true_eq_false, Bool.false_eq_true, not_true_eq_false, not_false_eq_true] at h2p
      refine g_skip ?_
      refine n_then ?_
      refine g_seq ?_
      refine g_block ?_
      refine g_seq ?_
      -- region 7 match.go:27
      refine g_region ?_
      refine wl_of (op_y (wn rfl) rfl rfl S (y_move rfl S rfl) fun a S => ?_)
      refine wl_of (op_y (wn rfl) rfl rfl S (y_assign rfl S rfl) fun a S => ?_)
      refine gl_nil ?_
      refine n_then ?_
      -- region 8 match.go:28
      refine g_region ?_
      refine wl_of (op_y (wn rfl) rfl rfl S (y_load rfl Fsca23 S H rfl rfl) fun a S => ?_)
      refine wl_of (op_y (wn rfl) rfl rfl S (y_move rfl S rfl) fun a S => ?_)
      refine wl_of (op_y (wn rfl) rfl rfl S (y_iaddrn rfl Try.underlying23 Fsiz3 S H rfl rfl (by first | assumption | omega | (simp only [List.length_append, List.length_take, List.length_drop, List.length_replicate, List.length_set, List.length_map, List.length_cons, List.length_nil]; omega))) fun a S => ?_)
      refine wl_of (op_store1 _ (_) (wn rfl) rfl rfl S H rfl rfl rfl rfl Fsiz3 (by first | assumption | omega | (simp only [List.length_append, List.length_take, List.length_drop, List.length_replicate, List.length_set, List.length_map, List.length_cons, List.length_nil]; omega)) (by exact rfl) fun a w S H => ?_)
      refine gl_nil ?_
      refine n_block ?_
      refine n_then ?_
      -- region 9 match.go:27
      refine g_region ?_
      refine wl_of (op_y (wn rfl) rfl rfl S (y_add rfl S rfl rfl (by omega)) fun a S => ?_)
      refine wl_of (op_y (wn rfl) rfl rfl S (y_move rfl S rfl) fun a S => ?_)
      refine gl_nil ?_
      refine n_then ?_
      rw [fill_step (by omega)] at H
      exact ⟨k + 1, S.nil.cons S 33 rfl, (((((((S.nil.cons S 1 rfl).cons S 2 rfl).cons S 4 rfl).cons S 5 rfl).cons S 6 rfl).cons S 7 rfl).cons S 8 rfl).cons S 32 rfl, ⟨by omega, H⟩, by omega⟩
    · have h2p := h2; try simp only [Option.isNone_some, Option.isNone_none, Option.isSome_some, Option.isSome_none, false_or, or_false, true_and, and_true, decide_eq_true_eq, decide_eq_false_iff_not, Bool.or_eq_true, Bool.and_eq_true, Bool.or_eq_false_iff, Bool.and_eq_false_iff, Bool.not_eq_true', Bool.not_eq_false', bne_iff_ne, beq_iff_eq, beq_eq_false_iff_ne, bne_eq_false_iff_eq, ne_eq, Decidable.not_not, Int.not_lt, Int.not_le, gt_iff_lt, ge_iff_le, Bool.true_eq_false, Bool.false_eq_true, not_true_eq_false, not_false_eq_true] at h2p
      obtain rfl : k = ps.length := by omega
      rw [fill_end] at H
      refine g_exit ?_
      refine x_then (x_then (x_eq ?_))
      refine n_then ?_
      refine g_seq ?_
      refine g_seq ?_
      -- region 10 match.go:30
      refine g_region ?_
      refine wl_of (op_y (wn rfl) rfl rfl S (y_load rfl Fsca23 S H rfl rfl) fun a S => ?_)
      refine wl_of (op_y (wn rfl) rfl rfl S (y_lens rfl Try.underlying23 S H rfl) fun a S => ?_)
      rw [List.length_replicate] at S
      refine wl_of (op_y (wn rfl) rfl rfl S (y_move rfl S rfl) fun a S => ?_)
      refine gl_nil ?_
      refine n_then ?_
      have S := ((((((((S.nil.cons S 1 rfl).cons S 2 rfl).cons S 4 rfl).cons S 5 rfl).cons S 6 rfl).cons S 7 rfl).cons S 8 rfl).cons S 41 rfl).cons S 42 rfl
      refine g_block ?_
      have SU := (((((((S.nil.cons S 1 rfl).cons S 2 rfl).cons S 4 rfl).cons S 5 rfl).cons S 6 rfl).cons S 7 rfl).cons S 8 rfl).cons S 41 rfl
      refine loopW (X := Nat) SU (fun k => [(42, .int .i64 (k : Int))]) (fun k w => k ≤ r ∧ HSat No w0 [OSl 3 (.slice (some ⟨b30, 0, none⟩) r r) 1 encI (fillL r k), OSl 3 (.slice (some ⟨b28, 0, none⟩) ps.length ps.length) 1 encI (List.replicate ps.length (-1)), Cel b8 23 [(.slice (some ⟨b30, 0, none⟩) r r)], Cel b7 23 [(.slice (some ⟨b28, 0, none⟩) ps.length ps.length)], Cel b2 22 [v], Cel b5 25 [.slice none 0 0, .slice none 0 0], RowsS 1 encI ps, Sl v 1 encRow ps] w) (fun k => r - k) 0 (S.nil.cons S 42 rfl) (⟨by omega, by rw [fill_zero]; exact H.take [OSl 3 (.slice (some ⟨b30, 0, none⟩) r r) 1 encI (List.replicate r 0), OSl 3 (.slice (some ⟨b28, 0, none⟩) ps.length ps.length) 1 encI (List.replicate ps.length (-1)), Cel b8 23 [(.slice (some ⟨b30, 0, none⟩) r r)], Cel b7 23 [(.slice (some ⟨b28, 0, none⟩) ps.length ps.length)], Cel b2 22 [v], Cel b5 25 [.slice none 0 0, .slice none 0 0], RowsS 1 encI ps, Sl v 1 encRow ps]⟩) (fun k a w S hW => ?_)
      simp only [List.cons_append, List.nil_append] at S
      obtain ⟨hk, H⟩ := hW
      have hfl := fill_len hk
      refine g_seq ?_
      -- region 11 match.go:30
      refine g_region ?_
      refine wl_of (op_y (wn rfl) rfl rfl S (y_bin rfl S rfl rfl rfl) fun a S => ?_)
      refine gl_nil ?_
      refine n_then ?_
      refine g_seq ?_
      -- cond 3
      refine c_if S rfl (fun h3 => ?_) (fun h3 => ?_)
      · have h3p := h3; try simp only [Option.isNone_some, Option.isNone_none, Option.isSome_some, Option.isSome_none, false_or, or_false, true_and, and_true, decide_eq_true_eq, decide_eq_false_iff_not, Bool.or_eq_true, Bool.and_eq_true, Bool.or_eq_false_iff, Bool.and_eq_false_iff, Bool.not_eq_true', Bool.not_eq_false', bne_iff_ne, beq_iff_eq, beq_eq_false_iff_ne, bne_eq_false_iff_eq, ne_eq, Decidable.not_not, Int.not_lt, Int.not_le, gt_iff_lt, ge_iff_le, Bool.true_eq_false, Bool.false_eq_true, not_true_eq_false, not_false_eq_true] at h3p
        refine g_skip ?_
        refine n_then ?_
        refine g_seq ?_
        refine g_block ?_
        refine g_seq ?_
        -- region 12 match.go:30
        refine g_region ?_
        refine wl_of (op_y (wn rfl) rfl rfl S (y_move rfl S rfl) fun a S => ?_)
        refine wl_of (op_y (wn rfl) rfl rfl S (y_assign rfl S rfl) fun a S => ?_)
        refine gl_nil ?_
        refine n_then ?_
        -- region 13 match.go:31
        refine g_region ?_
        refine wl_of (op_y (wn rfl) rfl rfl S (y_load rfl Fsca23 S H rfl rfl) fun a S => ?_)
        refine wl_of (op_y (wn rfl) rfl rfl S (y_move rfl S rfl) fun a S => ?_)
        refine wl_of (op_y (wn rfl) rfl rfl S (y_iaddrn rfl Try.underlying23 Fsiz3 S H rfl rfl (by first | assumption | omega | (simp only [List.length_append, List.length_take, List.length_drop, List.length_replicate, List.length_set, List.length_map, List.length_cons, List.length_nil]; omega))) fun a S => ?_)
        refine wl_of (op_store1 _ (_) (wn rfl) rfl rfl S H rfl rfl rfl rfl Fsiz3 (by first | assumption | omega | (simp only [List.length_append, List.length_take, List.length_drop, List.length_replicate, List.length_set, List.length_map, List.length_cons, List.length_nil]; omega)) (by exact rfl) fun a w S H => ?_)
        refine gl_nil ?_
        refine n_block ?_
        refine n_then ?_
        -- region 14 match.go:30
        refine g_region ?_
        refine wl_of (op_y (wn rfl) rfl rfl S (y_add rfl S rfl rfl (by omega)) fun a S => ?_)
        refine wl_of (op_y (wn rfl) rfl rfl S (y_move rfl S rfl) fun a S => ?_)
        refine gl_nil ?_
        refine n_then ?_
        rw [fill_step (by omega)] at H
        exact ⟨k + 1, S.nil.cons S 42 rfl, (((((((S.nil.cons S 1 rfl).cons S 2 rfl).cons S 4 rfl).cons S 5 rfl).cons S 6 rfl).cons S 7 rfl).cons S 8 rfl).cons S 41 rfl, ⟨by omega, H⟩, by omega⟩
      · have h3p := h3; try simp only [Option.isNone_some, Option.isNone_none, Option.isSome_some, Option.isSome_none, false_or, or_false, true_and, and_true, decide_eq_true_eq, decide_eq_false_iff_not, Bool.or_eq_true, Bool.and_eq_true, Bool.or_eq_false_iff, Bool.and_eq_false_iff, Bool.not_eq_true', Bool.not_eq_false', bne_iff_ne, beq_iff_eq, beq_eq_false_iff_ne, bne_eq_false_iff_eq, ne_eq, Decidable.not_not, Int.not_lt, Int.not_le, gt_iff_lt, ge_iff_le, Bool.true_eq_false, Bool.false_eq_true, not_true_eq_false, not_false_eq_true] at h3p
        obtain rfl : r = k := by omega
        rw [fill_end] at H
        refine g_exit ?_
        refine x_then (x_then (x_eq ?_))
        refine n_then ?_
        refine g_seq ?_
        -- region 15 match.go:34
        refine g_region ?_
        refine wl_of (op_alloc (wn rfl) rfl rfl rfl S H Fzer47 fun b11 a w S H => ?_)
        refine gl_nil ?_
        refine n_then ?_
        refine g_seq ?_
        -- region 16 match.go:35
        refine g_region ?_
        refine wl_of (op_y (wn rfl) rfl rfl S (y_makeFunc rfl S rfl rfl) fun a S => ?_)
        refine wl_of (op_store (wn rfl) rfl rfl S H rfl rfl rfl Fsiz47 rfl fun a w S H => ?_)
        dsimp only [List.set, Nat.zero_add, Nat.reduceAdd] at H
        refine gl_nil ?_
        refine n_then ?_
        have S := (((((((S.nil.cons S 1 rfl).cons S 2 rfl).cons S 4 rfl).cons S 5 rfl).cons S 6 rfl).cons S 7 rfl).cons S 8 rfl).cons S 11 rfl
        refine g_seq ?_
        refine g_seq ?_
        -- region 17 match.go:48
        refine g_region ?_
        refine wl_of (op_y (wn rfl) rfl rfl S (y_load rfl Fsca22 S H rfl rfl) fun a S => ?_)
        refine wl_of (op_y (wn rfl) rfl rfl S (y_lens rfl Try.underlying22 S H rfl) fun a S => ?_)
        refine wl_of (op_y (wn rfl) rfl rfl S (y_move rfl S rfl) fun a S => ?_)
        refine gl_nil ?_
        refine n_then ?_
        refine g_block ?_
        have H := (H.front (Cel b11 47 [.func (.func 30) #[] #[.pointer (some ⟨b2, 0, none⟩), .pointer (some ⟨b8, 0, none⟩), .pointer (some ⟨b11, 0, none⟩), .pointer (some ⟨b7, 0, none⟩)]])).freeze
        have H := (H.front (Cel b8 23 [(.slice (some ⟨b30, 0, none⟩) r r)])).freeze
        have H := (H.front (Cel b7 23 [(.slice (some ⟨b28, 0, none⟩) ps.length ps.length)])).freeze
        have H := (H.front (Cel b2 22 [v])).freeze
        
        have SU := ((((((((S.nil.cons S 1 rfl).cons S 2 rfl).cons S 4 rfl).cons S 5 rfl).cons S 6 rfl).cons S 7 rfl).cons S 8 rfl).cons S 11 rfl).cons S 51 rfl
        refine loopW (X := Nat) SU (fun k => [(52, .int .i64 (k : Int))]) (fun k w => k ≤ ps.length ∧ HSat No w0 [OSl 3 (.slice (some ⟨b30, 0, none⟩) r r) 1 encI (augAll (gr ps) r k).1, OSl 3 (.slice (some ⟨b28, 0, none⟩) ps.length ps.length) 1 encI (augAll (gr ps) r k).2, Atom.ro (Cel b8 23 [(.slice (some ⟨b30, 0, none⟩) r r)]), Atom.ro (Cel b7 23 [(.slice (some ⟨b28, 0, none⟩) ps.length ps.length)]), Atom.ro (Cel b2 22 [v]), Atom.ro (Cel b11 47 [.func (.func 30) #[] #[.pointer (some ⟨b2, 0, none⟩), .pointer (some ⟨b8, 0, none⟩), .pointer (some ⟨b11, 0, none⟩), .pointer (some ⟨b7, 0, none⟩)]]), RowsS 1 encI ps, Sl v 1 encRow ps, Cel b5 25 [.slice none 0 0, .slice none 0 0]] w) (fun k => ps.length - k) 0 (S.nil.cons S 52 rfl) (⟨by omega, by rw [augAll_zero, gr_len]; exact H.take [OSl 3 (.slice (some ⟨b30, 0, none⟩) r r) 1 encI (List.replicate r (-1)), OSl 3 (.slice (some ⟨b28, 0, none⟩) ps.length ps.length) 1 encI (List.replicate ps.length (-1)), Atom.ro (Cel b8 23 [(.slice (some ⟨b30, 0, none⟩) r r)]), Atom.ro (Cel b7 23 [(.slice (some ⟨b28, 0, none⟩) ps.length ps.length)]), Atom.ro (Cel b2 22 [v]), Atom.ro (Cel b11 47 [.func (.func 30) #[] #[.pointer (some ⟨b2, 0, none⟩), .pointer (some ⟨b8, 0, none⟩), .pointer (some ⟨b11, 0, none⟩), .pointer (some ⟨b7, 0, none⟩)]]), RowsS 1 encI ps, Sl v 1 encRow ps, Cel b5 25 [.slice none 0 0, .slice none 0 0]]⟩) (fun k a w S hW => ?_)
        simp only [List.cons_append, List.nil_append] at S
        obtain ⟨hk, H⟩ := hW
        refine g_seq ?_
        -- region 18 match.go:48
        refine g_region ?_
        refine wl_of (op_y (wn rfl) rfl rfl S (y_bin rfl S rfl rfl rfl) fun a S => ?_)
        refine gl_nil ?_
        refine n_then ?_
        refine g_seq ?_
        -- cond 4
        refine c_if S rfl (fun h4 => ?_) (fun h4 => ?_)
        · have h4p := h4; try simp only [Option.isNone_some, Option.isNone_none, Option.isSome_some, Option.isSome_none, false_or, or_false, true_and, and_true, decide_eq_true_eq, decide_eq_false_iff_not, Bool.or_eq_true, Bool.and_eq_true, Bool.or_eq_false_iff, Bool.and_eq_false_iff, Bool.not_eq_true', Bool.not_eq_false', bne_iff_ne, beq_iff_eq, beq_eq_false_iff_ne, bne_eq_false_iff_eq, ne_eq, Decidable.not_not, Int.not_lt, Int.not_le, gt_iff_lt, ge_iff_le, Bool.true_eq_false, Bool.false_eq_true, not_true_eq_false, not_false_eq_true] at h4p
          refine g_skip ?_
          refine n_then ?_
          refine g_seq ?_
          refine g_block ?_
          refine g_seq ?_
          -- region 19 match.go:48
          refine g_region ?_
          refine wl_of (op_y (wn rfl) rfl rfl S (y_move rfl S rfl) fun a S => ?_)
          refine wl_of (op_y (wn rfl) rfl rfl S (y_assign rfl S rfl) fun a S => ?_)
          refine gl_nil ?_
          refine n_then ?_
          -- region 20 match.go:49
          refine g_region ?_
          refine wl_of (op_y (wn rfl) rfl rfl S (y_load rfl Fsca47 S H rfl rfl) fun a S => ?_)
          refine wl_of (op_y (wn rfl) rfl rfl S (y_move rfl S rfl) fun a S => ?_)
          refine wl_of (op_makeMap (fun n : Int => .int .i64 n) (fun b : Bool => .bool b) (wn rfl) rfl rfl rfl S H fun b57 a w S H => ?_)
          have H : HSat No w0 (MapA b57 (fun n : Int => .int .i64 n) (fun b : Bool => .bool b) (memS ([])) 0 :: _) _ := H
          have hI := allInv hvg k (by omega)
          refine wl_of (op_call (wn rfl) rfl rfl S (co_value rfl Try.call30 S rfl rfl) (aug_spec r v (.slice (some ⟨b30, 0, none⟩) r r) (.slice (some ⟨b28, 0, none⟩) ps.length ps.length) ps b2 b8 b11 b7 b57 hvg (fuelG r) k ⟨[], (augAll (gr ps) r k).1, (augAll (gr ps) r k).2⟩ 0 _ (by omega) hI.wf (by simp [fuelG]) (H.take [MapA b57 (fun n : Int => .int .i64 n) (fun b : Bool => .bool b) (memS ([])) 0, OSl 3 (.slice (some ⟨b30, 0, none⟩) r r) 1 encI ((augAll (gr ps) r k).1), OSl 3 (.slice (some ⟨b28, 0, none⟩) ps.length ps.length) 1 encI ((augAll (gr ps) r k).2), Atom.ro (Cel b8 23 [(.slice (some ⟨b30, 0, none⟩) r r)]), Atom.ro (Cel b7 23 [(.slice (some ⟨b28, 0, none⟩) ps.length ps.length)]), Atom.ro (Cel b2 22 [v]), Atom.ro (Cel b11 47 [.func (.func 30) #[] #[.pointer (some ⟨b2, 0, none⟩), .pointer (some ⟨b8, 0, none⟩), .pointer (some ⟨b11, 0, none⟩), .pointer (some ⟨b7, 0, none⟩)]]), RowsS 1 encI ps, Sl v 1 encRow ps, Cel b5 25 [.slice none 0 0, .slice none 0 0]])) fun v w hc a S => ?_)
          obtain ⟨rfl, c2, H⟩ := hc
          
          refine gl_nil ?_
          refine n_block ?_
          refine n_then ?_
          -- region 21 match.go:48
          refine g_region ?_
          refine wl_of (op_y (wn rfl) rfl rfl S (y_add rfl S rfl rfl (by omega)) fun a S => ?_)
          refine wl_of (op_y (wn rfl) rfl rfl S (y_move rfl S rfl) fun a S => ?_)
          refine gl_nil ?_
          refine n_then ?_
          exact ⟨k + 1, S.nil.cons S 52 rfl, ((((((((S.nil.cons S 1 rfl).cons S 2 rfl).cons S 4 rfl).cons S 5 rfl).cons S 6 rfl).cons S 7 rfl).cons S 8 rfl).cons S 11 rfl).cons S 51 rfl, ⟨by omega, H.take [OSl 3 (.slice (some ⟨b30, 0, none⟩) r r) 1 encI (aug (gr ps) (fuelG r) k ⟨[], (augAll (gr ps) r k).1, (augAll (gr ps) r k).2⟩).2.owner, OSl 3 (.slice (some ⟨b28, 0, none⟩) ps.length ps.length) 1 encI (aug (gr ps) (fuelG r) k ⟨[], (augAll (gr ps) r k).1, (augAll (gr ps) r k).2⟩).2.got, Atom.ro (Cel b8 23 [(.slice (some ⟨b30, 0, none⟩) r r)]), Atom.ro (Cel b7 23 [(.slice (some ⟨b28, 0, none⟩) ps.length ps.length)]), Atom.ro (Cel b2 22 [v]), Atom.ro (Cel b11 47 [.func (.func 30) #[] #[.pointer (some ⟨b2, 0, none⟩), .pointer (some ⟨b8, 0, none⟩), .pointer (some ⟨b11, 0, none⟩), .pointer (some ⟨b7, 0, none⟩)]]), RowsS 1 encI ps, Sl v 1 encRow ps, Cel b5 25 [.slice none 0 0, .slice none 0 0]]⟩, by omega⟩
        · have h4p := h4; try simp only [Option.isNone_some, Option.isNone_none, Option.isSome_some, Option.isSome_none, false_or, or_false, true_and, and_true, decide_eq_true_eq, decide_eq_false_iff_not, Bool.or_eq_true, Bool.and_eq_true, Bool.or_eq_false_iff, Bool.and_eq_false_iff, Bool.not_eq_true', Bool.not_eq_false', bne_iff_ne, beq_iff_eq, beq_eq_false_iff_ne, bne_eq_false_iff_eq, ne_eq, Decidable.not_not, Int.not_lt, Int.not_le, gt_iff_lt, ge_iff_le, Bool.true_eq_false, Bool.false_eq_true, not_true_eq_false, not_false_eq_true] at h4p
          obtain rfl : k = ps.length := by omega
          have e1 : (augAll (gr ps) r ps.length).1 = (ownL (gr ps) r) := by rw [ownL, gr_len]
          have e2 : (augAll (gr ps) r ps.length).2 = (gotL (gr ps) r) := by rw [gotL, gr_len]
          rw [e1, e2] at H
          have hI := allInv hvg (gr ps).length (Nat.le_refl _)
          obtain ⟨D, hD1, hD2, hD3⟩ := hI.dead
          have hol : (ownL (gr ps) r).length = (r : Int).toNat := hI.wf.lo
          have hog : (gotL (gr ps) r).length = (gr ps).length := hI.wf.lg
          have hown : ∀ n : Nat, atI (ownL (gr ps) r) n < (gr ps).length := fun n => (hI.wf.own n).2
          have hlow : ∀ j, -1 ≤ atI (gotL (gr ps) r) j := hI.low
          have hfree : ∀ j, j < (gr ps).length → atI (gotL (gr ps) r) j < 0 → ∀ n ∈ rowG (gr ps) j, D n := fun j hj hg => hD3 j hj (by have := hlow j; have hg : atI (augAll (gr ps) r (gr ps).length).2 j < 0 := hg; have : -1 ≤ atI (augAll (gr ps) r (gr ps).length).2 j := this; omega)
          refine g_exit ?_
          refine x_then (x_then (x_eq ?_))
          refine n_then ?_
          have S := ((((((S.nil.cons S 1 rfl).cons S 2 rfl).cons S 4 rfl).cons S 5 rfl).cons S 6 rfl).cons S 7 rfl).cons S 8 rfl
          refine g_seq ?_
          -- region 22 match.go:52
          refine g_region ?_
          refine wl_of (op_makeMap (fun n : Int => .int .i64 n) (fun b : Bool => .bool b) (wn rfl) rfl rfl rfl S H fun b60 a w S H => ?_)
          refine wl_of (op_makeMap (fun n : Int => .int .i64 n) (fun b : Bool => .bool b) (wn rfl) rfl rfl rfl S H fun b61 a w S H => ?_)
          refine wl_of (op_alloc (wn rfl) rfl rfl rfl S H Fzer44 fun b13 a w S H => ?_)
          refine wl_of (op_alloc (wn rfl) rfl rfl rfl S H Fzer44 fun b14 a w S H => ?_)
          refine wl_of (op_store (wn rfl) rfl rfl S H rfl rfl rfl Fsiz44 rfl fun a w S H => ?_)
          dsimp only [List.set, Nat.zero_add, Nat.reduceAdd] at H
          refine wl_of (op_store (wn rfl) rfl rfl S H rfl rfl rfl Fsiz44 rfl fun a w S H => ?_)
          dsimp only [List.set, Nat.zero_add, Nat.reduceAdd] at H
          refine gl_nil ?_
          refine n_then ?_
          refine g_seq ?_
          -- region 23 match.go:53
          refine g_region ?_
          refine wl_of (op_alloc (wn rfl) rfl rfl rfl S H Fzer48 fun b15 a w S H => ?_)
          refine gl_nil ?_
          refine n_then ?_
          refine g_seq ?_
          -- region 24 match.go:54
          refine g_region ?_
          refine wl_of (op_y (wn rfl) rfl rfl S (y_makeFunc rfl S rfl rfl) fun a S => ?_)
          refine wl_of (op_store (wn rfl) rfl rfl S H rfl rfl rfl Fsiz48 rfl fun a w S H => ?_)
          dsimp only [List.set, Nat.zero_add, Nat.reduceAdd] at H
          refine gl_nil ?_
          refine n_then ?_
          have S := ((((((((S.nil.cons S 1 rfl).cons S 2 rfl).cons S 4 rfl).cons S 5 rfl).cons S 6 rfl).cons S 7 rfl).cons S 13 rfl).cons S 14 rfl).cons S 15 rfl
          refine g_seq ?_
          refine g_seq ?_
          -- region 25 match.go:66
          refine g_region ?_
          refine wl_of (op_y (wn rfl) rfl rfl S (y_load rfl Fsca23 S H rfl rfl) fun a S => ?_)
          refine wl_of (op_y (wn rfl) rfl rfl S (y_lens rfl Try.underlying23 S H rfl) fun a S => ?_)
          refine wl_of (op_y (wn rfl) rfl rfl S (y_move rfl S rfl) fun a S => ?_)
          refine gl_nil ?_
          refine n_then ?_
          refine g_block ?_
          have H := (H.front (Cel b13 44 [.map (some b60)])).freeze
          have H := (H.front (Cel b14 44 [.map (some b61)])).freeze
          have H := (H.front (Cel b15 48 [.func (.func 31) #[] #[.pointer (some ⟨b13, 0, none⟩), .pointer (some ⟨b2, 0, none⟩), .pointer (some ⟨b14, 0, none⟩), .pointer (some ⟨b15, 0, none⟩), .pointer (some ⟨b8, 0, none⟩)]])).freeze
          have H := (H.front (OSl 3 (.slice (some ⟨b30, 0, none⟩) r r) 1 encI (ownL (gr ps) r))).freeze
          have H := H.take [MapA b60 (fun n : Int => .int .i64 n) (fun b : Bool => .bool b) (fun _ => none) 0, MapA b61 (fun n : Int => .int .i64 n) (fun b : Bool => .bool b) (fun _ => none) 0, Atom.ro (Cel b13 44 [.map (some b60)]), Atom.ro (Cel b2 22 [v]), Atom.ro (Cel b14 44 [.map (some b61)]), Atom.ro (Cel b15 48 [.func (.func 31) #[] #[.pointer (some ⟨b13, 0, none⟩), .pointer (some ⟨b2, 0, none⟩), .pointer (some ⟨b14, 0, none⟩), .pointer (some ⟨b15, 0, none⟩), .pointer (some ⟨b8, 0, none⟩)]]), Atom.ro (Cel b8 23 [(.slice (some ⟨b30, 0, none⟩) r r)]), Atom.ro (OSl 3 (.slice (some ⟨b30, 0, none⟩) r r) 1 encI (ownL (gr ps) r)), RowsS 1 encI ps, Sl v 1 encRow ps, OSl 3 (.slice (some ⟨b28, 0, none⟩) ps.length ps.length) 1 encI (gotL (gr ps) r), Atom.ro (Cel b7 23 [(.slice (some ⟨b28, 0, none⟩) ps.length ps.length)]), Cel b5 25 [.slice none 0 0, .slice none 0 0]]
          have SU := ((((((((((S.nil.cons S 1 rfl).cons S 2 rfl).cons S 4 rfl).cons S 5 rfl).cons S 6 rfl).cons S 7 rfl).cons S 13 rfl).cons S 14 rfl).cons S 15 rfl).cons S 63 rfl).cons S 64 rfl
          refine loopW (X := Nat) SU (fun k => [(65, .int .i64 (k : Int))]) (fun k w => k ≤ ps.length ∧ ∃ c1 c2, HSat No w0 [MapA b60 (fun n : Int => .int .i64 n) (fun b : Bool => .bool b) (memS ((reachAll (gr ps) r (ownL (gr ps) r) (gotL (gr ps) r) k).left)) c1, MapA b61 (fun n : Int => .int .i64 n) (fun b : Bool => .bool b) (memS ((reachAll (gr ps) r (ownL (gr ps) r) (gotL (gr ps) r) k).reached)) c2, Atom.ro (Cel b13 44 [.map (some b60)]), Atom.ro (Cel b2 22 [v]), Atom.ro (Cel b14 44 [.map (some b61)]), Atom.ro (Cel b15 48 [.func (.func 31) #[] #[.pointer (some ⟨b13, 0, none⟩), .pointer (some ⟨b2, 0, none⟩), .pointer (some ⟨b14, 0, none⟩), .pointer (some ⟨b15, 0, none⟩), .pointer (some ⟨b8, 0, none⟩)]]), Atom.ro (Cel b8 23 [(.slice (some ⟨b30, 0, none⟩) r r)]), Atom.ro (OSl 3 (.slice (some ⟨b30, 0, none⟩) r r) 1 encI (ownL (gr ps) r)), RowsS 1 encI ps, Sl v 1 encRow ps, OSl 3 (.slice (some ⟨b28, 0, none⟩) ps.length ps.length) 1 encI (gotL (gr ps) r), Atom.ro (Cel b7 23 [(.slice (some ⟨b28, 0, none⟩) ps.length ps.length)]), Cel b5 25 [.slice none 0 0, .slice none 0 0]] w) (fun k => ps.length - k) 0 (S.nil.cons S 65 rfl) (⟨by omega, 0, 0, H⟩) (fun k a w S hW => ?_)
          simp only [List.cons_append, List.nil_append] at S
          obtain ⟨hk, c1, c2, H⟩ := hW
          refine g_seq ?_
          -- region 26 match.go:66
          refine g_region ?_
          refine wl_of (op_y (wn rfl) rfl rfl S (y_bin rfl S rfl rfl rfl) fun a S => ?_)
          refine gl_nil ?_
          refine n_then ?_
          refine g_seq ?_
          -- cond 5
          refine c_if S rfl (fun h5 => ?_) (fun h5 => ?_)
          · have h5p := h5; try simp only [Option.isNone_some, Option.isNone_none, Option.isSome_some, Option.isSome_none, false_or, or_false, true_and, and_true, decide_eq_true_eq, decide_eq_false_iff_not, Bool.or_eq_true, Bool.and_eq_true, Bool.or_eq_false_iff, Bool.and_eq_false_iff, Bool.not_eq_true', Bool.not_eq_false', bne_iff_ne, beq_iff_eq, beq_eq_false_iff_ne, bne_eq_false_iff_eq, ne_eq, Decidable.not_not, Int.not_lt, Int.not_le, gt_iff_lt, ge_iff_le, Bool.true_eq_false, Bool.false_eq_true, not_true_eq_false, not_false_eq_true] at h5p
            have hkg : k < (gotL (gr ps) r).length := by omega
            have hatk := atI_eq hkg
            have hRk := reachAll_inv hD1 hD2 hown hfree k (by omega)
            refine g_skip ?_
            refine n_then ?_
            refine g_seq ?_
            refine g_block ?_
            refine g_seq ?_
            -- region 27 match.go:66
            refine g_region ?_
            refine wl_of (op_y (wn rfl) rfl rfl S (y_move rfl S rfl) fun a S => ?_)
            refine wl_of (op_y (wn rfl) rfl rfl S (y_iaddrn rfl Try.underlying23 Fsiz3 S H rfl rfl (by first | assumption | omega | (simp only [List.length_append, List.length_take, List.length_drop, List.length_replicate, List.length_set, List.length_map, List.length_cons, List.length_nil]; omega))) fun a S => ?_)
            refine wl_of (op_y (wn rfl) rfl rfl S (y_loads _ rfl Fsca3 S H rfl (by first | assumption | omega | (simp only [List.length_append, List.length_take, List.length_drop, List.length_replicate, List.length_set, List.length_map, List.length_cons, List.length_nil]; omega)) rfl) fun a S => ?_)
            refine wl_of (op_y (wn rfl) rfl rfl S (y_assign rfl S rfl) fun a S => ?_)
            refine wl_of (op_y (wn rfl) rfl rfl S (y_assign rfl S rfl) fun a S => ?_)
            refine gl_nil ?_
            refine n_then ?_
            refine g_seq ?_
            -- region 28 match.go:67
            refine g_region ?_
            refine wl_of (op_y (wn rfl) rfl rfl S (y_move rfl S rfl) fun a S => ?_)
            refine wl_of (op_y (wn rfl) rfl rfl S (y_bin rfl S rfl rfl rfl) fun a S => ?_)
            refine gl_nil ?_
            refine n_then ?_
            -- cond 6 (both ways go on)
            refine c_if S rfl (fun h6 => ?_) (fun h6 => ?_)
            · have h6p := h6; try simp only [Option.isNone_some, Option.isNone_none, Option.isSome_some, Option.isSome_none, false_or, or_false, true_and, and_true, decide_eq_true_eq, decide_eq_false_iff_not, Bool.or_eq_true, Bool.and_eq_true, Bool.or_eq_false_iff, Bool.and_eq_false_iff, Bool.not_eq_true', Bool.not_eq_false', bne_iff_ne, beq_iff_eq, beq_eq_false_iff_ne, bne_eq_false_iff_eq, ne_eq, Decidable.not_not, Int.not_lt, Int.not_le, gt_iff_lt, ge_iff_le, Bool.true_eq_false, Bool.false_eq_true, not_true_eq_false, not_false_eq_true] at h6p
              have hneg : atI (gotL (gr ps) r) k < 0 := by rw [hatk]; exact h6p
              -- region 29 match.go:68
              refine g_region ?_
              refine wl_of (op_y (wn rfl) rfl rfl S (y_load rfl Fsca48 S H rfl rfl) fun a S => ?_)
              refine wl_of (op_y (wn rfl) rfl rfl S (y_move rfl S rfl) fun a S => ?_)
              refine wl_of (op_call (wn rfl) rfl rfl S (co_value rfl Try.call31 S rfl rfl) (reach_spec r D v (.slice (some ⟨b30, 0, none⟩) r r) ps (ownL (gr ps) r) b13 b2 b14 b15 b8 b60 b61 hvg hol hD1 hD2 hown (fuelG r) k (reachAll (gr ps) r (ownL (gr ps) r) (gotL (gr ps) r) k) c1 c2 _ (by omega) (hfree k (by omega) hneg) hRk.wf hRk.inD (by simp [fuelG]; omega) H) fun v w hc a S => ?_)
              obtain ⟨rfl, c3, c4, H⟩ := hc
              
              refine gl_nil ?_
              refine n_block ?_
              refine n_then ?_
              -- region 30 match.go:66
              refine g_region ?_
              refine wl_of (op_y (wn rfl) rfl rfl S (y_add rfl S rfl rfl (by omega)) fun a S => ?_)
              refine wl_of (op_y (wn rfl) rfl rfl S (y_move rfl S rfl) fun a S => ?_)
              refine gl_nil ?_
              refine n_then ?_
              first
              | exact ⟨k + 1, S.nil.cons S 65 rfl, ((((((((((S.nil.cons S 1 rfl).cons S 2 rfl).cons S 4 rfl).cons S 5 rfl).cons S 6 rfl).cons S 7 rfl).cons S 13 rfl).cons S 14 rfl).cons S 15 rfl).cons S 63 rfl).cons S 64 rfl, ⟨by omega, c3, c4, by rw [reachAll, if_pos hneg]; exact H⟩, by omega⟩
              | exact ⟨k + 1, S.nil.cons S 65 rfl, ((((((((((S.nil.cons S 1 rfl).cons S 2 rfl).cons S 4 rfl).cons S 5 rfl).cons S 6 rfl).cons S 7 rfl).cons S 13 rfl).cons S 14 rfl).cons S 15 rfl).cons S 63 rfl).cons S 64 rfl, ⟨by omega, c1, c2, by rw [reachAll, if_neg hneg]; exact H⟩, by omega⟩
            · have h6p := h6; try simp only [Option.isNone_some, Option.isNone_none, Option.isSome_some, Option.isSome_none, false_or, or_false, true_and, and_true, decide_eq_true_eq, decide_eq_false_iff_not, Bool.or_eq_true, Bool.and_eq_true, Bool.or_eq_false_iff, Bool.and_eq_false_iff, Bool.not_eq_true', Bool.not_eq_false', bne_iff_ne, beq_iff_eq, beq_eq_false_iff_ne, bne_eq_false_iff_eq, ne_eq, Decidable.not_not, Int.not_lt, Int.not_le, gt_iff_lt, ge_iff_le, Bool.true_eq_false, Bool.false_eq_true, not_true_eq_false, not_false_eq_true] at h6p
              have hneg : ¬ atI (gotL (gr ps) r) k < 0 := by rw [hatk]; have := h6p; omega
              refine g_skip ?_
              refine n_block ?_
              refine n_then ?_
              -- region 30 match.go:66
              refine g_region ?_
              refine wl_of (op_y (wn rfl) rfl rfl S (y_add rfl S rfl rfl (by omega)) fun a S => ?_)
              refine wl_of (op_y (wn rfl) rfl rfl S (y_move rfl S rfl) fun a S => ?_)
              refine gl_nil ?_
              refine n_then ?_
              first
              | exact ⟨k + 1, S.nil.cons S 65 rfl, ((((((((((S.nil.cons S 1 rfl).cons S 2 rfl).cons S 4 rfl).cons S 5 rfl).cons S 6 rfl).cons S 7 rfl).cons S 13 rfl).cons S 14 rfl).cons S 15 rfl).cons S 63 rfl).cons S 64 rfl, ⟨by omega, c3, c4, by rw [reachAll, if_pos hneg]; exact H⟩, by omega⟩
              | exact ⟨k + 1, S.nil.cons S 65 rfl, ((((((((((S.nil.cons S 1 rfl).cons S 2 rfl).cons S 4 rfl).cons S 5 rfl).cons S 6 rfl).cons S 7 rfl).cons S 13 rfl).cons S 14 rfl).cons S 15 rfl).cons S 63 rfl).cons S 64 rfl, ⟨by omega, c1, c2, by rw [reachAll, if_neg hneg]; exact H⟩, by omega⟩
          · have h5p := h5; try simp only [Option.isNone_some, Option.isNone_none, Option.isSome_some, Option.isSome_none, false_or, or_false, true_and, and_true, decide_eq_true_eq, decide_eq_false_iff_not, Bool.or_eq_true, Bool.and_eq_true, Bool.or_eq_false_iff, Bool.and_eq_false_iff, Bool.not_eq_true', Bool.not_eq_false', bne_iff_ne, beq_iff_eq, beq_eq_false_iff_ne, bne_eq_false_iff_eq, ne_eq, Decidable.not_not, Int.not_lt, Int.not_le, gt_iff_lt, ge_iff_le, Bool.true_eq_false, Bool.false_eq_true, not_true_eq_false, not_false_eq_true] at h5p
            obtain rfl : k = ps.length := by omega
            obtain ⟨rs, hrs⟩ : ∃ rs, rs = rsL (gr ps) r := ⟨_, rfl⟩
            have e3 : (reachAll (gr ps) r (ownL (gr ps) r) (gotL (gr ps) r) ps.length) = rs := by rw [hrs, rsL, gr_len]
            rw [e3] at H
            refine g_exit ?_
            refine x_then (x_then (x_eq ?_))
            refine n_then ?_
            have S := (((((((S.nil.cons S 1 rfl).cons S 2 rfl).cons S 4 rfl).cons S 5 rfl).cons S 6 rfl).cons S 7 rfl).cons S 13 rfl).cons S 14 rfl
            refine g_seq ?_
            -- region 31 match.go:71
            refine g_region ?_
            refine wl_of (op_alloc (wn rfl) rfl rfl rfl S H Fzer25 fun b18 a w S H => ?_)
            refine gl_nil ?_
            refine n_then ?_
            refine g_seq ?_
            refine g_seq ?_
            -- region 32 match.go:72
            refine g_region ?_
            refine wl_of (op_y (wn rfl) rfl rfl S (y_load rfl Fsca22 S H rfl rfl) fun a S => ?_)
            refine wl_of (op_y (wn rfl) rfl rfl S (y_lens rfl Try.underlying22 S H rfl) fun a S => ?_)
            refine wl_of (op_y (wn rfl) rfl rfl S (y_move rfl S rfl) fun a S => ?_)
            refine gl_nil ?_
            refine n_then ?_
            refine g_block ?_
            have H := H.nilO 3 1 encI
            have SU := ((((((((S.nil.cons S 1 rfl).cons S 4 rfl).cons S 5 rfl).cons S 6 rfl).cons S 7 rfl).cons S 13 rfl).cons S 14 rfl).cons S 18 rfl).cons S 77 rfl
            refine loopW (X := Nat) SU (fun k => [(78, .int .i64 (k : Int))]) (fun k w => k ≤ ps.length ∧ ∃ vl, HSat No w0 [Cel b18 25 [vl, .slice none 0 0], OSl 3 (vl) 1 encI (coverLeft (gr ps) rs k), Atom.ro (Cel b13 44 [.map (some b60)]), Atom.ro (Cel b14 44 [.map (some b61)]), MapA b60 (fun n : Int => .int .i64 n) (fun b : Bool => .bool b) (memS (rs.left)) c1, MapA b61 (fun n : Int => .int .i64 n) (fun b : Bool => .bool b) (memS (rs.reached)) c2, OSl 3 (.slice (some ⟨b28, 0, none⟩) ps.length ps.length) 1 encI (gotL (gr ps) r), Atom.ro (Cel b7 23 [(.slice (some ⟨b28, 0, none⟩) ps.length ps.length)]), Cel b5 25 [.slice none 0 0, .slice none 0 0], Atom.ro (Cel b2 22 [v]), RowsS 1 encI ps, Sl v 1 encRow ps] w) (fun k => ps.length - k) 0 (S.nil.cons S 78 rfl) (⟨by omega, .slice none 0 0, H.take [Cel b18 25 [.slice none 0 0, .slice none 0 0], OSl 3 (.slice none 0 0) 1 encI [], Atom.ro (Cel b13 44 [.map (some b60)]), Atom.ro (Cel b14 44 [.map (some b61)]), MapA b60 (fun n : Int => .int .i64 n) (fun b : Bool => .bool b) (memS (rs.left)) c1, MapA b61 (fun n : Int => .int .i64 n) (fun b : Bool => .bool b) (memS (rs.reached)) c2, OSl 3 (.slice (some ⟨b28, 0, none⟩) ps.length ps.length) 1 encI (gotL (gr ps) r), Atom.ro (Cel b7 23 [(.slice (some ⟨b28, 0, none⟩) ps.length ps.length)]), Cel b5 25 [.slice none 0 0, .slice none 0 0], Atom.ro (Cel b2 22 [v]), RowsS 1 encI ps, Sl v 1 encRow ps]⟩) (fun k a w S hW => ?_)
            simp only [List.cons_append, List.nil_append] at S
            obtain ⟨hk, vl, H⟩ := hW
            have hcl := coverLeft_len (gr ps) rs k
            refine g_seq ?_
            -- region 33 match.go:72
            refine g_region ?_
            refine wl_of (op_y (wn rfl) rfl rfl S (y_bin rfl S rfl rfl rfl) fun a S => ?_)
            refine gl_nil ?_
            refine n_then ?_
            refine g_seq ?_
            -- cond 7
            refine c_if S rfl (fun h7 => ?_) (fun h7 => ?_)
            · have h7p := h7; try simp only [Option.isNone_some, Option.isNone_none, Option.isSome_some, Option.isSome_none, false_or, or_false, true_and, and_true, decide_eq_true_eq, decide_eq_false_iff_not, Bool.or_eq_true, Bool.and_eq_true, Bool.or_eq_false_iff, Bool.and_eq_false_iff, Bool.not_eq_true', Bool.not_eq_false', bne_iff_ne, beq_iff_eq, beq_eq_false_iff_ne, bne_eq_false_iff_eq, ne_eq, Decidable.not_not, Int.not_lt, Int.not_le, gt_iff_lt, ge_iff_le, Bool.true_eq_false, Bool.false_eq_true, not_true_eq_false, not_false_eq_true] at h7p
              refine g_skip ?_
              refine n_then ?_
              refine g_seq ?_
              refine g_block ?_
              refine g_seq ?_
              -- region 34 match.go:72
              refine g_region ?_
              refine wl_of (op_y (wn rfl) rfl rfl S (y_move rfl S rfl) fun a S => ?_)
              refine wl_of (op_y (wn rfl) rfl rfl S (y_assign rfl S rfl) fun a S => ?_)
              refine gl_nil ?_
              refine n_then ?_
              refine g_seq ?_
              -- region 35 match.go:73
              refine g_region ?_
              refine wl_of (op_y (wn rfl) rfl rfl S (y_load rfl Fsca44 S H rfl rfl) fun a S => ?_)
              refine wl_of (op_y (wn rfl) rfl rfl S (y_move rfl S rfl) fun a S => ?_)
              refine wl_of (op_y (wn rfl) rfl rfl S (y_lookup _ (false) rfl Try.underlying44 Finf4 S H rfl (keyOK_int Try.underlying3) (by exact rfl) (by exact rfl)) fun a S => ?_)
              refine wl_of (op_y (wn rfl) rfl rfl S (y_not rfl S rfl) fun a S => ?_)
              refine gl_nil ?_
              refine n_then ?_
              -- cond 8 (both ways go on)
              refine c_if S rfl (fun h8 => ?_) (fun h8 => ?_)
              · have h8p := h8; try simp only [Option.isNone_some, Option.isNone_none, Option.isSome_some, Option.isSome_none, false_or, or_false, true_and, and_true, decide_eq_true_eq, decide_eq_false_iff_not, Bool.or_eq_true, Bool.and_eq_true, Bool.or_eq_false_iff, Bool.and_eq_false_iff, Bool.not_eq_true', Bool.not_eq_false', bne_iff_ne, beq_iff_eq, beq_eq_false_iff_ne, bne_eq_false_iff_eq, ne_eq, Decidable.not_not, Int.not_lt, Int.not_le, gt_iff_lt, ge_iff_le, Bool.true_eq_false, Bool.false_eq_true, not_true_eq_false, not_false_eq_true] at h8p
                have hx : (k : Int) ∉ rs.left := by have := h8; rw [memS_get] at this; simpa using this
                -- region 36 match.go:74
                refine g_region ?_
                refine wl_of (op_y (wn rfl) rfl rfl S (y_faddrb rfl Ffo25_0 S rfl) fun a S => ?_)
                refine wl_of (op_y (wn rfl) rfl rfl S (y_load rfl Fsca23 S H rfl rfl) fun a S => ?_)
                refine wl_of (op_y (wn rfl) rfl rfl S (y_move rfl S rfl) fun a S => ?_)
                refine wl_of (op_buildSlice (wn rfl) rfl rfl rfl Try.underlying23 Finf3 S H (idx := [0]) rfl rfl rfl (z := [.int .i64 0]) (by kernel_rfl) (cs := [_]) rfl fun b88 a w S H => ?_)
                refine wl_of (op_append ([(k : Int)]) (wn rfl) rfl rfl rfl Try.underlying23 Finf3 rfl rfl S H rfl rfl rfl rfl (by simp) (by simp [encI]) (by simp [encI, Value.oneCell']) (by simp only [List.length_cons, List.length_nil]; omega) (by simp only [List.length_cons, List.length_nil]; omega) fun u89 a w hn89 S H => ?_)
                refine wl_of (op_y (wn rfl) rfl rfl S (y_faddrb rfl Ffo25_0 S rfl) fun a S => ?_)
                refine wl_of (op_store (wn rfl) rfl rfl S H rfl rfl (H.sl1 _) Fsiz23 rfl fun a w S H => ?_)
                dsimp only [List.set, Nat.zero_add, Nat.reduceAdd] at H
                refine gl_nil ?_
                refine n_block ?_
                refine n_then ?_
                -- region 37 match.go:72
                refine g_region ?_
                refine wl_of (op_y (wn rfl) rfl rfl S (y_add rfl S rfl rfl (by omega)) fun a S => ?_)
                refine wl_of (op_y (wn rfl) rfl rfl S (y_move rfl S rfl) fun a S => ?_)
                refine gl_nil ?_
                refine n_then ?_
                first
                | exact ⟨k + 1, S.nil.cons S 78 rfl, ((((((((S.nil.cons S 1 rfl).cons S 4 rfl).cons S 5 rfl).cons S 6 rfl).cons S 7 rfl).cons S 13 rfl).cons S 14 rfl).cons S 18 rfl).cons S 77 rfl, ⟨by omega, vl, by rw [coverLeft, if_pos hx]; exact H⟩, by omega⟩
                | exact ⟨k + 1, S.nil.cons S 78 rfl, ((((((((S.nil.cons S 1 rfl).cons S 4 rfl).cons S 5 rfl).cons S 6 rfl).cons S 7 rfl).cons S 13 rfl).cons S 14 rfl).cons S 18 rfl).cons S 77 rfl, ⟨by omega, u89, by rw [coverLeft, if_neg hx]; exact H.take [Cel b18 25 [u89, .slice none 0 0], OSl 3 u89 1 encI (coverLeft (gr ps) rs k ++ [(k : Int)]), Atom.ro (Cel b13 44 [.map (some b60)]), Atom.ro (Cel b14 44 [.map (some b61)]), MapA b60 (fun n : Int => .int .i64 n) (fun b : Bool => .bool b) (memS (rs.left)) c1, MapA b61 (fun n : Int => .int .i64 n) (fun b : Bool => .bool b) (memS (rs.reached)) c2, OSl 3 (.slice (some ⟨b28, 0, none⟩) ps.length ps.length) 1 encI (gotL (gr ps) r), Atom.ro (Cel b7 23 [(.slice (some ⟨b28, 0, none⟩) ps.length ps.length)]), Cel b5 25 [.slice none 0 0, .slice none 0 0], Atom.ro (Cel b2 22 [v]), RowsS 1 encI ps, Sl v 1 encRow ps]⟩, by omega⟩
              · have h8p := h8; try simp only [Option.isNone_some, Option.isNone_none, Option.isSome_some, Option.isSome_none, false_or, or_false, true_and, and_true, decide_eq_true_eq, decide_eq_false_iff_not, Bool.or_eq_true, Bool.and_eq_true, Bool.or_eq_false_iff, Bool.and_eq_false_iff, Bool.not_eq_true', Bool.not_eq_false', bne_iff_ne, beq_iff_eq, beq_eq_false_iff_ne, bne_eq_false_iff_eq, ne_eq, Decidable.not_not, Int.not_lt, Int.not_le, gt_iff_lt, ge_iff_le, Bool.true_eq_false, Bool.false_eq_true, not_true_eq_false, not_false_eq_true] at h8p
                have hx : (k : Int) ∈ rs.left := by have := h8; rw [memS_get] at this; simpa using this
                refine g_skip ?_
                refine n_block ?_
                refine n_then ?_
                -- region 37 match.go:72
                refine g_region ?_
                refine wl_of (op_y (wn rfl) rfl rfl S (y_add rfl S rfl rfl (by omega)) fun a S => ?_)
                refine wl_of (op_y (wn rfl) rfl rfl S (y_move rfl S rfl) fun a S => ?_)
                refine gl_nil ?_
                refine n_then ?_
                first
                | exact ⟨k + 1, S.nil.cons S 78 rfl, ((((((((S.nil.cons S 1 rfl).cons S 4 rfl).cons S 5 rfl).cons S 6 rfl).cons S 7 rfl).cons S 13 rfl).cons S 14 rfl).cons S 18 rfl).cons S 77 rfl, ⟨by omega, vl, by rw [coverLeft, if_pos hx]; exact H⟩, by omega⟩
                | exact ⟨k + 1, S.nil.cons S 78 rfl, ((((((((S.nil.cons S 1 rfl).cons S 4 rfl).cons S 5 rfl).cons S 6 rfl).cons S 7 rfl).cons S 13 rfl).cons S 14 rfl).cons S 18 rfl).cons S 77 rfl, ⟨by omega, u89, by rw [coverLeft, if_neg hx]; exact H.take [Cel b18 25 [u89, .slice none 0 0], OSl 3 u89 1 encI (coverLeft (gr ps) rs k ++ [(k : Int)]), Atom.ro (Cel b13 44 [.map (some b60)]), Atom.ro (Cel b14 44 [.map (some b61)]), MapA b60 (fun n : Int => .int .i64 n) (fun b : Bool => .bool b) (memS (rs.left)) c1, MapA b61 (fun n : Int => .int .i64 n) (fun b : Bool => .bool b) (memS (rs.reached)) c2, OSl 3 (.slice (some ⟨b28, 0, none⟩) ps.length ps.length) 1 encI (gotL (gr ps) r), Atom.ro (Cel b7 23 [(.slice (some ⟨b28, 0, none⟩) ps.length ps.length)]), Cel b5 25 [.slice none 0 0, .slice none 0 0], Atom.ro (Cel b2 22 [v]), RowsS 1 encI ps, Sl v 1 encRow ps]⟩, by omega⟩
            · have h7p := h7; try simp only [Option.isNone_some, Option.isNone_none, Option.isSome_some, Option.isSome_none, false_or, or_false, true_and, and_true, decide_eq_true_eq, decide_eq_false_iff_not, Bool.or_eq_true, Bool.and_eq_true, Bool.or_eq_false_iff, Bool.and_eq_false_iff, Bool.not_eq_true', Bool.not_eq_false', bne_iff_ne, beq_iff_eq, beq_eq_false_iff_ne, bne_eq_false_iff_eq, ne_eq, Decidable.not_not, Int.not_lt, Int.not_le, gt_iff_lt, ge_iff_le, Bool.true_eq_false, Bool.false_eq_true, not_true_eq_false, not_false_eq_true] at h7p
              obtain rfl : k = ps.length := by omega
              refine g_exit ?_
              refine x_then (x_then (x_eq ?_))
              refine n_then ?_
              have S := ((((((S.nil.cons S 1 rfl).cons S 4 rfl).cons S 5 rfl).cons S 6 rfl).cons S 7 rfl).cons S 14 rfl).cons S 18 rfl
              refine g_seq ?_
              refine g_seq ?_
              -- region 38 match.go:77
              refine g_region ?_
              refine wl_of (op_y (wn rfl) rfl rfl S (y_move rfl S rfl) fun a S => ?_)
              refine wl_of (op_y (wn rfl) rfl rfl S (y_move rfl S rfl) fun a S => ?_)
              refine gl_nil ?_
              refine n_then ?_
              refine g_block ?_
              have H := H.nilO 3 1 encI
              have SU := ((((((S.nil.cons S 4 rfl).cons S 5 rfl).cons S 6 rfl).cons S 7 rfl).cons S 14 rfl).cons S 18 rfl).cons S 92 rfl
              refine loopW (X := Nat) SU (fun k => [(93, .int .i64 (k : Int))]) (fun k w => k ≤ r ∧ ∃ vr, HSat No w0 [Cel b18 25 [vl, vr], OSl 3 (vr) 1 encI (coverRight rs k), OSl 3 vl 1 encI (coverLeft (gr ps) rs ps.length), Atom.ro (Cel b13 44 [.map (some b60)]), Atom.ro (Cel b14 44 [.map (some b61)]), MapA b60 (fun n : Int => .int .i64 n) (fun b : Bool => .bool b) (memS (rs.left)) c1, MapA b61 (fun n : Int => .int .i64 n) (fun b : Bool => .bool b) (memS (rs.reached)) c2, OSl 3 (.slice (some ⟨b28, 0, none⟩) ps.length ps.length) 1 encI (gotL (gr ps) r), Atom.ro (Cel b7 23 [(.slice (some ⟨b28, 0, none⟩) ps.length ps.length)]), Cel b5 25 [.slice none 0 0, .slice none 0 0], Atom.ro (Cel b2 22 [v]), RowsS 1 encI ps, Sl v 1 encRow ps] w) (fun k => r - k) 0 (S.nil.cons S 93 rfl) (⟨by omega, .slice none 0 0, H.take [Cel b18 25 [vl, .slice none 0 0], OSl 3 (.slice none 0 0) 1 encI [], OSl 3 vl 1 encI (coverLeft (gr ps) rs ps.length), Atom.ro (Cel b13 44 [.map (some b60)]), Atom.ro (Cel b14 44 [.map (some b61)]), MapA b60 (fun n : Int => .int .i64 n) (fun b : Bool => .bool b) (memS (rs.left)) c1, MapA b61 (fun n : Int => .int .i64 n) (fun b : Bool => .bool b) (memS (rs.reached)) c2, OSl 3 (.slice (some ⟨b28, 0, none⟩) ps.length ps.length) 1 encI (gotL (gr ps) r), Atom.ro (Cel b7 23 [(.slice (some ⟨b28, 0, none⟩) ps.length ps.length)]), Cel b5 25 [.slice none 0 0, .slice none 0 0], Atom.ro (Cel b2 22 [v]), RowsS 1 encI ps, Sl v 1 encRow ps]⟩) (fun k a w S hW => ?_)
              simp only [List.cons_append, List.nil_append] at S
              obtain ⟨hk, vr, H⟩ := hW
              have hcr := coverRight_len rs k
              refine g_seq ?_
              -- region 39 match.go:77
              refine g_region ?_
              refine wl_of (op_y (wn rfl) rfl rfl S (y_bin rfl S rfl rfl rfl) fun a S => ?_)
              refine gl_nil ?_
              refine n_then ?_
              refine g_seq ?_
              -- cond 9
              refine c_if S rfl (fun h9 => ?_) (fun h9 => ?_)
              · have h9p := h9; try simp only [Option.isNone_some, Option.isNone_none, Option.isSome_some, Option.isSome_none, false_or, or_false, true_and, and_true, decide_eq_true_eq, decide_eq_false_iff_not, Bool.or_eq_true, Bool.and_eq_true, Bool.or_eq_false_iff, Bool.and_eq_false_iff, Bool.not_eq_true', Bool.not_eq_false', bne_iff_ne, beq_iff_eq, beq_eq_false_iff_ne, bne_eq_false_iff_eq, ne_eq, Decidable.not_not, Int.not_lt, Int.not_le, gt_iff_lt, ge_iff_le, Bool.true_eq_false, Bool.false_eq_true, not_true_eq_false, not_false_eq_true] at h9p
                refine g_skip ?_
                refine n_then ?_
                refine g_seq ?_
                refine g_block ?_
                refine g_seq ?_
                -- region 40 match.go:77
                refine g_region ?_
                refine wl_of (op_y (wn rfl) rfl rfl S (y_move rfl S rfl) fun a S => ?_)
                refine wl_of (op_y (wn rfl) rfl rfl S (y_assign rfl S rfl) fun a S => ?_)
                refine gl_nil ?_
                refine n_then ?_
                refine g_seq ?_
                -- region 41 match.go:78
                refine g_region ?_
                refine wl_of (op_y (wn rfl) rfl rfl S (y_load rfl Fsca44 S H rfl rfl) fun a S => ?_)
                refine wl_of (op_y (wn rfl) rfl rfl S (y_move rfl S rfl) fun a S => ?_)
                refine wl_of (op_y (wn rfl) rfl rfl S (y_lookup _ (false) rfl Try.underlying44 Finf4 S H rfl (keyOK_int Try.underlying3) (by exact rfl) (by exact rfl)) fun a S => ?_)
                refine gl_nil ?_
                refine n_then ?_
                -- cond 10 (both ways go on)
                refine c_if S rfl (fun h10 => ?_) (fun h10 => ?_)
                · have h10p := h10; try simp only [Option.isNone_some, Option.isNone_none, Option.isSome_some, Option.isSome_none, false_or, or_false, true_and, and_true, decide_eq_true_eq, decide_eq_false_iff_not, Bool.or_eq_true, Bool.and_eq_true, Bool.or_eq_false_iff, Bool.and_eq_false_iff, Bool.not_eq_true', Bool.not_eq_false', bne_iff_ne, beq_iff_eq, beq_eq_false_iff_ne, bne_eq_false_iff_eq, ne_eq, Decidable.not_not, Int.not_lt, Int.not_le, gt_iff_lt, ge_iff_le, Bool.true_eq_false, Bool.false_eq_true, not_true_eq_false, not_false_eq_true] at h10p
                  have hx : (k : Int) ∈ rs.reached := by have := h10; rw [memS_get] at this; simpa using this
                  -- region 42 match.go:79
                  refine g_region ?_
                  refine wl_of (op_y (wn rfl) rfl rfl S (y_faddrb rfl Ffo25_1 S rfl) fun a S => ?_)
                  refine wl_of (op_y (wn rfl) rfl rfl S (y_load rfl Fsca23 S H rfl rfl) fun a S => ?_)
                  refine wl_of (op_y (wn rfl) rfl rfl S (y_move rfl S rfl) fun a S => ?_)
                  refine wl_of (op_buildSlice (wn rfl) rfl rfl rfl Try.underlying23 Finf3 S H (idx := [0]) rfl rfl rfl (z := [.int .i64 0]) (by kernel_rfl) (cs := [_]) rfl fun b102 a w S H => ?_)
                  refine wl_of (op_append ([(k : Int)]) (wn rfl) rfl rfl rfl Try.underlying23 Finf3 rfl rfl S H rfl rfl rfl rfl (by simp) (by simp [encI]) (by simp [encI, Value.oneCell']) (by simp only [List.length_cons, List.length_nil]; omega) (by simp only [List.length_cons, List.length_nil]; omega) fun u103 a w hn103 S H => ?_)
                  refine wl_of (op_y (wn rfl) rfl rfl S (y_faddrb rfl Ffo25_1 S rfl) fun a S => ?_)
                  refine wl_of (op_store (wn rfl) rfl rfl S H rfl rfl (H.sl1 _) Fsiz23 rfl fun a w S H => ?_)
                  dsimp only [List.set, Nat.zero_add, Nat.reduceAdd] at H
                  refine gl_nil ?_
                  refine n_block ?_
                  refine n_then ?_
                  -- region 43 match.go:77
                  refine g_region ?_
                  refine wl_of (op_y (wn rfl) rfl rfl S (y_add rfl S rfl rfl (by omega)) fun a S => ?_)
                  refine wl_of (op_y (wn rfl) rfl rfl S (y_move rfl S rfl) fun a S => ?_)
                  refine gl_nil ?_
                  refine n_then ?_
                  first
                  | exact ⟨k + 1, S.nil.cons S 93 rfl, ((((((S.nil.cons S 4 rfl).cons S 5 rfl).cons S 6 rfl).cons S 7 rfl).cons S 14 rfl).cons S 18 rfl).cons S 92 rfl, ⟨by omega, vr, by rw [coverRight, if_neg hx]; exact H⟩, by omega⟩
                  | exact ⟨k + 1, S.nil.cons S 93 rfl, ((((((S.nil.cons S 4 rfl).cons S 5 rfl).cons S 6 rfl).cons S 7 rfl).cons S 14 rfl).cons S 18 rfl).cons S 92 rfl, ⟨by omega, u103, by rw [coverRight, if_pos hx]; exact H.take [Cel b18 25 [vl, u103], OSl 3 u103 1 encI (coverRight rs k ++ [(k : Int)]), OSl 3 vl 1 encI (coverLeft (gr ps) rs ps.length), Atom.ro (Cel b13 44 [.map (some b60)]), Atom.ro (Cel b14 44 [.map (some b61)]), MapA b60 (fun n : Int => .int .i64 n) (fun b : Bool => .bool b) (memS (rs.left)) c1, MapA b61 (fun n : Int => .int .i64 n) (fun b : Bool => .bool b) (memS (rs.reached)) c2, OSl 3 (.slice (some ⟨b28, 0, none⟩) ps.length ps.length) 1 encI (gotL (gr ps) r), Atom.ro (Cel b7 23 [(.slice (some ⟨b28, 0, none⟩) ps.length ps.length)]), Cel b5 25 [.slice none 0 0, .slice none 0 0], Atom.ro (Cel b2 22 [v]), RowsS 1 encI ps, Sl v 1 encRow ps]⟩, by omega⟩
                · have h10p := h10; try simp only [Option.isNone_some, Option.isNone_none, Option.isSome_some, Option.isSome_none, false_or, or_false, true_and, and_true, decide_eq_true_eq, decide_eq_false_iff_not, Bool.or_eq_true, Bool.and_eq_true, Bool.or_eq_false_iff, Bool.and_eq_false_iff, Bool.not_eq_true', Bool.not_eq_false', bne_iff_ne, beq_iff_eq, beq_eq_false_iff_ne, bne_eq_false_iff_eq, ne_eq, Decidable.not_not, Int.not_lt, Int.not_le, gt_iff_lt, ge_iff_le, Bool.true_eq_false, Bool.false_eq_true, not_true_eq_false, not_false_eq_true] at h10p
                  have hx : (k : Int) ∉ rs.reached := by have := h10; rw [memS_get] at this; simpa using this
                  refine g_skip ?_
                  refine n_block ?_
                  refine n_then ?_
                  -- region 43 match.go:77
                  refine g_region ?_
                  refine wl_of (op_y (wn rfl) rfl rfl S (y_add rfl S rfl rfl (by omega)) fun a S => ?_)
                  refine wl_of (op_y (wn rfl) rfl rfl S (y_move rfl S rfl) fun a S => ?_)
                  refine gl_nil ?_
                  refine n_then ?_
                  first
                  | exact ⟨k + 1, S.nil.cons S 93 rfl, ((((((S.nil.cons S 4 rfl).cons S 5 rfl).cons S 6 rfl).cons S 7 rfl).cons S 14 rfl).cons S 18 rfl).cons S 92 rfl, ⟨by omega, vr, by rw [coverRight, if_neg hx]; exact H⟩, by omega⟩
                  | exact ⟨k + 1, S.nil.cons S 93 rfl, ((((((S.nil.cons S 4 rfl).cons S 5 rfl).cons S 6 rfl).cons S 7 rfl).cons S 14 rfl).cons S 18 rfl).cons S 92 rfl, ⟨by omega, u103, by rw [coverRight, if_pos hx]; exact H.take [Cel b18 25 [vl, u103], OSl 3 u103 1 encI (coverRight rs k ++ [(k : Int)]), OSl 3 vl 1 encI (coverLeft (gr ps) rs ps.length), Atom.ro (Cel b13 44 [.map (some b60)]), Atom.ro (Cel b14 44 [.map (some b61)]), MapA b60 (fun n : Int => .int .i64 n) (fun b : Bool => .bool b) (memS (rs.left)) c1, MapA b61 (fun n : Int => .int .i64 n) (fun b : Bool => .bool b) (memS (rs.reached)) c2, OSl 3 (.slice (some ⟨b28, 0, none⟩) ps.length ps.length) 1 encI (gotL (gr ps) r), Atom.ro (Cel b7 23 [(.slice (some ⟨b28, 0, none⟩) ps.length ps.length)]), Cel b5 25 [.slice none 0 0, .slice none 0 0], Atom.ro (Cel b2 22 [v]), RowsS 1 encI ps, Sl v 1 encRow ps]⟩, by omega⟩
              · have h9p := h9; try simp only [Option.isNone_some, Option.isNone_none, Option.isSome_some, Option.isSome_none, false_or, or_false, true_and, and_true, decide_eq_true_eq, decide_eq_false_iff_not, Bool.or_eq_true, Bool.and_eq_true, Bool.or_eq_false_iff, Bool.and_eq_false_iff, Bool.not_eq_true', Bool.not_eq_false', bne_iff_ne, beq_iff_eq, beq_eq_false_iff_ne, bne_eq_false_iff_eq, ne_eq, Decidable.not_not, Int.not_lt, Int.not_le, gt_iff_lt, ge_iff_le, Bool.true_eq_false, Bool.false_eq_true, not_true_eq_false, not_false_eq_true] at h9p
                obtain rfl : r = k := by omega
                refine g_exit ?_
                refine x_then (x_then (x_eq ?_))
                refine n_then ?_
                have S := ((((S.nil.cons S 4 rfl).cons S 5 rfl).cons S 6 rfl).cons S 7 rfl).cons S 18 rfl
                refine g_seq ?_
                -- region 44 DRAWS match.go:82
                refine region_st (loud := [3]) (tails := [3]) (free := []) [0, 1, 2, 3, 4] [] Fmo (by kernel_rfl) (by kernel_rfl) rfl H ?_
                refine m_w rfl rfl (wn rfl) rfl rfl S (fun w H => y_load rfl Fsca23 S H rfl rfl) fun a S => ?_
                refine m_w rfl rfl (wn rfl) rfl rfl S (fun w H => y_load0 rfl S H rfl (by exact Fagg25)) fun a S => ?_
                refine m_w rfl rfl (wn rfl) rfl rfl S (fun w H => y_assign rfl S rfl) fun a S => ?_
                refine m_l rfl rfl (fun w H => op_storea (wn rfl) rfl rfl S H rfl rfl (by rw [List.all_cons, List.all_cons, H.sl1 vl, H.sl1 vr]; rfl) Fsiz25 rfl (cs' := [_, _]) rfl fun a w S H => m_tail H rfl ?_)
                refine m_w rfl rfl (wn rfl) rfl rfl S (fun w H => y_assign rfl S rfl) fun a S => ?_
                refine m_nil (fun w H => ?_)
                refine n_then ?_
                have S := ((S.nil.cons S 5 rfl).cons S 4 rfl).cons S 6 rfl
                refine g_ret ?_
                refine ret3mcm rfl S H rfl rfl rfl (by exact Fagg25) ?_
                exact ⟨_, vl, vr, rfl, by rw [leftL, rightL, gr_len, ← hrs, Int.toNat_natCast]; exact H.take [OSl 3 (.slice (some ⟨b28, 0, none⟩) ps.length ps.length) 1 encI (gotL (gr ps) r), OSl 3 vl 1 encI (coverLeft (gr ps) rs ps.length), OSl 3 vr 1 encI (coverRight rs r)]⟩
/-- foyer/match.Match -/
theorem match_bad (v : Value) (ps : List (Value × List Int)) (right : Int) (w0 : World) (hv : IsSl w0 v 1 encRow ps) (hr : ∀ p ∈ ps, IsSl w0 p.1 1 encI p.2) (hvg : validG (gr ps) right = false) :
    Ret Try.prog 15 #[v, .int .i64 right] w0 (fun u w => u = .tuple #[.slice none 0 0, .agg #[.slice none 0 0, .slice none 0 0], .int .i64 1] ∧ Ext w0 w) := by
  refine ret_of_wp (nt := 108) Try.func15 rfl rfl rfl (fl := [(0, v), (1, .int .i64 right)]) rfl (fun a S => ?_)
  have H := HSat.start w0
  have H := H.ro0 (Sl v 1 encRow ps) rfl (hv)
  have H := H.ro0 (RowsS 1 encI ps) rfl (hr)
  refine g_seq ?_
  -- region 0 match.go:21
  refine g_region ?_
  refine wl_of (op_box1 (wn rfl) rfl rfl rfl S H rfl (H.slc _) fun b2 a w S H => ?_)
  refine wl_of (op_y (wn rfl) rfl rfl S (y_assign rfl S rfl) fun a S => ?_)
  refine wl_of (op_alloc (wn rfl) rfl rfl rfl S H Fzer25 fun b5 a w S H => ?_)
  refine wl_of (op_y (wn rfl) rfl rfl S (y_assign rfl S rfl) fun a S => ?_)
  refine gl_nil ?_
  refine n_then ?_
  refine g_seq ?_
  refine g_seq ?_
  -- region 1 match.go:22
  refine g_region ?_
  refine wl_of (op_y (wn rfl) rfl rfl S (y_load rfl Fsca22 S H rfl rfl) fun a S => ?_)
  refine wl_of (op_y (wn rfl) rfl rfl S (y_move rfl S rfl) fun a S => ?_)
  refine wl_of (op_call (wn rfl) rfl rfl S (co_func rfl Try.call24 S rfl) (valid_spec v ps right _ (H.sl v) (H.rwsS ps)) fun v w hc a S => ?_)
  obtain ⟨rfl, he⟩ := hc
  have H := H.ext he
  refine wl_of (op_y (wn rfl) rfl rfl S (y_not rfl S rfl) fun a S => ?_)
  refine gl_nil ?_
  refine n_then ?_
  have S := (((((S.nil.cons S 1 rfl).cons S 2 rfl).cons S 4 rfl).cons S 5 rfl).cons S 6 rfl).cons S 24 rfl
  -- cond 1
  refine c_if S rfl (fun h1 => ?_) (fun h1 => ?_)
  · have h1p := h1; try simp only [Option.isNone_some, Option.isNone_none, Option.isSome_some, Option.isSome_none, false_or, or_false, true_and, and_true, decide_eq_true_eq, decide_eq_false_iff_not, Bool.or_eq_true, Bool.and_eq_true, Bool.or_eq_false_iff, Bool.and_eq_false_iff, Bool.not_eq_true', Bool.not_eq_false', bne_iff_ne, beq_iff_eq, beq_eq_false_iff_ne, bne_eq_false_iff_eq, ne_eq, Decidable.not_not, Int.not_lt, Int.not_le, gt_iff_lt, ge_iff_le, Bool.true_eq_false, Bool.false_eq_true, not_true_eq_false, not_false_eq_true] at h1p
    refine g_seq ?_
    -- region 2 match.go:23
    refine g_region ?_
    refine wl_of (op_y (wn rfl) rfl rfl S (y_buildf rfl Fbld25 S rfl (idx := []) rfl (cs := [_, _]) rfl) fun a S => ?_)
    refine wl_of (op_y (wn rfl) rfl rfl S (y_assign rfl S rfl) fun a S => ?_)
    refine wl_of (op_storea (wn rfl) rfl rfl S H rfl rfl rfl Fsiz25 rfl (cs' := [_, _]) rfl fun a w S H => ?_)
    refine wl_of (op_y (wn rfl) rfl rfl S (y_assign rfl S rfl) fun a S => ?_)
    refine gl_nil ?_
    refine n_then ?_
    have S := ((((S.nil.cons S 1 rfl).cons S 2 rfl).cons S 5 rfl).cons S 4 rfl).cons S 6 rfl
    refine g_ret ?_
    refine r_then (ret3mcm rfl S H rfl rfl rfl (by exact Fagg25) ?_)
    exact ⟨rfl, H.toExt⟩
  · have h1p := h1; try simp only [Option.isNone_some, Option.isNone_none, Option.isSome_some, Option.isSome_none, false_or, or_false, true_and, and_true, decide_eq_true_eq, decide_eq_false_iff_not, Bool.or_eq_true, Bool.and_eq_true, Bool.or_eq_false_iff, Bool.and_eq_false_iff, Bool.not_eq_true', Bool.not_eq_false', bne_iff_ne, beq_iff_eq, beq_eq_false_iff_ne, bne_eq_false_iff_eq, ne_eq, Decidable.not_not, Int.not_lt, Int.not_le, gt_iff_lt, ge_iff_le, Bool.true_eq_false, Bool.false_eq_true, not_true_eq_false, not_false_eq_true] at h1p
    all_goals (
      rw [hvg] at h1; simp at h1)

end Go.Proofs.Ytaiohhcjbdjgfaa
