/- The walks. No condition. -/
import Derived.Test.YtaiohhcjbdjgfaaChecked
import Derived.Test.YtaiohhcjbdjgfaaGwCut
import Derived.Test.YtaiohhcjbdjgfaaFacts
import Derived.Test.YtaiohhcjbdjgfaaPlain
import Derived.Test.YtaiohhcjbdjgfaaW8
namespace Go.Proofs.Ytaiohhcjbdjgfaa
open Go Go.Gw
set_option linter.unusedVariables false
set_option linter.unusedSimpArgs false
set_option maxHeartbeats 2000000 in
/-- foyer/foyerlaw40.MatchGreatest -/
theorem law3 (v : Value) (ps : List (Value × List Int)) (right : Int) (v2 : Value) (got : List Int) (v3 : Value) (other : List Int) (vl vr wl wr : Value) (left cover dl dr : List Int) (w0 : World) (hv : IsSl w0 v 1 encRow ps) (hr : ∀ p ∈ ps, IsSl w0 p.1 1 encI p.2) (hg : IsSl w0 v2 1 encI got) (ho : IsSl w0 v3 1 encI other) (hvl : IsSl w0 vl 1 encI left) (hvr : IsSl w0 vr 1 encI cover) (hwl : IsSl w0 wl 1 encI dl) (hwr : IsSl w0 wr 1 encI dr) (hcl : capOK vl)
    (hmx : left.length ≤ 100000000000000 ∧ cover.length ≤ 100000000000000 ∧ dl.length ≤ 100000000000000 ∧ dr.length ≤ 100000000000000 ∧ got.length ≤ 100000000000000 ∧ other.length ≤ 100000000000000) :
    Ret Try.prog 5 #[v, .int .i64 right, v2, v3, .agg #[vl, vr], .agg #[wl, wr]] w0 (fun v w => v = .bool true ∧ Ext w0 w) := by
  refine ret_of_wp (nt := 85) Try.func5 rfl rfl rfl (fl := [(0, v), (1, .int .i64 right), (2, v2), (3, v3), (4, .agg #[vl, vr]), (5, .agg #[wl, wr])]) rfl (fun a S => ?_)
  have H := HSat.start w0
  have H := H.ro0 (Sl v 1 encRow ps) rfl (hv)
  have H := H.ro0 (RowsS 1 encI ps) rfl (hr)
  have H := H.ro0 (Sl v2 1 encI got) rfl (hg)
  have H := H.ro0 (Sl v3 1 encI other) rfl (ho)
  have H := H.ro0 (Sl vl 1 encI left) rfl (hvl)
  have H := H.ro0 (Sl vr 1 encI cover) rfl (hvr)
  have H := H.ro0 (Sl wl 1 encI dl) rfl (hwl)
  have H := H.ro0 (Sl wr 1 encI dr) rfl (hwr)
  have hl := hv.len
  refine g_seq ?_
  -- region 0 law.go:55
  refine g_region ?_
  refine wl_of (op_boxa (wn rfl) rfl rfl rfl S H rfl fun b10 a w S H => ?_)
  refine wl_of (op_boxa (wn rfl) rfl rfl rfl S H rfl fun b11 a w S H => ?_)
  refine wl_of (op_y (wn rfl) rfl rfl S (y_assign rfl S rfl) fun a S => ?_)
  refine gl_nil ?_
  refine n_then ?_
  refine g_seq ?_
  -- region 1 law.go:56
  refine g_region ?_
  refine wl_of (op_call (wn rfl) rfl rfl S (co_func rfl Try.call11 S rfl) (head_spec _) fun v w hc a S => ?_)
  obtain ⟨rfl, he⟩ := hc
  have H := H.ext he
  refine wl_of (op_y (wn rfl) rfl rfl S (y_assign rfl S rfl) fun a S => ?_)
  refine gl_nil ?_
  refine n_then ?_
  refine g_seq ?_
  refine g_seq ?_
  -- region 2 law.go:57
  refine g_region ?_
  refine wl_of (op_y (wn rfl) rfl rfl S (y_move rfl S rfl) fun a S => ?_)
  refine wl_of (op_call (wn rfl) rfl rfl S (co_func rfl Try.call12 S rfl) (few_spec v ps 60 _ (H.sl v) (H.rwsS ps)) fun v w hc a S => ?_)
  obtain ⟨rfl, he⟩ := hc
  have H := H.ext he
  refine wl_of (op_y (wn rfl) rfl rfl S (y_not rfl S rfl) fun a S => ?_)
  refine wl_of (op_y (wn rfl) rfl rfl S (y_move rfl S rfl) fun a S => ?_)
  refine' wl_or 6 19 rfl S H rfl rfl rfl rfl rfl rfl rfl (fun _ S => (wn rfl)) (fun h1 kk => ?yh1) (fun a w S H => ?_)
  case yh1 =>
    have h1p := h1; try simp only [Option.isNone_some, Option.isNone_none, Option.isSome_some, Option.isSome_none, false_or, or_false, true_and, and_true, decide_eq_true_eq, decide_eq_false_iff_not, Bool.or_eq_true, Bool.and_eq_true, Bool.or_eq_false_iff, Bool.and_eq_false_iff, Bool.not_eq_true', Bool.not_eq_false', bne_iff_ne, beq_iff_eq, beq_eq_false_iff_ne, bne_eq_false_iff_eq, ne_eq, Decidable.not_not, Int.not_lt, Int.not_le, gt_iff_lt, ge_iff_le, Bool.true_eq_false, Bool.false_eq_true, not_true_eq_false, not_false_eq_true] at h1p
    refine wl_of (op_y (wg' 19 rfl rfl S rfl h1 rfl) rfl rfl S (y_move rfl S rfl) fun a S => ?_)
    refine wl_of (op_y (wg' 19 rfl rfl S rfl h1 rfl) rfl rfl S (y_lens rfl Try.underlying23 S H rfl) fun a S => ?_)
    refine wl_of (op_y (wg' 19 rfl rfl S rfl h1 rfl) rfl rfl S (y_move rfl S rfl) fun a S => ?_)
    refine wl_of (op_y (wg' 19 rfl rfl S rfl h1 rfl) rfl rfl S (y_lens rfl Try.underlying23 S H rfl) fun a S => ?_)
    refine wl_of (op_y (wg' 19 rfl rfl S rfl h1 rfl) rfl rfl S (y_add rfl S rfl rfl (by omega)) fun a S => ?_)
    refine wl_of (op_y (wg' 19 rfl rfl S rfl h1 rfl) rfl rfl S (y_bin rfl S rfl rfl rfl) fun a S => ?_)
    refine wl_of (op_y (wn rfl) rfl rfl S (y_or' rfl h1 S rfl rfl) fun a S => ?_)
    exact kk _ _ (S.join 7 26 rfl rfl) H
  refine wl_of (op_y (wn rfl) rfl rfl S (y_move rfl S rfl) fun a S => ?_)
  refine' wl_or 16 27 rfl S H rfl rfl rfl rfl rfl rfl rfl (fun _ S => (wn rfl)) (fun h2 kk => ?yh2) (fun a w S H => ?_)
  case yh2 =>
    have h2p := h2; try simp only [Option.isNone_some, Option.isNone_none, Option.isSome_some, Option.isSome_none, false_or, or_false, true_and, and_true, decide_eq_true_eq, decide_eq_false_iff_not, Bool.or_eq_true, Bool.and_eq_true, Bool.or_eq_false_iff, Bool.and_eq_false_iff, Bool.not_eq_true', Bool.not_eq_false', bne_iff_ne, beq_iff_eq, beq_eq_false_iff_ne, bne_eq_false_iff_eq, ne_eq, Decidable.not_not, Int.not_lt, Int.not_le, gt_iff_lt, ge_iff_le, Bool.true_eq_false, Bool.false_eq_true, not_true_eq_false, not_false_eq_true] at h2p
    refine wl_of (op_y (wg' 27 rfl rfl S rfl h2 rfl) rfl rfl S (y_faddrb rfl Ffo25_0 S rfl) fun a S => ?_)
    refine wl_of (op_y (wg' 27 rfl rfl S rfl h2 rfl) rfl rfl S (y_load rfl Fsca23 S H rfl rfl) fun a S => ?_)
    refine wl_of (op_y (wg' 27 rfl rfl S rfl h2 rfl) rfl rfl S (y_lens rfl Try.underlying23 S H rfl) fun a S => ?_)
    refine wl_of (op_y (wg' 27 rfl rfl S rfl h2 rfl) rfl rfl S (y_faddrb rfl Ffo25_1 S rfl) fun a S => ?_)
    refine wl_of (op_y (wg' 27 rfl rfl S rfl h2 rfl) rfl rfl S (y_load rfl Fsca23 S H rfl rfl) fun a S => ?_)
    refine wl_of (op_y (wg' 27 rfl rfl S rfl h2 rfl) rfl rfl S (y_lens rfl Try.underlying23 S H rfl) fun a S => ?_)
    refine wl_of (op_y (wg' 27 rfl rfl S rfl h2 rfl) rfl rfl S (y_add rfl S rfl rfl (by omega)) fun a S => ?_)
    refine wl_of (op_y (wg' 27 rfl rfl S rfl h2 rfl) rfl rfl S (y_faddrb rfl Ffo25_0 S rfl) fun a S => ?_)
    refine wl_of (op_y (wg' 27 rfl rfl S rfl h2 rfl) rfl rfl S (y_load rfl Fsca23 S H rfl rfl) fun a S => ?_)
    refine wl_of (op_y (wg' 27 rfl rfl S rfl h2 rfl) rfl rfl S (y_lens rfl Try.underlying23 S H rfl) fun a S => ?_)
    refine wl_of (op_y (wg' 27 rfl rfl S rfl h2 rfl) rfl rfl S (y_add rfl S rfl rfl (by omega)) fun a S => ?_)
    refine wl_of (op_y (wg' 27 rfl rfl S rfl h2 rfl) rfl rfl S (y_faddrb rfl Ffo25_1 S rfl) fun a S => ?_)
    refine wl_of (op_y (wg' 27 rfl rfl S rfl h2 rfl) rfl rfl S (y_load rfl Fsca23 S H rfl rfl) fun a S => ?_)
    refine wl_of (op_y (wg' 27 rfl rfl S rfl h2 rfl) rfl rfl S (y_lens rfl Try.underlying23 S H rfl) fun a S => ?_)
    refine wl_of (op_y (wg' 27 rfl rfl S rfl h2 rfl) rfl rfl S (y_add rfl S rfl rfl (by omega)) fun a S => ?_)
    refine wl_of (op_y (wg' 27 rfl rfl S rfl h2 rfl) rfl rfl S (y_bin rfl S rfl rfl rfl) fun a S => ?_)
    refine wl_of (op_y (wn rfl) rfl rfl S (y_or' rfl h2 S rfl rfl) fun a S => ?_)
    exact kk _ _ (S.join 17 44 rfl rfl) H
  refine wl_of (op_y (wn rfl) rfl rfl S (y_move rfl S rfl) fun a S => ?_)
  refine' wl_or 6 45 rfl S H rfl rfl rfl rfl rfl rfl rfl (fun _ S => (wn rfl)) (fun h3 kk => ?yh3) (fun a w S H => ?_)
  case yh3 =>
    have h3p := h3; try simp only [Option.isNone_some, Option.isNone_none, Option.isSome_some, Option.isSome_none, false_or, or_false, true_and, and_true, decide_eq_true_eq, decide_eq_false_iff_not, Bool.or_eq_true, Bool.and_eq_true, Bool.or_eq_false_iff, Bool.and_eq_false_iff, Bool.not_eq_true', Bool.not_eq_false', bne_iff_ne, beq_iff_eq, beq_eq_false_iff_ne, bne_eq_false_iff_eq, ne_eq, Decidable.not_not, Int.not_lt, Int.not_le, gt_iff_lt, ge_iff_le, Bool.true_eq_false, Bool.false_eq_true, not_true_eq_false, not_false_eq_true] at h3p
    refine wl_of (op_y (wg' 45 rfl rfl S rfl h3 rfl) rfl rfl S (y_move rfl S rfl) fun a S => ?_)
    refine wl_of (op_y (wg' 45 rfl rfl S rfl h3 rfl) rfl rfl S (y_move rfl S rfl) fun a S => ?_)
    refine wl_of (op_y (wg' 45 rfl rfl S rfl h3 rfl) rfl rfl S (y_move rfl S rfl) fun a S => ?_)
    refine wl_of (op_y (wg' 45 rfl rfl S rfl h3 rfl) rfl rfl S (y_load0 rfl S H rfl (by exact Fagg25)) fun a S => ?_)
    refine wl_of (op_call (wg' 45 rfl rfl S rfl h3 rfl) rfl rfl S (co_func rfl Try.call13 S rfl) (check_spec v ps right v2 got vl vr left cover _ (H.sl v) (H.rwsS ps) (H.sl _) (H.sl _) (H.sl _) hcl (by omega) (by omega)) fun v w hc a S => ?_)
    obtain ⟨rfl, he⟩ := hc
    have H := H.ext he
    refine wl_of (op_y (wg' 45 rfl rfl S rfl h3 rfl) rfl rfl S (y_not rfl S rfl) fun a S => ?_)
    refine wl_of (op_y (wn rfl) rfl rfl S (y_or' rfl h3 S rfl rfl) fun a S => ?_)
    exact kk _ _ (S.join 7 52 rfl rfl) H
  refine gl_nil ?_
  refine n_then ?_
  have S := ((((((S.nil.cons S 3 rfl).cons S 2 rfl).cons S 0 rfl).cons S 11 rfl).cons S 12 rfl).cons S 13 rfl).cons S 52 rfl
  -- cond 1
  refine c_if S rfl (fun h4 => ?_) (fun h4 => ?_)
  · have h4p := h4; try simp only [Option.isNone_some, Option.isNone_none, Option.isSome_some, Option.isSome_none, false_or, or_false, true_and, and_true, decide_eq_true_eq, decide_eq_false_iff_not, Bool.or_eq_true, Bool.and_eq_true, Bool.or_eq_false_iff, Bool.and_eq_false_iff, Bool.not_eq_true', Bool.not_eq_false', bne_iff_ne, beq_iff_eq, beq_eq_false_iff_ne, bne_eq_false_iff_eq, ne_eq, Decidable.not_not, Int.not_lt, Int.not_le, gt_iff_lt, ge_iff_le, Bool.true_eq_false, Bool.false_eq_true, not_true_eq_false, not_false_eq_true] at h4p
    refine g_seq ?_
    -- region 3 law.go:58
    refine g_region ?_
    refine wl_of (op_y (wn rfl) rfl rfl S (y_move rfl S rfl) fun a S => ?_)
    refine wl_of (op_y (wn rfl) rfl rfl S (y_assign rfl S rfl) fun a S => ?_)
    refine gl_nil ?_
    refine n_then ?_
    refine g_ret ?_
    refine r_then (ret1 rfl S rfl ?_)
    exact ⟨rfl, H.toExt⟩
  · have h4p := h4; try simp only [Option.isNone_some, Option.isNone_none, Option.isSome_some, Option.isSome_none, false_or, or_false, true_and, and_true, decide_eq_true_eq, decide_eq_false_iff_not, Bool.or_eq_true, Bool.and_eq_true, Bool.or_eq_false_iff, Bool.and_eq_false_iff, Bool.not_eq_true', Bool.not_eq_false', bne_iff_ne, beq_iff_eq, beq_eq_false_iff_ne, bne_eq_false_iff_eq, ne_eq, Decidable.not_not, Int.not_lt, Int.not_le, gt_iff_lt, ge_iff_le, Bool.true_eq_false, Bool.false_eq_true, not_true_eq_false, not_false_eq_true] at h4p
    have hck : checkL (gr ps) right got left cover = true := h4p.2
    obtain ⟨e1, e2, e3⟩ := greatest_law hck other dl dr
    refine g_skip ?_
    refine n_then ?_
    refine g_seq ?_
    -- region 4 law.go:60
    refine g_region ?_
    refine wl_of (op_y (wn rfl) rfl rfl S (y_move rfl S rfl) fun a S => ?_)
    refine wl_of (op_y (wn rfl) rfl rfl S (y_move rfl S rfl) fun a S => ?_)
    refine wl_of (op_call (wn rfl) rfl rfl S (co_func rfl Try.call17 S rfl) (size_spec v ps v2 got _ (H.sl v) (H.rwsS ps) (H.sl _)) fun v w hc a S => ?_)
    obtain ⟨rfl, he⟩ := hc
    have H := H.ext he
    refine wl_of (op_y (wn rfl) rfl rfl S (y_assign rfl S rfl) fun a S => ?_)
    refine gl_nil ?_
    refine n_then ?_
    have S := (((((S.nil.cons S 3 rfl).cons S 0 rfl).cons S 11 rfl).cons S 12 rfl).cons S 13 rfl).cons S 14 rfl
    refine g_seq ?_
    -- region 5 law.go:61
    refine g_region ?_
    refine wl_of (op_y (wn rfl) rfl rfl S (y_move rfl S rfl) fun a S => ?_)
    refine wl_of (op_y (wn rfl) rfl rfl S (y_move rfl S rfl) fun a S => ?_)
    refine wl_of (op_y (wg' 58 rfl rfl S rfl rfl rfl) rfl rfl S (y_move rfl S rfl) fun a S => ?_)
    refine wl_of (op_y (wg' 58 rfl rfl S rfl rfl rfl) rfl rfl S (y_move rfl S rfl) fun a S => ?_)
    refine wl_of (op_call (wg' 58 rfl rfl S rfl rfl rfl) rfl rfl S (co_func rfl Try.call17 S rfl) (size_spec v ps v3 other _ (H.sl v) (H.rwsS ps) (H.sl _)) fun v w hc a S => ?_)
    obtain ⟨rfl, he⟩ := hc
    have H := H.ext he
    refine wl_of (op_y (wg' 58 rfl rfl S rfl rfl rfl) rfl rfl S (y_move rfl S rfl) fun a S => ?_)
    refine wl_of (op_y (wg' 58 rfl rfl S rfl rfl rfl) rfl rfl S (y_bin rfl S rfl rfl rfl) fun a S => ?_)
    refine wl_of (op_y (wn rfl) rfl rfl S (y_and' rfl rfl S rfl rfl) fun a S => ?_)
    refine wl_of (op_y (wn rfl) rfl rfl S (y_move rfl S rfl) fun a S => ?_)
    refine' wl_and 18 65 rfl S H rfl rfl rfl rfl rfl rfl rfl (fun _ S => (wn rfl)) (fun h6 kk => ?yh6) (fun a w S H => ?_)
    case yh6 =>
      have h6p := h6; try simp only [Option.isNone_some, Option.isNone_none, Option.isSome_some, Option.isSome_none, false_or, or_false, true_and, and_true, decide_eq_true_eq, decide_eq_false_iff_not, Bool.or_eq_true, Bool.and_eq_true, Bool.or_eq_false_iff, Bool.and_eq_false_iff, Bool.not_eq_true', Bool.not_eq_false', bne_iff_ne, beq_iff_eq, beq_eq_false_iff_ne, bne_eq_false_iff_eq, ne_eq, Decidable.not_not, Int.not_lt, Int.not_le, gt_iff_lt, ge_iff_le, Bool.true_eq_false, Bool.false_eq_true, not_true_eq_false, not_false_eq_true] at h6p
      refine wl_of (op_y (wg' 65 rfl rfl S rfl h6 rfl) rfl rfl S (y_move rfl S rfl) fun a S => ?_)
      refine wl_of (op_y (wg' 65 rfl rfl S rfl h6 rfl) rfl rfl S (y_faddrb rfl Ffo25_0 S rfl) fun a S => ?_)
      refine wl_of (op_y (wg' 65 rfl rfl S rfl h6 rfl) rfl rfl S (y_load rfl Fsca23 S H rfl rfl) fun a S => ?_)
      refine wl_of (op_y (wg' 65 rfl rfl S rfl h6 rfl) rfl rfl S (y_faddrb rfl Ffo25_1 S rfl) fun a S => ?_)
      refine wl_of (op_y (wg' 65 rfl rfl S rfl h6 rfl) rfl rfl S (y_load rfl Fsca23 S H rfl rfl) fun a S => ?_)
      refine wl_of (op_call (wg' 65 rfl rfl S rfl h6 rfl) rfl rfl S (co_func rfl Try.call18 S rfl) (covers_spec v ps wl wr dl dr _ (H.sl v) (H.rwsS ps) (H.sl _) (H.sl _)) fun v w hc a S => ?_)
      obtain ⟨rfl, he⟩ := hc
      have H := H.ext he
      refine wl_of (op_y (wg' 65 rfl rfl S rfl h6 rfl) rfl rfl S (y_not rfl S rfl) fun a S => ?_)
      refine wl_of (op_y (wg' 65 rfl rfl S rfl h6 rfl) rfl rfl S (y_move rfl S rfl) fun a S => ?_)
      refine' wl_or 9 73 rfl S H rfl rfl rfl rfl rfl rfl rfl (fun _ S => (wg' 65 rfl rfl S rfl h6 rfl)) (fun h7 kk => ?yh7) (fun a w S H => ?_)
      case yh7 =>
        have h7p := h7; try simp only [Option.isNone_some, Option.isNone_none, Option.isSome_some, Option.isSome_none, false_or, or_false, true_and, and_true, decide_eq_true_eq, decide_eq_false_iff_not, Bool.or_eq_true, Bool.and_eq_true, Bool.or_eq_false_iff, Bool.and_eq_false_iff, Bool.not_eq_true', Bool.not_eq_false', bne_iff_ne, beq_iff_eq, beq_eq_false_iff_ne, bne_eq_false_iff_eq, ne_eq, Decidable.not_not, Int.not_lt, Int.not_le, gt_iff_lt, ge_iff_le, Bool.true_eq_false, Bool.false_eq_true, not_true_eq_false, not_false_eq_true] at h7p
        refine wl_of (op_y (wg' 73 rfl rfl S rfl h7 rfl) rfl rfl S (y_faddrb rfl Ffo25_0 S rfl) fun a S => ?_)
        refine wl_of (op_y (wg' 73 rfl rfl S rfl h7 rfl) rfl rfl S (y_load rfl Fsca23 S H rfl rfl) fun a S => ?_)
        refine wl_of (op_y (wg' 73 rfl rfl S rfl h7 rfl) rfl rfl S (y_lens rfl Try.underlying23 S H rfl) fun a S => ?_)
        refine wl_of (op_y (wg' 73 rfl rfl S rfl h7 rfl) rfl rfl S (y_faddrb rfl Ffo25_1 S rfl) fun a S => ?_)
        refine wl_of (op_y (wg' 73 rfl rfl S rfl h7 rfl) rfl rfl S (y_load rfl Fsca23 S H rfl rfl) fun a S => ?_)
        refine wl_of (op_y (wg' 73 rfl rfl S rfl h7 rfl) rfl rfl S (y_lens rfl Try.underlying23 S H rfl) fun a S => ?_)
        refine wl_of (op_y (wg' 73 rfl rfl S rfl h7 rfl) rfl rfl S (y_add rfl S rfl rfl (by omega)) fun a S => ?_)
        refine wl_of (op_y (wg' 73 rfl rfl S rfl h7 rfl) rfl rfl S (y_move rfl S rfl) fun a S => ?_)
        refine wl_of (op_y (wg' 73 rfl rfl S rfl h7 rfl) rfl rfl S (y_bin rfl S rfl rfl rfl) fun a S => ?_)
        refine wl_of (op_y (wg' 65 rfl rfl S rfl h6 rfl) rfl rfl S (y_or' rfl h7 S rfl rfl) fun a S => ?_)
        exact kk _ _ (S.join 10 83 rfl rfl) H
      refine wl_of (op_y (wn rfl) rfl rfl S (y_and' rfl h6 S rfl rfl) fun a S => ?_)
      exact kk _ _ (S.join 10 84 rfl rfl) H
    refine wl_of (op_y (wn rfl) rfl rfl S (y_assign rfl S rfl) fun a S => ?_)
    refine gl_nil ?_
    refine n_then ?_
    have S := S.nil.cons S 12 rfl
    refine g_ret ?_
    refine ret1 rfl S rfl ?_
    exact ⟨by rw [e1]; exact congrArg Value.bool (e3), H.toExt⟩

end Go.Proofs.Ytaiohhcjbdjgfaa
