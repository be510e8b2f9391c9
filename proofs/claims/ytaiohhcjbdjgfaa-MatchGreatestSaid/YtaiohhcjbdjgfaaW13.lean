/- The walks. No condition. -/
import Derived.Test.YtaiohhcjbdjgfaaChecked
import Derived.Test.YtaiohhcjbdjgfaaGwCut
import Derived.Test.YtaiohhcjbdjgfaaFacts
import Derived.Test.YtaiohhcjbdjgfaaPlain
import Derived.Test.YtaiohhcjbdjgfaaW8
namespace Go.Proofs.Ytaiohhcjbdjgfaa
open Go Go.Gw
set_option linter.unusedVariables false
set_option linter.unusedSimpArgs false
set_option maxHeartbeats 2000000 in
/-- foyer/foyerlaw40.MatchHall -/
theorem law5 (v : Value) (ps : List (Value × List Int)) (right : Int) (v3 : Value) (choice : List Bool) (w0 : World) (hv : IsSl w0 v 1 encRow ps) (hr : ∀ p ∈ ps, IsSl w0 p.1 1 encI p.2) (hc : IsSl w0 v3 1 encB choice) :
    Ret Try.prog 7 #[v, .int .i64 right, v3] w0 (fun v w => v = .bool true ∧ Ext w0 w) := by
  refine ret_of_wp (nt := 87) Try.func7 rfl rfl rfl (fl := [(0, v), (1, .int .i64 right), (2, v3)]) rfl (fun a S => ?_)
  have H := HSat.start w0
  have H := H.ro0 (Sl v 1 encRow ps) rfl (hv)
  have H := H.ro0 (RowsS 1 encI ps) rfl (hr)
  have H := H.ro0 (Sl v3 1 encB choice) rfl (hc)
  have hl := hv.len
  have hgl := gr_len ps
  have hlc := hc.len
  refine g_seq ?_
  -- region 0 law.go:84
  refine g_region ?_
  refine wl_of (op_y (wn rfl) rfl rfl S (y_assign rfl S rfl) fun a S => ?_)
  refine gl_nil ?_
  refine n_then ?_
  refine g_seq ?_
  -- region 1 law.go:85
  refine g_region ?_
  refine wl_of (op_call (wn rfl) rfl rfl S (co_func rfl Try.call11 S rfl) (head_spec _) fun v w hc a S => ?_)
  obtain ⟨rfl, he⟩ := hc
  have H := H.ext he
  refine wl_of (op_y (wn rfl) rfl rfl S (y_assign rfl S rfl) fun a S => ?_)
  refine gl_nil ?_
  refine n_then ?_
  refine g_seq ?_
  refine g_seq ?_
  -- region 2 law.go:86
  refine g_region ?_
  refine wl_of (op_y (wn rfl) rfl rfl S (y_move rfl S rfl) fun a S => ?_)
  refine wl_of (op_call (wn rfl) rfl rfl S (co_func rfl Try.call12 S rfl) (few_spec v ps 40 _ (H.sl v) (H.rwsS ps)) fun v w hc a S => ?_)
  obtain ⟨rfl, he⟩ := hc
  have H := H.ext he
  refine wl_of (op_y (wn rfl) rfl rfl S (y_not rfl S rfl) fun a S => ?_)
  refine wl_of (op_y (wn rfl) rfl rfl S (y_move rfl S rfl) fun a S => ?_)
  refine' wl_or 4 18 rfl S H rfl rfl rfl rfl rfl rfl rfl (fun _ S => (wn rfl)) (fun h1 kk => ?yh1) (fun a w S H => ?_)
  case yh1 =>
    have h1p := h1; try simp only [Option.isNone_some, Option.isNone_none, Option.isSome_some, Option.isSome_none, false_or, or_false, true_and, and_true, decide_eq_true_eq, decide_eq_false_iff_not, Bool.or_eq_true, Bool.and_eq_true, Bool.or_eq_false_iff, Bool.and_eq_false_iff, Bool.not_eq_true', Bool.not_eq_false', bne_iff_ne, beq_iff_eq, beq_eq_false_iff_ne, bne_eq_false_iff_eq, ne_eq, Decidable.not_not, Int.not_lt, Int.not_le, gt_iff_lt, ge_iff_le, Bool.true_eq_false, Bool.false_eq_true, not_true_eq_false, not_false_eq_true] at h1p
    refine wl_of (op_y (wg' 18 rfl rfl S rfl h1 rfl) rfl rfl S (y_move rfl S rfl) fun a S => ?_)
    refine wl_of (op_y (wg' 18 rfl rfl S rfl h1 rfl) rfl rfl S (y_move rfl S rfl) fun a S => ?_)
    refine wl_of (op_call (wg' 18 rfl rfl S rfl h1 rfl) rfl rfl S (co_func rfl Try.call16 S rfl) (rvalid_spec v ps right _ (H.sl v) (H.rwsS ps)) fun v w hc a S => ?_)
    obtain ⟨rfl, he⟩ := hc
    have H := H.ext he
    refine wl_of (op_y (wg' 18 rfl rfl S rfl h1 rfl) rfl rfl S (y_not rfl S rfl) fun a S => ?_)
    refine wl_of (op_y (wn rfl) rfl rfl S (y_or' rfl h1 S rfl rfl) fun a S => ?_)
    exact kk _ _ (S.join 5 23 rfl rfl) H
  refine gl_nil ?_
  refine n_then ?_
  have S := (((((S.nil.cons S 2 rfl).cons S 1 rfl).cons S 0 rfl).cons S 6 rfl).cons S 7 rfl).cons S 23 rfl
  -- cond 1
  refine c_if S rfl (fun h2 => ?_) (fun h2 => ?_)
  · have h2p := h2; try simp only [Option.isNone_some, Option.isNone_none, Option.isSome_some, Option.isSome_none, false_or, or_false, true_and, and_true, decide_eq_true_eq, decide_eq_false_iff_not, Bool.or_eq_true, Bool.and_eq_true, Bool.or_eq_false_iff, Bool.and_eq_false_iff, Bool.not_eq_true', Bool.not_eq_false', bne_iff_ne, beq_iff_eq, beq_eq_false_iff_ne, bne_eq_false_iff_eq, ne_eq, Decidable.not_not, Int.not_lt, Int.not_le, gt_iff_lt, ge_iff_le, Bool.true_eq_false, Bool.false_eq_true, not_true_eq_false, not_false_eq_true] at h2p
    refine g_seq ?_
    -- region 3 law.go:87
    refine g_region ?_
    refine wl_of (op_y (wn rfl) rfl rfl S (y_move rfl S rfl) fun a S => ?_)
    refine wl_of (op_y (wn rfl) rfl rfl S (y_assign rfl S rfl) fun a S => ?_)
    refine gl_nil ?_
    refine n_then ?_
    refine g_ret ?_
    refine r_then (ret1 rfl S rfl ?_)
    exact ⟨rfl, H.toExt⟩
  · have h2p := h2; try simp only [Option.isNone_some, Option.isNone_none, Option.isSome_some, Option.isSome_none, false_or, or_false, true_and, and_true, decide_eq_true_eq, decide_eq_false_iff_not, Bool.or_eq_true, Bool.and_eq_true, Bool.or_eq_false_iff, Bool.and_eq_false_iff, Bool.not_eq_true', Bool.not_eq_false', bne_iff_ne, beq_iff_eq, beq_eq_false_iff_ne, bne_eq_false_iff_eq, ne_eq, Decidable.not_not, Int.not_lt, Int.not_le, gt_iff_lt, ge_iff_le, Bool.true_eq_false, Bool.false_eq_true, not_true_eq_false, not_false_eq_true] at h2p
    have hvg : validG (gr ps) right = true := h2p.2
    have hfw := few_parts h2p.1
    rw [hgl] at hfw
    have hlaw := hall_law hvg choice
    rw [hgl] at hlaw
    refine g_skip ?_
    refine n_then ?_
    refine g_seq ?_
    -- region 4 law.go:89
    refine g_region ?_
    refine wl_of (op_y (wn rfl) rfl rfl S (y_move rfl S rfl) fun a S => ?_)
    refine wl_of (op_y (wn rfl) rfl rfl S (y_move rfl S rfl) fun a S => ?_)
    refine wl_of (op_call (wn rfl) rfl rfl S (co_func rfl Try.call15 S rfl) (match_okI v ps right _ (H.sl v) (H.rwsS ps) hvg) fun v w hc a S => ?_)
    obtain ⟨vg1, vl1, vr1, rfl, H1⟩ := hc
    have H := H.call3 H1 rfl rfl rfl
    refine wl_of (op_y (wn rfl) rfl rfl S (y_move rfl S rfl) fun a S => ?_)
    refine wl_of (op_y (wn rfl) rfl rfl S (y_extract rfl S rfl rfl) fun a S => ?_)
    refine wl_of (op_y (wn rfl) rfl rfl S (y_extract rfl S rfl rfl) fun a S => ?_)
    refine wl_of (op_y (wn rfl) rfl rfl S (y_extract rfl S rfl rfl) fun a S => ?_)
    refine wl_of (op_alloc (wn rfl) rfl rfl rfl S H Fzer25 fun b9 a w S H => ?_)
    refine wl_of (op_y (wn rfl) rfl rfl S (y_assign rfl S rfl) fun a S => ?_)
    refine wl_of (op_storea (wn rfl) rfl rfl S H rfl rfl (by rw [List.all_cons, List.all_cons, H.sl1 vl1, H.sl1 vr1]; rfl) Fsiz25 rfl (cs' := [_, _]) rfl fun a w S H => ?_)
    refine wl_of (op_y (wn rfl) rfl rfl S (y_assign rfl S rfl) fun a S => ?_)
    refine gl_nil ?_
    refine n_then ?_
    have S := ((((((S.nil.cons S 2 rfl).cons S 0 rfl).cons S 6 rfl).cons S 7 rfl).cons S 9 rfl).cons S 8 rfl).cons S 10 rfl
    refine g_seq ?_
    refine g_seq ?_
    -- region 5 law.go:90
    refine g_region ?_
    refine wl_of (op_y (wn rfl) rfl rfl S (y_move rfl S rfl) fun a S => ?_)
    refine wl_of (op_y (wn rfl) rfl rfl S (y_bin rfl S rfl rfl rfl) fun a S => ?_)
    refine gl_nil ?_
    refine n_then ?_
    -- cond 2
    refine c_if S rfl (fun h3 => ?_) (fun h3 => ?_)
    · have h3p := h3; try simp only [Option.isNone_some, Option.isNone_none, Option.isSome_some, Option.isSome_none, false_or, or_false, true_and, and_true, decide_eq_true_eq, decide_eq_false_iff_not, Bool.or_eq_true, Bool.and_eq_true, Bool.or_eq_false_iff, Bool.and_eq_false_iff, Bool.not_eq_true', Bool.not_eq_false', bne_iff_ne, beq_iff_eq, beq_eq_false_iff_ne, bne_eq_false_iff_eq, ne_eq, Decidable.not_not, Int.not_lt, Int.not_le, gt_iff_lt, ge_iff_le, Bool.true_eq_false, Bool.false_eq_true, not_true_eq_false, not_false_eq_true] at h3p
      all_goals (
        exact absurd h3 (by simp))
    · have h3p := h3; try simp only [Option.isNone_some, Option.isNone_none, Option.isSome_some, Option.isSome_none, false_or, or_false, true_and, and_true, decide_eq_true_eq, decide_eq_false_iff_not, Bool.or_eq_true, Bool.and_eq_true, Bool.or_eq_false_iff, Bool.and_eq_false_iff, Bool.not_eq_true', Bool.not_eq_false', bne_iff_ne, beq_iff_eq, beq_eq_false_iff_ne, bne_eq_false_iff_eq, ne_eq, Decidable.not_not, Int.not_lt, Int.not_le, gt_iff_lt, ge_iff_le, Bool.true_eq_false, Bool.false_eq_true, not_true_eq_false, not_false_eq_true] at h3p
      refine g_skip ?_
      refine n_then ?_
      refine g_seq ?_
      -- region 7 law.go:93
      refine g_region ?_
      refine wl_of (op_y (wn rfl) rfl rfl S (y_assign rfl S rfl) fun a S => ?_)
      refine wl_of (op_y (wn rfl) rfl rfl S (y_assign rfl S rfl) fun a S => ?_)
      refine gl_nil ?_
      refine n_then ?_
      refine g_seq ?_
      refine g_seq ?_
      -- region 8 law.go:94
      refine g_region ?_
      refine wl_of (op_y (wn rfl) rfl rfl S (y_assign rfl S rfl) fun a S => ?_)
      refine gl_nil ?_
      refine n_then ?_
      refine g_block ?_
      have H := (H.nilO 3 1 encI).nilO 3 1 encI
      have SU := (((((S.nil.cons S 2 rfl).cons S 0 rfl).cons S 6 rfl).cons S 7 rfl).cons S 9 rfl).cons S 8 rfl
      refine loopW (X := Nat × Value × Value) SU (fun x => [(11, x.2.1), (12, x.2.2), (13, .int .i64 (x.1 : Int))]) (fun x w => x.1 ≤ ps.length ∧ HSat No w0 [OSl 3 x.2.1 1 encI (chosen choice x.1), OSl 3 x.2.2 1 encI (freeL (leftL (gr ps) right) x.1), Cel b9 25 [vl1, vr1], OSl 3 vl1 1 encI (leftL (gr ps) right), OSl 3 vg1 1 encI (gotL (gr ps) right), Sl v3 1 encB choice, RowsS 1 encI ps, Sl v 1 encRow ps] w) (fun x => ps.length - x.1) (0, .slice none 0 0, .slice none 0 0) (((S.nil.cons S 13 rfl).cons S 12 rfl).cons S 11 rfl) (⟨by simp, by exact (H.take [OSl 3 (.slice none 0 0) 1 encI [], OSl 3 (.slice none 0 0) 1 encI [], Cel b9 25 [vl1, vr1], OSl 3 vl1 1 encI (leftL (gr ps) right), OSl 3 vg1 1 encI (gotL (gr ps) right), Sl v3 1 encB choice, RowsS 1 encI ps, Sl v 1 encRow ps])⟩) (fun x a w S hW => ?_)
      simp only [List.cons_append, List.nil_append] at S
      obtain ⟨k, va, vb⟩ := x
      obtain ⟨hk, H⟩ := hW
      dsimp only at S H hk
      refine g_seq ?_
      refine g_seq ?_
      -- region 9 law.go:94
      refine g_region ?_
      refine wl_of (op_y (wn rfl) rfl rfl S (y_move rfl S rfl) fun a S => ?_)
      refine wl_of (op_y (wn rfl) rfl rfl S (y_move rfl S rfl) fun a S => ?_)
      refine wl_of (op_y (wn rfl) rfl rfl S (y_lens rfl Try.underlying22 S H rfl) fun a S => ?_)
      refine wl_of (op_y (wn rfl) rfl rfl S (y_bin rfl S rfl rfl rfl) fun a S => ?_)
      refine gl_nil ?_
      refine n_then ?_
      -- cond 3
      refine c_if S rfl (fun h4 => ?_) (fun h4 => ?_)
      · have h4p := h4; try simp only [Option.isNone_some, Option.isNone_none, Option.isSome_some, Option.isSome_none, false_or, or_false, true_and, and_true, decide_eq_true_eq, decide_eq_false_iff_not, Bool.or_eq_true, Bool.and_eq_true, Bool.or_eq_false_iff, Bool.and_eq_false_iff, Bool.not_eq_true', Bool.not_eq_false', bne_iff_ne, beq_iff_eq, beq_eq_false_iff_ne, bne_eq_false_iff_eq, ne_eq, Decidable.not_not, Int.not_lt, Int.not_le, gt_iff_lt, ge_iff_le, Bool.true_eq_false, Bool.false_eq_true, not_true_eq_false, not_false_eq_true] at h4p
        have hcl := chosen_len choice k
        have hfl := freeL_len (leftL (gr ps) right) k
        refine g_skip ?_
        refine n_then ?_
        refine g_seq ?_
        refine g_block ?_
        refine g_seq ?_
        refine g_seq ?_
        -- region 11 law.go:95
        refine g_region ?_
        refine wl_of (op_y (wn rfl) rfl rfl S (y_move rfl S rfl) fun a S => ?_)
        refine wl_of (op_y (wn rfl) rfl rfl S (y_move rfl S rfl) fun a S => ?_)
        refine wl_of (op_y (wn rfl) rfl rfl S (y_lens rfl Try.underlying37 S H rfl) fun a S => ?_)
        refine wl_of (op_y (wn rfl) rfl rfl S (y_bin rfl S rfl rfl rfl) fun a S => ?_)
        refine wl_of (op_y (wn rfl) rfl rfl S (y_move rfl S rfl) fun a S => ?_)
        refine' wl_and 4 44 rfl S H rfl rfl rfl rfl rfl rfl rfl (fun _ S => (wn rfl)) (fun h5 kk => ?yh5) (fun a w S H => ?_)
        case yh5 =>
          have h5p := h5; try simp only [Option.isNone_some, Option.isNone_none, Option.isSome_some, Option.isSome_none, false_or, or_false, true_and, and_true, decide_eq_true_eq, decide_eq_false_iff_not, Bool.or_eq_true, Bool.and_eq_true, Bool.or_eq_false_iff, Bool.and_eq_false_iff, Bool.not_eq_true', Bool.not_eq_false', bne_iff_ne, beq_iff_eq, beq_eq_false_iff_ne, bne_eq_false_iff_eq, ne_eq, Decidable.not_not, Int.not_lt, Int.not_le, gt_iff_lt, ge_iff_le, Bool.true_eq_false, Bool.false_eq_true, not_true_eq_false, not_false_eq_true] at h5p
          refine wl_of (op_y (wg' 44 rfl rfl S rfl h5 rfl) rfl rfl S (y_move rfl S rfl) fun a S => ?_)
          refine wl_of (op_y (wg' 44 rfl rfl S rfl h5 rfl) rfl rfl S (y_move rfl S rfl) fun a S => ?_)
          refine wl_of (op_y (wg' 44 rfl rfl S rfl h5 rfl) rfl rfl S (y_iaddrn rfl Try.underlying37 Fsiz4 S H rfl rfl (by first | assumption | omega | (simp only [List.length_append, List.length_take, List.length_drop, List.length_replicate, List.length_set, List.length_map, List.length_cons, List.length_nil]; omega))) fun a S => ?_)
          refine wl_of (op_y (wg' 44 rfl rfl S rfl h5 rfl) rfl rfl S (y_loadsD _ false rfl Fsca4 S H rfl (by omega) rfl) fun a S => ?_)
          refine wl_of (op_y (wn rfl) rfl rfl S (y_and' rfl h5 S rfl rfl) fun a S => ?_)
          exact kk _ _ (S.join 5 49 rfl rfl) H
        refine gl_nil ?_
        refine n_then ?_
        -- cond 4 (both ways go on)
        refine cut (fun a w => ∃ va, St 87 [(0, v), (2, v3), (6, .bool false), (7, .bool true), (8, vg1), (9, .pointer (some ⟨b9, 0, none⟩)), (11, va), (12, vb), (13, .int .i64 (k : Int))] a ∧ HSat No w0 [OSl 3 va 1 encI (chosen choice (k + 1)), OSl 3 vb 1 encI (freeL (leftL (gr ps) right) k), Cel b9 25 [vl1, vr1], OSl 3 vl1 1 encI (leftL (gr ps) right), OSl 3 vg1 1 encI (gotL (gr ps) right), Sl v3 1 encB choice, RowsS 1 encI ps, Sl v 1 encRow ps] w) ?_ ?_
        · skip
          refine c_if S rfl (fun h6 => ?_) (fun h6 => ?_)
          · have h6p := h6; try simp only [Option.isNone_some, Option.isNone_none, Option.isSome_some, Option.isSome_none, false_or, or_false, true_and, and_true, decide_eq_true_eq, decide_eq_false_iff_not, Bool.or_eq_true, Bool.and_eq_true, Bool.or_eq_false_iff, Bool.and_eq_false_iff, Bool.not_eq_true', Bool.not_eq_false', bne_iff_ne, beq_iff_eq, beq_eq_false_iff_ne, bne_eq_false_iff_eq, ne_eq, Decidable.not_not, Int.not_lt, Int.not_le, gt_iff_lt, ge_iff_le, Bool.true_eq_false, Bool.false_eq_true, not_true_eq_false, not_false_eq_true] at h6p
            -- region 12 law.go:96
            refine g_region ?_
            refine wl_of (op_y (wn rfl) rfl rfl S (y_move rfl S rfl) fun a S => ?_)
            refine wl_of (op_y (wn rfl) rfl rfl S (y_move rfl S rfl) fun a S => ?_)
            refine wl_of (op_buildSlice (wn rfl) rfl rfl rfl Try.underlying23 Finf3 S H (idx := [0]) rfl rfl rfl (z := [.int .i64 0]) (by kernel_rfl) (cs := [_]) rfl fun b52 a w S H => ?_)
            refine wl_of (op_append ([(k : Int)]) (wn rfl) rfl rfl rfl Try.underlying23 Finf3 rfl rfl S H rfl rfl rfl rfl (by simp) (by simp [encI]) (by simp [encI, Value.oneCell']) (by simp only [List.length_cons, List.length_nil]; omega) (by simp only [List.length_cons, List.length_nil]; omega) fun u53 a w hn53 S H => ?_)
            refine wl_of (op_y (wn rfl) rfl rfl S (y_assign rfl S rfl) fun a S => ?_)
            refine gl_nil ?_
            refine n_then ?_
            first
            | exact ⟨va, ((((((((S.nil.cons S 13 rfl).cons S 12 rfl).cons S 11 rfl).cons S 9 rfl).cons S 8 rfl).cons S 7 rfl).cons S 6 rfl).cons S 2 rfl).cons S 0 rfl, by rw [chosen, if_neg (by rw [h6]; simp)]; exact H⟩
            | exact ⟨u53, ((((((((S.nil.cons S 13 rfl).cons S 12 rfl).cons S 11 rfl).cons S 9 rfl).cons S 8 rfl).cons S 7 rfl).cons S 6 rfl).cons S 2 rfl).cons S 0 rfl, by rw [chosen, if_pos h6]; exact H.take [OSl 3 u53 1 encI (chosen choice k ++ [(k : Int)]), OSl 3 vb 1 encI (freeL (leftL (gr ps) right) k), Cel b9 25 [vl1, vr1], OSl 3 vl1 1 encI (leftL (gr ps) right), OSl 3 vg1 1 encI (gotL (gr ps) right), Sl v3 1 encB choice, RowsS 1 encI ps, Sl v 1 encRow ps]⟩
          · have h6p := h6; try simp only [Option.isNone_some, Option.isNone_none, Option.isSome_some, Option.isSome_none, false_or, or_false, true_and, and_true, decide_eq_true_eq, decide_eq_false_iff_not, Bool.or_eq_true, Bool.and_eq_true, Bool.or_eq_false_iff, Bool.and_eq_false_iff, Bool.not_eq_true', Bool.not_eq_false', bne_iff_ne, beq_iff_eq, beq_eq_false_iff_ne, bne_eq_false_iff_eq, ne_eq, Decidable.not_not, Int.not_lt, Int.not_le, gt_iff_lt, ge_iff_le, Bool.true_eq_false, Bool.false_eq_true, not_true_eq_false, not_false_eq_true] at h6p
            refine g_skip ?_
            refine n_then ?_
            first
            | exact ⟨va, ((((((((S.nil.cons S 13 rfl).cons S 12 rfl).cons S 11 rfl).cons S 9 rfl).cons S 8 rfl).cons S 7 rfl).cons S 6 rfl).cons S 2 rfl).cons S 0 rfl, by rw [chosen, if_neg (by rw [h6]; simp)]; exact H⟩
            | exact ⟨u53, ((((((((S.nil.cons S 13 rfl).cons S 12 rfl).cons S 11 rfl).cons S 9 rfl).cons S 8 rfl).cons S 7 rfl).cons S 6 rfl).cons S 2 rfl).cons S 0 rfl, by rw [chosen, if_pos h6]; exact H.take [OSl 3 u53 1 encI (chosen choice k ++ [(k : Int)]), OSl 3 vb 1 encI (freeL (leftL (gr ps) right) k), Cel b9 25 [vl1, vr1], OSl 3 vl1 1 encI (leftL (gr ps) right), OSl 3 vg1 1 encI (gotL (gr ps) right), Sl v3 1 encB choice, RowsS 1 encI ps, Sl v 1 encRow ps]⟩
        rintro a w ⟨va, S, H⟩
        refine g_seq ?_
        -- region 13 law.go:98
        refine g_region ?_
        refine wl_of (op_y (wn rfl) rfl rfl S (y_faddrb rfl Ffo25_0 S rfl) fun a S => ?_)
        refine wl_of (op_y (wn rfl) rfl rfl S (y_load rfl Fsca23 S H rfl rfl) fun a S => ?_)
        refine wl_of (op_y (wn rfl) rfl rfl S (y_move rfl S rfl) fun a S => ?_)
        refine wl_of (op_call (wn rfl) rfl rfl S (co_func rfl Try.call20 S rfl) (in_spec vl1 (leftL (gr ps) right) k _ (H.sl _)) fun v w hc a S => ?_)
        obtain ⟨rfl, he⟩ := hc
        have H := H.ext he
        refine wl_of (op_y (wn rfl) rfl rfl S (y_not rfl S rfl) fun a S => ?_)
        refine gl_nil ?_
        refine n_then ?_
        -- cond 5 (both ways go on)
        refine c_if S rfl (fun h7 => ?_) (fun h7 => ?_)
        · have h7p := h7; try simp only [Option.isNone_some, Option.isNone_none, Option.isSome_some, Option.isSome_none, false_or, or_false, true_and, and_true, decide_eq_true_eq, decide_eq_false_iff_not, Bool.or_eq_true, Bool.and_eq_true, Bool.or_eq_false_iff, Bool.and_eq_false_iff, Bool.not_eq_true', Bool.not_eq_false', bne_iff_ne, beq_iff_eq, beq_eq_false_iff_ne, bne_eq_false_iff_eq, ne_eq, Decidable.not_not, Int.not_lt, Int.not_le, gt_iff_lt, ge_iff_le, Bool.true_eq_false, Bool.false_eq_true, not_true_eq_false, not_false_eq_true] at h7p
          -- region 14 law.go:99
          refine g_region ?_
          refine wl_of (op_y (wn rfl) rfl rfl S (y_move rfl S rfl) fun a S => ?_)
          refine wl_of (op_y (wn rfl) rfl rfl S (y_move rfl S rfl) fun a S => ?_)
          refine wl_of (op_buildSlice (wn rfl) rfl rfl rfl Try.underlying23 Finf3 S H (idx := [0]) rfl rfl rfl (z := [.int .i64 0]) (by kernel_rfl) (cs := [_]) rfl fun b61 a w S H => ?_)
          refine wl_of (op_append ([(k : Int)]) (wn rfl) rfl rfl rfl Try.underlying23 Finf3 rfl rfl S H rfl rfl rfl rfl (by simp) (by simp [encI]) (by simp [encI, Value.oneCell']) (by simp only [List.length_cons, List.length_nil]; omega) (by simp only [List.length_cons, List.length_nil]; omega) fun u62 a w hn62 S H => ?_)
          refine wl_of (op_y (wn rfl) rfl rfl S (y_assign rfl S rfl) fun a S => ?_)
          refine gl_nil ?_
          refine n_block ?_
          refine n_then ?_
          -- region 10 law.go:94
          refine g_region ?_
          refine wl_of (op_y (wn rfl) rfl rfl S (y_move rfl S rfl) fun a S => ?_)
          refine wl_of (op_y (wn rfl) rfl rfl S (y_add rfl S rfl rfl (by omega)) fun a S => ?_)
          refine wl_of (op_y (wn rfl) rfl rfl S (y_assign rfl S rfl) fun a S => ?_)
          refine gl_nil ?_
          refine n_then ?_
          first
          | (have hx : (k : Int) ∈ leftL (gr ps) right := by simpa using h7
             exact ⟨(k + 1, va, vb), ((S.nil.cons S 13 rfl).cons S 12 rfl).cons S 11 rfl, (((((S.nil.cons S 2 rfl).cons S 0 rfl).cons S 6 rfl).cons S 7 rfl).cons S 9 rfl).cons S 8 rfl, ⟨by dsimp only; omega, by dsimp only; rw [freeL, if_pos hx]; exact H⟩, by dsimp only; omega⟩)
          | (have hx : (k : Int) ∉ leftL (gr ps) right := by simpa using h7
             exact ⟨(k + 1, va, u62), ((S.nil.cons S 13 rfl).cons S 12 rfl).cons S 11 rfl, (((((S.nil.cons S 2 rfl).cons S 0 rfl).cons S 6 rfl).cons S 7 rfl).cons S 9 rfl).cons S 8 rfl, ⟨by dsimp only; omega, by dsimp only; rw [freeL, if_neg hx]; exact H.take [OSl 3 va 1 encI (chosen choice (k + 1)), OSl 3 u62 1 encI (freeL (leftL (gr ps) right) k ++ [(k : Int)]), Cel b9 25 [vl1, vr1], OSl 3 vl1 1 encI (leftL (gr ps) right), OSl 3 vg1 1 encI (gotL (gr ps) right), Sl v3 1 encB choice, RowsS 1 encI ps, Sl v 1 encRow ps]⟩, by dsimp only; omega⟩)
        · have h7p := h7; try simp only [Option.isNone_some, Option.isNone_none, Option.isSome_some, Option.isSome_none, false_or, or_false, true_and, and_true, decide_eq_true_eq, decide_eq_false_iff_not, Bool.or_eq_true, Bool.and_eq_true, Bool.or_eq_false_iff, Bool.and_eq_false_iff, Bool.not_eq_true', Bool.not_eq_false', bne_iff_ne, beq_iff_eq, beq_eq_false_iff_ne, bne_eq_false_iff_eq, ne_eq, Decidable.not_not, Int.not_lt, Int.not_le, gt_iff_lt, ge_iff_le, Bool.true_eq_false, Bool.false_eq_true, not_true_eq_false, not_false_eq_true] at h7p
          refine g_skip ?_
          refine n_block ?_
          refine n_then ?_
          -- region 10 law.go:94
          refine g_region ?_
          refine wl_of (op_y (wn rfl) rfl rfl S (y_move rfl S rfl) fun a S => ?_)
          refine wl_of (op_y (wn rfl) rfl rfl S (y_add rfl S rfl rfl (by omega)) fun a S => ?_)
          refine wl_of (op_y (wn rfl) rfl rfl S (y_assign rfl S rfl) fun a S => ?_)
          refine gl_nil ?_
          refine n_then ?_
          first
          | (have hx : (k : Int) ∈ leftL (gr ps) right := by simpa using h7
             exact ⟨(k + 1, va, vb), ((S.nil.cons S 13 rfl).cons S 12 rfl).cons S 11 rfl, (((((S.nil.cons S 2 rfl).cons S 0 rfl).cons S 6 rfl).cons S 7 rfl).cons S 9 rfl).cons S 8 rfl, ⟨by dsimp only; omega, by dsimp only; rw [freeL, if_pos hx]; exact H⟩, by dsimp only; omega⟩)
          | (have hx : (k : Int) ∉ leftL (gr ps) right := by simpa using h7
             exact ⟨(k + 1, va, u62), ((S.nil.cons S 13 rfl).cons S 12 rfl).cons S 11 rfl, (((((S.nil.cons S 2 rfl).cons S 0 rfl).cons S 6 rfl).cons S 7 rfl).cons S 9 rfl).cons S 8 rfl, ⟨by dsimp only; omega, by dsimp only; rw [freeL, if_neg hx]; exact H.take [OSl 3 va 1 encI (chosen choice (k + 1)), OSl 3 u62 1 encI (freeL (leftL (gr ps) right) k ++ [(k : Int)]), Cel b9 25 [vl1, vr1], OSl 3 vl1 1 encI (leftL (gr ps) right), OSl 3 vg1 1 encI (gotL (gr ps) right), Sl v3 1 encB choice, RowsS 1 encI ps, Sl v 1 encRow ps]⟩, by dsimp only; omega⟩)
      · have h4p := h4; try simp only [Option.isNone_some, Option.isNone_none, Option.isSome_some, Option.isSome_none, false_or, or_false, true_and, and_true, decide_eq_true_eq, decide_eq_false_iff_not, Bool.or_eq_true, Bool.and_eq_true, Bool.or_eq_false_iff, Bool.and_eq_false_iff, Bool.not_eq_true', Bool.not_eq_false', bne_iff_ne, beq_iff_eq, beq_eq_false_iff_ne, bne_eq_false_iff_eq, ne_eq, Decidable.not_not, Int.not_lt, Int.not_le, gt_iff_lt, ge_iff_le, Bool.true_eq_false, Bool.false_eq_true, not_true_eq_false, not_false_eq_true] at h4p
        obtain rfl : k = ps.length := by omega
        refine g_exit ?_
        refine x_then (x_then (x_eq ?_))
        refine n_then ?_
        have S := (((((S.nil.cons S 0 rfl).cons S 6 rfl).cons S 7 rfl).cons S 8 rfl).cons S 12 rfl).cons S 11 rfl
        refine g_seq ?_
        refine g_seq ?_
        -- region 15 law.go:102
        refine g_region ?_
        refine wl_of (op_y (wn rfl) rfl rfl S (y_move rfl S rfl) fun a S => ?_)
        refine wl_of (op_y (wn rfl) rfl rfl S (y_move rfl S rfl) fun a S => ?_)
        refine wl_of (op_call (wn rfl) rfl rfl S (co_func rfl Try.call17 S rfl) (size_spec v ps vg1 (gotL (gr ps) right) _ (H.sl v) (H.rwsS ps) (H.sl _)) fun v w hc a S => ?_)
        obtain ⟨rfl, he⟩ := hc
        have H := H.ext he
        refine wl_of (op_y (wn rfl) rfl rfl S (y_move rfl S rfl) fun a S => ?_)
        refine wl_of (op_y (wn rfl) rfl rfl S (y_lens rfl Try.underlying22 S H rfl) fun a S => ?_)
        refine wl_of (op_y (wn rfl) rfl rfl S (y_bin rfl S rfl rfl rfl) fun a S => ?_)
        refine gl_nil ?_
        refine n_then ?_
        have S := (((((S.nil.cons S 0 rfl).cons S 6 rfl).cons S 7 rfl).cons S 12 rfl).cons S 11 rfl).cons S 68 rfl
        -- cond 6
        refine c_if S rfl (fun h8 => ?_) (fun h8 => ?_)
        · have h8p := h8; try simp only [Option.isNone_some, Option.isNone_none, Option.isSome_some, Option.isSome_none, false_or, or_false, true_and, and_true, decide_eq_true_eq, decide_eq_false_iff_not, Bool.or_eq_true, Bool.and_eq_true, Bool.or_eq_false_iff, Bool.and_eq_false_iff, Bool.not_eq_true', Bool.not_eq_false', bne_iff_ne, beq_iff_eq, beq_eq_false_iff_ne, bne_eq_false_iff_eq, ne_eq, Decidable.not_not, Int.not_lt, Int.not_le, gt_iff_lt, ge_iff_le, Bool.true_eq_false, Bool.false_eq_true, not_true_eq_false, not_false_eq_true] at h8p
          have hx := h8p
          rw [sizeL_yes (match_isM hvg)] at hx
          have hxx := hlaw.1 (by omega)
          refine g_seq ?_
          -- region 16 law.go:103
          refine g_region ?_
          refine wl_of (op_y (wn rfl) rfl rfl S (y_move rfl S rfl) fun a S => ?_)
          refine wl_of (op_y (wn rfl) rfl rfl S (y_move rfl S rfl) fun a S => ?_)
          refine wl_of (op_y (wg' 70 rfl rfl S rfl rfl rfl) rfl rfl S (y_move rfl S rfl) fun a S => ?_)
          refine wl_of (op_y (wg' 70 rfl rfl S rfl rfl rfl) rfl rfl S (y_move rfl S rfl) fun a S => ?_)
          refine wl_of (op_call (wg' 70 rfl rfl S rfl rfl rfl) rfl rfl S (co_func rfl Try.call21 S rfl) (neighbours_spec v ps right va (chosen choice ps.length) _ (H.sl v) (H.rwsS ps) (H.sl va) hvg (chosen_in _ _)) fun v w hc a S => ?_)
          obtain ⟨rfl, he⟩ := hc
          have H := H.ext he
          refine wl_of (op_y (wg' 70 rfl rfl S rfl rfl rfl) rfl rfl S (y_move rfl S rfl) fun a S => ?_)
          refine wl_of (op_y (wg' 70 rfl rfl S rfl rfl rfl) rfl rfl S (y_lens rfl Try.underlying23 S H rfl) fun a S => ?_)
          refine wl_of (op_y (wg' 70 rfl rfl S rfl rfl rfl) rfl rfl S (y_bin rfl S rfl rfl rfl) fun a S => ?_)
          refine wl_of (op_y (wn rfl) rfl rfl S (y_and' rfl rfl S rfl rfl) fun a S => ?_)
          refine wl_of (op_y (wn rfl) rfl rfl S (y_assign rfl S rfl) fun a S => ?_)
          refine gl_nil ?_
          refine n_then ?_
          have S := (((S.nil.cons S 0 rfl).cons S 7 rfl).cons S 12 rfl).cons S 6 rfl
          refine g_ret ?_
          refine r_then (ret1 rfl S rfl ?_)
          exact ⟨congrArg Value.bool (decide_eq_true (show ((nbL (gr ps) [] (chosen choice ps.length)).length : Int) ≥ (chosen choice ps.length).length by omega)), H.toExt⟩
        · have h8p := h8; try simp only [Option.isNone_some, Option.isNone_none, Option.isSome_some, Option.isSome_none, false_or, or_false, true_and, and_true, decide_eq_true_eq, decide_eq_false_iff_not, Bool.or_eq_true, Bool.and_eq_true, Bool.or_eq_false_iff, Bool.and_eq_false_iff, Bool.not_eq_true', Bool.not_eq_false', bne_iff_ne, beq_iff_eq, beq_eq_false_iff_ne, bne_eq_false_iff_eq, ne_eq, Decidable.not_not, Int.not_lt, Int.not_le, gt_iff_lt, ge_iff_le, Bool.true_eq_false, Bool.false_eq_true, not_true_eq_false, not_false_eq_true] at h8p
          have hx := h8p
          rw [sizeL_yes (match_isM hvg)] at hx
          have hxx := hlaw.2 (by omega)
          refine g_skip ?_
          refine n_then ?_
          refine g_seq ?_
          -- region 17 law.go:105
          refine g_region ?_
          refine wl_of (op_y (wn rfl) rfl rfl S (y_move rfl S rfl) fun a S => ?_)
          refine wl_of (op_y (wn rfl) rfl rfl S (y_move rfl S rfl) fun a S => ?_)
          refine wl_of (op_y (wg' 79 rfl rfl S rfl rfl rfl) rfl rfl S (y_move rfl S rfl) fun a S => ?_)
          refine wl_of (op_y (wg' 79 rfl rfl S rfl rfl rfl) rfl rfl S (y_move rfl S rfl) fun a S => ?_)
          refine wl_of (op_call (wg' 79 rfl rfl S rfl rfl rfl) rfl rfl S (co_func rfl Try.call21 S rfl) (neighbours_spec v ps right vb (freeL (leftL (gr ps) right) ps.length) _ (H.sl v) (H.rwsS ps) (H.sl vb) hvg (fun i hi => by have := (freeL_in _ _ _).1 hi; exact ⟨this.1, this.2.1⟩)) fun v w hc a S => ?_)
          obtain ⟨rfl, he⟩ := hc
          have H := H.ext he
          refine wl_of (op_y (wg' 79 rfl rfl S rfl rfl rfl) rfl rfl S (y_move rfl S rfl) fun a S => ?_)
          refine wl_of (op_y (wg' 79 rfl rfl S rfl rfl rfl) rfl rfl S (y_lens rfl Try.underlying23 S H rfl) fun a S => ?_)
          refine wl_of (op_y (wg' 79 rfl rfl S rfl rfl rfl) rfl rfl S (y_bin rfl S rfl rfl rfl) fun a S => ?_)
          refine wl_of (op_y (wn rfl) rfl rfl S (y_and' rfl rfl S rfl rfl) fun a S => ?_)
          refine wl_of (op_y (wn rfl) rfl rfl S (y_assign rfl S rfl) fun a S => ?_)
          refine gl_nil ?_
          refine n_then ?_
          have S := S.nil.cons S 6 rfl
          refine g_ret ?_
          refine ret1 rfl S rfl ?_
          exact ⟨congrArg Value.bool (decide_eq_true (show ((nbL (gr ps) [] (freeL (leftL (gr ps) right) ps.length)).length : Int) < (freeL (leftL (gr ps) right) ps.length).length by omega)), H.toExt⟩

end Go.Proofs.Ytaiohhcjbdjgfaa
