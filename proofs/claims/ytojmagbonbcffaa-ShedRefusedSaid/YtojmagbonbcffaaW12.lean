/- The walks. No condition. -/
import Derived.Test.YtojmagbonbcffaaChecked
import Derived.Test.YtojmagbonbcffaaGwMap
import Derived.Test.YtojmagbonbcffaaFacts
import Derived.Test.YtojmagbonbcffaaPlain
import Derived.Test.YtojmagbonbcffaaW11
namespace Go.Proofs.Ytojmagbonbcffaa
open Go Go.Gw
set_option linter.unusedVariables false
set_option linter.unusedSimpArgs false
set_option maxHeartbeats 4000000 in
/-- foyer/foyerlaw49.ShedSpans -/
theorem law5 (sp ra rb rc rm : Int) (v1 v2 : Value) (l1 l2 : List Ask) (w0 : World) (hs : 0 ≤ sp ∧ sp ≤ 255) (ha : 0 ≤ ra ∧ ra ≤ 255) (hb : 0 ≤ rb ∧ rb ≤ 255) (hc : 0 ≤ rc ∧ rc ≤ 255) (hm : 0 ≤ rm ∧ rm ≤ 255) (hv1 : IsSl w0 v1 3 Ask.enc l1) (hv2 : IsSl w0 v2 3 Ask.enc l2) :
    Ret Try.prog 7 #[.int .u8 sp, .int .u8 ra, .int .u8 rb, .int .u8 rc, .int .u8 rm, v1, v2] w0 (fun v w => v = .bool true ∧ Ext w0 w) := by
  refine ret_of_wp (n := 147) Try.func7 rfl rfl rfl (fl := [(0, .int .u8 sp), (1, .int .u8 ra), (2, .int .u8 rb), (3, .int .u8 rc), (4, .int .u8 rm), (5, v1), (6, v2)]) rfl (fun a S => ?_)
  have H := HSat.start w0
  have hok := door_ok hs ha hb hc hm
  have H := H.ro0 (Sl v1 3 Ask.enc l1) rfl (hv1)
  have H := H.ro0 (Sl v2 3 Ask.enc l2) rfl (hv2)
  refine wp_seq ?_
  -- region 0 law.go:143
  refine wp_region_lit ?_
  refine wl_of (op_y (wn rfl) rfl rfl S (y_assign rfl S rfl) fun a S => ?_)
  refine wpList_nil ?_
  refine n_then ?_
  refine wp_seq ?_
  -- region 1 law.go:144
  refine wp_region_lit ?_
  refine wl_of (op_call (wn rfl) rfl rfl S (co_func rfl Try.call9 S rfl) (head_spec _) fun v w hc a S => ?_)
  obtain ⟨rfl, he⟩ := hc
  have H := H.ext he
  refine wl_of (op_y (wn rfl) rfl rfl S (y_assign rfl S rfl) fun a S => ?_)
  refine wpList_nil ?_
  refine n_then ?_
  refine wp_seq ?_
  -- region 2 law.go:145
  refine wp_region_lit ?_
  refine wl_of (op_y (wn rfl) rfl rfl S (y_move rfl S rfl) fun a S => ?_)
  refine wl_of (op_y (wn rfl) rfl rfl S (y_move rfl S rfl) fun a S => ?_)
  refine wl_of (op_y (wn rfl) rfl rfl S (y_move rfl S rfl) fun a S => ?_)
  refine wl_of (op_y (wn rfl) rfl rfl S (y_move rfl S rfl) fun a S => ?_)
  refine wl_of (op_y (wn rfl) rfl rfl S (y_move rfl S rfl) fun a S => ?_)
  refine wl_of (op_call (wn rfl) rfl rfl S (co_func rfl Try.call17 S rfl) (door_spec sp ra rb rc rm _ hs ha hb hc hm) fun v w hc a S => ?_)
  obtain ⟨d1, vr1, vl1, vp1, bs1, rfl, H1⟩ := hc
  have H := H.call2 H1 rfl rfl
  refine wl_of (op_y (wn rfl) rfl rfl S (y_move rfl S rfl) fun a S => ?_)
  refine wl_of (op_y (wn rfl) rfl rfl S (y_extract rfl S rfl rfl) fun a S => ?_)
  refine wl_of (op_y (wn rfl) rfl rfl S (y_extract rfl S rfl rfl) fun a S => ?_)
  refine wl_of (op_y (wn rfl) rfl rfl S (y_extract rfl S rfl rfl) fun a S => ?_)
  refine wl_of (op_y (wn rfl) rfl rfl S (y_extract rfl S rfl rfl) fun a S => ?_)
  refine wl_of (op_y (wn rfl) rfl rfl S (y_assign rfl S rfl) fun a S => ?_)
  refine wl_of (op_y (wn rfl) rfl rfl S (y_assign rfl S rfl) fun a S => ?_)
  refine wl_of (op_y (wn rfl) rfl rfl S (y_assign rfl S rfl) fun a S => ?_)
  refine wl_of (op_y (wn rfl) rfl rfl S (y_assign rfl S rfl) fun a S => ?_)
  refine wpList_nil ?_
  refine n_then ?_
  have S := ((((((((((S.nil.cons S 6 rfl).cons S 5 rfl).cons S 4 rfl).cons S 3 rfl).cons S 2 rfl).cons S 1 rfl).cons S 0 rfl).cons S 14 rfl).cons S 15 rfl).cons S 16 rfl).cons S 19 rfl
  refine wp_seq ?_
  -- region 3 law.go:146
  refine wp_region_lit ?_
  refine wl_of (op_y (wn rfl) rfl rfl S (y_move rfl S rfl) fun a S => ?_)
  refine wl_of (op_y (wn rfl) rfl rfl S (y_move rfl S rfl) fun a S => ?_)
  refine wl_of (op_y (wn rfl) rfl rfl S (y_move rfl S rfl) fun a S => ?_)
  refine wl_of (op_y (wn rfl) rfl rfl S (y_move rfl S rfl) fun a S => ?_)
  refine wl_of (op_y (wn rfl) rfl rfl S (y_move rfl S rfl) fun a S => ?_)
  refine wl_of (op_call (wn rfl) rfl rfl S (co_func rfl Try.call17 S rfl) (door_spec sp ra rb rc rm _ hs ha hb hc hm) fun v w hc a S => ?_)
  obtain ⟨d2, vr2, vl2, vp2, bs2, rfl, H1⟩ := hc
  have H := H.call2 H1 rfl rfl
  refine wl_of (op_y (wn rfl) rfl rfl S (y_move rfl S rfl) fun a S => ?_)
  refine wl_of (op_y (wn rfl) rfl rfl S (y_extract rfl S rfl rfl) fun a S => ?_)
  refine wl_of (op_y (wn rfl) rfl rfl S (y_extract rfl S rfl rfl) fun a S => ?_)
  refine wl_of (op_y (wn rfl) rfl rfl S (y_extract rfl S rfl rfl) fun a S => ?_)
  refine wl_of (op_y (wn rfl) rfl rfl S (y_extract rfl S rfl rfl) fun a S => ?_)
  refine wl_of (op_y (wn rfl) rfl rfl S (y_assign rfl S rfl) fun a S => ?_)
  refine wl_of (op_y (wn rfl) rfl rfl S (y_assign rfl S rfl) fun a S => ?_)
  refine wl_of (op_y (wn rfl) rfl rfl S (y_assign rfl S rfl) fun a S => ?_)
  refine wl_of (op_y (wn rfl) rfl rfl S (y_assign rfl S rfl) fun a S => ?_)
  refine wpList_nil ?_
  refine n_then ?_
  have S := ((((((((S.nil.cons S 6 rfl).cons S 5 rfl).cons S 0 rfl).cons S 14 rfl).cons S 15 rfl).cons S 16 rfl).cons S 19 rfl).cons S 20 rfl).cons S 23 rfl
  refine wp_seq ?_
  refine wp_seq ?_
  -- region 4 law.go:147
  refine wp_region_lit ?_
  refine wl_of (op_y (wn rfl) rfl rfl S (y_move rfl S rfl) fun a S => ?_)
  refine wl_of (op_y (wn rfl) rfl rfl S (y_not rfl S rfl) fun a S => ?_)
  refine wl_of (op_y (wn rfl) rfl rfl S (y_move rfl S rfl) fun a S => ?_)
  refine' wl_or 2 55 rfl S H rfl rfl rfl rfl rfl rfl rfl (fun _ S => (wn rfl)) (fun h1 kk => ?yh1) (fun a w S H => ?_)
  case yh1 =>
    have h1p := h1; try simp only [Option.isNone_some, Option.isNone_none, Option.isSome_some, Option.isSome_none, false_or, or_false, true_and, and_true, decide_eq_true_eq, decide_eq_false_iff_not, Bool.or_eq_true, Bool.and_eq_true, Bool.or_eq_false_iff, Bool.and_eq_false_iff, Bool.not_eq_true', Bool.not_eq_false', bne_iff_ne, beq_iff_eq, beq_eq_false_iff_ne, bne_eq_false_iff_eq, ne_eq, Decidable.not_not, Int.not_lt, Int.not_le, gt_iff_lt, ge_iff_le, Bool.true_eq_false, Bool.false_eq_true, not_true_eq_false, not_false_eq_true] at h1p
    refine wl_of (op_y (wg' 55 rfl rfl S rfl h1 rfl) rfl rfl S (y_move rfl S rfl) fun a S => ?_)
    refine wl_of (op_y (wg' 55 rfl rfl S rfl h1 rfl) rfl rfl S (y_not rfl S rfl) fun a S => ?_)
    refine wl_of (op_y (wn rfl) rfl rfl S (y_or' rfl h1 S rfl rfl) fun a S => ?_)
    exact kk _ _ (S.join 3 58 rfl rfl) H
  refine wpList_nil ?_
  refine n_then ?_
  have S := (((((((S.nil.cons S 6 rfl).cons S 5 rfl).cons S 0 rfl).cons S 14 rfl).cons S 15 rfl).cons S 16 rfl).cons S 20 rfl).cons S 58 rfl
  -- cond 1
  refine c_if S rfl (fun h2 => ?_) (fun h2 => ?_)
  · have h2p := h2; try simp only [Option.isNone_some, Option.isNone_none, Option.isSome_some, Option.isSome_none, false_or, or_false, true_and, and_true, decide_eq_true_eq, decide_eq_false_iff_not, Bool.or_eq_true, Bool.and_eq_true, Bool.or_eq_false_iff, Bool.and_eq_false_iff, Bool.not_eq_true', Bool.not_eq_false', bne_iff_ne, beq_iff_eq, beq_eq_false_iff_ne, bne_eq_false_iff_eq, ne_eq, Decidable.not_not, Int.not_lt, Int.not_le, gt_iff_lt, ge_iff_le, Bool.true_eq_false, Bool.false_eq_true, not_true_eq_false, not_false_eq_true] at h2p
    all_goals (
      exact absurd h2 (by simp))
  · have h2p := h2; try simp only [Option.isNone_some, Option.isNone_none, Option.isSome_some, Option.isSome_none, false_or, or_false, true_and, and_true, decide_eq_true_eq, decide_eq_false_iff_not, Bool.or_eq_true, Bool.and_eq_true, Bool.or_eq_false_iff, Bool.and_eq_false_iff, Bool.not_eq_true', Bool.not_eq_false', bne_iff_ne, beq_iff_eq, beq_eq_false_iff_ne, bne_eq_false_iff_eq, ne_eq, Decidable.not_not, Int.not_lt, Int.not_le, gt_iff_lt, ge_iff_le, Bool.true_eq_false, Bool.false_eq_true, not_true_eq_false, not_false_eq_true] at h2p
    refine wp_skip ?_
    refine n_then ?_
    refine wp_seq ?_
    refine wp_seq ?_
    -- region 6 law.go:150
    refine wp_region_lit ?_
    refine wl_of (op_y (wn rfl) rfl rfl S (y_move rfl S rfl) fun a S => ?_)
    refine wl_of (op_y (wn rfl) rfl rfl S (y_lens rfl Try.underlying23 S H rfl) fun a S => ?_)
    refine wl_of (op_y (wn rfl) rfl rfl S (y_bin rfl S rfl rfl rfl) fun a S => ?_)
    refine wl_of (op_y (wn rfl) rfl rfl S (y_move rfl S rfl) fun a S => ?_)
    refine' wl_or 3 62 rfl S H rfl rfl rfl rfl rfl rfl rfl (fun _ S => (wn rfl)) (fun h3 kk => ?yh3) (fun a w S H => ?_)
    case yh3 =>
      have h3p := h3; try simp only [Option.isNone_some, Option.isNone_none, Option.isSome_some, Option.isSome_none, false_or, or_false, true_and, and_true, decide_eq_true_eq, decide_eq_false_iff_not, Bool.or_eq_true, Bool.and_eq_true, Bool.or_eq_false_iff, Bool.and_eq_false_iff, Bool.not_eq_true', Bool.not_eq_false', bne_iff_ne, beq_iff_eq, beq_eq_false_iff_ne, bne_eq_false_iff_eq, ne_eq, Decidable.not_not, Int.not_lt, Int.not_le, gt_iff_lt, ge_iff_le, Bool.true_eq_false, Bool.false_eq_true, not_true_eq_false, not_false_eq_true] at h3p
      refine wl_of (op_y (wg' 62 rfl rfl S rfl h3 rfl) rfl rfl S (y_move rfl S rfl) fun a S => ?_)
      refine wl_of (op_y (wg' 62 rfl rfl S rfl h3 rfl) rfl rfl S (y_lens rfl Try.underlying23 S H rfl) fun a S => ?_)
      refine wl_of (op_y (wg' 62 rfl rfl S rfl h3 rfl) rfl rfl S (y_bin rfl S rfl rfl rfl) fun a S => ?_)
      refine wl_of (op_y (wn rfl) rfl rfl S (y_or' rfl h3 S rfl rfl) fun a S => ?_)
      exact kk _ _ (S.join 4 66 rfl rfl) H
    refine wpList_nil ?_
    refine n_then ?_
    have S := (((((((S.nil.cons S 6 rfl).cons S 5 rfl).cons S 0 rfl).cons S 14 rfl).cons S 15 rfl).cons S 16 rfl).cons S 20 rfl).cons S 66 rfl
    -- cond 2
    refine c_if S rfl (fun h4 => ?_) (fun h4 => ?_)
    · have h4p := h4; try simp only [Option.isNone_some, Option.isNone_none, Option.isSome_some, Option.isSome_none, false_or, or_false, true_and, and_true, decide_eq_true_eq, decide_eq_false_iff_not, Bool.or_eq_true, Bool.and_eq_true, Bool.or_eq_false_iff, Bool.and_eq_false_iff, Bool.not_eq_true', Bool.not_eq_false', bne_iff_ne, beq_iff_eq, beq_eq_false_iff_ne, bne_eq_false_iff_eq, ne_eq, Decidable.not_not, Int.not_lt, Int.not_le, gt_iff_lt, ge_iff_le, Bool.true_eq_false, Bool.false_eq_true, not_true_eq_false, not_false_eq_true] at h4p
      refine wp_seq ?_
      -- region 7 law.go:151
      refine wp_region_lit ?_
      refine wl_of (op_y (wn rfl) rfl rfl S (y_move rfl S rfl) fun a S => ?_)
      refine wl_of (op_y (wn rfl) rfl rfl S (y_assign rfl S rfl) fun a S => ?_)
      refine wpList_nil ?_
      refine n_then ?_
      refine wp_ret ?_
      refine r_then (ret1 rfl S rfl ?_)
      exact ⟨rfl, H.toExt⟩
    · have h4p := h4; try simp only [Option.isNone_some, Option.isNone_none, Option.isSome_some, Option.isSome_none, false_or, or_false, true_and, and_true, decide_eq_true_eq, decide_eq_false_iff_not, Bool.or_eq_true, Bool.and_eq_true, Bool.or_eq_false_iff, Bool.and_eq_false_iff, Bool.not_eq_true', Bool.not_eq_false', bne_iff_ne, beq_iff_eq, beq_eq_false_iff_ne, bne_eq_false_iff_eq, ne_eq, Decidable.not_not, Int.not_lt, Int.not_le, gt_iff_lt, ge_iff_le, Bool.true_eq_false, Bool.false_eq_true, not_true_eq_false, not_false_eq_true] at h4p
      refine wp_skip ?_
      refine n_then ?_
      refine wp_seq ?_
      -- region 8 law.go:153
      refine wp_region_lit ?_
      refine wl_of (op_y (wn rfl) rfl rfl S (y_move rfl S rfl) fun a S => ?_)
      refine wl_of (op_y (wn rfl) rfl rfl S (y_conv rfl Try.underlying5 Try.underlying3 S rfl (by omega)) fun a S => ?_)
      refine wl_of (op_y (wn rfl) rfl rfl S (y_remn rfl S rfl rfl (by omega) (by omega)) fun a S => ?_)
      refine wl_of (op_y (wn rfl) rfl rfl S (y_add rfl S rfl rfl (by omega)) fun a S => ?_)
      refine wl_of (op_y (wn rfl) rfl rfl S (y_assign rfl S rfl) fun a S => ?_)
      refine wpList_nil ?_
      refine n_then ?_
      have S := ((((((S.nil.cons S 6 rfl).cons S 5 rfl).cons S 14 rfl).cons S 15 rfl).cons S 16 rfl).cons S 20 rfl).cons S 24 rfl
      refine wp_seq ?_
      -- region 9 law.go:154
      refine wp_region_lit ?_
      refine wl_of (op_y (wn rfl) rfl rfl S (y_move rfl S rfl) fun a S => ?_)
      refine wl_of (op_y (wn rfl) rfl rfl S (y_mul rfl S rfl rfl (by omega)) fun a S => ?_)
      refine wl_of (op_y (wn rfl) rfl rfl S (y_assign rfl S rfl) fun a S => ?_)
      refine wpList_nil ?_
      refine n_then ?_
      refine wp_seq ?_
      refine wp_seq ?_
      -- region 10 law.go:155
      refine wp_region_lit ?_
      refine wl_of (op_y (wn rfl) rfl rfl S (y_assign rfl S rfl) fun a S => ?_)
      refine wpList_nil ?_
      refine n_then ?_
      refine wp_block ?_
      have SU := (((((((S.nil.cons S 6 rfl).cons S 5 rfl).cons S 14 rfl).cons S 15 rfl).cons S 16 rfl).cons S 20 rfl).cons S 24 rfl).cons S 25 rfl
      refine loopW (X := Nat) SU (fun k => [(26, .int .i64 (k : Int))]) (fun k w => k ≤ l1.length ∧ ∃ s, s.WF k ∧ OfD s (1 + sp % 20) [ra % 6, rb % 6, rc % 6] (max 1 (ra % 6 + rb % 6 + rc % 6 + rm % 8)) ∧ s.now < 50 * (1 + sp % 20) ∧ HSat No w0 [DoorA d2 (newDS (1 + sp % 20) [ra % 6, rb % 6, rc % 6] (max 1 (ra % 6 + rb % 6 + rc % 6 + rm % 8))) vr2 vl2 vp2, DoorA d1 s vr1 vl1 vp1, Sl v2 3 Ask.enc l2, Sl v1 3 Ask.enc l1] w) (fun k => l1.length - k) 0 (S.nil.cons S 26 rfl) (⟨by omega, _, new_wf hok, of_new _ _ _, by simp only [newDS]; omega, H.take [DoorA d2 (newDS (1 + sp % 20) [ra % 6, rb % 6, rc % 6] (max 1 (ra % 6 + rb % 6 + rc % 6 + rm % 8))) vr2 vl2 vp2, DoorA d1 (newDS (1 + sp % 20) [ra % 6, rb % 6, rc % 6] (max 1 (ra % 6 + rb % 6 + rc % 6 + rm % 8))) vr1 vl1 vp1, Sl v2 3 Ask.enc l2, Sl v1 3 Ask.enc l1]⟩) (fun k a w S hW => ?_)
      simp only [List.cons_append, List.nil_append] at S
      obtain ⟨hk, s, hws, hof, hnw, H⟩ := hW
      refine wp_seq ?_
      refine wp_seq ?_
      -- region 11 law.go:155
      refine wp_region_lit ?_
      refine wl_of (op_y (wn rfl) rfl rfl S (y_move rfl S rfl) fun a S => ?_)
      refine wl_of (op_y (wn rfl) rfl rfl S (y_move rfl S rfl) fun a S => ?_)
      refine wl_of (op_y (wn rfl) rfl rfl S (y_lens rfl Try.underlying23 S H rfl) fun a S => ?_)
      refine wl_of (op_y (wn rfl) rfl rfl S (y_bin rfl S rfl rfl rfl) fun a S => ?_)
      refine wpList_nil ?_
      refine n_then ?_
      -- cond 3
      refine c_if S rfl (fun h5 => ?_) (fun h5 => ?_)
      · have h5p := h5; try simp only [Option.isNone_some, Option.isNone_none, Option.isSome_some, Option.isSome_none, false_or, or_false, true_and, and_true, decide_eq_true_eq, decide_eq_false_iff_not, Bool.or_eq_true, Bool.and_eq_true, Bool.or_eq_false_iff, Bool.and_eq_false_iff, Bool.not_eq_true', Bool.not_eq_false', bne_iff_ne, beq_iff_eq, beq_eq_false_iff_ne, bne_eq_false_iff_eq, ne_eq, Decidable.not_not, Int.not_lt, Int.not_le, gt_iff_lt, ge_iff_le, Bool.true_eq_false, Bool.false_eq_true, not_true_eq_false, not_false_eq_true] at h5p
        refine wp_skip ?_
        refine n_then ?_
        refine wp_seq ?_
        refine wp_block ?_
        refine wp_seq ?_
        -- region 13 law.go:156
        refine wp_region_lit ?_
        refine wl_of (op_y (wn rfl) rfl rfl S (y_move rfl S rfl) fun a S => ?_)
        refine wl_of (op_y (wn rfl) rfl rfl S (y_move rfl S rfl) fun a S => ?_)
        refine wl_of (op_y (wn rfl) rfl rfl S (y_iaddrn rfl Try.underlying23 Fsiz34 S H rfl rfl (by first | omega | (simp only [List.length_append, List.length_take, List.length_drop, List.length_replicate, List.length_set, List.length_map, List.length_cons, List.length_nil]; omega))) fun a S => ?_)
        refine wl_of (op_y (wn rfl) rfl rfl S (y_faddr rfl Ffo34_2 S rfl) fun a S => ?_)
        refine wl_of (op_y (wn rfl) rfl rfl S (y_loadsf _ rfl Fsca3 S H rfl (by first | omega | (simp only [List.length_append, List.length_take, List.length_drop, List.length_replicate, List.length_set, List.length_map, List.length_cons, List.length_nil]; omega)) rfl) fun a S => ?_)
        refine wl_of (op_y (wn rfl) rfl rfl S (y_move rfl S rfl) fun a S => ?_)
        refine wl_of (op_y (wn rfl) rfl rfl S (y_bin rfl S rfl rfl rfl) fun a S => ?_)
        refine wpList_nil ?_
        refine n_then ?_
        -- cond 4 (both ways go on)
        refine c_if S rfl (fun h6 => ?_) (fun h6 => ?_)
        · have h6p := h6; try simp only [Option.isNone_some, Option.isNone_none, Option.isSome_some, Option.isSome_none, false_or, or_false, true_and, and_true, decide_eq_true_eq, decide_eq_false_iff_not, Bool.or_eq_true, Bool.and_eq_true, Bool.or_eq_false_iff, Bool.and_eq_false_iff, Bool.not_eq_true', Bool.not_eq_false', bne_iff_ne, beq_iff_eq, beq_eq_false_iff_ne, bne_eq_false_iff_eq, ne_eq, Decidable.not_not, Int.not_lt, Int.not_le, gt_iff_lt, ge_iff_le, Bool.true_eq_false, Bool.false_eq_true, not_true_eq_false, not_false_eq_true] at h6p
          have hn1 := offer_now l1[k].cls l1[k].basket l1[k].now hnw h6p
          -- region 14 DRAWS law.go:157
          refine region_st (loud := [16]) (tails := [16]) (free := []) [0, 1, 2, 3, 4, 5, 6, 7, 8, 9, 10, 11, 12, 13, 14, 15, 16] [Sl v1 3 Ask.enc l1] Fmo (by kernel_rfl) (by kernel_rfl) rfl H ?_
          refine m_w rfl rfl (wn rfl) rfl rfl S (fun w H => y_move rfl S rfl) fun a S => ?_
          refine m_w rfl rfl (wn rfl) rfl rfl S (fun w H => y_move rfl S rfl) fun a S => ?_
          refine m_w rfl rfl (wn rfl) rfl rfl S (fun w H => y_move rfl S rfl) fun a S => ?_
          refine m_w rfl rfl (wn rfl) rfl rfl S (fun w H => y_iaddrn rfl Try.underlying23 Fsiz34 S H rfl rfl (by first | omega | (simp only [List.length_append, List.length_take, List.length_drop, List.length_replicate, List.length_set, List.length_map, List.length_cons, List.length_nil]; omega))) fun a S => ?_
          refine m_w rfl rfl (wn rfl) rfl rfl S (fun w H => y_faddr rfl Ffo34_0 S rfl) fun a S => ?_
          refine m_loadsf _ rfl rfl (wn rfl) rfl rfl S rfl Fsca3 rfl (by first | omega | (simp only [List.length_append, List.length_take, List.length_drop, List.length_replicate, List.length_set, List.length_map, List.length_cons, List.length_nil]; omega)) rfl fun a S => ?_
          refine m_w rfl rfl (wn rfl) rfl rfl S (fun w H => y_move rfl S rfl) fun a S => ?_
          refine m_w rfl rfl (wn rfl) rfl rfl S (fun w H => y_move rfl S rfl) fun a S => ?_
          refine m_w rfl rfl (wn rfl) rfl rfl S (fun w H => y_iaddrn rfl Try.underlying23 Fsiz34 S H rfl rfl (by first | omega | (simp only [List.length_append, List.length_take, List.length_drop, List.length_replicate, List.length_set, List.length_map, List.length_cons, List.length_nil]; omega))) fun a S => ?_
          refine m_w rfl rfl (wn rfl) rfl rfl S (fun w H => y_faddr rfl Ffo34_1 S rfl) fun a S => ?_
          refine m_loadsf _ rfl rfl (wn rfl) rfl rfl S rfl Fsca3 rfl (by first | omega | (simp only [List.length_append, List.length_take, List.length_drop, List.length_replicate, List.length_set, List.length_map, List.length_cons, List.length_nil]; omega)) rfl fun a S => ?_
          refine m_w rfl rfl (wn rfl) rfl rfl S (fun w H => y_move rfl S rfl) fun a S => ?_
          refine m_w rfl rfl (wn rfl) rfl rfl S (fun w H => y_move rfl S rfl) fun a S => ?_
          refine m_w rfl rfl (wn rfl) rfl rfl S (fun w H => y_iaddrn rfl Try.underlying23 Fsiz34 S H rfl rfl (by first | omega | (simp only [List.length_append, List.length_take, List.length_drop, List.length_replicate, List.length_set, List.length_map, List.length_cons, List.length_nil]; omega))) fun a S => ?_
          refine m_w rfl rfl (wn rfl) rfl rfl S (fun w H => y_faddr rfl Ffo34_2 S rfl) fun a S => ?_
          refine m_loadsf _ rfl rfl (wn rfl) rfl rfl S rfl Fsca3 rfl (by first | omega | (simp only [List.length_append, List.length_take, List.length_drop, List.length_replicate, List.length_set, List.length_map, List.length_cons, List.length_nil]; omega)) rfl fun a S => ?_
          refine m_l rfl rfl (fun w H => op_call (wn rfl) rfl rfl S (co_func rfl Try.call12 S rfl) (Ret.at_ (x := DoorA d1 s vr1 vl1 vp1) H (fun H => offer_spec d1 s vr1 vl1 vp1 _ _ _ k _ H hws (by omega))) fun v w hc a S => ?_)
          obtain ⟨rfl, H⟩ := hc
          
          refine m_tail H rfl ?_
          refine m_nil (fun w H => ?_)
          refine n_block ?_
          refine n_then ?_
          -- region 12 law.go:155
          refine wp_region_lit ?_
          refine wl_of (op_y (wn rfl) rfl rfl S (y_move rfl S rfl) fun a S => ?_)
          refine wl_of (op_y (wn rfl) rfl rfl S (y_add rfl S rfl rfl (by omega)) fun a S => ?_)
          refine wl_of (op_y (wn rfl) rfl rfl S (y_assign rfl S rfl) fun a S => ?_)
          refine wpList_nil ?_
          refine n_then ?_
          first | exact ⟨k + 1, S.nil.cons S 26 rfl, (((((((S.nil.cons S 6 rfl).cons S 5 rfl).cons S 14 rfl).cons S 15 rfl).cons S 16 rfl).cons S 20 rfl).cons S 24 rfl).cons S 25 rfl, ⟨by omega, _, offer_wf hws l1[k].cls l1[k].basket l1[k].now, of_offer hof _ _ _, hn1, H⟩, by omega⟩ | exact ⟨k + 1, S.nil.cons S 26 rfl, (((((((S.nil.cons S 6 rfl).cons S 5 rfl).cons S 14 rfl).cons S 15 rfl).cons S 16 rfl).cons S 20 rfl).cons S 24 rfl).cons S 25 rfl, ⟨by omega, _, WF.more hws, hof, hnw, H⟩, by omega⟩
        · have h6p := h6; try simp only [Option.isNone_some, Option.isNone_none, Option.isSome_some, Option.isSome_none, false_or, or_false, true_and, and_true, decide_eq_true_eq, decide_eq_false_iff_not, Bool.or_eq_true, Bool.and_eq_true, Bool.or_eq_false_iff, Bool.and_eq_false_iff, Bool.not_eq_true', Bool.not_eq_false', bne_iff_ne, beq_iff_eq, beq_eq_false_iff_ne, bne_eq_false_iff_eq, ne_eq, Decidable.not_not, Int.not_lt, Int.not_le, gt_iff_lt, ge_iff_le, Bool.true_eq_false, Bool.false_eq_true, not_true_eq_false, not_false_eq_true] at h6p
          refine wp_skip ?_
          refine n_block ?_
          refine n_then ?_
          -- region 12 law.go:155
          refine wp_region_lit ?_
          refine wl_of (op_y (wn rfl) rfl rfl S (y_move rfl S rfl) fun a S => ?_)
          refine wl_of (op_y (wn rfl) rfl rfl S (y_add rfl S rfl rfl (by omega)) fun a S => ?_)
          refine wl_of (op_y (wn rfl) rfl rfl S (y_assign rfl S rfl) fun a S => ?_)
          refine wpList_nil ?_
          refine n_then ?_
          first | exact ⟨k + 1, S.nil.cons S 26 rfl, (((((((S.nil.cons S 6 rfl).cons S 5 rfl).cons S 14 rfl).cons S 15 rfl).cons S 16 rfl).cons S 20 rfl).cons S 24 rfl).cons S 25 rfl, ⟨by omega, _, offer_wf hws l1[k].cls l1[k].basket l1[k].now, of_offer hof _ _ _, hn1, H⟩, by omega⟩ | exact ⟨k + 1, S.nil.cons S 26 rfl, (((((((S.nil.cons S 6 rfl).cons S 5 rfl).cons S 14 rfl).cons S 15 rfl).cons S 16 rfl).cons S 20 rfl).cons S 24 rfl).cons S 25 rfl, ⟨by omega, _, WF.more hws, hof, hnw, H⟩, by omega⟩
      · have h5p := h5; try simp only [Option.isNone_some, Option.isNone_none, Option.isSome_some, Option.isSome_none, false_or, or_false, true_and, and_true, decide_eq_true_eq, decide_eq_false_iff_not, Bool.or_eq_true, Bool.and_eq_true, Bool.or_eq_false_iff, Bool.and_eq_false_iff, Bool.not_eq_true', Bool.not_eq_false', bne_iff_ne, beq_iff_eq, beq_eq_false_iff_ne, bne_eq_false_iff_eq, ne_eq, Decidable.not_not, Int.not_lt, Int.not_le, gt_iff_lt, ge_iff_le, Bool.true_eq_false, Bool.false_eq_true, not_true_eq_false, not_false_eq_true] at h5p
        refine wp_exit ?_
        refine x_then (x_then (x_eq ?_))
        refine n_then ?_
        have S := ((((((S.nil.cons S 6 rfl).cons S 14 rfl).cons S 15 rfl).cons S 16 rfl).cons S 20 rfl).cons S 24 rfl).cons S 25 rfl
        refine wp_seq ?_
        refine wp_seq ?_
        -- region 15 law.go:160
        refine wp_region_lit ?_
        refine wl_of (op_y (wn rfl) rfl rfl S (y_assign rfl S rfl) fun a S => ?_)
        refine wpList_nil ?_
        refine n_then ?_
        refine wp_block ?_
        -- slots written in the loop and forgotten at its head: [14]
        have hal0 := alike_new hof (of_new (1 + sp % 20) (max 1 (ra % 6 + rb % 6 + rc % 6 + rm % 8)) [ra % 6, rb % 6, rc % 6]) (by omega) hnw (by simp only [newDS]; omega)
        have SU := (((((S.nil.cons S 6 rfl).cons S 15 rfl).cons S 16 rfl).cons S 20 rfl).cons S 24 rfl).cons S 25 rfl
        refine loopW (X := Nat) SU (fun k => [(27, .int .i64 (k : Int))]) (fun k w => k ≤ l2.length ∧ ∃ s q, s.WF (100 + k) ∧ q.WF (100 + k) ∧ Alike s q (50 * (1 + sp % 20)) (50 * (1 + sp % 20) + (1 + sp % 20)) ∧ HSat No w0 [DoorA d2 q vr2 vl2 vp2, DoorA d1 s vr1 vl1 vp1, Sl v2 3 Ask.enc l2, Sl v1 3 Ask.enc l1] w) (fun k => l2.length - k) 0 (S.nil.cons S 27 rfl) (⟨by omega, s, _, WF.mono hws (by omega), WF.mono (new_wf hok) (by omega), hal0, H⟩) (fun k a w S hW => ?_)
        simp only [List.cons_append, List.nil_append] at S
        obtain ⟨hk, s, q, hws, hwq, hal, H⟩ := hW
        refine wp_seq ?_
        refine wp_seq ?_
        -- region 16 law.go:160
        refine wp_region_lit ?_
        refine wl_of (op_y (wn rfl) rfl rfl S (y_move rfl S rfl) fun a S => ?_)
        refine wl_of (op_y (wn rfl) rfl rfl S (y_move rfl S rfl) fun a S => ?_)
        refine wl_of (op_y (wn rfl) rfl rfl S (y_lens rfl Try.underlying23 S H rfl) fun a S => ?_)
        refine wl_of (op_y (wn rfl) rfl rfl S (y_bin rfl S rfl rfl rfl) fun a S => ?_)
        refine wpList_nil ?_
        refine n_then ?_
        -- cond 5
        refine c_if S rfl (fun h7 => ?_) (fun h7 => ?_)
        · have h7p := h7; try simp only [Option.isNone_some, Option.isNone_none, Option.isSome_some, Option.isSome_none, false_or, or_false, true_and, and_true, decide_eq_true_eq, decide_eq_false_iff_not, Bool.or_eq_true, Bool.and_eq_true, Bool.or_eq_false_iff, Bool.and_eq_false_iff, Bool.not_eq_true', Bool.not_eq_false', bne_iff_ne, beq_iff_eq, beq_eq_false_iff_ne, bne_eq_false_iff_eq, ne_eq, Decidable.not_not, Int.not_lt, Int.not_le, gt_iff_lt, ge_iff_le, Bool.true_eq_false, Bool.false_eq_true, not_true_eq_false, not_false_eq_true] at h7p
          have hsr := start_range (sp := (1 + sp % 20)) (x := l2[k].now) (by omega)
          have heq := alike_offer hal (50 * (1 + sp % 20) + max 0 l2[k].now % (1 + sp % 20)) l2[k].cls l2[k].basket hsr.1 hsr.2 (by omega)
          refine wp_skip ?_
          refine n_then ?_
          refine wp_seq ?_
          refine wp_block ?_
          refine wp_seq ?_
          -- region 18 law.go:161
          refine wp_region_lit ?_
          refine wl_of (op_y (wn rfl) rfl rfl S (y_move rfl S rfl) fun a S => ?_)
          refine wl_of (op_y (wn rfl) rfl rfl S (y_move rfl S rfl) fun a S => ?_)
          refine wl_of (op_y (wn rfl) rfl rfl S (y_iaddrn rfl Try.underlying23 Fsiz34 S H rfl rfl (by first | omega | (simp only [List.length_append, List.length_take, List.length_drop, List.length_replicate, List.length_set, List.length_map, List.length_cons, List.length_nil]; omega))) fun a S => ?_)
          refine wl_of (op_y (wn rfl) rfl rfl S (y_loadsa _ rfl S H rfl (by exact Fagg34) (by first | omega | (simp only [List.length_append, List.length_take, List.length_drop, List.length_replicate, List.length_set, List.length_map, List.length_cons, List.length_nil]; omega))) fun a S => ?_)
          refine wl_of (op_alloc (wn rfl) rfl rfl rfl S H Fzer34 fun b28 a w S H => ?_)
          refine wl_of (op_storea (wn rfl) rfl rfl S H rfl rfl rfl Fsiz34 rfl (cs' := [_, _, _]) rfl fun a w S H => ?_)
          refine wpList_nil ?_
          refine n_then ?_
          refine wp_seq ?_
          -- region 19 law.go:162
          refine wp_region_lit ?_
          refine wl_of (op_y (wn rfl) rfl rfl S (y_move rfl S rfl) fun a S => ?_)
          refine wl_of (op_y (wn rfl) rfl rfl S (y_faddrb rfl Ffo34_2 S rfl) fun a S => ?_)
          refine wl_of (op_y (wn rfl) rfl rfl S (y_load rfl Fsca3 S H rfl rfl) fun a S => ?_)
          refine wl_of (op_y (wn rfl) rfl rfl S (y_max rfl S rfl rfl) fun a S => ?_)
          refine wl_of (op_y (wn rfl) rfl rfl S (y_move rfl S rfl) fun a S => ?_)
          refine wl_of (op_y (wn rfl) rfl rfl S (y_remn rfl S rfl rfl (by omega) (by omega)) fun a S => ?_)
          refine wl_of (op_y (wn rfl) rfl rfl S (y_add rfl S rfl rfl (by omega)) fun a S => ?_)
          refine wl_of (op_y (wn rfl) rfl rfl S (y_assign rfl S rfl) fun a S => ?_)
          have H := H.freeze
          refine wpList_nil ?_
          refine n_then ?_
          refine wp_seq ?_
          -- region 20 DRAWS law.go:163
          refine region_st (loud := [6, 13, 18, 21]) (tails := [6, 13]) (free := [7, 8, 9, 10, 11, 12]) [0, 1, 2, 3, 4, 5, 7, 8, 9, 10, 11, 12, 6, 13, 14, 15, 16, 17, 19, 20, 18, 21, 22, 23, 24] [Atom.ro (Cel b28 34 [.int .i64 l2[k].cls, .int .i64 l2[k].basket, .int .i64 l2[k].now])] Fmo (by kernel_rfl) (by kernel_rfl) rfl H ?_
          refine m_w rfl rfl (wn rfl) rfl rfl S (fun w H => y_move rfl S rfl) fun a S => ?_
          refine m_w rfl rfl (wn rfl) rfl rfl S (fun w H => y_faddrb rfl Ffo34_0 S rfl) fun a S => ?_
          refine m_w rfl rfl (wn rfl) rfl rfl S (fun w H => y_load rfl Fsca3 S H rfl rfl) fun a S => ?_
          refine m_w rfl rfl (wn rfl) rfl rfl S (fun w H => y_faddrb rfl Ffo34_1 S rfl) fun a S => ?_
          refine m_w rfl rfl (wn rfl) rfl rfl S (fun w H => y_load rfl Fsca3 S H rfl rfl) fun a S => ?_
          refine m_w rfl rfl (wn rfl) rfl rfl S (fun w H => y_move rfl S rfl) fun a S => ?_
          refine m_f rfl rfl (wn rfl) rfl rfl S (fun w H => y_move rfl S rfl) fun a S => ?_
          refine m_f rfl rfl (wn rfl) rfl rfl S (fun w H => y_faddrb rfl Ffo34_0 S rfl) fun a S => ?_
          refine m_f rfl rfl (wn rfl) rfl rfl S (fun w H => y_load rfl Fsca3 S H rfl rfl) fun a S => ?_
          refine m_f rfl rfl (wn rfl) rfl rfl S (fun w H => y_faddrb rfl Ffo34_1 S rfl) fun a S => ?_
          refine m_f rfl rfl (wn rfl) rfl rfl S (fun w H => y_load rfl Fsca3 S H rfl rfl) fun a S => ?_
          refine m_f rfl rfl (wn rfl) rfl rfl S (fun w H => y_move rfl S rfl) fun a S => ?_
          refine m_l rfl rfl (fun w H => op_call (wn rfl) rfl rfl S (co_func rfl Try.call12 S rfl) (Ret.at_ (x := DoorA d1 s vr1 vl1 vp1) H (fun H => offer_spec d1 s vr1 vl1 vp1 _ _ _ (100 + k) _ H hws (by omega))) fun v w hc a S => ?_)
          obtain ⟨rfl, H⟩ := hc
          
          refine m_tail H rfl ?_
          refine m_l rfl rfl (fun w H => op_call (wn rfl) rfl rfl S (co_func rfl Try.call12 S rfl) (Ret.at_ (x := DoorA d2 q vr2 vl2 vp2) H (fun H => offer_spec d2 q vr2 vl2 vp2 _ _ _ (100 + k) _ H hwq (by omega))) fun v w hc a S => ?_)
          obtain ⟨rfl, H⟩ := hc
          
          refine m_tail H rfl ?_
          refine m_w rfl rfl (wn rfl) rfl rfl S (fun w H => y_neb rfl Try.underlying4 S rfl rfl) fun a S => ?_
          refine m_w rfl rfl (wn rfl) rfl rfl S (fun w H => y_move rfl S rfl) fun a S => ?_
          refine' m_or [16, 17, 19, 20, 18, 21, 22, 23] 136 S rfl rfl rfl rfl rfl rfl rfl rfl rfl (fun _ S => (wn rfl)) (fun h8 kk => ?yh8) (fun l1 a S => ?_)
          case yh8 =>
            have h8p := h8; try simp only [Option.isNone_some, Option.isNone_none, Option.isSome_some, Option.isSome_none, false_or, or_false, true_and, and_true, decide_eq_true_eq, decide_eq_false_iff_not, Bool.or_eq_true, Bool.and_eq_true, Bool.or_eq_false_iff, Bool.and_eq_false_iff, Bool.not_eq_true', Bool.not_eq_false', bne_iff_ne, beq_iff_eq, beq_eq_false_iff_ne, bne_eq_false_iff_eq, ne_eq, Decidable.not_not, Int.not_lt, Int.not_le, gt_iff_lt, ge_iff_le, Bool.true_eq_false, Bool.false_eq_true, not_true_eq_false, not_false_eq_true] at h8p
            refine m_w rfl rfl (wg' 136 rfl rfl S rfl h8 rfl) rfl rfl S (fun w H => y_move rfl S rfl) fun a S => ?_
            refine m_w rfl rfl (wg' 136 rfl rfl S rfl h8 rfl) rfl rfl S (fun w H => y_move rfl S rfl) fun a S => ?_
            refine m_w rfl rfl (wg' 136 rfl rfl S rfl h8 rfl) rfl rfl S (fun w H => y_move rfl S rfl) fun a S => ?_
            refine m_w rfl rfl (wg' 136 rfl rfl S rfl h8 rfl) rfl rfl S (fun w H => y_move rfl S rfl) fun a S => ?_
            refine m_l rfl rfl (fun w H => op_call (wg' 136 rfl rfl S rfl h8 rfl) rfl rfl S (co_func rfl Try.call15 S rfl) (passed_spec d1 (offer s l2[k].cls l2[k].basket (50 * (1 + sp % 20) + max 0 l2[k].now % (1 + sp % 20))).2 vr1 vl1 vp1 (50 * (1 + sp % 20) + max 0 l2[k].now % (1 + sp % 20)) (100 + k + 1) _ (H.perm (HasA.to_ (x := DoorA d1 (offer s l2[k].cls l2[k].basket (50 * (1 + sp % 20) + max 0 l2[k].now % (1 + sp % 20))).2 vr1 vl1 vp1))) (offer_wf hws _ _ _)) fun u139 w hc a S => ?_)
            have H1 := hc
            have H := H.call1 H1 rfl
            refine m_next H (by repeat (first | exact List.Sublist.refl _ | apply List.Sublist.cons)) ?_
            refine m_l rfl rfl (fun w H => op_call (wg' 136 rfl rfl S rfl h8 rfl) rfl rfl S (co_func rfl Try.call15 S rfl) (passed_spec d2 (offer q l2[k].cls l2[k].basket (50 * (1 + sp % 20) + max 0 l2[k].now % (1 + sp % 20))).2 vr2 vl2 vp2 (50 * (1 + sp % 20) + max 0 l2[k].now % (1 + sp % 20)) (100 + k + 1) _ (H.perm (HasA.to_ (x := DoorA d2 (offer q l2[k].cls l2[k].basket (50 * (1 + sp % 20) + max 0 l2[k].now % (1 + sp % 20))).2 vr2 vl2 vp2))) (offer_wf hwq _ _ _)) fun u142 w hc a S => ?_)
            have H1 := hc
            have H := H.call1 H1 rfl
            refine m_next H (by repeat (first | exact List.Sublist.refl _ | apply List.Sublist.cons)) ?_
            refine m_c rfl rfl (wg' 136 rfl rfl S rfl h8 rfl) rfl rfl S (fun w => co_func rfl Try.call14 S rfl) (fun w H => ints_spec u139 u142 (passedL (offer s l2[k].cls l2[k].basket (50 * (1 + sp % 20) + max 0 l2[k].now % (1 + sp % 20))).2 (50 * (1 + sp % 20) + max 0 l2[k].now % (1 + sp % 20))) (passedL (offer q l2[k].cls l2[k].basket (50 * (1 + sp % 20) + max 0 l2[k].now % (1 + sp % 20))).2 (50 * (1 + sp % 20) + max 0 l2[k].now % (1 + sp % 20))) _ (H.sl _) (H.sl _)) fun a S => ?_
            refine m_w rfl rfl (wg' 136 rfl rfl S rfl h8 rfl) rfl rfl S (fun w H => y_not rfl S rfl) fun a S => ?_
            refine m_w rfl rfl (wn rfl) rfl rfl S (fun w H => y_or' rfl h8 S rfl rfl) fun a S => ?_
            exact kk [_, _] _ (S.join 9 145 rfl rfl)
          refine m_nil (fun w H => ?_)
          have H := H.right
          refine n_then ?_
          -- cond 6
          refine c_if S rfl (fun h9 => ?_) (fun h9 => ?_)
          · have h9p := h9; try simp only [Option.isNone_some, Option.isNone_none, Option.isSome_some, Option.isSome_none, false_or, or_false, true_and, and_true, decide_eq_true_eq, decide_eq_false_iff_not, Bool.or_eq_true, Bool.and_eq_true, Bool.or_eq_false_iff, Bool.and_eq_false_iff, Bool.not_eq_true', Bool.not_eq_false', bne_iff_ne, beq_iff_eq, beq_eq_false_iff_ne, bne_eq_false_iff_eq, ne_eq, Decidable.not_not, Int.not_lt, Int.not_le, gt_iff_lt, ge_iff_le, Bool.true_eq_false, Bool.false_eq_true, not_true_eq_false, not_false_eq_true] at h9p
            all_goals (
              exfalso
              rw [heq] at h9
              simp at h9)
          · have h9p := h9; try simp only [Option.isNone_some, Option.isNone_none, Option.isSome_some, Option.isSome_none, false_or, or_false, true_and, and_true, decide_eq_true_eq, decide_eq_false_iff_not, Bool.or_eq_true, Bool.and_eq_true, Bool.or_eq_false_iff, Bool.and_eq_false_iff, Bool.not_eq_true', Bool.not_eq_false', bne_iff_ne, beq_iff_eq, beq_eq_false_iff_ne, bne_eq_false_iff_eq, ne_eq, Decidable.not_not, Int.not_lt, Int.not_le, gt_iff_lt, ge_iff_le, Bool.true_eq_false, Bool.false_eq_true, not_true_eq_false, not_false_eq_true] at h9p
            refine wp_skip ?_
            refine n_block ?_
            refine n_then ?_
            -- region 17 law.go:160
            refine wp_region_lit ?_
            refine wl_of (op_y (wn rfl) rfl rfl S (y_move rfl S rfl) fun a S => ?_)
            refine wl_of (op_y (wn rfl) rfl rfl S (y_add rfl S rfl rfl (by omega)) fun a S => ?_)
            refine wl_of (op_y (wn rfl) rfl rfl S (y_assign rfl S rfl) fun a S => ?_)
            refine wpList_nil ?_
            refine n_then ?_
            exact ⟨k + 1, S.nil.cons S 27 rfl, (((((S.nil.cons S 6 rfl).cons S 15 rfl).cons S 16 rfl).cons S 20 rfl).cons S 24 rfl).cons S 25 rfl, ⟨by omega, _, _, offer_wf hws _ _ _, offer_wf hwq _ _ _, by rw [heq]; exact alike_refl _ _ _, H.tail⟩, by omega⟩
        · have h7p := h7; try simp only [Option.isNone_some, Option.isNone_none, Option.isSome_some, Option.isSome_none, false_or, or_false, true_and, and_true, decide_eq_true_eq, decide_eq_false_iff_not, Bool.or_eq_true, Bool.and_eq_true, Bool.or_eq_false_iff, Bool.and_eq_false_iff, Bool.not_eq_true', Bool.not_eq_false', bne_iff_ne, beq_iff_eq, beq_eq_false_iff_ne, bne_eq_false_iff_eq, ne_eq, Decidable.not_not, Int.not_lt, Int.not_le, gt_iff_lt, ge_iff_le, Bool.true_eq_false, Bool.false_eq_true, not_true_eq_false, not_false_eq_true] at h7p
          refine wp_exit ?_
          refine x_then (x_then (x_eq ?_))
          refine n_then ?_
          have S := S.nil.cons S 15 rfl
          refine wp_seq ?_
          -- region 22 law.go:167
          refine wp_region_lit ?_
          refine wl_of (op_y (wn rfl) rfl rfl S (y_move rfl S rfl) fun a S => ?_)
          refine wl_of (op_y (wn rfl) rfl rfl S (y_assign rfl S rfl) fun a S => ?_)
          refine wpList_nil ?_
          refine n_then ?_
          refine wp_ret ?_
          refine ret1 rfl S rfl ?_
          exact ⟨rfl, H.toExt⟩

end Go.Proofs.Ytojmagbonbcffaa
