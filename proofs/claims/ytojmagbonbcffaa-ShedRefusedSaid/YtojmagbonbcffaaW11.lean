/- The walks. No condition. -/
import Derived.Test.YtojmagbonbcffaaChecked
import Derived.Test.YtojmagbonbcffaaGwMap
import Derived.Test.YtojmagbonbcffaaFacts
import Derived.Test.YtojmagbonbcffaaPlain
import Derived.Test.YtojmagbonbcffaaW10
namespace Go.Proofs.Ytojmagbonbcffaa
open Go Go.Gw
set_option linter.unusedVariables false
set_option linter.unusedSimpArgs false
set_option maxHeartbeats 4000000 in
/-- foyer/foyerlaw49.ShedApart -/
theorem law4 (sp ra rb rc rm : Int) (v : Value) (l : List Ask) (w0 : World) (hs : 0 ≤ sp ∧ sp ≤ 255) (ha : 0 ≤ ra ∧ ra ≤ 255) (hb : 0 ≤ rb ∧ rb ≤ 255) (hc : 0 ≤ rc ∧ rc ≤ 255) (hm : 0 ≤ rm ∧ rm ≤ 255) (hv : IsSl w0 v 3 Ask.enc l) :
    Ret Try.prog 6 #[.int .u8 sp, .int .u8 ra, .int .u8 rb, .int .u8 rc, .int .u8 rm, v] w0 (fun v w => v = .bool true ∧ Ext w0 w) := by
  refine ret_of_wp (n := 108) Try.func6 rfl rfl rfl (fl := [(0, .int .u8 sp), (1, .int .u8 ra), (2, .int .u8 rb), (3, .int .u8 rc), (4, .int .u8 rm), (5, v)]) rfl (fun a S => ?_)
  have H := HSat.start w0
  have hok := door_ok hs ha hb hc hm
  have H := H.ro0 (Sl v 3 Ask.enc l) rfl (hv)
  refine wp_seq ?_
  -- region 0 law.go:117
  refine wp_region_lit ?_
  refine wl_of (op_y (wn rfl) rfl rfl S (y_assign rfl S rfl) fun a S => ?_)
  refine wpList_nil ?_
  refine n_then ?_
  refine wp_seq ?_
  -- region 1 law.go:118
  refine wp_region_lit ?_
  refine wl_of (op_call (wn rfl) rfl rfl S (co_func rfl Try.call9 S rfl) (head_spec _) fun v w hc a S => ?_)
  obtain ⟨rfl, he⟩ := hc
  have H := H.ext he
  refine wl_of (op_y (wn rfl) rfl rfl S (y_assign rfl S rfl) fun a S => ?_)
  refine wpList_nil ?_
  refine n_then ?_
  refine wp_seq ?_
  -- region 2 law.go:119
  refine wp_region_lit ?_
  refine wl_of (op_y (wn rfl) rfl rfl S (y_move rfl S rfl) fun a S => ?_)
  refine wl_of (op_y (wn rfl) rfl rfl S (y_move rfl S rfl) fun a S => ?_)
  refine wl_of (op_y (wn rfl) rfl rfl S (y_move rfl S rfl) fun a S => ?_)
  refine wl_of (op_y (wn rfl) rfl rfl S (y_move rfl S rfl) fun a S => ?_)
  refine wl_of (op_y (wn rfl) rfl rfl S (y_move rfl S rfl) fun a S => ?_)
  refine wl_of (op_call (wn rfl) rfl rfl S (co_func rfl Try.call17 S rfl) (door_spec sp ra rb rc rm _ hs ha hb hc hm) fun v w hc a S => ?_)
  obtain ⟨d1, vr1, vl1, vp1, bs1, rfl, H1⟩ := hc
  have H := H.call2 H1 rfl rfl
  refine wl_of (op_y (wn rfl) rfl rfl S (y_move rfl S rfl) fun a S => ?_)
  refine wl_of (op_y (wn rfl) rfl rfl S (y_extract rfl S rfl rfl) fun a S => ?_)
  refine wl_of (op_y (wn rfl) rfl rfl S (y_extract rfl S rfl rfl) fun a S => ?_)
  refine wl_of (op_y (wn rfl) rfl rfl S (y_extract rfl S rfl rfl) fun a S => ?_)
  refine wl_of (op_y (wn rfl) rfl rfl S (y_extract rfl S rfl rfl) fun a S => ?_)
  refine wl_of (op_y (wn rfl) rfl rfl S (y_assign rfl S rfl) fun a S => ?_)
  refine wl_of (op_y (wn rfl) rfl rfl S (y_assign rfl S rfl) fun a S => ?_)
  refine wl_of (op_y (wn rfl) rfl rfl S (y_assign rfl S rfl) fun a S => ?_)
  refine wl_of (op_y (wn rfl) rfl rfl S (y_assign rfl S rfl) fun a S => ?_)
  refine wpList_nil ?_
  refine n_then ?_
  have S := (((((((((S.nil.cons S 5 rfl).cons S 4 rfl).cons S 3 rfl).cons S 2 rfl).cons S 1 rfl).cons S 0 rfl).cons S 12 rfl).cons S 13 rfl).cons S 14 rfl).cons S 17 rfl
  refine wp_seq ?_
  -- region 3 law.go:120
  refine wp_region_lit ?_
  refine wl_of (op_y (wn rfl) rfl rfl S (y_move rfl S rfl) fun a S => ?_)
  refine wl_of (op_y (wn rfl) rfl rfl S (y_move rfl S rfl) fun a S => ?_)
  refine wl_of (op_y (wn rfl) rfl rfl S (y_move rfl S rfl) fun a S => ?_)
  refine wl_of (op_y (wn rfl) rfl rfl S (y_move rfl S rfl) fun a S => ?_)
  refine wl_of (op_y (wn rfl) rfl rfl S (y_move rfl S rfl) fun a S => ?_)
  refine wl_of (op_call (wn rfl) rfl rfl S (co_func rfl Try.call17 S rfl) (door_spec sp ra rb rc rm _ hs ha hb hc hm) fun v w hc a S => ?_)
  obtain ⟨d2, vr2, vl2, vp2, bs2, rfl, H1⟩ := hc
  have H := H.call2 H1 rfl rfl
  refine wl_of (op_y (wn rfl) rfl rfl S (y_move rfl S rfl) fun a S => ?_)
  refine wl_of (op_y (wn rfl) rfl rfl S (y_extract rfl S rfl rfl) fun a S => ?_)
  refine wl_of (op_y (wn rfl) rfl rfl S (y_extract rfl S rfl rfl) fun a S => ?_)
  refine wl_of (op_y (wn rfl) rfl rfl S (y_extract rfl S rfl rfl) fun a S => ?_)
  refine wl_of (op_y (wn rfl) rfl rfl S (y_extract rfl S rfl rfl) fun a S => ?_)
  refine wl_of (op_y (wn rfl) rfl rfl S (y_assign rfl S rfl) fun a S => ?_)
  refine wl_of (op_y (wn rfl) rfl rfl S (y_assign rfl S rfl) fun a S => ?_)
  refine wl_of (op_y (wn rfl) rfl rfl S (y_assign rfl S rfl) fun a S => ?_)
  refine wl_of (op_y (wn rfl) rfl rfl S (y_assign rfl S rfl) fun a S => ?_)
  refine wpList_nil ?_
  refine n_then ?_
  have S := ((((((S.nil.cons S 5 rfl).cons S 12 rfl).cons S 13 rfl).cons S 14 rfl).cons S 17 rfl).cons S 18 rfl).cons S 21 rfl
  refine wp_seq ?_
  refine wp_seq ?_
  -- region 4 law.go:121
  refine wp_region_lit ?_
  refine wl_of (op_y (wn rfl) rfl rfl S (y_move rfl S rfl) fun a S => ?_)
  refine wl_of (op_y (wn rfl) rfl rfl S (y_not rfl S rfl) fun a S => ?_)
  refine wl_of (op_y (wn rfl) rfl rfl S (y_move rfl S rfl) fun a S => ?_)
  refine' wl_or 2 49 rfl S H rfl rfl rfl rfl rfl rfl rfl (fun _ S => (wn rfl)) (fun h1 kk => ?yh1) (fun a w S H => ?_)
  case yh1 =>
    have h1p := h1; try simp only [Option.isNone_some, Option.isNone_none, Option.isSome_some, Option.isSome_none, false_or, or_false, true_and, and_true, decide_eq_true_eq, decide_eq_false_iff_not, Bool.or_eq_true, Bool.and_eq_true, Bool.or_eq_false_iff, Bool.and_eq_false_iff, Bool.not_eq_true', Bool.not_eq_false', bne_iff_ne, beq_iff_eq, beq_eq_false_iff_ne, bne_eq_false_iff_eq, ne_eq, Decidable.not_not, Int.not_lt, Int.not_le, gt_iff_lt, ge_iff_le, Bool.true_eq_false, Bool.false_eq_true, not_true_eq_false, not_false_eq_true] at h1p
    refine wl_of (op_y (wg' 49 rfl rfl S rfl h1 rfl) rfl rfl S (y_move rfl S rfl) fun a S => ?_)
    refine wl_of (op_y (wg' 49 rfl rfl S rfl h1 rfl) rfl rfl S (y_not rfl S rfl) fun a S => ?_)
    refine wl_of (op_y (wn rfl) rfl rfl S (y_or' rfl h1 S rfl rfl) fun a S => ?_)
    exact kk _ _ (S.join 3 52 rfl rfl) H
  refine wpList_nil ?_
  refine n_then ?_
  have S := (((((S.nil.cons S 5 rfl).cons S 12 rfl).cons S 13 rfl).cons S 14 rfl).cons S 18 rfl).cons S 52 rfl
  -- cond 1
  refine c_if S rfl (fun h2 => ?_) (fun h2 => ?_)
  · have h2p := h2; try simp only [Option.isNone_some, Option.isNone_none, Option.isSome_some, Option.isSome_none, false_or, or_false, true_and, and_true, decide_eq_true_eq, decide_eq_false_iff_not, Bool.or_eq_true, Bool.and_eq_true, Bool.or_eq_false_iff, Bool.and_eq_false_iff, Bool.not_eq_true', Bool.not_eq_false', bne_iff_ne, beq_iff_eq, beq_eq_false_iff_ne, bne_eq_false_iff_eq, ne_eq, Decidable.not_not, Int.not_lt, Int.not_le, gt_iff_lt, ge_iff_le, Bool.true_eq_false, Bool.false_eq_true, not_true_eq_false, not_false_eq_true] at h2p
    all_goals (
      exact absurd h2 (by simp))
  · have h2p := h2; try simp only [Option.isNone_some, Option.isNone_none, Option.isSome_some, Option.isSome_none, false_or, or_false, true_and, and_true, decide_eq_true_eq, decide_eq_false_iff_not, Bool.or_eq_true, Bool.and_eq_true, Bool.or_eq_false_iff, Bool.and_eq_false_iff, Bool.not_eq_true', Bool.not_eq_false', bne_iff_ne, beq_iff_eq, beq_eq_false_iff_ne, bne_eq_false_iff_eq, ne_eq, Decidable.not_not, Int.not_lt, Int.not_le, gt_iff_lt, ge_iff_le, Bool.true_eq_false, Bool.false_eq_true, not_true_eq_false, not_false_eq_true] at h2p
    refine wp_skip ?_
    refine n_then ?_
    refine wp_seq ?_
    refine wp_seq ?_
    -- region 6 law.go:124
    refine wp_region_lit ?_
    refine wl_of (op_y (wn rfl) rfl rfl S (y_move rfl S rfl) fun a S => ?_)
    refine wl_of (op_y (wn rfl) rfl rfl S (y_lens rfl Try.underlying23 S H rfl) fun a S => ?_)
    refine wl_of (op_y (wn rfl) rfl rfl S (y_bin rfl S rfl rfl rfl) fun a S => ?_)
    refine wpList_nil ?_
    refine n_then ?_
    -- cond 2
    refine c_if S rfl (fun h3 => ?_) (fun h3 => ?_)
    · have h3p := h3; try simp only [Option.isNone_some, Option.isNone_none, Option.isSome_some, Option.isSome_none, false_or, or_false, true_and, and_true, decide_eq_true_eq, decide_eq_false_iff_not, Bool.or_eq_true, Bool.and_eq_true, Bool.or_eq_false_iff, Bool.and_eq_false_iff, Bool.not_eq_true', Bool.not_eq_false', bne_iff_ne, beq_iff_eq, beq_eq_false_iff_ne, bne_eq_false_iff_eq, ne_eq, Decidable.not_not, Int.not_lt, Int.not_le, gt_iff_lt, ge_iff_le, Bool.true_eq_false, Bool.false_eq_true, not_true_eq_false, not_false_eq_true] at h3p
      refine wp_seq ?_
      -- region 7 law.go:125
      refine wp_region_lit ?_
      refine wl_of (op_y (wn rfl) rfl rfl S (y_move rfl S rfl) fun a S => ?_)
      refine wl_of (op_y (wn rfl) rfl rfl S (y_assign rfl S rfl) fun a S => ?_)
      refine wpList_nil ?_
      refine n_then ?_
      have S := ((((S.nil.cons S 5 rfl).cons S 13 rfl).cons S 14 rfl).cons S 18 rfl).cons S 12 rfl
      refine wp_ret ?_
      refine r_then (ret1 rfl S rfl ?_)
      exact ⟨rfl, H.toExt⟩
    · have h3p := h3; try simp only [Option.isNone_some, Option.isNone_none, Option.isSome_some, Option.isSome_none, false_or, or_false, true_and, and_true, decide_eq_true_eq, decide_eq_false_iff_not, Bool.or_eq_true, Bool.and_eq_true, Bool.or_eq_false_iff, Bool.and_eq_false_iff, Bool.not_eq_true', Bool.not_eq_false', bne_iff_ne, beq_iff_eq, beq_eq_false_iff_ne, bne_eq_false_iff_eq, ne_eq, Decidable.not_not, Int.not_lt, Int.not_le, gt_iff_lt, ge_iff_le, Bool.true_eq_false, Bool.false_eq_true, not_true_eq_false, not_false_eq_true] at h3p
      refine wp_skip ?_
      refine n_then ?_
      have S := ((((S.nil.cons S 5 rfl).cons S 12 rfl).cons S 13 rfl).cons S 14 rfl).cons S 18 rfl
      refine wp_seq ?_
      refine wp_seq ?_
      -- region 8 law.go:127
      refine wp_region_lit ?_
      refine wl_of (op_y (wn rfl) rfl rfl S (y_assign rfl S rfl) fun a S => ?_)
      refine wpList_nil ?_
      refine n_then ?_
      refine wp_block ?_
      -- slots written in the loop and forgotten at its head: [12]
      have SU := (((S.nil.cons S 5 rfl).cons S 13 rfl).cons S 14 rfl).cons S 18 rfl
      refine loopW (X := Nat) SU (fun k => [(22, .int .i64 (k : Int))]) (fun k w => k ≤ l.length ∧ ∃ s q, Same s q ∧ s.WF k ∧ q.WF k ∧ HSat No w0 [DoorA d2 q vr2 vl2 vp2, DoorA d1 s vr1 vl1 vp1, Sl v 3 Ask.enc l] w) (fun k => l.length - k) 0 (S.nil.cons S 22 rfl) (⟨by omega, _, _, Same.refl _, new_wf hok, new_wf hok, H.take [DoorA d2 (newDS (1 + sp % 20) [ra % 6, rb % 6, rc % 6] (max 1 (ra % 6 + rb % 6 + rc % 6 + rm % 8))) vr2 vl2 vp2, DoorA d1 (newDS (1 + sp % 20) [ra % 6, rb % 6, rc % 6] (max 1 (ra % 6 + rb % 6 + rc % 6 + rm % 8))) vr1 vl1 vp1, Sl v 3 Ask.enc l]⟩) (fun k a w S hW => ?_)
      simp only [List.cons_append, List.nil_append] at S
      obtain ⟨hk, s, q, hsm, hws, hwq, H⟩ := hW
      refine wp_seq ?_
      refine wp_seq ?_
      -- region 9 law.go:127
      refine wp_region_lit ?_
      refine wl_of (op_y (wn rfl) rfl rfl S (y_move rfl S rfl) fun a S => ?_)
      refine wl_of (op_y (wn rfl) rfl rfl S (y_move rfl S rfl) fun a S => ?_)
      refine wl_of (op_y (wn rfl) rfl rfl S (y_lens rfl Try.underlying23 S H rfl) fun a S => ?_)
      refine wl_of (op_y (wn rfl) rfl rfl S (y_bin rfl S rfl rfl rfl) fun a S => ?_)
      refine wpList_nil ?_
      refine n_then ?_
      -- cond 3
      refine c_if S rfl (fun h4 => ?_) (fun h4 => ?_)
      · have h4p := h4; try simp only [Option.isNone_some, Option.isNone_none, Option.isSome_some, Option.isSome_none, false_or, or_false, true_and, and_true, decide_eq_true_eq, decide_eq_false_iff_not, Bool.or_eq_true, Bool.and_eq_true, Bool.or_eq_false_iff, Bool.and_eq_false_iff, Bool.not_eq_true', Bool.not_eq_false', bne_iff_ne, beq_iff_eq, beq_eq_false_iff_ne, bne_eq_false_iff_eq, ne_eq, Decidable.not_not, Int.not_lt, Int.not_le, gt_iff_lt, ge_iff_le, Bool.true_eq_false, Bool.false_eq_true, not_true_eq_false, not_false_eq_true] at h4p
        refine wp_skip ?_
        refine n_then ?_
        refine wp_seq ?_
        refine wp_block ?_
        refine wp_seq ?_
        -- region 11 DRAWS law.go:128
        refine region_st (loud := [16]) (tails := [16]) (free := []) [0, 1, 2, 3, 4, 5, 6, 7, 8, 9, 10, 11, 12, 13, 14, 15, 16, 17] [Sl v 3 Ask.enc l] Fmo (by kernel_rfl) (by kernel_rfl) rfl H ?_
        refine m_w rfl rfl (wn rfl) rfl rfl S (fun w H => y_move rfl S rfl) fun a S => ?_
        refine m_w rfl rfl (wn rfl) rfl rfl S (fun w H => y_move rfl S rfl) fun a S => ?_
        refine m_w rfl rfl (wn rfl) rfl rfl S (fun w H => y_move rfl S rfl) fun a S => ?_
        refine m_w rfl rfl (wn rfl) rfl rfl S (fun w H => y_iaddrn rfl Try.underlying23 Fsiz34 S H rfl rfl (by first | omega | (simp only [List.length_append, List.length_take, List.length_drop, List.length_replicate, List.length_set, List.length_map, List.length_cons, List.length_nil]; omega))) fun a S => ?_
        refine m_w rfl rfl (wn rfl) rfl rfl S (fun w H => y_faddr rfl Ffo34_0 S rfl) fun a S => ?_
        refine m_loadsf _ rfl rfl (wn rfl) rfl rfl S rfl Fsca3 rfl (by first | omega | (simp only [List.length_append, List.length_take, List.length_drop, List.length_replicate, List.length_set, List.length_map, List.length_cons, List.length_nil]; omega)) rfl fun a S => ?_
        refine m_w rfl rfl (wn rfl) rfl rfl S (fun w H => y_move rfl S rfl) fun a S => ?_
        refine m_w rfl rfl (wn rfl) rfl rfl S (fun w H => y_move rfl S rfl) fun a S => ?_
        refine m_w rfl rfl (wn rfl) rfl rfl S (fun w H => y_iaddrn rfl Try.underlying23 Fsiz34 S H rfl rfl (by first | omega | (simp only [List.length_append, List.length_take, List.length_drop, List.length_replicate, List.length_set, List.length_map, List.length_cons, List.length_nil]; omega))) fun a S => ?_
        refine m_w rfl rfl (wn rfl) rfl rfl S (fun w H => y_faddr rfl Ffo34_1 S rfl) fun a S => ?_
        refine m_loadsf _ rfl rfl (wn rfl) rfl rfl S rfl Fsca3 rfl (by first | omega | (simp only [List.length_append, List.length_take, List.length_drop, List.length_replicate, List.length_set, List.length_map, List.length_cons, List.length_nil]; omega)) rfl fun a S => ?_
        refine m_w rfl rfl (wn rfl) rfl rfl S (fun w H => y_move rfl S rfl) fun a S => ?_
        refine m_w rfl rfl (wn rfl) rfl rfl S (fun w H => y_move rfl S rfl) fun a S => ?_
        refine m_w rfl rfl (wn rfl) rfl rfl S (fun w H => y_iaddrn rfl Try.underlying23 Fsiz34 S H rfl rfl (by first | omega | (simp only [List.length_append, List.length_take, List.length_drop, List.length_replicate, List.length_set, List.length_map, List.length_cons, List.length_nil]; omega))) fun a S => ?_
        refine m_w rfl rfl (wn rfl) rfl rfl S (fun w H => y_faddr rfl Ffo34_2 S rfl) fun a S => ?_
        refine m_loadsf _ rfl rfl (wn rfl) rfl rfl S rfl Fsca3 rfl (by first | omega | (simp only [List.length_append, List.length_take, List.length_drop, List.length_replicate, List.length_set, List.length_map, List.length_cons, List.length_nil]; omega)) rfl fun a S => ?_
        refine m_l rfl rfl (fun w H => op_call (wn rfl) rfl rfl S (co_func rfl Try.call12 S rfl) (Ret.at_ (x := DoorA d1 s vr1 vl1 vp1) H (fun H => offer_spec d1 s vr1 vl1 vp1 _ _ _ k _ H hws (by omega))) fun v w hc a S => ?_)
        obtain ⟨rfl, H⟩ := hc
        
        refine m_tail H rfl ?_
        refine m_w rfl rfl (wn rfl) rfl rfl S (fun w H => y_assign rfl S rfl) fun a S => ?_
        refine m_nil (fun w H => ?_)
        refine n_then ?_
        refine wp_seq ?_
        refine wp_seq ?_
        -- region 12 law.go:129
        refine wp_region_lit ?_
        refine wl_of (op_y (wn rfl) rfl rfl S (y_move rfl S rfl) fun a S => ?_)
        refine wl_of (op_y (wn rfl) rfl rfl S (y_move rfl S rfl) fun a S => ?_)
        refine wl_of (op_y (wn rfl) rfl rfl S (y_iaddrn rfl Try.underlying23 Fsiz34 S H rfl rfl (by first | omega | (simp only [List.length_append, List.length_take, List.length_drop, List.length_replicate, List.length_set, List.length_map, List.length_cons, List.length_nil]; omega))) fun a S => ?_)
        refine wl_of (op_y (wn rfl) rfl rfl S (y_faddr rfl Ffo34_1 S rfl) fun a S => ?_)
        refine wl_of (op_y (wn rfl) rfl rfl S (y_loadsf _ rfl Fsca3 S H rfl (by first | omega | (simp only [List.length_append, List.length_take, List.length_drop, List.length_replicate, List.length_set, List.length_map, List.length_cons, List.length_nil]; omega)) rfl) fun a S => ?_)
        refine wl_of (op_y (wn rfl) rfl rfl S (y_bin rfl S rfl rfl rfl) fun a S => ?_)
        refine wpList_nil ?_
        refine n_then ?_
        -- cond 4
        refine c_if S rfl (fun h5 => ?_) (fun h5 => ?_)
        · have h5p := h5; try simp only [Option.isNone_some, Option.isNone_none, Option.isSome_some, Option.isSome_none, false_or, or_false, true_and, and_true, decide_eq_true_eq, decide_eq_false_iff_not, Bool.or_eq_true, Bool.and_eq_true, Bool.or_eq_false_iff, Bool.and_eq_false_iff, Bool.not_eq_true', Bool.not_eq_false', bne_iff_ne, beq_iff_eq, beq_eq_false_iff_ne, bne_eq_false_iff_eq, ne_eq, Decidable.not_not, Int.not_lt, Int.not_le, gt_iff_lt, ge_iff_le, Bool.true_eq_false, Bool.false_eq_true, not_true_eq_false, not_false_eq_true] at h5p
          have hsm1 := apart_basket' hsm l[k].cls l[k].basket l[k].now (by simpa using h5)
          have hwq1 := offer_wf hwq (-1) 0 l[k].now
          refine wp_seq ?_
          refine wp_seq ?_
          -- region 13 law.go:130
          refine wp_region_lit ?_
          refine wl_of (op_y (wn rfl) rfl rfl S (y_move rfl S rfl) fun a S => ?_)
          refine wl_of (op_y (wn rfl) rfl rfl S (y_move rfl S rfl) fun a S => ?_)
          refine wl_of (op_y (wn rfl) rfl rfl S (y_move rfl S rfl) fun a S => ?_)
          refine wl_of (op_y (wn rfl) rfl rfl S (y_iaddrn rfl Try.underlying23 Fsiz34 S H rfl rfl (by first | omega | (simp only [List.length_append, List.length_take, List.length_drop, List.length_replicate, List.length_set, List.length_map, List.length_cons, List.length_nil]; omega))) fun a S => ?_)
          refine wl_of (op_y (wn rfl) rfl rfl S (y_faddr rfl Ffo34_2 S rfl) fun a S => ?_)
          refine wl_of (op_y (wn rfl) rfl rfl S (y_loadsf _ rfl Fsca3 S H rfl (by first | omega | (simp only [List.length_append, List.length_take, List.length_drop, List.length_replicate, List.length_set, List.length_map, List.length_cons, List.length_nil]; omega)) rfl) fun a S => ?_)
          refine wl_of (op_call (wn rfl) rfl rfl S (co_func rfl Try.call12 S rfl) (Ret.at_ (x := DoorA d2 q vr2 vl2 vp2) H (fun H => offer_spec d2 q vr2 vl2 vp2 _ _ _ k _ H hwq (by omega))) fun v w hc a S => ?_)
          obtain ⟨rfl, H⟩ := hc
          
          refine wpList_nil ?_
          refine n_then ?_
          -- cond 5
          refine c_if S rfl (fun h6 => ?_) (fun h6 => ?_)
          · have h6p := h6; try simp only [Option.isNone_some, Option.isNone_none, Option.isSome_some, Option.isSome_none, false_or, or_false, true_and, and_true, decide_eq_true_eq, decide_eq_false_iff_not, Bool.or_eq_true, Bool.and_eq_true, Bool.or_eq_false_iff, Bool.and_eq_false_iff, Bool.not_eq_true', Bool.not_eq_false', bne_iff_ne, beq_iff_eq, beq_eq_false_iff_ne, bne_eq_false_iff_eq, ne_eq, Decidable.not_not, Int.not_lt, Int.not_le, gt_iff_lt, ge_iff_le, Bool.true_eq_false, Bool.false_eq_true, not_true_eq_false, not_false_eq_true] at h6p
            all_goals (
              exfalso; rw [offer_neg] at h6; cases h6)
          · have h6p := h6; try simp only [Option.isNone_some, Option.isNone_none, Option.isSome_some, Option.isSome_none, false_or, or_false, true_and, and_true, decide_eq_true_eq, decide_eq_false_iff_not, Bool.or_eq_true, Bool.and_eq_true, Bool.or_eq_false_iff, Bool.and_eq_false_iff, Bool.not_eq_true', Bool.not_eq_false', bne_iff_ne, beq_iff_eq, beq_eq_false_iff_ne, bne_eq_false_iff_eq, ne_eq, Decidable.not_not, Int.not_lt, Int.not_le, gt_iff_lt, ge_iff_le, Bool.true_eq_false, Bool.false_eq_true, not_true_eq_false, not_false_eq_true] at h6p
            refine wp_skip ?_
            refine n_then ?_
            refine wp_exit ?_
            refine x_then (x_eq ?_)
            refine n_then ?_
            -- region 10 law.go:127
            refine wp_region_lit ?_
            refine wl_of (op_y (wn rfl) rfl rfl S (y_move rfl S rfl) fun a S => ?_)
            refine wl_of (op_y (wn rfl) rfl rfl S (y_add rfl S rfl rfl (by omega)) fun a S => ?_)
            refine wl_of (op_y (wn rfl) rfl rfl S (y_assign rfl S rfl) fun a S => ?_)
            refine wpList_nil ?_
            refine n_then ?_
            exact ⟨k + 1, S.nil.cons S 22 rfl, (((S.nil.cons S 5 rfl).cons S 13 rfl).cons S 14 rfl).cons S 18 rfl, ⟨by omega, _, _, hsm1, offer_wf hws _ _ _, hwq1, H⟩, by omega⟩
        · have h5p := h5; try simp only [Option.isNone_some, Option.isNone_none, Option.isSome_some, Option.isSome_none, false_or, or_false, true_and, and_true, decide_eq_true_eq, decide_eq_false_iff_not, Bool.or_eq_true, Bool.and_eq_true, Bool.or_eq_false_iff, Bool.and_eq_false_iff, Bool.not_eq_true', Bool.not_eq_false', bne_iff_ne, beq_iff_eq, beq_eq_false_iff_ne, bne_eq_false_iff_eq, ne_eq, Decidable.not_not, Int.not_lt, Int.not_le, gt_iff_lt, ge_iff_le, Bool.true_eq_false, Bool.false_eq_true, not_true_eq_false, not_false_eq_true] at h5p
          have hsm1 := (apart_plain' hsm l[k].cls l[k].basket l[k].now (by simpa using h5)).2
          have hwq1 := offer_wf hwq l[k].cls 0 l[k].now
          refine wp_skip ?_
          refine n_then ?_
          refine wp_seq ?_
          -- region 15 DRAWS law.go:135
          refine region_st (loud := [11]) (tails := [11]) (free := [12]) [0, 1, 2, 3, 4, 5, 6, 7, 8, 9, 10, 12, 11, 13] [Sl v 3 Ask.enc l] Fmo (by kernel_rfl) (by kernel_rfl) rfl H ?_
          refine m_w rfl rfl (wn rfl) rfl rfl S (fun w H => y_move rfl S rfl) fun a S => ?_
          refine m_w rfl rfl (wn rfl) rfl rfl S (fun w H => y_move rfl S rfl) fun a S => ?_
          refine m_w rfl rfl (wn rfl) rfl rfl S (fun w H => y_move rfl S rfl) fun a S => ?_
          refine m_w rfl rfl (wn rfl) rfl rfl S (fun w H => y_iaddrn rfl Try.underlying23 Fsiz34 S H rfl rfl (by first | omega | (simp only [List.length_append, List.length_take, List.length_drop, List.length_replicate, List.length_set, List.length_map, List.length_cons, List.length_nil]; omega))) fun a S => ?_
          refine m_w rfl rfl (wn rfl) rfl rfl S (fun w H => y_faddr rfl Ffo34_0 S rfl) fun a S => ?_
          refine m_loadsf _ rfl rfl (wn rfl) rfl rfl S rfl Fsca3 rfl (by first | omega | (simp only [List.length_append, List.length_take, List.length_drop, List.length_replicate, List.length_set, List.length_map, List.length_cons, List.length_nil]; omega)) rfl fun a S => ?_
          refine m_w rfl rfl (wn rfl) rfl rfl S (fun w H => y_move rfl S rfl) fun a S => ?_
          refine m_w rfl rfl (wn rfl) rfl rfl S (fun w H => y_move rfl S rfl) fun a S => ?_
          refine m_w rfl rfl (wn rfl) rfl rfl S (fun w H => y_iaddrn rfl Try.underlying23 Fsiz34 S H rfl rfl (by first | omega | (simp only [List.length_append, List.length_take, List.length_drop, List.length_replicate, List.length_set, List.length_map, List.length_cons, List.length_nil]; omega))) fun a S => ?_
          refine m_w rfl rfl (wn rfl) rfl rfl S (fun w H => y_faddr rfl Ffo34_2 S rfl) fun a S => ?_
          refine m_loadsf _ rfl rfl (wn rfl) rfl rfl S rfl Fsca3 rfl (by first | omega | (simp only [List.length_append, List.length_take, List.length_drop, List.length_replicate, List.length_set, List.length_map, List.length_cons, List.length_nil]; omega)) rfl fun a S => ?_
          refine m_f rfl rfl (wn rfl) rfl rfl S (fun w H => y_move rfl S rfl) fun a S => ?_
          refine m_l rfl rfl (fun w H => op_call (wn rfl) rfl rfl S (co_func rfl Try.call12 S rfl) (Ret.at_ (x := DoorA d2 q vr2 vl2 vp2) H (fun H => offer_spec d2 q vr2 vl2 vp2 _ _ _ k _ H hwq (by omega))) fun v w hc a S => ?_)
          obtain ⟨rfl, H⟩ := hc
          
          refine m_tail H rfl ?_
          refine m_w rfl rfl (wn rfl) rfl rfl S (fun w H => y_neb rfl Try.underlying4 S rfl rfl) fun a S => ?_
          refine m_nil (fun w H => ?_)
          refine n_then ?_
          -- cond 6
          refine c_if S rfl (fun h7 => ?_) (fun h7 => ?_)
          · have h7p := h7; try simp only [Option.isNone_some, Option.isNone_none, Option.isSome_some, Option.isSome_none, false_or, or_false, true_and, and_true, decide_eq_true_eq, decide_eq_false_iff_not, Bool.or_eq_true, Bool.and_eq_true, Bool.or_eq_false_iff, Bool.and_eq_false_iff, Bool.not_eq_true', Bool.not_eq_false', bne_iff_ne, beq_iff_eq, beq_eq_false_iff_ne, bne_eq_false_iff_eq, ne_eq, Decidable.not_not, Int.not_lt, Int.not_le, gt_iff_lt, ge_iff_le, Bool.true_eq_false, Bool.false_eq_true, not_true_eq_false, not_false_eq_true] at h7p
            all_goals (
              exfalso
              have e := apart_plain' hsm l[k].cls l[k].basket l[k].now (by simpa using h5)
              rw [e.1] at h7; simp at h7)
          · have h7p := h7; try simp only [Option.isNone_some, Option.isNone_none, Option.isSome_some, Option.isSome_none, false_or, or_false, true_and, and_true, decide_eq_true_eq, decide_eq_false_iff_not, Bool.or_eq_true, Bool.and_eq_true, Bool.or_eq_false_iff, Bool.and_eq_false_iff, Bool.not_eq_true', Bool.not_eq_false', bne_iff_ne, beq_iff_eq, beq_eq_false_iff_ne, bne_eq_false_iff_eq, ne_eq, Decidable.not_not, Int.not_lt, Int.not_le, gt_iff_lt, ge_iff_le, Bool.true_eq_false, Bool.false_eq_true, not_true_eq_false, not_false_eq_true] at h7p
            refine wp_skip ?_
            refine n_block ?_
            refine n_then ?_
            -- region 10 law.go:127
            refine wp_region_lit ?_
            refine wl_of (op_y (wn rfl) rfl rfl S (y_move rfl S rfl) fun a S => ?_)
            refine wl_of (op_y (wn rfl) rfl rfl S (y_add rfl S rfl rfl (by omega)) fun a S => ?_)
            refine wl_of (op_y (wn rfl) rfl rfl S (y_assign rfl S rfl) fun a S => ?_)
            refine wpList_nil ?_
            refine n_then ?_
            exact ⟨k + 1, S.nil.cons S 22 rfl, (((S.nil.cons S 5 rfl).cons S 13 rfl).cons S 14 rfl).cons S 18 rfl, ⟨by omega, _, _, hsm1, offer_wf hws _ _ _, hwq1, H⟩, by omega⟩
      · have h4p := h4; try simp only [Option.isNone_some, Option.isNone_none, Option.isSome_some, Option.isSome_none, false_or, or_false, true_and, and_true, decide_eq_true_eq, decide_eq_false_iff_not, Bool.or_eq_true, Bool.and_eq_true, Bool.or_eq_false_iff, Bool.and_eq_false_iff, Bool.not_eq_true', Bool.not_eq_false', bne_iff_ne, beq_iff_eq, beq_eq_false_iff_ne, bne_eq_false_iff_eq, ne_eq, Decidable.not_not, Int.not_lt, Int.not_le, gt_iff_lt, ge_iff_le, Bool.true_eq_false, Bool.false_eq_true, not_true_eq_false, not_false_eq_true] at h4p
        refine wp_exit ?_
        refine x_then (x_then (x_eq ?_))
        refine n_then ?_
        have S := S.nil.cons S 13 rfl
        refine wp_seq ?_
        -- region 17 law.go:139
        refine wp_region_lit ?_
        refine wl_of (op_y (wn rfl) rfl rfl S (y_move rfl S rfl) fun a S => ?_)
        refine wl_of (op_y (wn rfl) rfl rfl S (y_assign rfl S rfl) fun a S => ?_)
        refine wpList_nil ?_
        refine n_then ?_
        refine wp_ret ?_
        refine ret1 rfl S rfl ?_
        exact ⟨rfl, H.toExt⟩
set_option maxHeartbeats 4000000 in
/-- foyer/foyerlaw49.ShedRefused -/
theorem law6 (sp ra rb rc rm : Int) (v : Value) (l : List Ask) (w0 : World) (hs : 0 ≤ sp ∧ sp ≤ 255) (ha : 0 ≤ ra ∧ ra ≤ 255) (hb : 0 ≤ rb ∧ rb ≤ 255) (hc : 0 ≤ rc ∧ rc ≤ 255) (hm : 0 ≤ rm ∧ rm ≤ 255) (hv : IsSl w0 v 3 Ask.enc l) :
    Ret Try.prog 8 #[.int .u8 sp, .int .u8 ra, .int .u8 rb, .int .u8 rc, .int .u8 rm, v] w0 (fun v w => v = .bool true ∧ Ext w0 w) := by
  refine ret_of_wp (n := 122) Try.func8 rfl rfl rfl (fl := [(0, .int .u8 sp), (1, .int .u8 ra), (2, .int .u8 rb), (3, .int .u8 rc), (4, .int .u8 rm), (5, v)]) rfl (fun a S => ?_)
  have H := HSat.start w0
  have hok := door_ok hs ha hb hc hm
  have H := H.ro0 (Sl v 3 Ask.enc l) rfl (hv)
  refine wp_seq ?_
  -- region 0 law.go:171
  refine wp_region_lit ?_
  refine wl_of (op_y (wn rfl) rfl rfl S (y_assign rfl S rfl) fun a S => ?_)
  refine wpList_nil ?_
  refine n_then ?_
  refine wp_seq ?_
  -- region 1 law.go:172
  refine wp_region_lit ?_
  refine wl_of (op_call (wn rfl) rfl rfl S (co_func rfl Try.call9 S rfl) (head_spec _) fun v w hc a S => ?_)
  obtain ⟨rfl, he⟩ := hc
  have H := H.ext he
  refine wl_of (op_y (wn rfl) rfl rfl S (y_assign rfl S rfl) fun a S => ?_)
  refine wpList_nil ?_
  refine n_then ?_
  refine wp_seq ?_
  -- region 2 law.go:173
  refine wp_region_lit ?_
  refine wl_of (op_y (wn rfl) rfl rfl S (y_move rfl S rfl) fun a S => ?_)
  refine wl_of (op_y (wn rfl) rfl rfl S (y_move rfl S rfl) fun a S => ?_)
  refine wl_of (op_y (wn rfl) rfl rfl S (y_move rfl S rfl) fun a S => ?_)
  refine wl_of (op_y (wn rfl) rfl rfl S (y_move rfl S rfl) fun a S => ?_)
  refine wl_of (op_y (wn rfl) rfl rfl S (y_move rfl S rfl) fun a S => ?_)
  refine wl_of (op_call (wn rfl) rfl rfl S (co_func rfl Try.call17 S rfl) (door_spec sp ra rb rc rm _ hs ha hb hc hm) fun v w hc a S => ?_)
  obtain ⟨d1, vr1, vl1, vp1, bs1, rfl, H1⟩ := hc
  have H := H.call2 H1 rfl rfl
  refine wl_of (op_y (wn rfl) rfl rfl S (y_move rfl S rfl) fun a S => ?_)
  refine wl_of (op_y (wn rfl) rfl rfl S (y_extract rfl S rfl rfl) fun a S => ?_)
  refine wl_of (op_y (wn rfl) rfl rfl S (y_extract rfl S rfl rfl) fun a S => ?_)
  refine wl_of (op_y (wn rfl) rfl rfl S (y_extract rfl S rfl rfl) fun a S => ?_)
  refine wl_of (op_y (wn rfl) rfl rfl S (y_extract rfl S rfl rfl) fun a S => ?_)
  refine wl_of (op_y (wn rfl) rfl rfl S (y_assign rfl S rfl) fun a S => ?_)
  refine wl_of (op_y (wn rfl) rfl rfl S (y_assign rfl S rfl) fun a S => ?_)
  refine wl_of (op_y (wn rfl) rfl rfl S (y_assign rfl S rfl) fun a S => ?_)
  refine wl_of (op_y (wn rfl) rfl rfl S (y_assign rfl S rfl) fun a S => ?_)
  refine wpList_nil ?_
  refine n_then ?_
  have S := (((((((((S.nil.cons S 5 rfl).cons S 4 rfl).cons S 3 rfl).cons S 2 rfl).cons S 1 rfl).cons S 0 rfl).cons S 12 rfl).cons S 13 rfl).cons S 14 rfl).cons S 17 rfl
  refine wp_seq ?_
  -- region 3 law.go:174
  refine wp_region_lit ?_
  refine wl_of (op_y (wn rfl) rfl rfl S (y_move rfl S rfl) fun a S => ?_)
  refine wl_of (op_y (wn rfl) rfl rfl S (y_move rfl S rfl) fun a S => ?_)
  refine wl_of (op_y (wn rfl) rfl rfl S (y_move rfl S rfl) fun a S => ?_)
  refine wl_of (op_y (wn rfl) rfl rfl S (y_move rfl S rfl) fun a S => ?_)
  refine wl_of (op_y (wn rfl) rfl rfl S (y_move rfl S rfl) fun a S => ?_)
  refine wl_of (op_call (wn rfl) rfl rfl S (co_func rfl Try.call17 S rfl) (door_spec sp ra rb rc rm _ hs ha hb hc hm) fun v w hc a S => ?_)
  obtain ⟨d2, vr2, vl2, vp2, bs2, rfl, H1⟩ := hc
  have H := H.call2 H1 rfl rfl
  refine wl_of (op_y (wn rfl) rfl rfl S (y_move rfl S rfl) fun a S => ?_)
  refine wl_of (op_y (wn rfl) rfl rfl S (y_extract rfl S rfl rfl) fun a S => ?_)
  refine wl_of (op_y (wn rfl) rfl rfl S (y_extract rfl S rfl rfl) fun a S => ?_)
  refine wl_of (op_y (wn rfl) rfl rfl S (y_extract rfl S rfl rfl) fun a S => ?_)
  refine wl_of (op_y (wn rfl) rfl rfl S (y_extract rfl S rfl rfl) fun a S => ?_)
  refine wl_of (op_y (wn rfl) rfl rfl S (y_assign rfl S rfl) fun a S => ?_)
  refine wl_of (op_y (wn rfl) rfl rfl S (y_assign rfl S rfl) fun a S => ?_)
  refine wl_of (op_y (wn rfl) rfl rfl S (y_assign rfl S rfl) fun a S => ?_)
  refine wl_of (op_y (wn rfl) rfl rfl S (y_assign rfl S rfl) fun a S => ?_)
  refine wpList_nil ?_
  refine n_then ?_
  have S := ((((((S.nil.cons S 5 rfl).cons S 12 rfl).cons S 13 rfl).cons S 14 rfl).cons S 17 rfl).cons S 18 rfl).cons S 21 rfl
  refine wp_seq ?_
  refine wp_seq ?_
  -- region 4 law.go:175
  refine wp_region_lit ?_
  refine wl_of (op_y (wn rfl) rfl rfl S (y_move rfl S rfl) fun a S => ?_)
  refine wl_of (op_y (wn rfl) rfl rfl S (y_not rfl S rfl) fun a S => ?_)
  refine wl_of (op_y (wn rfl) rfl rfl S (y_move rfl S rfl) fun a S => ?_)
  refine' wl_or 2 48 rfl S H rfl rfl rfl rfl rfl rfl rfl (fun _ S => (wn rfl)) (fun h1 kk => ?yh1) (fun a w S H => ?_)
  case yh1 =>
    have h1p := h1; try simp only [Option.isNone_some, Option.isNone_none, Option.isSome_some, Option.isSome_none, false_or, or_false, true_and, and_true, decide_eq_true_eq, decide_eq_false_iff_not, Bool.or_eq_true, Bool.and_eq_true, Bool.or_eq_false_iff, Bool.and_eq_false_iff, Bool.not_eq_true', Bool.not_eq_false', bne_iff_ne, beq_iff_eq, beq_eq_false_iff_ne, bne_eq_false_iff_eq, ne_eq, Decidable.not_not, Int.not_lt, Int.not_le, gt_iff_lt, ge_iff_le, Bool.true_eq_false, Bool.false_eq_true, not_true_eq_false, not_false_eq_true] at h1p
    refine wl_of (op_y (wg' 48 rfl rfl S rfl h1 rfl) rfl rfl S (y_move rfl S rfl) fun a S => ?_)
    refine wl_of (op_y (wg' 48 rfl rfl S rfl h1 rfl) rfl rfl S (y_not rfl S rfl) fun a S => ?_)
    refine wl_of (op_y (wn rfl) rfl rfl S (y_or' rfl h1 S rfl rfl) fun a S => ?_)
    exact kk _ _ (S.join 3 51 rfl rfl) H
  refine wpList_nil ?_
  refine n_then ?_
  have S := (((((S.nil.cons S 5 rfl).cons S 12 rfl).cons S 13 rfl).cons S 14 rfl).cons S 18 rfl).cons S 51 rfl
  -- cond 1
  refine c_if S rfl (fun h2 => ?_) (fun h2 => ?_)
  · have h2p := h2; try simp only [Option.isNone_some, Option.isNone_none, Option.isSome_some, Option.isSome_none, false_or, or_false, true_and, and_true, decide_eq_true_eq, decide_eq_false_iff_not, Bool.or_eq_true, Bool.and_eq_true, Bool.or_eq_false_iff, Bool.and_eq_false_iff, Bool.not_eq_true', Bool.not_eq_false', bne_iff_ne, beq_iff_eq, beq_eq_false_iff_ne, bne_eq_false_iff_eq, ne_eq, Decidable.not_not, Int.not_lt, Int.not_le, gt_iff_lt, ge_iff_le, Bool.true_eq_false, Bool.false_eq_true, not_true_eq_false, not_false_eq_true] at h2p
    all_goals (
      exact absurd h2 (by simp))
  · have h2p := h2; try simp only [Option.isNone_some, Option.isNone_none, Option.isSome_some, Option.isSome_none, false_or, or_false, true_and, and_true, decide_eq_true_eq, decide_eq_false_iff_not, Bool.or_eq_true, Bool.and_eq_true, Bool.or_eq_false_iff, Bool.and_eq_false_iff, Bool.not_eq_true', Bool.not_eq_false', bne_iff_ne, beq_iff_eq, beq_eq_false_iff_ne, bne_eq_false_iff_eq, ne_eq, Decidable.not_not, Int.not_lt, Int.not_le, gt_iff_lt, ge_iff_le, Bool.true_eq_false, Bool.false_eq_true, not_true_eq_false, not_false_eq_true] at h2p
    refine wp_skip ?_
    refine n_then ?_
    refine wp_seq ?_
    refine wp_seq ?_
    -- region 6 law.go:178
    refine wp_region_lit ?_
    refine wl_of (op_y (wn rfl) rfl rfl S (y_move rfl S rfl) fun a S => ?_)
    refine wl_of (op_y (wn rfl) rfl rfl S (y_lens rfl Try.underlying23 S H rfl) fun a S => ?_)
    refine wl_of (op_y (wn rfl) rfl rfl S (y_bin rfl S rfl rfl rfl) fun a S => ?_)
    refine wpList_nil ?_
    refine n_then ?_
    -- cond 2
    refine c_if S rfl (fun h3 => ?_) (fun h3 => ?_)
    · have h3p := h3; try simp only [Option.isNone_some, Option.isNone_none, Option.isSome_some, Option.isSome_none, false_or, or_false, true_and, and_true, decide_eq_true_eq, decide_eq_false_iff_not, Bool.or_eq_true, Bool.and_eq_true, Bool.or_eq_false_iff, Bool.and_eq_false_iff, Bool.not_eq_true', Bool.not_eq_false', bne_iff_ne, beq_iff_eq, beq_eq_false_iff_ne, bne_eq_false_iff_eq, ne_eq, Decidable.not_not, Int.not_lt, Int.not_le, gt_iff_lt, ge_iff_le, Bool.true_eq_false, Bool.false_eq_true, not_true_eq_false, not_false_eq_true] at h3p
      refine wp_seq ?_
      -- region 7 law.go:179
      refine wp_region_lit ?_
      refine wl_of (op_y (wn rfl) rfl rfl S (y_move rfl S rfl) fun a S => ?_)
      refine wl_of (op_y (wn rfl) rfl rfl S (y_assign rfl S rfl) fun a S => ?_)
      refine wpList_nil ?_
      refine n_then ?_
      have S := ((((S.nil.cons S 5 rfl).cons S 13 rfl).cons S 14 rfl).cons S 18 rfl).cons S 12 rfl
      refine wp_ret ?_
      refine r_then (ret1 rfl S rfl ?_)
      exact ⟨rfl, H.toExt⟩
    · have h3p := h3; try simp only [Option.isNone_some, Option.isNone_none, Option.isSome_some, Option.isSome_none, false_or, or_false, true_and, and_true, decide_eq_true_eq, decide_eq_false_iff_not, Bool.or_eq_true, Bool.and_eq_true, Bool.or_eq_false_iff, Bool.and_eq_false_iff, Bool.not_eq_true', Bool.not_eq_false', bne_iff_ne, beq_iff_eq, beq_eq_false_iff_ne, bne_eq_false_iff_eq, ne_eq, Decidable.not_not, Int.not_lt, Int.not_le, gt_iff_lt, ge_iff_le, Bool.true_eq_false, Bool.false_eq_true, not_true_eq_false, not_false_eq_true] at h3p
      refine wp_skip ?_
      refine n_then ?_
      have S := ((((S.nil.cons S 5 rfl).cons S 12 rfl).cons S 13 rfl).cons S 14 rfl).cons S 18 rfl
      refine wp_seq ?_
      refine wp_seq ?_
      -- region 8 law.go:181
      refine wp_region_lit ?_
      refine wl_of (op_y (wn rfl) rfl rfl S (y_assign rfl S rfl) fun a S => ?_)
      refine wpList_nil ?_
      refine n_then ?_
      refine wp_block ?_
      -- slots written in the loop and forgotten at its head: [12]
      have SU := (((S.nil.cons S 5 rfl).cons S 13 rfl).cons S 14 rfl).cons S 18 rfl
      refine loopW (X := Nat) SU (fun k => [(22, .int .i64 (k : Int))]) (fun k w => k ≤ l.length ∧ ∃ s, s.WF k ∧ HSat No w0 [DoorA d2 s vr2 vl2 vp2, DoorA d1 s vr1 vl1 vp1, Sl v 3 Ask.enc l] w) (fun k => l.length - k) 0 (S.nil.cons S 22 rfl) (⟨by omega, _, new_wf hok, H.take [DoorA d2 (newDS (1 + sp % 20) [ra % 6, rb % 6, rc % 6] (max 1 (ra % 6 + rb % 6 + rc % 6 + rm % 8))) vr2 vl2 vp2, DoorA d1 (newDS (1 + sp % 20) [ra % 6, rb % 6, rc % 6] (max 1 (ra % 6 + rb % 6 + rc % 6 + rm % 8))) vr1 vl1 vp1, Sl v 3 Ask.enc l]⟩) (fun k a w S hW => ?_)
      simp only [List.cons_append, List.nil_append] at S
      obtain ⟨hk, s, hws, H⟩ := hW
      refine wp_seq ?_
      refine wp_seq ?_
      -- region 9 law.go:181
      refine wp_region_lit ?_
      refine wl_of (op_y (wn rfl) rfl rfl S (y_move rfl S rfl) fun a S => ?_)
      refine wl_of (op_y (wn rfl) rfl rfl S (y_move rfl S rfl) fun a S => ?_)
      refine wl_of (op_y (wn rfl) rfl rfl S (y_lens rfl Try.underlying23 S H rfl) fun a S => ?_)
      refine wl_of (op_y (wn rfl) rfl rfl S (y_bin rfl S rfl rfl rfl) fun a S => ?_)
      refine wpList_nil ?_
      refine n_then ?_
      -- cond 3
      refine c_if S rfl (fun h4 => ?_) (fun h4 => ?_)
      · have h4p := h4; try simp only [Option.isNone_some, Option.isNone_none, Option.isSome_some, Option.isSome_none, false_or, or_false, true_and, and_true, decide_eq_true_eq, decide_eq_false_iff_not, Bool.or_eq_true, Bool.and_eq_true, Bool.or_eq_false_iff, Bool.and_eq_false_iff, Bool.not_eq_true', Bool.not_eq_false', bne_iff_ne, beq_iff_eq, beq_eq_false_iff_ne, bne_eq_false_iff_eq, ne_eq, Decidable.not_not, Int.not_lt, Int.not_le, gt_iff_lt, ge_iff_le, Bool.true_eq_false, Bool.false_eq_true, not_true_eq_false, not_false_eq_true] at h4p
        refine wp_skip ?_
        refine n_then ?_
        refine wp_seq ?_
        refine wp_block ?_
        refine wp_seq ?_
        refine wp_seq ?_
        -- region 11 DRAWS law.go:182
        refine region_st (loud := [16]) (tails := [16]) (free := []) [0, 1, 2, 3, 4, 5, 6, 7, 8, 9, 10, 11, 12, 13, 14, 15, 16, 17] [Sl v 3 Ask.enc l] Fmo (by kernel_rfl) (by kernel_rfl) rfl H ?_
        refine m_w rfl rfl (wn rfl) rfl rfl S (fun w H => y_move rfl S rfl) fun a S => ?_
        refine m_w rfl rfl (wn rfl) rfl rfl S (fun w H => y_move rfl S rfl) fun a S => ?_
        refine m_w rfl rfl (wn rfl) rfl rfl S (fun w H => y_move rfl S rfl) fun a S => ?_
        refine m_w rfl rfl (wn rfl) rfl rfl S (fun w H => y_iaddrn rfl Try.underlying23 Fsiz34 S H rfl rfl (by first | omega | (simp only [List.length_append, List.length_take, List.length_drop, List.length_replicate, List.length_set, List.length_map, List.length_cons, List.length_nil]; omega))) fun a S => ?_
        refine m_w rfl rfl (wn rfl) rfl rfl S (fun w H => y_faddr rfl Ffo34_0 S rfl) fun a S => ?_
        refine m_loadsf _ rfl rfl (wn rfl) rfl rfl S rfl Fsca3 rfl (by first | omega | (simp only [List.length_append, List.length_take, List.length_drop, List.length_replicate, List.length_set, List.length_map, List.length_cons, List.length_nil]; omega)) rfl fun a S => ?_
        refine m_w rfl rfl (wn rfl) rfl rfl S (fun w H => y_move rfl S rfl) fun a S => ?_
        refine m_w rfl rfl (wn rfl) rfl rfl S (fun w H => y_move rfl S rfl) fun a S => ?_
        refine m_w rfl rfl (wn rfl) rfl rfl S (fun w H => y_iaddrn rfl Try.underlying23 Fsiz34 S H rfl rfl (by first | omega | (simp only [List.length_append, List.length_take, List.length_drop, List.length_replicate, List.length_set, List.length_map, List.length_cons, List.length_nil]; omega))) fun a S => ?_
        refine m_w rfl rfl (wn rfl) rfl rfl S (fun w H => y_faddr rfl Ffo34_1 S rfl) fun a S => ?_
        refine m_loadsf _ rfl rfl (wn rfl) rfl rfl S rfl Fsca3 rfl (by first | omega | (simp only [List.length_append, List.length_take, List.length_drop, List.length_replicate, List.length_set, List.length_map, List.length_cons, List.length_nil]; omega)) rfl fun a S => ?_
        refine m_w rfl rfl (wn rfl) rfl rfl S (fun w H => y_move rfl S rfl) fun a S => ?_
        refine m_w rfl rfl (wn rfl) rfl rfl S (fun w H => y_move rfl S rfl) fun a S => ?_
        refine m_w rfl rfl (wn rfl) rfl rfl S (fun w H => y_iaddrn rfl Try.underlying23 Fsiz34 S H rfl rfl (by first | omega | (simp only [List.length_append, List.length_take, List.length_drop, List.length_replicate, List.length_set, List.length_map, List.length_cons, List.length_nil]; omega))) fun a S => ?_
        refine m_w rfl rfl (wn rfl) rfl rfl S (fun w H => y_faddr rfl Ffo34_2 S rfl) fun a S => ?_
        refine m_loadsf _ rfl rfl (wn rfl) rfl rfl S rfl Fsca3 rfl (by first | omega | (simp only [List.length_append, List.length_take, List.length_drop, List.length_replicate, List.length_set, List.length_map, List.length_cons, List.length_nil]; omega)) rfl fun a S => ?_
        refine m_l rfl rfl (fun w H => op_call (wn rfl) rfl rfl S (co_func rfl Try.call12 S rfl) (Ret.at_ (x := DoorA d1 s vr1 vl1 vp1) H (fun H => offer_spec d1 s vr1 vl1 vp1 _ _ _ k _ H hws (by omega))) fun v w hc a S => ?_)
        obtain ⟨rfl, H⟩ := hc
        
        refine m_tail H rfl ?_
        refine m_w rfl rfl (wn rfl) rfl rfl S (fun w H => y_not rfl S rfl) fun a S => ?_
        refine m_nil (fun w H => ?_)
        refine n_then ?_
        -- cond 4 (both ways go on)
        refine cut (fun a w => St 122 [(22, .int .i64 (k : Int)), (5, v), (13, .bool true), (14, .pointer (some ⟨d1, 0, none⟩)), (18, .pointer (some ⟨d2, 0, none⟩))] a ∧ HSat No w0 [DoorA d2 (offer s l[k].cls l[k].basket l[k].now).2 vr2 vl2 vp2, DoorA d1 (offer s l[k].cls l[k].basket l[k].now).2 vr1 vl1 vp1, Sl v 3 Ask.enc l] w) ?_ ?_
        · skip
          refine c_if S rfl (fun h5 => ?_) (fun h5 => ?_)
          · have h5p := h5; try simp only [Option.isNone_some, Option.isNone_none, Option.isSome_some, Option.isSome_none, false_or, or_false, true_and, and_true, decide_eq_true_eq, decide_eq_false_iff_not, Bool.or_eq_true, Bool.and_eq_true, Bool.or_eq_false_iff, Bool.and_eq_false_iff, Bool.not_eq_true', Bool.not_eq_false', bne_iff_ne, beq_iff_eq, beq_eq_false_iff_ne, bne_eq_false_iff_eq, ne_eq, Decidable.not_not, Int.not_lt, Int.not_le, gt_iff_lt, ge_iff_le, Bool.true_eq_false, Bool.false_eq_true, not_true_eq_false, not_false_eq_true] at h5p
            -- region 12 law.go:183
            refine wp_region_lit ?_
            refine wl_of (op_y (wn rfl) rfl rfl S (y_move rfl S rfl) fun a S => ?_)
            refine wl_of (op_y (wn rfl) rfl rfl S (y_move rfl S rfl) fun a S => ?_)
            refine wl_of (op_y (wn rfl) rfl rfl S (y_move rfl S rfl) fun a S => ?_)
            refine wl_of (op_y (wn rfl) rfl rfl S (y_iaddrn rfl Try.underlying23 Fsiz34 S H rfl rfl (by first | omega | (simp only [List.length_append, List.length_take, List.length_drop, List.length_replicate, List.length_set, List.length_map, List.length_cons, List.length_nil]; omega))) fun a S => ?_)
            refine wl_of (op_y (wn rfl) rfl rfl S (y_faddr rfl Ffo34_2 S rfl) fun a S => ?_)
            refine wl_of (op_y (wn rfl) rfl rfl S (y_loadsf _ rfl Fsca3 S H rfl (by first | omega | (simp only [List.length_append, List.length_take, List.length_drop, List.length_replicate, List.length_set, List.length_map, List.length_cons, List.length_nil]; omega)) rfl) fun a S => ?_)
            refine wl_of (op_call (wn rfl) rfl rfl S (co_func rfl Try.call12 S rfl) (Ret.at_ (x := DoorA d2 s vr2 vl2 vp2) H (fun H => offer_spec d2 s vr2 vl2 vp2 _ _ _ k _ H hws (by omega))) fun v w hc a S => ?_)
            obtain ⟨rfl, H⟩ := hc
            
            refine wpList_nil ?_
            refine n_then ?_
            first | exact ⟨((((S.nil.cons S 18 rfl).cons S 14 rfl).cons S 13 rfl).cons S 5 rfl).cons S 22 rfl, H⟩ | exact ⟨((((S.nil.cons S 18 rfl).cons S 14 rfl).cons S 13 rfl).cons S 5 rfl).cons S 22 rfl, by rw [← offer_tick_eq (show (offer s l[k].cls l[k].basket l[k].now).1 = false by simpa using h5)] at H; exact H⟩
          · have h5p := h5; try simp only [Option.isNone_some, Option.isNone_none, Option.isSome_some, Option.isSome_none, false_or, or_false, true_and, and_true, decide_eq_true_eq, decide_eq_false_iff_not, Bool.or_eq_true, Bool.and_eq_true, Bool.or_eq_false_iff, Bool.and_eq_false_iff, Bool.not_eq_true', Bool.not_eq_false', bne_iff_ne, beq_iff_eq, beq_eq_false_iff_ne, bne_eq_false_iff_eq, ne_eq, Decidable.not_not, Int.not_lt, Int.not_le, gt_iff_lt, ge_iff_le, Bool.true_eq_false, Bool.false_eq_true, not_true_eq_false, not_false_eq_true] at h5p
            refine wp_seq ?_
            -- region 13 DRAWS law.go:184
            refine region_st (loud := [16]) (tails := [16]) (free := []) [0, 1, 2, 3, 4, 5, 6, 7, 8, 9, 10, 11, 12, 13, 14, 15, 16, 17] [Sl v 3 Ask.enc l] Fmo (by kernel_rfl) (by kernel_rfl) rfl H ?_
            refine m_w rfl rfl (wn rfl) rfl rfl S (fun w H => y_move rfl S rfl) fun a S => ?_
            refine m_w rfl rfl (wn rfl) rfl rfl S (fun w H => y_move rfl S rfl) fun a S => ?_
            refine m_w rfl rfl (wn rfl) rfl rfl S (fun w H => y_move rfl S rfl) fun a S => ?_
            refine m_w rfl rfl (wn rfl) rfl rfl S (fun w H => y_iaddrn rfl Try.underlying23 Fsiz34 S H rfl rfl (by first | omega | (simp only [List.length_append, List.length_take, List.length_drop, List.length_replicate, List.length_set, List.length_map, List.length_cons, List.length_nil]; omega))) fun a S => ?_
            refine m_w rfl rfl (wn rfl) rfl rfl S (fun w H => y_faddr rfl Ffo34_0 S rfl) fun a S => ?_
            refine m_loadsf _ rfl rfl (wn rfl) rfl rfl S rfl Fsca3 rfl (by first | omega | (simp only [List.length_append, List.length_take, List.length_drop, List.length_replicate, List.length_set, List.length_map, List.length_cons, List.length_nil]; omega)) rfl fun a S => ?_
            refine m_w rfl rfl (wn rfl) rfl rfl S (fun w H => y_move rfl S rfl) fun a S => ?_
            refine m_w rfl rfl (wn rfl) rfl rfl S (fun w H => y_move rfl S rfl) fun a S => ?_
            refine m_w rfl rfl (wn rfl) rfl rfl S (fun w H => y_iaddrn rfl Try.underlying23 Fsiz34 S H rfl rfl (by first | omega | (simp only [List.length_append, List.length_take, List.length_drop, List.length_replicate, List.length_set, List.length_map, List.length_cons, List.length_nil]; omega))) fun a S => ?_
            refine m_w rfl rfl (wn rfl) rfl rfl S (fun w H => y_faddr rfl Ffo34_1 S rfl) fun a S => ?_
            refine m_loadsf _ rfl rfl (wn rfl) rfl rfl S rfl Fsca3 rfl (by first | omega | (simp only [List.length_append, List.length_take, List.length_drop, List.length_replicate, List.length_set, List.length_map, List.length_cons, List.length_nil]; omega)) rfl fun a S => ?_
            refine m_w rfl rfl (wn rfl) rfl rfl S (fun w H => y_move rfl S rfl) fun a S => ?_
            refine m_w rfl rfl (wn rfl) rfl rfl S (fun w H => y_move rfl S rfl) fun a S => ?_
            refine m_w rfl rfl (wn rfl) rfl rfl S (fun w H => y_iaddrn rfl Try.underlying23 Fsiz34 S H rfl rfl (by first | omega | (simp only [List.length_append, List.length_take, List.length_drop, List.length_replicate, List.length_set, List.length_map, List.length_cons, List.length_nil]; omega))) fun a S => ?_
            refine m_w rfl rfl (wn rfl) rfl rfl S (fun w H => y_faddr rfl Ffo34_2 S rfl) fun a S => ?_
            refine m_loadsf _ rfl rfl (wn rfl) rfl rfl S rfl Fsca3 rfl (by first | omega | (simp only [List.length_append, List.length_take, List.length_drop, List.length_replicate, List.length_set, List.length_map, List.length_cons, List.length_nil]; omega)) rfl fun a S => ?_
            refine m_l rfl rfl (fun w H => op_call (wn rfl) rfl rfl S (co_func rfl Try.call12 S rfl) (Ret.at_ (x := DoorA d2 s vr2 vl2 vp2) H (fun H => offer_spec d2 s vr2 vl2 vp2 _ _ _ k _ H hws (by omega))) fun v w hc a S => ?_)
            obtain ⟨rfl, H⟩ := hc
            
            refine m_tail H rfl ?_
            refine m_w rfl rfl (wn rfl) rfl rfl S (fun w H => y_not rfl S rfl) fun a S => ?_
            refine m_nil (fun w H => ?_)
            refine n_then ?_
            -- cond 5
            refine c_if S rfl (fun h6 => ?_) (fun h6 => ?_)
            · have h6p := h6; try simp only [Option.isNone_some, Option.isNone_none, Option.isSome_some, Option.isSome_none, false_or, or_false, true_and, and_true, decide_eq_true_eq, decide_eq_false_iff_not, Bool.or_eq_true, Bool.and_eq_true, Bool.or_eq_false_iff, Bool.and_eq_false_iff, Bool.not_eq_true', Bool.not_eq_false', bne_iff_ne, beq_iff_eq, beq_eq_false_iff_ne, bne_eq_false_iff_eq, ne_eq, Decidable.not_not, Int.not_lt, Int.not_le, gt_iff_lt, ge_iff_le, Bool.true_eq_false, Bool.false_eq_true, not_true_eq_false, not_false_eq_true] at h6p
              all_goals (
                exfalso; rw [h6p] at h5; simp at h5)
            · have h6p := h6; try simp only [Option.isNone_some, Option.isNone_none, Option.isSome_some, Option.isSome_none, false_or, or_false, true_and, and_true, decide_eq_true_eq, decide_eq_false_iff_not, Bool.or_eq_true, Bool.and_eq_true, Bool.or_eq_false_iff, Bool.and_eq_false_iff, Bool.not_eq_true', Bool.not_eq_false', bne_iff_ne, beq_iff_eq, beq_eq_false_iff_ne, bne_eq_false_iff_eq, ne_eq, Decidable.not_not, Int.not_lt, Int.not_le, gt_iff_lt, ge_iff_le, Bool.true_eq_false, Bool.false_eq_true, not_true_eq_false, not_false_eq_true] at h6p
              refine wp_skip ?_
              refine n_then ?_
              first | exact ⟨((((S.nil.cons S 18 rfl).cons S 14 rfl).cons S 13 rfl).cons S 5 rfl).cons S 22 rfl, H⟩ | exact ⟨((((S.nil.cons S 18 rfl).cons S 14 rfl).cons S 13 rfl).cons S 5 rfl).cons S 22 rfl, by rw [← offer_tick_eq (show (offer s l[k].cls l[k].basket l[k].now).1 = false by simpa using h5)] at H; exact H⟩
        rintro a w ⟨S, H⟩
        have hw1 := offer_wf hws l[k].cls l[k].basket l[k].now
        refine wp_seq ?_
        -- region 15 DRAWS law.go:187
        refine region_st (loud := [6, 13]) (tails := []) (free := []) [0, 1, 2, 3, 4, 5, 7, 8, 9, 10, 11, 12, 6, 13, 14, 15] [] Fmo (by kernel_rfl) (by kernel_rfl) rfl H ?_
        refine m_w rfl rfl (wn rfl) rfl rfl S (fun w H => y_move rfl S rfl) fun a S => ?_
        refine m_w rfl rfl (wn rfl) rfl rfl S (fun w H => y_move rfl S rfl) fun a S => ?_
        refine m_w rfl rfl (wn rfl) rfl rfl S (fun w H => y_move rfl S rfl) fun a S => ?_
        refine m_w rfl rfl (wn rfl) rfl rfl S (fun w H => y_iaddrn rfl Try.underlying23 Fsiz34 S H rfl rfl (by first | omega | (simp only [List.length_append, List.length_take, List.length_drop, List.length_replicate, List.length_set, List.length_map, List.length_cons, List.length_nil]; omega))) fun a S => ?_
        refine m_w rfl rfl (wn rfl) rfl rfl S (fun w H => y_faddr rfl Ffo34_2 S rfl) fun a S => ?_
        refine m_loadsf _ rfl rfl (wn rfl) rfl rfl S rfl Fsca3 rfl (by first | omega | (simp only [List.length_append, List.length_take, List.length_drop, List.length_replicate, List.length_set, List.length_map, List.length_cons, List.length_nil]; omega)) rfl fun a S => ?_
        refine m_w rfl rfl (wn rfl) rfl rfl S (fun w H => y_move rfl S rfl) fun a S => ?_
        refine m_w rfl rfl (wn rfl) rfl rfl S (fun w H => y_move rfl S rfl) fun a S => ?_
        refine m_w rfl rfl (wn rfl) rfl rfl S (fun w H => y_move rfl S rfl) fun a S => ?_
        refine m_w rfl rfl (wn rfl) rfl rfl S (fun w H => y_iaddrn rfl Try.underlying23 Fsiz34 S H rfl rfl (by first | omega | (simp only [List.length_append, List.length_take, List.length_drop, List.length_replicate, List.length_set, List.length_map, List.length_cons, List.length_nil]; omega))) fun a S => ?_
        refine m_w rfl rfl (wn rfl) rfl rfl S (fun w H => y_faddr rfl Ffo34_2 S rfl) fun a S => ?_
        refine m_loadsf _ rfl rfl (wn rfl) rfl rfl S rfl Fsca3 rfl (by first | omega | (simp only [List.length_append, List.length_take, List.length_drop, List.length_replicate, List.length_set, List.length_map, List.length_cons, List.length_nil]; omega)) rfl fun a S => ?_
        refine m_l rfl rfl (fun w H => op_call (wn rfl) rfl rfl S (co_func rfl Try.call15 S rfl) (passed_spec d1 (offer s l[k].cls l[k].basket l[k].now).2 vr1 vl1 vp1 l[k].now (k + 1) _ (H.perm (HasA.to_ (x := DoorA d1 (offer s l[k].cls l[k].basket l[k].now).2 vr1 vl1 vp1))) hw1) fun u111 w hc a S => ?_)
        have H1 := hc
        have H := H.call1 H1 rfl
        refine m_next H (by repeat (first | exact List.Sublist.refl _ | apply List.Sublist.cons)) ?_
        refine m_l rfl rfl (fun w H => op_call (wn rfl) rfl rfl S (co_func rfl Try.call15 S rfl) (passed_spec d2 (offer s l[k].cls l[k].basket l[k].now).2 vr2 vl2 vp2 l[k].now (k + 1) _ (H.perm (HasA.to_ (x := DoorA d2 (offer s l[k].cls l[k].basket l[k].now).2 vr2 vl2 vp2))) hw1) fun u118 w hc a S => ?_)
        have H1 := hc
        have H := H.call1 H1 rfl
        refine m_next H (by repeat (first | exact List.Sublist.refl _ | apply List.Sublist.cons)) ?_
        refine m_c rfl rfl (wn rfl) rfl rfl S (fun w => co_func rfl Try.call14 S rfl) (fun w H => ints_spec u111 u118 (passedL (offer s l[k].cls l[k].basket l[k].now).2 l[k].now) (passedL (offer s l[k].cls l[k].basket l[k].now).2 l[k].now) _ (H.sl _) (H.sl _)) fun a S => ?_
        refine m_w rfl rfl (wn rfl) rfl rfl S (fun w H => y_not rfl S rfl) fun a S => ?_
        refine m_nil (fun w H => ?_)
        refine n_then ?_
        -- cond 6
        refine c_if S rfl (fun h7 => ?_) (fun h7 => ?_)
        · have h7p := h7; try simp only [Option.isNone_some, Option.isNone_none, Option.isSome_some, Option.isSome_none, false_or, or_false, true_and, and_true, decide_eq_true_eq, decide_eq_false_iff_not, Bool.or_eq_true, Bool.and_eq_true, Bool.or_eq_false_iff, Bool.and_eq_false_iff, Bool.not_eq_true', Bool.not_eq_false', bne_iff_ne, beq_iff_eq, beq_eq_false_iff_ne, bne_eq_false_iff_eq, ne_eq, Decidable.not_not, Int.not_lt, Int.not_le, gt_iff_lt, ge_iff_le, Bool.true_eq_false, Bool.false_eq_true, not_true_eq_false, not_false_eq_true] at h7p
          all_goals (
            exfalso; simp at h7)
        · have h7p := h7; try simp only [Option.isNone_some, Option.isNone_none, Option.isSome_some, Option.isSome_none, false_or, or_false, true_and, and_true, decide_eq_true_eq, decide_eq_false_iff_not, Bool.or_eq_true, Bool.and_eq_true, Bool.or_eq_false_iff, Bool.and_eq_false_iff, Bool.not_eq_true', Bool.not_eq_false', bne_iff_ne, beq_iff_eq, beq_eq_false_iff_ne, bne_eq_false_iff_eq, ne_eq, Decidable.not_not, Int.not_lt, Int.not_le, gt_iff_lt, ge_iff_le, Bool.true_eq_false, Bool.false_eq_true, not_true_eq_false, not_false_eq_true] at h7p
          refine wp_skip ?_
          refine n_block ?_
          refine n_then ?_
          -- region 10 law.go:181
          refine wp_region_lit ?_
          refine wl_of (op_y (wn rfl) rfl rfl S (y_move rfl S rfl) fun a S => ?_)
          refine wl_of (op_y (wn rfl) rfl rfl S (y_add rfl S rfl rfl (by omega)) fun a S => ?_)
          refine wl_of (op_y (wn rfl) rfl rfl S (y_assign rfl S rfl) fun a S => ?_)
          refine wpList_nil ?_
          refine n_then ?_
          exact ⟨k + 1, S.nil.cons S 22 rfl, (((S.nil.cons S 5 rfl).cons S 13 rfl).cons S 14 rfl).cons S 18 rfl, ⟨by omega, _, offer_wf hws _ _ _, H.tail.tail⟩, by omega⟩
      · have h4p := h4; try simp only [Option.isNone_some, Option.isNone_none, Option.isSome_some, Option.isSome_none, false_or, or_false, true_and, and_true, decide_eq_true_eq, decide_eq_false_iff_not, Bool.or_eq_true, Bool.and_eq_true, Bool.or_eq_false_iff, Bool.and_eq_false_iff, Bool.not_eq_true', Bool.not_eq_false', bne_iff_ne, beq_iff_eq, beq_eq_false_iff_ne, bne_eq_false_iff_eq, ne_eq, Decidable.not_not, Int.not_lt, Int.not_le, gt_iff_lt, ge_iff_le, Bool.true_eq_false, Bool.false_eq_true, not_true_eq_false, not_false_eq_true] at h4p
        refine wp_exit ?_
        refine x_then (x_then (x_eq ?_))
        refine n_then ?_
        have S := S.nil.cons S 13 rfl
        refine wp_seq ?_
        -- region 17 law.go:191
        refine wp_region_lit ?_
        refine wl_of (op_y (wn rfl) rfl rfl S (y_move rfl S rfl) fun a S => ?_)
        refine wl_of (op_y (wn rfl) rfl rfl S (y_assign rfl S rfl) fun a S => ?_)
        refine wpList_nil ?_
        refine n_then ?_
        refine wp_ret ?_
        refine ret1 rfl S rfl ?_
        exact ⟨rfl, H.toExt⟩

end Go.Proofs.Ytojmagbonbcffaa
