/- The walks. No condition. -/
import Derived.Test.YtojmagbonbcffaaChecked
import Derived.Test.YtojmagbonbcffaaGwMap
import Derived.Test.YtojmagbonbcffaaFacts
import Derived.Test.YtojmagbonbcffaaPlain
import Derived.Test.YtojmagbonbcffaaW8
namespace Go.Proofs.Ytojmagbonbcffaa
open Go Go.Gw
set_option linter.unusedVariables false
set_option linter.unusedSimpArgs false
set_option maxHeartbeats 4000000 in
/-- foyer/foyerlaw49.ShedBaskets -/
theorem law2 (sp ra rb rc rm : Int) (v : Value) (l : List Ask) (w0 : World) (hs : 0 ≤ sp ∧ sp ≤ 255) (ha : 0 ≤ ra ∧ ra ≤ 255) (hb : 0 ≤ rb ∧ rb ≤ 255) (hc : 0 ≤ rc ∧ rc ≤ 255) (hm : 0 ≤ rm ∧ rm ≤ 255) (hv : IsSl w0 v 3 Ask.enc l) :
    Ret Try.prog 4 #[.int .u8 sp, .int .u8 ra, .int .u8 rb, .int .u8 rc, .int .u8 rm, v] w0 (fun v w => v = .bool true ∧ Ext w0 w) := by
  refine ret_of_wp (n := 141) Try.func4 rfl rfl rfl (fl := [(0, .int .u8 sp), (1, .int .u8 ra), (2, .int .u8 rb), (3, .int .u8 rc), (4, .int .u8 rm), (5, v)]) rfl (fun a S => ?_)
  have H := HSat.start w0
  have hok := door_ok hs ha hb hc hm
  have H := H.ro0 (Sl v 3 Ask.enc l) rfl (hv)
  refine wp_seq ?_
  -- region 0 law.go:61
  refine wp_region_lit ?_
  refine wl_of (op_y (wn rfl) rfl rfl S (y_assign rfl S rfl) fun a S => ?_)
  refine wpList_nil ?_
  refine n_then ?_
  refine wp_seq ?_
  -- region 1 law.go:62
  refine wp_region_lit ?_
  refine wl_of (op_call (wn rfl) rfl rfl S (co_func rfl Try.call9 S rfl) (head_spec _) fun v w hc a S => ?_)
  obtain ⟨rfl, he⟩ := hc
  have H := H.ext he
  refine wl_of (op_y (wn rfl) rfl rfl S (y_assign rfl S rfl) fun a S => ?_)
  refine wpList_nil ?_
  refine n_then ?_
  refine wp_seq ?_
  -- region 2 law.go:63
  refine wp_region_lit ?_
  refine wl_of (op_y (wn rfl) rfl rfl S (y_move rfl S rfl) fun a S => ?_)
  refine wl_of (op_y (wn rfl) rfl rfl S (y_move rfl S rfl) fun a S => ?_)
  refine wl_of (op_y (wn rfl) rfl rfl S (y_move rfl S rfl) fun a S => ?_)
  refine wl_of (op_y (wn rfl) rfl rfl S (y_move rfl S rfl) fun a S => ?_)
  refine wl_of (op_y (wn rfl) rfl rfl S (y_move rfl S rfl) fun a S => ?_)
  refine wl_of (op_call (wn rfl) rfl rfl S (co_func rfl Try.call17 S rfl) (door_spec sp ra rb rc rm _ hs ha hb hc hm) fun v w hc a S => ?_)
  obtain ⟨d1, vr1, vl1, vp1, bs1, rfl, H1⟩ := hc
  have H := H.call2 H1 rfl rfl
  refine wl_of (op_y (wn rfl) rfl rfl S (y_move rfl S rfl) fun a S => ?_)
  refine wl_of (op_y (wn rfl) rfl rfl S (y_extract rfl S rfl rfl) fun a S => ?_)
  refine wl_of (op_y (wn rfl) rfl rfl S (y_extract rfl S rfl rfl) fun a S => ?_)
  refine wl_of (op_y (wn rfl) rfl rfl S (y_extract rfl S rfl rfl) fun a S => ?_)
  refine wl_of (op_y (wn rfl) rfl rfl S (y_extract rfl S rfl rfl) fun a S => ?_)
  refine wl_of (op_y (wn rfl) rfl rfl S (y_assign rfl S rfl) fun a S => ?_)
  refine wl_of (op_y (wn rfl) rfl rfl S (y_assign rfl S rfl) fun a S => ?_)
  refine wl_of (op_y (wn rfl) rfl rfl S (y_assign rfl S rfl) fun a S => ?_)
  refine wl_of (op_y (wn rfl) rfl rfl S (y_assign rfl S rfl) fun a S => ?_)
  refine wpList_nil ?_
  refine n_then ?_
  have S := ((((((S.nil.cons S 5 rfl).cons S 0 rfl).cons S 12 rfl).cons S 13 rfl).cons S 14 rfl).cons S 16 rfl).cons S 17 rfl
  refine wp_seq ?_
  refine wp_seq ?_
  -- region 3 law.go:64
  refine wp_region_lit ?_
  refine wl_of (op_y (wn rfl) rfl rfl S (y_move rfl S rfl) fun a S => ?_)
  refine wl_of (op_y (wn rfl) rfl rfl S (y_not rfl S rfl) fun a S => ?_)
  refine wpList_nil ?_
  refine n_then ?_
  -- cond 1
  refine c_if S rfl (fun h1 => ?_) (fun h1 => ?_)
  · have h1p := h1; try simp only [Option.isNone_some, Option.isNone_none, Option.isSome_some, Option.isSome_none, false_or, or_false, true_and, and_true, decide_eq_true_eq, decide_eq_false_iff_not, Bool.or_eq_true, Bool.and_eq_true, Bool.or_eq_false_iff, Bool.and_eq_false_iff, Bool.not_eq_true', Bool.not_eq_false', bne_iff_ne, beq_iff_eq, beq_eq_false_iff_ne, bne_eq_false_iff_eq, ne_eq, Decidable.not_not, Int.not_lt, Int.not_le, gt_iff_lt, ge_iff_le, Bool.true_eq_false, Bool.false_eq_true, not_true_eq_false, not_false_eq_true] at h1p
    all_goals (
      exact absurd h1 (by simp))
  · have h1p := h1; try simp only [Option.isNone_some, Option.isNone_none, Option.isSome_some, Option.isSome_none, false_or, or_false, true_and, and_true, decide_eq_true_eq, decide_eq_false_iff_not, Bool.or_eq_true, Bool.and_eq_true, Bool.or_eq_false_iff, Bool.and_eq_false_iff, Bool.not_eq_true', Bool.not_eq_false', bne_iff_ne, beq_iff_eq, beq_eq_false_iff_ne, bne_eq_false_iff_eq, ne_eq, Decidable.not_not, Int.not_lt, Int.not_le, gt_iff_lt, ge_iff_le, Bool.true_eq_false, Bool.false_eq_true, not_true_eq_false, not_false_eq_true] at h1p
    refine wp_skip ?_
    refine n_then ?_
    refine wp_seq ?_
    refine wp_seq ?_
    -- region 5 law.go:67
    refine wp_region_lit ?_
    refine wl_of (op_y (wn rfl) rfl rfl S (y_move rfl S rfl) fun a S => ?_)
    refine wl_of (op_y (wn rfl) rfl rfl S (y_lens rfl Try.underlying23 S H rfl) fun a S => ?_)
    refine wl_of (op_y (wn rfl) rfl rfl S (y_bin rfl S rfl rfl rfl) fun a S => ?_)
    refine wpList_nil ?_
    refine n_then ?_
    have S := ((((((S.nil.cons S 5 rfl).cons S 0 rfl).cons S 12 rfl).cons S 13 rfl).cons S 14 rfl).cons S 16 rfl).cons S 39 rfl
    -- cond 2
    refine c_if S rfl (fun h2 => ?_) (fun h2 => ?_)
    · have h2p := h2; try simp only [Option.isNone_some, Option.isNone_none, Option.isSome_some, Option.isSome_none, false_or, or_false, true_and, and_true, decide_eq_true_eq, decide_eq_false_iff_not, Bool.or_eq_true, Bool.and_eq_true, Bool.or_eq_false_iff, Bool.and_eq_false_iff, Bool.not_eq_true', Bool.not_eq_false', bne_iff_ne, beq_iff_eq, beq_eq_false_iff_ne, bne_eq_false_iff_eq, ne_eq, Decidable.not_not, Int.not_lt, Int.not_le, gt_iff_lt, ge_iff_le, Bool.true_eq_false, Bool.false_eq_true, not_true_eq_false, not_false_eq_true] at h2p
      refine wp_seq ?_
      -- region 6 law.go:68
      refine wp_region_lit ?_
      refine wl_of (op_y (wn rfl) rfl rfl S (y_move rfl S rfl) fun a S => ?_)
      refine wl_of (op_y (wn rfl) rfl rfl S (y_assign rfl S rfl) fun a S => ?_)
      refine wpList_nil ?_
      refine n_then ?_
      refine wp_ret ?_
      refine r_then (ret1 rfl S rfl ?_)
      exact ⟨rfl, H.toExt⟩
    · have h2p := h2; try simp only [Option.isNone_some, Option.isNone_none, Option.isSome_some, Option.isSome_none, false_or, or_false, true_and, and_true, decide_eq_true_eq, decide_eq_false_iff_not, Bool.or_eq_true, Bool.and_eq_true, Bool.or_eq_false_iff, Bool.and_eq_false_iff, Bool.not_eq_true', Bool.not_eq_false', bne_iff_ne, beq_iff_eq, beq_eq_false_iff_ne, bne_eq_false_iff_eq, ne_eq, Decidable.not_not, Int.not_lt, Int.not_le, gt_iff_lt, ge_iff_le, Bool.true_eq_false, Bool.false_eq_true, not_true_eq_false, not_false_eq_true] at h2p
      refine wp_skip ?_
      refine n_then ?_
      refine wp_seq ?_
      -- region 7 law.go:70
      refine wp_region_lit ?_
      refine wl_of (op_y (wn rfl) rfl rfl S (y_move rfl S rfl) fun a S => ?_)
      refine wl_of (op_y (wn rfl) rfl rfl S (y_conv rfl Try.underlying5 Try.underlying3 S rfl (by omega)) fun a S => ?_)
      refine wl_of (op_y (wn rfl) rfl rfl S (y_remn rfl S rfl rfl (by omega) (by omega)) fun a S => ?_)
      refine wl_of (op_y (wn rfl) rfl rfl S (y_add rfl S rfl rfl (by omega)) fun a S => ?_)
      refine wl_of (op_y (wn rfl) rfl rfl S (y_assign rfl S rfl) fun a S => ?_)
      refine wpList_nil ?_
      refine n_then ?_
      have S := (((((S.nil.cons S 5 rfl).cons S 12 rfl).cons S 13 rfl).cons S 14 rfl).cons S 16 rfl).cons S 18 rfl
      refine wp_seq ?_
      -- region 8 law.go:71
      refine wp_region_lit ?_
      refine wl_of (op_y (wn rfl) rfl rfl S (y_assign rfl S rfl) fun a S => ?_)
      refine wpList_nil ?_
      refine n_then ?_
      refine wp_seq ?_
      -- region 9 law.go:72
      refine wp_region_lit ?_
      refine wl_of (op_makeMap (fun n : Int => .int .i64 n) (fun n : Int => .int .i64 n) (wn rfl) rfl rfl rfl S H fun b45 a w S H => ?_)
      refine wl_of (op_y (wn rfl) rfl rfl S (y_assign rfl S rfl) fun a S => ?_)
      refine wpList_nil ?_
      refine n_then ?_
      refine wp_seq ?_
      refine wp_seq ?_
      -- region 10 law.go:73
      refine wp_region_lit ?_
      refine wl_of (op_y (wn rfl) rfl rfl S (y_assign rfl S rfl) fun a S => ?_)
      refine wpList_nil ?_
      refine n_then ?_
      refine wp_block ?_
      -- slots written in the loop and forgotten at its head: [12]
      have SU := (((((S.nil.cons S 5 rfl).cons S 13 rfl).cons S 14 rfl).cons S 16 rfl).cons S 18 rfl).cons S 20 rfl
      refine loopW (X := Nat × DS) SU (fun x => [(19, .int .i64 x.2.now), (21, .int .i64 (x.1 : Int))]) (fun x w => x.1 ≤ l.length ∧ x.2.WF x.1 ∧ Fits x.2 ∧ OfD x.2 (1 + sp % 20) [ra % 6, rb % 6, rc % 6] (max 1 (ra % 6 + rb % 6 + rc % 6 + rm % 8)) ∧ ∃ m n, Counted x.2 m ∧ HSat No w0 [MapA b45 (fun n : Int => .int .i64 n) (fun n : Int => .int .i64 n) m n, DoorA d1 x.2 vr1 vl1 vp1, Sl v 3 Ask.enc l] w) (fun x => l.length - x.1) (0, newDS (1 + sp % 20) [ra % 6, rb % 6, rc % 6] (max 1 (ra % 6 + rb % 6 + rc % 6 + rm % 8))) ((S.nil.cons S 21 rfl).cons S 19 rfl) (⟨by simp, new_wf hok, fits_new hok, of_new _ _ _, fun _ => none, 0, counted_new _ _ _, H.take [MapA b45 (fun n : Int => .int .i64 n) (fun n : Int => .int .i64 n) (fun _ => none) 0, DoorA d1 (newDS (1 + sp % 20) [ra % 6, rb % 6, rc % 6] (max 1 (ra % 6 + rb % 6 + rc % 6 + rm % 8))) vr1 vl1 vp1, Sl v 3 Ask.enc l]⟩) (fun x a w S hW => ?_)
      simp only [List.cons_append, List.nil_append] at S
      obtain ⟨k, s⟩ := x
      obtain ⟨hk, hws, hft, hof, m, n, hcn, H⟩ := hW
      dsimp only at S H hk hws hft hof hcn
      have hsum : sumL s.res ≤ s.total := by rw [hof.2.1, hof.2.2]; exact sum_new hok
      refine wp_seq ?_
      refine wp_seq ?_
      -- region 11 law.go:73
      refine wp_region_lit ?_
      refine wl_of (op_y (wn rfl) rfl rfl S (y_move rfl S rfl) fun a S => ?_)
      refine wl_of (op_y (wn rfl) rfl rfl S (y_move rfl S rfl) fun a S => ?_)
      refine wl_of (op_y (wn rfl) rfl rfl S (y_lens rfl Try.underlying23 S H rfl) fun a S => ?_)
      refine wl_of (op_y (wn rfl) rfl rfl S (y_bin rfl S rfl rfl rfl) fun a S => ?_)
      refine wpList_nil ?_
      refine n_then ?_
      -- cond 3
      refine c_if S rfl (fun h3 => ?_) (fun h3 => ?_)
      · have h3p := h3; try simp only [Option.isNone_some, Option.isNone_none, Option.isSome_some, Option.isSome_none, false_or, or_false, true_and, and_true, decide_eq_true_eq, decide_eq_false_iff_not, Bool.or_eq_true, Bool.and_eq_true, Bool.or_eq_false_iff, Bool.and_eq_false_iff, Bool.not_eq_true', Bool.not_eq_false', bne_iff_ne, beq_iff_eq, beq_eq_false_iff_ne, bne_eq_false_iff_eq, ne_eq, Decidable.not_not, Int.not_lt, Int.not_le, gt_iff_lt, ge_iff_le, Bool.true_eq_false, Bool.false_eq_true, not_true_eq_false, not_false_eq_true] at h3p
        have h3 : s.res.length = 3 := by rw [hof.2.1]; rfl
        refine wp_skip ?_
        refine n_then ?_
        refine wp_seq ?_
        refine wp_block ?_
        refine wp_seq ?_
        -- region 13 DRAWS law.go:74
        refine region_st (loud := [16]) (tails := [16]) (free := []) [0, 1, 2, 3, 4, 5, 6, 7, 8, 9, 10, 11, 12, 13, 14, 15, 16, 17] [Sl v 3 Ask.enc l] Fmo (by kernel_rfl) (by kernel_rfl) rfl H ?_
        refine m_w rfl rfl (wn rfl) rfl rfl S (fun w H => y_move rfl S rfl) fun a S => ?_
        refine m_w rfl rfl (wn rfl) rfl rfl S (fun w H => y_move rfl S rfl) fun a S => ?_
        refine m_w rfl rfl (wn rfl) rfl rfl S (fun w H => y_move rfl S rfl) fun a S => ?_
        refine m_w rfl rfl (wn rfl) rfl rfl S (fun w H => y_iaddrn rfl Try.underlying23 Fsiz34 S H rfl rfl (by first | omega | (simp only [List.length_append, List.length_take, List.length_drop, List.length_replicate, List.length_set, List.length_map, List.length_cons, List.length_nil]; omega))) fun a S => ?_
        refine m_w rfl rfl (wn rfl) rfl rfl S (fun w H => y_faddr rfl Ffo34_0 S rfl) fun a S => ?_
        refine m_loadsf _ rfl rfl (wn rfl) rfl rfl S rfl Fsca3 rfl (by first | omega | (simp only [List.length_append, List.length_take, List.length_drop, List.length_replicate, List.length_set, List.length_map, List.length_cons, List.length_nil]; omega)) rfl fun a S => ?_
        refine m_w rfl rfl (wn rfl) rfl rfl S (fun w H => y_move rfl S rfl) fun a S => ?_
        refine m_w rfl rfl (wn rfl) rfl rfl S (fun w H => y_move rfl S rfl) fun a S => ?_
        refine m_w rfl rfl (wn rfl) rfl rfl S (fun w H => y_iaddrn rfl Try.underlying23 Fsiz34 S H rfl rfl (by first | omega | (simp only [List.length_append, List.length_take, List.length_drop, List.length_replicate, List.length_set, List.length_map, List.length_cons, List.length_nil]; omega))) fun a S => ?_
        refine m_w rfl rfl (wn rfl) rfl rfl S (fun w H => y_faddr rfl Ffo34_1 S rfl) fun a S => ?_
        refine m_loadsf _ rfl rfl (wn rfl) rfl rfl S rfl Fsca3 rfl (by first | omega | (simp only [List.length_append, List.length_take, List.length_drop, List.length_replicate, List.length_set, List.length_map, List.length_cons, List.length_nil]; omega)) rfl fun a S => ?_
        refine m_w rfl rfl (wn rfl) rfl rfl S (fun w H => y_move rfl S rfl) fun a S => ?_
        refine m_w rfl rfl (wn rfl) rfl rfl S (fun w H => y_move rfl S rfl) fun a S => ?_
        refine m_w rfl rfl (wn rfl) rfl rfl S (fun w H => y_iaddrn rfl Try.underlying23 Fsiz34 S H rfl rfl (by first | omega | (simp only [List.length_append, List.length_take, List.length_drop, List.length_replicate, List.length_set, List.length_map, List.length_cons, List.length_nil]; omega))) fun a S => ?_
        refine m_w rfl rfl (wn rfl) rfl rfl S (fun w H => y_faddr rfl Ffo34_2 S rfl) fun a S => ?_
        refine m_loadsf _ rfl rfl (wn rfl) rfl rfl S rfl Fsca3 rfl (by first | omega | (simp only [List.length_append, List.length_take, List.length_drop, List.length_replicate, List.length_set, List.length_map, List.length_cons, List.length_nil]; omega)) rfl fun a S => ?_
        refine m_l rfl rfl (fun w H => op_call (wn rfl) rfl rfl S (co_func rfl Try.call12 S rfl) (Ret.at_ (x := DoorA d1 s vr1 vl1 vp1) H (fun H => offer_spec d1 s vr1 vl1 vp1 _ _ _ k _ H hws (by omega))) fun v w hc a S => ?_)
        obtain ⟨rfl, H⟩ := hc
        
        refine m_tail H rfl ?_
        refine m_w rfl rfl (wn rfl) rfl rfl S (fun w H => y_assign rfl S rfl) fun a S => ?_
        refine m_nil (fun w H => ?_)
        refine n_then ?_
        refine wp_seq ?_
        refine wp_seq ?_
        -- region 14 law.go:75
        refine wp_region_lit ?_
        refine wl_of (op_y (wn rfl) rfl rfl S (y_move rfl S rfl) fun a S => ?_)
        refine wl_of (op_y (wn rfl) rfl rfl S (y_move rfl S rfl) fun a S => ?_)
        refine' wl_and 6 70 rfl S H rfl rfl rfl rfl rfl rfl rfl (fun _ S => (wn rfl)) (fun h4 kk => ?yh4) (fun a w S H => ?_)
        case yh4 =>
          have h4p := h4; try simp only [Option.isNone_some, Option.isNone_none, Option.isSome_some, Option.isSome_none, false_or, or_false, true_and, and_true, decide_eq_true_eq, decide_eq_false_iff_not, Bool.or_eq_true, Bool.and_eq_true, Bool.or_eq_false_iff, Bool.and_eq_false_iff, Bool.not_eq_true', Bool.not_eq_false', bne_iff_ne, beq_iff_eq, beq_eq_false_iff_ne, bne_eq_false_iff_eq, ne_eq, Decidable.not_not, Int.not_lt, Int.not_le, gt_iff_lt, ge_iff_le, Bool.true_eq_false, Bool.false_eq_true, not_true_eq_false, not_false_eq_true] at h4p
          refine wl_of (op_y (wg' 70 rfl rfl S rfl h4 rfl) rfl rfl S (y_move rfl S rfl) fun a S => ?_)
          refine wl_of (op_y (wg' 70 rfl rfl S rfl h4 rfl) rfl rfl S (y_move rfl S rfl) fun a S => ?_)
          refine wl_of (op_y (wg' 70 rfl rfl S rfl h4 rfl) rfl rfl S (y_iaddrn rfl Try.underlying23 Fsiz34 S H rfl rfl (by first | omega | (simp only [List.length_append, List.length_take, List.length_drop, List.length_replicate, List.length_set, List.length_map, List.length_cons, List.length_nil]; omega))) fun a S => ?_)
          refine wl_of (op_y (wg' 70 rfl rfl S rfl h4 rfl) rfl rfl S (y_loadsa _ rfl S H rfl (by exact Fagg34) (by first | omega | (simp only [List.length_append, List.length_take, List.length_drop, List.length_replicate, List.length_set, List.length_map, List.length_cons, List.length_nil]; omega))) fun a S => ?_)
          refine wl_of (op_call (wg' 70 rfl rfl S rfl h4 rfl) rfl rfl S (co_func rfl Try.call18 S rfl) (good_spec l[k] _) fun v w hc a S => ?_)
          obtain ⟨rfl, he⟩ := hc
          have H := H.ext he
          refine wl_of (op_y (wg' 70 rfl rfl S rfl h4 rfl) rfl rfl S (y_not rfl S rfl) fun a S => ?_)
          refine wl_of (op_y (wn rfl) rfl rfl S (y_and' rfl h4 S rfl rfl) fun a S => ?_)
          exact kk _ _ (S.join 7 77 rfl rfl) H
        refine wl_of (op_y (wn rfl) rfl rfl S (y_move rfl S rfl) fun a S => ?_)
        refine' wl_or 17 78 rfl S H rfl rfl rfl rfl rfl rfl rfl (fun _ S => (wn rfl)) (fun h5 kk => ?yh5) (fun a w S H => ?_)
        case yh5 =>
          have h5p := h5; try simp only [Option.isNone_some, Option.isNone_none, Option.isSome_some, Option.isSome_none, false_or, or_false, true_and, and_true, decide_eq_true_eq, decide_eq_false_iff_not, Bool.or_eq_true, Bool.and_eq_true, Bool.or_eq_false_iff, Bool.and_eq_false_iff, Bool.not_eq_true', Bool.not_eq_false', bne_iff_ne, beq_iff_eq, beq_eq_false_iff_ne, bne_eq_false_iff_eq, ne_eq, Decidable.not_not, Int.not_lt, Int.not_le, gt_iff_lt, ge_iff_le, Bool.true_eq_false, Bool.false_eq_true, not_true_eq_false, not_false_eq_true] at h5p
          refine wl_of (op_y (wg' 78 rfl rfl S rfl h5 rfl) rfl rfl S (y_move rfl S rfl) fun a S => ?_)
          refine wl_of (op_y (wg' 78 rfl rfl S rfl h5 rfl) rfl rfl S (y_move rfl S rfl) fun a S => ?_)
          refine wl_of (op_y (wg' 78 rfl rfl S rfl h5 rfl) rfl rfl S (y_iaddrn rfl Try.underlying23 Fsiz34 S H rfl rfl (by first | omega | (simp only [List.length_append, List.length_take, List.length_drop, List.length_replicate, List.length_set, List.length_map, List.length_cons, List.length_nil]; omega))) fun a S => ?_)
          refine wl_of (op_y (wg' 78 rfl rfl S rfl h5 rfl) rfl rfl S (y_faddr rfl Ffo34_1 S rfl) fun a S => ?_)
          refine wl_of (op_y (wg' 78 rfl rfl S rfl h5 rfl) rfl rfl S (y_loadsf _ rfl Fsca3 S H rfl (by first | omega | (simp only [List.length_append, List.length_take, List.length_drop, List.length_replicate, List.length_set, List.length_map, List.length_cons, List.length_nil]; omega)) rfl) fun a S => ?_)
          refine wl_of (op_y (wg' 78 rfl rfl S rfl h5 rfl) rfl rfl S (y_bin rfl S rfl rfl rfl) fun a S => ?_)
          refine wl_of (op_y (wg' 78 rfl rfl S rfl h5 rfl) rfl rfl S (y_move rfl S rfl) fun a S => ?_)
          refine' wl_and 5 85 rfl S H rfl rfl rfl rfl rfl rfl rfl (fun _ S => (wg' 78 rfl rfl S rfl h5 rfl)) (fun h6 kk => ?yh6) (fun a w S H => ?_)
          case yh6 =>
            have h6p := h6; try simp only [Option.isNone_some, Option.isNone_none, Option.isSome_some, Option.isSome_none, false_or, or_false, true_and, and_true, decide_eq_true_eq, decide_eq_false_iff_not, Bool.or_eq_true, Bool.and_eq_true, Bool.or_eq_false_iff, Bool.and_eq_false_iff, Bool.not_eq_true', Bool.not_eq_false', bne_iff_ne, beq_iff_eq, beq_eq_false_iff_ne, bne_eq_false_iff_eq, ne_eq, Decidable.not_not, Int.not_lt, Int.not_le, gt_iff_lt, ge_iff_le, Bool.true_eq_false, Bool.false_eq_true, not_true_eq_false, not_false_eq_true] at h6p
            refine wl_of (op_y (wg' 85 rfl rfl S rfl h6 rfl) rfl rfl S (y_move rfl S rfl) fun a S => ?_)
            refine wl_of (op_y (wg' 85 rfl rfl S rfl h6 rfl) rfl rfl S (y_move rfl S rfl) fun a S => ?_)
            refine wl_of (op_y (wg' 85 rfl rfl S rfl h6 rfl) rfl rfl S (y_iaddrn rfl Try.underlying23 Fsiz34 S H rfl rfl (by first | omega | (simp only [List.length_append, List.length_take, List.length_drop, List.length_replicate, List.length_set, List.length_map, List.length_cons, List.length_nil]; omega))) fun a S => ?_)
            refine wl_of (op_y (wg' 85 rfl rfl S rfl h6 rfl) rfl rfl S (y_loadsa _ rfl S H rfl (by exact Fagg34) (by first | omega | (simp only [List.length_append, List.length_take, List.length_drop, List.length_replicate, List.length_set, List.length_map, List.length_cons, List.length_nil]; omega))) fun a S => ?_)
            refine wl_of (op_call (wg' 85 rfl rfl S rfl h6 rfl) rfl rfl S (co_func rfl Try.call18 S rfl) (good_spec l[k] _) fun v w hc a S => ?_)
            obtain ⟨rfl, he⟩ := hc
            have H := H.ext he
            refine wl_of (op_y (wg' 78 rfl rfl S rfl h5 rfl) rfl rfl S (y_and' rfl h6 S rfl rfl) fun a S => ?_)
            exact kk _ _ (S.join 6 91 rfl rfl) H
          refine wl_of (op_y (wg' 78 rfl rfl S rfl h5 rfl) rfl rfl S (y_move rfl S rfl) fun a S => ?_)
          refine' wl_and 2 92 rfl S H rfl rfl rfl rfl rfl rfl rfl (fun _ S => (wg' 78 rfl rfl S rfl h5 rfl)) (fun h7 kk => ?yh7) (fun a w S H => ?_)
          case yh7 =>
            have h7p := h7; try simp only [Option.isNone_some, Option.isNone_none, Option.isSome_some, Option.isSome_none, false_or, or_false, true_and, and_true, decide_eq_true_eq, decide_eq_false_iff_not, Bool.or_eq_true, Bool.and_eq_true, Bool.or_eq_false_iff, Bool.and_eq_false_iff, Bool.not_eq_true', Bool.not_eq_false', bne_iff_ne, beq_iff_eq, beq_eq_false_iff_ne, bne_eq_false_iff_eq, ne_eq, Decidable.not_not, Int.not_lt, Int.not_le, gt_iff_lt, ge_iff_le, Bool.true_eq_false, Bool.false_eq_true, not_true_eq_false, not_false_eq_true] at h7p
            refine wl_of (op_y (wg' 92 rfl rfl S rfl h7 rfl) rfl rfl S (y_move rfl S rfl) fun a S => ?_)
            refine wl_of (op_y (wg' 92 rfl rfl S rfl h7 rfl) rfl rfl S (y_not rfl S rfl) fun a S => ?_)
            refine wl_of (op_y (wg' 78 rfl rfl S rfl h5 rfl) rfl rfl S (y_and' rfl h7 S rfl rfl) fun a S => ?_)
            exact kk _ _ (S.join 3 95 rfl rfl) H
          refine wl_of (op_y (wn rfl) rfl rfl S (y_or' rfl h5 S rfl rfl) fun a S => ?_)
          exact kk _ _ (S.join 11 96 rfl rfl) H
        refine wpList_nil ?_
        refine n_then ?_
        -- cond 4
        refine c_if S rfl (fun h8 => ?_) (fun h8 => ?_)
        · have h8p := h8; try simp only [Option.isNone_some, Option.isNone_none, Option.isSome_some, Option.isSome_none, false_or, or_false, true_and, and_true, decide_eq_true_eq, decide_eq_false_iff_not, Bool.or_eq_true, Bool.and_eq_true, Bool.or_eq_false_iff, Bool.and_eq_false_iff, Bool.not_eq_true', Bool.not_eq_false', bne_iff_ne, beq_iff_eq, beq_eq_false_iff_ne, bne_eq_false_iff_eq, ne_eq, Decidable.not_not, Int.not_lt, Int.not_le, gt_iff_lt, ge_iff_le, Bool.true_eq_false, Bool.false_eq_true, not_true_eq_false, not_false_eq_true] at h8p
          all_goals (
            exfalso
            rw [Bool.or_eq_true] at h8
            rcases h8 with h | h
            · simp only [Bool.and_eq_true, Bool.not_eq_true'] at h; rw [offer_good h3 h.1] at h; cases h.2
            · simp only [Bool.and_eq_true, Bool.not_eq_true', decide_eq_true_eq] at h; rw [offer_basket h3 h.1.1 h.1.2] at h; cases h.2)
        · have h8p := h8; try simp only [Option.isNone_some, Option.isNone_none, Option.isSome_some, Option.isSome_none, false_or, or_false, true_and, and_true, decide_eq_true_eq, decide_eq_false_iff_not, Bool.or_eq_true, Bool.and_eq_true, Bool.or_eq_false_iff, Bool.and_eq_false_iff, Bool.not_eq_true', Bool.not_eq_false', bne_iff_ne, beq_iff_eq, beq_eq_false_iff_ne, bne_eq_false_iff_eq, ne_eq, Decidable.not_not, Int.not_lt, Int.not_le, gt_iff_lt, ge_iff_le, Bool.true_eq_false, Bool.false_eq_true, not_true_eq_false, not_false_eq_true] at h8p
          refine wp_skip ?_
          refine n_then ?_
          refine wp_seq ?_
          refine wp_seq ?_
          -- region 16 law.go:78
          refine wp_region_lit ?_
          refine wl_of (op_y (wn rfl) rfl rfl S (y_move rfl S rfl) fun a S => ?_)
          refine wl_of (op_y (wn rfl) rfl rfl S (y_move rfl S rfl) fun a S => ?_)
          refine wl_of (op_y (wn rfl) rfl rfl S (y_iaddrn rfl Try.underlying23 Fsiz34 S H rfl rfl (by first | omega | (simp only [List.length_append, List.length_take, List.length_drop, List.length_replicate, List.length_set, List.length_map, List.length_cons, List.length_nil]; omega))) fun a S => ?_)
          refine wl_of (op_y (wn rfl) rfl rfl S (y_faddr rfl Ffo34_2 S rfl) fun a S => ?_)
          refine wl_of (op_y (wn rfl) rfl rfl S (y_loadsf _ rfl Fsca3 S H rfl (by first | omega | (simp only [List.length_append, List.length_take, List.length_drop, List.length_replicate, List.length_set, List.length_map, List.length_cons, List.length_nil]; omega)) rfl) fun a S => ?_)
          refine wl_of (op_y (wn rfl) rfl rfl S (y_bin rfl S rfl rfl rfl) fun a S => ?_)
          refine wl_of (op_y (wn rfl) rfl rfl S (y_move rfl S rfl) fun a S => ?_)
          refine' wl_and 6 103 rfl S H rfl rfl rfl rfl rfl rfl rfl (fun _ S => (wn rfl)) (fun h9 kk => ?yh9) (fun a w S H => ?_)
          case yh9 =>
            have h9p := h9; try simp only [Option.isNone_some, Option.isNone_none, Option.isSome_some, Option.isSome_none, false_or, or_false, true_and, and_true, decide_eq_true_eq, decide_eq_false_iff_not, Bool.or_eq_true, Bool.and_eq_true, Bool.or_eq_false_iff, Bool.and_eq_false_iff, Bool.not_eq_true', Bool.not_eq_false', bne_iff_ne, beq_iff_eq, beq_eq_false_iff_ne, bne_eq_false_iff_eq, ne_eq, Decidable.not_not, Int.not_lt, Int.not_le, gt_iff_lt, ge_iff_le, Bool.true_eq_false, Bool.false_eq_true, not_true_eq_false, not_false_eq_true] at h9p
            refine wl_of (op_y (wg' 103 rfl rfl S rfl h9 rfl) rfl rfl S (y_move rfl S rfl) fun a S => ?_)
            refine wl_of (op_y (wg' 103 rfl rfl S rfl h9 rfl) rfl rfl S (y_move rfl S rfl) fun a S => ?_)
            refine wl_of (op_y (wg' 103 rfl rfl S rfl h9 rfl) rfl rfl S (y_iaddrn rfl Try.underlying23 Fsiz34 S H rfl rfl (by first | omega | (simp only [List.length_append, List.length_take, List.length_drop, List.length_replicate, List.length_set, List.length_map, List.length_cons, List.length_nil]; omega))) fun a S => ?_)
            refine wl_of (op_y (wg' 103 rfl rfl S rfl h9 rfl) rfl rfl S (y_faddr rfl Ffo34_2 S rfl) fun a S => ?_)
            refine wl_of (op_y (wg' 103 rfl rfl S rfl h9 rfl) rfl rfl S (y_loadsf _ rfl Fsca3 S H rfl (by first | omega | (simp only [List.length_append, List.length_take, List.length_drop, List.length_replicate, List.length_set, List.length_map, List.length_cons, List.length_nil]; omega)) rfl) fun a S => ?_)
            refine wl_of (op_y (wg' 103 rfl rfl S rfl h9 rfl) rfl rfl S (y_bin rfl S rfl rfl rfl) fun a S => ?_)
            refine wl_of (op_y (wn rfl) rfl rfl S (y_and' rfl h9 S rfl rfl) fun a S => ?_)
            exact kk _ _ (S.join 7 110 rfl rfl) H
          refine wpList_nil ?_
          refine n_then ?_
          -- cond 5, joined
          refine' c_ji (s := 19) S rfl (fun h10 => ?th10) (fun h10 => ?fh10) (fun a w S H => ?_)
          case th10 =>
            have h10p := h10; try simp only [Option.isNone_some, Option.isNone_none, Option.isSome_some, Option.isSome_none, false_or, or_false, true_and, and_true, decide_eq_true_eq, decide_eq_false_iff_not, Bool.or_eq_true, Bool.and_eq_true, Bool.or_eq_false_iff, Bool.and_eq_false_iff, Bool.not_eq_true', Bool.not_eq_false', bne_iff_ne, beq_iff_eq, beq_eq_false_iff_ne, bne_eq_false_iff_eq, ne_eq, Decidable.not_not, Int.not_lt, Int.not_le, gt_iff_lt, ge_iff_le, Bool.true_eq_false, Bool.false_eq_true, not_true_eq_false, not_false_eq_true] at h10p
            -- region 17 law.go:79
            refine wp_region_lit ?_
            refine wl_of (op_y (wn rfl) rfl rfl S (y_move rfl S rfl) fun a S => ?_)
            refine wl_of (op_y (wn rfl) rfl rfl S (y_move rfl S rfl) fun a S => ?_)
            refine wl_of (op_y (wn rfl) rfl rfl S (y_move rfl S rfl) fun a S => ?_)
            refine wl_of (op_y (wn rfl) rfl rfl S (y_iaddrn rfl Try.underlying23 Fsiz34 S H rfl rfl (by first | omega | (simp only [List.length_append, List.length_take, List.length_drop, List.length_replicate, List.length_set, List.length_map, List.length_cons, List.length_nil]; omega))) fun a S => ?_)
            refine wl_of (op_y (wn rfl) rfl rfl S (y_faddr rfl Ffo34_2 S rfl) fun a S => ?_)
            refine wl_of (op_y (wn rfl) rfl rfl S (y_loadsf _ rfl Fsca3 S H rfl (by first | omega | (simp only [List.length_append, List.length_take, List.length_drop, List.length_replicate, List.length_set, List.length_map, List.length_cons, List.length_nil]; omega)) rfl) fun a S => ?_)
            refine wl_of (op_y (wn rfl) rfl rfl S (y_max rfl S rfl rfl) fun a S => ?_)
            refine wl_of (op_y (wn rfl) rfl rfl S (y_assign rfl S rfl) fun a S => ?_)
            refine wpList_nil ?_
            refine n_then ?_
            exact ⟨S.nil.cons S 19 rfl, (((((((((((((((((((((((((((((((((((((((((S.nil.cons S 5 rfl).cons S 13 rfl).cons S 14 rfl).cons S 16 rfl).cons S 18 rfl).cons S 20 rfl).cons S 21 rfl).cons S 46 rfl).cons S 47 rfl).cons S 48 rfl).cons S 49 rfl).cons S 52 rfl).cons S 53 rfl).cons S 54 rfl).cons S 55 rfl).cons S 56 rfl).cons S 57 rfl).cons S 58 rfl).cons S 59 rfl).cons S 60 rfl).cons S 61 rfl).cons S 62 rfl).cons S 63 rfl).cons S 64 rfl).cons S 65 rfl).cons S 66 rfl).cons S 67 rfl).cons S 68 rfl).cons S 22 rfl).cons S 69 rfl).cons S 70 rfl).cons S 77 rfl).cons S 78 rfl).cons S 96 rfl).cons S 97 rfl).cons S 98 rfl).cons S 99 rfl).cons S 100 rfl).cons S 101 rfl).cons S 102 rfl).cons S 103 rfl).cons S 110 rfl, H⟩
          case fh10 =>
            have h10p := h10; try simp only [Option.isNone_some, Option.isNone_none, Option.isSome_some, Option.isSome_none, false_or, or_false, true_and, and_true, decide_eq_true_eq, decide_eq_false_iff_not, Bool.or_eq_true, Bool.and_eq_true, Bool.or_eq_false_iff, Bool.and_eq_false_iff, Bool.not_eq_true', Bool.not_eq_false', bne_iff_ne, beq_iff_eq, beq_eq_false_iff_ne, bne_eq_false_iff_eq, ne_eq, Decidable.not_not, Int.not_lt, Int.not_le, gt_iff_lt, ge_iff_le, Bool.true_eq_false, Bool.false_eq_true, not_true_eq_false, not_false_eq_true] at h10p
            refine wp_skip ?_
            refine n_then ?_
            exact ⟨S.nil.cons S 19 rfl, (((((((((((((((((((((((((((((((((((((((((S.nil.cons S 5 rfl).cons S 13 rfl).cons S 14 rfl).cons S 16 rfl).cons S 18 rfl).cons S 20 rfl).cons S 21 rfl).cons S 46 rfl).cons S 47 rfl).cons S 48 rfl).cons S 49 rfl).cons S 52 rfl).cons S 53 rfl).cons S 54 rfl).cons S 55 rfl).cons S 56 rfl).cons S 57 rfl).cons S 58 rfl).cons S 59 rfl).cons S 60 rfl).cons S 61 rfl).cons S 62 rfl).cons S 63 rfl).cons S 64 rfl).cons S 65 rfl).cons S 66 rfl).cons S 67 rfl).cons S 68 rfl).cons S 22 rfl).cons S 69 rfl).cons S 70 rfl).cons S 77 rfl).cons S 78 rfl).cons S 96 rfl).cons S 97 rfl).cons S 98 rfl).cons S 99 rfl).cons S 100 rfl).cons S 101 rfl).cons S 102 rfl).cons S 103 rfl).cons S 110 rfl, H⟩
          refine wp_seq ?_
          -- region 18 law.go:81
          refine wp_region_lit ?_
          refine wl_of (op_y (wn rfl) rfl rfl S (y_move rfl S rfl) fun a S => ?_)
          refine wl_of (op_y (wn rfl) rfl rfl S (y_move rfl S rfl) fun a S => ?_)
          refine' wl_and 6 119 rfl S H rfl rfl rfl rfl rfl rfl rfl (fun _ S => (wn rfl)) (fun h11 kk => ?yh11) (fun a w S H => ?_)
          case yh11 =>
            have h11p := h11; try simp only [Option.isNone_some, Option.isNone_none, Option.isSome_some, Option.isSome_none, false_or, or_false, true_and, and_true, decide_eq_true_eq, decide_eq_false_iff_not, Bool.or_eq_true, Bool.and_eq_true, Bool.or_eq_false_iff, Bool.and_eq_false_iff, Bool.not_eq_true', Bool.not_eq_false', bne_iff_ne, beq_iff_eq, beq_eq_false_iff_ne, bne_eq_false_iff_eq, ne_eq, Decidable.not_not, Int.not_lt, Int.not_le, gt_iff_lt, ge_iff_le, Bool.true_eq_false, Bool.false_eq_true, not_true_eq_false, not_false_eq_true] at h11p
            refine wl_of (op_y (wg' 119 rfl rfl S rfl h11 rfl) rfl rfl S (y_move rfl S rfl) fun a S => ?_)
            refine wl_of (op_y (wg' 119 rfl rfl S rfl h11 rfl) rfl rfl S (y_move rfl S rfl) fun a S => ?_)
            refine wl_of (op_y (wg' 119 rfl rfl S rfl h11 rfl) rfl rfl S (y_iaddrn rfl Try.underlying23 Fsiz34 S H rfl rfl (by first | omega | (simp only [List.length_append, List.length_take, List.length_drop, List.length_replicate, List.length_set, List.length_map, List.length_cons, List.length_nil]; omega))) fun a S => ?_)
            refine wl_of (op_y (wg' 119 rfl rfl S rfl h11 rfl) rfl rfl S (y_faddr rfl Ffo34_1 S rfl) fun a S => ?_)
            refine wl_of (op_y (wg' 119 rfl rfl S rfl h11 rfl) rfl rfl S (y_loadsf _ rfl Fsca3 S H rfl (by first | omega | (simp only [List.length_append, List.length_take, List.length_drop, List.length_replicate, List.length_set, List.length_map, List.length_cons, List.length_nil]; omega)) rfl) fun a S => ?_)
            refine wl_of (op_y (wg' 119 rfl rfl S rfl h11 rfl) rfl rfl S (y_bin rfl S rfl rfl rfl) fun a S => ?_)
            refine wl_of (op_y (wn rfl) rfl rfl S (y_and' rfl h11 S rfl rfl) fun a S => ?_)
            exact kk _ _ (S.join 7 126 rfl rfl) H
          refine wpList_nil ?_
          refine n_then ?_
          -- cond 6 (both ways go on)
          refine c_if S rfl (fun h12 => ?_) (fun h12 => ?_)
          · have h12p := h12; try simp only [Option.isNone_some, Option.isNone_none, Option.isSome_some, Option.isSome_none, false_or, or_false, true_and, and_true, decide_eq_true_eq, decide_eq_false_iff_not, Bool.or_eq_true, Bool.and_eq_true, Bool.or_eq_false_iff, Bool.and_eq_false_iff, Bool.not_eq_true', Bool.not_eq_false', bne_iff_ne, beq_iff_eq, beq_eq_false_iff_ne, bne_eq_false_iff_eq, ne_eq, Decidable.not_not, Int.not_lt, Int.not_le, gt_iff_lt, ge_iff_le, Bool.true_eq_false, Bool.false_eq_true, not_true_eq_false, not_false_eq_true] at h12p
            have e19 : (if (decide (l[k].now ≥ 0) && decide (l[k].now ≤ 1000000000)) = true then max s.now l[k].now else s.now) = (offer s l[k].cls l[k].basket l[k].now).2.now := (offer_keep s _ _ _).2.2.2.symm
            rw [e19] at S
            have hp1 := h12p.1
            have hb0 := h12p.2
            have hpc := pass_countk hws hsum hft hcn l[k].cls l[k].basket l[k].now hb0 hp1
            have hof1 := of_offer hof l[k].cls l[k].basket l[k].now
            rw [hof1.1] at hpc
            have hw1 := offer_wf hws l[k].cls l[k].basket l[k].now
            have hn1 := hw1.now
            obtain ⟨p1, p2, hC⟩ := hpc
            rw [hof.2.2] at p1
            refine wp_seq ?_
            -- region 19 law.go:82
            refine wp_region_lit ?_
            refine wl_of (op_y (wn rfl) rfl rfl S (y_move rfl S rfl) fun a S => ?_)
            refine wl_of (op_y (wn rfl) rfl rfl S (y_move rfl S rfl) fun a S => ?_)
            refine wl_of (op_y (wn rfl) rfl rfl S (y_move rfl S rfl) fun a S => ?_)
            refine wl_of (op_y (wn rfl) rfl rfl S (y_quon rfl S rfl rfl (by omega) (by omega) (by omega)) fun a S => ?_)
            refine wl_of (op_y (wn rfl) rfl rfl S (y_lookup _ ((0 : Int)) rfl Try.underlying40 Finf3 S H rfl (keyOK_int Try.underlying3) (by exact rfl) (by exact rfl)) fun a S => ?_)
            refine wl_of (op_y (wn rfl) rfl rfl S (y_add rfl S rfl rfl (by omega)) fun a S => ?_)
            refine wl_of (op_mapUpdate _ (_) (wn rfl) rfl rfl Try.underlying40 S H rfl (keyOK_int Try.underlying3) (by exact rfl) (by exact rfl) fun a w S H => ?_)
            refine wpList_nil ?_
            refine n_then ?_
            refine wp_seq ?_
            -- region 20 law.go:83
            refine wp_region_lit ?_
            refine wl_of (op_y (wn rfl) rfl rfl S (y_move rfl S rfl) fun a S => ?_)
            refine wl_of (op_y (wn rfl) rfl rfl S (y_move rfl S rfl) fun a S => ?_)
            refine wl_of (op_y (wn rfl) rfl rfl S (y_move rfl S rfl) fun a S => ?_)
            refine wl_of (op_y (wn rfl) rfl rfl S (y_quon rfl S rfl rfl (by omega) (by omega) (by omega)) fun a S => ?_)
            refine wl_of (op_y (wn rfl) rfl rfl S (y_lookup _ ((0 : Int)) rfl Try.underlying40 Finf3 S H rfl (keyOK_int Try.underlying3) (by exact rfl) (by exact rfl)) fun a S => ?_)
            refine wl_of (op_y (wn rfl) rfl rfl S (y_move rfl S rfl) fun a S => ?_)
            refine wl_of (op_y (wn rfl) rfl rfl S (y_bin rfl S rfl rfl rfl) fun a S => ?_)
            refine wpList_nil ?_
            refine n_then ?_
            -- cond 7
            refine c_if S rfl (fun h13 => ?_) (fun h13 => ?_)
            · have h13p := h13; try simp only [Option.isNone_some, Option.isNone_none, Option.isSome_some, Option.isSome_none, false_or, or_false, true_and, and_true, decide_eq_true_eq, decide_eq_false_iff_not, Bool.or_eq_true, Bool.and_eq_true, Bool.or_eq_false_iff, Bool.and_eq_false_iff, Bool.not_eq_true', Bool.not_eq_false', bne_iff_ne, beq_iff_eq, beq_eq_false_iff_ne, bne_eq_false_iff_eq, ne_eq, Decidable.not_not, Int.not_lt, Int.not_le, gt_iff_lt, ge_iff_le, Bool.true_eq_false, Bool.false_eq_true, not_true_eq_false, not_false_eq_true] at h13p
              all_goals (
                exfalso
                simp only [upd_same, Option.getD_some, decide_eq_true_eq] at h13
                omega)
            · have h13p := h13; try simp only [Option.isNone_some, Option.isNone_none, Option.isSome_some, Option.isSome_none, false_or, or_false, true_and, and_true, decide_eq_true_eq, decide_eq_false_iff_not, Bool.or_eq_true, Bool.and_eq_true, Bool.or_eq_false_iff, Bool.and_eq_false_iff, Bool.not_eq_true', Bool.not_eq_false', bne_iff_ne, beq_iff_eq, beq_eq_false_iff_ne, bne_eq_false_iff_eq, ne_eq, Decidable.not_not, Int.not_lt, Int.not_le, gt_iff_lt, ge_iff_le, Bool.true_eq_false, Bool.false_eq_true, not_true_eq_false, not_false_eq_true] at h13p
              refine wp_skip ?_
              refine n_block ?_
              refine n_then ?_
              -- region 12 law.go:73
              refine wp_region_lit ?_
              refine wl_of (op_y (wn rfl) rfl rfl S (y_move rfl S rfl) fun a S => ?_)
              refine wl_of (op_y (wn rfl) rfl rfl S (y_add rfl S rfl rfl (by omega)) fun a S => ?_)
              refine wl_of (op_y (wn rfl) rfl rfl S (y_assign rfl S rfl) fun a S => ?_)
              refine wpList_nil ?_
              refine n_then ?_
              exact ⟨(k + 1, (offer s l[k].cls l[k].basket l[k].now).2), (S.nil.cons S 21 rfl).cons S 19 rfl, (((((S.nil.cons S 5 rfl).cons S 13 rfl).cons S 14 rfl).cons S 16 rfl).cons S 18 rfl).cons S 20 rfl, ⟨by dsimp only; omega, hw1, fits_offer hws hsum hft _ _ _, hof1, _, _, hC, H⟩, by dsimp only; omega⟩
          · have h12p := h12; try simp only [Option.isNone_some, Option.isNone_none, Option.isSome_some, Option.isSome_none, false_or, or_false, true_and, and_true, decide_eq_true_eq, decide_eq_false_iff_not, Bool.or_eq_true, Bool.and_eq_true, Bool.or_eq_false_iff, Bool.and_eq_false_iff, Bool.not_eq_true', Bool.not_eq_false', bne_iff_ne, beq_iff_eq, beq_eq_false_iff_ne, bne_eq_false_iff_eq, ne_eq, Decidable.not_not, Int.not_lt, Int.not_le, gt_iff_lt, ge_iff_le, Bool.true_eq_false, Bool.false_eq_true, not_true_eq_false, not_false_eq_true] at h12p
            have e19 : (if (decide (l[k].now ≥ 0) && decide (l[k].now ≤ 1000000000)) = true then max s.now l[k].now else s.now) = (offer s l[k].cls l[k].basket l[k].now).2.now := (offer_keep s _ _ _).2.2.2.symm
            rw [e19] at S
            have hof1 := of_offer hof l[k].cls l[k].basket l[k].now
            have hw1 := offer_wf hws l[k].cls l[k].basket l[k].now
            have hC := counted_else hws hcn l[k].cls l[k].basket l[k].now (by simp only [Bool.and_eq_false_iff, beq_eq_false_iff_ne, ne_eq] at h12; exact h12)
            refine wp_skip ?_
            refine n_block ?_
            refine n_then ?_
            -- region 12 law.go:73
            refine wp_region_lit ?_
            refine wl_of (op_y (wn rfl) rfl rfl S (y_move rfl S rfl) fun a S => ?_)
            refine wl_of (op_y (wn rfl) rfl rfl S (y_add rfl S rfl rfl (by omega)) fun a S => ?_)
            refine wl_of (op_y (wn rfl) rfl rfl S (y_assign rfl S rfl) fun a S => ?_)
            refine wpList_nil ?_
            refine n_then ?_
            exact ⟨(k + 1, (offer s l[k].cls l[k].basket l[k].now).2), (S.nil.cons S 21 rfl).cons S 19 rfl, (((((S.nil.cons S 5 rfl).cons S 13 rfl).cons S 14 rfl).cons S 16 rfl).cons S 18 rfl).cons S 20 rfl, ⟨by dsimp only; omega, hw1, fits_offer hws hsum hft _ _ _, hof1, _, _, hC, H⟩, by dsimp only; omega⟩
      · have h3p := h3; try simp only [Option.isNone_some, Option.isNone_none, Option.isSome_some, Option.isSome_none, false_or, or_false, true_and, and_true, decide_eq_true_eq, decide_eq_false_iff_not, Bool.or_eq_true, Bool.and_eq_true, Bool.or_eq_false_iff, Bool.and_eq_false_iff, Bool.not_eq_true', Bool.not_eq_false', bne_iff_ne, beq_iff_eq, beq_eq_false_iff_ne, bne_eq_false_iff_eq, ne_eq, Decidable.not_not, Int.not_lt, Int.not_le, gt_iff_lt, ge_iff_le, Bool.true_eq_false, Bool.false_eq_true, not_true_eq_false, not_false_eq_true] at h3p
        refine wp_exit ?_
        refine x_then (x_then (x_eq ?_))
        refine n_then ?_
        have S := S.nil.cons S 13 rfl
        refine wp_seq ?_
        -- region 22 law.go:88
        refine wp_region_lit ?_
        refine wl_of (op_y (wn rfl) rfl rfl S (y_move rfl S rfl) fun a S => ?_)
        refine wl_of (op_y (wn rfl) rfl rfl S (y_assign rfl S rfl) fun a S => ?_)
        refine wpList_nil ?_
        refine n_then ?_
        refine wp_ret ?_
        refine ret1 rfl S rfl ?_
        exact ⟨rfl, H.toExt⟩

end Go.Proofs.Ytojmagbonbcffaa
