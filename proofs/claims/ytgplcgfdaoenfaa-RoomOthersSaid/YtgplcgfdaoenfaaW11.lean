/- The walks. No condition. -/
import Derived.Test.YtgplcgfdaoenfaaChecked
import Derived.Test.YtgplcgfdaoenfaaGwCut
import Derived.Test.YtgplcgfdaoenfaaFacts
import Derived.Test.YtgplcgfdaoenfaaPlain
import Derived.Test.YtgplcgfdaoenfaaW10
namespace Go.Proofs.Ytgplcgfdaoenfaa
open Go Go.Gw
set_option linter.unusedVariables false
set_option linter.unusedSimpArgs false
set_option maxHeartbeats 4000000 in
/-- foyer/foyerlaw21.RoomMatchesReference -/
theorem law1_ok (v1 v2 : Value) (order : List Int) (width span from_ : Int) (l : List Op) (w0 : World) (hv1 : IsSl w0 v1 1 encI order) (hv2 : IsSl w0 v2 3 Op.enc l) (hok : newOK order width span from_ = true) :
    Ret Try.prog 3 #[v1, .int .i64 width, .int .i64 span, .int .i64 from_, v2] w0 (fun v w => v = .bool true ∧ Ext w0 w) := by
  refine ret_of_wp (nt := 148) Try.func3 rfl rfl rfl (fl := [(0, v1), (1, .int .i64 width), (2, .int .i64 span), (3, .int .i64 from_), (4, v2)]) rfl (fun a S => ?_)
  have H := HSat.start w0
  have H := H.ro0 (Sl v1 1 encI order) rfl (hv1)
  have H := H.ro0 (Sl v2 3 Op.enc l) rfl (hv2)
  refine g_seq ?_
  -- region 0 law.go:31
  refine g_region ?_
  refine wl_of (op_y (wn rfl) rfl rfl S (y_assign rfl S rfl) fun a S => ?_)
  refine gl_nil ?_
  refine n_then ?_
  refine g_seq ?_
  -- region 1 law.go:32
  refine g_region ?_
  refine wl_of (op_call (wn rfl) rfl rfl S (co_func rfl Try.call9 S rfl) (head_spec _) fun v w hc a S => ?_)
  obtain ⟨rfl, he⟩ := hc
  have H := H.ext he
  refine wl_of (op_y (wn rfl) rfl rfl S (y_assign rfl S rfl) fun a S => ?_)
  refine gl_nil ?_
  refine n_then ?_
  refine g_seq ?_
  refine g_seq ?_
  -- region 2 law.go:33
  refine g_region ?_
  refine wl_of (op_y (wn rfl) rfl rfl S (y_move rfl S rfl) fun a S => ?_)
  refine wl_of (op_y (wn rfl) rfl rfl S (y_lens rfl Try.underlying22 S H rfl) fun a S => ?_)
  refine wl_of (op_y (wn rfl) rfl rfl S (y_bin rfl S rfl rfl rfl) fun a S => ?_)
  refine wl_of (op_y (wn rfl) rfl rfl S (y_move rfl S rfl) fun a S => ?_)
  refine' wl_or 3 21 rfl S H rfl rfl rfl rfl rfl rfl rfl (fun _ S => (wn rfl)) (fun h1 kk => ?yh1) (fun a w S H => ?_)
  case yh1 =>
    have h1p := h1; try simp only [Option.isNone_some, Option.isNone_none, Option.isSome_some, Option.isSome_none, false_or, or_false, true_and, and_true, decide_eq_true_eq, decide_eq_false_iff_not, Bool.or_eq_true, Bool.and_eq_true, Bool.or_eq_false_iff, Bool.and_eq_false_iff, Bool.not_eq_true', Bool.not_eq_false', bne_iff_ne, beq_iff_eq, beq_eq_false_iff_ne, bne_eq_false_iff_eq, ne_eq, Decidable.not_not, Int.not_lt, Int.not_le, gt_iff_lt, ge_iff_le, Bool.true_eq_false, Bool.false_eq_true, not_true_eq_false, not_false_eq_true] at h1p
    refine wl_of (op_y (wg' 21 rfl rfl S rfl h1 rfl) rfl rfl S (y_move rfl S rfl) fun a S => ?_)
    refine wl_of (op_y (wg' 21 rfl rfl S rfl h1 rfl) rfl rfl S (y_lens rfl Try.underlying23 S H rfl) fun a S => ?_)
    refine wl_of (op_y (wg' 21 rfl rfl S rfl h1 rfl) rfl rfl S (y_bin rfl S rfl rfl rfl) fun a S => ?_)
    refine wl_of (op_y (wn rfl) rfl rfl S (y_or' rfl h1 S rfl rfl) fun a S => ?_)
    exact kk _ _ (S.join 4 25 rfl rfl) H
  refine gl_nil ?_
  refine n_then ?_
  have S := (((((((S.nil.cons S 4 rfl).cons S 3 rfl).cons S 2 rfl).cons S 1 rfl).cons S 0 rfl).cons S 10 rfl).cons S 11 rfl).cons S 25 rfl
  -- cond 1
  refine c_if S rfl (fun h2 => ?_) (fun h2 => ?_)
  · have h2p := h2; try simp only [Option.isNone_some, Option.isNone_none, Option.isSome_some, Option.isSome_none, false_or, or_false, true_and, and_true, decide_eq_true_eq, decide_eq_false_iff_not, Bool.or_eq_true, Bool.and_eq_true, Bool.or_eq_false_iff, Bool.and_eq_false_iff, Bool.not_eq_true', Bool.not_eq_false', bne_iff_ne, beq_iff_eq, beq_eq_false_iff_ne, bne_eq_false_iff_eq, ne_eq, Decidable.not_not, Int.not_lt, Int.not_le, gt_iff_lt, ge_iff_le, Bool.true_eq_false, Bool.false_eq_true, not_true_eq_false, not_false_eq_true] at h2p
    refine g_seq ?_
    -- region 3 law.go:34
    refine g_region ?_
    refine wl_of (op_y (wn rfl) rfl rfl S (y_move rfl S rfl) fun a S => ?_)
    refine wl_of (op_y (wn rfl) rfl rfl S (y_assign rfl S rfl) fun a S => ?_)
    refine gl_nil ?_
    refine n_then ?_
    refine g_ret ?_
    refine r_then (ret1 rfl S rfl ?_)
    exact ⟨rfl, H.toExt⟩
  · have h2p := h2; try simp only [Option.isNone_some, Option.isNone_none, Option.isSome_some, Option.isSome_none, false_or, or_false, true_and, and_true, decide_eq_true_eq, decide_eq_false_iff_not, Bool.or_eq_true, Bool.and_eq_true, Bool.or_eq_false_iff, Bool.and_eq_false_iff, Bool.not_eq_true', Bool.not_eq_false', bne_iff_ne, beq_iff_eq, beq_eq_false_iff_ne, bne_eq_false_iff_eq, ne_eq, Decidable.not_not, Int.not_lt, Int.not_le, gt_iff_lt, ge_iff_le, Bool.true_eq_false, Bool.false_eq_true, not_true_eq_false, not_false_eq_true] at h2p
    have hlo : order.length ≤ 60 ∧ l.length ≤ 40 := by omega
    refine g_skip ?_
    refine n_then ?_
    refine g_seq ?_
    -- region 4 law.go:36
    refine g_region ?_
    refine wl_of (op_y (wn rfl) rfl rfl S (y_move rfl S rfl) fun a S => ?_)
    refine wl_of (op_y (wn rfl) rfl rfl S (y_move rfl S rfl) fun a S => ?_)
    refine wl_of (op_y (wn rfl) rfl rfl S (y_move rfl S rfl) fun a S => ?_)
    refine wl_of (op_y (wn rfl) rfl rfl S (y_move rfl S rfl) fun a S => ?_)
    refine wl_of (op_call (wn rfl) rfl rfl S (co_func rfl Try.call10 S rfl) (new_ok v1 order width span from_ _ (H.sl v1) hok) fun v w hc a S => ?_)
    obtain ⟨b, ms, mp, vo, v0, rfl, H1⟩ := hc
    have H := H.call1 H1 rfl
    refine wl_of (op_y (wn rfl) rfl rfl S (y_move rfl S rfl) fun a S => ?_)
    refine wl_of (op_y (wn rfl) rfl rfl S (y_extract rfl S rfl rfl) fun a S => ?_)
    refine wl_of (op_y (wn rfl) rfl rfl S (y_extract rfl S rfl rfl) fun a S => ?_)
    refine wl_of (op_y (wn rfl) rfl rfl S (y_assign rfl S rfl) fun a S => ?_)
    refine wl_of (op_y (wn rfl) rfl rfl S (y_assign rfl S rfl) fun a S => ?_)
    refine gl_nil ?_
    refine n_then ?_
    have S := ((((((((S.nil.cons S 4 rfl).cons S 3 rfl).cons S 2 rfl).cons S 1 rfl).cons S 0 rfl).cons S 10 rfl).cons S 11 rfl).cons S 12 rfl).cons S 13 rfl
    refine g_seq ?_
    -- region 5 law.go:37
    refine g_region ?_
    refine wl_of (op_y (wn rfl) rfl rfl S (y_move rfl S rfl) fun a S => ?_)
    refine wl_of (op_y (wn rfl) rfl rfl S (y_move rfl S rfl) fun a S => ?_)
    refine wl_of (op_y (wn rfl) rfl rfl S (y_move rfl S rfl) fun a S => ?_)
    refine wl_of (op_y (wn rfl) rfl rfl S (y_move rfl S rfl) fun a S => ?_)
    refine wl_of (op_call (wn rfl) rfl rfl S (co_func rfl Try.call11 S rfl) (rnew_ok v1 order width span from_ _ (H.sl v1) hok) fun v w hc a S => ?_)
    obtain ⟨b2, wo, wt, ws, v3, rfl, H1⟩ := hc
    have H := H.call1 H1 rfl
    refine wl_of (op_y (wn rfl) rfl rfl S (y_move rfl S rfl) fun a S => ?_)
    refine wl_of (op_y (wn rfl) rfl rfl S (y_extract rfl S rfl rfl) fun a S => ?_)
    refine wl_of (op_y (wn rfl) rfl rfl S (y_extract rfl S rfl rfl) fun a S => ?_)
    refine wl_of (op_y (wn rfl) rfl rfl S (y_assign rfl S rfl) fun a S => ?_)
    refine wl_of (op_y (wn rfl) rfl rfl S (y_assign rfl S rfl) fun a S => ?_)
    refine gl_nil ?_
    refine n_then ?_
    have S := ((((((S.nil.cons S 4 rfl).cons S 10 rfl).cons S 11 rfl).cons S 12 rfl).cons S 13 rfl).cons S 14 rfl).cons S 15 rfl
    refine g_seq ?_
    refine g_seq ?_
    -- region 6 law.go:38
    refine g_region ?_
    refine wl_of (op_y (wn rfl) rfl rfl S (y_move rfl S rfl) fun a S => ?_)
    refine wl_of (op_y (wn rfl) rfl rfl S (y_move rfl S rfl) fun a S => ?_)
    refine wl_of (op_y (wn rfl) rfl rfl S (y_bin rfl S rfl rfl rfl) fun a S => ?_)
    refine wl_of (op_y (wn rfl) rfl rfl S (y_move rfl S rfl) fun a S => ?_)
    refine wl_of (op_y (wg' 46 rfl rfl S rfl rfl rfl) rfl rfl S (y_move rfl S rfl) fun a S => ?_)
    refine wl_of (op_y (wg' 46 rfl rfl S rfl rfl rfl) rfl rfl S (y_eqp rfl Try.underlying25 S rfl rfl) fun a S => ?_)
    refine wl_of (op_y (wg' 46 rfl rfl S rfl rfl rfl) rfl rfl S (y_move rfl S rfl) fun a S => ?_)
    refine wl_of (op_y (wg' 46 rfl rfl S rfl rfl rfl) rfl rfl S (y_eqp rfl Try.underlying29 S rfl rfl) fun a S => ?_)
    refine wl_of (op_y (wg' 46 rfl rfl S rfl rfl rfl) rfl rfl S (y_neb rfl Try.underlying4 S rfl rfl) fun a S => ?_)
    refine wl_of (op_y (wn rfl) rfl rfl S (y_or' rfl rfl S rfl rfl) fun a S => ?_)
    refine gl_nil ?_
    refine n_then ?_
    have S := (((((S.nil.cons S 4 rfl).cons S 10 rfl).cons S 11 rfl).cons S 12 rfl).cons S 14 rfl).cons S 52 rfl
    -- cond 2
    refine c_if S rfl (fun h4 => ?_) (fun h4 => ?_)
    · have h4p := h4; try simp only [Option.isNone_some, Option.isNone_none, Option.isSome_some, Option.isSome_none, false_or, or_false, true_and, and_true, decide_eq_true_eq, decide_eq_false_iff_not, Bool.or_eq_true, Bool.and_eq_true, Bool.or_eq_false_iff, Bool.and_eq_false_iff, Bool.not_eq_true', Bool.not_eq_false', bne_iff_ne, beq_iff_eq, beq_eq_false_iff_ne, bne_eq_false_iff_eq, ne_eq, Decidable.not_not, Int.not_lt, Int.not_le, gt_iff_lt, ge_iff_le, Bool.true_eq_false, Bool.false_eq_true, not_true_eq_false, not_false_eq_true] at h4p
      all_goals (
        exact absurd h4 (by simp))
    · have h4p := h4; try simp only [Option.isNone_some, Option.isNone_none, Option.isSome_some, Option.isSome_none, false_or, or_false, true_and, and_true, decide_eq_true_eq, decide_eq_false_iff_not, Bool.or_eq_true, Bool.and_eq_true, Bool.or_eq_false_iff, Bool.and_eq_false_iff, Bool.not_eq_true', Bool.not_eq_false', bne_iff_ne, beq_iff_eq, beq_eq_false_iff_ne, bne_eq_false_iff_eq, ne_eq, Decidable.not_not, Int.not_lt, Int.not_le, gt_iff_lt, ge_iff_le, Bool.true_eq_false, Bool.false_eq_true, not_true_eq_false, not_false_eq_true] at h4p
      refine g_skip ?_
      refine n_then ?_
      refine g_seq ?_
      refine g_seq ?_
      -- region 8 law.go:41
      refine g_region ?_
      refine wl_of (op_y (wn rfl) rfl rfl S (y_assign rfl S rfl) fun a S => ?_)
      refine gl_nil ?_
      refine n_then ?_
      refine g_block ?_
      -- slots written in the loop and forgotten at its head: [10]
      have SU := (((S.nil.cons S 4 rfl).cons S 11 rfl).cons S 12 rfl).cons S 14 rfl
      refine loopW (X := Nat) SU (fun k => [(16, .int .i64 (k : Int))]) (fun k w => k ≤ l.length ∧ ∃ vs vd, (madeRM order width span from_ (l.take k)).WF k ∧ HSat No w0 [RoomA b ms mp vo (madeRM order width span from_ (l.take k)) vs, RRoomA b2 wo wt ws (madeRM order width span from_ (l.take k)) vd, Sl v2 3 Op.enc l, Sl v1 1 encI order] w) (fun k => l.length - k) 0 (S.nil.cons S 16 rfl) (⟨by omega, v0, v3, new_wf hok, H.take [RoomA b ms mp vo (newRM order width span from_) v0, RRoomA b2 wo wt ws (newRM order width span from_) v3, Sl v2 3 Op.enc l, Sl v1 1 encI order]⟩) (fun k a w S hW => ?_)
      simp only [List.cons_append, List.nil_append] at S
      obtain ⟨hk, vs, vd, hwr, H⟩ := hW
      obtain ⟨r, hr⟩ : ∃ r, r = (madeRM order width span from_ (l.take k)) := ⟨_, rfl⟩
      rw [← hr] at hwr H
      refine g_seq ?_
      refine g_seq ?_
      -- region 9 law.go:41
      refine g_region ?_
      refine wl_of (op_y (wn rfl) rfl rfl S (y_move rfl S rfl) fun a S => ?_)
      refine wl_of (op_y (wn rfl) rfl rfl S (y_move rfl S rfl) fun a S => ?_)
      refine wl_of (op_y (wn rfl) rfl rfl S (y_lens rfl Try.underlying23 S H rfl) fun a S => ?_)
      refine wl_of (op_y (wn rfl) rfl rfl S (y_bin rfl S rfl rfl rfl) fun a S => ?_)
      refine gl_nil ?_
      refine n_then ?_
      -- cond 3
      refine c_if S rfl (fun h5 => ?_) (fun h5 => ?_)
      · have h5p := h5; try simp only [Option.isNone_some, Option.isNone_none, Option.isSome_some, Option.isSome_none, false_or, or_false, true_and, and_true, decide_eq_true_eq, decide_eq_false_iff_not, Bool.or_eq_true, Bool.and_eq_true, Bool.or_eq_false_iff, Bool.and_eq_false_iff, Bool.not_eq_true', Bool.not_eq_false', bne_iff_ne, beq_iff_eq, beq_eq_false_iff_ne, bne_eq_false_iff_eq, ne_eq, Decidable.not_not, Int.not_lt, Int.not_le, gt_iff_lt, ge_iff_le, Bool.true_eq_false, Bool.false_eq_true, not_true_eq_false, not_false_eq_true] at h5p
        refine g_skip ?_
        refine n_then ?_
        refine g_seq ?_
        refine g_block ?_
        refine g_seq ?_
        refine g_seq ?_
        -- region 11 DRAWS law.go:42
        refine region_st (loud := [6, 13, 18]) (tails := []) (free := []) [0, 1, 2, 3, 4, 5, 7, 8, 9, 10, 11, 12, 6, 13, 14, 15, 16, 17, 19, 18, 20, 21, 22, 23] [Sl v2 3 Op.enc l] Fmo (by kernel_rfl) (by kernel_rfl) rfl H ?_
        refine m_w rfl rfl (wn rfl) rfl rfl S (fun w H => y_move rfl S rfl) fun a S => ?_
        refine m_w rfl rfl (wn rfl) rfl rfl S (fun w H => y_move rfl S rfl) fun a S => ?_
        refine m_w rfl rfl (wn rfl) rfl rfl S (fun w H => y_move rfl S rfl) fun a S => ?_
        refine m_w rfl rfl (wn rfl) rfl rfl S (fun w H => y_iaddrn rfl Try.underlying23 Fsiz35 S H rfl rfl (by first | assumption | omega | (simp only [List.length_append, List.length_take, List.length_drop, List.length_replicate, List.length_set, List.length_map, List.length_cons, List.length_nil]; omega))) fun a S => ?_
        refine m_w rfl rfl (wn rfl) rfl rfl S (fun w H => y_faddr rfl Ffo35_2 S rfl) fun a S => ?_
        refine m_loadsf _ rfl rfl (wn rfl) rfl rfl S rfl Fsca3 rfl (by first | assumption | omega | (simp only [List.length_append, List.length_take, List.length_drop, List.length_replicate, List.length_set, List.length_map, List.length_cons, List.length_nil]; omega)) rfl fun a S => ?_
        refine m_w rfl rfl (wn rfl) rfl rfl S (fun w H => y_move rfl S rfl) fun a S => ?_
        refine m_w rfl rfl (wn rfl) rfl rfl S (fun w H => y_move rfl S rfl) fun a S => ?_
        refine m_w rfl rfl (wn rfl) rfl rfl S (fun w H => y_move rfl S rfl) fun a S => ?_
        refine m_w rfl rfl (wn rfl) rfl rfl S (fun w H => y_iaddrn rfl Try.underlying23 Fsiz35 S H rfl rfl (by first | assumption | omega | (simp only [List.length_append, List.length_take, List.length_drop, List.length_replicate, List.length_set, List.length_map, List.length_cons, List.length_nil]; omega))) fun a S => ?_
        refine m_w rfl rfl (wn rfl) rfl rfl S (fun w H => y_faddr rfl Ffo35_2 S rfl) fun a S => ?_
        refine m_loadsf _ rfl rfl (wn rfl) rfl rfl S rfl Fsca3 rfl (by first | assumption | omega | (simp only [List.length_append, List.length_take, List.length_drop, List.length_replicate, List.length_set, List.length_map, List.length_cons, List.length_nil]; omega)) rfl fun a S => ?_
        refine m_l rfl rfl (fun w H => op_call (wn rfl) rfl rfl S (co_func rfl Try.call13 S rfl) (called_spec b ms mp vo vs r _ k _ (H.front (RoomA b ms mp vo r vs)) hwr) fun u65 w hc a S => ?_)
        have H1 := hc
        have H := H.call1 H1 rfl
        refine m_next H (by repeat (first | exact List.Sublist.refl _ | apply List.Sublist.cons)) ?_
        refine m_l rfl rfl (fun w H => op_call (wn rfl) rfl rfl S (co_func rfl Try.call14 S rfl) (rcalled_spec b2 wo wt ws vd r _ k _ (H.front (RRoomA b2 wo wt ws r vd)) hwr) fun u72 w hc a S => ?_)
        have H1 := hc
        have H := H.call1 H1 rfl
        refine m_next H (by repeat (first | exact List.Sublist.refl _ | apply List.Sublist.cons)) ?_
        refine m_c rfl rfl (wn rfl) rfl rfl S (fun w => co_func rfl Try.call12 S rfl) (fun w H => ints_spec u65 u72 (called r _) (called r _) _ (H.sl _) (H.sl _)) fun a S => ?_
        refine m_w rfl rfl (wn rfl) rfl rfl S (fun w H => y_not rfl S rfl) fun a S => ?_
        refine m_w rfl rfl (wn rfl) rfl rfl S (fun w H => y_move rfl S rfl) fun a S => ?_
        refine m_w rfl rfl (wg' 75 rfl rfl S rfl (by simp) rfl) rfl rfl S (fun w H => y_move rfl S rfl) fun a S => ?_
        refine m_w rfl rfl (wg' 75 rfl rfl S rfl (by simp) rfl) rfl rfl S (fun w H => y_move rfl S rfl) fun a S => ?_
        refine m_l rfl rfl (fun w H => op_call (wg' 75 rfl rfl S rfl (by simp) rfl) rfl rfl S (co_func rfl Try.call15 S rfl) (served_spec b ms mp vo vs r k _ (H.front (RoomA b ms mp vo r vs)) hwr (by omega)) fun u77 w hc a S => ?_)
        have H1 := hc
        have H := H.call1 H1 rfl
        refine m_next H (by repeat (first | exact List.Sublist.refl _ | apply List.Sublist.cons)) ?_
        refine m_c rfl rfl (wg' 75 rfl rfl S rfl (by simp) rfl) rfl rfl S (fun w => co_func rfl Try.call16 S rfl) (fun w H => rserved_spec b2 wo wt ws vd r k _ (H.front (RRoomA b2 wo wt ws r vd)) hwr) fun a S => ?_
        refine m_c rfl rfl (wg' 75 rfl rfl S rfl (by simp) rfl) rfl rfl S (fun w => co_func rfl Try.call12 S rfl) (fun w H => ints_spec u77 vd r.served r.served _ (H.sl _) (rdone (H.front (RRoomA b2 wo wt ws r vd)))) fun a S => ?_
        refine m_w rfl rfl (wg' 75 rfl rfl S rfl (by simp) rfl) rfl rfl S (fun w H => y_not rfl S rfl) fun a S => ?_
        refine m_w rfl rfl (wn rfl) rfl rfl S (fun w H => y_or' rfl (by simp) S rfl rfl) fun a S => ?_
        refine m_nil (fun w H => ?_)
        refine n_then ?_
        -- cond 4
        refine c_if S rfl (fun h6 => ?_) (fun h6 => ?_)
        · have h6p := h6; try simp only [Option.isNone_some, Option.isNone_none, Option.isSome_some, Option.isSome_none, false_or, or_false, true_and, and_true, decide_eq_true_eq, decide_eq_false_iff_not, Bool.or_eq_true, Bool.and_eq_true, Bool.or_eq_false_iff, Bool.and_eq_false_iff, Bool.not_eq_true', Bool.not_eq_false', bne_iff_ne, beq_iff_eq, beq_eq_false_iff_ne, bne_eq_false_iff_eq, ne_eq, Decidable.not_not, Int.not_lt, Int.not_le, gt_iff_lt, ge_iff_le, Bool.true_eq_false, Bool.false_eq_true, not_true_eq_false, not_false_eq_true] at h6p
          all_goals (
            exact absurd h6 (by simp))
        · have h6p := h6; try simp only [Option.isNone_some, Option.isNone_none, Option.isSome_some, Option.isSome_none, false_or, or_false, true_and, and_true, decide_eq_true_eq, decide_eq_false_iff_not, Bool.or_eq_true, Bool.and_eq_true, Bool.or_eq_false_iff, Bool.and_eq_false_iff, Bool.not_eq_true', Bool.not_eq_false', bne_iff_ne, beq_iff_eq, beq_eq_false_iff_ne, bne_eq_false_iff_eq, ne_eq, Decidable.not_not, Int.not_lt, Int.not_le, gt_iff_lt, ge_iff_le, Bool.true_eq_false, Bool.false_eq_true, not_true_eq_false, not_false_eq_true] at h6p
          refine g_skip ?_
          refine n_then ?_
          refine g_seq ?_
          cases hb : l[k].out
          · skip
            -- region 13 DRAWS law.go:45
            refine region_st (loud := [12, 19, 41, 53]) (tails := [12, 19, 41, 53]) (free := [13, 14, 15, 16, 17, 18, 42, 43, 44, 45, 46, 47, 48, 49, 50, 51, 52]) [0, 1, 2, 3, 4, 5, 6, 7, 8, 9, 10, 11, 13, 14, 15, 16, 17, 18, 12, 19, 20, 21, 22, 23, 24, 25, 26, 27, 28, 29, 30, 31, 32, 33, 34, 35, 36, 37, 38, 39, 40, 42, 43, 44, 45, 46, 47, 48, 49, 50, 51, 52, 41, 53, 54, 55, 56] [Sl v2 3 Op.enc l] Fmo (by kernel_rfl) (by kernel_rfl) rfl H ?_
            refine m_w rfl rfl (wn rfl) rfl rfl S (fun w H => y_move rfl S rfl) fun a S => ?_
            refine m_w rfl rfl (wn rfl) rfl rfl S (fun w H => y_move rfl S rfl) fun a S => ?_
            refine m_w rfl rfl (wn rfl) rfl rfl S (fun w H => y_iaddrn rfl Try.underlying23 Fsiz35 S H rfl rfl (by first | assumption | omega | (simp only [List.length_append, List.length_take, List.length_drop, List.length_replicate, List.length_set, List.length_map, List.length_cons, List.length_nil]; omega))) fun a S => ?_
            refine m_w rfl rfl (wn rfl) rfl rfl S (fun w H => y_faddr rfl Ffo35_0 S rfl) fun a S => ?_
            refine m_loadsf _ rfl rfl (wn rfl) rfl rfl S rfl Fsca4 rfl (by first | assumption | omega | (simp only [List.length_append, List.length_take, List.length_drop, List.length_replicate, List.length_set, List.length_map, List.length_cons, List.length_nil]; omega)) rfl fun a S => ?_
            rw [hb] at S
            refine m_w rfl rfl (wn rfl) rfl rfl S (fun w H => y_move rfl S rfl) fun a S => ?_
            refine' m_andq (B2 := false) [6, 7, 8, 9, 10, 11, 13, 14, 15, 16, 17, 18, 12, 19, 20] 88 S rfl rfl rfl rfl rfl rfl rfl rfl rfl (fun _ S => (wn rfl)) (fun h kk => absurd h (by simp)) (fun a S => ?_)
            refine m_w rfl rfl (wn rfl) rfl rfl S (fun w H => y_move rfl S rfl) fun a S => ?_
            refine m_w rfl rfl (wg' 105 rfl rfl S rfl rfl rfl) rfl rfl S (fun w H => y_move rfl S rfl) fun a S => ?_
            refine m_w rfl rfl (wg' 105 rfl rfl S rfl rfl rfl) rfl rfl S (fun w H => y_move rfl S rfl) fun a S => ?_
            refine m_w rfl rfl (wg' 105 rfl rfl S rfl rfl rfl) rfl rfl S (fun w H => y_iaddrn rfl Try.underlying23 Fsiz35 S H rfl rfl (by first | assumption | omega | (simp only [List.length_append, List.length_take, List.length_drop, List.length_replicate, List.length_set, List.length_map, List.length_cons, List.length_nil]; omega))) fun a S => ?_
            refine m_w rfl rfl (wg' 105 rfl rfl S rfl rfl rfl) rfl rfl S (fun w H => y_faddr rfl Ffo35_0 S rfl) fun a S => ?_
            refine m_loadsf _ rfl rfl (wg' 105 rfl rfl S rfl rfl rfl) rfl rfl S rfl Fsca4 rfl (by first | assumption | omega | (simp only [List.length_append, List.length_take, List.length_drop, List.length_replicate, List.length_set, List.length_map, List.length_cons, List.length_nil]; omega)) rfl fun a S => ?_
            rw [hb] at S
            refine m_w rfl rfl (wg' 105 rfl rfl S rfl rfl rfl) rfl rfl S (fun w H => y_not rfl S rfl) fun a S => ?_
            refine m_w rfl rfl (wg' 105 rfl rfl S rfl rfl rfl) rfl rfl S (fun w H => y_move rfl S rfl) fun a S => ?_
            refine m_w rfl rfl (wg' 112 rfl rfl S rfl rfl rfl) rfl rfl S (fun w H => y_move rfl S rfl) fun a S => ?_
            refine m_w rfl rfl (wg' 112 rfl rfl S rfl rfl rfl) rfl rfl S (fun w H => y_move rfl S rfl) fun a S => ?_
            refine m_w rfl rfl (wg' 112 rfl rfl S rfl rfl rfl) rfl rfl S (fun w H => y_move rfl S rfl) fun a S => ?_
            refine m_w rfl rfl (wg' 112 rfl rfl S rfl rfl rfl) rfl rfl S (fun w H => y_iaddrn rfl Try.underlying23 Fsiz35 S H rfl rfl (by first | assumption | omega | (simp only [List.length_append, List.length_take, List.length_drop, List.length_replicate, List.length_set, List.length_map, List.length_cons, List.length_nil]; omega))) fun a S => ?_
            refine m_w rfl rfl (wg' 112 rfl rfl S rfl rfl rfl) rfl rfl S (fun w H => y_faddr rfl Ffo35_1 S rfl) fun a S => ?_
            refine m_loadsf _ rfl rfl (wg' 112 rfl rfl S rfl rfl rfl) rfl rfl S rfl Fsca3 rfl (by first | assumption | omega | (simp only [List.length_append, List.length_take, List.length_drop, List.length_replicate, List.length_set, List.length_map, List.length_cons, List.length_nil]; omega)) rfl fun a S => ?_
            refine m_w rfl rfl (wg' 112 rfl rfl S rfl rfl rfl) rfl rfl S (fun w H => y_move rfl S rfl) fun a S => ?_
            refine m_w rfl rfl (wg' 112 rfl rfl S rfl rfl rfl) rfl rfl S (fun w H => y_move rfl S rfl) fun a S => ?_
            refine m_w rfl rfl (wg' 112 rfl rfl S rfl rfl rfl) rfl rfl S (fun w H => y_iaddrn rfl Try.underlying23 Fsiz35 S H rfl rfl (by first | assumption | omega | (simp only [List.length_append, List.length_take, List.length_drop, List.length_replicate, List.length_set, List.length_map, List.length_cons, List.length_nil]; omega))) fun a S => ?_
            refine m_w rfl rfl (wg' 112 rfl rfl S rfl rfl rfl) rfl rfl S (fun w H => y_faddr rfl Ffo35_2 S rfl) fun a S => ?_
            refine m_loadsf _ rfl rfl (wg' 112 rfl rfl S rfl rfl rfl) rfl rfl S rfl Fsca3 rfl (by first | assumption | omega | (simp only [List.length_append, List.length_take, List.length_drop, List.length_replicate, List.length_set, List.length_map, List.length_cons, List.length_nil]; omega)) rfl fun a S => ?_
            refine m_f rfl rfl (wg' 112 rfl rfl S rfl rfl rfl) rfl rfl S (fun w H => y_move rfl S rfl) fun a S => ?_
            refine m_f rfl rfl (wg' 112 rfl rfl S rfl rfl rfl) rfl rfl S (fun w H => y_move rfl S rfl) fun a S => ?_
            refine m_f rfl rfl (wg' 112 rfl rfl S rfl rfl rfl) rfl rfl S (fun w H => y_move rfl S rfl) fun a S => ?_
            refine m_f rfl rfl (wg' 112 rfl rfl S rfl rfl rfl) rfl rfl S (fun w H => y_iaddrn rfl Try.underlying23 Fsiz35 S H rfl rfl (by first | assumption | omega | (simp only [List.length_append, List.length_take, List.length_drop, List.length_replicate, List.length_set, List.length_map, List.length_cons, List.length_nil]; omega))) fun a S => ?_
            refine m_f rfl rfl (wg' 112 rfl rfl S rfl rfl rfl) rfl rfl S (fun w H => y_faddr rfl Ffo35_1 S rfl) fun a S => ?_
            refine m_floadsf _ rfl rfl (wg' 112 rfl rfl S rfl rfl rfl) rfl rfl S rfl Fsca3 rfl (by first | assumption | omega | (simp only [List.length_append, List.length_take, List.length_drop, List.length_replicate, List.length_set, List.length_map, List.length_cons, List.length_nil]; omega)) rfl fun a S => ?_
            refine m_f rfl rfl (wg' 112 rfl rfl S rfl rfl rfl) rfl rfl S (fun w H => y_move rfl S rfl) fun a S => ?_
            refine m_f rfl rfl (wg' 112 rfl rfl S rfl rfl rfl) rfl rfl S (fun w H => y_move rfl S rfl) fun a S => ?_
            refine m_f rfl rfl (wg' 112 rfl rfl S rfl rfl rfl) rfl rfl S (fun w H => y_iaddrn rfl Try.underlying23 Fsiz35 S H rfl rfl (by first | assumption | omega | (simp only [List.length_append, List.length_take, List.length_drop, List.length_replicate, List.length_set, List.length_map, List.length_cons, List.length_nil]; omega))) fun a S => ?_
            refine m_f rfl rfl (wg' 112 rfl rfl S rfl rfl rfl) rfl rfl S (fun w H => y_faddr rfl Ffo35_2 S rfl) fun a S => ?_
            refine m_floadsf _ rfl rfl (wg' 112 rfl rfl S rfl rfl rfl) rfl rfl S rfl Fsca3 rfl (by first | assumption | omega | (simp only [List.length_append, List.length_take, List.length_drop, List.length_replicate, List.length_set, List.length_map, List.length_cons, List.length_nil]; omega)) rfl fun a S => ?_
            refine m_l rfl rfl (fun w H => op_call (wg' 112 rfl rfl S rfl rfl rfl) rfl rfl S (co_func rfl Try.call19 S rfl) (Ret.atE (x := RoomA b ms mp vo r vs) H (fun H => serve_spec b ms mp vo vs r _ _ k _ H hwr (by omega))) fun v w hc a S => ?_)
            obtain ⟨rfl, vs1, H⟩ := hc
            
            refine m_tail H rfl ?_
            refine m_l rfl rfl (fun w H => op_call (wg' 112 rfl rfl S rfl rfl rfl) rfl rfl S (co_func rfl Try.call20 S rfl) (Ret.atE (x := RRoomA b2 wo wt ws r vd) H (fun H => rserve_spec b2 wo wt ws vd r _ _ k _ H hwr (by omega))) fun v w hc a S => ?_)
            obtain ⟨rfl, vd1, H⟩ := hc
            
            refine m_tail H rfl ?_
            refine m_w rfl rfl (wg' 112 rfl rfl S rfl rfl rfl) rfl rfl S (fun w H => y_bin rfl S rfl rfl rfl) fun a S => ?_
            refine m_w rfl rfl (wg' 105 rfl rfl S rfl rfl rfl) rfl rfl S (fun w H => y_and' rfl rfl S rfl rfl) fun a S => ?_
            refine m_w rfl rfl (wn rfl) rfl rfl S (fun w H => y_or' rfl rfl S rfl rfl) fun a S => ?_
            refine m_nil (fun w H => ?_)
            refine n_then ?_
            -- cond 5
            refine c_if S rfl (fun h7 => ?_) (fun h7 => ?_)
            · have h7p := h7; try simp only [Option.isNone_some, Option.isNone_none, Option.isSome_some, Option.isSome_none, false_or, or_false, true_and, and_true, decide_eq_true_eq, decide_eq_false_iff_not, Bool.or_eq_true, Bool.and_eq_true, Bool.or_eq_false_iff, Bool.and_eq_false_iff, Bool.not_eq_true', Bool.not_eq_false', bne_iff_ne, beq_iff_eq, beq_eq_false_iff_ne, bne_eq_false_iff_eq, ne_eq, Decidable.not_not, Int.not_lt, Int.not_le, gt_iff_lt, ge_iff_le, Bool.true_eq_false, Bool.false_eq_true, not_true_eq_false, not_false_eq_true] at h7p
              all_goals (
                exact absurd h7 (by simp))
            · have h7p := h7; try simp only [Option.isNone_some, Option.isNone_none, Option.isSome_some, Option.isSome_none, false_or, or_false, true_and, and_true, decide_eq_true_eq, decide_eq_false_iff_not, Bool.or_eq_true, Bool.and_eq_true, Bool.or_eq_false_iff, Bool.and_eq_false_iff, Bool.not_eq_true', Bool.not_eq_false', bne_iff_ne, beq_iff_eq, beq_eq_false_iff_ne, bne_eq_false_iff_eq, ne_eq, Decidable.not_not, Int.not_lt, Int.not_le, gt_iff_lt, ge_iff_le, Bool.true_eq_false, Bool.false_eq_true, not_true_eq_false, not_false_eq_true] at h7p
              skip
              refine g_skip ?_
              refine n_block ?_
              refine n_then ?_
              -- region 10 law.go:41
              refine g_region ?_
              refine wl_of (op_y (wn rfl) rfl rfl S (y_move rfl S rfl) fun a S => ?_)
              refine wl_of (op_y (wn rfl) rfl rfl S (y_add rfl S rfl rfl (by omega)) fun a S => ?_)
              refine wl_of (op_y (wn rfl) rfl rfl S (y_assign rfl S rfl) fun a S => ?_)
              refine gl_nil ?_
              refine n_then ?_
              have hms := made_step order width span from_ l k (by omega)
              rw [← hr] at hms
              have hsw := step_wf hwr l[k]
              first
              | (have hs : stepRM r l[k] = (leave r l[k].i).2 := by rw [stepRM, if_pos hb]
                 rw [← hs] at H
                 exact ⟨k + 1, S.nil.cons S 16 rfl, (((S.nil.cons S 4 rfl).cons S 11 rfl).cons S 12 rfl).cons S 14 rfl, ⟨by omega, vs, vd, by rw [hms]; exact hsw, by rw [hms]; exact H.take [RoomA b ms mp vo (stepRM r l[k]) vs, RRoomA b2 wo wt ws (stepRM r l[k]) vd, Sl v2 3 Op.enc l, Sl v1 1 encI order]⟩, by omega⟩)
              | (have hs : stepRM r l[k] = (serve r l[k].i l[k].now).2 := by rw [stepRM, if_neg (by rw [hb]; simp)]
                 rw [← hs] at H
                 exact ⟨k + 1, S.nil.cons S 16 rfl, (((S.nil.cons S 4 rfl).cons S 11 rfl).cons S 12 rfl).cons S 14 rfl, ⟨by omega, vs1, vd1, by rw [hms]; exact hsw, by rw [hms]; exact H.take [RoomA b ms mp vo (stepRM r l[k]) vs1, RRoomA b2 wo wt ws (stepRM r l[k]) vd1, Sl v2 3 Op.enc l, Sl v1 1 encI order]⟩, by omega⟩)
          · skip
            -- region 13 DRAWS law.go:45
            refine region_st (loud := [12, 19, 41, 53]) (tails := [12, 19, 41, 53]) (free := [13, 14, 15, 16, 17, 18, 42, 43, 44, 45, 46, 47, 48, 49, 50, 51, 52]) [0, 1, 2, 3, 4, 5, 6, 7, 8, 9, 10, 11, 13, 14, 15, 16, 17, 18, 12, 19, 20, 21, 22, 23, 24, 25, 26, 27, 28, 29, 30, 31, 32, 33, 34, 35, 36, 37, 38, 39, 40, 42, 43, 44, 45, 46, 47, 48, 49, 50, 51, 52, 41, 53, 54, 55, 56] [Sl v2 3 Op.enc l] Fmo (by kernel_rfl) (by kernel_rfl) rfl H ?_
            refine m_w rfl rfl (wn rfl) rfl rfl S (fun w H => y_move rfl S rfl) fun a S => ?_
            refine m_w rfl rfl (wn rfl) rfl rfl S (fun w H => y_move rfl S rfl) fun a S => ?_
            refine m_w rfl rfl (wn rfl) rfl rfl S (fun w H => y_iaddrn rfl Try.underlying23 Fsiz35 S H rfl rfl (by first | assumption | omega | (simp only [List.length_append, List.length_take, List.length_drop, List.length_replicate, List.length_set, List.length_map, List.length_cons, List.length_nil]; omega))) fun a S => ?_
            refine m_w rfl rfl (wn rfl) rfl rfl S (fun w H => y_faddr rfl Ffo35_0 S rfl) fun a S => ?_
            refine m_loadsf _ rfl rfl (wn rfl) rfl rfl S rfl Fsca4 rfl (by first | assumption | omega | (simp only [List.length_append, List.length_take, List.length_drop, List.length_replicate, List.length_set, List.length_map, List.length_cons, List.length_nil]; omega)) rfl fun a S => ?_
            rw [hb] at S
            refine m_w rfl rfl (wn rfl) rfl rfl S (fun w H => y_move rfl S rfl) fun a S => ?_
            refine m_w rfl rfl (wg' 88 rfl rfl S rfl rfl rfl) rfl rfl S (fun w H => y_move rfl S rfl) fun a S => ?_
            refine m_w rfl rfl (wg' 88 rfl rfl S rfl rfl rfl) rfl rfl S (fun w H => y_move rfl S rfl) fun a S => ?_
            refine m_w rfl rfl (wg' 88 rfl rfl S rfl rfl rfl) rfl rfl S (fun w H => y_move rfl S rfl) fun a S => ?_
            refine m_w rfl rfl (wg' 88 rfl rfl S rfl rfl rfl) rfl rfl S (fun w H => y_iaddrn rfl Try.underlying23 Fsiz35 S H rfl rfl (by first | assumption | omega | (simp only [List.length_append, List.length_take, List.length_drop, List.length_replicate, List.length_set, List.length_map, List.length_cons, List.length_nil]; omega))) fun a S => ?_
            refine m_w rfl rfl (wg' 88 rfl rfl S rfl rfl rfl) rfl rfl S (fun w H => y_faddr rfl Ffo35_1 S rfl) fun a S => ?_
            refine m_loadsf _ rfl rfl (wg' 88 rfl rfl S rfl rfl rfl) rfl rfl S rfl Fsca3 rfl (by first | assumption | omega | (simp only [List.length_append, List.length_take, List.length_drop, List.length_replicate, List.length_set, List.length_map, List.length_cons, List.length_nil]; omega)) rfl fun a S => ?_
            refine m_f rfl rfl (wg' 88 rfl rfl S rfl rfl rfl) rfl rfl S (fun w H => y_move rfl S rfl) fun a S => ?_
            refine m_f rfl rfl (wg' 88 rfl rfl S rfl rfl rfl) rfl rfl S (fun w H => y_move rfl S rfl) fun a S => ?_
            refine m_f rfl rfl (wg' 88 rfl rfl S rfl rfl rfl) rfl rfl S (fun w H => y_move rfl S rfl) fun a S => ?_
            refine m_f rfl rfl (wg' 88 rfl rfl S rfl rfl rfl) rfl rfl S (fun w H => y_iaddrn rfl Try.underlying23 Fsiz35 S H rfl rfl (by first | assumption | omega | (simp only [List.length_append, List.length_take, List.length_drop, List.length_replicate, List.length_set, List.length_map, List.length_cons, List.length_nil]; omega))) fun a S => ?_
            refine m_f rfl rfl (wg' 88 rfl rfl S rfl rfl rfl) rfl rfl S (fun w H => y_faddr rfl Ffo35_1 S rfl) fun a S => ?_
            refine m_floadsf _ rfl rfl (wg' 88 rfl rfl S rfl rfl rfl) rfl rfl S rfl Fsca3 rfl (by first | assumption | omega | (simp only [List.length_append, List.length_take, List.length_drop, List.length_replicate, List.length_set, List.length_map, List.length_cons, List.length_nil]; omega)) rfl fun a S => ?_
            refine m_l rfl rfl (fun w H => op_call (wg' 88 rfl rfl S rfl rfl rfl) rfl rfl S (co_func rfl Try.call17 S rfl) (Ret.at_ (x := RoomA b ms mp vo r vs) H (fun H => leave_spec b ms mp vo vs r _ k _ H hwr)) fun v w hc a S => ?_)
            obtain ⟨rfl, H⟩ := hc
            
            refine m_tail H rfl ?_
            refine m_l rfl rfl (fun w H => op_call (wg' 88 rfl rfl S rfl rfl rfl) rfl rfl S (co_func rfl Try.call18 S rfl) (Ret.at_ (x := RRoomA b2 wo wt ws r vd) H (fun H => rleave_spec b2 wo wt ws vd r _ k _ H hwr)) fun v w hc a S => ?_)
            obtain ⟨rfl, H⟩ := hc
            
            refine m_tail H rfl ?_
            refine m_w rfl rfl (wg' 88 rfl rfl S rfl rfl rfl) rfl rfl S (fun w H => y_bin rfl S rfl rfl rfl) fun a S => ?_
            refine m_w rfl rfl (wn rfl) rfl rfl S (fun w H => y_and' rfl rfl S rfl rfl) fun a S => ?_
            refine m_w rfl rfl (wn rfl) rfl rfl S (fun w H => y_move rfl S rfl) fun a S => ?_
            refine m_w rfl rfl (wg' 105 rfl rfl S rfl (by simp) rfl) rfl rfl S (fun w H => y_move rfl S rfl) fun a S => ?_
            refine m_w rfl rfl (wg' 105 rfl rfl S rfl (by simp) rfl) rfl rfl S (fun w H => y_move rfl S rfl) fun a S => ?_
            refine m_w rfl rfl (wg' 105 rfl rfl S rfl (by simp) rfl) rfl rfl S (fun w H => y_iaddrn rfl Try.underlying23 Fsiz35 S H rfl rfl (by first | assumption | omega | (simp only [List.length_append, List.length_take, List.length_drop, List.length_replicate, List.length_set, List.length_map, List.length_cons, List.length_nil]; omega))) fun a S => ?_
            refine m_w rfl rfl (wg' 105 rfl rfl S rfl (by simp) rfl) rfl rfl S (fun w H => y_faddr rfl Ffo35_0 S rfl) fun a S => ?_
            refine m_loadsf _ rfl rfl (wg' 105 rfl rfl S rfl (by simp) rfl) rfl rfl S rfl Fsca4 rfl (by first | assumption | omega | (simp only [List.length_append, List.length_take, List.length_drop, List.length_replicate, List.length_set, List.length_map, List.length_cons, List.length_nil]; omega)) rfl fun a S => ?_
            rw [hb] at S
            refine m_w rfl rfl (wg' 105 rfl rfl S rfl (by simp) rfl) rfl rfl S (fun w H => y_not rfl S rfl) fun a S => ?_
            refine m_w rfl rfl (wg' 105 rfl rfl S rfl (by simp) rfl) rfl rfl S (fun w H => y_move rfl S rfl) fun a S => ?_
            refine' m_andq (B2 := false) [30, 31, 32, 33, 34, 35, 36, 37, 38, 39, 40, 42, 43, 44, 45, 46, 47, 48, 49, 50, 51, 52, 41, 53, 54] 112 S rfl rfl rfl rfl rfl rfl rfl rfl rfl (fun _ S => (wg' 105 rfl rfl S rfl (by simp) rfl)) (fun h kk => absurd h (by simp)) (fun a S => ?_)
            refine m_w rfl rfl (wn rfl) rfl rfl S (fun w H => y_or' rfl (by simp) S rfl rfl) fun a S => ?_
            refine m_nil (fun w H => ?_)
            refine n_then ?_
            -- cond 5
            refine c_if S rfl (fun h8 => ?_) (fun h8 => ?_)
            · have h8p := h8; try simp only [Option.isNone_some, Option.isNone_none, Option.isSome_some, Option.isSome_none, false_or, or_false, true_and, and_true, decide_eq_true_eq, decide_eq_false_iff_not, Bool.or_eq_true, Bool.and_eq_true, Bool.or_eq_false_iff, Bool.and_eq_false_iff, Bool.not_eq_true', Bool.not_eq_false', bne_iff_ne, beq_iff_eq, beq_eq_false_iff_ne, bne_eq_false_iff_eq, ne_eq, Decidable.not_not, Int.not_lt, Int.not_le, gt_iff_lt, ge_iff_le, Bool.true_eq_false, Bool.false_eq_true, not_true_eq_false, not_false_eq_true] at h8p
              all_goals (
                exact absurd h8 (by simp))
            · have h8p := h8; try simp only [Option.isNone_some, Option.isNone_none, Option.isSome_some, Option.isSome_none, false_or, or_false, true_and, and_true, decide_eq_true_eq, decide_eq_false_iff_not, Bool.or_eq_true, Bool.and_eq_true, Bool.or_eq_false_iff, Bool.and_eq_false_iff, Bool.not_eq_true', Bool.not_eq_false', bne_iff_ne, beq_iff_eq, beq_eq_false_iff_ne, bne_eq_false_iff_eq, ne_eq, Decidable.not_not, Int.not_lt, Int.not_le, gt_iff_lt, ge_iff_le, Bool.true_eq_false, Bool.false_eq_true, not_true_eq_false, not_false_eq_true] at h8p
              skip
              refine g_skip ?_
              refine n_block ?_
              refine n_then ?_
              -- region 10 law.go:41
              refine g_region ?_
              refine wl_of (op_y (wn rfl) rfl rfl S (y_move rfl S rfl) fun a S => ?_)
              refine wl_of (op_y (wn rfl) rfl rfl S (y_add rfl S rfl rfl (by omega)) fun a S => ?_)
              refine wl_of (op_y (wn rfl) rfl rfl S (y_assign rfl S rfl) fun a S => ?_)
              refine gl_nil ?_
              refine n_then ?_
              have hms := made_step order width span from_ l k (by omega)
              rw [← hr] at hms
              have hsw := step_wf hwr l[k]
              first
              | (have hs : stepRM r l[k] = (leave r l[k].i).2 := by rw [stepRM, if_pos hb]
                 rw [← hs] at H
                 exact ⟨k + 1, S.nil.cons S 16 rfl, (((S.nil.cons S 4 rfl).cons S 11 rfl).cons S 12 rfl).cons S 14 rfl, ⟨by omega, vs, vd, by rw [hms]; exact hsw, by rw [hms]; exact H.take [RoomA b ms mp vo (stepRM r l[k]) vs, RRoomA b2 wo wt ws (stepRM r l[k]) vd, Sl v2 3 Op.enc l, Sl v1 1 encI order]⟩, by omega⟩)
              | (have hs : stepRM r l[k] = (serve r l[k].i l[k].now).2 := by rw [stepRM, if_neg (by rw [hb]; simp)]
                 rw [← hs] at H
                 exact ⟨k + 1, S.nil.cons S 16 rfl, (((S.nil.cons S 4 rfl).cons S 11 rfl).cons S 12 rfl).cons S 14 rfl, ⟨by omega, vs1, vd1, by rw [hms]; exact hsw, by rw [hms]; exact H.take [RoomA b ms mp vo (stepRM r l[k]) vs1, RRoomA b2 wo wt ws (stepRM r l[k]) vd1, Sl v2 3 Op.enc l, Sl v1 1 encI order]⟩, by omega⟩)
      · have h5p := h5; try simp only [Option.isNone_some, Option.isNone_none, Option.isSome_some, Option.isSome_none, false_or, or_false, true_and, and_true, decide_eq_true_eq, decide_eq_false_iff_not, Bool.or_eq_true, Bool.and_eq_true, Bool.or_eq_false_iff, Bool.and_eq_false_iff, Bool.not_eq_true', Bool.not_eq_false', bne_iff_ne, beq_iff_eq, beq_eq_false_iff_ne, bne_eq_false_iff_eq, ne_eq, Decidable.not_not, Int.not_lt, Int.not_le, gt_iff_lt, ge_iff_le, Bool.true_eq_false, Bool.false_eq_true, not_true_eq_false, not_false_eq_true] at h5p
        refine g_exit ?_
        refine x_then (x_then (x_eq ?_))
        refine n_then ?_
        have S := ((S.nil.cons S 11 rfl).cons S 12 rfl).cons S 14 rfl
        refine g_seq ?_
        -- region 15 law.go:49
        refine g_region ?_
        refine wl_of (op_y (wn rfl) rfl rfl S (y_move rfl S rfl) fun a S => ?_)
        refine wl_of (op_y (wn rfl) rfl rfl S (y_move rfl S rfl) fun a S => ?_)
        refine wl_of (op_y (wg' 141 rfl rfl S rfl rfl rfl) rfl rfl S (y_move rfl S rfl) fun a S => ?_)
        refine wl_of (op_call (wg' 141 rfl rfl S rfl rfl rfl) rfl rfl S (co_func rfl Try.call15 S rfl) (served_spec b ms mp vo vs r k _ (H.front (RoomA b ms mp vo r vs)) hwr (by omega)) fun u143 w hc a S => ?_)
        have H1 := hc
        have H := H.call1 H1 rfl
        refine wl_of (op_y (wg' 141 rfl rfl S rfl rfl rfl) rfl rfl S (y_move rfl S rfl) fun a S => ?_)
        refine wl_of (op_call (wg' 141 rfl rfl S rfl rfl rfl) rfl rfl S (co_func rfl Try.call16 S rfl) (rserved_spec b2 wo wt ws vd r k _ (H.front (RRoomA b2 wo wt ws r vd)) hwr) fun u145 w hc a S => ?_)
        obtain ⟨e, he⟩ := hc
        subst u145
        have H := H.ext he
        refine wl_of (op_call (wg' 141 rfl rfl S rfl rfl rfl) rfl rfl S (co_func rfl Try.call12 S rfl) (ints_spec u143 vd r.served r.served _ (H.sl _) (rdone (H.front (RRoomA b2 wo wt ws r vd)))) fun v w hc a S => ?_)
        obtain ⟨rfl, he⟩ := hc
        have H := H.ext he
        refine wl_of (op_y (wn rfl) rfl rfl S (y_and' rfl rfl S rfl rfl) fun a S => ?_)
        refine wl_of (op_y (wn rfl) rfl rfl S (y_assign rfl S rfl) fun a S => ?_)
        refine gl_nil ?_
        refine n_then ?_
        have S := S.nil.cons S 10 rfl
        refine g_ret ?_
        refine ret1 rfl S rfl ?_
        exact ⟨by simp, H.toExt⟩
set_option maxHeartbeats 4000000 in
/-- foyer/foyerlaw21.RoomMatchesReference -/
theorem law1_bad (v1 v2 : Value) (order : List Int) (width span from_ : Int) (l : List Op) (w0 : World) (hv1 : IsSl w0 v1 1 encI order) (hv2 : IsSl w0 v2 3 Op.enc l) (hok : newOK order width span from_ = false) :
    Ret Try.prog 3 #[v1, .int .i64 width, .int .i64 span, .int .i64 from_, v2] w0 (fun v w => v = .bool true ∧ Ext w0 w) := by
  refine ret_of_wp (nt := 148) Try.func3 rfl rfl rfl (fl := [(0, v1), (1, .int .i64 width), (2, .int .i64 span), (3, .int .i64 from_), (4, v2)]) rfl (fun a S => ?_)
  have H := HSat.start w0
  have H := H.ro0 (Sl v1 1 encI order) rfl (hv1)
  have H := H.ro0 (Sl v2 3 Op.enc l) rfl (hv2)
  refine g_seq ?_
  -- region 0 law.go:31
  refine g_region ?_
  refine wl_of (op_y (wn rfl) rfl rfl S (y_assign rfl S rfl) fun a S => ?_)
  refine gl_nil ?_
  refine n_then ?_
  refine g_seq ?_
  -- region 1 law.go:32
  refine g_region ?_
  refine wl_of (op_call (wn rfl) rfl rfl S (co_func rfl Try.call9 S rfl) (head_spec _) fun v w hc a S => ?_)
  obtain ⟨rfl, he⟩ := hc
  have H := H.ext he
  refine wl_of (op_y (wn rfl) rfl rfl S (y_assign rfl S rfl) fun a S => ?_)
  refine gl_nil ?_
  refine n_then ?_
  refine g_seq ?_
  refine g_seq ?_
  -- region 2 law.go:33
  refine g_region ?_
  refine wl_of (op_y (wn rfl) rfl rfl S (y_move rfl S rfl) fun a S => ?_)
  refine wl_of (op_y (wn rfl) rfl rfl S (y_lens rfl Try.underlying22 S H rfl) fun a S => ?_)
  refine wl_of (op_y (wn rfl) rfl rfl S (y_bin rfl S rfl rfl rfl) fun a S => ?_)
  refine wl_of (op_y (wn rfl) rfl rfl S (y_move rfl S rfl) fun a S => ?_)
  refine' wl_or 3 21 rfl S H rfl rfl rfl rfl rfl rfl rfl (fun _ S => (wn rfl)) (fun h1 kk => ?yh1) (fun a w S H => ?_)
  case yh1 =>
    have h1p := h1; try simp only [Option.isNone_some, Option.isNone_none, Option.isSome_some, Option.isSome_none, false_or, or_false, true_and, and_true, decide_eq_true_eq, decide_eq_false_iff_not, Bool.or_eq_true, Bool.and_eq_true, Bool.or_eq_false_iff, Bool.and_eq_false_iff, Bool.not_eq_true', Bool.not_eq_false', bne_iff_ne, beq_iff_eq, beq_eq_false_iff_ne, bne_eq_false_iff_eq, ne_eq, Decidable.not_not, Int.not_lt, Int.not_le, gt_iff_lt, ge_iff_le, Bool.true_eq_false, Bool.false_eq_true, not_true_eq_false, not_false_eq_true] at h1p
    refine wl_of (op_y (wg' 21 rfl rfl S rfl h1 rfl) rfl rfl S (y_move rfl S rfl) fun a S => ?_)
    refine wl_of (op_y (wg' 21 rfl rfl S rfl h1 rfl) rfl rfl S (y_lens rfl Try.underlying23 S H rfl) fun a S => ?_)
    refine wl_of (op_y (wg' 21 rfl rfl S rfl h1 rfl) rfl rfl S (y_bin rfl S rfl rfl rfl) fun a S => ?_)
    refine wl_of (op_y (wn rfl) rfl rfl S (y_or' rfl h1 S rfl rfl) fun a S => ?_)
    exact kk _ _ (S.join 4 25 rfl rfl) H
  refine gl_nil ?_
  refine n_then ?_
  have S := (((((((S.nil.cons S 4 rfl).cons S 3 rfl).cons S 2 rfl).cons S 1 rfl).cons S 0 rfl).cons S 10 rfl).cons S 11 rfl).cons S 25 rfl
  -- cond 1
  refine c_if S rfl (fun h2 => ?_) (fun h2 => ?_)
  · have h2p := h2; try simp only [Option.isNone_some, Option.isNone_none, Option.isSome_some, Option.isSome_none, false_or, or_false, true_and, and_true, decide_eq_true_eq, decide_eq_false_iff_not, Bool.or_eq_true, Bool.and_eq_true, Bool.or_eq_false_iff, Bool.and_eq_false_iff, Bool.not_eq_true', Bool.not_eq_false', bne_iff_ne, beq_iff_eq, beq_eq_false_iff_ne, bne_eq_false_iff_eq, ne_eq, Decidable.not_not, Int.not_lt, Int.not_le, gt_iff_lt, ge_iff_le, Bool.true_eq_false, Bool.false_eq_true, not_true_eq_false, not_false_eq_true] at h2p
    refine g_seq ?_
    -- region 3 law.go:34
    refine g_region ?_
    refine wl_of (op_y (wn rfl) rfl rfl S (y_move rfl S rfl) fun a S => ?_)
    refine wl_of (op_y (wn rfl) rfl rfl S (y_assign rfl S rfl) fun a S => ?_)
    refine gl_nil ?_
    refine n_then ?_
    refine g_ret ?_
    refine r_then (ret1 rfl S rfl ?_)
    exact ⟨rfl, H.toExt⟩
  · have h2p := h2; try simp only [Option.isNone_some, Option.isNone_none, Option.isSome_some, Option.isSome_none, false_or, or_false, true_and, and_true, decide_eq_true_eq, decide_eq_false_iff_not, Bool.or_eq_true, Bool.and_eq_true, Bool.or_eq_false_iff, Bool.and_eq_false_iff, Bool.not_eq_true', Bool.not_eq_false', bne_iff_ne, beq_iff_eq, beq_eq_false_iff_ne, bne_eq_false_iff_eq, ne_eq, Decidable.not_not, Int.not_lt, Int.not_le, gt_iff_lt, ge_iff_le, Bool.true_eq_false, Bool.false_eq_true, not_true_eq_false, not_false_eq_true] at h2p
    refine g_skip ?_
    refine n_then ?_
    refine g_seq ?_
    -- region 4 law.go:36
    refine g_region ?_
    refine wl_of (op_y (wn rfl) rfl rfl S (y_move rfl S rfl) fun a S => ?_)
    refine wl_of (op_y (wn rfl) rfl rfl S (y_move rfl S rfl) fun a S => ?_)
    refine wl_of (op_y (wn rfl) rfl rfl S (y_move rfl S rfl) fun a S => ?_)
    refine wl_of (op_y (wn rfl) rfl rfl S (y_move rfl S rfl) fun a S => ?_)
    refine wl_of (op_call (wn rfl) rfl rfl S (co_func rfl Try.call10 S rfl) (new_bad v1 order width span from_ _ (H.sl v1) hok) fun v w hc a S => ?_)
    obtain ⟨rfl, he⟩ := hc
    have H := H.ext he
    refine wl_of (op_y (wn rfl) rfl rfl S (y_move rfl S rfl) fun a S => ?_)
    refine wl_of (op_y (wn rfl) rfl rfl S (y_extract rfl S rfl rfl) fun a S => ?_)
    refine wl_of (op_y (wn rfl) rfl rfl S (y_extract rfl S rfl rfl) fun a S => ?_)
    refine wl_of (op_y (wn rfl) rfl rfl S (y_assign rfl S rfl) fun a S => ?_)
    refine wl_of (op_y (wn rfl) rfl rfl S (y_assign rfl S rfl) fun a S => ?_)
    refine gl_nil ?_
    refine n_then ?_
    have S := ((((((((S.nil.cons S 4 rfl).cons S 3 rfl).cons S 2 rfl).cons S 1 rfl).cons S 0 rfl).cons S 10 rfl).cons S 11 rfl).cons S 12 rfl).cons S 13 rfl
    refine g_seq ?_
    -- region 5 law.go:37
    refine g_region ?_
    refine wl_of (op_y (wn rfl) rfl rfl S (y_move rfl S rfl) fun a S => ?_)
    refine wl_of (op_y (wn rfl) rfl rfl S (y_move rfl S rfl) fun a S => ?_)
    refine wl_of (op_y (wn rfl) rfl rfl S (y_move rfl S rfl) fun a S => ?_)
    refine wl_of (op_y (wn rfl) rfl rfl S (y_move rfl S rfl) fun a S => ?_)
    refine wl_of (op_call (wn rfl) rfl rfl S (co_func rfl Try.call11 S rfl) (rnew_bad v1 order width span from_ _ (H.sl v1) hok) fun v w hc a S => ?_)
    obtain ⟨rfl, he⟩ := hc
    have H := H.ext he
    refine wl_of (op_y (wn rfl) rfl rfl S (y_move rfl S rfl) fun a S => ?_)
    refine wl_of (op_y (wn rfl) rfl rfl S (y_extract rfl S rfl rfl) fun a S => ?_)
    refine wl_of (op_y (wn rfl) rfl rfl S (y_extract rfl S rfl rfl) fun a S => ?_)
    refine wl_of (op_y (wn rfl) rfl rfl S (y_assign rfl S rfl) fun a S => ?_)
    refine wl_of (op_y (wn rfl) rfl rfl S (y_assign rfl S rfl) fun a S => ?_)
    refine gl_nil ?_
    refine n_then ?_
    have S := ((((((S.nil.cons S 4 rfl).cons S 10 rfl).cons S 11 rfl).cons S 12 rfl).cons S 13 rfl).cons S 14 rfl).cons S 15 rfl
    refine g_seq ?_
    refine g_seq ?_
    -- region 6 law.go:38
    refine g_region ?_
    refine wl_of (op_y (wn rfl) rfl rfl S (y_move rfl S rfl) fun a S => ?_)
    refine wl_of (op_y (wn rfl) rfl rfl S (y_move rfl S rfl) fun a S => ?_)
    refine wl_of (op_y (wn rfl) rfl rfl S (y_bin rfl S rfl rfl rfl) fun a S => ?_)
    refine wl_of (op_y (wn rfl) rfl rfl S (y_move rfl S rfl) fun a S => ?_)
    refine wl_of (op_y (wg' 46 rfl rfl S rfl rfl rfl) rfl rfl S (y_move rfl S rfl) fun a S => ?_)
    refine wl_of (op_y (wg' 46 rfl rfl S rfl rfl rfl) rfl rfl S (y_eqp rfl Try.underlying25 S rfl rfl) fun a S => ?_)
    refine wl_of (op_y (wg' 46 rfl rfl S rfl rfl rfl) rfl rfl S (y_move rfl S rfl) fun a S => ?_)
    refine wl_of (op_y (wg' 46 rfl rfl S rfl rfl rfl) rfl rfl S (y_eqp rfl Try.underlying29 S rfl rfl) fun a S => ?_)
    refine wl_of (op_y (wg' 46 rfl rfl S rfl rfl rfl) rfl rfl S (y_neb rfl Try.underlying4 S rfl rfl) fun a S => ?_)
    refine wl_of (op_y (wn rfl) rfl rfl S (y_or' rfl rfl S rfl rfl) fun a S => ?_)
    refine gl_nil ?_
    refine n_then ?_
    have S := (((((S.nil.cons S 4 rfl).cons S 10 rfl).cons S 11 rfl).cons S 12 rfl).cons S 14 rfl).cons S 52 rfl
    -- cond 2
    refine c_if S rfl (fun h4 => ?_) (fun h4 => ?_)
    · have h4p := h4; try simp only [Option.isNone_some, Option.isNone_none, Option.isSome_some, Option.isSome_none, false_or, or_false, true_and, and_true, decide_eq_true_eq, decide_eq_false_iff_not, Bool.or_eq_true, Bool.and_eq_true, Bool.or_eq_false_iff, Bool.and_eq_false_iff, Bool.not_eq_true', Bool.not_eq_false', bne_iff_ne, beq_iff_eq, beq_eq_false_iff_ne, bne_eq_false_iff_eq, ne_eq, Decidable.not_not, Int.not_lt, Int.not_le, gt_iff_lt, ge_iff_le, Bool.true_eq_false, Bool.false_eq_true, not_true_eq_false, not_false_eq_true] at h4p
      all_goals (
        exact absurd h4 (by simp))
    · have h4p := h4; try simp only [Option.isNone_some, Option.isNone_none, Option.isSome_some, Option.isSome_none, false_or, or_false, true_and, and_true, decide_eq_true_eq, decide_eq_false_iff_not, Bool.or_eq_true, Bool.and_eq_true, Bool.or_eq_false_iff, Bool.and_eq_false_iff, Bool.not_eq_true', Bool.not_eq_false', bne_iff_ne, beq_iff_eq, beq_eq_false_iff_ne, bne_eq_false_iff_eq, ne_eq, Decidable.not_not, Int.not_lt, Int.not_le, gt_iff_lt, ge_iff_le, Bool.true_eq_false, Bool.false_eq_true, not_true_eq_false, not_false_eq_true] at h4p
      refine g_skip ?_
      refine n_then ?_
      refine g_seq ?_
      refine g_seq ?_
      -- region 8 law.go:41
      refine g_region ?_
      refine wl_of (op_y (wn rfl) rfl rfl S (y_assign rfl S rfl) fun a S => ?_)
      refine gl_nil ?_
      refine n_then ?_
      refine g_block ?_
      -- slots written in the loop and forgotten at its head: [10]
      have SU := (((S.nil.cons S 4 rfl).cons S 11 rfl).cons S 12 rfl).cons S 14 rfl
      refine loopW (X := Nat) SU (fun k => [(16, .int .i64 (k : Int))]) (fun k w => k ≤ l.length ∧ HSat No w0 [Sl v2 3 Op.enc l, Sl v1 1 encI order] w) (fun k => l.length - k) 0 (S.nil.cons S 16 rfl) (⟨by omega, H⟩) (fun k a w S hW => ?_)
      simp only [List.cons_append, List.nil_append] at S
      obtain ⟨hk, H⟩ := hW
      refine g_seq ?_
      refine g_seq ?_
      -- region 9 law.go:41
      refine g_region ?_
      refine wl_of (op_y (wn rfl) rfl rfl S (y_move rfl S rfl) fun a S => ?_)
      refine wl_of (op_y (wn rfl) rfl rfl S (y_move rfl S rfl) fun a S => ?_)
      refine wl_of (op_y (wn rfl) rfl rfl S (y_lens rfl Try.underlying23 S H rfl) fun a S => ?_)
      refine wl_of (op_y (wn rfl) rfl rfl S (y_bin rfl S rfl rfl rfl) fun a S => ?_)
      refine gl_nil ?_
      refine n_then ?_
      -- cond 3
      refine c_if S rfl (fun h5 => ?_) (fun h5 => ?_)
      · have h5p := h5; try simp only [Option.isNone_some, Option.isNone_none, Option.isSome_some, Option.isSome_none, false_or, or_false, true_and, and_true, decide_eq_true_eq, decide_eq_false_iff_not, Bool.or_eq_true, Bool.and_eq_true, Bool.or_eq_false_iff, Bool.and_eq_false_iff, Bool.not_eq_true', Bool.not_eq_false', bne_iff_ne, beq_iff_eq, beq_eq_false_iff_ne, bne_eq_false_iff_eq, ne_eq, Decidable.not_not, Int.not_lt, Int.not_le, gt_iff_lt, ge_iff_le, Bool.true_eq_false, Bool.false_eq_true, not_true_eq_false, not_false_eq_true] at h5p
        refine g_skip ?_
        refine n_then ?_
        refine g_seq ?_
        refine g_block ?_
        refine g_seq ?_
        refine g_seq ?_
        -- region 11 DRAWS law.go:42
        refine region_st (loud := [6, 13, 18, 20]) (tails := []) (free := []) [0, 1, 2, 3, 4, 5, 7, 8, 9, 10, 11, 12, 6, 13, 14, 15, 16, 17, 19, 18, 20, 21, 22, 23] [Sl v2 3 Op.enc l] Fmo (by kernel_rfl) (by kernel_rfl) rfl H ?_
        refine m_w rfl rfl (wn rfl) rfl rfl S (fun w H => y_move rfl S rfl) fun a S => ?_
        refine m_w rfl rfl (wn rfl) rfl rfl S (fun w H => y_move rfl S rfl) fun a S => ?_
        refine m_w rfl rfl (wn rfl) rfl rfl S (fun w H => y_move rfl S rfl) fun a S => ?_
        refine m_w rfl rfl (wn rfl) rfl rfl S (fun w H => y_iaddrn rfl Try.underlying23 Fsiz35 S H rfl rfl (by first | assumption | omega | (simp only [List.length_append, List.length_take, List.length_drop, List.length_replicate, List.length_set, List.length_map, List.length_cons, List.length_nil]; omega))) fun a S => ?_
        refine m_w rfl rfl (wn rfl) rfl rfl S (fun w H => y_faddr rfl Ffo35_2 S rfl) fun a S => ?_
        refine m_loadsf _ rfl rfl (wn rfl) rfl rfl S rfl Fsca3 rfl (by first | assumption | omega | (simp only [List.length_append, List.length_take, List.length_drop, List.length_replicate, List.length_set, List.length_map, List.length_cons, List.length_nil]; omega)) rfl fun a S => ?_
        refine m_w rfl rfl (wn rfl) rfl rfl S (fun w H => y_move rfl S rfl) fun a S => ?_
        refine m_w rfl rfl (wn rfl) rfl rfl S (fun w H => y_move rfl S rfl) fun a S => ?_
        refine m_w rfl rfl (wn rfl) rfl rfl S (fun w H => y_move rfl S rfl) fun a S => ?_
        refine m_w rfl rfl (wn rfl) rfl rfl S (fun w H => y_iaddrn rfl Try.underlying23 Fsiz35 S H rfl rfl (by first | assumption | omega | (simp only [List.length_append, List.length_take, List.length_drop, List.length_replicate, List.length_set, List.length_map, List.length_cons, List.length_nil]; omega))) fun a S => ?_
        refine m_w rfl rfl (wn rfl) rfl rfl S (fun w H => y_faddr rfl Ffo35_2 S rfl) fun a S => ?_
        refine m_loadsf _ rfl rfl (wn rfl) rfl rfl S rfl Fsca3 rfl (by first | assumption | omega | (simp only [List.length_append, List.length_take, List.length_drop, List.length_replicate, List.length_set, List.length_map, List.length_cons, List.length_nil]; omega)) rfl fun a S => ?_
        refine m_l rfl rfl (fun w H => op_call (wn rfl) rfl rfl S (co_func rfl Try.call13 S rfl) (called_nil _ _) fun u65 w hc a S => ?_)
        have H1 := hc
        have H := H.call1 H1 rfl
        refine m_next H (by repeat (first | exact List.Sublist.refl _ | apply List.Sublist.cons)) ?_
        refine m_l rfl rfl (fun w H => op_call (wn rfl) rfl rfl S (co_func rfl Try.call14 S rfl) (rcalled_nil _ _) fun u72 w hc a S => ?_)
        have H1 := hc
        have H := H.call1 H1 rfl
        refine m_next H (by repeat (first | exact List.Sublist.refl _ | apply List.Sublist.cons)) ?_
        refine m_c rfl rfl (wn rfl) rfl rfl S (fun w => co_func rfl Try.call12 S rfl) (fun w H => ints_spec u65 u72 [] [] _ (H.sl _) (H.sl _)) fun a S => ?_
        refine m_w rfl rfl (wn rfl) rfl rfl S (fun w H => y_not rfl S rfl) fun a S => ?_
        refine m_w rfl rfl (wn rfl) rfl rfl S (fun w H => y_move rfl S rfl) fun a S => ?_
        refine m_w rfl rfl (wg' 75 rfl rfl S rfl (by simp) rfl) rfl rfl S (fun w H => y_move rfl S rfl) fun a S => ?_
        refine m_w rfl rfl (wg' 75 rfl rfl S rfl (by simp) rfl) rfl rfl S (fun w H => y_move rfl S rfl) fun a S => ?_
        refine m_l rfl rfl (fun w H => op_call (wg' 75 rfl rfl S rfl (by simp) rfl) rfl rfl S (co_func rfl Try.call15 S rfl) (served_nil _) fun u77 w hc a S => ?_)
        have H1 := hc
        have H := H.call1 H1 rfl
        refine m_next H (by repeat (first | exact List.Sublist.refl _ | apply List.Sublist.cons)) ?_
        refine m_l rfl rfl (fun w H => op_call (wg' 75 rfl rfl S rfl (by simp) rfl) rfl rfl S (co_func rfl Try.call16 S rfl) (rserved_nil _) fun u79 w hc a S => ?_)
        have H1 := hc
        have H := H.call1 H1 rfl
        refine m_next H (by repeat (first | exact List.Sublist.refl _ | apply List.Sublist.cons)) ?_
        refine m_c rfl rfl (wg' 75 rfl rfl S rfl (by simp) rfl) rfl rfl S (fun w => co_func rfl Try.call12 S rfl) (fun w H => ints_spec u77 u79 [] [] _ (H.sl _) (H.sl _)) fun a S => ?_
        refine m_w rfl rfl (wg' 75 rfl rfl S rfl (by simp) rfl) rfl rfl S (fun w H => y_not rfl S rfl) fun a S => ?_
        refine m_w rfl rfl (wn rfl) rfl rfl S (fun w H => y_or' rfl (by simp) S rfl rfl) fun a S => ?_
        refine m_nil (fun w H => ?_)
        refine n_then ?_
        -- cond 4
        refine c_if S rfl (fun h6 => ?_) (fun h6 => ?_)
        · have h6p := h6; try simp only [Option.isNone_some, Option.isNone_none, Option.isSome_some, Option.isSome_none, false_or, or_false, true_and, and_true, decide_eq_true_eq, decide_eq_false_iff_not, Bool.or_eq_true, Bool.and_eq_true, Bool.or_eq_false_iff, Bool.and_eq_false_iff, Bool.not_eq_true', Bool.not_eq_false', bne_iff_ne, beq_iff_eq, beq_eq_false_iff_ne, bne_eq_false_iff_eq, ne_eq, Decidable.not_not, Int.not_lt, Int.not_le, gt_iff_lt, ge_iff_le, Bool.true_eq_false, Bool.false_eq_true, not_true_eq_false, not_false_eq_true] at h6p
          all_goals (
            exact absurd h6 (by simp))
        · have h6p := h6; try simp only [Option.isNone_some, Option.isNone_none, Option.isSome_some, Option.isSome_none, false_or, or_false, true_and, and_true, decide_eq_true_eq, decide_eq_false_iff_not, Bool.or_eq_true, Bool.and_eq_true, Bool.or_eq_false_iff, Bool.and_eq_false_iff, Bool.not_eq_true', Bool.not_eq_false', bne_iff_ne, beq_iff_eq, beq_eq_false_iff_ne, bne_eq_false_iff_eq, ne_eq, Decidable.not_not, Int.not_lt, Int.not_le, gt_iff_lt, ge_iff_le, Bool.true_eq_false, Bool.false_eq_true, not_true_eq_false, not_false_eq_true] at h6p
          refine g_skip ?_
          refine n_then ?_
          refine g_seq ?_
          cases hb : l[k].out
          · skip
            -- region 13 DRAWS law.go:45
            refine region_st (loud := []) (tails := []) (free := []) [0, 1, 2, 3, 4, 5, 6, 7, 8, 9, 10, 11, 12, 13, 14, 15, 16, 17, 18, 19, 20, 21, 22, 23, 24, 25, 26, 27, 28, 29, 30, 31, 32, 33, 34, 35, 36, 37, 38, 39, 40, 41, 42, 43, 44, 45, 46, 47, 48, 49, 50, 51, 52, 53, 54, 55, 56] [Sl v2 3 Op.enc l] Fmo (by kernel_rfl) (by kernel_rfl) rfl H ?_
            refine m_w rfl rfl (wn rfl) rfl rfl S (fun w H => y_move rfl S rfl) fun a S => ?_
            refine m_w rfl rfl (wn rfl) rfl rfl S (fun w H => y_move rfl S rfl) fun a S => ?_
            refine m_w rfl rfl (wn rfl) rfl rfl S (fun w H => y_iaddrn rfl Try.underlying23 Fsiz35 S H rfl rfl (by first | assumption | omega | (simp only [List.length_append, List.length_take, List.length_drop, List.length_replicate, List.length_set, List.length_map, List.length_cons, List.length_nil]; omega))) fun a S => ?_
            refine m_w rfl rfl (wn rfl) rfl rfl S (fun w H => y_faddr rfl Ffo35_0 S rfl) fun a S => ?_
            refine m_loadsf _ rfl rfl (wn rfl) rfl rfl S rfl Fsca4 rfl (by first | assumption | omega | (simp only [List.length_append, List.length_take, List.length_drop, List.length_replicate, List.length_set, List.length_map, List.length_cons, List.length_nil]; omega)) rfl fun a S => ?_
            rw [hb] at S
            refine m_w rfl rfl (wn rfl) rfl rfl S (fun w H => y_move rfl S rfl) fun a S => ?_
            refine' m_andq (B2 := false) [6, 7, 8, 9, 10, 11, 12, 13, 14, 15, 16, 17, 18, 19, 20] 88 S rfl rfl rfl rfl rfl rfl rfl rfl rfl (fun _ S => (wn rfl)) (fun h kk => absurd h (by simp)) (fun a S => ?_)
            refine m_w rfl rfl (wn rfl) rfl rfl S (fun w H => y_move rfl S rfl) fun a S => ?_
            refine m_w rfl rfl (wg' 105 rfl rfl S rfl rfl rfl) rfl rfl S (fun w H => y_move rfl S rfl) fun a S => ?_
            refine m_w rfl rfl (wg' 105 rfl rfl S rfl rfl rfl) rfl rfl S (fun w H => y_move rfl S rfl) fun a S => ?_
            refine m_w rfl rfl (wg' 105 rfl rfl S rfl rfl rfl) rfl rfl S (fun w H => y_iaddrn rfl Try.underlying23 Fsiz35 S H rfl rfl (by first | assumption | omega | (simp only [List.length_append, List.length_take, List.length_drop, List.length_replicate, List.length_set, List.length_map, List.length_cons, List.length_nil]; omega))) fun a S => ?_
            refine m_w rfl rfl (wg' 105 rfl rfl S rfl rfl rfl) rfl rfl S (fun w H => y_faddr rfl Ffo35_0 S rfl) fun a S => ?_
            refine m_loadsf _ rfl rfl (wg' 105 rfl rfl S rfl rfl rfl) rfl rfl S rfl Fsca4 rfl (by first | assumption | omega | (simp only [List.length_append, List.length_take, List.length_drop, List.length_replicate, List.length_set, List.length_map, List.length_cons, List.length_nil]; omega)) rfl fun a S => ?_
            rw [hb] at S
            refine m_w rfl rfl (wg' 105 rfl rfl S rfl rfl rfl) rfl rfl S (fun w H => y_not rfl S rfl) fun a S => ?_
            refine m_w rfl rfl (wg' 105 rfl rfl S rfl rfl rfl) rfl rfl S (fun w H => y_move rfl S rfl) fun a S => ?_
            refine m_w rfl rfl (wg' 112 rfl rfl S rfl rfl rfl) rfl rfl S (fun w H => y_move rfl S rfl) fun a S => ?_
            refine m_w rfl rfl (wg' 112 rfl rfl S rfl rfl rfl) rfl rfl S (fun w H => y_move rfl S rfl) fun a S => ?_
            refine m_w rfl rfl (wg' 112 rfl rfl S rfl rfl rfl) rfl rfl S (fun w H => y_move rfl S rfl) fun a S => ?_
            refine m_w rfl rfl (wg' 112 rfl rfl S rfl rfl rfl) rfl rfl S (fun w H => y_iaddrn rfl Try.underlying23 Fsiz35 S H rfl rfl (by first | assumption | omega | (simp only [List.length_append, List.length_take, List.length_drop, List.length_replicate, List.length_set, List.length_map, List.length_cons, List.length_nil]; omega))) fun a S => ?_
            refine m_w rfl rfl (wg' 112 rfl rfl S rfl rfl rfl) rfl rfl S (fun w H => y_faddr rfl Ffo35_1 S rfl) fun a S => ?_
            refine m_loadsf _ rfl rfl (wg' 112 rfl rfl S rfl rfl rfl) rfl rfl S rfl Fsca3 rfl (by first | assumption | omega | (simp only [List.length_append, List.length_take, List.length_drop, List.length_replicate, List.length_set, List.length_map, List.length_cons, List.length_nil]; omega)) rfl fun a S => ?_
            refine m_w rfl rfl (wg' 112 rfl rfl S rfl rfl rfl) rfl rfl S (fun w H => y_move rfl S rfl) fun a S => ?_
            refine m_w rfl rfl (wg' 112 rfl rfl S rfl rfl rfl) rfl rfl S (fun w H => y_move rfl S rfl) fun a S => ?_
            refine m_w rfl rfl (wg' 112 rfl rfl S rfl rfl rfl) rfl rfl S (fun w H => y_iaddrn rfl Try.underlying23 Fsiz35 S H rfl rfl (by first | assumption | omega | (simp only [List.length_append, List.length_take, List.length_drop, List.length_replicate, List.length_set, List.length_map, List.length_cons, List.length_nil]; omega))) fun a S => ?_
            refine m_w rfl rfl (wg' 112 rfl rfl S rfl rfl rfl) rfl rfl S (fun w H => y_faddr rfl Ffo35_2 S rfl) fun a S => ?_
            refine m_loadsf _ rfl rfl (wg' 112 rfl rfl S rfl rfl rfl) rfl rfl S rfl Fsca3 rfl (by first | assumption | omega | (simp only [List.length_append, List.length_take, List.length_drop, List.length_replicate, List.length_set, List.length_map, List.length_cons, List.length_nil]; omega)) rfl fun a S => ?_
            refine m_c rfl rfl (wg' 112 rfl rfl S rfl rfl rfl) rfl rfl S (fun w => co_func rfl Try.call19 S rfl) (fun w H => serve_nil _ _ _) fun a S => ?_
            refine m_w rfl rfl (wg' 112 rfl rfl S rfl rfl rfl) rfl rfl S (fun w H => y_move rfl S rfl) fun a S => ?_
            refine m_w rfl rfl (wg' 112 rfl rfl S rfl rfl rfl) rfl rfl S (fun w H => y_move rfl S rfl) fun a S => ?_
            refine m_w rfl rfl (wg' 112 rfl rfl S rfl rfl rfl) rfl rfl S (fun w H => y_move rfl S rfl) fun a S => ?_
            refine m_w rfl rfl (wg' 112 rfl rfl S rfl rfl rfl) rfl rfl S (fun w H => y_iaddrn rfl Try.underlying23 Fsiz35 S H rfl rfl (by first | assumption | omega | (simp only [List.length_append, List.length_take, List.length_drop, List.length_replicate, List.length_set, List.length_map, List.length_cons, List.length_nil]; omega))) fun a S => ?_
            refine m_w rfl rfl (wg' 112 rfl rfl S rfl rfl rfl) rfl rfl S (fun w H => y_faddr rfl Ffo35_1 S rfl) fun a S => ?_
            refine m_loadsf _ rfl rfl (wg' 112 rfl rfl S rfl rfl rfl) rfl rfl S rfl Fsca3 rfl (by first | assumption | omega | (simp only [List.length_append, List.length_take, List.length_drop, List.length_replicate, List.length_set, List.length_map, List.length_cons, List.length_nil]; omega)) rfl fun a S => ?_
            refine m_w rfl rfl (wg' 112 rfl rfl S rfl rfl rfl) rfl rfl S (fun w H => y_move rfl S rfl) fun a S => ?_
            refine m_w rfl rfl (wg' 112 rfl rfl S rfl rfl rfl) rfl rfl S (fun w H => y_move rfl S rfl) fun a S => ?_
            refine m_w rfl rfl (wg' 112 rfl rfl S rfl rfl rfl) rfl rfl S (fun w H => y_iaddrn rfl Try.underlying23 Fsiz35 S H rfl rfl (by first | assumption | omega | (simp only [List.length_append, List.length_take, List.length_drop, List.length_replicate, List.length_set, List.length_map, List.length_cons, List.length_nil]; omega))) fun a S => ?_
            refine m_w rfl rfl (wg' 112 rfl rfl S rfl rfl rfl) rfl rfl S (fun w H => y_faddr rfl Ffo35_2 S rfl) fun a S => ?_
            refine m_loadsf _ rfl rfl (wg' 112 rfl rfl S rfl rfl rfl) rfl rfl S rfl Fsca3 rfl (by first | assumption | omega | (simp only [List.length_append, List.length_take, List.length_drop, List.length_replicate, List.length_set, List.length_map, List.length_cons, List.length_nil]; omega)) rfl fun a S => ?_
            refine m_c rfl rfl (wg' 112 rfl rfl S rfl rfl rfl) rfl rfl S (fun w => co_func rfl Try.call20 S rfl) (fun w H => rserve_nil _ _ _) fun a S => ?_
            refine m_w rfl rfl (wg' 112 rfl rfl S rfl rfl rfl) rfl rfl S (fun w H => y_bin rfl S rfl rfl rfl) fun a S => ?_
            refine m_w rfl rfl (wg' 105 rfl rfl S rfl rfl rfl) rfl rfl S (fun w H => y_and' rfl rfl S rfl rfl) fun a S => ?_
            refine m_w rfl rfl (wn rfl) rfl rfl S (fun w H => y_or' rfl rfl S rfl rfl) fun a S => ?_
            refine m_nil (fun w H => ?_)
            refine n_then ?_
            -- cond 5
            refine c_if S rfl (fun h7 => ?_) (fun h7 => ?_)
            · have h7p := h7; try simp only [Option.isNone_some, Option.isNone_none, Option.isSome_some, Option.isSome_none, false_or, or_false, true_and, and_true, decide_eq_true_eq, decide_eq_false_iff_not, Bool.or_eq_true, Bool.and_eq_true, Bool.or_eq_false_iff, Bool.and_eq_false_iff, Bool.not_eq_true', Bool.not_eq_false', bne_iff_ne, beq_iff_eq, beq_eq_false_iff_ne, bne_eq_false_iff_eq, ne_eq, Decidable.not_not, Int.not_lt, Int.not_le, gt_iff_lt, ge_iff_le, Bool.true_eq_false, Bool.false_eq_true, not_true_eq_false, not_false_eq_true] at h7p
              all_goals (
                exact absurd h7 (by simp))
            · have h7p := h7; try simp only [Option.isNone_some, Option.isNone_none, Option.isSome_some, Option.isSome_none, false_or, or_false, true_and, and_true, decide_eq_true_eq, decide_eq_false_iff_not, Bool.or_eq_true, Bool.and_eq_true, Bool.or_eq_false_iff, Bool.and_eq_false_iff, Bool.not_eq_true', Bool.not_eq_false', bne_iff_ne, beq_iff_eq, beq_eq_false_iff_ne, bne_eq_false_iff_eq, ne_eq, Decidable.not_not, Int.not_lt, Int.not_le, gt_iff_lt, ge_iff_le, Bool.true_eq_false, Bool.false_eq_true, not_true_eq_false, not_false_eq_true] at h7p
              refine g_skip ?_
              refine n_block ?_
              refine n_then ?_
              -- region 10 law.go:41
              refine g_region ?_
              refine wl_of (op_y (wn rfl) rfl rfl S (y_move rfl S rfl) fun a S => ?_)
              refine wl_of (op_y (wn rfl) rfl rfl S (y_add rfl S rfl rfl (by omega)) fun a S => ?_)
              refine wl_of (op_y (wn rfl) rfl rfl S (y_assign rfl S rfl) fun a S => ?_)
              refine gl_nil ?_
              refine n_then ?_
              exact ⟨k + 1, S.nil.cons S 16 rfl, (((S.nil.cons S 4 rfl).cons S 11 rfl).cons S 12 rfl).cons S 14 rfl, ⟨by omega, H.take [Sl v2 3 Op.enc l, Sl v1 1 encI order]⟩, by omega⟩
          · skip
            -- region 13 DRAWS law.go:45
            refine region_st (loud := []) (tails := []) (free := []) [0, 1, 2, 3, 4, 5, 6, 7, 8, 9, 10, 11, 12, 13, 14, 15, 16, 17, 18, 19, 20, 21, 22, 23, 24, 25, 26, 27, 28, 29, 30, 31, 32, 33, 34, 35, 36, 37, 38, 39, 40, 41, 42, 43, 44, 45, 46, 47, 48, 49, 50, 51, 52, 53, 54, 55, 56] [Sl v2 3 Op.enc l] Fmo (by kernel_rfl) (by kernel_rfl) rfl H ?_
            refine m_w rfl rfl (wn rfl) rfl rfl S (fun w H => y_move rfl S rfl) fun a S => ?_
            refine m_w rfl rfl (wn rfl) rfl rfl S (fun w H => y_move rfl S rfl) fun a S => ?_
            refine m_w rfl rfl (wn rfl) rfl rfl S (fun w H => y_iaddrn rfl Try.underlying23 Fsiz35 S H rfl rfl (by first | assumption | omega | (simp only [List.length_append, List.length_take, List.length_drop, List.length_replicate, List.length_set, List.length_map, List.length_cons, List.length_nil]; omega))) fun a S => ?_
            refine m_w rfl rfl (wn rfl) rfl rfl S (fun w H => y_faddr rfl Ffo35_0 S rfl) fun a S => ?_
            refine m_loadsf _ rfl rfl (wn rfl) rfl rfl S rfl Fsca4 rfl (by first | assumption | omega | (simp only [List.length_append, List.length_take, List.length_drop, List.length_replicate, List.length_set, List.length_map, List.length_cons, List.length_nil]; omega)) rfl fun a S => ?_
            rw [hb] at S
            refine m_w rfl rfl (wn rfl) rfl rfl S (fun w H => y_move rfl S rfl) fun a S => ?_
            refine m_w rfl rfl (wg' 88 rfl rfl S rfl rfl rfl) rfl rfl S (fun w H => y_move rfl S rfl) fun a S => ?_
            refine m_w rfl rfl (wg' 88 rfl rfl S rfl rfl rfl) rfl rfl S (fun w H => y_move rfl S rfl) fun a S => ?_
            refine m_w rfl rfl (wg' 88 rfl rfl S rfl rfl rfl) rfl rfl S (fun w H => y_move rfl S rfl) fun a S => ?_
            refine m_w rfl rfl (wg' 88 rfl rfl S rfl rfl rfl) rfl rfl S (fun w H => y_iaddrn rfl Try.underlying23 Fsiz35 S H rfl rfl (by first | assumption | omega | (simp only [List.length_append, List.length_take, List.length_drop, List.length_replicate, List.length_set, List.length_map, List.length_cons, List.length_nil]; omega))) fun a S => ?_
            refine m_w rfl rfl (wg' 88 rfl rfl S rfl rfl rfl) rfl rfl S (fun w H => y_faddr rfl Ffo35_1 S rfl) fun a S => ?_
            refine m_loadsf _ rfl rfl (wg' 88 rfl rfl S rfl rfl rfl) rfl rfl S rfl Fsca3 rfl (by first | assumption | omega | (simp only [List.length_append, List.length_take, List.length_drop, List.length_replicate, List.length_set, List.length_map, List.length_cons, List.length_nil]; omega)) rfl fun a S => ?_
            refine m_c rfl rfl (wg' 88 rfl rfl S rfl rfl rfl) rfl rfl S (fun w => co_func rfl Try.call17 S rfl) (fun w H => leave_nil _ _) fun a S => ?_
            refine m_w rfl rfl (wg' 88 rfl rfl S rfl rfl rfl) rfl rfl S (fun w H => y_move rfl S rfl) fun a S => ?_
            refine m_w rfl rfl (wg' 88 rfl rfl S rfl rfl rfl) rfl rfl S (fun w H => y_move rfl S rfl) fun a S => ?_
            refine m_w rfl rfl (wg' 88 rfl rfl S rfl rfl rfl) rfl rfl S (fun w H => y_move rfl S rfl) fun a S => ?_
            refine m_w rfl rfl (wg' 88 rfl rfl S rfl rfl rfl) rfl rfl S (fun w H => y_iaddrn rfl Try.underlying23 Fsiz35 S H rfl rfl (by first | assumption | omega | (simp only [List.length_append, List.length_take, List.length_drop, List.length_replicate, List.length_set, List.length_map, List.length_cons, List.length_nil]; omega))) fun a S => ?_
            refine m_w rfl rfl (wg' 88 rfl rfl S rfl rfl rfl) rfl rfl S (fun w H => y_faddr rfl Ffo35_1 S rfl) fun a S => ?_
            refine m_loadsf _ rfl rfl (wg' 88 rfl rfl S rfl rfl rfl) rfl rfl S rfl Fsca3 rfl (by first | assumption | omega | (simp only [List.length_append, List.length_take, List.length_drop, List.length_replicate, List.length_set, List.length_map, List.length_cons, List.length_nil]; omega)) rfl fun a S => ?_
            refine m_c rfl rfl (wg' 88 rfl rfl S rfl rfl rfl) rfl rfl S (fun w => co_func rfl Try.call18 S rfl) (fun w H => rleave_nil _ _) fun a S => ?_
            refine m_w rfl rfl (wg' 88 rfl rfl S rfl rfl rfl) rfl rfl S (fun w H => y_bin rfl S rfl rfl rfl) fun a S => ?_
            refine m_w rfl rfl (wn rfl) rfl rfl S (fun w H => y_and' rfl rfl S rfl rfl) fun a S => ?_
            refine m_w rfl rfl (wn rfl) rfl rfl S (fun w H => y_move rfl S rfl) fun a S => ?_
            refine m_w rfl rfl (wg' 105 rfl rfl S rfl (by simp) rfl) rfl rfl S (fun w H => y_move rfl S rfl) fun a S => ?_
            refine m_w rfl rfl (wg' 105 rfl rfl S rfl (by simp) rfl) rfl rfl S (fun w H => y_move rfl S rfl) fun a S => ?_
            refine m_w rfl rfl (wg' 105 rfl rfl S rfl (by simp) rfl) rfl rfl S (fun w H => y_iaddrn rfl Try.underlying23 Fsiz35 S H rfl rfl (by first | assumption | omega | (simp only [List.length_append, List.length_take, List.length_drop, List.length_replicate, List.length_set, List.length_map, List.length_cons, List.length_nil]; omega))) fun a S => ?_
            refine m_w rfl rfl (wg' 105 rfl rfl S rfl (by simp) rfl) rfl rfl S (fun w H => y_faddr rfl Ffo35_0 S rfl) fun a S => ?_
            refine m_loadsf _ rfl rfl (wg' 105 rfl rfl S rfl (by simp) rfl) rfl rfl S rfl Fsca4 rfl (by first | assumption | omega | (simp only [List.length_append, List.length_take, List.length_drop, List.length_replicate, List.length_set, List.length_map, List.length_cons, List.length_nil]; omega)) rfl fun a S => ?_
            rw [hb] at S
            refine m_w rfl rfl (wg' 105 rfl rfl S rfl (by simp) rfl) rfl rfl S (fun w H => y_not rfl S rfl) fun a S => ?_
            refine m_w rfl rfl (wg' 105 rfl rfl S rfl (by simp) rfl) rfl rfl S (fun w H => y_move rfl S rfl) fun a S => ?_
            refine' m_andq (B2 := false) [30, 31, 32, 33, 34, 35, 36, 37, 38, 39, 40, 41, 42, 43, 44, 45, 46, 47, 48, 49, 50, 51, 52, 53, 54] 112 S rfl rfl rfl rfl rfl rfl rfl rfl rfl (fun _ S => (wg' 105 rfl rfl S rfl (by simp) rfl)) (fun h kk => absurd h (by simp)) (fun a S => ?_)
            refine m_w rfl rfl (wn rfl) rfl rfl S (fun w H => y_or' rfl (by simp) S rfl rfl) fun a S => ?_
            refine m_nil (fun w H => ?_)
            refine n_then ?_
            -- cond 5
            refine c_if S rfl (fun h8 => ?_) (fun h8 => ?_)
            · have h8p := h8; try simp only [Option.isNone_some, Option.isNone_none, Option.isSome_some, Option.isSome_none, false_or, or_false, true_and, and_true, decide_eq_true_eq, decide_eq_false_iff_not, Bool.or_eq_true, Bool.and_eq_true, Bool.or_eq_false_iff, Bool.and_eq_false_iff, Bool.not_eq_true', Bool.not_eq_false', bne_iff_ne, beq_iff_eq, beq_eq_false_iff_ne, bne_eq_false_iff_eq, ne_eq, Decidable.not_not, Int.not_lt, Int.not_le, gt_iff_lt, ge_iff_le, Bool.true_eq_false, Bool.false_eq_true, not_true_eq_false, not_false_eq_true] at h8p
              all_goals (
                exact absurd h8 (by simp))
            · have h8p := h8; try simp only [Option.isNone_some, Option.isNone_none, Option.isSome_some, Option.isSome_none, false_or, or_false, true_and, and_true, decide_eq_true_eq, decide_eq_false_iff_not, Bool.or_eq_true, Bool.and_eq_true, Bool.or_eq_false_iff, Bool.and_eq_false_iff, Bool.not_eq_true', Bool.not_eq_false', bne_iff_ne, beq_iff_eq, beq_eq_false_iff_ne, bne_eq_false_iff_eq, ne_eq, Decidable.not_not, Int.not_lt, Int.not_le, gt_iff_lt, ge_iff_le, Bool.true_eq_false, Bool.false_eq_true, not_true_eq_false, not_false_eq_true] at h8p
              refine g_skip ?_
              refine n_block ?_
              refine n_then ?_
              -- region 10 law.go:41
              refine g_region ?_
              refine wl_of (op_y (wn rfl) rfl rfl S (y_move rfl S rfl) fun a S => ?_)
              refine wl_of (op_y (wn rfl) rfl rfl S (y_add rfl S rfl rfl (by omega)) fun a S => ?_)
              refine wl_of (op_y (wn rfl) rfl rfl S (y_assign rfl S rfl) fun a S => ?_)
              refine gl_nil ?_
              refine n_then ?_
              exact ⟨k + 1, S.nil.cons S 16 rfl, (((S.nil.cons S 4 rfl).cons S 11 rfl).cons S 12 rfl).cons S 14 rfl, ⟨by omega, H.take [Sl v2 3 Op.enc l, Sl v1 1 encI order]⟩, by omega⟩
      · have h5p := h5; try simp only [Option.isNone_some, Option.isNone_none, Option.isSome_some, Option.isSome_none, false_or, or_false, true_and, and_true, decide_eq_true_eq, decide_eq_false_iff_not, Bool.or_eq_true, Bool.and_eq_true, Bool.or_eq_false_iff, Bool.and_eq_false_iff, Bool.not_eq_true', Bool.not_eq_false', bne_iff_ne, beq_iff_eq, beq_eq_false_iff_ne, bne_eq_false_iff_eq, ne_eq, Decidable.not_not, Int.not_lt, Int.not_le, gt_iff_lt, ge_iff_le, Bool.true_eq_false, Bool.false_eq_true, not_true_eq_false, not_false_eq_true] at h5p
        refine g_exit ?_
        refine x_then (x_then (x_eq ?_))
        refine n_then ?_
        have S := ((S.nil.cons S 11 rfl).cons S 12 rfl).cons S 14 rfl
        refine g_seq ?_
        -- region 15 law.go:49
        refine g_region ?_
        refine wl_of (op_y (wn rfl) rfl rfl S (y_move rfl S rfl) fun a S => ?_)
        refine wl_of (op_y (wn rfl) rfl rfl S (y_move rfl S rfl) fun a S => ?_)
        refine wl_of (op_y (wg' 141 rfl rfl S rfl rfl rfl) rfl rfl S (y_move rfl S rfl) fun a S => ?_)
        refine wl_of (op_call (wg' 141 rfl rfl S rfl rfl rfl) rfl rfl S (co_func rfl Try.call15 S rfl) (served_nil _) fun u143 w hc a S => ?_)
        have H1 := hc
        have H := H.call1 H1 rfl
        refine wl_of (op_y (wg' 141 rfl rfl S rfl rfl rfl) rfl rfl S (y_move rfl S rfl) fun a S => ?_)
        refine wl_of (op_call (wg' 141 rfl rfl S rfl rfl rfl) rfl rfl S (co_func rfl Try.call16 S rfl) (rserved_nil _) fun u145 w hc a S => ?_)
        have H1 := hc
        have H := H.call1 H1 rfl
        refine wl_of (op_call (wg' 141 rfl rfl S rfl rfl rfl) rfl rfl S (co_func rfl Try.call12 S rfl) (ints_spec u143 u145 [] [] _ (H.sl _) (H.sl _)) fun v w hc a S => ?_)
        obtain ⟨rfl, he⟩ := hc
        have H := H.ext he
        refine wl_of (op_y (wn rfl) rfl rfl S (y_and' rfl rfl S rfl rfl) fun a S => ?_)
        refine wl_of (op_y (wn rfl) rfl rfl S (y_assign rfl S rfl) fun a S => ?_)
        refine gl_nil ?_
        refine n_then ?_
        have S := S.nil.cons S 10 rfl
        refine g_ret ?_
        refine ret1 rfl S rfl ?_
        exact ⟨by simp, H.toExt⟩

end Go.Proofs.Ytgplcgfdaoenfaa
