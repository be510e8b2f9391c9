/- The walks. No condition. -/
import Derived.Test.YtgplcgfdaoenfaaChecked
import Derived.Test.YtgplcgfdaoenfaaGwCut
import Derived.Test.YtgplcgfdaoenfaaFacts
import Derived.Test.YtgplcgfdaoenfaaPlain
import Derived.Test.YtgplcgfdaoenfaaW12
namespace Go.Proofs.Ytgplcgfdaoenfaa
open Go Go.Gw
set_option linter.unusedVariables false
set_option linter.unusedSimpArgs false
set_option maxHeartbeats 4000000 in
/-- foyer/foyerlaw21.RoomServes -/
theorem law3_ok (v1 v2 : Value) (order : List Int) (width span from_ : Int) (l : List Op) (w0 : World) (hv1 : IsSl w0 v1 1 encI order) (hv2 : IsSl w0 v2 3 Op.enc l) (i now : Int) (hok : newOK order width span from_ = true) (hl1 : order.length ≤ 60) (hl2 : l.length ≤ 40) :
    Ret Try.prog 5 #[v1, .int .i64 width, .int .i64 span, .int .i64 from_, v2, .int .i64 i, .int .i64 now] w0 (fun v w => v = .bool true ∧ Ext w0 w) := by
  refine ret_of_wp (nt := 106) Try.func5 rfl rfl rfl (fl := [(0, v1), (1, .int .i64 width), (2, .int .i64 span), (3, .int .i64 from_), (4, v2), (5, .int .i64 i), (6, .int .i64 now)]) rfl (fun a S => ?_)
  have H := HSat.start w0
  have H := H.ro0 (Sl v1 1 encI order) rfl (hv1)
  have H := H.ro0 (Sl v2 3 Op.enc l) rfl (hv2)
  refine g_seq ?_
  -- region 0 law.go:103
  refine g_region ?_
  refine wl_of (op_y (wn rfl) rfl rfl S (y_assign rfl S rfl) fun a S => ?_)
  refine gl_nil ?_
  refine n_then ?_
  refine g_seq ?_
  -- region 1 law.go:104
  refine g_region ?_
  refine wl_of (op_call (wn rfl) rfl rfl S (co_func rfl Try.call9 S rfl) (head_spec _) fun v w hc a S => ?_)
  obtain ⟨rfl, he⟩ := hc
  have H := H.ext he
  refine wl_of (op_y (wn rfl) rfl rfl S (y_assign rfl S rfl) fun a S => ?_)
  refine gl_nil ?_
  refine n_then ?_
  refine g_seq ?_
  -- region 2 law.go:105
  refine g_region ?_
  refine wl_of (op_y (wn rfl) rfl rfl S (y_move rfl S rfl) fun a S => ?_)
  refine wl_of (op_y (wn rfl) rfl rfl S (y_move rfl S rfl) fun a S => ?_)
  refine wl_of (op_y (wn rfl) rfl rfl S (y_move rfl S rfl) fun a S => ?_)
  refine wl_of (op_y (wn rfl) rfl rfl S (y_move rfl S rfl) fun a S => ?_)
  refine wl_of (op_y (wn rfl) rfl rfl S (y_move rfl S rfl) fun a S => ?_)
  refine wl_of (op_call (wn rfl) rfl rfl S (co_func rfl Try.call21 S rfl) (made_ok v1 v2 order width span from_ l _ (H.sl v1) (H.sl v2) hok hl1 hl2) fun v w hc a S => ?_)
  obtain ⟨b, ms, mp, vo, v0, rfl, H1⟩ := hc
  have H := H.call1 H1 rfl
  obtain ⟨r, hr⟩ : ∃ r, r = (madeRM order width span from_ l) := ⟨_, rfl⟩
  have hwr := made_wf hok l
  have har := made_alike order width span from_ l
  rw [← hr] at H hwr har
  refine wl_of (op_y (wn rfl) rfl rfl S (y_assign rfl S rfl) fun a S => ?_)
  refine gl_nil ?_
  refine n_then ?_
  have S := ((((S.nil.cons S 6 rfl).cons S 5 rfl).cons S 14 rfl).cons S 15 rfl).cons S 16 rfl
  refine g_seq ?_
  refine g_seq ?_
  -- region 3 law.go:106
  refine g_region ?_
  refine wl_of (op_y (wn rfl) rfl rfl S (y_move rfl S rfl) fun a S => ?_)
  refine wl_of (op_y (wn rfl) rfl rfl S (y_eqp rfl Try.underlying25 S rfl rfl) fun a S => ?_)
  refine gl_nil ?_
  refine n_then ?_
  -- cond 1
  refine c_if S rfl (fun h1 => ?_) (fun h1 => ?_)
  · have h1p := h1; try simp only [Option.isNone_some, Option.isNone_none, Option.isSome_some, Option.isSome_none, false_or, or_false, true_and, and_true, decide_eq_true_eq, decide_eq_false_iff_not, Bool.or_eq_true, Bool.and_eq_true, Bool.or_eq_false_iff, Bool.and_eq_false_iff, Bool.not_eq_true', Bool.not_eq_false', bne_iff_ne, beq_iff_eq, beq_eq_false_iff_ne, bne_eq_false_iff_eq, ne_eq, Decidable.not_not, Int.not_lt, Int.not_le, gt_iff_lt, ge_iff_le, Bool.true_eq_false, Bool.false_eq_true, not_true_eq_false, not_false_eq_true] at h1p
    all_goals (
      exact absurd h1 (by simp))
  · have h1p := h1; try simp only [Option.isNone_some, Option.isNone_none, Option.isSome_some, Option.isSome_none, false_or, or_false, true_and, and_true, decide_eq_true_eq, decide_eq_false_iff_not, Bool.or_eq_true, Bool.and_eq_true, Bool.or_eq_false_iff, Bool.and_eq_false_iff, Bool.not_eq_true', Bool.not_eq_false', bne_iff_ne, beq_iff_eq, beq_eq_false_iff_ne, bne_eq_false_iff_eq, ne_eq, Decidable.not_not, Int.not_lt, Int.not_le, gt_iff_lt, ge_iff_le, Bool.true_eq_false, Bool.false_eq_true, not_true_eq_false, not_false_eq_true] at h1p
    have hsl := hwr.served
    refine g_skip ?_
    refine n_then ?_
    refine g_seq ?_
    -- region 5 law.go:109
    refine g_region ?_
    refine wl_of (op_y (wn rfl) rfl rfl S (y_move rfl S rfl) fun a S => ?_)
    refine wl_of (op_y (wn rfl) rfl rfl S (y_move rfl S rfl) fun a S => ?_)
    refine wl_of (op_call (wn rfl) rfl rfl S (co_func rfl Try.call13 S rfl) (called_spec b ms mp vo v0 r now (l.length) _ (H.front (RoomA b ms mp vo r v0)) hwr) fun u33 w hc a S => ?_)
    have H1 := hc
    have H := H.call1 H1 rfl
    refine wl_of (op_y (wn rfl) rfl rfl S (y_move rfl S rfl) fun a S => ?_)
    refine wl_of (op_call (wn rfl) rfl rfl S (co_func rfl Try.call15 S rfl) (served_spec b ms mp vo v0 r (l.length) _ (H.front (RoomA b ms mp vo r v0)) hwr (by omega)) fun u35 w hc a S => ?_)
    have H1 := hc
    have H := H.call1 H1 rfl
    refine wl_of (op_y (wn rfl) rfl rfl S (y_assign rfl S rfl) fun a S => ?_)
    refine wl_of (op_y (wn rfl) rfl rfl S (y_assign rfl S rfl) fun a S => ?_)
    refine gl_nil ?_
    refine n_then ?_
    have S := ((((((S.nil.cons S 6 rfl).cons S 5 rfl).cons S 14 rfl).cons S 15 rfl).cons S 16 rfl).cons S 17 rfl).cons S 18 rfl
    refine g_seq ?_
    -- region 6 law.go:110
    refine g_region ?_
    refine wl_of (op_buildSlice (wn rfl) rfl rfl rfl Try.underlying22 Finf3 S H (idx := []) rfl rfl rfl (z := []) (by kernel_rfl) (cs := []) rfl fun b36 a w S H => ?_)
    have H := H.celO [] encI 1 (m := 0) rfl (by simp) rfl (by omega)
    refine wl_of (op_y (wn rfl) rfl rfl S (y_move rfl S rfl) fun a S => ?_)
    refine wl_of (op_appendT (wn rfl) rfl rfl rfl Try.underlying22 Finf3 rfl rfl S H rfl rfl (by simp [encI, Value.oneCell']) (by first | assumption | omega | (simp only [List.length_append, List.length_take, List.length_drop, List.length_replicate, List.length_set, List.length_map, List.length_cons, List.length_nil]; omega)) (by first | assumption | omega | (simp only [List.length_append, List.length_take, List.length_drop, List.length_replicate, List.length_set, List.length_map, List.length_cons, List.length_nil]; omega)) fun u38 a w S H => ?_)
    refine wl_of (op_y (wn rfl) rfl rfl S (y_assign rfl S rfl) fun a S => ?_)
    refine gl_nil ?_
    refine n_then ?_
    have S := ((((((S.nil.cons S 6 rfl).cons S 5 rfl).cons S 14 rfl).cons S 15 rfl).cons S 16 rfl).cons S 17 rfl).cons S 19 rfl
    refine g_seq ?_
    -- region 7 law.go:111
    refine g_region ?_
    refine wl_of (op_y (wn rfl) rfl rfl S (y_move rfl S rfl) fun a S => ?_)
    refine wl_of (op_y (wn rfl) rfl rfl S (y_move rfl S rfl) fun a S => ?_)
    refine wl_of (op_y (wn rfl) rfl rfl S (y_move rfl S rfl) fun a S => ?_)
    refine wl_of (op_call (wn rfl) rfl rfl S (co_func rfl Try.call19 S rfl) (Ret.atE (x := RoomA b ms mp vo r v0) H (fun H => serve_spec b ms mp vo v0 r i now l.length _ H hwr (by omega))) fun v w hc a S => ?_)
    obtain ⟨rfl, v3, H⟩ := hc
    have hsl := hwr.served
    refine wl_of (op_y (wn rfl) rfl rfl S (y_assign rfl S rfl) fun a S => ?_)
    refine gl_nil ?_
    refine n_then ?_
    have S := (((((((S.nil.cons S 6 rfl).cons S 5 rfl).cons S 14 rfl).cons S 15 rfl).cons S 16 rfl).cons S 17 rfl).cons S 19 rfl).cons S 20 rfl
    refine g_seq ?_
    refine g_seq ?_
    -- region 8 law.go:112
    refine g_region ?_
    refine wl_of (op_y (wn rfl) rfl rfl S (y_move rfl S rfl) fun a S => ?_)
    refine wl_of (op_y (wn rfl) rfl rfl S (y_bin rfl S rfl rfl rfl) fun a S => ?_)
    refine wl_of (op_y (wn rfl) rfl rfl S (y_move rfl S rfl) fun a S => ?_)
    refine wl_of (op_y (wn rfl) rfl rfl S (y_move rfl S rfl) fun a S => ?_)
    refine wl_of (op_call (wn rfl) rfl rfl S (co_func rfl Try.call22 S rfl) (in_spec u33 (called r now) i _ (H.sl u33)) fun v w hc a S => ?_)
    obtain ⟨rfl, he⟩ := hc
    have H := H.ext he
    refine wl_of (op_y (wn rfl) rfl rfl S (y_neb rfl Try.underlying4 S rfl rfl) fun a S => ?_)
    refine gl_nil ?_
    refine n_then ?_
    have S := ((((((((S.nil.cons S 6 rfl).cons S 5 rfl).cons S 14 rfl).cons S 15 rfl).cons S 16 rfl).cons S 17 rfl).cons S 19 rfl).cons S 20 rfl).cons S 48 rfl
    -- cond 2
    refine c_if S rfl (fun h2 => ?_) (fun h2 => ?_)
    · have h2p := h2; try simp only [Option.isNone_some, Option.isNone_none, Option.isSome_some, Option.isSome_none, false_or, or_false, true_and, and_true, decide_eq_true_eq, decide_eq_false_iff_not, Bool.or_eq_true, Bool.and_eq_true, Bool.or_eq_false_iff, Bool.and_eq_false_iff, Bool.not_eq_true', Bool.not_eq_false', bne_iff_ne, beq_iff_eq, beq_eq_false_iff_ne, bne_eq_false_iff_eq, ne_eq, Decidable.not_not, Int.not_lt, Int.not_le, gt_iff_lt, ge_iff_le, Bool.true_eq_false, Bool.false_eq_true, not_true_eq_false, not_false_eq_true] at h2p
      all_goals (
        exfalso
        have hq := serve_zero hwr i now
        by_cases h0 : (serve r i now).1 = 0
        · have hm := hq.1 h0; simp [h0, hm] at h2
        · have hm : ¬ i ∈ called r now := fun x => h0 (hq.2 x)
          simp [h0, hm] at h2)
    · have h2p := h2; try simp only [Option.isNone_some, Option.isNone_none, Option.isSome_some, Option.isSome_none, false_or, or_false, true_and, and_true, decide_eq_true_eq, decide_eq_false_iff_not, Bool.or_eq_true, Bool.and_eq_true, Bool.or_eq_false_iff, Bool.and_eq_false_iff, Bool.not_eq_true', Bool.not_eq_false', bne_iff_ne, beq_iff_eq, beq_eq_false_iff_ne, bne_eq_false_iff_eq, ne_eq, Decidable.not_not, Int.not_lt, Int.not_le, gt_iff_lt, ge_iff_le, Bool.true_eq_false, Bool.false_eq_true, not_true_eq_false, not_false_eq_true] at h2p
      refine g_skip ?_
      refine n_then ?_
      refine g_seq ?_
      refine g_seq ?_
      -- region 10 law.go:115
      refine g_region ?_
      refine wl_of (op_y (wn rfl) rfl rfl S (y_move rfl S rfl) fun a S => ?_)
      refine wl_of (op_y (wn rfl) rfl rfl S (y_bin rfl S rfl rfl rfl) fun a S => ?_)
      refine gl_nil ?_
      refine n_then ?_
      -- cond 3
      refine c_if S rfl (fun h3 => ?_) (fun h3 => ?_)
      · have h3p := h3; try simp only [Option.isNone_some, Option.isNone_none, Option.isSome_some, Option.isSome_none, false_or, or_false, true_and, and_true, decide_eq_true_eq, decide_eq_false_iff_not, Bool.or_eq_true, Bool.and_eq_true, Bool.or_eq_false_iff, Bool.and_eq_false_iff, Bool.not_eq_true', Bool.not_eq_false', bne_iff_ne, beq_iff_eq, beq_eq_false_iff_ne, bne_eq_false_iff_eq, ne_eq, Decidable.not_not, Int.not_lt, Int.not_le, gt_iff_lt, ge_iff_le, Bool.true_eq_false, Bool.false_eq_true, not_true_eq_false, not_false_eq_true] at h3p
        have hne : (serve r i now).1 ≠ 0 := by simpa using h3
        rw [serve_same r i now hne] at H
        refine g_seq ?_
        -- region 11 law.go:116
        refine g_region ?_
        refine wl_of (op_y (wn rfl) rfl rfl S (y_move rfl S rfl) fun a S => ?_)
        refine wl_of (op_y (wn rfl) rfl rfl S (y_move rfl S rfl) fun a S => ?_)
        refine wl_of (op_y (wg' 52 rfl rfl S rfl rfl rfl) rfl rfl S (y_move rfl S rfl) fun a S => ?_)
        refine wl_of (op_y (wg' 52 rfl rfl S rfl rfl rfl) rfl rfl S (y_move rfl S rfl) fun a S => ?_)
        refine wl_of (op_call (wg' 52 rfl rfl S rfl rfl rfl) rfl rfl S (co_func rfl Try.call13 S rfl) (called_spec b ms mp vo v3 r now (l.length) _ (H.front (RoomA b ms mp vo r v3)) hwr) fun u55 w hc a S => ?_)
        have H1 := hc
        have H := H.call1 H1 rfl
        refine wl_of (op_y (wg' 52 rfl rfl S rfl rfl rfl) rfl rfl S (y_move rfl S rfl) fun a S => ?_)
        refine wl_of (op_call (wg' 52 rfl rfl S rfl rfl rfl) rfl rfl S (co_func rfl Try.call12 S rfl) (ints_spec u55 u33 (called r now) (called r now) _ (H.sl _) (H.sl _)) fun v w hc a S => ?_)
        obtain ⟨rfl, he⟩ := hc
        have H := H.ext he
        refine wl_of (op_y (wn rfl) rfl rfl S (y_and' rfl rfl S rfl rfl) fun a S => ?_)
        refine wl_of (op_y (wn rfl) rfl rfl S (y_move rfl S rfl) fun a S => ?_)
        refine wl_of (op_y (wg' 59 rfl rfl S rfl (by simp) rfl) rfl rfl S (y_move rfl S rfl) fun a S => ?_)
        refine wl_of (op_call (wg' 59 rfl rfl S rfl (by simp) rfl) rfl rfl S (co_func rfl Try.call15 S rfl) (served_spec b ms mp vo v3 r (l.length) _ (H.front (RoomA b ms mp vo r v3)) hwr (by omega)) fun u61 w hc a S => ?_)
        have H1 := hc
        have H := H.call1 H1 rfl
        refine wl_of (op_y (wg' 59 rfl rfl S rfl (by simp) rfl) rfl rfl S (y_move rfl S rfl) fun a S => ?_)
        refine wl_of (op_call (wg' 59 rfl rfl S rfl (by simp) rfl) rfl rfl S (co_func rfl Try.call12 S rfl) (ints_spec u61 u38 r.served ([] ++ r.served) _ (H.sl _) (H.sl _)) fun v w hc a S => ?_)
        obtain ⟨rfl, he⟩ := hc
        have H := H.ext he
        refine wl_of (op_y (wn rfl) rfl rfl S (y_and' rfl (by simp) S rfl rfl) fun a S => ?_)
        refine wl_of (op_y (wn rfl) rfl rfl S (y_assign rfl S rfl) fun a S => ?_)
        refine gl_nil ?_
        refine n_then ?_
        have S := ((((((S.nil.cons S 6 rfl).cons S 5 rfl).cons S 15 rfl).cons S 16 rfl).cons S 17 rfl).cons S 19 rfl).cons S 14 rfl
        refine g_ret ?_
        refine r_then (ret1 rfl S rfl ?_)
        exact ⟨by simp, H.toExt⟩
      · have h3p := h3; try simp only [Option.isNone_some, Option.isNone_none, Option.isSome_some, Option.isSome_none, false_or, or_false, true_and, and_true, decide_eq_true_eq, decide_eq_false_iff_not, Bool.or_eq_true, Bool.and_eq_true, Bool.or_eq_false_iff, Bool.and_eq_false_iff, Bool.not_eq_true', Bool.not_eq_false', bne_iff_ne, beq_iff_eq, beq_eq_false_iff_ne, bne_eq_false_iff_eq, ne_eq, Decidable.not_not, Int.not_lt, Int.not_le, gt_iff_lt, ge_iff_le, Bool.true_eq_false, Bool.false_eq_true, not_true_eq_false, not_false_eq_true] at h3p
        have hz : (serve r i now).1 = 0 := by simpa using h3
        have hw2 := serve_wf hwr i now
        obtain ⟨hs1, hs2, hs3, hs4⟩ := serve_facts hwr i now hz
        have hcl1 := called_len r now
        have hcl2 : r.order.length ≤ 60 := by rw [har.order]; exact hl1
        obtain ⟨r2, hr2⟩ : ∃ x, x = (serve r i now).2 := ⟨_, rfl⟩
        rw [← hr2] at hw2 hs1 hs2 hs3 hs4 H
        refine g_skip ?_
        refine n_then ?_
        have S := ((((((S.nil.cons S 6 rfl).cons S 5 rfl).cons S 14 rfl).cons S 15 rfl).cons S 16 rfl).cons S 17 rfl).cons S 19 rfl
        refine g_seq ?_
        -- region 12 law.go:118
        refine g_region ?_
        refine wl_of (op_y (wn rfl) rfl rfl S (y_move rfl S rfl) fun a S => ?_)
        refine wl_of (op_y (wn rfl) rfl rfl S (y_move rfl S rfl) fun a S => ?_)
        refine wl_of (op_y (wg' 66 rfl rfl S rfl rfl rfl) rfl rfl S (y_move rfl S rfl) fun a S => ?_)
        refine wl_of (op_call (wg' 66 rfl rfl S rfl rfl rfl) rfl rfl S (co_func rfl Try.call15 S rfl) (served_spec b ms mp vo v3 r2 (l.length + 1) _ (H.front (RoomA b ms mp vo r2 v3)) hw2 (by omega)) fun u68 w hc a S => ?_)
        have H1 := hc
        have H := H.call1 H1 rfl
        refine wl_of (op_y (wg' 66 rfl rfl S rfl rfl rfl) rfl rfl S (y_move rfl S rfl) fun a S => ?_)
        refine wl_of (op_y (wg' 66 rfl rfl S rfl rfl rfl) rfl rfl S (y_move rfl S rfl) fun a S => ?_)
        refine wl_of (op_buildSlice (wg' 66 rfl rfl S rfl rfl rfl) rfl rfl rfl Try.underlying22 Finf3 S H (idx := [0]) rfl rfl rfl (z := [.int .i64 0]) (by kernel_rfl) (cs := [_]) rfl fun b71 a w S H => ?_)
        refine wl_of (op_append ([i]) (wg' 66 rfl rfl S rfl rfl rfl) rfl rfl rfl Try.underlying22 Finf3 rfl rfl S H rfl rfl rfl rfl (by simp) (by simp [encI]) (by simp [encI, Value.oneCell']) (by first | assumption | omega | (simp only [List.length_append, List.length_take, List.length_drop, List.length_replicate, List.length_set, List.length_map, List.length_cons, List.length_nil]; omega)) (by first | assumption | omega | (simp only [List.length_append, List.length_take, List.length_drop, List.length_replicate, List.length_set, List.length_map, List.length_cons, List.length_nil]; omega)) fun u72 a w hn72 S H => ?_)
        refine wl_of (op_call (wg' 66 rfl rfl S rfl rfl rfl) rfl rfl S (co_func rfl Try.call12 S rfl) (ints_spec u68 u72 r2.served (([] ++ r.served) ++ [i]) _ (H.sl _) (H.sl _)) fun v w hc a S => ?_)
        obtain ⟨rfl, he⟩ := hc
        have H := H.ext he
        refine wl_of (op_y (wn rfl) rfl rfl S (y_and' rfl rfl S rfl rfl) fun a S => ?_)
        refine wl_of (op_y (wn rfl) rfl rfl S (y_move rfl S rfl) fun a S => ?_)
        refine wl_of (op_y (wg' 75 rfl rfl S rfl (by simp [hs1]) rfl) rfl rfl S (y_move rfl S rfl) fun a S => ?_)
        refine wl_of (op_y (wg' 75 rfl rfl S rfl (by simp [hs1]) rfl) rfl rfl S (y_move rfl S rfl) fun a S => ?_)
        refine wl_of (op_call (wg' 75 rfl rfl S rfl (by simp [hs1]) rfl) rfl rfl S (co_func rfl Try.call13 S rfl) (called_spec b ms mp vo v3 r2 now (l.length + 1) _ (H.front (RoomA b ms mp vo r2 v3)) hw2) fun u78 w hc a S => ?_)
        have H1 := hc
        have H := H.call1 H1 rfl
        refine wl_of (op_y (wg' 75 rfl rfl S rfl (by simp [hs1]) rfl) rfl rfl S (y_move rfl S rfl) fun a S => ?_)
        refine wl_of (op_call (wg' 75 rfl rfl S rfl (by simp [hs1]) rfl) rfl rfl S (co_func rfl Try.call22 S rfl) (in_spec u78 (called r2 now) i _ (H.sl u78)) fun v w hc a S => ?_)
        obtain ⟨rfl, he⟩ := hc
        have H := H.ext he
        refine wl_of (op_y (wg' 75 rfl rfl S rfl (by simp [hs1]) rfl) rfl rfl S (y_not rfl S rfl) fun a S => ?_)
        refine wl_of (op_y (wn rfl) rfl rfl S (y_and' rfl (by simp [hs1]) S rfl rfl) fun a S => ?_)
        refine wl_of (op_y (wn rfl) rfl rfl S (y_move rfl S rfl) fun a S => ?_)
        refine wl_of (op_y (wg' 83 rfl rfl S rfl (by simp [hs1, hs2]) rfl) rfl rfl S (y_move rfl S rfl) fun a S => ?_)
        refine wl_of (op_y (wg' 83 rfl rfl S rfl (by simp [hs1, hs2]) rfl) rfl rfl S (y_move rfl S rfl) fun a S => ?_)
        refine wl_of (op_call (wg' 83 rfl rfl S rfl (by simp [hs1, hs2]) rfl) rfl rfl S (co_func rfl Try.call13 S rfl) (called_spec b ms mp vo v3 r2 now (l.length + 1) _ (H.front (RoomA b ms mp vo r2 v3)) hw2) fun u86 w hc a S => ?_)
        have H1 := hc
        have H := H.call1 H1 rfl
        refine wl_of (op_y (wg' 83 rfl rfl S rfl (by simp [hs1, hs2]) rfl) rfl rfl S (y_lens rfl Try.underlying22 S H rfl) fun a S => ?_)
        refine wl_of (op_y (wg' 83 rfl rfl S rfl (by simp [hs1, hs2]) rfl) rfl rfl S (y_move rfl S rfl) fun a S => ?_)
        refine wl_of (op_y (wg' 83 rfl rfl S rfl (by simp [hs1, hs2]) rfl) rfl rfl S (y_lens rfl Try.underlying22 S H rfl) fun a S => ?_)
        refine wl_of (op_y (wg' 83 rfl rfl S rfl (by simp [hs1, hs2]) rfl) rfl rfl S (y_sub rfl S rfl rfl (by omega)) fun a S => ?_)
        refine wl_of (op_y (wg' 83 rfl rfl S rfl (by simp [hs1, hs2]) rfl) rfl rfl S (y_bin rfl S rfl rfl rfl) fun a S => ?_)
        refine wl_of (op_y (wn rfl) rfl rfl S (y_and' rfl (by simp [hs1, hs2]) S rfl rfl) fun a S => ?_)
        refine wl_of (op_y (wn rfl) rfl rfl S (y_move rfl S rfl) fun a S => ?_)
        refine wl_of (op_y (wg' 93 rfl rfl S rfl (by simp [hs1, hs2, hs3]) rfl) rfl rfl S (y_move rfl S rfl) fun a S => ?_)
        refine wl_of (op_y (wg' 93 rfl rfl S rfl (by simp [hs1, hs2, hs3]) rfl) rfl rfl S (y_move rfl S rfl) fun a S => ?_)
        refine wl_of (op_y (wg' 93 rfl rfl S rfl (by simp [hs1, hs2, hs3]) rfl) rfl rfl S (y_move rfl S rfl) fun a S => ?_)
        refine wl_of (op_call (wg' 93 rfl rfl S rfl (by simp [hs1, hs2, hs3]) rfl) rfl rfl S (co_func rfl Try.call19 S rfl) (Ret.atE (x := RoomA b ms mp vo r2 v3) H (fun H => serve_spec b ms mp vo v3 r2 i now (l.length + 1) _ H hw2 (by omega))) fun v w hc a S => ?_)
        obtain ⟨rfl, v4, H⟩ := hc
        rw [show (serve r2 i now).2 = r2 by rw [(hs4 now).1]] at H
        refine wl_of (op_y (wg' 93 rfl rfl S rfl (by simp [hs1, hs2, hs3]) rfl) rfl rfl S (y_bin rfl S rfl rfl rfl) fun a S => ?_)
        refine wl_of (op_y (wn rfl) rfl rfl S (y_and' rfl (by simp [hs1, hs2, hs3]) S rfl rfl) fun a S => ?_)
        refine wl_of (op_y (wn rfl) rfl rfl S (y_move rfl S rfl) fun a S => ?_)
        refine wl_of (op_y (wg' 100 rfl rfl S rfl (by simp [hs1, hs2, hs3, (hs4 now).1]) rfl) rfl rfl S (y_move rfl S rfl) fun a S => ?_)
        refine wl_of (op_y (wg' 100 rfl rfl S rfl (by simp [hs1, hs2, hs3, (hs4 now).1]) rfl) rfl rfl S (y_move rfl S rfl) fun a S => ?_)
        refine wl_of (op_call (wg' 100 rfl rfl S rfl (by simp [hs1, hs2, hs3, (hs4 now).1]) rfl) rfl rfl S (co_func rfl Try.call17 S rfl) (Ret.at_ (x := RoomA b ms mp vo r2 v4) H (fun H => leave_spec b ms mp vo v4 r2 i (l.length + 1) _ H hw2)) fun v w hc a S => ?_)
        obtain ⟨rfl, H⟩ := hc
        
        refine wl_of (op_y (wg' 100 rfl rfl S rfl (by simp [hs1, hs2, hs3, (hs4 now).1]) rfl) rfl rfl S (y_bin rfl S rfl rfl rfl) fun a S => ?_)
        refine wl_of (op_y (wn rfl) rfl rfl S (y_and' rfl (by simp [hs1, hs2, hs3, (hs4 now).1]) S rfl rfl) fun a S => ?_)
        refine wl_of (op_y (wn rfl) rfl rfl S (y_assign rfl S rfl) fun a S => ?_)
        refine gl_nil ?_
        refine n_then ?_
        have S := S.nil.cons S 14 rfl
        refine g_ret ?_
        refine ret1 rfl S rfl ?_
        exact ⟨by simp [hs1, hs2, hs3, (hs4 now).1, (hs4 now).2], H.toExt⟩
set_option maxHeartbeats 4000000 in
/-- foyer/foyerlaw21.RoomWidth -/
theorem law4_ok (v1 : Value) (order : List Int) (width span from_ now : Int) (w0 : World) (hv1 : IsSl w0 v1 1 encI order) (hok : newOK order width span from_ = true) (hl1 : order.length ≤ 60) :
    Ret Try.prog 6 #[v1, .int .i64 width, .int .i64 span, .int .i64 from_, .int .i64 now] w0 (fun v w => v = .bool true ∧ Ext w0 w) := by
  refine ret_of_wp (nt := 68) Try.func6 rfl rfl rfl (fl := [(0, v1), (1, .int .i64 width), (2, .int .i64 span), (3, .int .i64 from_), (4, .int .i64 now)]) rfl (fun a S => ?_)
  have H := HSat.start w0
  have H := H.ro0 (Sl v1 1 encI order) rfl (hv1)
  refine g_seq ?_
  -- region 0 law.go:122
  refine g_region ?_
  refine wl_of (op_y (wn rfl) rfl rfl S (y_assign rfl S rfl) fun a S => ?_)
  refine gl_nil ?_
  refine n_then ?_
  refine g_seq ?_
  -- region 1 law.go:123
  refine g_region ?_
  refine wl_of (op_call (wn rfl) rfl rfl S (co_func rfl Try.call9 S rfl) (head_spec _) fun v w hc a S => ?_)
  obtain ⟨rfl, he⟩ := hc
  have H := H.ext he
  refine wl_of (op_y (wn rfl) rfl rfl S (y_assign rfl S rfl) fun a S => ?_)
  refine gl_nil ?_
  refine n_then ?_
  refine g_seq ?_
  -- region 2 law.go:124
  refine g_region ?_
  refine wl_of (op_y (wn rfl) rfl rfl S (y_move rfl S rfl) fun a S => ?_)
  refine wl_of (op_y (wn rfl) rfl rfl S (y_move rfl S rfl) fun a S => ?_)
  refine wl_of (op_y (wn rfl) rfl rfl S (y_move rfl S rfl) fun a S => ?_)
  refine wl_of (op_y (wn rfl) rfl rfl S (y_move rfl S rfl) fun a S => ?_)
  refine wl_of (op_call (wn rfl) rfl rfl S (co_func rfl Try.call21 S rfl) (made_ok v1 (.slice none 0 0) order width span from_ [] _ (H.sl v1) (IsSl.nil _ _ _) hok hl1 (by simp)) fun v w hc a S => ?_)
  obtain ⟨b, ms, mp, vo, v0, rfl, H1⟩ := hc
  have H := H.call1 H1 rfl
  obtain ⟨r, hr⟩ : ∃ r, r = (madeRM order width span from_ []) := ⟨_, rfl⟩
  have hwr := made_wf hok []
  have har := made_alike order width span from_ []
  rw [← hr] at H hwr har
  refine wl_of (op_y (wn rfl) rfl rfl S (y_assign rfl S rfl) fun a S => ?_)
  refine gl_nil ?_
  refine n_then ?_
  have S := ((((((S.nil.cons S 4 rfl).cons S 3 rfl).cons S 2 rfl).cons S 1 rfl).cons S 10 rfl).cons S 11 rfl).cons S 12 rfl
  refine g_seq ?_
  refine g_seq ?_
  -- region 3 law.go:125
  refine g_region ?_
  refine wl_of (op_y (wn rfl) rfl rfl S (y_move rfl S rfl) fun a S => ?_)
  refine wl_of (op_y (wn rfl) rfl rfl S (y_eqp rfl Try.underlying25 S rfl rfl) fun a S => ?_)
  refine wl_of (op_y (wn rfl) rfl rfl S (y_move rfl S rfl) fun a S => ?_)
  refine wl_of (op_y (wg' 22 rfl rfl S rfl rfl rfl) rfl rfl S (y_move rfl S rfl) fun a S => ?_)
  refine wl_of (op_y (wg' 22 rfl rfl S rfl rfl rfl) rfl rfl S (y_bin rfl S rfl rfl rfl) fun a S => ?_)
  refine wl_of (op_y (wn rfl) rfl rfl S (y_or' rfl rfl S rfl rfl) fun a S => ?_)
  refine wl_of (op_y (wn rfl) rfl rfl S (y_move rfl S rfl) fun a S => ?_)
  refine' wl_or 2 26 rfl S H rfl rfl rfl rfl rfl rfl rfl (fun _ S => (wn rfl)) (fun h2 kk => ?yh2) (fun a w S H => ?_)
  case yh2 =>
    have h2p := h2; try simp only [Option.isNone_some, Option.isNone_none, Option.isSome_some, Option.isSome_none, false_or, or_false, true_and, and_true, decide_eq_true_eq, decide_eq_false_iff_not, Bool.or_eq_true, Bool.and_eq_true, Bool.or_eq_false_iff, Bool.and_eq_false_iff, Bool.not_eq_true', Bool.not_eq_false', bne_iff_ne, beq_iff_eq, beq_eq_false_iff_ne, bne_eq_false_iff_eq, ne_eq, Decidable.not_not, Int.not_lt, Int.not_le, gt_iff_lt, ge_iff_le, Bool.true_eq_false, Bool.false_eq_true, not_true_eq_false, not_false_eq_true] at h2p
    refine wl_of (op_y (wg' 26 rfl rfl S rfl h2 rfl) rfl rfl S (y_move rfl S rfl) fun a S => ?_)
    refine wl_of (op_y (wg' 26 rfl rfl S rfl h2 rfl) rfl rfl S (y_bin rfl S rfl rfl rfl) fun a S => ?_)
    refine wl_of (op_y (wn rfl) rfl rfl S (y_or' rfl h2 S rfl rfl) fun a S => ?_)
    exact kk _ _ (S.join 3 29 rfl rfl) H
  refine gl_nil ?_
  refine n_then ?_
  have S := (((((((S.nil.cons S 4 rfl).cons S 3 rfl).cons S 2 rfl).cons S 1 rfl).cons S 10 rfl).cons S 11 rfl).cons S 12 rfl).cons S 29 rfl
  -- cond 1
  refine c_if S rfl (fun h3 => ?_) (fun h3 => ?_)
  · have h3p := h3; try simp only [Option.isNone_some, Option.isNone_none, Option.isSome_some, Option.isSome_none, false_or, or_false, true_and, and_true, decide_eq_true_eq, decide_eq_false_iff_not, Bool.or_eq_true, Bool.and_eq_true, Bool.or_eq_false_iff, Bool.and_eq_false_iff, Bool.not_eq_true', Bool.not_eq_false', bne_iff_ne, beq_iff_eq, beq_eq_false_iff_ne, bne_eq_false_iff_eq, ne_eq, Decidable.not_not, Int.not_lt, Int.not_le, gt_iff_lt, ge_iff_le, Bool.true_eq_false, Bool.false_eq_true, not_true_eq_false, not_false_eq_true] at h3p
    refine g_seq ?_
    -- region 4 law.go:126
    refine g_region ?_
    refine wl_of (op_y (wn rfl) rfl rfl S (y_move rfl S rfl) fun a S => ?_)
    refine wl_of (op_y (wn rfl) rfl rfl S (y_assign rfl S rfl) fun a S => ?_)
    refine gl_nil ?_
    refine n_then ?_
    refine g_ret ?_
    refine r_then (ret1 rfl S rfl ?_)
    exact ⟨rfl, H.toExt⟩
  · have h3p := h3; try simp only [Option.isNone_some, Option.isNone_none, Option.isSome_some, Option.isSome_none, false_or, or_false, true_and, and_true, decide_eq_true_eq, decide_eq_false_iff_not, Bool.or_eq_true, Bool.and_eq_true, Bool.or_eq_false_iff, Bool.and_eq_false_iff, Bool.not_eq_true', Bool.not_eq_false', bne_iff_ne, beq_iff_eq, beq_eq_false_iff_ne, bne_eq_false_iff_eq, ne_eq, Decidable.not_not, Int.not_lt, Int.not_le, gt_iff_lt, ge_iff_le, Bool.true_eq_false, Bool.false_eq_true, not_true_eq_false, not_false_eq_true] at h3p
    have hnb : 0 ≤ now ∧ now ≤ 2000000000 := by simp at h3; omega
    obtain rfl : r = newRM order width span from_ := hr
    obtain ⟨hw1, hw2, hw3⟩ := width_law hok now
    have hnn : Nums order width span from_ := (new_wf hok).nums
    have hns := hnn.span
    have hnf := hnn.from_
    have hcl1 := called_len (newRM order width span from_) now
    have hcl2 := called_len (newRM order width span from_) (now - 1)
    have hcl3 : (newRM order width span from_).order.length ≤ 60 := hl1
    refine g_skip ?_
    refine n_then ?_
    refine g_seq ?_
    -- region 5 law.go:128
    refine g_region ?_
    refine wl_of (op_y (wn rfl) rfl rfl S (y_move rfl S rfl) fun a S => ?_)
    refine wl_of (op_y (wn rfl) rfl rfl S (y_move rfl S rfl) fun a S => ?_)
    refine wl_of (op_call (wn rfl) rfl rfl S (co_func rfl Try.call13 S rfl) (called_spec b ms mp vo v0 (newRM order width span from_) now ([].length) _ (H.front (RoomA b ms mp vo (newRM order width span from_) v0)) hwr) fun u33 w hc a S => ?_)
    have H1 := hc
    have H := H.call1 H1 rfl
    refine wl_of (op_y (wn rfl) rfl rfl S (y_lens rfl Try.underlying22 S H rfl) fun a S => ?_)
    refine wl_of (op_y (wn rfl) rfl rfl S (y_move rfl S rfl) fun a S => ?_)
    refine wl_of (op_y (wn rfl) rfl rfl S (y_move rfl S rfl) fun a S => ?_)
    refine wl_of (op_y (wn rfl) rfl rfl S (y_sub rfl S rfl rfl (by omega)) fun a S => ?_)
    refine wl_of (op_call (wn rfl) rfl rfl S (co_func rfl Try.call13 S rfl) (called_spec b ms mp vo v0 (newRM order width span from_) (now - 1) ([].length) _ (H.front (RoomA b ms mp vo (newRM order width span from_) v0)) hwr) fun u38 w hc a S => ?_)
    have H1 := hc
    have H := H.call1 H1 rfl
    refine wl_of (op_y (wn rfl) rfl rfl S (y_lens rfl Try.underlying22 S H rfl) fun a S => ?_)
    refine wl_of (op_y (wn rfl) rfl rfl S (y_sub rfl S rfl rfl (by omega)) fun a S => ?_)
    refine wl_of (op_y (wn rfl) rfl rfl S (y_assign rfl S rfl) fun a S => ?_)
    refine gl_nil ?_
    refine n_then ?_
    have S := ((((((S.nil.cons S 4 rfl).cons S 3 rfl).cons S 2 rfl).cons S 1 rfl).cons S 10 rfl).cons S 11 rfl).cons S 13 rfl
    refine g_seq ?_
    -- region 6 law.go:129
    refine g_region ?_
    refine wl_of (op_y (wn rfl) rfl rfl S (y_move rfl S rfl) fun a S => ?_)
    refine wl_of (op_y (wn rfl) rfl rfl S (y_move rfl S rfl) fun a S => ?_)
    refine wl_of (op_y (wg' 42 rfl rfl S rfl rfl rfl) rfl rfl S (y_move rfl S rfl) fun a S => ?_)
    refine wl_of (op_y (wg' 42 rfl rfl S rfl rfl rfl) rfl rfl S (y_bin rfl S rfl rfl rfl) fun a S => ?_)
    refine wl_of (op_y (wn rfl) rfl rfl S (y_and' rfl rfl S rfl rfl) fun a S => ?_)
    refine wl_of (op_y (wn rfl) rfl rfl S (y_move rfl S rfl) fun a S => ?_)
    refine wl_of (op_y (wg' 46 rfl rfl S rfl (by simp; omega) rfl) rfl rfl S (y_move rfl S rfl) fun a S => ?_)
    refine wl_of (op_y (wg' 46 rfl rfl S rfl (by simp; omega) rfl) rfl rfl S (y_move rfl S rfl) fun a S => ?_)
    refine wl_of (op_y (wg' 46 rfl rfl S rfl (by simp; omega) rfl) rfl rfl S (y_bin rfl S rfl rfl rfl) fun a S => ?_)
    refine wl_of (op_y (wn rfl) rfl rfl S (y_and' rfl (by simp; omega) S rfl rfl) fun a S => ?_)
    refine wl_of (op_y (wn rfl) rfl rfl S (y_move rfl S rfl) fun a S => ?_)
    refine wl_of (op_y (wg' 51 rfl rfl S rfl (by simp; omega) rfl) rfl rfl S (y_move rfl S rfl) fun a S => ?_)
    refine wl_of (op_y (wg' 51 rfl rfl S rfl (by simp; omega) rfl) rfl rfl S (y_bin rfl S rfl rfl rfl) fun a S => ?_)
    refine wl_of (op_y (wg' 51 rfl rfl S rfl (by simp; omega) rfl) rfl rfl S (y_move rfl S rfl) fun a S => ?_)
    refine' wl_or 11 54 rfl S H rfl rfl rfl rfl rfl rfl rfl (fun _ S => (wg' 51 rfl rfl S rfl (by simp; omega) rfl)) (fun h7 kk => ?yh7) (fun a w S H => ?_)
    case yh7 =>
      have h7p := h7; try simp only [Option.isNone_some, Option.isNone_none, Option.isSome_some, Option.isSome_none, false_or, or_false, true_and, and_true, decide_eq_true_eq, decide_eq_false_iff_not, Bool.or_eq_true, Bool.and_eq_true, Bool.or_eq_false_iff, Bool.and_eq_false_iff, Bool.not_eq_true', Bool.not_eq_false', bne_iff_ne, beq_iff_eq, beq_eq_false_iff_ne, bne_eq_false_iff_eq, ne_eq, Decidable.not_not, Int.not_lt, Int.not_le, gt_iff_lt, ge_iff_le, Bool.true_eq_false, Bool.false_eq_true, not_true_eq_false, not_false_eq_true] at h7p
      refine wl_of (op_y (wg' 54 rfl rfl S rfl h7 rfl) rfl rfl S (y_move rfl S rfl) fun a S => ?_)
      refine wl_of (op_y (wg' 54 rfl rfl S rfl h7 rfl) rfl rfl S (y_move rfl S rfl) fun a S => ?_)
      refine wl_of (op_y (wg' 54 rfl rfl S rfl h7 rfl) rfl rfl S (y_bin rfl S rfl rfl rfl) fun a S => ?_)
      refine wl_of (op_y (wg' 54 rfl rfl S rfl h7 rfl) rfl rfl S (y_move rfl S rfl) fun a S => ?_)
      refine' wl_and 6 58 rfl S H rfl rfl rfl rfl rfl rfl rfl (fun _ S => (wg' 54 rfl rfl S rfl h7 rfl)) (fun h8 kk => ?yh8) (fun a w S H => ?_)
      case yh8 =>
        have h8p := h8; try simp only [Option.isNone_some, Option.isNone_none, Option.isSome_some, Option.isSome_none, false_or, or_false, true_and, and_true, decide_eq_true_eq, decide_eq_false_iff_not, Bool.or_eq_true, Bool.and_eq_true, Bool.or_eq_false_iff, Bool.and_eq_false_iff, Bool.not_eq_true', Bool.not_eq_false', bne_iff_ne, beq_iff_eq, beq_eq_false_iff_ne, bne_eq_false_iff_eq, ne_eq, Decidable.not_not, Int.not_lt, Int.not_le, gt_iff_lt, ge_iff_le, Bool.true_eq_false, Bool.false_eq_true, not_true_eq_false, not_false_eq_true] at h8p
        refine wl_of (op_y (wg' 58 rfl rfl S rfl h8 rfl) rfl rfl S (y_move rfl S rfl) fun a S => ?_)
        refine wl_of (op_y (wg' 58 rfl rfl S rfl h8 rfl) rfl rfl S (y_move rfl S rfl) fun a S => ?_)
        refine wl_of (op_y (wg' 58 rfl rfl S rfl h8 rfl) rfl rfl S (y_sub rfl S rfl rfl (by omega)) fun a S => ?_)
        refine wl_of (op_y (wg' 58 rfl rfl S rfl h8 rfl) rfl rfl S (y_move rfl S rfl) fun a S => ?_)
        refine wl_of (op_y (wg' 58 rfl rfl S rfl h8 rfl) rfl rfl S (y_remn rfl S rfl rfl (by omega) (by omega)) fun a S => ?_)
        refine wl_of (op_y (wg' 58 rfl rfl S rfl h8 rfl) rfl rfl S (y_bin rfl S rfl rfl rfl) fun a S => ?_)
        refine wl_of (op_y (wg' 54 rfl rfl S rfl h7 rfl) rfl rfl S (y_and' rfl h8 S rfl rfl) fun a S => ?_)
        exact kk _ _ (S.join 7 65 rfl rfl) H
      refine wl_of (op_y (wg' 51 rfl rfl S rfl (by simp; omega) rfl) rfl rfl S (y_or' rfl h7 S rfl rfl) fun a S => ?_)
      exact kk _ _ (S.join 6 66 rfl rfl) H
    refine wl_of (op_y (wn rfl) rfl rfl S (y_and' rfl (by simp; omega) S rfl rfl) fun a S => ?_)
    refine wl_of (op_y (wn rfl) rfl rfl S (y_assign rfl S rfl) fun a S => ?_)
    refine gl_nil ?_
    refine n_then ?_
    have S := S.nil.cons S 10 rfl
    refine g_ret ?_
    refine ret1 rfl S rfl ?_
    refine ⟨?_, H.toExt⟩
    congr 1
    simp
    omega

end Go.Proofs.Ytgplcgfdaoenfaa
