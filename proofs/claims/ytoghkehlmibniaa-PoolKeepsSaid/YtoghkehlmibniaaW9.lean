/- The walks. No condition. -/
import Derived.Test.YtoghkehlmibniaaChecked
import Derived.Test.YtoghkehlmibniaaGwQue
import Derived.Test.YtoghkehlmibniaaFacts
import Derived.Test.YtoghkehlmibniaaPlain
import Derived.Test.YtoghkehlmibniaaW8
namespace Go.Proofs.Ytoghkehlmibniaa
open Go Go.Gw
set_option linter.unusedVariables false
set_option linter.unusedSimpArgs false
set_option maxHeartbeats 4000000 in
/-- foyer/foyerref35.Stable -/
theorem rstable_spec (v : Value) (ps : List (Value × List Int)) (vg : Value) (got : List Int) (w0 : World) (hv : IsSl w0 v 1 encRow ps) (hr : ∀ p ∈ ps, IsSl w0 p.1 1 encI p.2) (hg : IsSl w0 vg 1 encI got) (hlp : ps.length ≤ 1000000) :
    Ret Try.prog 17 #[v, vg] w0 (fun u w => u = .bool (stabB (gr ps) got) ∧ Ext w0 w) := by
  refine ret_of_wp (nt := 117) Try.func17 rfl rfl rfl (fl := [(0, v), (1, vg)]) rfl (fun a S => ?_)
  have H := HSat.start w0
  have H := H.ro0 (Sl v 1 encRow ps) rfl (hv)
  have H := H.ro0 (RowsS 1 encI ps) rfl (hr)
  have H := H.ro0 (Sl vg 1 encI got) rfl (hg)
  have hl := hv.len
  have hgl := hg.len
  have hgrl := gr_len ps
  refine g_seq ?_
  -- region 0 ref.go:109
  refine g_region ?_
  refine wl_of (op_y (wn rfl) rfl rfl S (y_assign rfl S rfl) fun a S => ?_)
  refine gl_nil ?_
  refine n_then ?_
  refine g_seq ?_
  -- region 1 ref.go:110
  refine g_region ?_
  refine wl_of (op_y (wn rfl) rfl rfl S (y_move rfl S rfl) fun a S => ?_)
  refine wl_of (op_y (wn rfl) rfl rfl S (y_lens rfl Try.underlying22 S H rfl) fun a S => ?_)
  refine wl_of (op_y (wn rfl) rfl rfl S (y_assign rfl S rfl) fun a S => ?_)
  refine gl_nil ?_
  refine n_then ?_
  refine g_seq ?_
  refine g_seq ?_
  -- region 2 ref.go:111
  refine g_region ?_
  refine wl_of (op_y (wn rfl) rfl rfl S (y_move rfl S rfl) fun a S => ?_)
  refine wl_of (op_y (wn rfl) rfl rfl S (y_bin rfl S rfl rfl rfl) fun a S => ?_)
  refine wl_of (op_y (wn rfl) rfl rfl S (y_move rfl S rfl) fun a S => ?_)
  refine' wl_or 3 15 rfl S H rfl rfl rfl rfl rfl rfl rfl (fun _ S => (wn rfl)) (fun h1 kk => ?yh1) (fun a w S H => ?_)
  case yh1 =>
    have h1p := h1; try simp only [Option.isNone_some, Option.isNone_none, Option.isSome_some, Option.isSome_none, false_or, or_false, true_and, and_true, decide_eq_true_eq, decide_eq_false_iff_not, Bool.or_eq_true, Bool.and_eq_true, Bool.or_eq_false_iff, Bool.and_eq_false_iff, Bool.not_eq_true', Bool.not_eq_false', bne_iff_ne, beq_iff_eq, beq_eq_false_iff_ne, bne_eq_false_iff_eq, ne_eq, Decidable.not_not, Int.not_lt, Int.not_le, gt_iff_lt, ge_iff_le, Bool.true_eq_false, Bool.false_eq_true, not_true_eq_false, not_false_eq_true] at h1p
    refine wl_of (op_y (wg' 15 rfl rfl S rfl h1 rfl) rfl rfl S (y_move rfl S rfl) fun a S => ?_)
    refine wl_of (op_call (wg' 15 rfl rfl S rfl h1 rfl) rfl rfl S (co_func rfl Try.call18 S rfl) (rright_spec v ps _ (H.sl v) (H.rwsS ps) hlp) fun v w hc a S => ?_)
    obtain ⟨rfl, he⟩ := hc
    have H := H.ext he
    refine wl_of (op_y (wg' 15 rfl rfl S rfl h1 rfl) rfl rfl S (y_not rfl S rfl) fun a S => ?_)
    refine wl_of (op_y (wn rfl) rfl rfl S (y_or' rfl h1 S rfl rfl) fun a S => ?_)
    exact kk _ _ (S.join 4 19 rfl rfl) H
  refine wl_of (op_y (wn rfl) rfl rfl S (y_move rfl S rfl) fun a S => ?_)
  refine' wl_or 4 20 rfl S H rfl rfl rfl rfl rfl rfl rfl (fun _ S => (wn rfl)) (fun h2 kk => ?yh2) (fun a w S H => ?_)
  case yh2 =>
    have h2p := h2; try simp only [Option.isNone_some, Option.isNone_none, Option.isSome_some, Option.isSome_none, false_or, or_false, true_and, and_true, decide_eq_true_eq, decide_eq_false_iff_not, Bool.or_eq_true, Bool.and_eq_true, Bool.or_eq_false_iff, Bool.and_eq_false_iff, Bool.not_eq_true', Bool.not_eq_false', bne_iff_ne, beq_iff_eq, beq_eq_false_iff_ne, bne_eq_false_iff_eq, ne_eq, Decidable.not_not, Int.not_lt, Int.not_le, gt_iff_lt, ge_iff_le, Bool.true_eq_false, Bool.false_eq_true, not_true_eq_false, not_false_eq_true] at h2p
    refine wl_of (op_y (wg' 20 rfl rfl S rfl h2 rfl) rfl rfl S (y_move rfl S rfl) fun a S => ?_)
    refine wl_of (op_y (wg' 20 rfl rfl S rfl h2 rfl) rfl rfl S (y_move rfl S rfl) fun a S => ?_)
    refine wl_of (op_call (wg' 20 rfl rfl S rfl h2 rfl) rfl rfl S (co_func rfl Try.call19 S rfl) (exch_spec vg got ps.length _ (H.sl vg) hlp) fun v w hc a S => ?_)
    obtain ⟨rfl, he⟩ := hc
    have H := H.ext he
    refine wl_of (op_y (wg' 20 rfl rfl S rfl h2 rfl) rfl rfl S (y_not rfl S rfl) fun a S => ?_)
    refine wl_of (op_y (wn rfl) rfl rfl S (y_or' rfl h2 S rfl rfl) fun a S => ?_)
    exact kk _ _ (S.join 5 25 rfl rfl) H
  refine gl_nil ?_
  refine n_then ?_
  have S := ((((S.nil.cons S 1 rfl).cons S 0 rfl).cons S 4 rfl).cons S 5 rfl).cons S 25 rfl
  -- cond 1
  refine c_if S rfl (fun h3 => ?_) (fun h3 => ?_)
  · have h3p := h3; try simp only [Option.isNone_some, Option.isNone_none, Option.isSome_some, Option.isSome_none, false_or, or_false, true_and, and_true, decide_eq_true_eq, decide_eq_false_iff_not, Bool.or_eq_true, Bool.and_eq_true, Bool.or_eq_false_iff, Bool.and_eq_false_iff, Bool.not_eq_true', Bool.not_eq_false', bne_iff_ne, beq_iff_eq, beq_eq_false_iff_ne, bne_eq_false_iff_eq, ne_eq, Decidable.not_not, Int.not_lt, Int.not_le, gt_iff_lt, ge_iff_le, Bool.true_eq_false, Bool.false_eq_true, not_true_eq_false, not_false_eq_true] at h3p
    refine g_seq ?_
    -- region 3 ref.go:112
    refine g_region ?_
    refine wl_of (op_y (wn rfl) rfl rfl S (y_assign rfl S rfl) fun a S => ?_)
    refine gl_nil ?_
    refine n_then ?_
    refine g_ret ?_
    refine r_then (ret1 rfl S rfl ?_)
    exact ⟨congrArg Value.bool (stab_no (fun hs => by
      have h1 := right_iff.2 hs.2.right
      have h2 : exchW got ps.length = true := by unfold exchW; rw [decide_eq_true (by have := hs.2.len; omega), decide_eq_true (by have := hs.2.row; rwa [hgrl] at this)]; rfl
      rcases h3p with (h | h) | h
      · omega
      · rw [h1] at h; cases h
      · rw [h2] at h; cases h)).symm, H.toExt⟩
  · have h3p := h3; try simp only [Option.isNone_some, Option.isNone_none, Option.isSome_some, Option.isSome_none, false_or, or_false, true_and, and_true, decide_eq_true_eq, decide_eq_false_iff_not, Bool.or_eq_true, Bool.and_eq_true, Bool.or_eq_false_iff, Bool.and_eq_false_iff, Bool.not_eq_true', Bool.not_eq_false', bne_iff_ne, beq_iff_eq, beq_eq_false_iff_ne, bne_eq_false_iff_eq, ne_eq, Decidable.not_not, Int.not_lt, Int.not_le, gt_iff_lt, ge_iff_le, Bool.true_eq_false, Bool.false_eq_true, not_true_eq_false, not_false_eq_true] at h3p
    have hrt : Right (gr ps) := right_iff.1 (by simpa using h3p.1.2)
    have hn1 : ps.length ≤ 1000 := by have := h3p.1.1; omega
    have hex : exchW got ps.length = true := by simpa using h3p.2
    have hgl2 : got.length = ps.length := by unfold exchW at hex; simp only [Bool.and_eq_true, decide_eq_true_eq] at hex; exact hex.1
    have hrow : RowOK ps.length got := by unfold exchW at hex; simp only [Bool.and_eq_true, decide_eq_true_eq] at hex; exact hex.2
    refine g_skip ?_
    refine n_then ?_
    refine g_seq ?_
    -- region 4 ref.go:115
    refine g_region ?_
    refine wl_of (op_y (wn rfl) rfl rfl S (y_move rfl S rfl) fun a S => ?_)
    refine wl_of (op_make (encRow (α := Int)) ((Value.slice none 0 0, [])) (wn rfl) rfl rfl rfl Try.underlying22 Finf23 rfl rfl S H rfl rfl rfl (by omega) (by omega) fun b27 a w S H => ?_)
    refine wl_of (op_y (wn rfl) rfl rfl S (y_assign rfl S rfl) fun a S => ?_)
    refine gl_nil ?_
    refine n_then ?_
    refine g_seq ?_
    refine g_seq ?_
    -- region 5 ref.go:116
    refine g_region ?_
    refine wl_of (op_y (wn rfl) rfl rfl S (y_assign rfl S rfl) fun a S => ?_)
    refine gl_nil ?_
    refine n_then ?_
    refine g_block ?_
    -- slots written in the loop and forgotten at its head: [4]
    have H := (H.rowsNil 3 1 encI ps.length).nilO 23 1 (encRow (α := Int))
    have SU := (((S.nil.cons S 1 rfl).cons S 0 rfl).cons S 5 rfl).cons S 6 rfl
    refine loopW (X := Nat) SU (fun i => [(7, .int .i64 (i : Int))]) (fun i w => i ≤ ps.length ∧ ∃ qs, ToMid ps got qs i [] ∧ HSat No w0 [OSl 23 (.slice (some ⟨b27, 0, none⟩) ps.length ps.length) 1 encRow (qs), RowsA 3 1 encI (qs), Sl vg 1 encI got, RowsS 1 encI ps, Sl v 1 encRow ps] w) (fun i => ps.length - i) 0 (S.nil.cons S 7 rfl) (⟨by omega, _, mid0 ps got _, H.take [OSl 23 (.slice (some ⟨b27, 0, none⟩) ps.length ps.length) 1 encRow (List.replicate ps.length (Value.slice none 0 0, ([] : List Int))), RowsA 3 1 encI (List.replicate ps.length (Value.slice none 0 0, ([] : List Int))), Sl vg 1 encI got, RowsS 1 encI ps, Sl v 1 encRow ps]⟩) (fun i a w S hW => ?_)
    simp only [List.cons_append, List.nil_append] at S
    clear H
    obtain ⟨hi, qs, hm, H⟩ := hW
    refine g_seq ?_
    refine g_seq ?_
    -- region 6 ref.go:116
    refine g_region ?_
    refine wl_of (op_y (wn rfl) rfl rfl S (y_move rfl S rfl) fun a S => ?_)
    refine wl_of (op_y (wn rfl) rfl rfl S (y_move rfl S rfl) fun a S => ?_)
    refine wl_of (op_y (wn rfl) rfl rfl S (y_bin rfl S rfl rfl rfl) fun a S => ?_)
    refine gl_nil ?_
    refine n_then ?_
    -- cond 2
    refine c_if S rfl (fun h4 => ?_) (fun h4 => ?_)
    · have h4p := h4; try simp only [Option.isNone_some, Option.isNone_none, Option.isSome_some, Option.isSome_none, false_or, or_false, true_and, and_true, decide_eq_true_eq, decide_eq_false_iff_not, Bool.or_eq_true, Bool.and_eq_true, Bool.or_eq_false_iff, Bool.and_eq_false_iff, Bool.not_eq_true', Bool.not_eq_false', bne_iff_ne, beq_iff_eq, beq_eq_false_iff_ne, bne_eq_false_iff_eq, ne_eq, Decidable.not_not, Int.not_lt, Int.not_le, gt_iff_lt, ge_iff_le, Bool.true_eq_false, Bool.false_eq_true, not_true_eq_false, not_false_eq_true] at h4p
      have hip : i < ps.length := by omega
      have hig : i < got.length := by omega
      have hil := (H.rwsS (sz := 1) (enc := encI) ps _ (List.getElem_mem hip)).len
      have hiq : i < qs.length := by rw [hm.len]; exact hip
      have hgi := atI_eq hig
      have hrl1 := right_len hrt i
      rw [gr_row ps hip] at hrl1
      refine g_skip ?_
      refine n_then ?_
      refine g_seq ?_
      refine g_block ?_
      refine g_seq ?_
      refine g_seq ?_
      -- region 8 ref.go:117
      refine g_region ?_
      refine wl_of (op_y (wn rfl) rfl rfl S (y_move rfl S rfl) fun a S => ?_)
      refine wl_of (op_y (wn rfl) rfl rfl S (y_move rfl S rfl) fun a S => ?_)
      refine wl_of (op_y (wn rfl) rfl rfl S (y_move rfl S rfl) fun a S => ?_)
      refine wl_of (op_y (wn rfl) rfl rfl S (y_move rfl S rfl) fun a S => ?_)
      refine wl_of (op_y (wn rfl) rfl rfl S (y_iaddrn rfl Try.underlying23 Fsiz3 S H rfl rfl (by first | assumption | omega | (simp only [List.length_append, List.length_take, List.length_drop, List.length_replicate, List.length_set, List.length_map, List.length_cons, List.length_nil]; omega))) fun a S => ?_)
      refine wl_of (op_y (wn rfl) rfl rfl S (y_loads _ rfl Fsca3 S H rfl (by first | assumption | omega | (simp only [List.length_append, List.length_take, List.length_drop, List.length_replicate, List.length_set, List.length_map, List.length_cons, List.length_nil]; omega)) rfl) fun a S => ?_)
      refine wl_of (op_call (wn rfl) rfl rfl S (co_func rfl Try.call20 S rfl) (accepts_spec v ps i got[i] _ (H.sl v) (H.rwsS ps) hip (by omega)) fun v w hc a S => ?_)
      obtain ⟨rfl, he⟩ := hc
      have H := H.ext he
      refine wl_of (op_y (wn rfl) rfl rfl S (y_not rfl S rfl) fun a S => ?_)
      refine gl_nil ?_
      refine n_then ?_
      -- cond 3
      refine c_if S rfl (fun h5 => ?_) (fun h5 => ?_)
      · have h5p := h5; try simp only [Option.isNone_some, Option.isNone_none, Option.isSome_some, Option.isSome_none, false_or, or_false, true_and, and_true, decide_eq_true_eq, decide_eq_false_iff_not, Bool.or_eq_true, Bool.and_eq_true, Bool.or_eq_false_iff, Bool.and_eq_false_iff, Bool.not_eq_true', Bool.not_eq_false', bne_iff_ne, beq_iff_eq, beq_eq_false_iff_ne, bne_eq_false_iff_eq, ne_eq, Decidable.not_not, Int.not_lt, Int.not_le, gt_iff_lt, ge_iff_le, Bool.true_eq_false, Bool.false_eq_true, not_true_eq_false, not_false_eq_true] at h5p
        have hna : ¬ rankL ps[i].2 i got[i] ≤ rankL ps[i].2 i i := by simpa using h5
        refine g_seq ?_
        -- region 9 ref.go:118
        refine g_region ?_
        refine wl_of (op_y (wn rfl) rfl rfl S (y_assign rfl S rfl) fun a S => ?_)
        refine gl_nil ?_
        refine n_then ?_
        refine g_ret ?_
        refine r_then (r_block (r_then (r_then (r_block (r_then (ret1 rfl S rfl ?_))))))
        exact ⟨congrArg Value.bool (stab_no (fun hs => hna (by have := hs.2.acc i (by omega); rw [gr_row ps hip, hgi] at this; exact this))).symm, H.toExt⟩
      · have h5p := h5; try simp only [Option.isNone_some, Option.isNone_none, Option.isSome_some, Option.isSome_none, false_or, or_false, true_and, and_true, decide_eq_true_eq, decide_eq_false_iff_not, Bool.or_eq_true, Bool.and_eq_true, Bool.or_eq_false_iff, Bool.and_eq_false_iff, Bool.not_eq_true', Bool.not_eq_false', bne_iff_ne, beq_iff_eq, beq_eq_false_iff_ne, bne_eq_false_iff_eq, ne_eq, Decidable.not_not, Int.not_lt, Int.not_le, gt_iff_lt, ge_iff_le, Bool.true_eq_false, Bool.false_eq_true, not_true_eq_false, not_false_eq_true] at h5p
        have hac : rankL ps[i].2 i got[i] ≤ rankL ps[i].2 i i := by simpa using h5
        have hnow := hm.now hiq
        have H := (H.front (RowsA 3 1 encI qs)).rowOut i hiq
        refine g_skip ?_
        refine n_then ?_
        refine g_seq ?_
        -- region 10 DRAWS ref.go:120
        refine region_st (loud := [10, 11, 13]) (tails := [11, 13]) (free := [0, 1]) [0, 1, 2, 3, 4, 5, 6, 7, 8, 9, 10, 11, 12, 13] [] Fmo (by kernel_rfl) (by kernel_rfl) rfl H ?_
        refine m_f rfl rfl (wn rfl) rfl rfl S (fun w H => y_move rfl S rfl) fun a S => ?_
        refine m_f rfl rfl (wn rfl) rfl rfl S (fun w H => y_move rfl S rfl) fun a S => ?_
        refine m_w rfl rfl (wn rfl) rfl rfl S (fun w H => y_move rfl S rfl) fun a S => ?_
        refine m_w rfl rfl (wn rfl) rfl rfl S (fun w H => y_move rfl S rfl) fun a S => ?_
        refine m_w rfl rfl (wn rfl) rfl rfl S (fun w H => y_iaddrn rfl Try.underlying22 Fsiz23 S H rfl rfl (by first | assumption | omega | (simp only [List.length_append, List.length_take, List.length_drop, List.length_replicate, List.length_set, List.length_map, List.length_cons, List.length_nil]; omega))) fun a S => ?_
        refine m_loads _ rfl rfl (wn rfl) rfl rfl S rfl Fsca23 rfl (by first | assumption | omega | (simp only [List.length_append, List.length_take, List.length_drop, List.length_replicate, List.length_set, List.length_map, List.length_cons, List.length_nil]; omega)) rfl fun a S => ?_
        refine m_w rfl rfl (wn rfl) rfl rfl S (fun w H => y_move rfl S rfl) fun a S => ?_
        refine m_w rfl rfl (wn rfl) rfl rfl S (fun w H => y_move rfl S rfl) fun a S => ?_
        refine m_w rfl rfl (wn rfl) rfl rfl S (fun w H => y_iaddrn rfl Try.underlying23 Fsiz3 S H rfl rfl (by first | assumption | omega | (simp only [List.length_append, List.length_take, List.length_drop, List.length_replicate, List.length_set, List.length_map, List.length_cons, List.length_nil]; omega))) fun a S => ?_
        refine m_loads _ rfl rfl (wn rfl) rfl rfl S rfl Fsca3 rfl (by first | assumption | omega | (simp only [List.length_append, List.length_take, List.length_drop, List.length_replicate, List.length_set, List.length_map, List.length_cons, List.length_nil]; omega)) rfl fun a S => ?_
        refine m_l rfl rfl (fun w H => op_buildSlice (wn rfl) rfl rfl rfl Try.underlying23 Finf3 S H (idx := [0]) rfl rfl rfl (z := [.int .i64 0]) (by kernel_rfl) (cs := [_]) rfl fun b51 a w S H => m_next H (List.sublist_cons_self _ _) ?_)
        refine m_l rfl rfl (fun w H => op_append ([got[i]]) (wn rfl) rfl rfl rfl Try.underlying23 Finf3 rfl rfl S H rfl rfl rfl rfl (by simp) (by simp [encI]) (by simp [encI, Value.oneCell']) (by rw [hnow]; simp) (by rw [hnow]; simp) fun u52 a w hn52 S H => m_tail H rfl ?_)
        refine m_w rfl rfl (wn rfl) rfl rfl S (fun w H => y_iaddrn rfl Try.underlying22 Fsiz23 S H rfl rfl (by first | assumption | omega | (simp only [List.length_append, List.length_take, List.length_drop, List.length_replicate, List.length_set, List.length_map, List.length_cons, List.length_nil]; omega))) fun a S => ?_
        refine m_l rfl rfl (fun w H => op_store1 _ ((u52, qs[i].2 ++ [got[i]])) (wn rfl) rfl rfl S H rfl rfl (H.slc _) (H.sl1 _) Fsiz23 (by first | assumption | omega | (simp only [List.length_append, List.length_take, List.length_drop, List.length_replicate, List.length_set, List.length_map, List.length_cons, List.length_nil]; omega)) (by exact rfl) fun a w S H => m_tail H rfl ?_)
        refine m_nil (fun w H => ?_)
        refine n_then ?_
        refine g_seq ?_
        -- region 11 ref.go:121
        refine g_region ?_
        refine wl_of (op_y (wn rfl) rfl rfl S (y_assign rfl S rfl) fun a S => ?_)
        refine gl_nil ?_
        refine n_then ?_
        refine g_block ?_
        have H := ((H.front2 (OSl 3 u52 1 encI (qs[i].2 ++ [got[i]])) (RowsA 3 1 encI (qs.eraseIdx i))).rowIn hiq).take [OSl 23 (.slice (some ⟨b27, 0, none⟩) ps.length ps.length) 1 encRow (qs.set i (u52, qs[i].2 ++ [got[i]])), RowsA 3 1 encI (qs.set i (u52, qs[i].2 ++ [got[i]])), Sl vg 1 encI got, RowsS 1 encI ps, Sl v 1 encRow ps]
        have SU := ((((((((((((((((((((((((((((S.nil.cons S 1 rfl).cons S 0 rfl).cons S 5 rfl).cons S 6 rfl).cons S 7 rfl).cons S 28 rfl).cons S 29 rfl).cons S 30 rfl).cons S 33 rfl).cons S 34 rfl).cons S 35 rfl).cons S 36 rfl).cons S 37 rfl).cons S 38 rfl).cons S 39 rfl).cons S 40 rfl).cons S 41 rfl).cons S 42 rfl).cons S 43 rfl).cons S 44 rfl).cons S 45 rfl).cons S 46 rfl).cons S 47 rfl).cons S 48 rfl).cons S 49 rfl).cons S 50 rfl).cons S 51 rfl).cons S 52 rfl).cons S 53 rfl
        refine loopW (X := Nat) SU (fun k => [(8, .int .i64 (k : Int))]) (fun k w => k ≤ ps[i].2.length ∧ (∀ j, j < k → atI ps[i].2 j ≠ atI got i) ∧ ∃ qs2, ToMid ps got qs2 i (atI got i :: ps[i].2.take k) ∧ HSat No w0 [OSl 23 (.slice (some ⟨b27, 0, none⟩) ps.length ps.length) 1 encRow (qs2), RowsA 3 1 encI (qs2), Sl vg 1 encI got, RowsS 1 encI ps, Sl v 1 encRow ps] w) (fun k => ps[i].2.length - k) 0 (S.nil.cons S 8 rfl) (⟨by omega, fun j hj => by omega, qs.set i (u52, qs[i].2 ++ [got[i]]), by rw [show qs[i].2 ++ [got[i]] = atI got i :: ps[i].2.take 0 by rw [hnow, hgi]; rfl]; exact hm.put u52, by exact H⟩) (fun k a w S hW => ?_)
        simp only [List.cons_append, List.nil_append] at S
        clear H hm
        obtain ⟨hk, hno, qs2, hm2, H⟩ := hW
        have hiq2 : i < qs2.length := by rw [hm2.len]; exact hip
        refine g_seq ?_
        refine g_seq ?_
        -- region 12 DRAWS ref.go:121
        refine region_st (loud := []) (tails := []) (free := []) [0, 1, 2, 3, 4, 5, 6, 7, 8, 9, 10, 11, 12, 13, 14, 15, 16, 17, 18, 19, 20] [] Fmo (by kernel_rfl) (by kernel_rfl) rfl H ?_
        refine m_w rfl rfl (wn rfl) rfl rfl S (fun w H => y_move rfl S rfl) fun a S => ?_
        refine m_w rfl rfl (wn rfl) rfl rfl S (fun w H => y_move rfl S rfl) fun a S => ?_
        refine m_w rfl rfl (wn rfl) rfl rfl S (fun w H => y_move rfl S rfl) fun a S => ?_
        refine m_w rfl rfl (wn rfl) rfl rfl S (fun w H => y_iaddrn rfl Try.underlying22 Fsiz23 S H rfl rfl (by first | assumption | omega | (simp only [List.length_append, List.length_take, List.length_drop, List.length_replicate, List.length_set, List.length_map, List.length_cons, List.length_nil]; omega))) fun a S => ?_
        refine m_loads _ rfl rfl (wn rfl) rfl rfl S rfl Fsca23 rfl (by first | assumption | omega | (simp only [List.length_append, List.length_take, List.length_drop, List.length_replicate, List.length_set, List.length_map, List.length_cons, List.length_nil]; omega)) rfl fun a S => ?_
        refine m_w rfl rfl (wn rfl) rfl rfl S (fun w H => y_lens rfl Try.underlying23 S H rfl) fun a S => ?_
        refine m_w rfl rfl (wn rfl) rfl rfl S (fun w H => y_bin rfl S rfl rfl rfl) fun a S => ?_
        refine m_w rfl rfl (wn rfl) rfl rfl S (fun w H => y_move rfl S rfl) fun a S => ?_
        refine' m_andq [8, 9, 10, 11, 12, 13, 14, 15, 16, 17, 18, 19] 61 S rfl rfl rfl rfl rfl rfl rfl rfl rfl (fun _ S => (wn rfl)) (fun h6 kk => ?yh6) (fun a S => ?_)
        case yh6 =>
          have h6p := h6; try simp only [Option.isNone_some, Option.isNone_none, Option.isSome_some, Option.isSome_none, false_or, or_false, true_and, and_true, decide_eq_true_eq, decide_eq_false_iff_not, Bool.or_eq_true, Bool.and_eq_true, Bool.or_eq_false_iff, Bool.and_eq_false_iff, Bool.not_eq_true', Bool.not_eq_false', bne_iff_ne, beq_iff_eq, beq_eq_false_iff_ne, bne_eq_false_iff_eq, ne_eq, Decidable.not_not, Int.not_lt, Int.not_le, gt_iff_lt, ge_iff_le, Bool.true_eq_false, Bool.false_eq_true, not_true_eq_false, not_false_eq_true] at h6p
          refine m_w rfl rfl (wg' 61 rfl rfl S rfl h6 rfl) rfl rfl S (fun w H => y_move rfl S rfl) fun a S => ?_
          refine m_w rfl rfl (wg' 61 rfl rfl S rfl h6 rfl) rfl rfl S (fun w H => y_move rfl S rfl) fun a S => ?_
          refine m_w rfl rfl (wg' 61 rfl rfl S rfl h6 rfl) rfl rfl S (fun w H => y_iaddrn rfl Try.underlying22 Fsiz23 S H rfl rfl (by first | assumption | omega | (simp only [List.length_append, List.length_take, List.length_drop, List.length_replicate, List.length_set, List.length_map, List.length_cons, List.length_nil]; omega))) fun a S => ?_
          refine m_loads _ rfl rfl (wg' 61 rfl rfl S rfl h6 rfl) rfl rfl S rfl Fsca23 rfl (by first | assumption | omega | (simp only [List.length_append, List.length_take, List.length_drop, List.length_replicate, List.length_set, List.length_map, List.length_cons, List.length_nil]; omega)) rfl fun a S => ?_
          refine m_w rfl rfl (wg' 61 rfl rfl S rfl h6 rfl) rfl rfl S (fun w H => y_move rfl S rfl) fun a S => ?_
          refine m_w rfl rfl (wg' 61 rfl rfl S rfl h6 rfl) rfl rfl S (fun w H => y_iaddrn rfl Try.underlying23 Fsiz3 S H rfl rfl (by first | assumption | omega | (simp only [List.length_append, List.length_take, List.length_drop, List.length_replicate, List.length_set, List.length_map, List.length_cons, List.length_nil]; omega))) fun a S => ?_
          refine m_w rfl rfl (wg' 61 rfl rfl S rfl h6 rfl) rfl rfl S (fun w H => y_loadsD _ 0 rfl Fsca3 S H rfl (by omega) rfl) fun a S => ?_
          refine m_w rfl rfl (wg' 61 rfl rfl S rfl h6 rfl) rfl rfl S (fun w H => y_move rfl S rfl) fun a S => ?_
          refine m_w rfl rfl (wg' 61 rfl rfl S rfl h6 rfl) rfl rfl S (fun w H => y_move rfl S rfl) fun a S => ?_
          refine m_w rfl rfl (wg' 61 rfl rfl S rfl h6 rfl) rfl rfl S (fun w H => y_iaddrn rfl Try.underlying23 Fsiz3 S H rfl rfl (by first | assumption | omega | (simp only [List.length_append, List.length_take, List.length_drop, List.length_replicate, List.length_set, List.length_map, List.length_cons, List.length_nil]; omega))) fun a S => ?_
          refine m_w rfl rfl (wg' 61 rfl rfl S rfl h6 rfl) rfl rfl S (fun w H => y_loadsD _ 0 rfl Fsca3 S H rfl (by omega) rfl) fun a S => ?_
          refine m_w rfl rfl (wg' 61 rfl rfl S rfl h6 rfl) rfl rfl S (fun w H => y_bin rfl S rfl rfl rfl) fun a S => ?_
          refine m_w rfl rfl (wn rfl) rfl rfl S (fun w H => y_and' rfl h6 S rfl rfl) fun a S => ?_
          exact kk _ (S.join 13 74 rfl rfl)
        refine m_nil (fun w H => ?_)
        refine n_then ?_
        -- cond 4
        refine c_if S rfl (fun h7 => ?_) (fun h7 => ?_)
        · have h7p := h7; try simp only [Option.isNone_some, Option.isNone_none, Option.isSome_some, Option.isSome_none, false_or, or_false, true_and, and_true, decide_eq_true_eq, decide_eq_false_iff_not, Bool.or_eq_true, Bool.and_eq_true, Bool.or_eq_false_iff, Bool.and_eq_false_iff, Bool.not_eq_true', Bool.not_eq_false', bne_iff_ne, beq_iff_eq, beq_eq_false_iff_ne, bne_eq_false_iff_eq, ne_eq, Decidable.not_not, Int.not_lt, Int.not_le, gt_iff_lt, ge_iff_le, Bool.true_eq_false, Bool.false_eq_true, not_true_eq_false, not_false_eq_true] at h7p
          have hkl : k < ps[i].2.length := by have := h7p.1; omega
          have hgd : got.getD i 0 = got[i] := by rw [List.getD_eq_getElem?_getD, List.getElem?_eq_getElem hig]; rfl
          have hpd : ps[i].2.getD k 0 = ps[i].2[k] := by rw [List.getD_eq_getElem?_getD, List.getElem?_eq_getElem hkl]; rfl
          have hne : ps[i].2[k] ≠ got[i] := by have := h7p.2; rw [hgd, hpd] at this; exact this
          have hnow2 := hm2.now hiq2
          have H := (H.front (RowsA 3 1 encI qs2)).rowOut i hiq2
          have hcl : qs2[i].2.length ≤ 1002 := by rw [hnow2]; simp only [List.length_cons, List.length_take]; omega
          refine g_skip ?_
          refine n_then ?_
          refine g_seq ?_
          refine g_block ?_
          -- region 14 DRAWS ref.go:122
          refine region_st (loud := [13, 14, 16]) (tails := [14, 16]) (free := [0, 1]) [0, 1, 2, 3, 4, 5, 6, 7, 8, 9, 10, 11, 12, 13, 14, 15, 16] [] Fmo (by kernel_rfl) (by kernel_rfl) rfl H ?_
          refine m_f rfl rfl (wn rfl) rfl rfl S (fun w H => y_move rfl S rfl) fun a S => ?_
          refine m_f rfl rfl (wn rfl) rfl rfl S (fun w H => y_move rfl S rfl) fun a S => ?_
          refine m_w rfl rfl (wn rfl) rfl rfl S (fun w H => y_move rfl S rfl) fun a S => ?_
          refine m_w rfl rfl (wn rfl) rfl rfl S (fun w H => y_move rfl S rfl) fun a S => ?_
          refine m_w rfl rfl (wn rfl) rfl rfl S (fun w H => y_iaddrn rfl Try.underlying22 Fsiz23 S H rfl rfl (by first | assumption | omega | (simp only [List.length_append, List.length_take, List.length_drop, List.length_replicate, List.length_set, List.length_map, List.length_cons, List.length_nil]; omega))) fun a S => ?_
          refine m_loads _ rfl rfl (wn rfl) rfl rfl S rfl Fsca23 rfl (by first | assumption | omega | (simp only [List.length_append, List.length_take, List.length_drop, List.length_replicate, List.length_set, List.length_map, List.length_cons, List.length_nil]; omega)) rfl fun a S => ?_
          refine m_w rfl rfl (wn rfl) rfl rfl S (fun w H => y_move rfl S rfl) fun a S => ?_
          refine m_w rfl rfl (wn rfl) rfl rfl S (fun w H => y_move rfl S rfl) fun a S => ?_
          refine m_w rfl rfl (wn rfl) rfl rfl S (fun w H => y_iaddrn rfl Try.underlying22 Fsiz23 S H rfl rfl (by first | assumption | omega | (simp only [List.length_append, List.length_take, List.length_drop, List.length_replicate, List.length_set, List.length_map, List.length_cons, List.length_nil]; omega))) fun a S => ?_
          refine m_loads _ rfl rfl (wn rfl) rfl rfl S rfl Fsca23 rfl (by first | assumption | omega | (simp only [List.length_append, List.length_take, List.length_drop, List.length_replicate, List.length_set, List.length_map, List.length_cons, List.length_nil]; omega)) rfl fun a S => ?_
          refine m_w rfl rfl (wn rfl) rfl rfl S (fun w H => y_move rfl S rfl) fun a S => ?_
          refine m_w rfl rfl (wn rfl) rfl rfl S (fun w H => y_iaddrn rfl Try.underlying23 Fsiz3 S H rfl rfl (by first | assumption | omega | (simp only [List.length_append, List.length_take, List.length_drop, List.length_replicate, List.length_set, List.length_map, List.length_cons, List.length_nil]; omega))) fun a S => ?_
          refine m_loads _ rfl rfl (wn rfl) rfl rfl S rfl Fsca3 rfl (by first | assumption | omega | (simp only [List.length_append, List.length_take, List.length_drop, List.length_replicate, List.length_set, List.length_map, List.length_cons, List.length_nil]; omega)) rfl fun a S => ?_
          refine m_l rfl rfl (fun w H => op_buildSlice (wn rfl) rfl rfl rfl Try.underlying23 Finf3 S H (idx := [0]) rfl rfl rfl (z := [.int .i64 0]) (by kernel_rfl) (cs := [_]) rfl fun b90 a w S H => m_next H (List.sublist_cons_self _ _) ?_)
          refine m_l rfl rfl (fun w H => op_append ([ps[i].2[k]]) (wn rfl) rfl rfl rfl Try.underlying23 Finf3 rfl rfl S H rfl rfl rfl rfl (by simp) (by simp [encI]) (by simp [encI, Value.oneCell']) (by simp only [List.length_cons, List.length_nil]; omega) (by simp only [List.length_cons, List.length_nil]; omega) fun u91 a w hn91 S H => m_tail H rfl ?_)
          refine m_w rfl rfl (wn rfl) rfl rfl S (fun w H => y_iaddrn rfl Try.underlying22 Fsiz23 S H rfl rfl (by first | assumption | omega | (simp only [List.length_append, List.length_take, List.length_drop, List.length_replicate, List.length_set, List.length_map, List.length_cons, List.length_nil]; omega))) fun a S => ?_
          refine m_l rfl rfl (fun w H => op_store1 _ ((u91, qs2[i].2 ++ [ps[i].2[k]])) (wn rfl) rfl rfl S H rfl rfl (H.slc _) (H.sl1 _) Fsiz23 (by first | assumption | omega | (simp only [List.length_append, List.length_take, List.length_drop, List.length_replicate, List.length_set, List.length_map, List.length_cons, List.length_nil]; omega)) (by exact rfl) fun a w S H => m_tail H rfl ?_)
          refine m_nil (fun w H => ?_)
          refine n_block ?_
          refine n_then ?_
          -- region 13 ref.go:121
          refine g_region ?_
          refine wl_of (op_y (wn rfl) rfl rfl S (y_move rfl S rfl) fun a S => ?_)
          refine wl_of (op_y (wn rfl) rfl rfl S (y_add rfl S rfl rfl (by omega)) fun a S => ?_)
          refine wl_of (op_y (wn rfl) rfl rfl S (y_assign rfl S rfl) fun a S => ?_)
          refine gl_nil ?_
          refine n_then ?_
          exact ⟨k + 1, S.nil.cons S 8 rfl, ((((((((((((((((((((((((((((S.nil.cons S 1 rfl).cons S 0 rfl).cons S 5 rfl).cons S 6 rfl).cons S 7 rfl).cons S 28 rfl).cons S 29 rfl).cons S 30 rfl).cons S 33 rfl).cons S 34 rfl).cons S 35 rfl).cons S 36 rfl).cons S 37 rfl).cons S 38 rfl).cons S 39 rfl).cons S 40 rfl).cons S 41 rfl).cons S 42 rfl).cons S 43 rfl).cons S 44 rfl).cons S 45 rfl).cons S 46 rfl).cons S 47 rfl).cons S 48 rfl).cons S 49 rfl).cons S 50 rfl).cons S 51 rfl).cons S 52 rfl).cons S 53 rfl, ⟨by omega, fun j hj => by by_cases hjk : j < k; exact hno j hjk; (obtain rfl : j = k := by omega); rw [atI_eq hkl, hgi]; exact hne, _, by rw [show atI got i :: ps[i].2.take (k + 1) = qs2[i].2 ++ [ps[i].2[k]] by rw [hnow2, List.take_succ_eq_append_getElem hkl]; rfl]; exact hm2.put u91, by exact ((H.front2 (OSl 3 u91 1 encI (qs2[i].2 ++ [ps[i].2[k]])) (RowsA 3 1 encI (qs2.eraseIdx i))).rowIn hiq2).take [OSl 23 (.slice (some ⟨b27, 0, none⟩) ps.length ps.length) 1 encRow (qs2.set i (u91, qs2[i].2 ++ [ps[i].2[k]])), RowsA 3 1 encI (qs2.set i (u91, qs2[i].2 ++ [ps[i].2[k]])), Sl vg 1 encI got, RowsS 1 encI ps, Sl v 1 encRow ps]⟩, by omega⟩
        · have h7p := h7; try simp only [Option.isNone_some, Option.isNone_none, Option.isSome_some, Option.isSome_none, false_or, or_false, true_and, and_true, decide_eq_true_eq, decide_eq_false_iff_not, Bool.or_eq_true, Bool.and_eq_true, Bool.or_eq_false_iff, Bool.and_eq_false_iff, Bool.not_eq_true', Bool.not_eq_false', bne_iff_ne, beq_iff_eq, beq_eq_false_iff_ne, bne_eq_false_iff_eq, ne_eq, Decidable.not_not, Int.not_lt, Int.not_le, gt_iff_lt, ge_iff_le, Bool.true_eq_false, Bool.false_eq_true, not_true_eq_false, not_false_eq_true] at h7p
          have hst : k = rankL ps[i].2 i got[i] := rank_stop hk (fun j hj => by rw [← hgi]; exact hno j hj) (by
            by_cases hkl : k < ps[i].2.length
            · have hgd : got.getD i 0 = got[i] := by rw [List.getD_eq_getElem?_getD, List.getElem?_eq_getElem hig]; rfl
              have hpd : ps[i].2.getD k 0 = ps[i].2[k] := by rw [List.getD_eq_getElem?_getD, List.getElem?_eq_getElem hkl]; rfl
              have := h7
              simp only [hgd, hpd] at this
              refine .inr ⟨?_, hkl⟩
              rw [atI_eq hkl]
              simpa [hkl] using this
            · exact .inl (by omega)) hac
          refine g_exit ?_
          refine x_then (x_then (x_eq ?_))
          refine n_block ?_
          refine n_then ?_
          -- region 7 ref.go:116
          refine g_region ?_
          refine wl_of (op_y (wn rfl) rfl rfl S (y_move rfl S rfl) fun a S => ?_)
          refine wl_of (op_y (wn rfl) rfl rfl S (y_add rfl S rfl rfl (by omega)) fun a S => ?_)
          refine wl_of (op_y (wn rfl) rfl rfl S (y_assign rfl S rfl) fun a S => ?_)
          refine gl_nil ?_
          refine n_then ?_
          exact ⟨i + 1, S.nil.cons S 7 rfl, (((S.nil.cons S 1 rfl).cons S 0 rfl).cons S 5 rfl).cons S 6 rfl, ⟨by omega, qs2, hm2.next hip (by unfold toW; rw [gr_row ps hip, hgi, ← hst]) (by rw [hgi]; exact hac), H⟩, by omega⟩
    · have h4p := h4; try simp only [Option.isNone_some, Option.isNone_none, Option.isSome_some, Option.isSome_none, false_or, or_false, true_and, and_true, decide_eq_true_eq, decide_eq_false_iff_not, Bool.or_eq_true, Bool.and_eq_true, Bool.or_eq_false_iff, Bool.and_eq_false_iff, Bool.not_eq_true', Bool.not_eq_false', bne_iff_ne, beq_iff_eq, beq_eq_false_iff_ne, bne_eq_false_iff_eq, ne_eq, Decidable.not_not, Int.not_lt, Int.not_le, gt_iff_lt, ge_iff_le, Bool.true_eq_false, Bool.false_eq_true, not_true_eq_false, not_false_eq_true] at h4p
      obtain rfl : i = ps.length := by omega
      have hql := hm.len
      have hto : ∀ u, u < qs.length → ∀ t ∈ rowG (gr qs) u, 0 ≤ t ∧ t < qs.length := fun u hu t ht => by
        rw [hm.all (by omega)] at ht
        have := to_rng hrt (by omega) (by rw [hgrl]; exact hrow) (by omega) ht
        omega
      have hqr : ∀ j (hj : j < qs.length), (qs[j].2.length) ≤ 1001 := fun j hj => by
        rw [hm.at_ j hj (by omega)]
        unfold toW
        have := right_len hrt j
        simp only [List.length_cons, List.length_take]; omega
      refine g_exit ?_
      refine x_then (x_then (x_eq ?_))
      refine n_then ?_
      have S := (S.nil.cons S 5 rfl).cons S 6 rfl
      refine g_seq ?_
      refine g_seq ?_
      -- region 15 ref.go:125
      refine g_region ?_
      refine wl_of (op_y (wn rfl) rfl rfl S (y_assign rfl S rfl) fun a S => ?_)
      refine gl_nil ?_
      refine n_then ?_
      refine g_block ?_
      have SU := (S.nil.cons S 5 rfl).cons S 6 rfl
      refine loop_k (X := Nat) SU (fun i => [(9, .int .i64 (i : Int))]) (fun i => i ≤ ps.length ∧ ∀ j (hj : j < qs.length), j < i → ∀ q, 1 ≤ q → q < qs[j].2.length → rchB (rowG (gr qs)) (atI qs[j].2 q).toNat j = false) (fun i => ps.length - i) 0 (S.nil.cons S 9 rfl) H (⟨by omega, fun j hj hji => by omega⟩) (fun i a w S H hi => ?_)
      simp only [List.cons_append, List.nil_append] at S hi
      obtain ⟨hi, hno⟩ := hi
      refine g_seq ?_
      refine g_seq ?_
      -- region 16 ref.go:125
      refine g_region ?_
      refine wl_of (op_y (wn rfl) rfl rfl S (y_move rfl S rfl) fun a S => ?_)
      refine wl_of (op_y (wn rfl) rfl rfl S (y_move rfl S rfl) fun a S => ?_)
      refine wl_of (op_y (wn rfl) rfl rfl S (y_bin rfl S rfl rfl rfl) fun a S => ?_)
      refine gl_nil ?_
      refine n_then ?_
      -- cond 5
      refine c_if S rfl (fun h8 => ?_) (fun h8 => ?_)
      · have h8p := h8; try simp only [Option.isNone_some, Option.isNone_none, Option.isSome_some, Option.isSome_none, false_or, or_false, true_and, and_true, decide_eq_true_eq, decide_eq_false_iff_not, Bool.or_eq_true, Bool.and_eq_true, Bool.or_eq_false_iff, Bool.and_eq_false_iff, Bool.not_eq_true', Bool.not_eq_false', bne_iff_ne, beq_iff_eq, beq_eq_false_iff_ne, bne_eq_false_iff_eq, ne_eq, Decidable.not_not, Int.not_lt, Int.not_le, gt_iff_lt, ge_iff_le, Bool.true_eq_false, Bool.false_eq_true, not_true_eq_false, not_false_eq_true] at h8p
        have hiq : i < qs.length := by omega
        have hqi := hqr i hiq
        refine g_skip ?_
        refine n_then ?_
        refine g_seq ?_
        refine g_block ?_
        refine g_seq ?_
        -- region 18 ref.go:126
        refine g_region ?_
        refine wl_of (op_y (wn rfl) rfl rfl S (y_assign rfl S rfl) fun a S => ?_)
        refine gl_nil ?_
        refine n_then ?_
        refine g_block ?_
        have SU := (((((S.nil.cons S 5 rfl).cons S 6 rfl).cons S 9 rfl).cons S 93 rfl).cons S 94 rfl).cons S 95 rfl
        refine loop_k (X := Nat) SU (fun k => [(10, .int .i64 (k : Int))]) (fun k => 1 ≤ k ∧ (k ≤ qs[i].2.length ∨ k = 1) ∧ ∀ q, 1 ≤ q → q < k → rchB (rowG (gr qs)) (atI qs[i].2 q).toNat i = false) (fun k => qs[i].2.length - k) 1 (S.nil.cons S 10 rfl) H (⟨by omega, by omega, fun j hj hji => by omega⟩) (fun k a w S H hi => ?_)
        simp only [List.cons_append, List.nil_append] at S hi
        obtain ⟨hk1, hk, hnq⟩ := hi
        refine g_seq ?_
        refine g_seq ?_
        -- region 19 ref.go:126
        refine g_region ?_
        refine wl_of (op_y (wn rfl) rfl rfl S (y_move rfl S rfl) fun a S => ?_)
        refine wl_of (op_y (wn rfl) rfl rfl S (y_move rfl S rfl) fun a S => ?_)
        refine wl_of (op_y (wn rfl) rfl rfl S (y_move rfl S rfl) fun a S => ?_)
        refine wl_of (op_y (wn rfl) rfl rfl S (y_iaddrn rfl Try.underlying22 Fsiz23 S H rfl rfl (by first | assumption | omega | (simp only [List.length_append, List.length_take, List.length_drop, List.length_replicate, List.length_set, List.length_map, List.length_cons, List.length_nil]; omega))) fun a S => ?_)
        refine wl_of (op_y (wn rfl) rfl rfl S (y_loads _ rfl Fsca23 S H rfl (by first | assumption | omega | (simp only [List.length_append, List.length_take, List.length_drop, List.length_replicate, List.length_set, List.length_map, List.length_cons, List.length_nil]; omega)) rfl) fun a S => ?_)
        refine wl_of (op_y (wn rfl) rfl rfl S (y_lens rfl Try.underlying23 S H rfl) fun a S => ?_)
        refine wl_of (op_y (wn rfl) rfl rfl S (y_bin rfl S rfl rfl rfl) fun a S => ?_)
        refine gl_nil ?_
        refine n_then ?_
        -- cond 6
        refine c_if S rfl (fun h9 => ?_) (fun h9 => ?_)
        · have h9p := h9; try simp only [Option.isNone_some, Option.isNone_none, Option.isSome_some, Option.isSome_none, false_or, or_false, true_and, and_true, decide_eq_true_eq, decide_eq_false_iff_not, Bool.or_eq_true, Bool.and_eq_true, Bool.or_eq_false_iff, Bool.and_eq_false_iff, Bool.not_eq_true', Bool.not_eq_false', bne_iff_ne, beq_iff_eq, beq_eq_false_iff_ne, bne_eq_false_iff_eq, ne_eq, Decidable.not_not, Int.not_lt, Int.not_le, gt_iff_lt, ge_iff_le, Bool.true_eq_false, Bool.false_eq_true, not_true_eq_false, not_false_eq_true] at h9p
          have hkl : k < qs[i].2.length := by omega
          obtain ⟨t, ht⟩ : ∃ t : Nat, qs[i].2[k] = t := ⟨qs[i].2[k].toNat, by have := hto i hiq _ (by rw [gr_row qs hiq]; exact List.getElem_mem hkl); omega⟩
          have htn : t < qs.length := by have := hto i hiq _ (by rw [gr_row qs hiq]; exact List.getElem_mem hkl); omega
          have hat : atI qs[i].2 k = t := by rw [atI_eq hkl]; exact ht
          refine g_skip ?_
          refine n_then ?_
          refine g_seq ?_
          refine g_block ?_
          refine g_seq ?_
          -- region 21 ref.go:127
          refine g_region ?_
          refine wl_of (op_y (wn rfl) rfl rfl S (y_move rfl S rfl) fun a S => ?_)
          refine wl_of (op_y (wn rfl) rfl rfl S (y_move rfl S rfl) fun a S => ?_)
          refine wl_of (op_y (wn rfl) rfl rfl S (y_move rfl S rfl) fun a S => ?_)
          refine wl_of (op_y (wn rfl) rfl rfl S (y_iaddrn rfl Try.underlying22 Fsiz23 S H rfl rfl (by first | assumption | omega | (simp only [List.length_append, List.length_take, List.length_drop, List.length_replicate, List.length_set, List.length_map, List.length_cons, List.length_nil]; omega))) fun a S => ?_)
          refine wl_of (op_y (wn rfl) rfl rfl S (y_loads _ rfl Fsca23 S H rfl (by first | assumption | omega | (simp only [List.length_append, List.length_take, List.length_drop, List.length_replicate, List.length_set, List.length_map, List.length_cons, List.length_nil]; omega)) rfl) fun a S => ?_)
          refine wl_of (op_y (wn rfl) rfl rfl S (y_move rfl S rfl) fun a S => ?_)
          refine wl_of (op_y (wn rfl) rfl rfl S (y_iaddrn rfl Try.underlying23 Fsiz3 S H rfl rfl (by first | assumption | omega | (simp only [List.length_append, List.length_take, List.length_drop, List.length_replicate, List.length_set, List.length_map, List.length_cons, List.length_nil]; omega))) fun a S => ?_)
          refine wl_of (op_y (wn rfl) rfl rfl S (y_loads _ rfl Fsca3 S H rfl (by first | assumption | omega | (simp only [List.length_append, List.length_take, List.length_drop, List.length_replicate, List.length_set, List.length_map, List.length_cons, List.length_nil]; omega)) rfl) fun a S => ?_)
          rw [ht] at S
          refine wl_of (op_y (wn rfl) rfl rfl S (y_move rfl S rfl) fun a S => ?_)
          refine wl_of (op_call (wn rfl) rfl rfl S (co_func rfl Try.call30 S rfl) (reaches_spec (.slice (some ⟨b27, 0, none⟩) ps.length ps.length) qs t i _ (H.sl (.slice (some ⟨b27, 0, none⟩) ps.length ps.length)) (H.rws 3 qs) (by omega) (by omega) hto) fun v w hc a S => ?_)
          obtain ⟨rfl, he⟩ := hc
          have H := H.ext he
          refine gl_nil ?_
          refine n_then ?_
          -- cond 7
          refine c_if S rfl (fun h10 => ?_) (fun h10 => ?_)
          · have h10p := h10; try simp only [Option.isNone_some, Option.isNone_none, Option.isSome_some, Option.isSome_none, false_or, or_false, true_and, and_true, decide_eq_true_eq, decide_eq_false_iff_not, Bool.or_eq_true, Bool.and_eq_true, Bool.or_eq_false_iff, Bool.and_eq_false_iff, Bool.not_eq_true', Bool.not_eq_false', bne_iff_ne, beq_iff_eq, beq_eq_false_iff_ne, bne_eq_false_iff_eq, ne_eq, Decidable.not_not, Int.not_lt, Int.not_le, gt_iff_lt, ge_iff_le, Bool.true_eq_false, Bool.false_eq_true, not_true_eq_false, not_false_eq_true] at h10p
            refine g_seq ?_
            -- region 22 ref.go:128
            refine g_region ?_
            refine wl_of (op_y (wn rfl) rfl rfl S (y_assign rfl S rfl) fun a S => ?_)
            refine gl_nil ?_
            refine n_then ?_
            refine g_ret ?_
            refine r_block (r_then (r_then (r_block (r_block (r_then (r_then (r_block (r_then (ret1 rfl S rfl ?_)))))))))
            exact ⟨congrArg Value.bool (stab_no (fun hs => mid_bad hm (by rw [← hql]; exact hto) hiq hk1 hkl hat (by simpa using h10) hs.2)).symm, H.toExt⟩
          · have h10p := h10; try simp only [Option.isNone_some, Option.isNone_none, Option.isSome_some, Option.isSome_none, false_or, or_false, true_and, and_true, decide_eq_true_eq, decide_eq_false_iff_not, Bool.or_eq_true, Bool.and_eq_true, Bool.or_eq_false_iff, Bool.and_eq_false_iff, Bool.not_eq_true', Bool.not_eq_false', bne_iff_ne, beq_iff_eq, beq_eq_false_iff_ne, bne_eq_false_iff_eq, ne_eq, Decidable.not_not, Int.not_lt, Int.not_le, gt_iff_lt, ge_iff_le, Bool.true_eq_false, Bool.false_eq_true, not_true_eq_false, not_false_eq_true] at h10p
            refine g_skip ?_
            refine n_block ?_
            refine n_then ?_
            -- region 20 ref.go:126
            refine g_region ?_
            refine wl_of (op_y (wn rfl) rfl rfl S (y_move rfl S rfl) fun a S => ?_)
            refine wl_of (op_y (wn rfl) rfl rfl S (y_add rfl S rfl rfl (by omega)) fun a S => ?_)
            refine wl_of (op_y (wn rfl) rfl rfl S (y_assign rfl S rfl) fun a S => ?_)
            refine gl_nil ?_
            refine n_then ?_
            refine ⟨k + 1, S.nil.cons S 10 rfl, (((((S.nil.cons S 5 rfl).cons S 6 rfl).cons S 9 rfl).cons S 93 rfl).cons S 94 rfl).cons S 95 rfl, H, ?_, ?_⟩
            · exact ⟨by omega, by omega, fun q h1 h2 => by by_cases hq2 : q < k; exact hnq q h1 hq2; (obtain rfl : q = k := by omega); rw [hat, Int.toNat_natCast]; simpa using h10⟩
            · omega
        · have h9p := h9; try simp only [Option.isNone_some, Option.isNone_none, Option.isSome_some, Option.isSome_none, false_or, or_false, true_and, and_true, decide_eq_true_eq, decide_eq_false_iff_not, Bool.or_eq_true, Bool.and_eq_true, Bool.or_eq_false_iff, Bool.and_eq_false_iff, Bool.not_eq_true', Bool.not_eq_false', bne_iff_ne, beq_iff_eq, beq_eq_false_iff_ne, bne_eq_false_iff_eq, ne_eq, Decidable.not_not, Int.not_lt, Int.not_le, gt_iff_lt, ge_iff_le, Bool.true_eq_false, Bool.false_eq_true, not_true_eq_false, not_false_eq_true] at h9p
          refine g_exit ?_
          refine x_then (x_then (x_eq ?_))
          refine n_block ?_
          refine n_then ?_
          -- region 17 ref.go:125
          refine g_region ?_
          refine wl_of (op_y (wn rfl) rfl rfl S (y_move rfl S rfl) fun a S => ?_)
          refine wl_of (op_y (wn rfl) rfl rfl S (y_add rfl S rfl rfl (by omega)) fun a S => ?_)
          refine wl_of (op_y (wn rfl) rfl rfl S (y_assign rfl S rfl) fun a S => ?_)
          refine gl_nil ?_
          refine n_then ?_
          refine ⟨i + 1, S.nil.cons S 9 rfl, (S.nil.cons S 5 rfl).cons S 6 rfl, H, ?_, ?_⟩
          · exact ⟨by omega, fun j hj hji => by by_cases hj2 : j < i; exact hno j hj hj2; (obtain rfl : j = i := by omega); exact fun q h1 h2 => hnq q h1 (by omega)⟩
          · omega
      · have h8p := h8; try simp only [Option.isNone_some, Option.isNone_none, Option.isSome_some, Option.isSome_none, false_or, or_false, true_and, and_true, decide_eq_true_eq, decide_eq_false_iff_not, Bool.or_eq_true, Bool.and_eq_true, Bool.or_eq_false_iff, Bool.and_eq_false_iff, Bool.not_eq_true', Bool.not_eq_false', bne_iff_ne, beq_iff_eq, beq_eq_false_iff_ne, bne_eq_false_iff_eq, ne_eq, Decidable.not_not, Int.not_lt, Int.not_le, gt_iff_lt, ge_iff_le, Bool.true_eq_false, Bool.false_eq_true, not_true_eq_false, not_false_eq_true] at h8p
        refine g_exit ?_
        refine x_then (x_then (x_eq ?_))
        refine n_then ?_
        have S := S.nil
        refine g_seq ?_
        -- region 23 ref.go:132
        refine g_region ?_
        refine wl_of (op_y (wn rfl) rfl rfl S (y_assign rfl S rfl) fun a S => ?_)
        refine gl_nil ?_
        refine n_then ?_
        refine g_ret ?_
        refine ret1 rfl S rfl ?_
        exact ⟨congrArg Value.bool (stab_yes (by omega) ⟨by omega, hrt, by rw [hgrl]; exact hrow, fun i hi => by rw [hgrl] at hi; rw [gr_row ps hi]; exact hm.acc i hi hi, mid_free hm (by rw [← hql]; exact hto) (fun j hj q h1 h2 => hno j hj (by omega) q h1 h2)⟩).symm, H.toExt⟩

end Go.Proofs.Ytoghkehlmibniaa
