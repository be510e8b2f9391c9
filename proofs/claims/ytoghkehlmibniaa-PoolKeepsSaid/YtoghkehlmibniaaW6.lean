/- The walks. No condition. -/
import Derived.Test.YtoghkehlmibniaaChecked
import Derived.Test.YtoghkehlmibniaaGwQue
import Derived.Test.YtoghkehlmibniaaFacts
import Derived.Test.YtoghkehlmibniaaPlain
import Derived.Test.YtoghkehlmibniaaPlainC
import Derived.Test.YtoghkehlmibniaaW5
namespace Go.Proofs.Ytoghkehlmibniaa
open Go Go.Gw
set_option linter.unusedVariables false
set_option linter.unusedSimpArgs false
set_option maxHeartbeats 4000000 in
/-- foyer/pool.Stable -/
theorem stable_spec (v : Value) (ps : List (Value × List Int)) (vg : Value) (got : List Int) (w0 : World) (hv : IsSl w0 v 1 encRow ps) (hr : ∀ p ∈ ps, IsSl w0 p.1 1 encI p.2) (hcap : ∀ p ∈ ps, capOK p.1) (hg : IsSl w0 vg 1 encI got) (hlp : ps.length ≤ 1000000) :
    Ret Try.prog 16 #[v, vg] w0 (fun u w => u = .bool (stabB (gr ps) got) ∧ Ext w0 w) := by
  refine ret_of_wp (nt := 146) Try.func16 rfl rfl rfl (fl := [(0, v), (1, vg)]) rfl (fun a S => ?_)
  have H := HSat.start w0
  have H := H.ro0 (Sl v 1 encRow ps) rfl (hv)
  have H := H.ro0 (RowsS 1 encI ps) rfl (hr)
  have H := H.ro0 (Sl vg 1 encI got) rfl (hg)
  have H := H.ro0 (CapS ps) rfl (hcap)
  have hl := hv.len
  have hgl := hg.len
  have hgrl := gr_len ps
  refine g_seq ?_
  -- region 0 pool.go:73
  refine g_region ?_
  refine wl_of (op_box1 (wn rfl) rfl rfl rfl S H rfl (H.slc _) fun b3 a w S H => ?_)
  refine wl_of (op_y (wn rfl) rfl rfl S (y_assign rfl S rfl) fun a S => ?_)
  refine gl_nil ?_
  refine n_then ?_
  refine g_scope ?_
  refine g_seq ?_
  -- region 1 pool.go:74
  refine g_region ?_
  refine wl_of (op_y (wn rfl) rfl rfl S (y_move rfl S rfl) fun a S => ?_)
  refine wl_of (op_y (wn rfl) rfl rfl S (y_lens rfl Try.underlying22 S H rfl) fun a S => ?_)
  refine wl_of (op_y (wn rfl) rfl rfl S (y_assign rfl S rfl) fun a S => ?_)
  refine gl_nil ?_
  refine n_then ?_
  refine g_seq ?_
  refine g_seq ?_
  -- region 2 pool.go:75
  refine g_region ?_
  refine wl_of (op_y (wn rfl) rfl rfl S (y_move rfl S rfl) fun a S => ?_)
  refine wl_of (op_y (wn rfl) rfl rfl S (y_bin rfl S rfl rfl rfl) fun a S => ?_)
  refine wl_of (op_y (wn rfl) rfl rfl S (y_move rfl S rfl) fun a S => ?_)
  refine' wl_or 4 24 rfl S H rfl rfl rfl rfl rfl rfl rfl (fun _ S => (wn rfl)) (fun h1 kk => ?yh1) (fun a w S H => ?_)
  case yh1 =>
    have h1p := h1; try simp only [Option.isNone_some, Option.isNone_none, Option.isSome_some, Option.isSome_none, false_or, or_false, true_and, and_true, decide_eq_true_eq, decide_eq_false_iff_not, Bool.or_eq_true, Bool.and_eq_true, Bool.or_eq_false_iff, Bool.and_eq_false_iff, Bool.not_eq_true', Bool.not_eq_false', bne_iff_ne, beq_iff_eq, beq_eq_false_iff_ne, bne_eq_false_iff_eq, ne_eq, Decidable.not_not, Int.not_lt, Int.not_le, gt_iff_lt, ge_iff_le, Bool.true_eq_false, Bool.false_eq_true, not_true_eq_false, not_false_eq_true] at h1p
    refine wl_of (op_y (wg' 24 rfl rfl S rfl h1 rfl) rfl rfl S (y_load rfl Fsca23 S H rfl rfl) fun a S => ?_)
    refine wl_of (op_y (wg' 24 rfl rfl S rfl h1 rfl) rfl rfl S (y_lens rfl Try.underlying23 S H rfl) fun a S => ?_)
    refine wl_of (op_y (wg' 24 rfl rfl S rfl h1 rfl) rfl rfl S (y_move rfl S rfl) fun a S => ?_)
    refine wl_of (op_y (wg' 24 rfl rfl S rfl h1 rfl) rfl rfl S (y_bin rfl S rfl rfl rfl) fun a S => ?_)
    refine wl_of (op_y (wn rfl) rfl rfl S (y_or' rfl h1 S rfl rfl) fun a S => ?_)
    exact kk _ _ (S.join 5 29 rfl rfl) H
  refine wl_of (op_y (wn rfl) rfl rfl S (y_move rfl S rfl) fun a S => ?_)
  refine' wl_or 3 30 rfl S H rfl rfl rfl rfl rfl rfl rfl (fun _ S => (wn rfl)) (fun h2 kk => ?yh2) (fun a w S H => ?_)
  case yh2 =>
    have h2p := h2; try simp only [Option.isNone_some, Option.isNone_none, Option.isSome_some, Option.isSome_none, false_or, or_false, true_and, and_true, decide_eq_true_eq, decide_eq_false_iff_not, Bool.or_eq_true, Bool.and_eq_true, Bool.or_eq_false_iff, Bool.and_eq_false_iff, Bool.not_eq_true', Bool.not_eq_false', bne_iff_ne, beq_iff_eq, beq_eq_false_iff_ne, bne_eq_false_iff_eq, ne_eq, Decidable.not_not, Int.not_lt, Int.not_le, gt_iff_lt, ge_iff_le, Bool.true_eq_false, Bool.false_eq_true, not_true_eq_false, not_false_eq_true] at h2p
    refine wl_of (op_y (wg' 30 rfl rfl S rfl h2 rfl) rfl rfl S (y_move rfl S rfl) fun a S => ?_)
    refine wl_of (op_call (wg' 30 rfl rfl S rfl h2 rfl) rfl rfl S (co_func rfl Try.call23 S rfl) (right_spec v ps _ (H.sl v) (H.rwsS ps)) fun v w hc a S => ?_)
    obtain ⟨rfl, he⟩ := hc
    have H := H.ext he
    refine wl_of (op_y (wg' 30 rfl rfl S rfl h2 rfl) rfl rfl S (y_not rfl S rfl) fun a S => ?_)
    refine wl_of (op_y (wn rfl) rfl rfl S (y_or' rfl h2 S rfl rfl) fun a S => ?_)
    exact kk _ _ (S.join 4 34 rfl rfl) H
  refine gl_nil ?_
  refine n_then ?_
  have S := ((((S.nil.cons S 0 rfl).cons S 3 rfl).cons S 4 rfl).cons S 5 rfl).cons S 34 rfl
  -- cond 1
  refine c_if S rfl (fun h3 => ?_) (fun h3 => ?_)
  · have h3p := h3; try simp only [Option.isNone_some, Option.isNone_none, Option.isSome_some, Option.isSome_none, false_or, or_false, true_and, and_true, decide_eq_true_eq, decide_eq_false_iff_not, Bool.or_eq_true, Bool.and_eq_true, Bool.or_eq_false_iff, Bool.and_eq_false_iff, Bool.not_eq_true', Bool.not_eq_false', bne_iff_ne, beq_iff_eq, beq_eq_false_iff_ne, bne_eq_false_iff_eq, ne_eq, Decidable.not_not, Int.not_lt, Int.not_le, gt_iff_lt, ge_iff_le, Bool.true_eq_false, Bool.false_eq_true, not_true_eq_false, not_false_eq_true] at h3p
    refine g_seq ?_
    -- region 3 pool.go:76
    refine g_region ?_
    refine wl_of (op_y (wn rfl) rfl rfl S (y_assign rfl S rfl) fun a S => ?_)
    refine gl_nil ?_
    refine n_then ?_
    refine g_ret ?_
    refine r_then (r_scope (ret1 rfl S rfl ?_))
    exact ⟨congrArg Value.bool (stab_no (fun hs => by
      have h1 := right_iff.2 hs.2.right
      have h2 := hs.2.len
      rcases h3p with h | h
      · omega
      · rw [h1] at h; cases h)).symm, H.toExt⟩
  · have h3p := h3; try simp only [Option.isNone_some, Option.isNone_none, Option.isSome_some, Option.isSome_none, false_or, or_false, true_and, and_true, decide_eq_true_eq, decide_eq_false_iff_not, Bool.or_eq_true, Bool.and_eq_true, Bool.or_eq_false_iff, Bool.and_eq_false_iff, Bool.not_eq_true', Bool.not_eq_false', bne_iff_ne, beq_iff_eq, beq_eq_false_iff_ne, bne_eq_false_iff_eq, ne_eq, Decidable.not_not, Int.not_lt, Int.not_le, gt_iff_lt, ge_iff_le, Bool.true_eq_false, Bool.false_eq_true, not_true_eq_false, not_false_eq_true] at h3p
    have hrt : Right (gr ps) := right_iff.1 (by simpa using h3p.2)
    have hn1 : ps.length ≤ 1000 := by have := h3p.1; omega
    have hgl2 : got.length = ps.length := by have := h3p.1; omega
    refine g_skip ?_
    refine n_then ?_
    refine g_seq ?_
    -- region 4 pool.go:78
    refine g_region ?_
    refine wl_of (op_y (wn rfl) rfl rfl S (y_move rfl S rfl) fun a S => ?_)
    refine wl_of (op_make (encB) (false) (wn rfl) rfl rfl rfl Try.underlying38 Finf4 rfl rfl S H rfl rfl rfl (by omega) (by omega) fun b36 a w S H => ?_)
    refine wl_of (op_y (wn rfl) rfl rfl S (y_assign rfl S rfl) fun a S => ?_)
    refine gl_nil ?_
    refine n_then ?_
    refine g_seq ?_
    refine g_seq ?_
    -- region 5 pool.go:79
    refine g_region ?_
    refine wl_of (op_y (wn rfl) rfl rfl S (y_load rfl Fsca23 S H rfl rfl) fun a S => ?_)
    refine wl_of (op_y (wn rfl) rfl rfl S (y_lens rfl Try.underlying23 S H rfl) fun a S => ?_)
    refine wl_of (op_y (wn rfl) rfl rfl S (y_move rfl S rfl) fun a S => ?_)
    refine gl_nil ?_
    refine n_then ?_
    refine g_block ?_
    -- slots written in the loop and forgotten at its head: [4]
    have H : HSat No w0 [OSl 4 (.slice (some ⟨b36, 0, none⟩) ps.length ps.length) 1 encB (setT (List.replicate ps.length false) (got.take 0)), Cel b3 23 [vg], CapS ps, Sl vg 1 encI got, RowsS 1 encI ps, Sl v 1 encRow ps] _ := H
    have SU := (((((S.nil.cons S 0 rfl).cons S 3 rfl).cons S 5 rfl).cons S 6 rfl).cons S 37 rfl).cons S 38 rfl
    refine loopW (X := Nat) SU (fun q => [(39, .int .i64 (q : Int))]) (fun q w => q ≤ got.length ∧ (∀ j, j < q → (0 ≤ atI got j ∧ atI got j < ps.length) ∧ ∀ p, p < j → atI got p ≠ atI got j) ∧ HSat No w0 [OSl 4 (.slice (some ⟨b36, 0, none⟩) ps.length ps.length) 1 encB (setT (List.replicate ps.length false) (got.take q)), Cel b3 23 [vg], CapS ps, Sl vg 1 encI got, RowsS 1 encI ps, Sl v 1 encRow ps] w) (fun q => got.length - q) 0 (S.nil.cons S 39 rfl) (⟨by omega, fun j hj => by omega, H⟩) (fun q a w S hW => ?_)
    simp only [List.cons_append, List.nil_append] at S
    clear H
    obtain ⟨hq, hpre, H⟩ := hW
    refine g_seq ?_
    -- region 6 pool.go:79
    refine g_region ?_
    refine wl_of (op_y (wn rfl) rfl rfl S (y_bin rfl S rfl rfl rfl) fun a S => ?_)
    refine gl_nil ?_
    refine n_then ?_
    refine g_seq ?_
    -- cond 2
    refine c_if S rfl (fun h4 => ?_) (fun h4 => ?_)
    · have h4p := h4; try simp only [Option.isNone_some, Option.isNone_none, Option.isSome_some, Option.isSome_none, false_or, or_false, true_and, and_true, decide_eq_true_eq, decide_eq_false_iff_not, Bool.or_eq_true, Bool.and_eq_true, Bool.or_eq_false_iff, Bool.and_eq_false_iff, Bool.not_eq_true', Bool.not_eq_false', bne_iff_ne, beq_iff_eq, beq_eq_false_iff_ne, bne_eq_false_iff_eq, ne_eq, Decidable.not_not, Int.not_lt, Int.not_le, gt_iff_lt, ge_iff_le, Bool.true_eq_false, Bool.false_eq_true, not_true_eq_false, not_false_eq_true] at h4p
      have hql : q < got.length := by omega
      have hat := atI_eq hql
      have hnb := not_before hql
      have hsl : (setT (List.replicate ps.length false) (got.take q)).length = ps.length := by rw [setT_len]; simp
      have hget := fun (h : 0 ≤ got[q]) => setT_get (n := ps.length) (Nat.le_of_lt hql) (fun j hj => (hpre j hj).1) (x := got[q]) h
      refine g_skip ?_
      refine n_then ?_
      refine g_seq ?_
      refine g_block ?_
      refine g_seq ?_
      -- region 7 pool.go:79
      refine g_region ?_
      refine wl_of (op_y (wn rfl) rfl rfl S (y_iaddrn rfl Try.underlying23 Fsiz3 S H rfl rfl (by first | assumption | omega | (simp only [List.length_append, List.length_take, List.length_drop, List.length_replicate, List.length_set, List.length_map, List.length_cons, List.length_nil]; omega))) fun a S => ?_)
      refine wl_of (op_y (wn rfl) rfl rfl S (y_loads _ rfl Fsca3 S H rfl (by first | assumption | omega | (simp only [List.length_append, List.length_take, List.length_drop, List.length_replicate, List.length_set, List.length_map, List.length_cons, List.length_nil]; omega)) rfl) fun a S => ?_)
      refine wl_of (op_y (wn rfl) rfl rfl S (y_assign rfl S rfl) fun a S => ?_)
      refine gl_nil ?_
      refine n_then ?_
      refine g_seq ?_
      refine g_seq ?_
      -- region 8 pool.go:80
      refine g_region ?_
      refine wl_of (op_y (wn rfl) rfl rfl S (y_move rfl S rfl) fun a S => ?_)
      refine wl_of (op_y (wn rfl) rfl rfl S (y_bin rfl S rfl rfl rfl) fun a S => ?_)
      refine wl_of (op_y (wn rfl) rfl rfl S (y_move rfl S rfl) fun a S => ?_)
      refine' wl_or 3 45 rfl S H rfl rfl rfl rfl rfl rfl rfl (fun _ S => (wn rfl)) (fun h5 kk => ?yh5) (fun a w S H => ?_)
      case yh5 =>
        have h5p := h5; try simp only [Option.isNone_some, Option.isNone_none, Option.isSome_some, Option.isSome_none, false_or, or_false, true_and, and_true, decide_eq_true_eq, decide_eq_false_iff_not, Bool.or_eq_true, Bool.and_eq_true, Bool.or_eq_false_iff, Bool.and_eq_false_iff, Bool.not_eq_true', Bool.not_eq_false', bne_iff_ne, beq_iff_eq, beq_eq_false_iff_ne, bne_eq_false_iff_eq, ne_eq, Decidable.not_not, Int.not_lt, Int.not_le, gt_iff_lt, ge_iff_le, Bool.true_eq_false, Bool.false_eq_true, not_true_eq_false, not_false_eq_true] at h5p
        refine wl_of (op_y (wg' 45 rfl rfl S rfl h5 rfl) rfl rfl S (y_move rfl S rfl) fun a S => ?_)
        refine wl_of (op_y (wg' 45 rfl rfl S rfl h5 rfl) rfl rfl S (y_move rfl S rfl) fun a S => ?_)
        refine wl_of (op_y (wg' 45 rfl rfl S rfl h5 rfl) rfl rfl S (y_bin rfl S rfl rfl rfl) fun a S => ?_)
        refine wl_of (op_y (wn rfl) rfl rfl S (y_or' rfl h5 S rfl rfl) fun a S => ?_)
        exact kk _ _ (S.join 4 49 rfl rfl) H
      refine wl_of (op_y (wn rfl) rfl rfl S (y_move rfl S rfl) fun a S => ?_)
      refine' wl_or 4 50 rfl S H rfl rfl rfl rfl rfl rfl rfl (fun _ S => (wn rfl)) (fun h6 kk => ?yh6) (fun a w S H => ?_)
      case yh6 =>
        have h6p := h6; try simp only [Option.isNone_some, Option.isNone_none, Option.isSome_some, Option.isSome_none, false_or, or_false, true_and, and_true, decide_eq_true_eq, decide_eq_false_iff_not, Bool.or_eq_true, Bool.and_eq_true, Bool.or_eq_false_iff, Bool.and_eq_false_iff, Bool.not_eq_true', Bool.not_eq_false', bne_iff_ne, beq_iff_eq, beq_eq_false_iff_ne, bne_eq_false_iff_eq, ne_eq, Decidable.not_not, Int.not_lt, Int.not_le, gt_iff_lt, ge_iff_le, Bool.true_eq_false, Bool.false_eq_true, not_true_eq_false, not_false_eq_true] at h6p
        refine wl_of (op_y (wg' 50 rfl rfl S rfl h6 rfl) rfl rfl S (y_move rfl S rfl) fun a S => ?_)
        refine wl_of (op_y (wg' 50 rfl rfl S rfl h6 rfl) rfl rfl S (y_move rfl S rfl) fun a S => ?_)
        refine wl_of (op_y (wg' 50 rfl rfl S rfl h6 rfl) rfl rfl S (y_iaddrs rfl Try.underlying38 Fsiz4 S H rfl rfl (by first | assumption | omega | (simp only [List.length_append, List.length_take, List.length_drop, List.length_replicate, List.length_set, List.length_map, List.length_cons, List.length_nil]; omega))) fun a S => ?_)
        refine wl_of (op_y (wg' 50 rfl rfl S rfl h6 rfl) rfl rfl S (y_loadsD _ false rfl Fsca4 S H rfl (by rw [hsl]; omega) rfl) fun a S => ?_)
        refine wl_of (op_y (wn rfl) rfl rfl S (y_or' rfl h6 S rfl rfl) fun a S => ?_)
        exact kk _ _ (S.join 5 55 rfl rfl) H
      refine gl_nil ?_
      refine n_then ?_
      -- cond 3
      refine c_if S rfl (fun h7 => ?_) (fun h7 => ?_)
      · have h7p := h7; try simp only [Option.isNone_some, Option.isNone_none, Option.isSome_some, Option.isSome_none, false_or, or_false, true_and, and_true, decide_eq_true_eq, decide_eq_false_iff_not, Bool.or_eq_true, Bool.and_eq_true, Bool.or_eq_false_iff, Bool.and_eq_false_iff, Bool.not_eq_true', Bool.not_eq_false', bne_iff_ne, beq_iff_eq, beq_eq_false_iff_ne, bne_eq_false_iff_eq, ne_eq, Decidable.not_not, Int.not_lt, Int.not_le, gt_iff_lt, ge_iff_le, Bool.true_eq_false, Bool.false_eq_true, not_true_eq_false, not_false_eq_true] at h7p
        have hx : got[q] < 0 ∨ got[q] ≥ ps.length ∨ got[q] ∈ got.take q := by
          by_cases h0 : got[q] < 0
          · exact .inl h0
          · have hg := hget (by omega)
            unfold atB at hg
            rw [hg] at h7
            simp only [Bool.or_eq_true, decide_eq_true_eq] at h7
            rcases h7 with (h | h) | h
            · exact .inl h
            · exact .inr (.inl h)
            · exact .inr (.inr h)
        refine g_seq ?_
        -- region 9 pool.go:81
        refine g_region ?_
        refine wl_of (op_y (wn rfl) rfl rfl S (y_assign rfl S rfl) fun a S => ?_)
        refine gl_nil ?_
        refine n_then ?_
        refine g_ret ?_
        refine r_then (r_block (r_then (r_then (r_block (r_then (r_scope (ret1 rfl S rfl ?_)))))))
        exact ⟨congrArg Value.bool (stab_no (fun hs => by
          have h1 := hs.2.row q hql
          rw [hgrl] at h1
          have hat2 := hat
          rcases hx with hx | hx | hx
          · omega
          · omega
          · exact hnb.1 h1.2 hx)).symm, H.toExt⟩
      · have h7p := h7; try simp only [Option.isNone_some, Option.isNone_none, Option.isSome_some, Option.isSome_none, false_or, or_false, true_and, and_true, decide_eq_true_eq, decide_eq_false_iff_not, Bool.or_eq_true, Bool.and_eq_true, Bool.or_eq_false_iff, Bool.and_eq_false_iff, Bool.not_eq_true', Bool.not_eq_false', bne_iff_ne, beq_iff_eq, beq_eq_false_iff_ne, bne_eq_false_iff_eq, ne_eq, Decidable.not_not, Int.not_lt, Int.not_le, gt_iff_lt, ge_iff_le, Bool.true_eq_false, Bool.false_eq_true, not_true_eq_false, not_false_eq_true] at h7p
        have hx0 : 0 ≤ got[q] ∧ got[q] < ps.length := by have := h7p.1; omega
        have hx : got[q] ∉ got.take q := by
          have hg := hget hx0.1
          unfold atB at hg
          have := h7p.2
          rw [hg] at this; simpa using this
        refine g_skip ?_
        refine n_then ?_
        -- region 10 pool.go:83
        refine g_region ?_
        refine wl_of (op_y (wn rfl) rfl rfl S (y_move rfl S rfl) fun a S => ?_)
        refine wl_of (op_y (wn rfl) rfl rfl S (y_move rfl S rfl) fun a S => ?_)
        refine wl_of (op_y (wn rfl) rfl rfl S (y_iaddrs rfl Try.underlying38 Fsiz4 S H rfl rfl (by first | assumption | omega | (simp only [List.length_append, List.length_take, List.length_drop, List.length_replicate, List.length_set, List.length_map, List.length_cons, List.length_nil]; omega))) fun a S => ?_)
        refine wl_of (op_store1 _ (true) (wn rfl) rfl rfl S H rfl rfl rfl rfl Fsiz4 (by first | assumption | omega | (simp only [List.length_append, List.length_take, List.length_drop, List.length_replicate, List.length_set, List.length_map, List.length_cons, List.length_nil]; omega)) (by exact rfl) fun a w S H => ?_)
        refine gl_nil ?_
        refine n_block ?_
        refine n_then ?_
        -- region 11 pool.go:79
        refine g_region ?_
        refine wl_of (op_y (wn rfl) rfl rfl S (y_add rfl S rfl rfl (by omega)) fun a S => ?_)
        refine wl_of (op_y (wn rfl) rfl rfl S (y_move rfl S rfl) fun a S => ?_)
        refine gl_nil ?_
        refine n_then ?_
        refine ⟨q + 1, S.nil.cons S 39 rfl, (((((S.nil.cons S 0 rfl).cons S 3 rfl).cons S 5 rfl).cons S 6 rfl).cons S 37 rfl).cons S 38 rfl, ⟨by omega, fun j hj => ?_, ?_⟩, by omega⟩
        · by_cases hj2 : j < q
          · exact hpre j hj2
          · obtain rfl : j = q := by omega
            exact ⟨by rw [hat]; exact hx0, hnb.2 hx⟩
        · rw [← setT_take hql]; exact H
    · have h4p := h4; try simp only [Option.isNone_some, Option.isNone_none, Option.isSome_some, Option.isSome_none, false_or, or_false, true_and, and_true, decide_eq_true_eq, decide_eq_false_iff_not, Bool.or_eq_true, Bool.and_eq_true, Bool.or_eq_false_iff, Bool.and_eq_false_iff, Bool.not_eq_true', Bool.not_eq_false', bne_iff_ne, beq_iff_eq, beq_eq_false_iff_ne, bne_eq_false_iff_eq, ne_eq, Decidable.not_not, Int.not_lt, Int.not_le, gt_iff_lt, ge_iff_le, Bool.true_eq_false, Bool.false_eq_true, not_true_eq_false, not_false_eq_true] at h4p
      have hrow : RowOK ps.length got := fun j hj => hpre j (by omega)
      refine g_exit ?_
      refine x_then (x_then (x_eq ?_))
      refine n_then ?_
      have S := ((S.nil.cons S 0 rfl).cons S 3 rfl).cons S 5 rfl
      refine g_seq ?_
      -- region 12 pool.go:86
      refine g_region ?_
      refine wl_of (op_y (wn rfl) rfl rfl S (y_move rfl S rfl) fun a S => ?_)
      refine wl_of (op_make (encRow (α := Int)) ((Value.slice none 0 0, [])) (wn rfl) rfl rfl rfl Try.underlying22 Finf23 rfl rfl S H rfl rfl rfl (by omega) (by omega) fun b61 a w S H => ?_)
      refine wl_of (op_alloc (wn rfl) rfl rfl rfl S H Fzer22 fun b9 a w S H => ?_)
      refine wl_of (op_store (wn rfl) rfl rfl S H rfl rfl (H.sl1 _) Fsiz22 rfl fun a w S H => ?_)
      dsimp only [List.set, Nat.zero_add, Nat.reduceAdd] at H
      refine gl_nil ?_
      refine n_then ?_
      refine g_seq ?_
      refine g_seq ?_
      -- region 13 pool.go:87
      refine g_region ?_
      refine wl_of (op_y (wn rfl) rfl rfl S (y_load rfl Fsca23 S H rfl rfl) fun a S => ?_)
      refine wl_of (op_y (wn rfl) rfl rfl S (y_lens rfl Try.underlying23 S H rfl) fun a S => ?_)
      refine wl_of (op_y (wn rfl) rfl rfl S (y_move rfl S rfl) fun a S => ?_)
      refine gl_nil ?_
      refine n_then ?_
      refine g_block ?_
      have H := H.nilO 23 1 (encRow (α := Int))
      have SU := (((((S.nil.cons S 0 rfl).cons S 3 rfl).cons S 5 rfl).cons S 9 rfl).cons S 62 rfl).cons S 63 rfl
      refine loopW (X := Nat) SU (fun i => [(64, .int .i64 (i : Int))]) (fun i w => i ≤ ps.length ∧ ∃ qs, BetOK ps got qs i ∧ HSat No w0 [OSl 23 (.slice (some ⟨b61, 0, none⟩) ps.length ps.length) 1 encRow qs, Cel b9 22 [(.slice (some ⟨b61, 0, none⟩) ps.length ps.length)], Cel b3 23 [vg], CapS ps, Sl vg 1 encI got, RowsS 1 encI ps, Sl v 1 encRow ps] w) (fun i => ps.length - i) 0 (S.nil.cons S 64 rfl) (⟨by omega, _, bet_start ps got _, H.take [OSl 23 (.slice (some ⟨b61, 0, none⟩) ps.length ps.length) 1 encRow (List.replicate ps.length (Value.slice none 0 0, ([] : List Int))), Cel b9 22 [(.slice (some ⟨b61, 0, none⟩) ps.length ps.length)], Cel b3 23 [vg], CapS ps, Sl vg 1 encI got, RowsS 1 encI ps, Sl v 1 encRow ps]⟩) (fun i a w S hW => ?_)
      simp only [List.cons_append, List.nil_append] at S
      clear H
      obtain ⟨hi, qs, hbet, H⟩ := hW
      refine g_seq ?_
      -- region 14 pool.go:87
      refine g_region ?_
      refine wl_of (op_y (wn rfl) rfl rfl S (y_bin rfl S rfl rfl rfl) fun a S => ?_)
      refine gl_nil ?_
      refine n_then ?_
      refine g_seq ?_
      -- cond 4
      refine c_if S rfl (fun h8 => ?_) (fun h8 => ?_)
      · have h8p := h8; try simp only [Option.isNone_some, Option.isNone_none, Option.isSome_some, Option.isSome_none, false_or, or_false, true_and, and_true, decide_eq_true_eq, decide_eq_false_iff_not, Bool.or_eq_true, Bool.and_eq_true, Bool.or_eq_false_iff, Bool.and_eq_false_iff, Bool.not_eq_true', Bool.not_eq_false', bne_iff_ne, beq_iff_eq, beq_eq_false_iff_ne, bne_eq_false_iff_eq, ne_eq, Decidable.not_not, Int.not_lt, Int.not_le, gt_iff_lt, ge_iff_le, Bool.true_eq_false, Bool.false_eq_true, not_true_eq_false, not_false_eq_true] at h8p
        have hip : i < ps.length := by omega
        have hig : i < got.length := by omega
        have hil := (H.rwsS (sz := 1) (enc := encI) ps _ (List.getElem_mem hip)).len
        have hbl := hbet.len
        refine g_skip ?_
        refine n_then ?_
        refine g_seq ?_
        refine g_block ?_
        refine g_seq ?_
        -- region 15 pool.go:87
        refine g_region ?_
        refine wl_of (op_y (wn rfl) rfl rfl S (y_move rfl S rfl) fun a S => ?_)
        refine wl_of (op_y (wn rfl) rfl rfl S (y_iaddrn rfl Try.underlying23 Fsiz3 S H rfl rfl (by first | assumption | omega | (simp only [List.length_append, List.length_take, List.length_drop, List.length_replicate, List.length_set, List.length_map, List.length_cons, List.length_nil]; omega))) fun a S => ?_)
        refine wl_of (op_y (wn rfl) rfl rfl S (y_loads _ rfl Fsca3 S H rfl (by first | assumption | omega | (simp only [List.length_append, List.length_take, List.length_drop, List.length_replicate, List.length_set, List.length_map, List.length_cons, List.length_nil]; omega)) rfl) fun a S => ?_)
        refine wl_of (op_y (wn rfl) rfl rfl S (y_assign rfl S rfl) fun a S => ?_)
        refine wl_of (op_y (wn rfl) rfl rfl S (y_assign rfl S rfl) fun a S => ?_)
        refine gl_nil ?_
        refine n_then ?_
        refine g_seq ?_
        -- region 16 pool.go:88
        refine g_region ?_
        refine wl_of (op_y (wn rfl) rfl rfl S (y_move rfl S rfl) fun a S => ?_)
        refine wl_of (op_y (wn rfl) rfl rfl S (y_move rfl S rfl) fun a S => ?_)
        refine wl_of (op_y (wn rfl) rfl rfl S (y_iaddrn rfl Try.underlying22 Fsiz23 S H rfl rfl (by first | assumption | omega | (simp only [List.length_append, List.length_take, List.length_drop, List.length_replicate, List.length_set, List.length_map, List.length_cons, List.length_nil]; omega))) fun a S => ?_)
        refine wl_of (op_y (wn rfl) rfl rfl S (y_loads _ rfl Fsca23 S H rfl (by first | assumption | omega | (simp only [List.length_append, List.length_take, List.length_drop, List.length_replicate, List.length_set, List.length_map, List.length_cons, List.length_nil]; omega)) rfl) fun a S => ?_)
        refine wl_of (op_y (wn rfl) rfl rfl S (y_move rfl S rfl) fun a S => ?_)
        refine wl_of (op_call (wn rfl) rfl rfl S (co_func rfl Try.call27 S rfl) (index_spec _ ps[i].2 got[i] _ (H.rwsS ps _ (List.getElem_mem hip))) fun v w hc a S => ?_)
        obtain ⟨rfl, he⟩ := hc
        have H := H.ext he
        refine wl_of (op_y (wn rfl) rfl rfl S (y_assign rfl S rfl) fun a S => ?_)
        refine gl_nil ?_
        refine n_then ?_
        refine g_seq ?_
        refine g_seq ?_
        -- region 17 pool.go:89
        refine g_region ?_
        refine wl_of (op_y (wn rfl) rfl rfl S (y_move rfl S rfl) fun a S => ?_)
        refine wl_of (op_y (wn rfl) rfl rfl S (y_move rfl S rfl) fun a S => ?_)
        refine wl_of (op_y (wn rfl) rfl rfl S (y_iaddrn rfl Try.underlying22 Fsiz23 S H rfl rfl (by first | assumption | omega | (simp only [List.length_append, List.length_take, List.length_drop, List.length_replicate, List.length_set, List.length_map, List.length_cons, List.length_nil]; omega))) fun a S => ?_)
        refine wl_of (op_y (wn rfl) rfl rfl S (y_loads _ rfl Fsca23 S H rfl (by first | assumption | omega | (simp only [List.length_append, List.length_take, List.length_drop, List.length_replicate, List.length_set, List.length_map, List.length_cons, List.length_nil]; omega)) rfl) fun a S => ?_)
        refine wl_of (op_y (wn rfl) rfl rfl S (y_move rfl S rfl) fun a S => ?_)
        refine wl_of (op_call (wn rfl) rfl rfl S (co_func rfl Try.call27 S rfl) (index_spec _ ps[i].2 (i : Int) _ (H.rwsS ps _ (List.getElem_mem hip))) fun v w hc a S => ?_)
        obtain ⟨rfl, he⟩ := hc
        have H := H.ext he
        refine wl_of (op_y (wn rfl) rfl rfl S (y_assign rfl S rfl) fun a S => ?_)
        refine gl_nil ?_
        refine n_then ?_
        refine g_seq ?_
        -- region 18 pool.go:89
        refine g_region ?_
        refine wl_of (op_y (wn rfl) rfl rfl S (y_move rfl S rfl) fun a S => ?_)
        refine wl_of (op_y (wn rfl) rfl rfl S (y_bin rfl S rfl rfl rfl) fun a S => ?_)
        refine wl_of (op_y (wn rfl) rfl rfl S (y_move rfl S rfl) fun a S => ?_)
        refine' wl_and 7 83 rfl S H rfl rfl rfl rfl rfl rfl rfl (fun _ S => (wn rfl)) (fun h9 kk => ?yh9) (fun a w S H => ?_)
        case yh9 =>
          have h9p := h9; try simp only [Option.isNone_some, Option.isNone_none, Option.isSome_some, Option.isSome_none, false_or, or_false, true_and, and_true, decide_eq_true_eq, decide_eq_false_iff_not, Bool.or_eq_true, Bool.and_eq_true, Bool.or_eq_false_iff, Bool.and_eq_false_iff, Bool.not_eq_true', Bool.not_eq_false', bne_iff_ne, beq_iff_eq, beq_eq_false_iff_ne, bne_eq_false_iff_eq, ne_eq, Decidable.not_not, Int.not_lt, Int.not_le, gt_iff_lt, ge_iff_le, Bool.true_eq_false, Bool.false_eq_true, not_true_eq_false, not_false_eq_true] at h9p
          refine wl_of (op_y (wg' 83 rfl rfl S rfl h9 rfl) rfl rfl S (y_move rfl S rfl) fun a S => ?_)
          refine wl_of (op_y (wg' 83 rfl rfl S rfl h9 rfl) rfl rfl S (y_bin rfl S rfl rfl rfl) fun a S => ?_)
          refine wl_of (op_y (wg' 83 rfl rfl S rfl h9 rfl) rfl rfl S (y_move rfl S rfl) fun a S => ?_)
          refine' wl_or 3 86 rfl S H rfl rfl rfl rfl rfl rfl rfl (fun _ S => (wg' 83 rfl rfl S rfl h9 rfl)) (fun h10 kk => ?yh10) (fun a w S H => ?_)
          case yh10 =>
            have h10p := h10; try simp only [Option.isNone_some, Option.isNone_none, Option.isSome_some, Option.isSome_none, false_or, or_false, true_and, and_true, decide_eq_true_eq, decide_eq_false_iff_not, Bool.or_eq_true, Bool.and_eq_true, Bool.or_eq_false_iff, Bool.and_eq_false_iff, Bool.not_eq_true', Bool.not_eq_false', bne_iff_ne, beq_iff_eq, beq_eq_false_iff_ne, bne_eq_false_iff_eq, ne_eq, Decidable.not_not, Int.not_lt, Int.not_le, gt_iff_lt, ge_iff_le, Bool.true_eq_false, Bool.false_eq_true, not_true_eq_false, not_false_eq_true] at h10p
            refine wl_of (op_y (wg' 86 rfl rfl S rfl h10 rfl) rfl rfl S (y_move rfl S rfl) fun a S => ?_)
            refine wl_of (op_y (wg' 86 rfl rfl S rfl h10 rfl) rfl rfl S (y_move rfl S rfl) fun a S => ?_)
            refine wl_of (op_y (wg' 86 rfl rfl S rfl h10 rfl) rfl rfl S (y_bin rfl S rfl rfl rfl) fun a S => ?_)
            refine wl_of (op_y (wg' 83 rfl rfl S rfl h9 rfl) rfl rfl S (y_or' rfl h10 S rfl rfl) fun a S => ?_)
            exact kk _ _ (S.join 4 90 rfl rfl) H
          refine wl_of (op_y (wn rfl) rfl rfl S (y_and' rfl h9 S rfl rfl) fun a S => ?_)
          exact kk _ _ (S.join 5 91 rfl rfl) H
        refine wl_of (op_y (wn rfl) rfl rfl S (y_move rfl S rfl) fun a S => ?_)
        refine' wl_or 7 92 rfl S H rfl rfl rfl rfl rfl rfl rfl (fun _ S => (wn rfl)) (fun h11 kk => ?yh11) (fun a w S H => ?_)
        case yh11 =>
          have h11p := h11; try simp only [Option.isNone_some, Option.isNone_none, Option.isSome_some, Option.isSome_none, false_or, or_false, true_and, and_true, decide_eq_true_eq, decide_eq_false_iff_not, Bool.or_eq_true, Bool.and_eq_true, Bool.or_eq_false_iff, Bool.and_eq_false_iff, Bool.not_eq_true', Bool.not_eq_false', bne_iff_ne, beq_iff_eq, beq_eq_false_iff_ne, bne_eq_false_iff_eq, ne_eq, Decidable.not_not, Int.not_lt, Int.not_le, gt_iff_lt, ge_iff_le, Bool.true_eq_false, Bool.false_eq_true, not_true_eq_false, not_false_eq_true] at h11p
          refine wl_of (op_y (wg' 92 rfl rfl S rfl h11 rfl) rfl rfl S (y_move rfl S rfl) fun a S => ?_)
          refine wl_of (op_y (wg' 92 rfl rfl S rfl h11 rfl) rfl rfl S (y_bin rfl S rfl rfl rfl) fun a S => ?_)
          refine wl_of (op_y (wg' 92 rfl rfl S rfl h11 rfl) rfl rfl S (y_move rfl S rfl) fun a S => ?_)
          refine' wl_and 3 95 rfl S H rfl rfl rfl rfl rfl rfl rfl (fun _ S => (wg' 92 rfl rfl S rfl h11 rfl)) (fun h12 kk => ?yh12) (fun a w S H => ?_)
          case yh12 =>
            have h12p := h12; try simp only [Option.isNone_some, Option.isNone_none, Option.isSome_some, Option.isSome_none, false_or, or_false, true_and, and_true, decide_eq_true_eq, decide_eq_false_iff_not, Bool.or_eq_true, Bool.and_eq_true, Bool.or_eq_false_iff, Bool.and_eq_false_iff, Bool.not_eq_true', Bool.not_eq_false', bne_iff_ne, beq_iff_eq, beq_eq_false_iff_ne, bne_eq_false_iff_eq, ne_eq, Decidable.not_not, Int.not_lt, Int.not_le, gt_iff_lt, ge_iff_le, Bool.true_eq_false, Bool.false_eq_true, not_true_eq_false, not_false_eq_true] at h12p
            refine wl_of (op_y (wg' 95 rfl rfl S rfl h12 rfl) rfl rfl S (y_move rfl S rfl) fun a S => ?_)
            refine wl_of (op_y (wg' 95 rfl rfl S rfl h12 rfl) rfl rfl S (y_move rfl S rfl) fun a S => ?_)
            refine wl_of (op_y (wg' 95 rfl rfl S rfl h12 rfl) rfl rfl S (y_bin rfl S rfl rfl rfl) fun a S => ?_)
            refine wl_of (op_y (wg' 92 rfl rfl S rfl h11 rfl) rfl rfl S (y_and' rfl h12 S rfl rfl) fun a S => ?_)
            exact kk _ _ (S.join 4 99 rfl rfl) H
          refine wl_of (op_y (wn rfl) rfl rfl S (y_or' rfl h11 S rfl rfl) fun a S => ?_)
          exact kk _ _ (S.join 5 100 rfl rfl) H
        refine gl_nil ?_
        refine n_then ?_
        -- cond 5
        refine c_if S rfl (fun h13 => ?_) (fun h13 => ?_)
        · have h13p := h13; try simp only [Option.isNone_some, Option.isNone_none, Option.isSome_some, Option.isSome_none, false_or, or_false, true_and, and_true, decide_eq_true_eq, decide_eq_false_iff_not, Bool.or_eq_true, Bool.and_eq_true, Bool.or_eq_false_iff, Bool.and_eq_false_iff, Bool.not_eq_true', Bool.not_eq_false', bne_iff_ne, beq_iff_eq, beq_eq_false_iff_ne, bne_eq_false_iff_eq, ne_eq, Decidable.not_not, Int.not_lt, Int.not_le, gt_iff_lt, ge_iff_le, Bool.true_eq_false, Bool.false_eq_true, not_true_eq_false, not_false_eq_true] at h13p
          have hna : ¬ rankL ps[i].2 i got[i] ≤ rankL ps[i].2 i i := acc_test.1 (by first | exact h13p | simpa using h13p | (have := h13p; omega))
          refine g_seq ?_
          -- region 19 pool.go:90
          refine g_region ?_
          refine wl_of (op_y (wn rfl) rfl rfl S (y_assign rfl S rfl) fun a S => ?_)
          refine gl_nil ?_
          refine n_then ?_
          refine g_ret ?_
          refine r_then (r_block (r_then (r_then (r_block (r_then (r_scope (ret1 rfl S rfl ?_)))))))
          exact ⟨congrArg Value.bool (stab_no (fun hs => hna (by have := hs.2.acc i (by omega); rw [gr_row ps hip, atI_eq hig] at this; exact this))).symm, H.toExt⟩
        · have h13p := h13; try simp only [Option.isNone_some, Option.isNone_none, Option.isSome_some, Option.isSome_none, false_or, or_false, true_and, and_true, decide_eq_true_eq, decide_eq_false_iff_not, Bool.or_eq_true, Bool.and_eq_true, Bool.or_eq_false_iff, Bool.and_eq_false_iff, Bool.not_eq_true', Bool.not_eq_false', bne_iff_ne, beq_iff_eq, beq_eq_false_iff_ne, bne_eq_false_iff_eq, ne_eq, Decidable.not_not, Int.not_lt, Int.not_le, gt_iff_lt, ge_iff_le, Bool.true_eq_false, Bool.false_eq_true, not_true_eq_false, not_false_eq_true] at h13p
          have hac : rankL ps[i].2 i got[i] ≤ rankL ps[i].2 i i := Decidable.not_not.1 (fun hh => by have h1 := (acc_test (l := ps[i].2) (i := i) (t := got[i])).2 hh; have := h13p; omega)
          have hrl : rankL ps[i].2 i got[i] ≤ ps[i].2.length := Nat.le_trans hac (rank_own _ _)
          obtain ⟨m, hm⟩ : ∃ m, m = rankL ps[i].2 i (atI got i) := ⟨_, rfl⟩
          have hgi := atI_eq hig
          refine g_skip ?_
          refine n_then ?_
          refine g_seq ?_
          refine g_seq ?_
          -- region 20 pool.go:92
          refine g_region ?_
          refine wl_of (op_y (wn rfl) rfl rfl S (y_move rfl S rfl) fun a S => ?_)
          refine wl_of (op_y (wn rfl) rfl rfl S (y_bin rfl S rfl rfl rfl) fun a S => ?_)
          refine gl_nil ?_
          refine n_then ?_
          -- cond 6 (both ways go on)
          refine c_if S rfl (fun h14 => ?_) (fun h14 => ?_)
          · have h14p := h14; try simp only [Option.isNone_some, Option.isNone_none, Option.isSome_some, Option.isSome_none, false_or, or_false, true_and, and_true, decide_eq_true_eq, decide_eq_false_iff_not, Bool.or_eq_true, Bool.and_eq_true, Bool.or_eq_false_iff, Bool.and_eq_false_iff, Bool.not_eq_true', Bool.not_eq_false', bne_iff_ne, beq_iff_eq, beq_eq_false_iff_ne, bne_eq_false_iff_eq, ne_eq, Decidable.not_not, Int.not_lt, Int.not_le, gt_iff_lt, ge_iff_le, Bool.true_eq_false, Bool.false_eq_true, not_true_eq_false, not_false_eq_true] at h14p
            have hml : ps[i].2.length = m := by rw [hm, hgi]; exact idx_len h14p hac
            -- region 21 pool.go:93
            refine g_region ?_
            refine wl_of (op_y (wn rfl) rfl rfl S (y_move rfl S rfl) fun a S => ?_)
            refine wl_of (op_y (wn rfl) rfl rfl S (y_move rfl S rfl) fun a S => ?_)
            refine wl_of (op_y (wn rfl) rfl rfl S (y_iaddrn rfl Try.underlying22 Fsiz23 S H rfl rfl (by first | assumption | omega | (simp only [List.length_append, List.length_take, List.length_drop, List.length_replicate, List.length_set, List.length_map, List.length_cons, List.length_nil]; omega))) fun a S => ?_)
            refine wl_of (op_y (wn rfl) rfl rfl S (y_loads _ rfl Fsca23 S H rfl (by first | assumption | omega | (simp only [List.length_append, List.length_take, List.length_drop, List.length_replicate, List.length_set, List.length_map, List.length_cons, List.length_nil]; omega)) rfl) fun a S => ?_)
            refine wl_of (op_y (wn rfl) rfl rfl S (y_lens rfl Try.underlying23 S H rfl) fun a S => ?_)
            rw [hml] at S
            refine wl_of (op_y (wn rfl) rfl rfl S (y_assign rfl S rfl) fun a S => ?_)
            refine gl_nil ?_
            refine n_then ?_
            -- region 22 DRAWS pool.go:95
            refine region_st (loud := [9]) (tails := [9]) (free := []) [0, 1, 2, 3, 4, 5, 6, 7, 8, 9] [] Fmo (by kernel_rfl) (by kernel_rfl) rfl H ?_
            refine m_w rfl rfl (wn rfl) rfl rfl S (fun w H => y_load rfl Fsca22 S H rfl rfl) fun a S => ?_
            refine m_w rfl rfl (wn rfl) rfl rfl S (fun w H => y_move rfl S rfl) fun a S => ?_
            refine m_w rfl rfl (wn rfl) rfl rfl S (fun w H => y_move rfl S rfl) fun a S => ?_
            refine m_w rfl rfl (wn rfl) rfl rfl S (fun w H => y_move rfl S rfl) fun a S => ?_
            refine m_w rfl rfl (wn rfl) rfl rfl S (fun w H => y_iaddrn rfl Try.underlying22 Fsiz23 S H rfl rfl (by first | assumption | omega | (simp only [List.length_append, List.length_take, List.length_drop, List.length_replicate, List.length_set, List.length_map, List.length_cons, List.length_nil]; omega))) fun a S => ?_
            refine m_loads _ rfl rfl (wn rfl) rfl rfl S rfl Fsca23 rfl (by first | assumption | omega | (simp only [List.length_append, List.length_take, List.length_drop, List.length_replicate, List.length_set, List.length_map, List.length_cons, List.length_nil]; omega)) rfl fun a S => ?_
            refine m_w rfl rfl (wn rfl) rfl rfl S (fun w H => y_move rfl S rfl) fun a S => ?_
            refine m_w rfl rfl (wn rfl) rfl rfl S (fun w H => y_sliceH rfl Try.underlying23 Fsiz3 S H rfl rfl (by first | assumption | omega | (simp only [List.length_append, List.length_take, List.length_drop, List.length_replicate, List.length_set, List.length_map, List.length_cons, List.length_nil]; omega))) fun a S => ?_
            refine m_w rfl rfl (wn rfl) rfl rfl S (fun w H => y_iaddrn rfl Try.underlying22 Fsiz23 S H rfl rfl (by first | assumption | omega | (simp only [List.length_append, List.length_take, List.length_drop, List.length_replicate, List.length_set, List.length_map, List.length_cons, List.length_nil]; omega))) fun a S => ?_
            refine m_l rfl rfl (fun w H => op_store1 _ ((subV ps[i].1 0 m 1, ps[i].2.take m)) (wn rfl) rfl rfl S H rfl rfl (H.slc _) (H.sl1 _) Fsiz23 (by first | assumption | omega | (simp only [List.length_append, List.length_take, List.length_drop, List.length_replicate, List.length_set, List.length_map, List.length_cons, List.length_nil]; omega)) (by exact rfl) fun a w S H => m_tail H rfl ?_)
            refine m_nil (fun w H => ?_)
            refine n_block ?_
            refine n_then ?_
            -- region 23 pool.go:87
            refine g_region ?_
            refine wl_of (op_y (wn rfl) rfl rfl S (y_add rfl S rfl rfl (by omega)) fun a S => ?_)
            refine wl_of (op_y (wn rfl) rfl rfl S (y_move rfl S rfl) fun a S => ?_)
            refine gl_nil ?_
            refine n_then ?_
            exact ⟨i + 1, S.nil.cons S 64 rfl, (((((S.nil.cons S 0 rfl).cons S 3 rfl).cons S 5 rfl).cons S 9 rfl).cons S 62 rfl).cons S 63 rfl, ⟨by omega, _, bet_step hbet hip hm (by rw [hgi]; exact hac), H.take [OSl 23 (.slice (some ⟨b61, 0, none⟩) ps.length ps.length) 1 encRow (qs.set i (subV ps[i].1 0 m 1, ps[i].2.take m)), Cel b9 22 [(.slice (some ⟨b61, 0, none⟩) ps.length ps.length)], Cel b3 23 [vg], CapS ps, Sl vg 1 encI got, RowsS 1 encI ps, Sl v 1 encRow ps]⟩, by omega⟩
          · have h14p := h14; try simp only [Option.isNone_some, Option.isNone_none, Option.isSome_some, Option.isSome_none, false_or, or_false, true_and, and_true, decide_eq_true_eq, decide_eq_false_iff_not, Bool.or_eq_true, Bool.and_eq_true, Bool.or_eq_false_iff, Bool.and_eq_false_iff, Bool.not_eq_true', Bool.not_eq_false', bne_iff_ne, beq_iff_eq, beq_eq_false_iff_ne, bne_eq_false_iff_eq, ne_eq, Decidable.not_not, Int.not_lt, Int.not_le, gt_iff_lt, ge_iff_le, Bool.true_eq_false, Bool.false_eq_true, not_true_eq_false, not_false_eq_true] at h14p
            have hidx : idxI ps[i].2 got[i] = (m : Int) := by rw [hm, hgi]; exact idx_rank (by omega)
            rw [hidx] at S
            have hml : m ≤ ps[i].2.length := by rw [hm, hgi]; exact hrl
            refine g_skip ?_
            refine n_then ?_
            -- region 22 DRAWS pool.go:95
            refine region_st (loud := [9]) (tails := [9]) (free := []) [0, 1, 2, 3, 4, 5, 6, 7, 8, 9] [] Fmo (by kernel_rfl) (by kernel_rfl) rfl H ?_
            refine m_w rfl rfl (wn rfl) rfl rfl S (fun w H => y_load rfl Fsca22 S H rfl rfl) fun a S => ?_
            refine m_w rfl rfl (wn rfl) rfl rfl S (fun w H => y_move rfl S rfl) fun a S => ?_
            refine m_w rfl rfl (wn rfl) rfl rfl S (fun w H => y_move rfl S rfl) fun a S => ?_
            refine m_w rfl rfl (wn rfl) rfl rfl S (fun w H => y_move rfl S rfl) fun a S => ?_
            refine m_w rfl rfl (wn rfl) rfl rfl S (fun w H => y_iaddrn rfl Try.underlying22 Fsiz23 S H rfl rfl (by first | assumption | omega | (simp only [List.length_append, List.length_take, List.length_drop, List.length_replicate, List.length_set, List.length_map, List.length_cons, List.length_nil]; omega))) fun a S => ?_
            refine m_loads _ rfl rfl (wn rfl) rfl rfl S rfl Fsca23 rfl (by first | assumption | omega | (simp only [List.length_append, List.length_take, List.length_drop, List.length_replicate, List.length_set, List.length_map, List.length_cons, List.length_nil]; omega)) rfl fun a S => ?_
            refine m_w rfl rfl (wn rfl) rfl rfl S (fun w H => y_move rfl S rfl) fun a S => ?_
            refine m_w rfl rfl (wn rfl) rfl rfl S (fun w H => y_sliceH rfl Try.underlying23 Fsiz3 S H rfl rfl (by first | assumption | omega | (simp only [List.length_append, List.length_take, List.length_drop, List.length_replicate, List.length_set, List.length_map, List.length_cons, List.length_nil]; omega))) fun a S => ?_
            refine m_w rfl rfl (wn rfl) rfl rfl S (fun w H => y_iaddrn rfl Try.underlying22 Fsiz23 S H rfl rfl (by first | assumption | omega | (simp only [List.length_append, List.length_take, List.length_drop, List.length_replicate, List.length_set, List.length_map, List.length_cons, List.length_nil]; omega))) fun a S => ?_
            refine m_l rfl rfl (fun w H => op_store1 _ ((subV ps[i].1 0 m 1, ps[i].2.take m)) (wn rfl) rfl rfl S H rfl rfl (H.slc _) (H.sl1 _) Fsiz23 (by first | assumption | omega | (simp only [List.length_append, List.length_take, List.length_drop, List.length_replicate, List.length_set, List.length_map, List.length_cons, List.length_nil]; omega)) (by exact rfl) fun a w S H => m_tail H rfl ?_)
            refine m_nil (fun w H => ?_)
            refine n_block ?_
            refine n_then ?_
            -- region 23 pool.go:87
            refine g_region ?_
            refine wl_of (op_y (wn rfl) rfl rfl S (y_add rfl S rfl rfl (by omega)) fun a S => ?_)
            refine wl_of (op_y (wn rfl) rfl rfl S (y_move rfl S rfl) fun a S => ?_)
            refine gl_nil ?_
            refine n_then ?_
            exact ⟨i + 1, S.nil.cons S 64 rfl, (((((S.nil.cons S 0 rfl).cons S 3 rfl).cons S 5 rfl).cons S 9 rfl).cons S 62 rfl).cons S 63 rfl, ⟨by omega, _, bet_step hbet hip hm (by rw [hgi]; exact hac), H.take [OSl 23 (.slice (some ⟨b61, 0, none⟩) ps.length ps.length) 1 encRow (qs.set i (subV ps[i].1 0 m 1, ps[i].2.take m)), Cel b9 22 [(.slice (some ⟨b61, 0, none⟩) ps.length ps.length)], Cel b3 23 [vg], CapS ps, Sl vg 1 encI got, RowsS 1 encI ps, Sl v 1 encRow ps]⟩, by omega⟩
      · have h8p := h8; try simp only [Option.isNone_some, Option.isNone_none, Option.isSome_some, Option.isSome_none, false_or, or_false, true_and, and_true, decide_eq_true_eq, decide_eq_false_iff_not, Bool.or_eq_true, Bool.and_eq_true, Bool.or_eq_false_iff, Bool.and_eq_false_iff, Bool.not_eq_true', Bool.not_eq_false', bne_iff_ne, beq_iff_eq, beq_eq_false_iff_ne, bne_eq_false_iff_eq, ne_eq, Decidable.not_not, Int.not_lt, Int.not_le, gt_iff_lt, ge_iff_le, Bool.true_eq_false, Bool.false_eq_true, not_true_eq_false, not_false_eq_true] at h8p
        obtain rfl : i = ps.length := by omega
        have hbl := hbet.len
        have hsl : ∀ p ∈ qs, IsSl w0 p.1 1 encI p.2 := fun p hp => by
          obtain ⟨j, hj, rfl⟩ := List.getElem_of_mem hp
          have hjp : j < ps.length := by omega
          rw [hbet.at_ j hjp hj hjp]
          have := (hr _ (List.getElem_mem hjp)).sub (hcap _ (List.getElem_mem hjp)) 0 (rankL ps[j].2 j (atI got j))
          simpa using this
        have H := (H.front (OSl 23 (.slice (some ⟨b61, 0, none⟩) ps.length ps.length) 1 encRow qs)).giveSl
        have H := H.ro0 (RowsS 1 encI qs) rfl hsl
        have H := (H.front (Cel b9 22 [(.slice (some ⟨b61, 0, none⟩) ps.length ps.length)])).freeze
        have H := (H.front (Cel b3 23 [vg])).freeze
        have hrw2 : ∀ j, (rowG (gr qs) j).length ≤ 1000 := fun j => by
          rw [bet_row hbet, List.length_take]
          have := right_len hrt j
          omega
        have hto : ∀ u, u < ps.length → ∀ t ∈ toS got qs u, 0 ≤ t ∧ t < ps.length := fun u hu t ht => by
          rw [bet_to hbet] at ht
          have := to_rng hrt (by omega) (by rw [hgrl]; exact hrow) (by omega) ht
          omega
        refine g_exit ?_
        refine x_then (x_then (x_eq ?_))
        refine n_then ?_
        have S := ((S.nil.cons S 3 rfl).cons S 5 rfl).cons S 9 rfl
        refine g_seq ?_
        -- region 24 pool.go:98
        refine g_region ?_
        refine wl_of (op_y (wn rfl) rfl rfl S (y_move rfl S rfl) fun a S => ?_)
        refine wl_of (op_y (wn rfl) rfl rfl S (y_makeFunc rfl S rfl rfl) fun a S => ?_)
        refine wl_of (op_call (wn rfl) rfl rfl S (co_func rfl Try.call28 S rfl) (components_spec (l := []) vg (.slice (some ⟨b61, 0, none⟩) ps.length ps.length) got qs b3 b9 ps.length hgl2 hbet.len _ hrw2 hto hn1 (H.take [Atom.ro (Cel b3 23 [vg]), Atom.ro (Cel b9 22 [(.slice (some ⟨b61, 0, none⟩) ps.length ps.length)]), Sl vg 1 encI got, Sl (.slice (some ⟨b61, 0, none⟩) ps.length ps.length) 1 encRow qs, RowsS 1 encI qs])) fun u120 w hc a S => ?_)
        obtain ⟨out, H1, hol, hcls⟩ := hc
        have H := H.call1 H1 rfl
        refine wl_of (op_y (wn rfl) rfl rfl S (y_assign rfl S rfl) fun a S => ?_)
        refine gl_nil ?_
        refine n_then ?_
        have S := (S.nil.cons S 9 rfl).cons S 14 rfl
        refine g_seq ?_
        -- region 25 pool.go:99
        refine g_region ?_
        refine wl_of (op_y (wn rfl) rfl rfl S (y_assign rfl S rfl) fun a S => ?_)
        refine gl_nil ?_
        refine n_then ?_
        refine g_seq ?_
        refine g_label ?_
        refine n_then ?_
        refine g_seq ?_
        refine g_seq ?_
        -- region 26 pool.go:101
        refine g_region ?_
        refine wl_of (op_y (wn rfl) rfl rfl S (y_load rfl Fsca22 S H rfl rfl) fun a S => ?_)
        refine wl_of (op_y (wn rfl) rfl rfl S (y_lens rfl Try.underlying22 S H rfl) fun a S => ?_)
        refine wl_of (op_y (wn rfl) rfl rfl S (y_move rfl S rfl) fun a S => ?_)
        refine gl_nil ?_
        refine n_then ?_
        refine g_block ?_
        have SU := ((S.nil.cons S 14 rfl).cons S 121 rfl).cons S 122 rfl
        refine loop_k (X := Nat) SU (fun i => [(15, .bool true), (123, .int .i64 (i : Int))]) (fun i => i ≤ ps.length ∧ ∀ j (hj : j < qs.length), j < i → ∀ t ∈ qs[j].2, atN out t.toNat ≠ atN out j) (fun i => ps.length - i) 0 ((S.nil.cons S 123 rfl).cons S 15 rfl) H (⟨by omega, fun j hj hji => by omega⟩) (fun i a w S H hi => ?_)
        simp only [List.cons_append, List.nil_append] at S hi
        obtain ⟨hi, hno⟩ := hi
        refine g_seq ?_
        -- region 27 pool.go:101
        refine g_region ?_
        refine wl_of (op_y (wn rfl) rfl rfl S (y_bin rfl S rfl rfl rfl) fun a S => ?_)
        refine gl_nil ?_
        refine n_then ?_
        refine g_seq ?_
        -- cond 7
        refine c_if S rfl (fun h15 => ?_) (fun h15 => ?_)
        · have h15p := h15; try simp only [Option.isNone_some, Option.isNone_none, Option.isSome_some, Option.isSome_none, false_or, or_false, true_and, and_true, decide_eq_true_eq, decide_eq_false_iff_not, Bool.or_eq_true, Bool.and_eq_true, Bool.or_eq_false_iff, Bool.and_eq_false_iff, Bool.not_eq_true', Bool.not_eq_false', bne_iff_ne, beq_iff_eq, beq_eq_false_iff_ne, bne_eq_false_iff_eq, ne_eq, Decidable.not_not, Int.not_lt, Int.not_le, gt_iff_lt, ge_iff_le, Bool.true_eq_false, Bool.false_eq_true, not_true_eq_false, not_false_eq_true] at h15p
          have hiq : i < qs.length := by omega
          have hqil := (H.rwsS (sz := 1) (enc := encI) qs _ (List.getElem_mem hiq)).len
          refine g_skip ?_
          refine n_then ?_
          refine g_seq ?_
          refine g_block ?_
          refine g_seq ?_
          -- region 28 pool.go:101
          refine g_region ?_
          refine wl_of (op_y (wn rfl) rfl rfl S (y_move rfl S rfl) fun a S => ?_)
          refine wl_of (op_y (wn rfl) rfl rfl S (y_iaddrn rfl Try.underlying22 Fsiz23 S H rfl rfl (by first | assumption | omega | (simp only [List.length_append, List.length_take, List.length_drop, List.length_replicate, List.length_set, List.length_map, List.length_cons, List.length_nil]; omega))) fun a S => ?_)
          refine wl_of (op_y (wn rfl) rfl rfl S (y_loads _ rfl Fsca23 S H rfl (by first | assumption | omega | (simp only [List.length_append, List.length_take, List.length_drop, List.length_replicate, List.length_set, List.length_map, List.length_cons, List.length_nil]; omega)) rfl) fun a S => ?_)
          refine wl_of (op_y (wn rfl) rfl rfl S (y_assign rfl S rfl) fun a S => ?_)
          refine wl_of (op_y (wn rfl) rfl rfl S (y_assign rfl S rfl) fun a S => ?_)
          refine gl_nil ?_
          refine n_then ?_
          refine g_seq ?_
          -- region 29 pool.go:102
          refine g_region ?_
          refine wl_of (op_y (wn rfl) rfl rfl S (y_move rfl S rfl) fun a S => ?_)
          refine wl_of (op_y (wn rfl) rfl rfl S (y_lens rfl Try.underlying23 S H rfl) fun a S => ?_)
          refine wl_of (op_y (wn rfl) rfl rfl S (y_move rfl S rfl) fun a S => ?_)
          refine gl_nil ?_
          refine n_then ?_
          refine g_block ?_
          have SU := (((((((((((S.nil.cons S 14 rfl).cons S 121 rfl).cons S 122 rfl).cons S 123 rfl).cons S 124 rfl).cons S 125 rfl).cons S 126 rfl).cons S 127 rfl).cons S 16 rfl).cons S 17 rfl).cons S 128 rfl).cons S 129 rfl
          refine loop_k (X := Nat) SU (fun q => [(15, .bool true), (130, .int .i64 (q : Int))]) (fun q => q ≤ qs[i].2.length ∧ ∀ p (hp : p < qs[i].2.length), p < q → atN out (qs[i].2[p]).toNat ≠ atN out i) (fun q => qs[i].2.length - q) 0 ((S.nil.cons S 130 rfl).cons S 15 rfl) H (⟨by omega, fun j hj hji => by omega⟩) (fun q a w S H hi => ?_)
          simp only [List.cons_append, List.nil_append] at S hi
          obtain ⟨hq, hnq⟩ := hi
          refine g_seq ?_
          -- region 30 pool.go:102
          refine g_region ?_
          refine wl_of (op_y (wn rfl) rfl rfl S (y_bin rfl S rfl rfl rfl) fun a S => ?_)
          refine gl_nil ?_
          refine n_then ?_
          refine g_seq ?_
          -- cond 8
          refine c_if S rfl (fun h16 => ?_) (fun h16 => ?_)
          · have h16p := h16; try simp only [Option.isNone_some, Option.isNone_none, Option.isSome_some, Option.isSome_none, false_or, or_false, true_and, and_true, decide_eq_true_eq, decide_eq_false_iff_not, Bool.or_eq_true, Bool.and_eq_true, Bool.or_eq_false_iff, Bool.and_eq_false_iff, Bool.not_eq_true', Bool.not_eq_false', bne_iff_ne, beq_iff_eq, beq_eq_false_iff_ne, bne_eq_false_iff_eq, ne_eq, Decidable.not_not, Int.not_lt, Int.not_le, gt_iff_lt, ge_iff_le, Bool.true_eq_false, Bool.false_eq_true, not_true_eq_false, not_false_eq_true] at h16p
            have hql : q < qs[i].2.length := by omega
            obtain ⟨t, ht⟩ : ∃ t : Nat, qs[i].2[q] = t := ⟨qs[i].2[q].toNat, by have := hto i (by omega) _ (List.mem_cons_of_mem _ (by rw [gr_row qs hiq]; exact List.getElem_mem hql)); omega⟩
            have htn : t < ps.length := by have := hto i (by omega) _ (List.mem_cons_of_mem _ (by rw [gr_row qs hiq]; exact List.getElem_mem hql)); omega
            have hot : atN out t = out[t] := atN_eq (by omega)
            have hoi : atN out i = out[i] := atN_eq (by omega)
            refine g_skip ?_
            refine n_then ?_
            refine g_seq ?_
            refine g_block ?_
            refine g_seq ?_
            -- region 31 pool.go:102
            refine g_region ?_
            refine wl_of (op_y (wn rfl) rfl rfl S (y_iaddrn rfl Try.underlying23 Fsiz3 S H rfl rfl (by first | assumption | omega | (simp only [List.length_append, List.length_take, List.length_drop, List.length_replicate, List.length_set, List.length_map, List.length_cons, List.length_nil]; omega))) fun a S => ?_)
            refine wl_of (op_y (wn rfl) rfl rfl S (y_loads _ rfl Fsca3 S H rfl (by first | assumption | omega | (simp only [List.length_append, List.length_take, List.length_drop, List.length_replicate, List.length_set, List.length_map, List.length_cons, List.length_nil]; omega)) rfl) fun a S => ?_)
            rw [ht] at S
            refine wl_of (op_y (wn rfl) rfl rfl S (y_assign rfl S rfl) fun a S => ?_)
            refine gl_nil ?_
            refine n_then ?_
            refine g_seq ?_
            -- region 32 DRAWS pool.go:103
            refine region_st (loud := []) (tails := []) (free := []) [0, 1, 2, 3, 4, 5, 6, 7, 8] [] Fmo (by kernel_rfl) (by kernel_rfl) rfl H ?_
            refine m_w rfl rfl (wn rfl) rfl rfl S (fun w H => y_move rfl S rfl) fun a S => ?_
            refine m_w rfl rfl (wn rfl) rfl rfl S (fun w H => y_move rfl S rfl) fun a S => ?_
            refine m_w rfl rfl (wn rfl) rfl rfl S (fun w H => y_iaddrn rfl Try.underlying23 Fsiz3 S H rfl rfl (by first | assumption | omega | (simp only [List.length_append, List.length_take, List.length_drop, List.length_replicate, List.length_set, List.length_map, List.length_cons, List.length_nil]; omega))) fun a S => ?_
            refine m_loads _ rfl rfl (wn rfl) rfl rfl S rfl Fsca3 rfl (by first | assumption | omega | (simp only [List.length_append, List.length_take, List.length_drop, List.length_replicate, List.length_set, List.length_map, List.length_cons, List.length_nil]; omega)) rfl fun a S => ?_
            refine m_w rfl rfl (wn rfl) rfl rfl S (fun w H => y_move rfl S rfl) fun a S => ?_
            refine m_w rfl rfl (wn rfl) rfl rfl S (fun w H => y_move rfl S rfl) fun a S => ?_
            refine m_w rfl rfl (wn rfl) rfl rfl S (fun w H => y_iaddrn rfl Try.underlying23 Fsiz3 S H rfl rfl (by first | assumption | omega | (simp only [List.length_append, List.length_take, List.length_drop, List.length_replicate, List.length_set, List.length_map, List.length_cons, List.length_nil]; omega))) fun a S => ?_
            refine m_loads _ rfl rfl (wn rfl) rfl rfl S rfl Fsca3 rfl (by first | assumption | omega | (simp only [List.length_append, List.length_take, List.length_drop, List.length_replicate, List.length_set, List.length_map, List.length_cons, List.length_nil]; omega)) rfl fun a S => ?_
            refine m_w rfl rfl (wn rfl) rfl rfl S (fun w H => y_bin rfl S rfl rfl rfl) fun a S => ?_
            refine m_nil (fun w H => ?_)
            refine n_then ?_
            -- cond 9
            refine c_if S rfl (fun h17 => ?_) (fun h17 => ?_)
            · have h17p := h17; try simp only [Option.isNone_some, Option.isNone_none, Option.isSome_some, Option.isSome_none, false_or, or_false, true_and, and_true, decide_eq_true_eq, decide_eq_false_iff_not, Bool.or_eq_true, Bool.and_eq_true, Bool.or_eq_false_iff, Bool.and_eq_false_iff, Bool.not_eq_true', Bool.not_eq_false', bne_iff_ne, beq_iff_eq, beq_eq_false_iff_ne, bne_eq_false_iff_eq, ne_eq, Decidable.not_not, Int.not_lt, Int.not_le, gt_iff_lt, ge_iff_le, Bool.true_eq_false, Bool.false_eq_true, not_true_eq_false, not_false_eq_true] at h17p
              refine g_seq ?_
              -- region 33 pool.go:104
              refine g_region ?_
              refine wl_of (op_y (wn rfl) rfl rfl S (y_assign rfl S rfl) fun a S => ?_)
              refine gl_nil ?_
              refine n_then ?_
              refine g_exit ?_
              refine x_ne rfl (x_then (x_then (x_ne rfl (x_ne rfl (x_then (x_then (x_eq ?_)))))))
              refine n_then ?_
              have S := S.nil.cons S 15 rfl
              refine g_seq ?_
              -- region 36 pool.go:109
              refine g_region ?_
              refine wl_of (op_y (wn rfl) rfl rfl S (y_move rfl S rfl) fun a S => ?_)
              refine wl_of (op_y (wn rfl) rfl rfl S (y_assign rfl S rfl) fun a S => ?_)
              refine gl_nil ?_
              refine n_then ?_
              refine g_ret ?_
              refine r_scope (ret1 rfl S rfl ?_)
              exact ⟨congrArg Value.bool (stab_no (fun hs => bet_bad hbet hrt hcls hiq (by rw [← ht]; exact List.getElem_mem _) (by rw [hot, hoi]; have := h17p; omega) hs.2)).symm, H.toExt⟩
            · have h17p := h17; try simp only [Option.isNone_some, Option.isNone_none, Option.isSome_some, Option.isSome_none, false_or, or_false, true_and, and_true, decide_eq_true_eq, decide_eq_false_iff_not, Bool.or_eq_true, Bool.and_eq_true, Bool.or_eq_false_iff, Bool.and_eq_false_iff, Bool.not_eq_true', Bool.not_eq_false', bne_iff_ne, beq_iff_eq, beq_eq_false_iff_ne, bne_eq_false_iff_eq, ne_eq, Decidable.not_not, Int.not_lt, Int.not_le, gt_iff_lt, ge_iff_le, Bool.true_eq_false, Bool.false_eq_true, not_true_eq_false, not_false_eq_true] at h17p
              refine g_skip ?_
              refine n_block ?_
              refine n_then ?_
              -- region 34 pool.go:102
              refine g_region ?_
              refine wl_of (op_y (wn rfl) rfl rfl S (y_add rfl S rfl rfl (by omega)) fun a S => ?_)
              refine wl_of (op_y (wn rfl) rfl rfl S (y_move rfl S rfl) fun a S => ?_)
              refine gl_nil ?_
              refine n_then ?_
              refine ⟨q + 1, (S.nil.cons S 130 rfl).cons S 15 rfl, (((((((((((S.nil.cons S 14 rfl).cons S 121 rfl).cons S 122 rfl).cons S 123 rfl).cons S 124 rfl).cons S 125 rfl).cons S 126 rfl).cons S 127 rfl).cons S 16 rfl).cons S 17 rfl).cons S 128 rfl).cons S 129 rfl, H, ?_, ?_⟩
              · exact ⟨by omega, fun p hp hpq => by by_cases hp2 : p < q; exact hnq p hp hp2; (obtain rfl : p = q := by omega); rw [ht, Int.toNat_natCast, hot, hoi]; intro e; exact h17p (by rw [e])⟩
              · omega
          · have h16p := h16; try simp only [Option.isNone_some, Option.isNone_none, Option.isSome_some, Option.isSome_none, false_or, or_false, true_and, and_true, decide_eq_true_eq, decide_eq_false_iff_not, Bool.or_eq_true, Bool.and_eq_true, Bool.or_eq_false_iff, Bool.and_eq_false_iff, Bool.not_eq_true', Bool.not_eq_false', bne_iff_ne, beq_iff_eq, beq_eq_false_iff_ne, bne_eq_false_iff_eq, ne_eq, Decidable.not_not, Int.not_lt, Int.not_le, gt_iff_lt, ge_iff_le, Bool.true_eq_false, Bool.false_eq_true, not_true_eq_false, not_false_eq_true] at h16p
            have hrowno : ∀ t ∈ qs[i].2, atN out t.toNat ≠ atN out i := fun t ht => by
              obtain ⟨p, hp, rfl⟩ := List.getElem_of_mem ht
              exact hnq p hp (by omega)
            refine g_exit ?_
            refine x_then (x_then (x_eq ?_))
            refine n_block ?_
            refine n_then ?_
            -- region 35 pool.go:101
            refine g_region ?_
            refine wl_of (op_y (wn rfl) rfl rfl S (y_add rfl S rfl rfl (by omega)) fun a S => ?_)
            refine wl_of (op_y (wn rfl) rfl rfl S (y_move rfl S rfl) fun a S => ?_)
            refine gl_nil ?_
            refine n_then ?_
            refine ⟨i + 1, (S.nil.cons S 123 rfl).cons S 15 rfl, ((S.nil.cons S 14 rfl).cons S 121 rfl).cons S 122 rfl, H, ?_, ?_⟩
            · exact ⟨by omega, fun j hj hji => by by_cases hj2 : j < i; exact hno j hj hj2; (obtain rfl : j = i := by omega); exact hrowno⟩
            · omega
        · have h15p := h15; try simp only [Option.isNone_some, Option.isNone_none, Option.isSome_some, Option.isSome_none, false_or, or_false, true_and, and_true, decide_eq_true_eq, decide_eq_false_iff_not, Bool.or_eq_true, Bool.and_eq_true, Bool.or_eq_false_iff, Bool.and_eq_false_iff, Bool.not_eq_true', Bool.not_eq_false', bne_iff_ne, beq_iff_eq, beq_eq_false_iff_ne, bne_eq_false_iff_eq, ne_eq, Decidable.not_not, Int.not_lt, Int.not_le, gt_iff_lt, ge_iff_le, Bool.true_eq_false, Bool.false_eq_true, not_true_eq_false, not_false_eq_true] at h15p
          refine g_exit ?_
          refine x_then (x_then (x_eq ?_))
          refine n_then ?_
          have S := S.nil.cons S 15 rfl
          refine g_seq ?_
          -- region 36 pool.go:109
          refine g_region ?_
          refine wl_of (op_y (wn rfl) rfl rfl S (y_move rfl S rfl) fun a S => ?_)
          refine wl_of (op_y (wn rfl) rfl rfl S (y_assign rfl S rfl) fun a S => ?_)
          refine gl_nil ?_
          refine n_then ?_
          refine g_ret ?_
          refine r_scope (ret1 rfl S rfl ?_)
          exact ⟨congrArg Value.bool (stab_yes (by omega) ⟨by omega, hrt, by rw [hgrl]; exact hrow, bet_acc hbet, bet_free hbet hrt hcls (fun j hj t ht => hno j hj (by omega) t ht)⟩).symm, H.toExt⟩

end Go.Proofs.Ytoghkehlmibniaa
