/- The walks. No condition. -/
import Derived.Test.YtoghkehlmibniaaChecked
import Derived.Test.YtoghkehlmibniaaGwQue
import Derived.Test.YtoghkehlmibniaaFacts
import Derived.Test.YtoghkehlmibniaaPlain
import Derived.Test.YtoghkehlmibniaaW2
namespace Go.Proofs.Ytoghkehlmibniaa
open Go Go.Gw
set_option linter.unusedVariables false
set_option linter.unusedSimpArgs false
set_option maxHeartbeats 4000000 in
/-- foyer/pool.Swap -/
theorem swap_ok (v : Value) (ps : List (Value × List Int)) (w0 : World) (hv : IsSl w0 v 1 encRow ps) (hr : ∀ p ∈ ps, IsSl w0 p.1 1 encI p.2) (hrt : Right (gr ps)) (hl1 : ps.length ≤ 1000) :
    Ret Try.prog 13 #[v] w0 (fun u w => ∃ vo out, u = .tuple #[vo, .int .i64 0] ∧ (∃ r, TTC (gr ps) out r) ∧ HSat No w0 [OSl 3 vo 1 encI out] w) := by
  refine ret_of_wp (nt := 70) Try.func13 rfl rfl rfl (fl := [(0, v)]) rfl (fun a S => ?_)
  have H := HSat.start w0
  have H := H.ro0 (Sl v 1 encRow ps) rfl (hv)
  have H := H.ro0 (RowsS 1 encI ps) rfl (hr)
  have hl := hv.len
  have hgrl := gr_len ps
  refine g_seq ?_
  -- region 0 pool.go:38
  refine g_region ?_
  refine wl_of (op_box1 (wn rfl) rfl rfl rfl S H rfl (H.slc _) fun b1 a w S H => ?_)
  refine wl_of (op_y (wn rfl) rfl rfl S (y_assign rfl S rfl) fun a S => ?_)
  refine wl_of (op_y (wn rfl) rfl rfl S (y_assign rfl S rfl) fun a S => ?_)
  refine gl_nil ?_
  refine n_then ?_
  refine g_seq ?_
  refine g_block ?_
  refine g_seq ?_
  -- region 1 pool.go:40
  refine g_region ?_
  refine wl_of (op_y (wn rfl) rfl rfl S (y_load rfl Fsca22 S H rfl rfl) fun a S => ?_)
  refine wl_of (op_y (wn rfl) rfl rfl S (y_lens rfl Try.underlying22 S H rfl) fun a S => ?_)
  refine wl_of (op_y (wn rfl) rfl rfl S (y_bin rfl S rfl rfl rfl) fun a S => ?_)
  refine wl_of (op_y (wn rfl) rfl rfl S (y_assign rfl S rfl) fun a S => ?_)
  refine gl_nil ?_
  refine n_then ?_
  have S := (((S.nil.cons S 1 rfl).cons S 2 rfl).cons S 3 rfl).cons S 14 rfl
  -- cond 1
  refine c_if S rfl (fun h1 => ?_) (fun h1 => ?_)
  · have h1p := h1; try simp only [Option.isNone_some, Option.isNone_none, Option.isSome_some, Option.isSome_none, false_or, or_false, true_and, and_true, decide_eq_true_eq, decide_eq_false_iff_not, Bool.or_eq_true, Bool.and_eq_true, Bool.or_eq_false_iff, Bool.and_eq_false_iff, Bool.not_eq_true', Bool.not_eq_false', bne_iff_ne, beq_iff_eq, beq_eq_false_iff_ne, bne_eq_false_iff_eq, ne_eq, Decidable.not_not, Int.not_lt, Int.not_le, gt_iff_lt, ge_iff_le, Bool.true_eq_false, Bool.false_eq_true, not_true_eq_false, not_false_eq_true] at h1p
    all_goals (
      have := h1p; omega)
  · have h1p := h1; try simp only [Option.isNone_some, Option.isNone_none, Option.isSome_some, Option.isSome_none, false_or, or_false, true_and, and_true, decide_eq_true_eq, decide_eq_false_iff_not, Bool.or_eq_true, Bool.and_eq_true, Bool.or_eq_false_iff, Bool.and_eq_false_iff, Bool.not_eq_true', Bool.not_eq_false', bne_iff_ne, beq_iff_eq, beq_eq_false_iff_ne, bne_eq_false_iff_eq, ne_eq, Decidable.not_not, Int.not_lt, Int.not_le, gt_iff_lt, ge_iff_le, Bool.true_eq_false, Bool.false_eq_true, not_true_eq_false, not_false_eq_true] at h1p
    refine g_seq ?_
    -- region 3 pool.go:42
    refine g_region ?_
    refine wl_of (op_y (wn rfl) rfl rfl S (y_load rfl Fsca22 S H rfl rfl) fun a S => ?_)
    refine wl_of (op_call (wn rfl) rfl rfl S (co_func rfl Try.call23 S rfl) (right_spec v ps _ (H.sl v) (H.rwsS ps)) fun v w hc a S => ?_)
    obtain ⟨rfl, he⟩ := hc
    have H := H.ext he
    refine wl_of (op_y (wn rfl) rfl rfl S (y_not rfl S rfl) fun a S => ?_)
    refine wl_of (op_y (wn rfl) rfl rfl S (y_assign rfl S rfl) fun a S => ?_)
    refine gl_nil ?_
    refine n_then ?_
    have S := (((S.nil.cons S 1 rfl).cons S 2 rfl).cons S 3 rfl).cons S 18 rfl
    -- cond 2
    refine c_if S rfl (fun h2 => ?_) (fun h2 => ?_)
    · have h2p := h2; try simp only [Option.isNone_some, Option.isNone_none, Option.isSome_some, Option.isSome_none, false_or, or_false, true_and, and_true, decide_eq_true_eq, decide_eq_false_iff_not, Bool.or_eq_true, Bool.and_eq_true, Bool.or_eq_false_iff, Bool.and_eq_false_iff, Bool.not_eq_true', Bool.not_eq_false', bne_iff_ne, beq_iff_eq, beq_eq_false_iff_ne, bne_eq_false_iff_eq, ne_eq, Decidable.not_not, Int.not_lt, Int.not_le, gt_iff_lt, ge_iff_le, Bool.true_eq_false, Bool.false_eq_true, not_true_eq_false, not_false_eq_true] at h2p
      all_goals (
        rw [right_iff.2 hrt] at h2; simp at h2)
    · have h2p := h2; try simp only [Option.isNone_some, Option.isNone_none, Option.isSome_some, Option.isSome_none, false_or, or_false, true_and, and_true, decide_eq_true_eq, decide_eq_false_iff_not, Bool.or_eq_true, Bool.and_eq_true, Bool.or_eq_false_iff, Bool.and_eq_false_iff, Bool.not_eq_true', Bool.not_eq_false', bne_iff_ne, beq_iff_eq, beq_eq_false_iff_ne, bne_eq_false_iff_eq, ne_eq, Decidable.not_not, Int.not_lt, Int.not_le, gt_iff_lt, ge_iff_le, Bool.true_eq_false, Bool.false_eq_true, not_true_eq_false, not_false_eq_true] at h2p
      refine g_skip ?_
      refine n_block ?_
      refine n_then ?_
      refine g_seq ?_
      -- region 5 pool.go:45
      refine g_region ?_
      refine wl_of (op_y (wn rfl) rfl rfl S (y_load rfl Fsca22 S H rfl rfl) fun a S => ?_)
      refine wl_of (op_y (wn rfl) rfl rfl S (y_lens rfl Try.underlying22 S H rfl) fun a S => ?_)
      refine wl_of (op_make (encB) (false) (wn rfl) rfl rfl rfl Try.underlying38 Finf4 rfl rfl S H rfl rfl rfl (by omega) (by omega) fun b24 a w S H => ?_)
      refine wl_of (op_alloc (wn rfl) rfl rfl rfl S H Fzer38 fun b4 a w S H => ?_)
      refine wl_of (op_store (wn rfl) rfl rfl S H rfl rfl (H.sl1 _) Fsiz38 rfl fun a w S H => ?_)
      dsimp only [List.set, Nat.zero_add, Nat.reduceAdd] at H
      refine gl_nil ?_
      refine n_then ?_
      have S := (((S.nil.cons S 1 rfl).cons S 2 rfl).cons S 3 rfl).cons S 4 rfl
      refine g_seq ?_
      -- region 6 pool.go:46
      refine g_region ?_
      refine wl_of (op_y (wn rfl) rfl rfl S (y_load rfl Fsca22 S H rfl rfl) fun a S => ?_)
      refine wl_of (op_y (wn rfl) rfl rfl S (y_lens rfl Try.underlying22 S H rfl) fun a S => ?_)
      refine wl_of (op_make (encI) (0) (wn rfl) rfl rfl rfl Try.underlying23 Finf3 rfl rfl S H rfl rfl rfl (by omega) (by omega) fun b27 a w S H => ?_)
      refine wl_of (op_alloc (wn rfl) rfl rfl rfl S H Fzer23 fun b5 a w S H => ?_)
      refine wl_of (op_store (wn rfl) rfl rfl S H rfl rfl (H.sl1 _) Fsiz23 rfl fun a w S H => ?_)
      dsimp only [List.set, Nat.zero_add, Nat.reduceAdd] at H
      refine gl_nil ?_
      refine n_then ?_
      refine g_seq ?_
      -- region 7 pool.go:47
      refine g_region ?_
      refine wl_of (op_y (wn rfl) rfl rfl S (y_makeFunc rfl S rfl rfl) fun a S => ?_)
      refine wl_of (op_y (wn rfl) rfl rfl S (y_assign rfl S rfl) fun a S => ?_)
      refine gl_nil ?_
      refine n_then ?_
      have S := ((((S.nil.cons S 1 rfl).cons S 2 rfl).cons S 3 rfl).cons S 4 rfl).cons S 6 rfl
      refine g_seq ?_
      -- region 8 pool.go:57
      refine g_region ?_
      refine wl_of (op_y (wn rfl) rfl rfl S (y_load rfl Fsca22 S H rfl rfl) fun a S => ?_)
      refine wl_of (op_y (wn rfl) rfl rfl S (y_lens rfl Try.underlying22 S H rfl) fun a S => ?_)
      refine wl_of (op_make (encI) (0) (wn rfl) rfl rfl rfl Try.underlying23 Finf3 rfl rfl S H rfl rfl rfl (by omega) (by omega) fun b31 a w S H => ?_)
      refine wl_of (op_y (wn rfl) rfl rfl S (y_assign rfl S rfl) fun a S => ?_)
      refine gl_nil ?_
      refine n_then ?_
      refine g_seq ?_
      refine g_seq ?_
      -- region 9 pool.go:58
      refine g_region ?_
      refine wl_of (op_y (wn rfl) rfl rfl S (y_load rfl Fsca22 S H rfl rfl) fun a S => ?_)
      refine wl_of (op_y (wn rfl) rfl rfl S (y_lens rfl Try.underlying22 S H rfl) fun a S => ?_)
      refine wl_of (op_y (wn rfl) rfl rfl S (y_move rfl S rfl) fun a S => ?_)
      refine gl_nil ?_
      refine n_then ?_
      have S := ((((((S.nil.cons S 2 rfl).cons S 3 rfl).cons S 4 rfl).cons S 6 rfl).cons S 7 rfl).cons S 33 rfl).cons S 34 rfl
      refine g_block ?_
      have H := (H.front (Cel b1 22 [v])).freeze
      have H := (H.front (Cel b5 23 [(.slice (some ⟨b27, 0, none⟩) ps.length ps.length)])).freeze
      have H := (H.front (Cel b4 38 [(.slice (some ⟨b24, 0, none⟩) ps.length ps.length)])).freeze
      
      have SU := (((((S.nil.cons S 2 rfl).cons S 3 rfl).cons S 4 rfl).cons S 6 rfl).cons S 7 rfl).cons S 33 rfl
      refine loopW (X := Nat) SU (fun k => [(34, .int .i64 (k : Int))]) (fun k w => k ≤ ps.length ∧ ∃ gone at1 out r J, SwI (gr ps) gone out r J ∧ AtOK (gr ps) gone at1 ∧ (∀ j, j < k → atB gone j = true) ∧ HSat No w0 [OSl 3 (.slice (some ⟨b27, 0, none⟩) ps.length ps.length) 1 encI (at1), OSl 4 (.slice (some ⟨b24, 0, none⟩) ps.length ps.length) 1 encB (gone), Atom.ro (Cel b1 22 [v]), Atom.ro (Cel b5 23 [(.slice (some ⟨b27, 0, none⟩) ps.length ps.length)]), Atom.ro (Cel b4 38 [(.slice (some ⟨b24, 0, none⟩) ps.length ps.length)]), RowsS 1 encI ps, Sl v 1 encRow ps, OSl 3 (.slice (some ⟨b31, 0, none⟩) ps.length ps.length) 1 encI (out)] w) (fun k => ps.length - k) 0 (S.nil.cons S 34 rfl) (⟨by omega, _, _, _, _, 0, sw_start (ws := gr ps) (out := List.replicate ps.length 0) (by simp [hgrl]), at_start _ _, fun j hj => by omega, by rw [hgrl]; exact H.take [OSl 3 (.slice (some ⟨b27, 0, none⟩) ps.length ps.length) 1 encI (List.replicate ps.length 0), OSl 4 (.slice (some ⟨b24, 0, none⟩) ps.length ps.length) 1 encB (List.replicate ps.length false), Atom.ro (Cel b1 22 [v]), Atom.ro (Cel b5 23 [(.slice (some ⟨b27, 0, none⟩) ps.length ps.length)]), Atom.ro (Cel b4 38 [(.slice (some ⟨b24, 0, none⟩) ps.length ps.length)]), RowsS 1 encI ps, Sl v 1 encRow ps, OSl 3 (.slice (some ⟨b31, 0, none⟩) ps.length ps.length) 1 encI (List.replicate ps.length 0)]⟩) (fun k a w S hW => ?_)
      simp only [List.cons_append, List.nil_append] at S
      obtain ⟨hk, gone0, at0, out0, r0, J0, hI0, hat0, hall0, H⟩ := hW
      refine g_seq ?_
      -- region 10 pool.go:58
      refine g_region ?_
      refine wl_of (op_y (wn rfl) rfl rfl S (y_bin rfl S rfl rfl rfl) fun a S => ?_)
      refine gl_nil ?_
      refine n_then ?_
      refine g_seq ?_
      -- cond 3
      refine c_if S rfl (fun h3 => ?_) (fun h3 => ?_)
      · have h3p := h3; try simp only [Option.isNone_some, Option.isNone_none, Option.isSome_some, Option.isSome_none, false_or, or_false, true_and, and_true, decide_eq_true_eq, decide_eq_false_iff_not, Bool.or_eq_true, Bool.and_eq_true, Bool.or_eq_false_iff, Bool.and_eq_false_iff, Bool.not_eq_true', Bool.not_eq_false', bne_iff_ne, beq_iff_eq, beq_eq_false_iff_ne, bne_eq_false_iff_eq, ne_eq, Decidable.not_not, Int.not_lt, Int.not_le, gt_iff_lt, ge_iff_le, Bool.true_eq_false, Bool.false_eq_true, not_true_eq_false, not_false_eq_true] at h3p
        have hkl : k < ps.length := by omega
        refine g_skip ?_
        refine n_then ?_
        refine g_seq ?_
        refine g_block ?_
        refine g_seq ?_
        -- region 11 pool.go:58
        refine g_region ?_
        refine wl_of (op_y (wn rfl) rfl rfl S (y_move rfl S rfl) fun a S => ?_)
        refine wl_of (op_y (wn rfl) rfl rfl S (y_assign rfl S rfl) fun a S => ?_)
        refine gl_nil ?_
        refine n_then ?_
        refine g_block ?_
        have SU := (((((((((S.nil.cons S 2 rfl).cons S 3 rfl).cons S 4 rfl).cons S 6 rfl).cons S 7 rfl).cons S 33 rfl).cons S 34 rfl).cons S 35 rfl).cons S 36 rfl).cons S 8 rfl
        refine loopW (X := List Bool) SU (fun gone => []) (fun gone w => ∃ at1 out r J, SwI (gr ps) gone out r J ∧ AtOK (gr ps) gone at1 ∧ (∀ j, j < k → atB gone j = true) ∧ HSat No w0 [OSl 3 (.slice (some ⟨b27, 0, none⟩) ps.length ps.length) 1 encI (at1), OSl 4 (.slice (some ⟨b24, 0, none⟩) ps.length ps.length) 1 encB (gone), Atom.ro (Cel b1 22 [v]), Atom.ro (Cel b5 23 [(.slice (some ⟨b27, 0, none⟩) ps.length ps.length)]), Atom.ro (Cel b4 38 [(.slice (some ⟨b24, 0, none⟩) ps.length ps.length)]), RowsS 1 encI ps, Sl v 1 encRow ps, OSl 3 (.slice (some ⟨b31, 0, none⟩) ps.length ps.length) 1 encI (out)] w) (fun gone => thereC gone) gone0 (S.nil) (⟨at0, out0, r0, J0, hI0, hat0, hall0, H⟩) (fun gone a w S hW => ?_)
        simp only [List.cons_append, List.nil_append] at S
        clear H
        obtain ⟨at1, out, r, J, hI, hat, hall, H⟩ := hW
        have hgl2 := hI.lg
        have hol2 := hI.lo
        refine g_seq ?_
        refine g_seq ?_
        -- region 12 pool.go:59
        refine g_region ?_
        refine wl_of (op_y (wn rfl) rfl rfl S (y_load rfl Fsca38 S H rfl rfl) fun a S => ?_)
        refine wl_of (op_y (wn rfl) rfl rfl S (y_move rfl S rfl) fun a S => ?_)
        refine wl_of (op_y (wn rfl) rfl rfl S (y_iaddrn rfl Try.underlying38 Fsiz4 S H rfl rfl (by first | assumption | omega | (simp only [List.length_append, List.length_take, List.length_drop, List.length_replicate, List.length_set, List.length_map, List.length_cons, List.length_nil]; omega))) fun a S => ?_)
        refine wl_of (op_y (wn rfl) rfl rfl S (y_loads _ rfl Fsca4 S H rfl (by first | assumption | omega | (simp only [List.length_append, List.length_take, List.length_drop, List.length_replicate, List.length_set, List.length_map, List.length_cons, List.length_nil]; omega)) rfl) fun a S => ?_)
        have hgk : atB gone k = gone[k] := atB_eq (by have := hI.lg; omega)
        refine wl_of (op_y (wn rfl) rfl rfl S (y_not rfl S rfl) fun a S => ?_)
        refine gl_nil ?_
        refine n_then ?_
        -- cond 4
        refine c_if S rfl (fun h4 => ?_) (fun h4 => ?_)
        · have h4p := h4; try simp only [Option.isNone_some, Option.isNone_none, Option.isSome_some, Option.isSome_none, false_or, or_false, true_and, and_true, decide_eq_true_eq, decide_eq_false_iff_not, Bool.or_eq_true, Bool.and_eq_true, Bool.or_eq_false_iff, Bool.and_eq_false_iff, Bool.not_eq_true', Bool.not_eq_false', bne_iff_ne, beq_iff_eq, beq_eq_false_iff_ne, bne_eq_false_iff_eq, ne_eq, Decidable.not_not, Int.not_lt, Int.not_le, gt_iff_lt, ge_iff_le, Bool.true_eq_false, Bool.false_eq_true, not_true_eq_false, not_false_eq_true] at h4p
          refine g_skip ?_
          refine n_then ?_
          refine g_block ?_
          refine g_seq ?_
          -- region 13 pool.go:60
          refine g_region ?_
          refine wl_of (op_y (wn rfl) rfl rfl S (y_move rfl S rfl) fun a S => ?_)
          refine wl_of (op_y (wn rfl) rfl rfl S (y_move rfl S rfl) fun a S => ?_)
          refine wl_of (op_call (wn rfl) rfl rfl S (co_func rfl Try.call25 S rfl) (circle_spec v (.slice (some ⟨b27, 0, none⟩) ps.length ps.length) (.slice (some ⟨b24, 0, none⟩) ps.length ps.length) ps b1 b5 b4 gone hrt (by rw [hI.lg, hgrl]) hl1 k at1 _ (by omega) (by rw [hgk]; simpa using h4) hat H) fun u44 w hc a S => ?_)
          obtain ⟨c, hc, at2, hat2, H⟩ := hc
          have hcl := nodup_rng hc.nd hc.rng
          refine wl_of (op_y (wn rfl) rfl rfl S (y_assign rfl S rfl) fun a S => ?_)
          refine gl_nil ?_
          refine n_then ?_
          refine g_seq ?_
          refine g_seq ?_
          -- region 14 pool.go:61
          refine g_region ?_
          refine wl_of (op_y (wn rfl) rfl rfl S (y_move rfl S rfl) fun a S => ?_)
          refine wl_of (op_y (wn rfl) rfl rfl S (y_lens rfl Try.underlying23 S H rfl) fun a S => ?_)
          refine wl_of (op_y (wn rfl) rfl rfl S (y_move rfl S rfl) fun a S => ?_)
          refine gl_nil ?_
          refine n_then ?_
          refine g_block ?_
          have SU := ((((((((((((((((((((S.nil.cons S 2 rfl).cons S 3 rfl).cons S 4 rfl).cons S 6 rfl).cons S 7 rfl).cons S 33 rfl).cons S 34 rfl).cons S 35 rfl).cons S 36 rfl).cons S 8 rfl).cons S 37 rfl).cons S 38 rfl).cons S 39 rfl).cons S 40 rfl).cons S 41 rfl).cons S 42 rfl).cons S 43 rfl).cons S 44 rfl).cons S 9 rfl).cons S 45 rfl).cons S 46 rfl
          refine loopW (X := Nat) SU (fun q => [(47, .int .i64 (q : Int))]) (fun q w => q ≤ c.length ∧ ∃ at1, AtOK (gr ps) gone at1 ∧ HSat No w0 [OSl 3 (.slice (some ⟨b27, 0, none⟩) ps.length ps.length) 1 encI (at1), OSl 4 (.slice (some ⟨b24, 0, none⟩) ps.length ps.length) 1 encB (gone), Atom.ro (Cel b1 22 [v]), Atom.ro (Cel b5 23 [(.slice (some ⟨b27, 0, none⟩) ps.length ps.length)]), Atom.ro (Cel b4 38 [(.slice (some ⟨b24, 0, none⟩) ps.length ps.length)]), RowsS 1 encI ps, Sl v 1 encRow ps, OSl 3 (.slice (some ⟨b31, 0, none⟩) ps.length ps.length) 1 encI (setO out (c.take q) (nxtL (gr ps) gone)), Sl u44 1 encI c] w) (fun q => c.length - q) 0 (S.nil.cons S 47 rfl) (⟨by omega, at2, hat2, H.take [OSl 3 (.slice (some ⟨b27, 0, none⟩) ps.length ps.length) 1 encI (at2), OSl 4 (.slice (some ⟨b24, 0, none⟩) ps.length ps.length) 1 encB (gone), Atom.ro (Cel b1 22 [v]), Atom.ro (Cel b5 23 [(.slice (some ⟨b27, 0, none⟩) ps.length ps.length)]), Atom.ro (Cel b4 38 [(.slice (some ⟨b24, 0, none⟩) ps.length ps.length)]), RowsS 1 encI ps, Sl v 1 encRow ps, OSl 3 (.slice (some ⟨b31, 0, none⟩) ps.length ps.length) 1 encI (out), Sl u44 1 encI c]⟩) (fun q a w S hW => ?_)
          simp only [List.cons_append, List.nil_append] at S
          clear H hat hat2
          obtain ⟨hq, at1, hat, H⟩ := hW
          refine g_seq ?_
          -- region 15 pool.go:61
          refine g_region ?_
          refine wl_of (op_y (wn rfl) rfl rfl S (y_bin rfl S rfl rfl rfl) fun a S => ?_)
          refine gl_nil ?_
          refine n_then ?_
          refine g_seq ?_
          -- cond 5
          refine c_if S rfl (fun h5 => ?_) (fun h5 => ?_)
          · have h5p := h5; try simp only [Option.isNone_some, Option.isNone_none, Option.isSome_some, Option.isSome_none, false_or, or_false, true_and, and_true, decide_eq_true_eq, decide_eq_false_iff_not, Bool.or_eq_true, Bool.and_eq_true, Bool.or_eq_false_iff, Bool.and_eq_false_iff, Bool.not_eq_true', Bool.not_eq_false', bne_iff_ne, beq_iff_eq, beq_eq_false_iff_ne, bne_eq_false_iff_eq, ne_eq, Decidable.not_not, Int.not_lt, Int.not_le, gt_iff_lt, ge_iff_le, Bool.true_eq_false, Bool.false_eq_true, not_true_eq_false, not_false_eq_true] at h5p
            have hql : q < c.length := by omega
            obtain ⟨e, he⟩ : ∃ e : Nat, c[q] = e := ⟨c[q].toNat, by have := hc.rng _ (List.getElem_mem hql); omega⟩
            have her : e < ps.length := by have := hc.rng _ (List.getElem_mem hql); omega
            have hol : (setO out (c.take q) (nxtL (gr ps) gone)).length = ps.length := by rw [setO_len, hI.lo, hgrl]
            refine g_skip ?_
            refine n_then ?_
            refine g_seq ?_
            refine g_block ?_
            refine g_seq ?_
            -- region 16 pool.go:61
            refine g_region ?_
            refine wl_of (op_y (wn rfl) rfl rfl S (y_iaddrn rfl Try.underlying23 Fsiz3 S H rfl rfl (by first | assumption | omega | (simp only [List.length_append, List.length_take, List.length_drop, List.length_replicate, List.length_set, List.length_map, List.length_cons, List.length_nil]; omega))) fun a S => ?_)
            refine wl_of (op_y (wn rfl) rfl rfl S (y_loads _ rfl Fsca3 S H rfl (by first | assumption | omega | (simp only [List.length_append, List.length_take, List.length_drop, List.length_replicate, List.length_set, List.length_map, List.length_cons, List.length_nil]; omega)) rfl) fun a S => ?_)
            rw [he] at S
            refine wl_of (op_y (wn rfl) rfl rfl S (y_assign rfl S rfl) fun a S => ?_)
            refine gl_nil ?_
            refine n_then ?_
            -- region 17 pool.go:62
            refine g_region ?_
            refine wl_of (op_y (wn rfl) rfl rfl S (y_move rfl S rfl) fun a S => ?_)
            refine wl_of (op_y (wn rfl) rfl rfl S (y_move rfl S rfl) fun a S => ?_)
            refine wl_of (op_y (wn rfl) rfl rfl S (y_move rfl S rfl) fun a S => ?_)
            refine wl_of (op_y (wn rfl) rfl rfl S (y_move rfl S rfl) fun a S => ?_)
            refine wl_of (op_call (wn rfl) rfl rfl S (co_value rfl Try.call24 S rfl rfl) (best_spec v (.slice (some ⟨b27, 0, none⟩) ps.length ps.length) (.slice (some ⟨b24, 0, none⟩) ps.length ps.length) ps b1 b5 b4 gone hrt (by rw [hI.lg, hgrl]) e at1 _ (by omega) hat H) fun u55 w hc a S => ?_)
            obtain ⟨rfl, at2, hat2, H⟩ := hc
            
            refine wl_of (op_y (wn rfl) rfl rfl S (y_iaddrn rfl Try.underlying23 Fsiz3 S H rfl rfl (by first | assumption | omega | (simp only [List.length_append, List.length_take, List.length_drop, List.length_replicate, List.length_set, List.length_map, List.length_cons, List.length_nil]; omega))) fun a S => ?_)
            refine wl_of (op_store1 _ (_) (wn rfl) rfl rfl S H rfl rfl rfl rfl Fsiz3 (by first | assumption | omega | (simp only [List.length_append, List.length_take, List.length_drop, List.length_replicate, List.length_set, List.length_map, List.length_cons, List.length_nil]; omega)) (by exact rfl) fun a w S H => ?_)
            refine gl_nil ?_
            refine n_block ?_
            refine n_then ?_
            -- region 18 pool.go:61
            refine g_region ?_
            refine wl_of (op_y (wn rfl) rfl rfl S (y_add rfl S rfl rfl (by omega)) fun a S => ?_)
            refine wl_of (op_y (wn rfl) rfl rfl S (y_move rfl S rfl) fun a S => ?_)
            refine gl_nil ?_
            refine n_then ?_
            have hst := setO_step (out := out) (f := nxtL (gr ps) gone) hql
            rw [he] at hst
            exact ⟨q + 1, S.nil.cons S 47 rfl, ((((((((((((((((((((S.nil.cons S 2 rfl).cons S 3 rfl).cons S 4 rfl).cons S 6 rfl).cons S 7 rfl).cons S 33 rfl).cons S 34 rfl).cons S 35 rfl).cons S 36 rfl).cons S 8 rfl).cons S 37 rfl).cons S 38 rfl).cons S 39 rfl).cons S 40 rfl).cons S 41 rfl).cons S 42 rfl).cons S 43 rfl).cons S 44 rfl).cons S 9 rfl).cons S 45 rfl).cons S 46 rfl, ⟨by omega, at2, hat2, by rw [← hst]; exact H⟩, by omega⟩
          · have h5p := h5; try simp only [Option.isNone_some, Option.isNone_none, Option.isSome_some, Option.isSome_none, false_or, or_false, true_and, and_true, decide_eq_true_eq, decide_eq_false_iff_not, Bool.or_eq_true, Bool.and_eq_true, Bool.or_eq_false_iff, Bool.and_eq_false_iff, Bool.not_eq_true', Bool.not_eq_false', bne_iff_ne, beq_iff_eq, beq_eq_false_iff_ne, bne_eq_false_iff_eq, ne_eq, Decidable.not_not, Int.not_lt, Int.not_le, gt_iff_lt, ge_iff_le, Bool.true_eq_false, Bool.false_eq_true, not_true_eq_false, not_false_eq_true] at h5p
            obtain rfl : q = c.length := by omega
            rw [List.take_length] at H
            refine g_exit ?_
            refine x_then (x_then (x_eq ?_))
            refine n_then ?_
            refine g_seq ?_
            -- region 19 pool.go:64
            refine g_region ?_
            refine wl_of (op_y (wn rfl) rfl rfl S (y_move rfl S rfl) fun a S => ?_)
            refine wl_of (op_y (wn rfl) rfl rfl S (y_lens rfl Try.underlying23 S H rfl) fun a S => ?_)
            refine wl_of (op_y (wn rfl) rfl rfl S (y_move rfl S rfl) fun a S => ?_)
            refine gl_nil ?_
            refine n_then ?_
            refine g_block ?_
            have SU := ((((((((((((((((((((((((S.nil.cons S 2 rfl).cons S 3 rfl).cons S 4 rfl).cons S 6 rfl).cons S 7 rfl).cons S 33 rfl).cons S 34 rfl).cons S 35 rfl).cons S 36 rfl).cons S 8 rfl).cons S 37 rfl).cons S 38 rfl).cons S 39 rfl).cons S 40 rfl).cons S 41 rfl).cons S 42 rfl).cons S 43 rfl).cons S 44 rfl).cons S 9 rfl).cons S 45 rfl).cons S 46 rfl).cons S 47 rfl).cons S 48 rfl).cons S 58 rfl).cons S 59 rfl
            refine loopW (X := Nat) SU (fun q => [(60, .int .i64 (q : Int))]) (fun q w => q ≤ c.length ∧ HSat No w0 [OSl 3 (.slice (some ⟨b27, 0, none⟩) ps.length ps.length) 1 encI (at1), OSl 4 (.slice (some ⟨b24, 0, none⟩) ps.length ps.length) 1 encB (setT gone (c.take q)), Atom.ro (Cel b1 22 [v]), Atom.ro (Cel b5 23 [(.slice (some ⟨b27, 0, none⟩) ps.length ps.length)]), Atom.ro (Cel b4 38 [(.slice (some ⟨b24, 0, none⟩) ps.length ps.length)]), RowsS 1 encI ps, Sl v 1 encRow ps, OSl 3 (.slice (some ⟨b31, 0, none⟩) ps.length ps.length) 1 encI (setO out c (nxtL (gr ps) gone)), Sl u44 1 encI c] w) (fun q => c.length - q) 0 (S.nil.cons S 60 rfl) (⟨by omega, H⟩) (fun q a w S hW => ?_)
            simp only [List.cons_append, List.nil_append] at S
            clear H
            obtain ⟨hq, H⟩ := hW
            refine g_seq ?_
            -- region 20 pool.go:64
            refine g_region ?_
            refine wl_of (op_y (wn rfl) rfl rfl S (y_bin rfl S rfl rfl rfl) fun a S => ?_)
            refine gl_nil ?_
            refine n_then ?_
            refine g_seq ?_
            -- cond 6
            refine c_if S rfl (fun h6 => ?_) (fun h6 => ?_)
            · have h6p := h6; try simp only [Option.isNone_some, Option.isNone_none, Option.isSome_some, Option.isSome_none, false_or, or_false, true_and, and_true, decide_eq_true_eq, decide_eq_false_iff_not, Bool.or_eq_true, Bool.and_eq_true, Bool.or_eq_false_iff, Bool.and_eq_false_iff, Bool.not_eq_true', Bool.not_eq_false', bne_iff_ne, beq_iff_eq, beq_eq_false_iff_ne, bne_eq_false_iff_eq, ne_eq, Decidable.not_not, Int.not_lt, Int.not_le, gt_iff_lt, ge_iff_le, Bool.true_eq_false, Bool.false_eq_true, not_true_eq_false, not_false_eq_true] at h6p
              have hql : q < c.length := by omega
              obtain ⟨e, he⟩ : ∃ e : Nat, c[q] = e := ⟨c[q].toNat, by have := hc.rng _ (List.getElem_mem hql); omega⟩
              have her : e < ps.length := by have := hc.rng _ (List.getElem_mem hql); omega
              have hol : (setT gone (c.take q)).length = ps.length := by rw [setT_len, hI.lg, hgrl]
              refine g_skip ?_
              refine n_then ?_
              refine g_seq ?_
              refine g_block ?_
              refine g_seq ?_
              -- region 21 pool.go:64
              refine g_region ?_
              refine wl_of (op_y (wn rfl) rfl rfl S (y_iaddrn rfl Try.underlying23 Fsiz3 S H rfl rfl (by first | assumption | omega | (simp only [List.length_append, List.length_take, List.length_drop, List.length_replicate, List.length_set, List.length_map, List.length_cons, List.length_nil]; omega))) fun a S => ?_)
              refine wl_of (op_y (wn rfl) rfl rfl S (y_loads _ rfl Fsca3 S H rfl (by first | assumption | omega | (simp only [List.length_append, List.length_take, List.length_drop, List.length_replicate, List.length_set, List.length_map, List.length_cons, List.length_nil]; omega)) rfl) fun a S => ?_)
              rw [he] at S
              refine wl_of (op_y (wn rfl) rfl rfl S (y_assign rfl S rfl) fun a S => ?_)
              refine gl_nil ?_
              refine n_then ?_
              -- region 22 pool.go:65
              refine g_region ?_
              refine wl_of (op_y (wn rfl) rfl rfl S (y_load rfl Fsca38 S H rfl rfl) fun a S => ?_)
              refine wl_of (op_y (wn rfl) rfl rfl S (y_move rfl S rfl) fun a S => ?_)
              refine wl_of (op_y (wn rfl) rfl rfl S (y_iaddrn rfl Try.underlying38 Fsiz4 S H rfl rfl (by first | assumption | omega | (simp only [List.length_append, List.length_take, List.length_drop, List.length_replicate, List.length_set, List.length_map, List.length_cons, List.length_nil]; omega))) fun a S => ?_)
              refine wl_of (op_store1 _ (true) (wn rfl) rfl rfl S H rfl rfl rfl rfl Fsiz4 (by first | assumption | omega | (simp only [List.length_append, List.length_take, List.length_drop, List.length_replicate, List.length_set, List.length_map, List.length_cons, List.length_nil]; omega)) (by exact rfl) fun a w S H => ?_)
              refine gl_nil ?_
              refine n_block ?_
              refine n_then ?_
              -- region 23 pool.go:64
              refine g_region ?_
              refine wl_of (op_y (wn rfl) rfl rfl S (y_add rfl S rfl rfl (by omega)) fun a S => ?_)
              refine wl_of (op_y (wn rfl) rfl rfl S (y_move rfl S rfl) fun a S => ?_)
              refine gl_nil ?_
              refine n_then ?_
              have hst := setT_step (gone := gone) hql
              rw [he] at hst
              exact ⟨q + 1, S.nil.cons S 60 rfl, ((((((((((((((((((((((((S.nil.cons S 2 rfl).cons S 3 rfl).cons S 4 rfl).cons S 6 rfl).cons S 7 rfl).cons S 33 rfl).cons S 34 rfl).cons S 35 rfl).cons S 36 rfl).cons S 8 rfl).cons S 37 rfl).cons S 38 rfl).cons S 39 rfl).cons S 40 rfl).cons S 41 rfl).cons S 42 rfl).cons S 43 rfl).cons S 44 rfl).cons S 9 rfl).cons S 45 rfl).cons S 46 rfl).cons S 47 rfl).cons S 48 rfl).cons S 58 rfl).cons S 59 rfl, ⟨by omega, by rw [← hst]; exact H⟩, by omega⟩
            · have h6p := h6; try simp only [Option.isNone_some, Option.isNone_none, Option.isSome_some, Option.isSome_none, false_or, or_false, true_and, and_true, decide_eq_true_eq, decide_eq_false_iff_not, Bool.or_eq_true, Bool.and_eq_true, Bool.or_eq_false_iff, Bool.and_eq_false_iff, Bool.not_eq_true', Bool.not_eq_false', bne_iff_ne, beq_iff_eq, beq_eq_false_iff_ne, bne_eq_false_iff_eq, ne_eq, Decidable.not_not, Int.not_lt, Int.not_le, gt_iff_lt, ge_iff_le, Bool.true_eq_false, Bool.false_eq_true, not_true_eq_false, not_false_eq_true] at h6p
              obtain rfl : q = c.length := by omega
              rw [List.take_length] at H
              refine g_exit ?_
              refine x_then (x_then (x_eq ?_))
              refine n_block ?_
              refine n_then ?_
              exact ⟨setT gone c, S.nil, (((((((((S.nil.cons S 2 rfl).cons S 3 rfl).cons S 4 rfl).cons S 6 rfl).cons S 7 rfl).cons S 33 rfl).cons S 34 rfl).cons S 35 rfl).cons S 36 rfl).cons S 8 rfl, ⟨at1, setO out c (nxtL (gr ps) gone), _, _, sw_step hrt hI hc, hat.mono (setT_keeps hI.lg hc), fun j hj => setT_keeps hI.lg hc j (hall j hj), H.take [OSl 3 (.slice (some ⟨b27, 0, none⟩) ps.length ps.length) 1 encI (at1), OSl 4 (.slice (some ⟨b24, 0, none⟩) ps.length ps.length) 1 encB (setT gone c), Atom.ro (Cel b1 22 [v]), Atom.ro (Cel b5 23 [(.slice (some ⟨b27, 0, none⟩) ps.length ps.length)]), Atom.ro (Cel b4 38 [(.slice (some ⟨b24, 0, none⟩) ps.length ps.length)]), RowsS 1 encI ps, Sl v 1 encRow ps, OSl 3 (.slice (some ⟨b31, 0, none⟩) ps.length ps.length) 1 encI (setO out c (nxtL (gr ps) gone))]⟩, there_less hI.lg hc⟩
        · have h4p := h4; try simp only [Option.isNone_some, Option.isNone_none, Option.isSome_some, Option.isSome_none, false_or, or_false, true_and, and_true, decide_eq_true_eq, decide_eq_false_iff_not, Bool.or_eq_true, Bool.and_eq_true, Bool.or_eq_false_iff, Bool.and_eq_false_iff, Bool.not_eq_true', Bool.not_eq_false', bne_iff_ne, beq_iff_eq, beq_eq_false_iff_ne, bne_eq_false_iff_eq, ne_eq, Decidable.not_not, Int.not_lt, Int.not_le, gt_iff_lt, ge_iff_le, Bool.true_eq_false, Bool.false_eq_true, not_true_eq_false, not_false_eq_true] at h4p
          have hgk : atB gone k = true := by rw [atB_eq (by have := hI.lg; omega)]; simpa using h4
          refine g_exit ?_
          refine x_then (x_then (x_eq ?_))
          refine n_block ?_
          refine n_then ?_
          -- region 24 pool.go:58
          refine g_region ?_
          refine wl_of (op_y (wn rfl) rfl rfl S (y_add rfl S rfl rfl (by omega)) fun a S => ?_)
          refine wl_of (op_y (wn rfl) rfl rfl S (y_move rfl S rfl) fun a S => ?_)
          refine gl_nil ?_
          refine n_then ?_
          exact ⟨k + 1, S.nil.cons S 34 rfl, (((((S.nil.cons S 2 rfl).cons S 3 rfl).cons S 4 rfl).cons S 6 rfl).cons S 7 rfl).cons S 33 rfl, ⟨by omega, gone, at1, out, r, J, hI, hat, fun j hj => by by_cases hjk : j < k; exact hall j hjk; (obtain rfl : j = k := by omega); exact hgk, H⟩, by omega⟩
      · have h3p := h3; try simp only [Option.isNone_some, Option.isNone_none, Option.isSome_some, Option.isSome_none, false_or, or_false, true_and, and_true, decide_eq_true_eq, decide_eq_false_iff_not, Bool.or_eq_true, Bool.and_eq_true, Bool.or_eq_false_iff, Bool.and_eq_false_iff, Bool.not_eq_true', Bool.not_eq_false', bne_iff_ne, beq_iff_eq, beq_eq_false_iff_ne, bne_eq_false_iff_eq, ne_eq, Decidable.not_not, Int.not_lt, Int.not_le, gt_iff_lt, ge_iff_le, Bool.true_eq_false, Bool.false_eq_true, not_true_eq_false, not_false_eq_true] at h3p
        obtain rfl : k = ps.length := by omega
        refine g_exit ?_
        refine x_then (x_then (x_eq ?_))
        refine n_then ?_
        have S := ((S.nil.cons S 2 rfl).cons S 3 rfl).cons S 7 rfl
        refine g_seq ?_
        -- region 25 pool.go:69
        refine g_region ?_
        refine wl_of (op_y (wn rfl) rfl rfl S (y_move rfl S rfl) fun a S => ?_)
        refine wl_of (op_y (wn rfl) rfl rfl S (y_assign rfl S rfl) fun a S => ?_)
        refine wl_of (op_y (wn rfl) rfl rfl S (y_assign rfl S rfl) fun a S => ?_)
        refine gl_nil ?_
        refine n_then ?_
        have S := (S.nil.cons S 2 rfl).cons S 3 rfl
        refine g_ret ?_
        refine ret2 rfl S rfl rfl ?_
        exact ⟨_, out0, rfl, ⟨r0, sw_end hI0 (fun j hj => hall0 j (by omega))⟩, H.take [OSl 3 (.slice (some ⟨b31, 0, none⟩) ps.length ps.length) 1 encI out0]⟩
/-- foyer/pool.Swap -/
theorem swap_bad (v : Value) (ps : List (Value × List Int)) (w0 : World) (hv : IsSl w0 v 1 encRow ps) (hr : ∀ p ∈ ps, IsSl w0 p.1 1 encI p.2) (hrt : rightW (gr ps) = false) (hl1 : ps.length ≤ 1000) :
    Ret Try.prog 13 #[v] w0 (fun u w => u = .tuple #[.slice none 0 0, .int .i64 1] ∧ Ext w0 w) := by
  refine ret_of_wp (nt := 70) Try.func13 rfl rfl rfl (fl := [(0, v)]) rfl (fun a S => ?_)
  have H := HSat.start w0
  have H := H.ro0 (Sl v 1 encRow ps) rfl (hv)
  have H := H.ro0 (RowsS 1 encI ps) rfl (hr)
  have hl := hv.len
  refine g_seq ?_
  -- region 0 pool.go:38
  refine g_region ?_
  refine wl_of (op_box1 (wn rfl) rfl rfl rfl S H rfl (H.slc _) fun b1 a w S H => ?_)
  refine wl_of (op_y (wn rfl) rfl rfl S (y_assign rfl S rfl) fun a S => ?_)
  refine wl_of (op_y (wn rfl) rfl rfl S (y_assign rfl S rfl) fun a S => ?_)
  refine gl_nil ?_
  refine n_then ?_
  refine g_seq ?_
  refine g_block ?_
  refine g_seq ?_
  -- region 1 pool.go:40
  refine g_region ?_
  refine wl_of (op_y (wn rfl) rfl rfl S (y_load rfl Fsca22 S H rfl rfl) fun a S => ?_)
  refine wl_of (op_y (wn rfl) rfl rfl S (y_lens rfl Try.underlying22 S H rfl) fun a S => ?_)
  refine wl_of (op_y (wn rfl) rfl rfl S (y_bin rfl S rfl rfl rfl) fun a S => ?_)
  refine wl_of (op_y (wn rfl) rfl rfl S (y_assign rfl S rfl) fun a S => ?_)
  refine gl_nil ?_
  refine n_then ?_
  have S := (((S.nil.cons S 1 rfl).cons S 2 rfl).cons S 3 rfl).cons S 14 rfl
  -- cond 1
  refine c_if S rfl (fun h1 => ?_) (fun h1 => ?_)
  · have h1p := h1; try simp only [Option.isNone_some, Option.isNone_none, Option.isSome_some, Option.isSome_none, false_or, or_false, true_and, and_true, decide_eq_true_eq, decide_eq_false_iff_not, Bool.or_eq_true, Bool.and_eq_true, Bool.or_eq_false_iff, Bool.and_eq_false_iff, Bool.not_eq_true', Bool.not_eq_false', bne_iff_ne, beq_iff_eq, beq_eq_false_iff_ne, bne_eq_false_iff_eq, ne_eq, Decidable.not_not, Int.not_lt, Int.not_le, gt_iff_lt, ge_iff_le, Bool.true_eq_false, Bool.false_eq_true, not_true_eq_false, not_false_eq_true] at h1p
    all_goals (
      have := h1p; omega)
  · have h1p := h1; try simp only [Option.isNone_some, Option.isNone_none, Option.isSome_some, Option.isSome_none, false_or, or_false, true_and, and_true, decide_eq_true_eq, decide_eq_false_iff_not, Bool.or_eq_true, Bool.and_eq_true, Bool.or_eq_false_iff, Bool.and_eq_false_iff, Bool.not_eq_true', Bool.not_eq_false', bne_iff_ne, beq_iff_eq, beq_eq_false_iff_ne, bne_eq_false_iff_eq, ne_eq, Decidable.not_not, Int.not_lt, Int.not_le, gt_iff_lt, ge_iff_le, Bool.true_eq_false, Bool.false_eq_true, not_true_eq_false, not_false_eq_true] at h1p
    refine g_seq ?_
    -- region 3 pool.go:42
    refine g_region ?_
    refine wl_of (op_y (wn rfl) rfl rfl S (y_load rfl Fsca22 S H rfl rfl) fun a S => ?_)
    refine wl_of (op_call (wn rfl) rfl rfl S (co_func rfl Try.call23 S rfl) (right_spec v ps _ (H.sl v) (H.rwsS ps)) fun v w hc a S => ?_)
    obtain ⟨rfl, he⟩ := hc
    have H := H.ext he
    refine wl_of (op_y (wn rfl) rfl rfl S (y_not rfl S rfl) fun a S => ?_)
    refine wl_of (op_y (wn rfl) rfl rfl S (y_assign rfl S rfl) fun a S => ?_)
    refine gl_nil ?_
    refine n_then ?_
    have S := (((S.nil.cons S 1 rfl).cons S 2 rfl).cons S 3 rfl).cons S 18 rfl
    -- cond 2
    refine c_if S rfl (fun h2 => ?_) (fun h2 => ?_)
    · have h2p := h2; try simp only [Option.isNone_some, Option.isNone_none, Option.isSome_some, Option.isSome_none, false_or, or_false, true_and, and_true, decide_eq_true_eq, decide_eq_false_iff_not, Bool.or_eq_true, Bool.and_eq_true, Bool.or_eq_false_iff, Bool.and_eq_false_iff, Bool.not_eq_true', Bool.not_eq_false', bne_iff_ne, beq_iff_eq, beq_eq_false_iff_ne, bne_eq_false_iff_eq, ne_eq, Decidable.not_not, Int.not_lt, Int.not_le, gt_iff_lt, ge_iff_le, Bool.true_eq_false, Bool.false_eq_true, not_true_eq_false, not_false_eq_true] at h2p
      refine g_seq ?_
      -- region 4 pool.go:43
      refine g_region ?_
      refine wl_of (op_y (wn rfl) rfl rfl S (y_assign rfl S rfl) fun a S => ?_)
      refine wl_of (op_y (wn rfl) rfl rfl S (y_assign rfl S rfl) fun a S => ?_)
      refine gl_nil ?_
      refine n_then ?_
      refine g_ret ?_
      refine r_block (r_then (ret2 rfl S rfl rfl ?_))
      exact ⟨rfl, H.toExt⟩
    · have h2p := h2; try simp only [Option.isNone_some, Option.isNone_none, Option.isSome_some, Option.isSome_none, false_or, or_false, true_and, and_true, decide_eq_true_eq, decide_eq_false_iff_not, Bool.or_eq_true, Bool.and_eq_true, Bool.or_eq_false_iff, Bool.and_eq_false_iff, Bool.not_eq_true', Bool.not_eq_false', bne_iff_ne, beq_iff_eq, beq_eq_false_iff_ne, bne_eq_false_iff_eq, ne_eq, Decidable.not_not, Int.not_lt, Int.not_le, gt_iff_lt, ge_iff_le, Bool.true_eq_false, Bool.false_eq_true, not_true_eq_false, not_false_eq_true] at h2p
      all_goals (
        rw [hrt] at h2; simp at h2)
/-- foyer/pool.Swap -/
theorem swap_many (v : Value) (ps : List (Value × List Int)) (w0 : World) (hv : IsSl w0 v 1 encRow ps) (hr : ∀ p ∈ ps, IsSl w0 p.1 1 encI p.2) (hl1 : ps.length > 1000) :
    Ret Try.prog 13 #[v] w0 (fun u w => u = .tuple #[.slice none 0 0, .int .i64 3] ∧ Ext w0 w) := by
  refine ret_of_wp (nt := 70) Try.func13 rfl rfl rfl (fl := [(0, v)]) rfl (fun a S => ?_)
  have H := HSat.start w0
  have H := H.ro0 (Sl v 1 encRow ps) rfl (hv)
  have H := H.ro0 (RowsS 1 encI ps) rfl (hr)
  have hl := hv.len
  refine g_seq ?_
  -- region 0 pool.go:38
  refine g_region ?_
  refine wl_of (op_box1 (wn rfl) rfl rfl rfl S H rfl (H.slc _) fun b1 a w S H => ?_)
  refine wl_of (op_y (wn rfl) rfl rfl S (y_assign rfl S rfl) fun a S => ?_)
  refine wl_of (op_y (wn rfl) rfl rfl S (y_assign rfl S rfl) fun a S => ?_)
  refine gl_nil ?_
  refine n_then ?_
  refine g_seq ?_
  refine g_block ?_
  refine g_seq ?_
  -- region 1 pool.go:40
  refine g_region ?_
  refine wl_of (op_y (wn rfl) rfl rfl S (y_load rfl Fsca22 S H rfl rfl) fun a S => ?_)
  refine wl_of (op_y (wn rfl) rfl rfl S (y_lens rfl Try.underlying22 S H rfl) fun a S => ?_)
  refine wl_of (op_y (wn rfl) rfl rfl S (y_bin rfl S rfl rfl rfl) fun a S => ?_)
  refine wl_of (op_y (wn rfl) rfl rfl S (y_assign rfl S rfl) fun a S => ?_)
  refine gl_nil ?_
  refine n_then ?_
  have S := (((S.nil.cons S 1 rfl).cons S 2 rfl).cons S 3 rfl).cons S 14 rfl
  -- cond 1
  refine c_if S rfl (fun h1 => ?_) (fun h1 => ?_)
  · have h1p := h1; try simp only [Option.isNone_some, Option.isNone_none, Option.isSome_some, Option.isSome_none, false_or, or_false, true_and, and_true, decide_eq_true_eq, decide_eq_false_iff_not, Bool.or_eq_true, Bool.and_eq_true, Bool.or_eq_false_iff, Bool.and_eq_false_iff, Bool.not_eq_true', Bool.not_eq_false', bne_iff_ne, beq_iff_eq, beq_eq_false_iff_ne, bne_eq_false_iff_eq, ne_eq, Decidable.not_not, Int.not_lt, Int.not_le, gt_iff_lt, ge_iff_le, Bool.true_eq_false, Bool.false_eq_true, not_true_eq_false, not_false_eq_true] at h1p
    refine g_seq ?_
    -- region 2 pool.go:41
    refine g_region ?_
    refine wl_of (op_y (wn rfl) rfl rfl S (y_assign rfl S rfl) fun a S => ?_)
    refine wl_of (op_y (wn rfl) rfl rfl S (y_assign rfl S rfl) fun a S => ?_)
    refine gl_nil ?_
    refine n_then ?_
    refine g_ret ?_
    refine r_block (r_then (ret2 rfl S rfl rfl ?_))
    exact ⟨rfl, H.toExt⟩
  · have h1p := h1; try simp only [Option.isNone_some, Option.isNone_none, Option.isSome_some, Option.isSome_none, false_or, or_false, true_and, and_true, decide_eq_true_eq, decide_eq_false_iff_not, Bool.or_eq_true, Bool.and_eq_true, Bool.or_eq_false_iff, Bool.and_eq_false_iff, Bool.not_eq_true', Bool.not_eq_false', bne_iff_ne, beq_iff_eq, beq_eq_false_iff_ne, bne_eq_false_iff_eq, ne_eq, Decidable.not_not, Int.not_lt, Int.not_le, gt_iff_lt, ge_iff_le, Bool.true_eq_false, Bool.false_eq_true, not_true_eq_false, not_false_eq_true] at h1p
    all_goals (
      have := h1p; omega)

end Go.Proofs.Ytoghkehlmibniaa
