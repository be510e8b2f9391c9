/- The walks. No condition. -/
import Derived.Test.YtojmagbonbcffaaChecked
import Derived.Test.YtojmagbonbcffaaGwMap
import Derived.Test.YtojmagbonbcffaaFacts
import Derived.Test.YtojmagbonbcffaaPlain
import Derived.Test.YtojmagbonbcffaaW2
namespace Go.Proofs.Ytojmagbonbcffaa
open Go Go.Gw
set_option linter.unusedVariables false
set_option linter.unusedSimpArgs false
/-- (*foyer/shed.Door).Offer -/
theorem offer_spec {M : Nat → Prop} {u0 : World} {l : List Atom} (b : Nat) (s : DS) (vr vl vp : Value) (c k t : Int) (N : Nat) (w0 : World) (h0 : HSat M u0 (DoorA b s vr vl vp :: l) w0) (hw : s.WF N) (hN : N ≤ 100000) :
    Ret Try.prog 12 #[.pointer (some ⟨b, 0, none⟩), .int .i64 c, .int .i64 k, .int .i64 t] w0 (fun v w => v = .bool (offer s c k t).1 ∧ HSat M u0 (DoorA b (offer s c k t).2 vr vl vp :: l) w) := by
  refine ret_of_wp (n := 123) Try.func12 rfl rfl rfl (fl := [(0, .pointer (some ⟨b, 0, none⟩)), (1, .int .i64 c), (2, .int .i64 k), (3, .int .i64 t)]) rfl (fun a S => ?_)
  have H := h0.unfold
  simp only [DoorL, List.cons_append, List.nil_append] at H
  refine wp_seq ?_
  -- region 0 shed.go:50
  refine wp_region_lit ?_
  refine wl_of (op_y (wn rfl) rfl rfl S (y_assign rfl S rfl) fun a S => ?_)
  refine wpList_nil ?_
  refine n_then ?_
  refine wp_seq ?_
  refine wp_seq ?_
  -- region 1 shed.go:51
  refine wp_region_lit ?_
  refine wl_of (op_y (wn rfl) rfl rfl S (y_move rfl S rfl) fun a S => ?_)
  refine wl_of (op_y (wn rfl) rfl rfl S (y_eqp rfl Try.underlying25 S rfl rfl) fun a S => ?_)
  refine wl_of (op_y (wn rfl) rfl rfl S (y_move rfl S rfl) fun a S => ?_)
  refine wl_of (op_y (wg' 14 rfl rfl S rfl rfl rfl) rfl rfl S (y_move rfl S rfl) fun a S => ?_)
  refine wl_of (op_y (wg' 14 rfl rfl S rfl rfl rfl) rfl rfl S (y_bin rfl S rfl rfl rfl) fun a S => ?_)
  refine wl_of (op_y (wn rfl) rfl rfl S (y_or' rfl rfl S rfl rfl) fun a S => ?_)
  refine wl_of (op_y (wn rfl) rfl rfl S (y_move rfl S rfl) fun a S => ?_)
  refine' wl_or 2 18 rfl S H rfl rfl rfl rfl rfl rfl rfl (fun _ S => (wn rfl)) (fun h2 kk => ?yh2) (fun a w S H => ?_)
  case yh2 =>
    have h2p := h2; try simp only [Option.isNone_some, Option.isNone_none, Option.isSome_some, Option.isSome_none, false_or, or_false, true_and, and_true, decide_eq_true_eq, decide_eq_false_iff_not, Bool.or_eq_true, Bool.and_eq_true, Bool.or_eq_false_iff, Bool.and_eq_false_iff, Bool.not_eq_true', Bool.not_eq_false', bne_iff_ne, beq_iff_eq, beq_eq_false_iff_ne, bne_eq_false_iff_eq, ne_eq, Decidable.not_not, Int.not_lt, Int.not_le, gt_iff_lt, ge_iff_le, Bool.true_eq_false, Bool.false_eq_true, not_true_eq_false, not_false_eq_true] at h2p
    refine wl_of (op_y (wg' 18 rfl rfl S rfl h2 rfl) rfl rfl S (y_move rfl S rfl) fun a S => ?_)
    refine wl_of (op_y (wg' 18 rfl rfl S rfl h2 rfl) rfl rfl S (y_bin rfl S rfl rfl rfl) fun a S => ?_)
    refine wl_of (op_y (wn rfl) rfl rfl S (y_or' rfl h2 S rfl rfl) fun a S => ?_)
    exact kk _ _ (S.join 3 21 rfl rfl) H
  refine wpList_nil ?_
  refine n_then ?_
  have S := (((((S.nil.cons S 3 rfl).cons S 2 rfl).cons S 1 rfl).cons S 0 rfl).cons S 8 rfl).cons S 21 rfl
  -- cond 1
  refine c_if S rfl (fun h3 => ?_) (fun h3 => ?_)
  · have h3p := h3; try simp only [Option.isNone_some, Option.isNone_none, Option.isSome_some, Option.isSome_none, false_or, or_false, true_and, and_true, decide_eq_true_eq, decide_eq_false_iff_not, Bool.or_eq_true, Bool.and_eq_true, Bool.or_eq_false_iff, Bool.and_eq_false_iff, Bool.not_eq_true', Bool.not_eq_false', bne_iff_ne, beq_iff_eq, beq_eq_false_iff_ne, bne_eq_false_iff_eq, ne_eq, Decidable.not_not, Int.not_lt, Int.not_le, gt_iff_lt, ge_iff_le, Bool.true_eq_false, Bool.false_eq_true, not_true_eq_false, not_false_eq_true] at h3p
    have hok : okTime t = false := by simp only [okTime, Bool.and_eq_false_iff, decide_eq_false_iff_not]; omega
    refine wp_seq ?_
    -- region 2 shed.go:52
    refine wp_region_lit ?_
    refine wl_of (op_y (wn rfl) rfl rfl S (y_assign rfl S rfl) fun a S => ?_)
    refine wpList_nil ?_
    refine n_then ?_
    refine wp_ret ?_
    refine r_then (ret1 rfl S rfl ?_)
    exact ⟨by rw [offer, if_neg (by rw [hok]; simp)], by rw [offer, if_neg (by rw [hok]; simp)]; exact HSat.fold (ls := DoorL b vr vl vp (s)) H (by simp [DoorL, OSl, Blk])⟩
  · have h3p := h3; try simp only [Option.isNone_some, Option.isNone_none, Option.isSome_some, Option.isSome_none, false_or, or_false, true_and, and_true, decide_eq_true_eq, decide_eq_false_iff_not, Bool.or_eq_true, Bool.and_eq_true, Bool.or_eq_false_iff, Bool.and_eq_false_iff, Bool.not_eq_true', Bool.not_eq_false', bne_iff_ne, beq_iff_eq, beq_eq_false_iff_ne, bne_eq_false_iff_eq, ne_eq, Decidable.not_not, Int.not_lt, Int.not_le, gt_iff_lt, ge_iff_le, Bool.true_eq_false, Bool.false_eq_true, not_true_eq_false, not_false_eq_true] at h3p
    have hok : okTime t = true := by simp only [okTime, Bool.and_eq_true, decide_eq_true_eq]; omega
    have hti : 0 ≤ t ∧ t ≤ 1000000000 := by omega
    refine wp_skip ?_
    refine n_then ?_
    refine wp_seq ?_
    refine wp_seq ?_
    -- region 3 shed.go:54
    refine wp_region_lit ?_
    refine wl_of (op_y (wn rfl) rfl rfl S (y_move rfl S rfl) fun a S => ?_)
    refine wl_of (op_y (wn rfl) rfl rfl S (y_nilCheck rfl S rfl) fun a S => ?_)
    refine wl_of (op_y (wn rfl) rfl rfl S (y_faddrb rfl Ffo53_0 S rfl) fun a S => ?_)
    refine wl_of (op_y (wn rfl) rfl rfl S (y_move rfl S rfl) fun a S => ?_)
    refine wl_of (op_call (wn rfl) rfl rfl S (co_func rfl Try.call23 S rfl) (move_spec b s.span s.now t 53 vr (.int .i64 s.total) vl vp _ H hw.span hw.now hti) fun v w hc a S => ?_)
    obtain ⟨rfl, H⟩ := hc
    
    refine wpList_nil ?_
    refine n_then ?_
    have S := ((((S.nil.cons S 2 rfl).cons S 1 rfl).cons S 0 rfl).cons S 8 rfl).cons S 26 rfl
    -- cond 2 (both ways go on)
    refine cut (fun a w => St 123 [(0, .pointer (some ⟨b, 0, none⟩)), (1, .int .i64 c), (2, .int .i64 k)] a ∧ HSat M u0 (DoorL b vr vl vp (moved s t) ++ l) w) ?_ ?_
    · skip
      refine c_if S rfl (fun h4 => ?_) (fun h4 => ?_)
      · have h4p := h4; try simp only [Option.isNone_some, Option.isNone_none, Option.isSome_some, Option.isSome_none, false_or, or_false, true_and, and_true, decide_eq_true_eq, decide_eq_false_iff_not, Bool.or_eq_true, Bool.and_eq_true, Bool.or_eq_false_iff, Bool.and_eq_false_iff, Bool.not_eq_true', Bool.not_eq_false', bne_iff_ne, beq_iff_eq, beq_eq_false_iff_ne, bne_eq_false_iff_eq, ne_eq, Decidable.not_not, Int.not_lt, Int.not_le, gt_iff_lt, ge_iff_le, Bool.true_eq_false, Bool.false_eq_true, not_true_eq_false, not_false_eq_true] at h4p
        refine wp_seq ?_
        -- region 4 shed.go:55
        refine wp_region_lit ?_
        refine wl_of (op_y (wn rfl) rfl rfl S (y_move rfl S rfl) fun a S => ?_)
        refine wl_of (op_y (wn rfl) rfl rfl S (y_nilCheck rfl S rfl) fun a S => ?_)
        refine wl_of (op_y (wn rfl) rfl rfl S (y_faddrb rfl Ffo53_3 S rfl) fun a S => ?_)
        refine wl_of (op_y (wn rfl) rfl rfl S (y_load rfl Fsca22 S H rfl rfl) fun a S => ?_)
        refine wl_of (op_clear (0) (wn rfl) rfl rfl Try.underlying22 Finf3 rfl rfl S H rfl rfl fun a w S H => ?_)
        refine wpList_nil ?_
        refine n_then ?_
        -- region 5 shed.go:56
        refine wp_region_lit ?_
        refine wl_of (op_y (wn rfl) rfl rfl S (y_move rfl S rfl) fun a S => ?_)
        refine wl_of (op_y (wn rfl) rfl rfl S (y_nilCheck rfl S rfl) fun a S => ?_)
        refine wl_of (op_y (wn rfl) rfl rfl S (y_faddrb rfl Ffo53_4 S rfl) fun a S => ?_)
        refine wl_of (op_y (wn rfl) rfl rfl S (y_load rfl Fsca22 S H rfl rfl) fun a S => ?_)
        refine wl_of (op_clear (0) (wn rfl) rfl rfl Try.underlying22 Finf3 rfl rfl S H rfl rfl fun a w S H => ?_)
        refine wpList_nil ?_
        refine n_then ?_
        first | exact ⟨((S.nil.cons S 2 rfl).cons S 1 rfl).cons S 0 rfl, by rw [hw.ll, hw.lp] at H; rw [moved, if_neg (by simpa using h4)]; exact H⟩ | exact ⟨((S.nil.cons S 2 rfl).cons S 1 rfl).cons S 0 rfl, by rw [moved, if_pos (by simpa using h4)]; exact H⟩
      · have h4p := h4; try simp only [Option.isNone_some, Option.isNone_none, Option.isSome_some, Option.isSome_none, false_or, or_false, true_and, and_true, decide_eq_true_eq, decide_eq_false_iff_not, Bool.or_eq_true, Bool.and_eq_true, Bool.or_eq_false_iff, Bool.and_eq_false_iff, Bool.not_eq_true', Bool.not_eq_false', bne_iff_ne, beq_iff_eq, beq_eq_false_iff_ne, bne_eq_false_iff_eq, ne_eq, Decidable.not_not, Int.not_lt, Int.not_le, gt_iff_lt, ge_iff_le, Bool.true_eq_false, Bool.false_eq_true, not_true_eq_false, not_false_eq_true] at h4p
        refine wp_skip ?_
        refine n_then ?_
        first | exact ⟨((S.nil.cons S 2 rfl).cons S 1 rfl).cons S 0 rfl, by rw [hw.ll, hw.lp] at H; rw [moved, if_neg (by simpa using h4)]; exact H⟩ | exact ⟨((S.nil.cons S 2 rfl).cons S 1 rfl).cons S 0 rfl, by rw [moved, if_pos (by simpa using h4)]; exact H⟩
    rintro a w ⟨S, H⟩
    have hw1 := moved_wf hw t hok
    obtain ⟨s1, hs1⟩ : ∃ s1, s1 = moved s t := ⟨_, rfl⟩
    rw [← hs1] at H hw1
    simp only [DoorL, List.cons_append, List.nil_append] at H
    refine wp_seq ?_
    refine wp_seq ?_
    -- region 6 shed.go:58
    refine wp_region_lit ?_
    refine wl_of (op_y (wn rfl) rfl rfl S (y_move rfl S rfl) fun a S => ?_)
    refine wl_of (op_y (wn rfl) rfl rfl S (y_bin rfl S rfl rfl rfl) fun a S => ?_)
    refine wl_of (op_y (wn rfl) rfl rfl S (y_move rfl S rfl) fun a S => ?_)
    refine' wl_or 7 37 rfl S H rfl rfl rfl rfl rfl rfl rfl (fun _ S => (wn rfl)) (fun h5 kk => ?yh5) (fun a w S H => ?_)
    case yh5 =>
      have h5p := h5; try simp only [Option.isNone_some, Option.isNone_none, Option.isSome_some, Option.isSome_none, false_or, or_false, true_and, and_true, decide_eq_true_eq, decide_eq_false_iff_not, Bool.or_eq_true, Bool.and_eq_true, Bool.or_eq_false_iff, Bool.and_eq_false_iff, Bool.not_eq_true', Bool.not_eq_false', bne_iff_ne, beq_iff_eq, beq_eq_false_iff_ne, bne_eq_false_iff_eq, ne_eq, Decidable.not_not, Int.not_lt, Int.not_le, gt_iff_lt, ge_iff_le, Bool.true_eq_false, Bool.false_eq_true, not_true_eq_false, not_false_eq_true] at h5p
      refine wl_of (op_y (wg' 37 rfl rfl S rfl h5 rfl) rfl rfl S (y_move rfl S rfl) fun a S => ?_)
      refine wl_of (op_y (wg' 37 rfl rfl S rfl h5 rfl) rfl rfl S (y_move rfl S rfl) fun a S => ?_)
      refine wl_of (op_y (wg' 37 rfl rfl S rfl h5 rfl) rfl rfl S (y_nilCheck rfl S rfl) fun a S => ?_)
      refine wl_of (op_y (wg' 37 rfl rfl S rfl h5 rfl) rfl rfl S (y_faddrb rfl Ffo53_1 S rfl) fun a S => ?_)
      refine wl_of (op_y (wg' 37 rfl rfl S rfl h5 rfl) rfl rfl S (y_load rfl Fsca22 S H rfl rfl) fun a S => ?_)
      refine wl_of (op_y (wg' 37 rfl rfl S rfl h5 rfl) rfl rfl S (y_lens rfl Try.underlying22 S H rfl) fun a S => ?_)
      refine wl_of (op_y (wg' 37 rfl rfl S rfl h5 rfl) rfl rfl S (y_bin rfl S rfl rfl rfl) fun a S => ?_)
      refine wl_of (op_y (wn rfl) rfl rfl S (y_or' rfl h5 S rfl rfl) fun a S => ?_)
      exact kk _ _ (S.join 8 45 rfl rfl) H
    refine wl_of (op_y (wn rfl) rfl rfl S (y_move rfl S rfl) fun a S => ?_)
    refine' wl_or 2 46 rfl S H rfl rfl rfl rfl rfl rfl rfl (fun _ S => (wn rfl)) (fun h6 kk => ?yh6) (fun a w S H => ?_)
    case yh6 =>
      have h6p := h6; try simp only [Option.isNone_some, Option.isNone_none, Option.isSome_some, Option.isSome_none, false_or, or_false, true_and, and_true, decide_eq_true_eq, decide_eq_false_iff_not, Bool.or_eq_true, Bool.and_eq_true, Bool.or_eq_false_iff, Bool.and_eq_false_iff, Bool.not_eq_true', Bool.not_eq_false', bne_iff_ne, beq_iff_eq, beq_eq_false_iff_ne, bne_eq_false_iff_eq, ne_eq, Decidable.not_not, Int.not_lt, Int.not_le, gt_iff_lt, ge_iff_le, Bool.true_eq_false, Bool.false_eq_true, not_true_eq_false, not_false_eq_true] at h6p
      refine wl_of (op_y (wg' 46 rfl rfl S rfl h6 rfl) rfl rfl S (y_move rfl S rfl) fun a S => ?_)
      refine wl_of (op_y (wg' 46 rfl rfl S rfl h6 rfl) rfl rfl S (y_bin rfl S rfl rfl rfl) fun a S => ?_)
      refine wl_of (op_y (wn rfl) rfl rfl S (y_or' rfl h6 S rfl rfl) fun a S => ?_)
      exact kk _ _ (S.join 3 49 rfl rfl) H
    refine wpList_nil ?_
    refine n_then ?_
    have S := (((S.nil.cons S 2 rfl).cons S 1 rfl).cons S 0 rfl).cons S 49 rfl
    -- cond 3
    refine c_if S rfl (fun h7 => ?_) (fun h7 => ?_)
    · have h7p := h7; try simp only [Option.isNone_some, Option.isNone_none, Option.isSome_some, Option.isSome_none, false_or, or_false, true_and, and_true, decide_eq_true_eq, decide_eq_false_iff_not, Bool.or_eq_true, Bool.and_eq_true, Bool.or_eq_false_iff, Bool.and_eq_false_iff, Bool.not_eq_true', Bool.not_eq_false', bne_iff_ne, beq_iff_eq, beq_eq_false_iff_ne, bne_eq_false_iff_eq, ne_eq, Decidable.not_not, Int.not_lt, Int.not_le, gt_iff_lt, ge_iff_le, Bool.true_eq_false, Bool.false_eq_true, not_true_eq_false, not_false_eq_true] at h7p
      refine wp_seq ?_
      -- region 7 shed.go:59
      refine wp_region_lit ?_
      refine wl_of (op_y (wn rfl) rfl rfl S (y_assign rfl S rfl) fun a S => ?_)
      refine wpList_nil ?_
      refine n_then ?_
      refine wp_ret ?_
      refine r_then (ret1 rfl S rfl ?_)
      have e : offer s c k t = (false, s1) := by rw [offer, if_pos hok, ← hs1, enter, if_pos (by omega)]
      rw [e]; exact ⟨rfl, HSat.fold (ls := DoorL b vr vl vp (s1)) H (by simp [DoorL, OSl, Blk])⟩
    · have h7p := h7; try simp only [Option.isNone_some, Option.isNone_none, Option.isSome_some, Option.isSome_none, false_or, or_false, true_and, and_true, decide_eq_true_eq, decide_eq_false_iff_not, Bool.or_eq_true, Bool.and_eq_true, Bool.or_eq_false_iff, Bool.and_eq_false_iff, Bool.not_eq_true', Bool.not_eq_false', bne_iff_ne, beq_iff_eq, beq_eq_false_iff_ne, bne_eq_false_iff_eq, ne_eq, Decidable.not_not, Int.not_lt, Int.not_le, gt_iff_lt, ge_iff_le, Bool.true_eq_false, Bool.false_eq_true, not_true_eq_false, not_false_eq_true] at h7p
      have hc : 0 ≤ c ∧ c < s1.res.length := by omega
      have hk0 : 0 ≤ k := by omega
      have hll := hw1.ll
      have hlp := hw1.lp
      have hlen := hw1.len
      refine wp_skip ?_
      refine n_then ?_
      refine wp_seq ?_
      refine wp_seq ?_
      -- region 8 shed.go:61
      refine wp_region_lit ?_
      refine wl_of (op_y (wn rfl) rfl rfl S (y_move rfl S rfl) fun a S => ?_)
      refine wl_of (op_y (wn rfl) rfl rfl S (y_bin rfl S rfl rfl rfl) fun a S => ?_)
      refine wpList_nil ?_
      refine n_then ?_
      -- cond 4 (both ways go on)
      refine cut (fun a w => St 123 [(0, .pointer (some ⟨b, 0, none⟩)), (1, .int .i64 c)] a ∧ (k = 0 → room s1 c = true) ∧ HSat M u0 (DoorL b vr vl vp (if k = 0 then { s1 with load := bump s1.load c.toNat } else s1) ++ l) w) ?_ ?_
      · skip
        refine c_if S rfl (fun h8 => ?_) (fun h8 => ?_)
        · have h8p := h8; try simp only [Option.isNone_some, Option.isNone_none, Option.isSome_some, Option.isSome_none, false_or, or_false, true_and, and_true, decide_eq_true_eq, decide_eq_false_iff_not, Bool.or_eq_true, Bool.and_eq_true, Bool.or_eq_false_iff, Bool.and_eq_false_iff, Bool.not_eq_true', Bool.not_eq_false', bne_iff_ne, beq_iff_eq, beq_eq_false_iff_ne, bne_eq_false_iff_eq, ne_eq, Decidable.not_not, Int.not_lt, Int.not_le, gt_iff_lt, ge_iff_le, Bool.true_eq_false, Bool.false_eq_true, not_true_eq_false, not_false_eq_true] at h8p
          refine wp_seq ?_
          -- region 9 shed.go:62
          refine wp_region_lit ?_
          refine wl_of (op_y (wn rfl) rfl rfl S (y_move rfl S rfl) fun a S => ?_)
          refine wl_of (op_y (wn rfl) rfl rfl S (y_nilCheck rfl S rfl) fun a S => ?_)
          refine wl_of (op_y (wn rfl) rfl rfl S (y_faddrb rfl Ffo53_3 S rfl) fun a S => ?_)
          refine wl_of (op_y (wn rfl) rfl rfl S (y_load rfl Fsca22 S H rfl rfl) fun a S => ?_)
          refine wl_of (op_y (wn rfl) rfl rfl S (y_lens rfl Try.underlying22 S H rfl) fun a S => ?_)
          refine wl_of (op_make (encI) (0) (wn rfl) rfl rfl rfl Try.underlying22 Finf3 rfl rfl S H rfl rfl rfl (by omega) (by omega) fun b57 a w S H => ?_)
          refine wl_of (op_y (wn rfl) rfl rfl S (y_assign rfl S rfl) fun a S => ?_)
          refine wpList_nil ?_
          refine n_then ?_
          refine wp_seq ?_
          refine wp_seq ?_
          -- region 10 shed.go:63
          refine wp_region_lit ?_
          refine wl_of (op_y (wn rfl) rfl rfl S (y_move rfl S rfl) fun a S => ?_)
          refine wl_of (op_y (wn rfl) rfl rfl S (y_nilCheck rfl S rfl) fun a S => ?_)
          refine wl_of (op_y (wn rfl) rfl rfl S (y_faddrb rfl Ffo53_3 S rfl) fun a S => ?_)
          refine wl_of (op_y (wn rfl) rfl rfl S (y_load rfl Fsca22 S H rfl rfl) fun a S => ?_)
          refine wl_of (op_y (wn rfl) rfl rfl S (y_lens rfl Try.underlying22 S H rfl) fun a S => ?_)
          refine wl_of (op_y (wn rfl) rfl rfl S (y_move rfl S rfl) fun a S => ?_)
          refine wpList_nil ?_
          refine n_then ?_
          refine wp_block ?_
          have SU := ((((S.nil.cons S 1 rfl).cons S 0 rfl).cons S 9 rfl).cons S 61 rfl).cons S 62 rfl
          refine loop (X := Nat) SU (fun j => [(63, .int .i64 (j : Int))]) (fun j => OSl 3 (.slice (some ⟨b57, 0, none⟩) s1.load.length s1.load.length) 1 encI ((takenL s1.load s1.res).take j ++ List.replicate ((takenL s1.load s1.res).length - j) 0) :: DoorL b vr vl vp s1 ++ l) (fun j => j ≤ s1.load.length) (fun j => s1.load.length - j) 0 (S.nil.cons S 63 rfl) (by simpa [DoorL, taken_len hw1, hw1.ll] using H) (by omega) (fun j a w S H hi => ?_)
          simp only [List.cons_append, List.nil_append] at S hi
          simp only [DoorL, List.cons_append, List.nil_append] at H
          have htl := taken_len hw1
          refine wp_seq ?_
          -- region 11 shed.go:63
          refine wp_region_lit ?_
          refine wl_of (op_y (wn rfl) rfl rfl S (y_bin rfl S rfl rfl rfl) fun a S => ?_)
          refine wpList_nil ?_
          refine n_then ?_
          refine wp_seq ?_
          -- cond 5
          refine c_if S rfl (fun h9 => ?_) (fun h9 => ?_)
          · have h9p := h9; try simp only [Option.isNone_some, Option.isNone_none, Option.isSome_some, Option.isSome_none, false_or, or_false, true_and, and_true, decide_eq_true_eq, decide_eq_false_iff_not, Bool.or_eq_true, Bool.and_eq_true, Bool.or_eq_false_iff, Bool.and_eq_false_iff, Bool.not_eq_true', Bool.not_eq_false', bne_iff_ne, beq_iff_eq, beq_eq_false_iff_ne, bne_eq_false_iff_eq, ne_eq, Decidable.not_not, Int.not_lt, Int.not_le, gt_iff_lt, ge_iff_le, Bool.true_eq_false, Bool.false_eq_true, not_true_eq_false, not_false_eq_true] at h9p
            refine wp_skip ?_
            refine n_then ?_
            refine wp_seq ?_
            refine wp_block ?_
            refine wp_seq ?_
            -- region 12 shed.go:63
            refine wp_region_lit ?_
            refine wl_of (op_y (wn rfl) rfl rfl S (y_move rfl S rfl) fun a S => ?_)
            refine wl_of (op_y (wn rfl) rfl rfl S (y_iaddrn rfl Try.underlying22 Fsiz3 S H rfl rfl (by first | omega | (simp only [List.length_append, List.length_take, List.length_drop, List.length_replicate, List.length_set, List.length_map, List.length_cons, List.length_nil]; omega))) fun a S => ?_)
            refine wl_of (op_y (wn rfl) rfl rfl S (y_loads _ rfl Fsca3 S H rfl (by first | omega | (simp only [List.length_append, List.length_take, List.length_drop, List.length_replicate, List.length_set, List.length_map, List.length_cons, List.length_nil]; omega)) rfl) fun a S => ?_)
            refine wl_of (op_y (wn rfl) rfl rfl S (y_assign rfl S rfl) fun a S => ?_)
            refine wl_of (op_y (wn rfl) rfl rfl S (y_assign rfl S rfl) fun a S => ?_)
            refine wpList_nil ?_
            refine n_then ?_
            -- region 13 shed.go:64
            refine wp_region_lit ?_
            refine wl_of (op_y (wn rfl) rfl rfl S (y_move rfl S rfl) fun a S => ?_)
            refine wl_of (op_y (wn rfl) rfl rfl S (y_move rfl S rfl) fun a S => ?_)
            refine wl_of (op_y (wn rfl) rfl rfl S (y_move rfl S rfl) fun a S => ?_)
            refine wl_of (op_y (wn rfl) rfl rfl S (y_move rfl S rfl) fun a S => ?_)
            refine wl_of (op_y (wn rfl) rfl rfl S (y_nilCheck rfl S rfl) fun a S => ?_)
            refine wl_of (op_y (wn rfl) rfl rfl S (y_faddrb rfl Ffo53_1 S rfl) fun a S => ?_)
            refine wl_of (op_y (wn rfl) rfl rfl S (y_load rfl Fsca22 S H rfl rfl) fun a S => ?_)
            refine wl_of (op_y (wn rfl) rfl rfl S (y_move rfl S rfl) fun a S => ?_)
            refine wl_of (op_y (wn rfl) rfl rfl S (y_iaddrn rfl Try.underlying22 Fsiz3 S H rfl rfl (by first | omega | (simp only [List.length_append, List.length_take, List.length_drop, List.length_replicate, List.length_set, List.length_map, List.length_cons, List.length_nil]; omega))) fun a S => ?_)
            refine wl_of (op_y (wn rfl) rfl rfl S (y_loads _ rfl Fsca3 S H rfl (by first | omega | (simp only [List.length_append, List.length_take, List.length_drop, List.length_replicate, List.length_set, List.length_map, List.length_cons, List.length_nil]; omega)) rfl) fun a S => ?_)
            refine wl_of (op_y (wn rfl) rfl rfl S (y_max rfl S rfl rfl) fun a S => ?_)
            refine wl_of (op_y (wn rfl) rfl rfl S (y_iaddrn rfl Try.underlying22 Fsiz3 S H rfl rfl (by first | omega | (simp only [List.length_append, List.length_take, List.length_drop, List.length_replicate, List.length_set, List.length_map, List.length_cons, List.length_nil]; omega))) fun a S => ?_)
            refine wl_of (op_store1 _ (_) (wn rfl) rfl rfl S H rfl rfl rfl rfl Fsiz3 (by first | omega | (simp only [List.length_append, List.length_take, List.length_drop, List.length_replicate, List.length_set, List.length_map, List.length_cons, List.length_nil]; omega)) (by exact rfl) fun a w S H => ?_)
            refine wpList_nil ?_
            refine n_block ?_
            refine n_then ?_
            -- region 14 shed.go:63
            refine wp_region_lit ?_
            refine wl_of (op_y (wn rfl) rfl rfl S (y_add rfl S rfl rfl (by omega)) fun a S => ?_)
            refine wl_of (op_y (wn rfl) rfl rfl S (y_move rfl S rfl) fun a S => ?_)
            refine wpList_nil ?_
            refine n_then ?_
            have hta := taken_at hw1 j (by omega)
            rw [← hta, set_take_rep _ _ (by omega)] at H
            refine ⟨j + 1, S.nil.cons S 63 rfl, ((((S.nil.cons S 1 rfl).cons S 0 rfl).cons S 9 rfl).cons S 61 rfl).cons S 62 rfl, H, by omega, by omega⟩
          · have h9p := h9; try simp only [Option.isNone_some, Option.isNone_none, Option.isSome_some, Option.isSome_none, false_or, or_false, true_and, and_true, decide_eq_true_eq, decide_eq_false_iff_not, Bool.or_eq_true, Bool.and_eq_true, Bool.or_eq_false_iff, Bool.and_eq_false_iff, Bool.not_eq_true', Bool.not_eq_false', bne_iff_ne, beq_iff_eq, beq_eq_false_iff_ne, bne_eq_false_iff_eq, ne_eq, Decidable.not_not, Int.not_lt, Int.not_le, gt_iff_lt, ge_iff_le, Bool.true_eq_false, Bool.false_eq_true, not_true_eq_false, not_false_eq_true] at h9p
            rw [take_rep_all _ _ (by rw [taken_len hw1]; omega)] at H
            refine wp_exit ?_
            refine x_then (x_then (x_eq ?_))
            refine n_then ?_
            refine wp_seq ?_
            refine wp_seq ?_
            -- region 15 DRAWS shed.go:66
            refine region_st (loud := []) (tails := []) (free := []) [0, 1, 2, 3, 4, 5, 6, 7, 8, 9, 10, 11, 12, 13, 14, 15, 16, 17, 18, 19, 20, 21, 22, 23] [] Fmo (by kernel_rfl) (by kernel_rfl) rfl H ?_
            refine m_w rfl rfl (wn rfl) rfl rfl S (fun w H => y_move rfl S rfl) fun a S => ?_
            refine m_w rfl rfl (wn rfl) rfl rfl S (fun w H => y_nilCheck rfl S rfl) fun a S => ?_
            refine m_w rfl rfl (wn rfl) rfl rfl S (fun w H => y_faddrb rfl Ffo53_3 S rfl) fun a S => ?_
            refine m_w rfl rfl (wn rfl) rfl rfl S (fun w H => y_load rfl Fsca22 S H rfl rfl) fun a S => ?_
            refine m_w rfl rfl (wn rfl) rfl rfl S (fun w H => y_move rfl S rfl) fun a S => ?_
            refine m_w rfl rfl (wn rfl) rfl rfl S (fun w H => y_iaddrs rfl Try.underlying22 Fsiz3 S H rfl rfl (by first | omega | (simp only [List.length_append, List.length_take, List.length_drop, List.length_replicate, List.length_set, List.length_map, List.length_cons, List.length_nil]; omega))) fun a S => ?_
            refine m_loads _ rfl rfl (wn rfl) rfl rfl S rfl Fsca3 rfl (by first | omega | (simp only [List.length_append, List.length_take, List.length_drop, List.length_replicate, List.length_set, List.length_map, List.length_cons, List.length_nil]; omega)) rfl fun a S => ?_
            refine m_w rfl rfl (wn rfl) rfl rfl S (fun w H => y_move rfl S rfl) fun a S => ?_
            refine m_w rfl rfl (wn rfl) rfl rfl S (fun w H => y_nilCheck rfl S rfl) fun a S => ?_
            refine m_w rfl rfl (wn rfl) rfl rfl S (fun w H => y_faddrb rfl Ffo53_1 S rfl) fun a S => ?_
            refine m_w rfl rfl (wn rfl) rfl rfl S (fun w H => y_load rfl Fsca22 S H rfl rfl) fun a S => ?_
            refine m_w rfl rfl (wn rfl) rfl rfl S (fun w H => y_move rfl S rfl) fun a S => ?_
            refine m_w rfl rfl (wn rfl) rfl rfl S (fun w H => y_iaddrs rfl Try.underlying22 Fsiz3 S H rfl rfl (by first | omega | (simp only [List.length_append, List.length_take, List.length_drop, List.length_replicate, List.length_set, List.length_map, List.length_cons, List.length_nil]; omega))) fun a S => ?_
            refine m_loads _ rfl rfl (wn rfl) rfl rfl S rfl Fsca3 rfl (by first | omega | (simp only [List.length_append, List.length_take, List.length_drop, List.length_replicate, List.length_set, List.length_map, List.length_cons, List.length_nil]; omega)) rfl fun a S => ?_
            refine m_w rfl rfl (wn rfl) rfl rfl S (fun w H => y_bin rfl S rfl rfl rfl) fun a S => ?_
            refine m_w rfl rfl (wn rfl) rfl rfl S (fun w H => y_move rfl S rfl) fun a S => ?_
            refine' m_andq [16, 17, 18, 19, 20, 21, 22] 96 S rfl rfl rfl rfl rfl rfl rfl rfl rfl (fun _ S => (wn rfl)) (fun h10 kk => ?yh10) (fun a S => ?_)
            case yh10 =>
              have h10p := h10; try simp only [Option.isNone_some, Option.isNone_none, Option.isSome_some, Option.isSome_none, false_or, or_false, true_and, and_true, decide_eq_true_eq, decide_eq_false_iff_not, Bool.or_eq_true, Bool.and_eq_true, Bool.or_eq_false_iff, Bool.and_eq_false_iff, Bool.not_eq_true', Bool.not_eq_false', bne_iff_ne, beq_iff_eq, beq_eq_false_iff_ne, bne_eq_false_iff_eq, ne_eq, Decidable.not_not, Int.not_lt, Int.not_le, gt_iff_lt, ge_iff_le, Bool.true_eq_false, Bool.false_eq_true, not_true_eq_false, not_false_eq_true] at h10p
              refine m_w rfl rfl (wg' 96 rfl rfl S rfl h10 rfl) rfl rfl S (fun w H => y_move rfl S rfl) fun a S => ?_
              refine m_c rfl rfl (wg' 96 rfl rfl S rfl h10 rfl) rfl rfl S (fun w => co_func rfl Try.call21 S rfl) (fun w H => sum_spec _ _ _ (H.sl _) (taken_bd hw1 (by omega)) (by rw [taken_len hw1]; have := hw1.len; omega)) fun a S => ?_
              refine m_w rfl rfl (wg' 96 rfl rfl S rfl h10 rfl) rfl rfl S (fun w H => y_move rfl S rfl) fun a S => ?_
              refine m_w rfl rfl (wg' 96 rfl rfl S rfl h10 rfl) rfl rfl S (fun w H => y_nilCheck rfl S rfl) fun a S => ?_
              refine m_w rfl rfl (wg' 96 rfl rfl S rfl h10 rfl) rfl rfl S (fun w H => y_faddrb rfl Ffo53_2 S rfl) fun a S => ?_
              refine m_w rfl rfl (wg' 96 rfl rfl S rfl h10 rfl) rfl rfl S (fun w H => y_load rfl Fsca3 S H rfl rfl) fun a S => ?_
              refine m_w rfl rfl (wg' 96 rfl rfl S rfl h10 rfl) rfl rfl S (fun w H => y_bin rfl S rfl rfl rfl) fun a S => ?_
              refine m_w rfl rfl (wn rfl) rfl rfl S (fun w H => y_and' rfl h10 S rfl rfl) fun a S => ?_
              exact kk _ (S.join 8 104 rfl rfl)
            refine m_nil (fun w H => ?_)
            refine n_then ?_
            -- cond 6
            refine c_if S rfl (fun h11 => ?_) (fun h11 => ?_)
            · have h11p := h11; try simp only [Option.isNone_some, Option.isNone_none, Option.isSome_some, Option.isSome_none, false_or, or_false, true_and, and_true, decide_eq_true_eq, decide_eq_false_iff_not, Bool.or_eq_true, Bool.and_eq_true, Bool.or_eq_false_iff, Bool.and_eq_false_iff, Bool.not_eq_true', Bool.not_eq_false', bne_iff_ne, beq_iff_eq, beq_eq_false_iff_ne, bne_eq_false_iff_eq, ne_eq, Decidable.not_not, Int.not_lt, Int.not_le, gt_iff_lt, ge_iff_le, Bool.true_eq_false, Bool.false_eq_true, not_true_eq_false, not_false_eq_true] at h11p
              have hroom : room s1 c = false := by rw [room_at _ _ (by omega) (by omega), h11]; rfl
              refine wp_seq ?_
              -- region 16 shed.go:67
              refine wp_region_lit ?_
              refine wl_of (op_y (wn rfl) rfl rfl S (y_assign rfl S rfl) fun a S => ?_)
              refine wpList_nil ?_
              refine n_then ?_
              refine wp_ret ?_
              refine r_then (r_then (ret1 rfl S rfl ?_))
              have e : offer s c k t = (false, s1) := by rw [offer, if_pos hok, ← hs1, enter, if_neg (by omega), if_pos (by simpa using h8), if_neg (by rw [hroom]; simp)]
              rw [e]; exact ⟨rfl, HSat.fold (ls := DoorL b vr vl vp (s1)) H.tail (by simp [DoorL, OSl, Blk])⟩
            · have h11p := h11; try simp only [Option.isNone_some, Option.isNone_none, Option.isSome_some, Option.isSome_none, false_or, or_false, true_and, and_true, decide_eq_true_eq, decide_eq_false_iff_not, Bool.or_eq_true, Bool.and_eq_true, Bool.or_eq_false_iff, Bool.and_eq_false_iff, Bool.not_eq_true', Bool.not_eq_false', bne_iff_ne, beq_iff_eq, beq_eq_false_iff_ne, bne_eq_false_iff_eq, ne_eq, Decidable.not_not, Int.not_lt, Int.not_le, gt_iff_lt, ge_iff_le, Bool.true_eq_false, Bool.false_eq_true, not_true_eq_false, not_false_eq_true] at h11p
              have hroom : room s1 c = true := by rw [room_at _ _ (by omega) (by omega), h11]; rfl
              have hbl := hw1.load _ (List.getElem_mem (show c.toNat < s1.load.length by omega))
              refine wp_skip ?_
              refine n_then ?_
              -- region 17 shed.go:69
              refine wp_region_lit ?_
              refine wl_of (op_y (wn rfl) rfl rfl S (y_move rfl S rfl) fun a S => ?_)
              refine wl_of (op_y (wn rfl) rfl rfl S (y_nilCheck rfl S rfl) fun a S => ?_)
              refine wl_of (op_y (wn rfl) rfl rfl S (y_faddrb rfl Ffo53_3 S rfl) fun a S => ?_)
              refine wl_of (op_y (wn rfl) rfl rfl S (y_load rfl Fsca22 S H rfl rfl) fun a S => ?_)
              refine wl_of (op_y (wn rfl) rfl rfl S (y_move rfl S rfl) fun a S => ?_)
              refine wl_of (op_y (wn rfl) rfl rfl S (y_iaddrs rfl Try.underlying22 Fsiz3 S H rfl rfl (by first | omega | (simp only [List.length_append, List.length_take, List.length_drop, List.length_replicate, List.length_set, List.length_map, List.length_cons, List.length_nil]; omega))) fun a S => ?_)
              refine wl_of (op_y (wn rfl) rfl rfl S (y_loads _ rfl Fsca3 S H rfl (by first | omega | (simp only [List.length_append, List.length_take, List.length_drop, List.length_replicate, List.length_set, List.length_map, List.length_cons, List.length_nil]; omega)) rfl) fun a S => ?_)
              refine wl_of (op_y (wn rfl) rfl rfl S (y_add rfl S rfl rfl (by omega)) fun a S => ?_)
              refine wl_of (op_y (wn rfl) rfl rfl S (y_iaddrs rfl Try.underlying22 Fsiz3 S H rfl rfl (by first | omega | (simp only [List.length_append, List.length_take, List.length_drop, List.length_replicate, List.length_set, List.length_map, List.length_cons, List.length_nil]; omega))) fun a S => ?_)
              refine wl_of (op_store1 _ (_) (wn rfl) rfl rfl S H rfl rfl rfl rfl Fsiz3 (by first | omega | (simp only [List.length_append, List.length_take, List.length_drop, List.length_replicate, List.length_set, List.length_map, List.length_cons, List.length_nil]; omega)) (by exact rfl) fun a w S H => ?_)
              refine wpList_nil ?_
              refine n_then ?_
              first | exact ⟨(S.nil.cons S 1 rfl).cons S 0 rfl, fun h => absurd h (by simpa using h8), by rw [if_neg (by simpa using h8)]; exact H⟩ | exact ⟨(S.nil.cons S 1 rfl).cons S 0 rfl, fun _ => hroom, by rw [if_pos (by simpa using h8), bump_at _ _ (by omega)]; exact H.tail⟩
        · have h8p := h8; try simp only [Option.isNone_some, Option.isNone_none, Option.isSome_some, Option.isSome_none, false_or, or_false, true_and, and_true, decide_eq_true_eq, decide_eq_false_iff_not, Bool.or_eq_true, Bool.and_eq_true, Bool.or_eq_false_iff, Bool.and_eq_false_iff, Bool.not_eq_true', Bool.not_eq_false', bne_iff_ne, beq_iff_eq, beq_eq_false_iff_ne, bne_eq_false_iff_eq, ne_eq, Decidable.not_not, Int.not_lt, Int.not_le, gt_iff_lt, ge_iff_le, Bool.true_eq_false, Bool.false_eq_true, not_true_eq_false, not_false_eq_true] at h8p
          refine wp_skip ?_
          refine n_then ?_
          first | exact ⟨(S.nil.cons S 1 rfl).cons S 0 rfl, fun h => absurd h (by simpa using h8), by rw [if_neg (by simpa using h8)]; exact H⟩ | exact ⟨(S.nil.cons S 1 rfl).cons S 0 rfl, fun _ => hroom, by rw [if_pos (by simpa using h8), bump_at _ _ (by omega)]; exact H.tail⟩
      rintro a w ⟨S, hroom, H⟩
      have hbp := hw1.passed _ (List.getElem_mem (show c.toNat < s1.passed.length by omega))
      obtain ⟨ld, hld⟩ : ∃ ld, (if k = 0 then { s1 with load := bump s1.load c.toNat } else s1) = { s1 with load := ld } := by split; exact ⟨_, rfl⟩; exact ⟨s1.load, rfl⟩
      rw [hld] at H
      simp only [DoorL, List.cons_append, List.nil_append] at H
      refine wp_seq ?_
      -- region 18 shed.go:71
      refine wp_region_lit ?_
      refine wl_of (op_y (wn rfl) rfl rfl S (y_move rfl S rfl) fun a S => ?_)
      refine wl_of (op_y (wn rfl) rfl rfl S (y_nilCheck rfl S rfl) fun a S => ?_)
      refine wl_of (op_y (wn rfl) rfl rfl S (y_faddrb rfl Ffo53_4 S rfl) fun a S => ?_)
      refine wl_of (op_y (wn rfl) rfl rfl S (y_load rfl Fsca22 S H rfl rfl) fun a S => ?_)
      refine wl_of (op_y (wn rfl) rfl rfl S (y_move rfl S rfl) fun a S => ?_)
      refine wl_of (op_y (wn rfl) rfl rfl S (y_iaddrs rfl Try.underlying22 Fsiz3 S H rfl rfl (by first | omega | (simp only [List.length_append, List.length_take, List.length_drop, List.length_replicate, List.length_set, List.length_map, List.length_cons, List.length_nil]; omega))) fun a S => ?_)
      refine wl_of (op_y (wn rfl) rfl rfl S (y_loads _ rfl Fsca3 S H rfl (by first | omega | (simp only [List.length_append, List.length_take, List.length_drop, List.length_replicate, List.length_set, List.length_map, List.length_cons, List.length_nil]; omega)) rfl) fun a S => ?_)
      refine wl_of (op_y (wn rfl) rfl rfl S (y_add rfl S rfl rfl (by omega)) fun a S => ?_)
      refine wl_of (op_y (wn rfl) rfl rfl S (y_iaddrs rfl Try.underlying22 Fsiz3 S H rfl rfl (by first | omega | (simp only [List.length_append, List.length_take, List.length_drop, List.length_replicate, List.length_set, List.length_map, List.length_cons, List.length_nil]; omega))) fun a S => ?_)
      refine wl_of (op_store1 _ (_) (wn rfl) rfl rfl S H rfl rfl rfl rfl Fsiz3 (by first | omega | (simp only [List.length_append, List.length_take, List.length_drop, List.length_replicate, List.length_set, List.length_map, List.length_cons, List.length_nil]; omega)) (by exact rfl) fun a w S H => ?_)
      refine wpList_nil ?_
      refine n_then ?_
      have S := S.nil
      refine wp_seq ?_
      -- region 19 shed.go:72
      refine wp_region_lit ?_
      refine wl_of (op_y (wn rfl) rfl rfl S (y_assign rfl S rfl) fun a S => ?_)
      refine wpList_nil ?_
      refine n_then ?_
      refine wp_ret ?_
      refine ret1 rfl S rfl ?_
      have e : offer s c k t = (true, { s1 with load := ld, passed := bump s1.passed c.toNat }) := by
        rw [offer, if_pos hok, ← hs1, enter, if_neg (by omega)]
        by_cases hk : k = 0
        · rw [if_pos hk] at hld ⊢; rw [if_pos (hroom hk)]; exact congrArg (fun q : DS => (true, { q with passed := bump s1.passed c.toNat })) hld
        · rw [if_neg hk] at hld ⊢; exact congrArg (fun q : DS => (true, { q with passed := bump s1.passed c.toNat })) hld
      rw [e, bump_at _ _ (by omega)]; exact ⟨rfl, HSat.fold (ls := DoorL b vr vl vp ({ s1 with load := ld, passed := _ })) H (by simp [DoorL, OSl, Blk])⟩

end Go.Proofs.Ytojmagbonbcffaa
