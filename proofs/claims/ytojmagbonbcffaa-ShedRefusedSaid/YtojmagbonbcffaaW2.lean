/- The walks. No condition. -/
import Derived.Test.YtojmagbonbcffaaChecked
import Derived.Test.YtojmagbonbcffaaGwMap
import Derived.Test.YtojmagbonbcffaaFacts
import Derived.Test.YtojmagbonbcffaaPlain
import Derived.Test.YtojmagbonbcffaaW1
namespace Go.Proofs.Ytojmagbonbcffaa
open Go Go.Gw
set_option linter.unusedVariables false
set_option linter.unusedSimpArgs false

/-- a door in memory -/
def DoorL (b : Nat) (vr vl vp : Value) (s : DS) : List Atom := [Cel b 53 [.int .i64 s.span, .int .i64 s.now, vr, .int .i64 s.total, vl, vp], OSl 3 vr 1 encI s.res, OSl 3 vl 1 encI s.load, OSl 3 vp 1 encI s.passed]
def DoorA (b : Nat) (s : DS) (vr vl vp : Value) : Atom := Bun (DoorL b vr vl vp s)
set_option maxHeartbeats 2000000 in
/-- foyer/shed.New -/
theorem new_spec (sp tot : Int) (v : Value) (rs : List Int) (w0 : World) (hv : IsSl w0 v 1 encI rs) :
    Ret Try.prog 10 #[.int .i64 sp, v, .int .i64 tot] w0 (fun u w => (newOK sp rs tot = false ∧ u = .tuple #[.pointer none, .int .i64 1] ∧ Ext w0 w) ∨ (newOK sp rs tot = true ∧ ∃ b vr vl vp, u = .tuple #[.pointer (some ⟨b, 0, none⟩), .int .i64 0] ∧ HSat No w0 [DoorA b (newDS sp rs tot) vr vl vp] w)) := by
  refine ret_of_wp (n := 59) Try.func10 rfl rfl rfl (fl := [(0, .int .i64 sp), (1, v), (2, .int .i64 tot)]) rfl (fun a S => ?_)
  have H := HSat.start w0
  have H := H.ro0 (Sl v 1 encI rs) rfl (hv)
  refine wp_seq ?_
  -- region 0 shed.go:40
  refine wp_region_lit ?_
  refine wl_of (op_y (wn rfl) rfl rfl S (y_assign rfl S rfl) fun a S => ?_)
  refine wl_of (op_y (wn rfl) rfl rfl S (y_assign rfl S rfl) fun a S => ?_)
  refine wpList_nil ?_
  refine n_then ?_
  refine wp_seq ?_
  -- region 1 shed.go:41
  refine wp_region_lit ?_
  refine wl_of (op_y (wn rfl) rfl rfl S (y_assign rfl S rfl) fun a S => ?_)
  refine wpList_nil ?_
  refine n_then ?_
  refine wp_seq ?_
  refine wp_seq ?_
  -- region 2 shed.go:42
  refine wp_region_lit ?_
  refine wl_of (op_y (wn rfl) rfl rfl S (y_move rfl S rfl) fun a S => ?_)
  refine wl_of (op_y (wn rfl) rfl rfl S (y_bin rfl S rfl rfl rfl) fun a S => ?_)
  refine wl_of (op_y (wn rfl) rfl rfl S (y_move rfl S rfl) fun a S => ?_)
  refine' wl_or 2 12 rfl S H rfl rfl rfl rfl rfl rfl rfl (fun _ S => (wn rfl)) (fun h1 kk => ?yh1) (fun a w S H => ?_)
  case yh1 =>
    have h1p := h1; try simp only [Option.isNone_some, Option.isNone_none, Option.isSome_some, Option.isSome_none, false_or, or_false, true_and, and_true, decide_eq_true_eq, decide_eq_false_iff_not, Bool.or_eq_true, Bool.and_eq_true, Bool.or_eq_false_iff, Bool.and_eq_false_iff, Bool.not_eq_true', Bool.not_eq_false', bne_iff_ne, beq_iff_eq, beq_eq_false_iff_ne, bne_eq_false_iff_eq, ne_eq, Decidable.not_not, Int.not_lt, Int.not_le, gt_iff_lt, ge_iff_le, Bool.true_eq_false, Bool.false_eq_true, not_true_eq_false, not_false_eq_true] at h1p
    refine wl_of (op_y (wg' 12 rfl rfl S rfl h1 rfl) rfl rfl S (y_move rfl S rfl) fun a S => ?_)
    refine wl_of (op_y (wg' 12 rfl rfl S rfl h1 rfl) rfl rfl S (y_bin rfl S rfl rfl rfl) fun a S => ?_)
    refine wl_of (op_y (wn rfl) rfl rfl S (y_or' rfl h1 S rfl rfl) fun a S => ?_)
    exact kk _ _ (S.join 3 15 rfl rfl) H
  refine wl_of (op_y (wn rfl) rfl rfl S (y_move rfl S rfl) fun a S => ?_)
  refine' wl_or 3 16 rfl S H rfl rfl rfl rfl rfl rfl rfl (fun _ S => (wn rfl)) (fun h2 kk => ?yh2) (fun a w S H => ?_)
  case yh2 =>
    have h2p := h2; try simp only [Option.isNone_some, Option.isNone_none, Option.isSome_some, Option.isSome_none, false_or, or_false, true_and, and_true, decide_eq_true_eq, decide_eq_false_iff_not, Bool.or_eq_true, Bool.and_eq_true, Bool.or_eq_false_iff, Bool.and_eq_false_iff, Bool.not_eq_true', Bool.not_eq_false', bne_iff_ne, beq_iff_eq, beq_eq_false_iff_ne, bne_eq_false_iff_eq, ne_eq, Decidable.not_not, Int.not_lt, Int.not_le, gt_iff_lt, ge_iff_le, Bool.true_eq_false, Bool.false_eq_true, not_true_eq_false, not_false_eq_true] at h2p
    refine wl_of (op_y (wg' 16 rfl rfl S rfl h2 rfl) rfl rfl S (y_move rfl S rfl) fun a S => ?_)
    refine wl_of (op_y (wg' 16 rfl rfl S rfl h2 rfl) rfl rfl S (y_lens rfl Try.underlying22 S H rfl) fun a S => ?_)
    refine wl_of (op_y (wg' 16 rfl rfl S rfl h2 rfl) rfl rfl S (y_bin rfl S rfl rfl rfl) fun a S => ?_)
    refine wl_of (op_y (wn rfl) rfl rfl S (y_or' rfl h2 S rfl rfl) fun a S => ?_)
    exact kk _ _ (S.join 4 20 rfl rfl) H
  refine wl_of (op_y (wn rfl) rfl rfl S (y_move rfl S rfl) fun a S => ?_)
  refine' wl_or 3 21 rfl S H rfl rfl rfl rfl rfl rfl rfl (fun _ S => (wn rfl)) (fun h3 kk => ?yh3) (fun a w S H => ?_)
  case yh3 =>
    have h3p := h3; try simp only [Option.isNone_some, Option.isNone_none, Option.isSome_some, Option.isSome_none, false_or, or_false, true_and, and_true, decide_eq_true_eq, decide_eq_false_iff_not, Bool.or_eq_true, Bool.and_eq_true, Bool.or_eq_false_iff, Bool.and_eq_false_iff, Bool.not_eq_true', Bool.not_eq_false', bne_iff_ne, beq_iff_eq, beq_eq_false_iff_ne, bne_eq_false_iff_eq, ne_eq, Decidable.not_not, Int.not_lt, Int.not_le, gt_iff_lt, ge_iff_le, Bool.true_eq_false, Bool.false_eq_true, not_true_eq_false, not_false_eq_true] at h3p
    refine wl_of (op_y (wg' 21 rfl rfl S rfl h3 rfl) rfl rfl S (y_move rfl S rfl) fun a S => ?_)
    refine wl_of (op_y (wg' 21 rfl rfl S rfl h3 rfl) rfl rfl S (y_lens rfl Try.underlying22 S H rfl) fun a S => ?_)
    refine wl_of (op_y (wg' 21 rfl rfl S rfl h3 rfl) rfl rfl S (y_bin rfl S rfl rfl rfl) fun a S => ?_)
    refine wl_of (op_y (wn rfl) rfl rfl S (y_or' rfl h3 S rfl rfl) fun a S => ?_)
    exact kk _ _ (S.join 4 25 rfl rfl) H
  refine wl_of (op_y (wn rfl) rfl rfl S (y_move rfl S rfl) fun a S => ?_)
  refine' wl_or 2 26 rfl S H rfl rfl rfl rfl rfl rfl rfl (fun _ S => (wn rfl)) (fun h4 kk => ?yh4) (fun a w S H => ?_)
  case yh4 =>
    have h4p := h4; try simp only [Option.isNone_some, Option.isNone_none, Option.isSome_some, Option.isSome_none, false_or, or_false, true_and, and_true, decide_eq_true_eq, decide_eq_false_iff_not, Bool.or_eq_true, Bool.and_eq_true, Bool.or_eq_false_iff, Bool.and_eq_false_iff, Bool.not_eq_true', Bool.not_eq_false', bne_iff_ne, beq_iff_eq, beq_eq_false_iff_ne, bne_eq_false_iff_eq, ne_eq, Decidable.not_not, Int.not_lt, Int.not_le, gt_iff_lt, ge_iff_le, Bool.true_eq_false, Bool.false_eq_true, not_true_eq_false, not_false_eq_true] at h4p
    refine wl_of (op_y (wg' 26 rfl rfl S rfl h4 rfl) rfl rfl S (y_move rfl S rfl) fun a S => ?_)
    refine wl_of (op_y (wg' 26 rfl rfl S rfl h4 rfl) rfl rfl S (y_bin rfl S rfl rfl rfl) fun a S => ?_)
    refine wl_of (op_y (wn rfl) rfl rfl S (y_or' rfl h4 S rfl rfl) fun a S => ?_)
    exact kk _ _ (S.join 3 29 rfl rfl) H
  refine wl_of (op_y (wn rfl) rfl rfl S (y_move rfl S rfl) fun a S => ?_)
  refine' wl_or 3 30 rfl S H rfl rfl rfl rfl rfl rfl rfl (fun _ S => (wn rfl)) (fun h5 kk => ?yh5) (fun a w S H => ?_)
  case yh5 =>
    have h5p := h5; try simp only [Option.isNone_some, Option.isNone_none, Option.isSome_some, Option.isSome_none, false_or, or_false, true_and, and_true, decide_eq_true_eq, decide_eq_false_iff_not, Bool.or_eq_true, Bool.and_eq_true, Bool.or_eq_false_iff, Bool.and_eq_false_iff, Bool.not_eq_true', Bool.not_eq_false', bne_iff_ne, beq_iff_eq, beq_eq_false_iff_ne, bne_eq_false_iff_eq, ne_eq, Decidable.not_not, Int.not_lt, Int.not_le, gt_iff_lt, ge_iff_le, Bool.true_eq_false, Bool.false_eq_true, not_true_eq_false, not_false_eq_true] at h5p
    refine wl_of (op_y (wg' 30 rfl rfl S rfl h5 rfl) rfl rfl S (y_move rfl S rfl) fun a S => ?_)
    refine wl_of (op_y (wg' 30 rfl rfl S rfl h5 rfl) rfl rfl S (y_move rfl S rfl) fun a S => ?_)
    refine wl_of (op_call (wg' 30 rfl rfl S rfl h5 rfl) rfl rfl S (co_value rfl Try.call19 S rfl rfl) (badN_spec _ _) fun v w hc a S => ?_)
    obtain ⟨rfl, he⟩ := hc
    have H := H.ext he
    refine wl_of (op_y (wn rfl) rfl rfl S (y_or' rfl h5 S rfl rfl) fun a S => ?_)
    exact kk _ _ (S.join 4 34 rfl rfl) H
  refine wl_of (op_y (wn rfl) rfl rfl S (y_move rfl S rfl) fun a S => ?_)
  refine' wl_or 3 35 rfl S H rfl rfl rfl rfl rfl rfl rfl (fun _ S => (wn rfl)) (fun h6 kk => ?yh6) (fun a w S H => ?_)
  case yh6 =>
    have h6p := h6; try simp only [Option.isNone_some, Option.isNone_none, Option.isSome_some, Option.isSome_none, false_or, or_false, true_and, and_true, decide_eq_true_eq, decide_eq_false_iff_not, Bool.or_eq_true, Bool.and_eq_true, Bool.or_eq_false_iff, Bool.and_eq_false_iff, Bool.not_eq_true', Bool.not_eq_false', bne_iff_ne, beq_iff_eq, beq_eq_false_iff_ne, bne_eq_false_iff_eq, ne_eq, Decidable.not_not, Int.not_lt, Int.not_le, gt_iff_lt, ge_iff_le, Bool.true_eq_false, Bool.false_eq_true, not_true_eq_false, not_false_eq_true] at h6p
    refine wl_of (op_y (wg' 35 rfl rfl S rfl h6 rfl) rfl rfl S (y_move rfl S rfl) fun a S => ?_)
    refine wl_of (op_y (wg' 35 rfl rfl S rfl h6 rfl) rfl rfl S (y_move rfl S rfl) fun a S => ?_)
    refine wl_of (op_call (wg' 35 rfl rfl S rfl h6 rfl) rfl rfl S (co_func rfl Try.call20 S rfl) (containsFunc_spec v rs 19 [] Try.call19 badN _ (H.sl v) (fun x _ w _ => badN_spec x w)) fun v w hc a S => ?_)
    obtain ⟨rfl, he⟩ := hc
    have H := H.ext he
    refine wl_of (op_y (wn rfl) rfl rfl S (y_or' rfl h6 S rfl rfl) fun a S => ?_)
    exact kk _ _ (S.join 4 39 rfl rfl) H
  refine wl_of (op_y (wn rfl) rfl rfl S (y_move rfl S rfl) fun a S => ?_)
  refine' wl_or 4 40 rfl S H rfl rfl rfl rfl rfl rfl rfl (fun _ S => (wn rfl)) (fun h7 kk => ?yh7) (fun a w S H => ?_)
  case yh7 =>
    have h7p := h7; try simp only [Option.isNone_some, Option.isNone_none, Option.isSome_some, Option.isSome_none, false_or, or_false, true_and, and_true, decide_eq_true_eq, decide_eq_false_iff_not, Bool.or_eq_true, Bool.and_eq_true, Bool.or_eq_false_iff, Bool.and_eq_false_iff, Bool.not_eq_true', Bool.not_eq_false', bne_iff_ne, beq_iff_eq, beq_eq_false_iff_ne, bne_eq_false_iff_eq, ne_eq, Decidable.not_not, Int.not_lt, Int.not_le, gt_iff_lt, ge_iff_le, Bool.true_eq_false, Bool.false_eq_true, not_true_eq_false, not_false_eq_true] at h7p
    refine wl_of (op_y (wg' 40 rfl rfl S rfl h7 rfl) rfl rfl S (y_move rfl S rfl) fun a S => ?_)
    refine wl_of (op_call (wg' 40 rfl rfl S rfl h7 rfl) rfl rfl S (co_func rfl Try.call21 S rfl) (sum_spec v rs _ (H.sl v) ((bd_any (Bool.or_eq_false_iff.1 h7).2).wide (by omega) (by omega)) (by omega)) fun v w hc a S => ?_)
    obtain ⟨rfl, he⟩ := hc
    have H := H.ext he
    refine wl_of (op_y (wg' 40 rfl rfl S rfl h7 rfl) rfl rfl S (y_move rfl S rfl) fun a S => ?_)
    refine wl_of (op_y (wg' 40 rfl rfl S rfl h7 rfl) rfl rfl S (y_bin rfl S rfl rfl rfl) fun a S => ?_)
    refine wl_of (op_y (wn rfl) rfl rfl S (y_or' rfl h7 S rfl rfl) fun a S => ?_)
    exact kk _ _ (S.join 5 45 rfl rfl) H
  refine wpList_nil ?_
  refine n_then ?_
  have S := (((((S.nil.cons S 2 rfl).cons S 1 rfl).cons S 0 rfl).cons S 6 rfl).cons S 7 rfl).cons S 45 rfl
  -- cond 1
  refine c_if S rfl (fun h8 => ?_) (fun h8 => ?_)
  · have h8p := h8; try simp only [Option.isNone_some, Option.isNone_none, Option.isSome_some, Option.isSome_none, false_or, or_false, true_and, and_true, decide_eq_true_eq, decide_eq_false_iff_not, Bool.or_eq_true, Bool.and_eq_true, Bool.or_eq_false_iff, Bool.and_eq_false_iff, Bool.not_eq_true', Bool.not_eq_false', bne_iff_ne, beq_iff_eq, beq_eq_false_iff_ne, bne_eq_false_iff_eq, ne_eq, Decidable.not_not, Int.not_lt, Int.not_le, gt_iff_lt, ge_iff_le, Bool.true_eq_false, Bool.false_eq_true, not_true_eq_false, not_false_eq_true] at h8p
    have hno : newOK sp rs tot = false := by unfold newOK; rw [Bool.not_eq_false']; exact h8
    refine wp_seq ?_
    -- region 3 shed.go:43
    refine wp_region_lit ?_
    refine wl_of (op_y (wn rfl) rfl rfl S (y_assign rfl S rfl) fun a S => ?_)
    refine wl_of (op_y (wn rfl) rfl rfl S (y_assign rfl S rfl) fun a S => ?_)
    refine wpList_nil ?_
    refine n_then ?_
    refine wp_ret ?_
    refine r_then (ret2 rfl S rfl rfl ?_)
    exact .inl ⟨hno, rfl, H.toExt⟩
  · have h8p := h8; try simp only [Option.isNone_some, Option.isNone_none, Option.isSome_some, Option.isSome_none, false_or, or_false, true_and, and_true, decide_eq_true_eq, decide_eq_false_iff_not, Bool.or_eq_true, Bool.and_eq_true, Bool.or_eq_false_iff, Bool.and_eq_false_iff, Bool.not_eq_true', Bool.not_eq_false', bne_iff_ne, beq_iff_eq, beq_eq_false_iff_ne, bne_eq_false_iff_eq, ne_eq, Decidable.not_not, Int.not_lt, Int.not_le, gt_iff_lt, ge_iff_le, Bool.true_eq_false, Bool.false_eq_true, not_true_eq_false, not_false_eq_true] at h8p
    have hyes : newOK sp rs tot = true := by unfold newOK; rw [Bool.not_eq_true']; exact h8
    have hne : rs ≠ [] := by rintro rfl; simp at h8p
    refine wp_skip ?_
    refine n_then ?_
    refine wp_seq ?_
    -- region 4 shed.go:45
    refine wp_region_lit ?_
    refine wl_of (op_y (wn rfl) rfl rfl S (y_move rfl S rfl) fun a S => ?_)
    refine wl_of (op_y (wn rfl) rfl rfl S (y_lens rfl Try.underlying22 S H rfl) fun a S => ?_)
    refine wl_of (op_y (wn rfl) rfl rfl S (y_assign rfl S rfl) fun a S => ?_)
    refine wpList_nil ?_
    refine n_then ?_
    refine wp_seq ?_
    -- region 5 DRAWS shed.go:46
    -- several orders
    refine cut (fun a w => ∃ b vr vl vp, St 59 [(6, .pointer (some ⟨b, 0, none⟩)), (7, .int .i64 0)] a ∧ HSat No w0 (DoorA b (newDS sp rs tot) vr vl vp :: [Sl v 1 encI rs]) w) ?_ ?_
    · skip
      refine t_st (tails := []) Fmo H ?_
      refine t_q 0 rfl (by kernel_rfl) (rem' := [1, 2, 3, 4, 5, 6, 7, 8, 9, 10, 11, 12]) rfl rfl rfl rfl S (fun w H => y_move rfl S rfl) fun a S => ?_
      refine t_q 1 rfl (by kernel_rfl) (rem' := [2, 3, 4, 5, 6, 7, 8, 9, 10, 11, 12]) rfl rfl rfl rfl S (fun w H => y_buildf rfl Fbld50 S rfl (idx := [0]) rfl (cs := [.int .i64 sp, .int .i64 0]) (by kernel_rfl)) fun a S => ?_
      refine t_q 2 rfl (by kernel_rfl) (rem' := [3, 4, 5, 6, 7, 8, 9, 10, 11, 12]) rfl rfl rfl rfl S (fun w H => y_move rfl S rfl) fun a S => ?_
      refine t_q 4 rfl (by kernel_rfl) (rem' := [3, 5, 6, 7, 8, 9, 10, 11, 12]) rfl rfl rfl rfl S (fun w H => y_move rfl S rfl) fun a S => ?_
      refine t_q 5 rfl (by kernel_rfl) (rem' := [3, 6, 7, 8, 9, 10, 11, 12]) rfl rfl rfl rfl S (fun w H => y_move rfl S rfl) fun a S => ?_
      refine t_q 7 rfl (by kernel_rfl) (rem' := [3, 6, 8, 9, 10, 11, 12]) rfl rfl rfl rfl S (fun w H => y_move rfl S rfl) fun a S => ?_
      refine t_b [3, 6, 8] (by kernel_rfl) rfl ?_
      intro i hi; simp only [List.mem_cons, List.not_mem_nil, or_false] at hi; rcases hi with rfl | rfl | rfl
      · refine ⟨_, rfl, fun w H => ?_⟩
        refine op_call (wn rfl) rfl rfl S (co_func rfl Try.call22 S rfl) (clone_spec v rs _ (H.sl v) hne (by omega)) fun vr w hc a S => ?_
        have H1 := hc
        have H := H.call1 H1 rfl
        obtain ⟨pr, cr, rfl⟩ := (H.sl vr).shape
        refine t_next H (by repeat (first | exact List.Sublist.refl _ | apply List.Sublist.cons)) (rem' := [6, 8, 9, 10, 11, 12]) rfl ?_
        refine t_b [6, 8] (by kernel_rfl) rfl ?_
        intro i hi; simp only [List.mem_cons, List.not_mem_nil, or_false] at hi; rcases hi with rfl | rfl
        · refine ⟨_, rfl, fun w H => ?_⟩
          refine op_make (encI) (0) (wn rfl) rfl rfl rfl Try.underlying22 Finf3 rfl rfl S H rfl rfl rfl (by omega) (by omega) fun b54 a w S H => ?_
          refine t_next H (by repeat (first | exact List.Sublist.refl _ | apply List.Sublist.cons)) (rem' := [8, 9, 10, 11, 12]) rfl ?_
          refine t_b [8] (by kernel_rfl) rfl ?_
          intro i hi; simp only [List.mem_cons, List.not_mem_nil, or_false] at hi; subst hi
          · refine ⟨_, rfl, fun w H => ?_⟩
            refine op_make (encI) (0) (wn rfl) rfl rfl rfl Try.underlying22 Finf3 rfl rfl S H rfl rfl rfl (by omega) (by omega) fun b56 a w S H => ?_
            refine t_next H (by repeat (first | exact List.Sublist.refl _ | apply List.Sublist.cons)) (rem' := [9, 10, 11, 12]) rfl ?_
            refine t_q 9 rfl (by kernel_rfl) (rem' := [10, 11, 12]) rfl rfl rfl rfl S (fun w H => y_buildf rfl Fbld53 S rfl (idx := [0, 1, 2, 3, 4]) rfl (cs := [.int .i64 sp, .int .i64 0, .slice pr rs.length cr, .int .i64 tot, .slice (some ⟨b54, 0, none⟩) rs.length rs.length, .slice (some ⟨b56, 0, none⟩) rs.length rs.length]) (by kernel_rfl)) fun a S => ?_
            refine t_b [10] (by kernel_rfl) rfl ?_
            intro i hi; simp only [List.mem_cons, List.not_mem_nil, or_false] at hi; subst hi
            · refine ⟨_, rfl, fun w H => ?_⟩
              refine op_boxa (wn rfl) rfl rfl rfl S H rfl fun b58 a w S H => ?_
              refine t_next H (by repeat (first | exact List.Sublist.refl _ | apply List.Sublist.cons)) (rem' := [11, 12]) rfl ?_
              refine t_q 11 rfl (by kernel_rfl) (rem' := [12]) rfl rfl rfl rfl S (fun w H => y_assign rfl S rfl) fun a S => ?_
              refine t_q 12 rfl (by kernel_rfl) (rem' := []) rfl rfl rfl rfl S (fun w H => y_assign rfl S rfl) fun a S => ?_
              refine t_nil (fun w H => ?_)
              exact ⟨_, _, _, _, (S.nil.cons S 7 rfl).cons S 6 rfl, HSat.fold (ls := DoorL _ _ _ _ _) (H.perm (List.Perm.cons _ (by first | exact List.Perm.refl _ | exact p3b | exact p3c | exact p3d | exact p3e | exact p3f))) (by simp [DoorL, OSl, Blk])⟩
        · refine ⟨_, rfl, fun w H => ?_⟩
          refine op_make (encI) (0) (wn rfl) rfl rfl rfl Try.underlying22 Finf3 rfl rfl S H rfl rfl rfl (by omega) (by omega) fun b56 a w S H => ?_
          refine t_next H (by repeat (first | exact List.Sublist.refl _ | apply List.Sublist.cons)) (rem' := [6, 9, 10, 11, 12]) rfl ?_
          refine t_b [6] (by kernel_rfl) rfl ?_
          intro i hi; simp only [List.mem_cons, List.not_mem_nil, or_false] at hi; subst hi
          · refine ⟨_, rfl, fun w H => ?_⟩
            refine op_make (encI) (0) (wn rfl) rfl rfl rfl Try.underlying22 Finf3 rfl rfl S H rfl rfl rfl (by omega) (by omega) fun b54 a w S H => ?_
            refine t_next H (by repeat (first | exact List.Sublist.refl _ | apply List.Sublist.cons)) (rem' := [9, 10, 11, 12]) rfl ?_
            refine t_q 9 rfl (by kernel_rfl) (rem' := [10, 11, 12]) rfl rfl rfl rfl S (fun w H => y_buildf rfl Fbld53 S rfl (idx := [0, 1, 2, 3, 4]) rfl (cs := [.int .i64 sp, .int .i64 0, .slice pr rs.length cr, .int .i64 tot, .slice (some ⟨b54, 0, none⟩) rs.length rs.length, .slice (some ⟨b56, 0, none⟩) rs.length rs.length]) (by kernel_rfl)) fun a S => ?_
            refine t_b [10] (by kernel_rfl) rfl ?_
            intro i hi; simp only [List.mem_cons, List.not_mem_nil, or_false] at hi; subst hi
            · refine ⟨_, rfl, fun w H => ?_⟩
              refine op_boxa (wn rfl) rfl rfl rfl S H rfl fun b58 a w S H => ?_
              refine t_next H (by repeat (first | exact List.Sublist.refl _ | apply List.Sublist.cons)) (rem' := [11, 12]) rfl ?_
              refine t_q 11 rfl (by kernel_rfl) (rem' := [12]) rfl rfl rfl rfl S (fun w H => y_assign rfl S rfl) fun a S => ?_
              refine t_q 12 rfl (by kernel_rfl) (rem' := []) rfl rfl rfl rfl S (fun w H => y_assign rfl S rfl) fun a S => ?_
              refine t_nil (fun w H => ?_)
              exact ⟨_, _, _, _, (S.nil.cons S 7 rfl).cons S 6 rfl, HSat.fold (ls := DoorL _ _ _ _ _) (H.perm (List.Perm.cons _ (by first | exact List.Perm.refl _ | exact p3b | exact p3c | exact p3d | exact p3e | exact p3f))) (by simp [DoorL, OSl, Blk])⟩
      · refine ⟨_, rfl, fun w H => ?_⟩
        refine op_make (encI) (0) (wn rfl) rfl rfl rfl Try.underlying22 Finf3 rfl rfl S H rfl rfl rfl (by omega) (by omega) fun b54 a w S H => ?_
        refine t_next H (by repeat (first | exact List.Sublist.refl _ | apply List.Sublist.cons)) (rem' := [3, 8, 9, 10, 11, 12]) rfl ?_
        refine t_b [3, 8] (by kernel_rfl) rfl ?_
        intro i hi; simp only [List.mem_cons, List.not_mem_nil, or_false] at hi; rcases hi with rfl | rfl
        · refine ⟨_, rfl, fun w H => ?_⟩
          refine op_call (wn rfl) rfl rfl S (co_func rfl Try.call22 S rfl) (clone_spec v rs _ (H.sl v) hne (by omega)) fun vr w hc a S => ?_
          have H1 := hc
          have H := H.call1 H1 rfl
          obtain ⟨pr, cr, rfl⟩ := (H.sl vr).shape
          refine t_next H (by repeat (first | exact List.Sublist.refl _ | apply List.Sublist.cons)) (rem' := [8, 9, 10, 11, 12]) rfl ?_
          refine t_b [8] (by kernel_rfl) rfl ?_
          intro i hi; simp only [List.mem_cons, List.not_mem_nil, or_false] at hi; subst hi
          · refine ⟨_, rfl, fun w H => ?_⟩
            refine op_make (encI) (0) (wn rfl) rfl rfl rfl Try.underlying22 Finf3 rfl rfl S H rfl rfl rfl (by omega) (by omega) fun b56 a w S H => ?_
            refine t_next H (by repeat (first | exact List.Sublist.refl _ | apply List.Sublist.cons)) (rem' := [9, 10, 11, 12]) rfl ?_
            refine t_q 9 rfl (by kernel_rfl) (rem' := [10, 11, 12]) rfl rfl rfl rfl S (fun w H => y_buildf rfl Fbld53 S rfl (idx := [0, 1, 2, 3, 4]) rfl (cs := [.int .i64 sp, .int .i64 0, .slice pr rs.length cr, .int .i64 tot, .slice (some ⟨b54, 0, none⟩) rs.length rs.length, .slice (some ⟨b56, 0, none⟩) rs.length rs.length]) (by kernel_rfl)) fun a S => ?_
            refine t_b [10] (by kernel_rfl) rfl ?_
            intro i hi; simp only [List.mem_cons, List.not_mem_nil, or_false] at hi; subst hi
            · refine ⟨_, rfl, fun w H => ?_⟩
              refine op_boxa (wn rfl) rfl rfl rfl S H rfl fun b58 a w S H => ?_
              refine t_next H (by repeat (first | exact List.Sublist.refl _ | apply List.Sublist.cons)) (rem' := [11, 12]) rfl ?_
              refine t_q 11 rfl (by kernel_rfl) (rem' := [12]) rfl rfl rfl rfl S (fun w H => y_assign rfl S rfl) fun a S => ?_
              refine t_q 12 rfl (by kernel_rfl) (rem' := []) rfl rfl rfl rfl S (fun w H => y_assign rfl S rfl) fun a S => ?_
              refine t_nil (fun w H => ?_)
              exact ⟨_, _, _, _, (S.nil.cons S 7 rfl).cons S 6 rfl, HSat.fold (ls := DoorL _ _ _ _ _) (H.perm (List.Perm.cons _ (by first | exact List.Perm.refl _ | exact p3b | exact p3c | exact p3d | exact p3e | exact p3f))) (by simp [DoorL, OSl, Blk])⟩
        · refine ⟨_, rfl, fun w H => ?_⟩
          refine op_make (encI) (0) (wn rfl) rfl rfl rfl Try.underlying22 Finf3 rfl rfl S H rfl rfl rfl (by omega) (by omega) fun b56 a w S H => ?_
          refine t_next H (by repeat (first | exact List.Sublist.refl _ | apply List.Sublist.cons)) (rem' := [3, 9, 10, 11, 12]) rfl ?_
          refine t_b [3] (by kernel_rfl) rfl ?_
          intro i hi; simp only [List.mem_cons, List.not_mem_nil, or_false] at hi; subst hi
          · refine ⟨_, rfl, fun w H => ?_⟩
            refine op_call (wn rfl) rfl rfl S (co_func rfl Try.call22 S rfl) (clone_spec v rs _ (H.sl v) hne (by omega)) fun vr w hc a S => ?_
            have H1 := hc
            have H := H.call1 H1 rfl
            obtain ⟨pr, cr, rfl⟩ := (H.sl vr).shape
            refine t_next H (by repeat (first | exact List.Sublist.refl _ | apply List.Sublist.cons)) (rem' := [9, 10, 11, 12]) rfl ?_
            refine t_q 9 rfl (by kernel_rfl) (rem' := [10, 11, 12]) rfl rfl rfl rfl S (fun w H => y_buildf rfl Fbld53 S rfl (idx := [0, 1, 2, 3, 4]) rfl (cs := [.int .i64 sp, .int .i64 0, .slice pr rs.length cr, .int .i64 tot, .slice (some ⟨b54, 0, none⟩) rs.length rs.length, .slice (some ⟨b56, 0, none⟩) rs.length rs.length]) (by kernel_rfl)) fun a S => ?_
            refine t_b [10] (by kernel_rfl) rfl ?_
            intro i hi; simp only [List.mem_cons, List.not_mem_nil, or_false] at hi; subst hi
            · refine ⟨_, rfl, fun w H => ?_⟩
              refine op_boxa (wn rfl) rfl rfl rfl S H rfl fun b58 a w S H => ?_
              refine t_next H (by repeat (first | exact List.Sublist.refl _ | apply List.Sublist.cons)) (rem' := [11, 12]) rfl ?_
              refine t_q 11 rfl (by kernel_rfl) (rem' := [12]) rfl rfl rfl rfl S (fun w H => y_assign rfl S rfl) fun a S => ?_
              refine t_q 12 rfl (by kernel_rfl) (rem' := []) rfl rfl rfl rfl S (fun w H => y_assign rfl S rfl) fun a S => ?_
              refine t_nil (fun w H => ?_)
              exact ⟨_, _, _, _, (S.nil.cons S 7 rfl).cons S 6 rfl, HSat.fold (ls := DoorL _ _ _ _ _) (H.perm (List.Perm.cons _ (by first | exact List.Perm.refl _ | exact p3b | exact p3c | exact p3d | exact p3e | exact p3f))) (by simp [DoorL, OSl, Blk])⟩
      · refine ⟨_, rfl, fun w H => ?_⟩
        refine op_make (encI) (0) (wn rfl) rfl rfl rfl Try.underlying22 Finf3 rfl rfl S H rfl rfl rfl (by omega) (by omega) fun b56 a w S H => ?_
        refine t_next H (by repeat (first | exact List.Sublist.refl _ | apply List.Sublist.cons)) (rem' := [3, 6, 9, 10, 11, 12]) rfl ?_
        refine t_b [3, 6] (by kernel_rfl) rfl ?_
        intro i hi; simp only [List.mem_cons, List.not_mem_nil, or_false] at hi; rcases hi with rfl | rfl
        · refine ⟨_, rfl, fun w H => ?_⟩
          refine op_call (wn rfl) rfl rfl S (co_func rfl Try.call22 S rfl) (clone_spec v rs _ (H.sl v) hne (by omega)) fun vr w hc a S => ?_
          have H1 := hc
          have H := H.call1 H1 rfl
          obtain ⟨pr, cr, rfl⟩ := (H.sl vr).shape
          refine t_next H (by repeat (first | exact List.Sublist.refl _ | apply List.Sublist.cons)) (rem' := [6, 9, 10, 11, 12]) rfl ?_
          refine t_b [6] (by kernel_rfl) rfl ?_
          intro i hi; simp only [List.mem_cons, List.not_mem_nil, or_false] at hi; subst hi
          · refine ⟨_, rfl, fun w H => ?_⟩
            refine op_make (encI) (0) (wn rfl) rfl rfl rfl Try.underlying22 Finf3 rfl rfl S H rfl rfl rfl (by omega) (by omega) fun b54 a w S H => ?_
            refine t_next H (by repeat (first | exact List.Sublist.refl _ | apply List.Sublist.cons)) (rem' := [9, 10, 11, 12]) rfl ?_
            refine t_q 9 rfl (by kernel_rfl) (rem' := [10, 11, 12]) rfl rfl rfl rfl S (fun w H => y_buildf rfl Fbld53 S rfl (idx := [0, 1, 2, 3, 4]) rfl (cs := [.int .i64 sp, .int .i64 0, .slice pr rs.length cr, .int .i64 tot, .slice (some ⟨b54, 0, none⟩) rs.length rs.length, .slice (some ⟨b56, 0, none⟩) rs.length rs.length]) (by kernel_rfl)) fun a S => ?_
            refine t_b [10] (by kernel_rfl) rfl ?_
            intro i hi; simp only [List.mem_cons, List.not_mem_nil, or_false] at hi; subst hi
            · refine ⟨_, rfl, fun w H => ?_⟩
              refine op_boxa (wn rfl) rfl rfl rfl S H rfl fun b58 a w S H => ?_
              refine t_next H (by repeat (first | exact List.Sublist.refl _ | apply List.Sublist.cons)) (rem' := [11, 12]) rfl ?_
              refine t_q 11 rfl (by kernel_rfl) (rem' := [12]) rfl rfl rfl rfl S (fun w H => y_assign rfl S rfl) fun a S => ?_
              refine t_q 12 rfl (by kernel_rfl) (rem' := []) rfl rfl rfl rfl S (fun w H => y_assign rfl S rfl) fun a S => ?_
              refine t_nil (fun w H => ?_)
              exact ⟨_, _, _, _, (S.nil.cons S 7 rfl).cons S 6 rfl, HSat.fold (ls := DoorL _ _ _ _ _) (H.perm (List.Perm.cons _ (by first | exact List.Perm.refl _ | exact p3b | exact p3c | exact p3d | exact p3e | exact p3f))) (by simp [DoorL, OSl, Blk])⟩
        · refine ⟨_, rfl, fun w H => ?_⟩
          refine op_make (encI) (0) (wn rfl) rfl rfl rfl Try.underlying22 Finf3 rfl rfl S H rfl rfl rfl (by omega) (by omega) fun b54 a w S H => ?_
          refine t_next H (by repeat (first | exact List.Sublist.refl _ | apply List.Sublist.cons)) (rem' := [3, 9, 10, 11, 12]) rfl ?_
          refine t_b [3] (by kernel_rfl) rfl ?_
          intro i hi; simp only [List.mem_cons, List.not_mem_nil, or_false] at hi; subst hi
          · refine ⟨_, rfl, fun w H => ?_⟩
            refine op_call (wn rfl) rfl rfl S (co_func rfl Try.call22 S rfl) (clone_spec v rs _ (H.sl v) hne (by omega)) fun vr w hc a S => ?_
            have H1 := hc
            have H := H.call1 H1 rfl
            obtain ⟨pr, cr, rfl⟩ := (H.sl vr).shape
            refine t_next H (by repeat (first | exact List.Sublist.refl _ | apply List.Sublist.cons)) (rem' := [9, 10, 11, 12]) rfl ?_
            refine t_q 9 rfl (by kernel_rfl) (rem' := [10, 11, 12]) rfl rfl rfl rfl S (fun w H => y_buildf rfl Fbld53 S rfl (idx := [0, 1, 2, 3, 4]) rfl (cs := [.int .i64 sp, .int .i64 0, .slice pr rs.length cr, .int .i64 tot, .slice (some ⟨b54, 0, none⟩) rs.length rs.length, .slice (some ⟨b56, 0, none⟩) rs.length rs.length]) (by kernel_rfl)) fun a S => ?_
            refine t_b [10] (by kernel_rfl) rfl ?_
            intro i hi; simp only [List.mem_cons, List.not_mem_nil, or_false] at hi; subst hi
            · refine ⟨_, rfl, fun w H => ?_⟩
              refine op_boxa (wn rfl) rfl rfl rfl S H rfl fun b58 a w S H => ?_
              refine t_next H (by repeat (first | exact List.Sublist.refl _ | apply List.Sublist.cons)) (rem' := [11, 12]) rfl ?_
              refine t_q 11 rfl (by kernel_rfl) (rem' := [12]) rfl rfl rfl rfl S (fun w H => y_assign rfl S rfl) fun a S => ?_
              refine t_q 12 rfl (by kernel_rfl) (rem' := []) rfl rfl rfl rfl S (fun w H => y_assign rfl S rfl) fun a S => ?_
              refine t_nil (fun w H => ?_)
              exact ⟨_, _, _, _, (S.nil.cons S 7 rfl).cons S 6 rfl, HSat.fold (ls := DoorL _ _ _ _ _) (H.perm (List.Perm.cons _ (by first | exact List.Perm.refl _ | exact p3b | exact p3c | exact p3d | exact p3e | exact p3f))) (by simp [DoorL, OSl, Blk])⟩
    rintro a w ⟨b, vr, vl, vp, S, H⟩
    refine wp_ret ?_
    refine ret2 rfl S rfl rfl ?_
    exact .inr ⟨hyes, _, _, _, _, rfl, H.sub (List.Sublist.cons_cons _ (List.nil_sublist _))⟩

end Go.Proofs.Ytojmagbonbcffaa
