/- The walks. No condition. -/
import Derived.Test.YtojmagbonbcffaaChecked
import Derived.Test.YtojmagbonbcffaaGwMap
import Derived.Test.YtojmagbonbcffaaFacts
import Derived.Test.YtojmagbonbcffaaPlain
import Derived.Test.YtojmagbonbcffaaW3
namespace Go.Proofs.Ytojmagbonbcffaa
open Go Go.Gw
set_option linter.unusedVariables false
set_option linter.unusedSimpArgs false

theorem doorReads {M : Nat → Prop} {u0 w0 : World} {l : List Atom} {b : Nat} {s : DS} {vr vl vp : Value} (h : HSat M u0 (DoorA b s vr vl vp :: l) w0) : HSat No w0 [Atom.ro (Cel b 53 [.int .i64 s.span, .int .i64 s.now, vr, .int .i64 s.total, vl, vp]), Atom.ro (OSl 3 vr 1 encI s.res), Atom.ro (OSl 3 vl 1 encI s.load), Atom.ro (OSl 3 vp 1 encI s.passed)] w0 := by
  have := h.unfold.reads
  rw [List.map_append] at this
  exact this.sub (List.sublist_append_left _ _)
/-- the reference's door in memory; v: the reserves, which it was handed -/
def RDoorL (b : Nat) (v vp : Value) (r : RS) : List Atom := [Cel b 56 [.int .i64 r.span, v, .int .i64 r.total, .int .i64 r.now, vp], OSl 60 vp 3 Past.enc r.past]
def RDoorA (b : Nat) (r : RS) (v vp : Value) : Atom := Bun (RDoorL b v vp r)
theorem rdoorReads {M : Nat → Prop} {u0 w0 : World} {l : List Atom} {b : Nat} {r : RS} {v vp : Value} (h : HSat M u0 (RDoorL b v vp r ++ l) w0) [hs : HasSl l v 1 Int encI r.res] : HSat No w0 [Sl v 1 encI r.res, Atom.ro (Cel b 56 [.int .i64 r.span, v, .int .i64 r.total, .int .i64 r.now, vp]), Atom.ro (OSl 60 vp 3 Past.enc r.past)] w0 := by
  have := h.reads
  rw [List.map_append] at this
  exact (this.sub (List.sublist_append_left _ _)).ro0 (Sl v 1 encI r.res) rfl ((show HSat _ _ l _ from h.tail.tail).sl v)
/-- (*foyer/shed.Door).Passed -/
theorem passed_spec {M : Nat → Prop} {u0 : World} {l : List Atom} (b : Nat) (s : DS) (vr vl vp : Value) (t : Int) (N : Nat) (w0 : World) (h0 : HSat M u0 (DoorA b s vr vl vp :: l) w0) (hw : s.WF N) :
    Ret Try.prog 15 #[.pointer (some ⟨b, 0, none⟩), .int .i64 t] w0 (fun u w => HSat No w0 [OSl 3 u 1 encI (passedL s t)] w) := by
  refine ret_of_wp (n := 47) Try.func15 rfl rfl rfl (fl := [(0, .pointer (some ⟨b, 0, none⟩)), (1, .int .i64 t)]) rfl (fun a S => ?_)
  have H := doorReads h0
  have hsp := hw.span
  have hnw := hw.now
  have hlen := hw.len
  have hlp := hw.lp
  refine wp_seq ?_
  -- region 0 shed.go:76
  refine wp_region_lit ?_
  refine wl_of (op_y (wn rfl) rfl rfl S (y_assign rfl S rfl) fun a S => ?_)
  refine wpList_nil ?_
  refine n_then ?_
  refine wp_seq ?_
  refine wp_block ?_
  refine wp_seq ?_
  -- region 1 shed.go:78
  refine wp_region_lit ?_
  refine wl_of (op_y (wn rfl) rfl rfl S (y_move rfl S rfl) fun a S => ?_)
  refine wl_of (op_y (wn rfl) rfl rfl S (y_eqp rfl Try.underlying25 S rfl rfl) fun a S => ?_)
  refine wl_of (op_y (wn rfl) rfl rfl S (y_move rfl S rfl) fun a S => ?_)
  refine' wl_or 2 8 rfl S H rfl rfl rfl rfl rfl rfl rfl (fun _ S => (wn rfl)) (fun h1 kk => ?yh1) (fun a w S H => ?_)
  case yh1 =>
    have h1p := h1; try simp only [Option.isNone_some, Option.isNone_none, Option.isSome_some, Option.isSome_none, false_or, or_false, true_and, and_true, decide_eq_true_eq, decide_eq_false_iff_not, Bool.or_eq_true, Bool.and_eq_true, Bool.or_eq_false_iff, Bool.and_eq_false_iff, Bool.not_eq_true', Bool.not_eq_false', bne_iff_ne, beq_iff_eq, beq_eq_false_iff_ne, bne_eq_false_iff_eq, ne_eq, Decidable.not_not, Int.not_lt, Int.not_le, gt_iff_lt, ge_iff_le, Bool.true_eq_false, Bool.false_eq_true, not_true_eq_false, not_false_eq_true] at h1p
    refine wl_of (op_y (wg' 8 rfl rfl S rfl h1 rfl) rfl rfl S (y_move rfl S rfl) fun a S => ?_)
    refine wl_of (op_y (wg' 8 rfl rfl S rfl h1 rfl) rfl rfl S (y_bin rfl S rfl rfl rfl) fun a S => ?_)
    refine wl_of (op_y (wn rfl) rfl rfl S (y_or' rfl h1 S rfl rfl) fun a S => ?_)
    exact kk _ _ (S.join 3 11 rfl rfl) H
  refine wl_of (op_y (wn rfl) rfl rfl S (y_move rfl S rfl) fun a S => ?_)
  refine' wl_or 2 12 rfl S H rfl rfl rfl rfl rfl rfl rfl (fun _ S => (wn rfl)) (fun h2 kk => ?yh2) (fun a w S H => ?_)
  case yh2 =>
    have h2p := h2; try simp only [Option.isNone_some, Option.isNone_none, Option.isSome_some, Option.isSome_none, false_or, or_false, true_and, and_true, decide_eq_true_eq, decide_eq_false_iff_not, Bool.or_eq_true, Bool.and_eq_true, Bool.or_eq_false_iff, Bool.and_eq_false_iff, Bool.not_eq_true', Bool.not_eq_false', bne_iff_ne, beq_iff_eq, beq_eq_false_iff_ne, bne_eq_false_iff_eq, ne_eq, Decidable.not_not, Int.not_lt, Int.not_le, gt_iff_lt, ge_iff_le, Bool.true_eq_false, Bool.false_eq_true, not_true_eq_false, not_false_eq_true] at h2p
    refine wl_of (op_y (wg' 12 rfl rfl S rfl h2 rfl) rfl rfl S (y_move rfl S rfl) fun a S => ?_)
    refine wl_of (op_y (wg' 12 rfl rfl S rfl h2 rfl) rfl rfl S (y_bin rfl S rfl rfl rfl) fun a S => ?_)
    refine wl_of (op_y (wn rfl) rfl rfl S (y_or' rfl h2 S rfl rfl) fun a S => ?_)
    exact kk _ _ (S.join 3 15 rfl rfl) H
  refine wl_of (op_y (wn rfl) rfl rfl S (y_assign rfl S rfl) fun a S => ?_)
  refine wpList_nil ?_
  refine n_then ?_
  have S := (((S.nil.cons S 1 rfl).cons S 0 rfl).cons S 4 rfl).cons S 5 rfl
  -- cond 1
  refine c_if S rfl (fun h3 => ?_) (fun h3 => ?_)
  · have h3p := h3; try simp only [Option.isNone_some, Option.isNone_none, Option.isSome_some, Option.isSome_none, false_or, or_false, true_and, and_true, decide_eq_true_eq, decide_eq_false_iff_not, Bool.or_eq_true, Bool.and_eq_true, Bool.or_eq_false_iff, Bool.and_eq_false_iff, Bool.not_eq_true', Bool.not_eq_false', bne_iff_ne, beq_iff_eq, beq_eq_false_iff_ne, bne_eq_false_iff_eq, ne_eq, Decidable.not_not, Int.not_lt, Int.not_le, gt_iff_lt, ge_iff_le, Bool.true_eq_false, Bool.false_eq_true, not_true_eq_false, not_false_eq_true] at h3p
    have hok : okTime t = false := by simp only [okTime, Bool.and_eq_false_iff, decide_eq_false_iff_not]; omega
    refine wp_seq ?_
    -- region 2 shed.go:79
    refine wp_region_lit ?_
    refine wl_of (op_y (wn rfl) rfl rfl S (y_assign rfl S rfl) fun a S => ?_)
    refine wpList_nil ?_
    refine n_then ?_
    refine wp_ret ?_
    refine r_block (r_then (ret1 rfl S rfl ?_))
    rw [passedL, if_neg (by rw [hok]; simp)]; exact (H.nilO 3 1 encI).take [_]
  · have h3p := h3; try simp only [Option.isNone_some, Option.isNone_none, Option.isSome_some, Option.isSome_none, false_or, or_false, true_and, and_true, decide_eq_true_eq, decide_eq_false_iff_not, Bool.or_eq_true, Bool.and_eq_true, Bool.or_eq_false_iff, Bool.and_eq_false_iff, Bool.not_eq_true', Bool.not_eq_false', bne_iff_ne, beq_iff_eq, beq_eq_false_iff_ne, bne_eq_false_iff_eq, ne_eq, Decidable.not_not, Int.not_lt, Int.not_le, gt_iff_lt, ge_iff_le, Bool.true_eq_false, Bool.false_eq_true, not_true_eq_false, not_false_eq_true] at h3p
    have hok : okTime t = true := by simp only [okTime, Bool.and_eq_true, decide_eq_true_eq]; omega
    have hti : 0 ≤ t ∧ t ≤ 1000000000 := by omega
    refine wp_seq ?_
    -- region 3 DRAWS shed.go:80
    refine region_st (loud := []) (tails := []) (free := []) [0, 1, 2, 3, 4, 5, 6, 7, 8, 9, 10, 11, 12, 13, 14, 15, 16, 17, 18, 19] [] Fmo (by kernel_rfl) (by kernel_rfl) rfl H ?_
    refine m_w rfl rfl (wn rfl) rfl rfl S (fun w H => y_move rfl S rfl) fun a S => ?_
    refine m_w rfl rfl (wn rfl) rfl rfl S (fun w H => y_move rfl S rfl) fun a S => ?_
    refine m_w rfl rfl (wn rfl) rfl rfl S (fun w H => y_nilCheck rfl S rfl) fun a S => ?_
    refine m_w rfl rfl (wn rfl) rfl rfl S (fun w H => y_faddrb rfl Ffo53_0 S rfl) fun a S => ?_
    refine m_w rfl rfl (wn rfl) rfl rfl S (fun w H => y_faddrb rfl Ffo50_0 S rfl) fun a S => ?_
    refine m_w rfl rfl (wn rfl) rfl rfl S (fun w H => y_load rfl Fsca3 S H rfl rfl) fun a S => ?_
    refine m_w rfl rfl (wn rfl) rfl rfl S (fun w H => y_quon rfl S rfl rfl (by omega) (by omega) (by omega)) fun a S => ?_
    refine m_w rfl rfl (wn rfl) rfl rfl S (fun w H => y_move rfl S rfl) fun a S => ?_
    refine m_w rfl rfl (wn rfl) rfl rfl S (fun w H => y_nilCheck rfl S rfl) fun a S => ?_
    refine m_w rfl rfl (wn rfl) rfl rfl S (fun w H => y_faddrb rfl Ffo53_0 S rfl) fun a S => ?_
    refine m_w rfl rfl (wn rfl) rfl rfl S (fun w H => y_faddrb rfl Ffo50_1 S rfl) fun a S => ?_
    refine m_w rfl rfl (wn rfl) rfl rfl S (fun w H => y_load rfl Fsca3 S H rfl rfl) fun a S => ?_
    refine m_w rfl rfl (wn rfl) rfl rfl S (fun w H => y_move rfl S rfl) fun a S => ?_
    refine m_w rfl rfl (wn rfl) rfl rfl S (fun w H => y_nilCheck rfl S rfl) fun a S => ?_
    refine m_w rfl rfl (wn rfl) rfl rfl S (fun w H => y_faddrb rfl Ffo53_0 S rfl) fun a S => ?_
    refine m_w rfl rfl (wn rfl) rfl rfl S (fun w H => y_faddrb rfl Ffo50_0 S rfl) fun a S => ?_
    refine m_w rfl rfl (wn rfl) rfl rfl S (fun w H => y_load rfl Fsca3 S H rfl rfl) fun a S => ?_
    refine m_w rfl rfl (wn rfl) rfl rfl S (fun w H => y_quon rfl S rfl rfl (by omega) (by omega) (by omega)) fun a S => ?_
    refine m_w rfl rfl (wn rfl) rfl rfl S (fun w H => y_bin rfl S rfl rfl rfl) fun a S => ?_
    refine m_w rfl rfl (wn rfl) rfl rfl S (fun w H => y_assign rfl S rfl) fun a S => ?_
    refine m_nil (fun w H => ?_)
    refine n_then ?_
    have S := ((S.nil.cons S 0 rfl).cons S 4 rfl).cons S 16 rfl
    -- cond 2
    refine c_if S rfl (fun h4 => ?_) (fun h4 => ?_)
    · have h4p := h4; try simp only [Option.isNone_some, Option.isNone_none, Option.isSome_some, Option.isSome_none, false_or, or_false, true_and, and_true, decide_eq_true_eq, decide_eq_false_iff_not, Bool.or_eq_true, Bool.and_eq_true, Bool.or_eq_false_iff, Bool.and_eq_false_iff, Bool.not_eq_true', Bool.not_eq_false', bne_iff_ne, beq_iff_eq, beq_eq_false_iff_ne, bne_eq_false_iff_eq, ne_eq, Decidable.not_not, Int.not_lt, Int.not_le, gt_iff_lt, ge_iff_le, Bool.true_eq_false, Bool.false_eq_true, not_true_eq_false, not_false_eq_true] at h4p
      refine wp_seq ?_
      -- region 4 shed.go:81
      refine wp_region_lit ?_
      refine wl_of (op_y (wn rfl) rfl rfl S (y_move rfl S rfl) fun a S => ?_)
      refine wl_of (op_y (wn rfl) rfl rfl S (y_nilCheck rfl S rfl) fun a S => ?_)
      refine wl_of (op_y (wn rfl) rfl rfl S (y_faddrb rfl Ffo53_1 S rfl) fun a S => ?_)
      refine wl_of (op_y (wn rfl) rfl rfl S (y_load rfl Fsca22 S H rfl rfl) fun a S => ?_)
      refine wl_of (op_y (wn rfl) rfl rfl S (y_lens rfl Try.underlying22 S H rfl) fun a S => ?_)
      refine wl_of (op_make (encI) (0) (wn rfl) rfl rfl rfl Try.underlying22 Finf3 rfl rfl S H rfl rfl rfl (by omega) (by omega) fun b41 a w S H => ?_)
      refine wl_of (op_y (wn rfl) rfl rfl S (y_assign rfl S rfl) fun a S => ?_)
      refine wpList_nil ?_
      refine n_then ?_
      have S := (S.nil.cons S 0 rfl).cons S 4 rfl
      refine wp_ret ?_
      refine r_block (r_then (ret1 rfl S rfl ?_))
      rw [passedL, if_pos hok, if_neg (by simpa using h4)]; exact H.take [_]
    · have h4p := h4; try simp only [Option.isNone_some, Option.isNone_none, Option.isSome_some, Option.isSome_none, false_or, or_false, true_and, and_true, decide_eq_true_eq, decide_eq_false_iff_not, Bool.or_eq_true, Bool.and_eq_true, Bool.or_eq_false_iff, Bool.and_eq_false_iff, Bool.not_eq_true', Bool.not_eq_false', bne_iff_ne, beq_iff_eq, beq_eq_false_iff_ne, bne_eq_false_iff_eq, ne_eq, Decidable.not_not, Int.not_lt, Int.not_le, gt_iff_lt, ge_iff_le, Bool.true_eq_false, Bool.false_eq_true, not_true_eq_false, not_false_eq_true] at h4p
      refine wp_skip ?_
      refine n_block ?_
      refine n_then ?_
      refine wp_seq ?_
      -- region 5 shed.go:83
      refine wp_region_lit ?_
      refine wl_of (op_y (wn rfl) rfl rfl S (y_move rfl S rfl) fun a S => ?_)
      refine wl_of (op_y (wn rfl) rfl rfl S (y_nilCheck rfl S rfl) fun a S => ?_)
      refine wl_of (op_y (wn rfl) rfl rfl S (y_faddrb rfl Ffo53_4 S rfl) fun a S => ?_)
      refine wl_of (op_y (wn rfl) rfl rfl S (y_load rfl Fsca22 S H rfl rfl) fun a S => ?_)
      refine wl_of (op_call (wn rfl) rfl rfl S (co_func rfl Try.call22 S rfl) (clone_spec _ s.passed _ (H.sl _) (by intro e; rw [e] at hlp; simp at hlp; omega) (by omega)) fun u w hc a S => ?_)
      have H1 := hc
      have H := H.call1 H1 rfl
      refine wl_of (op_y (wn rfl) rfl rfl S (y_assign rfl S rfl) fun a S => ?_)
      refine wpList_nil ?_
      refine n_then ?_
      have S := S.nil.cons S 4 rfl
      refine wp_ret ?_
      refine ret1 rfl S rfl ?_
      rw [passedL, if_pos hok, if_pos (by simpa using h4)]; exact H.take [_]
/-- (*foyer/shed.Door).Passed -/
theorem passed_nil (t : Int) (w0 : World) :
    Ret Try.prog 15 #[.pointer none, .int .i64 t] w0 (fun u w => HSat No w0 [OSl 3 u 1 encI []] w) := by
  refine ret_of_wp (n := 47) Try.func15 rfl rfl rfl (fl := [(0, .pointer none), (1, .int .i64 t)]) rfl (fun a S => ?_)
  have H := HSat.start w0
  refine wp_seq ?_
  -- region 0 shed.go:76
  refine wp_region_lit ?_
  refine wl_of (op_y (wn rfl) rfl rfl S (y_assign rfl S rfl) fun a S => ?_)
  refine wpList_nil ?_
  refine n_then ?_
  refine wp_seq ?_
  refine wp_block ?_
  refine wp_seq ?_
  -- region 1 shed.go:78
  refine wp_region_lit ?_
  refine wl_of (op_y (wn rfl) rfl rfl S (y_move rfl S rfl) fun a S => ?_)
  refine wl_of (op_y (wn rfl) rfl rfl S (y_eqp rfl Try.underlying25 S rfl rfl) fun a S => ?_)
  refine wl_of (op_y (wn rfl) rfl rfl S (y_move rfl S rfl) fun a S => ?_)
  refine' wl_or (B2 := false) 2 8 rfl S H rfl rfl rfl rfl rfl rfl rfl (fun _ S => (wn rfl)) (fun h1 kk => ?yh1) (fun a w S H => ?_)
  case yh1 => exact absurd h1 (by simp)
  refine wl_of (op_y (wn rfl) rfl rfl S (y_move rfl S rfl) fun a S => ?_)
  refine' wl_or (B2 := false) 2 12 rfl S H rfl rfl rfl rfl rfl rfl rfl (fun _ S => (wn rfl)) (fun h2 kk => ?yh2) (fun a w S H => ?_)
  case yh2 => exact absurd h2 (by simp)
  refine wl_of (op_y (wn rfl) rfl rfl S (y_assign rfl S rfl) fun a S => ?_)
  refine wpList_nil ?_
  refine n_then ?_
  have S := (((S.nil.cons S 1 rfl).cons S 0 rfl).cons S 4 rfl).cons S 5 rfl
  -- cond 1
  refine c_if S rfl (fun h3 => ?_) (fun h3 => ?_)
  · have h3p := h3; try simp only [Option.isNone_some, Option.isNone_none, Option.isSome_some, Option.isSome_none, false_or, or_false, true_and, and_true, decide_eq_true_eq, decide_eq_false_iff_not, Bool.or_eq_true, Bool.and_eq_true, Bool.or_eq_false_iff, Bool.and_eq_false_iff, Bool.not_eq_true', Bool.not_eq_false', bne_iff_ne, beq_iff_eq, beq_eq_false_iff_ne, bne_eq_false_iff_eq, ne_eq, Decidable.not_not, Int.not_lt, Int.not_le, gt_iff_lt, ge_iff_le, Bool.true_eq_false, Bool.false_eq_true, not_true_eq_false, not_false_eq_true] at h3p
    refine wp_seq ?_
    -- region 2 shed.go:79
    refine wp_region_lit ?_
    refine wl_of (op_y (wn rfl) rfl rfl S (y_assign rfl S rfl) fun a S => ?_)
    refine wpList_nil ?_
    refine n_then ?_
    refine wp_ret ?_
    refine r_block (r_then (ret1 rfl S rfl ?_))
    exact (H.nilO 3 1 encI).take [_]
  · have h3p := h3; try simp only [Option.isNone_some, Option.isNone_none, Option.isSome_some, Option.isSome_none, false_or, or_false, true_and, and_true, decide_eq_true_eq, decide_eq_false_iff_not, Bool.or_eq_true, Bool.and_eq_true, Bool.or_eq_false_iff, Bool.and_eq_false_iff, Bool.not_eq_true', Bool.not_eq_false', bne_iff_ne, beq_iff_eq, beq_eq_false_iff_ne, bne_eq_false_iff_eq, ne_eq, Decidable.not_not, Int.not_lt, Int.not_le, gt_iff_lt, ge_iff_le, Bool.true_eq_false, Bool.false_eq_true, not_true_eq_false, not_false_eq_true] at h3p
    all_goals (
      exact absurd h3 (by simp))
/-- (*foyer/shed.Door).Offer -/
theorem offer_nil (c k t : Int) (w0 : World) :
    Ret Try.prog 12 #[.pointer none, .int .i64 c, .int .i64 k, .int .i64 t] w0 (fun u w => u = .bool false ∧ Ext w0 w) := by
  refine ret_of_wp (n := 123) Try.func12 rfl rfl rfl (fl := [(0, .pointer none), (1, .int .i64 c), (2, .int .i64 k), (3, .int .i64 t)]) rfl (fun a S => ?_)
  have H := HSat.start w0
  refine wp_seq ?_
  -- region 0 shed.go:50
  refine wp_region_lit ?_
  refine wl_of (op_y (wn rfl) rfl rfl S (y_assign rfl S rfl) fun a S => ?_)
  refine wpList_nil ?_
  refine n_then ?_
  refine wp_seq ?_
  refine wp_seq ?_
  -- region 1 shed.go:51
  refine wp_region_lit ?_
  refine wl_of (op_y (wn rfl) rfl rfl S (y_move rfl S rfl) fun a S => ?_)
  refine wl_of (op_y (wn rfl) rfl rfl S (y_eqp rfl Try.underlying25 S rfl rfl) fun a S => ?_)
  refine wl_of (op_y (wn rfl) rfl rfl S (y_move rfl S rfl) fun a S => ?_)
  refine' wl_or (B2 := false) 2 14 rfl S H rfl rfl rfl rfl rfl rfl rfl (fun _ S => (wn rfl)) (fun h1 kk => ?yh1) (fun a w S H => ?_)
  case yh1 => exact absurd h1 (by simp)
  refine wl_of (op_y (wn rfl) rfl rfl S (y_move rfl S rfl) fun a S => ?_)
  refine' wl_or (B2 := false) 2 18 rfl S H rfl rfl rfl rfl rfl rfl rfl (fun _ S => (wn rfl)) (fun h2 kk => ?yh2) (fun a w S H => ?_)
  case yh2 => exact absurd h2 (by simp)
  refine wpList_nil ?_
  refine n_then ?_
  have S := (((((S.nil.cons S 3 rfl).cons S 2 rfl).cons S 1 rfl).cons S 0 rfl).cons S 8 rfl).cons S 21 rfl
  -- cond 1
  refine c_if S rfl (fun h3 => ?_) (fun h3 => ?_)
  · have h3p := h3; try simp only [Option.isNone_some, Option.isNone_none, Option.isSome_some, Option.isSome_none, false_or, or_false, true_and, and_true, decide_eq_true_eq, decide_eq_false_iff_not, Bool.or_eq_true, Bool.and_eq_true, Bool.or_eq_false_iff, Bool.and_eq_false_iff, Bool.not_eq_true', Bool.not_eq_false', bne_iff_ne, beq_iff_eq, beq_eq_false_iff_ne, bne_eq_false_iff_eq, ne_eq, Decidable.not_not, Int.not_lt, Int.not_le, gt_iff_lt, ge_iff_le, Bool.true_eq_false, Bool.false_eq_true, not_true_eq_false, not_false_eq_true] at h3p
    refine wp_seq ?_
    -- region 2 shed.go:52
    refine wp_region_lit ?_
    refine wl_of (op_y (wn rfl) rfl rfl S (y_assign rfl S rfl) fun a S => ?_)
    refine wpList_nil ?_
    refine n_then ?_
    refine wp_ret ?_
    refine r_then (ret1 rfl S rfl ?_)
    exact ⟨rfl, H.toExt⟩
  · have h3p := h3; try simp only [Option.isNone_some, Option.isNone_none, Option.isSome_some, Option.isSome_none, false_or, or_false, true_and, and_true, decide_eq_true_eq, decide_eq_false_iff_not, Bool.or_eq_true, Bool.and_eq_true, Bool.or_eq_false_iff, Bool.and_eq_false_iff, Bool.not_eq_true', Bool.not_eq_false', bne_iff_ne, beq_iff_eq, beq_eq_false_iff_ne, bne_eq_false_iff_eq, ne_eq, Decidable.not_not, Int.not_lt, Int.not_le, gt_iff_lt, ge_iff_le, Bool.true_eq_false, Bool.false_eq_true, not_true_eq_false, not_false_eq_true] at h3p
    all_goals (
      exact absurd h3 (by simp))

end Go.Proofs.Ytojmagbonbcffaa
