/- The walks. No condition. -/
import Derived.Test.YtojmagbonbcffaaChecked
import Derived.Test.YtojmagbonbcffaaGwMap
import Derived.Test.YtojmagbonbcffaaFacts
import Derived.Test.YtojmagbonbcffaaPlain
import Derived.Test.YtojmagbonbcffaaW6
namespace Go.Proofs.Ytojmagbonbcffaa
open Go Go.Gw
set_option linter.unusedVariables false
set_option linter.unusedSimpArgs false

theorem new_ok (sp tot : Int) (v : Value) (rs : List Int) (w0 : World) (hv : IsSl w0 v 1 encI rs) (h : newOK sp rs tot = true) :
    Ret Try.prog 10 #[.int .i64 sp, v, .int .i64 tot] w0 (fun u w => ∃ b vr vl vp, u = .tuple #[.pointer (some ⟨b, 0, none⟩), .int .i64 0] ∧ HSat No w0 [DoorA b (newDS sp rs tot) vr vl vp] w) :=
  (new_spec sp tot v rs w0 hv).mono fun u w hh => by
    rcases hh with ⟨h1, _⟩ | ⟨_, hh⟩
    · rw [h] at h1; cases h1
    · exact hh
theorem new_bad (sp tot : Int) (v : Value) (rs : List Int) (w0 : World) (hv : IsSl w0 v 1 encI rs) (h : newOK sp rs tot = false) :
    Ret Try.prog 10 #[.int .i64 sp, v, .int .i64 tot] w0 (fun u w => u = .tuple #[.pointer none, .int .i64 1] ∧ Ext w0 w) :=
  (new_spec sp tot v rs w0 hv).mono fun u w hh => by
    rcases hh with ⟨_, hh⟩ | ⟨h1, _⟩
    · exact hh
    · rw [h] at h1; cases h1
theorem rnew_ok (sp tot : Int) (v : Value) (rs : List Int) (w0 : World) (hv : IsSl w0 v 1 encI rs) (h : newOK sp rs tot = true) :
    Ret Try.prog 11 #[.int .i64 sp, v, .int .i64 tot] w0 (fun u w => ∃ b, u = .tuple #[.pointer (some ⟨b, 0, none⟩), .int .i64 0] ∧ HSat No w0 [RDoorA b (newRS sp rs tot) v (.slice none 0 0)] w) :=
  (rnew_spec sp tot v rs w0 hv).mono fun u w hh => by
    rcases hh with ⟨h1, _⟩ | ⟨_, hh⟩
    · rw [h] at h1; cases h1
    · exact hh
theorem rnew_bad (sp tot : Int) (v : Value) (rs : List Int) (w0 : World) (hv : IsSl w0 v 1 encI rs) (h : newOK sp rs tot = false) :
    Ret Try.prog 11 #[.int .i64 sp, v, .int .i64 tot] w0 (fun u w => u = .tuple #[.pointer none, .int .i64 1] ∧ Ext w0 w) :=
  (rnew_spec sp tot v rs w0 hv).mono fun u w hh => by
    rcases hh with ⟨_, hh⟩ | ⟨h1, _⟩
    · exact hh
    · rw [h] at h1; cases h1
set_option maxHeartbeats 1000000 in
/-- foyer/foyerlaw49.head -/
theorem head_spec (w0 : World) :
    Ret Try.prog 9 #[] w0 (fun v w => v = .bool true ∧ Ext w0 w) := by
  refine ret_of_wp (n := 91) Try.func9 rfl rfl rfl (fl := []) rfl (fun a S => ?_)
  have H := HSat.start w0
  refine wp_seq ?_
  -- region 0 law.go:17
  refine wp_region_lit ?_
  refine wl_of (op_y (wn rfl) rfl rfl S (y_assign rfl S rfl) fun a S => ?_)
  refine wpList_nil ?_
  refine n_then ?_
  refine wp_seq ?_
  -- region 1 law.go:18
  refine wp_region_lit ?_
  refine wl_of (op_buildSlice (wn rfl) rfl rfl rfl Try.underlying22 Finf3 S H (idx := [0, 1]) rfl rfl rfl (z := [.int .i64 0, .int .i64 0]) (by kernel_rfl) (cs := [_, _]) rfl fun b15 a w S H => ?_)
  refine wl_of (op_call (wn rfl) rfl rfl S (co_func rfl Try.call10 S rfl) (new_ok 10 4 _ [1, 2] _ (H.slb b15 _ encI 1 rfl rfl (by simp [encI]) (by decide)) (by decide)) fun v w hc a S => ?_)
  obtain ⟨b1, vr, vl, vp, rfl, H1⟩ := hc
  have H := H.call1 H1 rfl
  refine wl_of (op_y (wn rfl) rfl rfl S (y_move rfl S rfl) fun a S => ?_)
  refine wl_of (op_y (wn rfl) rfl rfl S (y_extract rfl S rfl rfl) fun a S => ?_)
  refine wl_of (op_y (wn rfl) rfl rfl S (y_extract rfl S rfl rfl) fun a S => ?_)
  refine wl_of (op_y (wn rfl) rfl rfl S (y_assign rfl S rfl) fun a S => ?_)
  refine wl_of (op_y (wn rfl) rfl rfl S (y_assign rfl S rfl) fun a S => ?_)
  refine wpList_nil ?_
  refine n_then ?_
  have S := ((S.nil.cons S 0 rfl).cons S 1 rfl).cons S 2 rfl
  refine wp_seq ?_
  -- region 2 law.go:19
  refine wp_region_lit ?_
  refine wl_of (op_y (wn rfl) rfl rfl S (y_move rfl S rfl) fun a S => ?_)
  refine wl_of (op_call (wn rfl) rfl rfl S (co_func rfl Try.call12 S rfl) (Ret.at_ (x := DoorA b1 (newDS 10 [1, 2] 4) vr vl vp) H (fun H => offer_spec b1 _ vr vl vp 0 0 0 0 _ H (new_wf (by decide)) (by omega))) fun v w hc a S => ?_)
  obtain ⟨rfl, H⟩ := hc
  
  refine wl_of (op_y (wn rfl) rfl rfl S (y_move rfl S rfl) fun a S => ?_)
  refine wl_of (op_call (wn rfl) rfl rfl S (co_func rfl Try.call12 S rfl) (Ret.at_ (x := DoorA b1 (offer (newDS 10 [1, 2] 4) 0 0 0).2 vr vl vp) H (fun H => offer_spec b1 _ vr vl vp 0 0 0 1 _ H (offer_wf (new_wf (by decide)) 0 0 0) (by omega))) fun v w hc a S => ?_)
  obtain ⟨rfl, H⟩ := hc
  
  refine wl_of (op_y (wn rfl) rfl rfl S (y_move rfl S rfl) fun a S => ?_)
  refine wl_of (op_call (wn rfl) rfl rfl S (co_func rfl Try.call12 S rfl) (Ret.at_ (x := DoorA b1 (offer (offer (newDS 10 [1, 2] 4) 0 0 0).2 0 0 0).2 vr vl vp) H (fun H => offer_spec b1 _ vr vl vp 0 0 0 2 _ H (offer_wf (offer_wf (new_wf (by decide)) 0 0 0) 0 0 0) (by omega))) fun v w hc a S => ?_)
  obtain ⟨rfl, H⟩ := hc
  
  refine wl_of (op_y (wn rfl) rfl rfl S (y_assign rfl S rfl) fun a S => ?_)
  refine wl_of (op_y (wn rfl) rfl rfl S (y_assign rfl S rfl) fun a S => ?_)
  refine wl_of (op_y (wn rfl) rfl rfl S (y_assign rfl S rfl) fun a S => ?_)
  refine wpList_nil ?_
  refine n_then ?_
  have S := (((((S.nil.cons S 0 rfl).cons S 1 rfl).cons S 2 rfl).cons S 3 rfl).cons S 4 rfl).cons S 5 rfl
  refine wp_seq ?_
  -- region 3 law.go:20
  refine wp_region_lit ?_
  refine wl_of (op_y (wn rfl) rfl rfl S (y_move rfl S rfl) fun a S => ?_)
  refine wl_of (op_call (wn rfl) rfl rfl S (co_func rfl Try.call12 S rfl) (Ret.at_ (x := DoorA b1 (offer (offer (offer (newDS 10 [1, 2] 4) 0 0 0).2 0 0 0).2 0 0 0).2 vr vl vp) H (fun H => offer_spec b1 _ vr vl vp 1 0 0 3 _ H (offer_wf (offer_wf (offer_wf (new_wf (by decide)) 0 0 0) 0 0 0) 0 0 0) (by omega))) fun v w hc a S => ?_)
  obtain ⟨rfl, H⟩ := hc
  
  refine wl_of (op_y (wn rfl) rfl rfl S (y_move rfl S rfl) fun a S => ?_)
  refine wl_of (op_call (wn rfl) rfl rfl S (co_func rfl Try.call12 S rfl) (Ret.at_ (x := DoorA b1 (offer (offer (offer (offer (newDS 10 [1, 2] 4) 0 0 0).2 0 0 0).2 0 0 0).2 1 0 0).2 vr vl vp) H (fun H => offer_spec b1 _ vr vl vp 1 0 0 4 _ H (offer_wf (offer_wf (offer_wf (offer_wf (new_wf (by decide)) 0 0 0) 0 0 0) 0 0 0) 1 0 0) (by omega))) fun v w hc a S => ?_)
  obtain ⟨rfl, H⟩ := hc
  
  refine wl_of (op_y (wn rfl) rfl rfl S (y_move rfl S rfl) fun a S => ?_)
  refine wl_of (op_call (wn rfl) rfl rfl S (co_func rfl Try.call12 S rfl) (Ret.at_ (x := DoorA b1 (offer (offer (offer (offer (offer (newDS 10 [1, 2] 4) 0 0 0).2 0 0 0).2 0 0 0).2 1 0 0).2 1 0 0).2 vr vl vp) H (fun H => offer_spec b1 _ vr vl vp 1 0 0 5 _ H (offer_wf (offer_wf (offer_wf (offer_wf (offer_wf (new_wf (by decide)) 0 0 0) 0 0 0) 0 0 0) 1 0 0) 1 0 0) (by omega))) fun v w hc a S => ?_)
  obtain ⟨rfl, H⟩ := hc
  
  refine wl_of (op_y (wn rfl) rfl rfl S (y_assign rfl S rfl) fun a S => ?_)
  refine wl_of (op_y (wn rfl) rfl rfl S (y_assign rfl S rfl) fun a S => ?_)
  refine wl_of (op_y (wn rfl) rfl rfl S (y_assign rfl S rfl) fun a S => ?_)
  refine wpList_nil ?_
  refine n_then ?_
  have S := ((((((((S.nil.cons S 0 rfl).cons S 1 rfl).cons S 2 rfl).cons S 3 rfl).cons S 4 rfl).cons S 5 rfl).cons S 6 rfl).cons S 7 rfl).cons S 8 rfl
  refine wp_seq ?_
  -- region 4 law.go:21
  refine wp_region_lit ?_
  refine wl_of (op_y (wn rfl) rfl rfl S (y_move rfl S rfl) fun a S => ?_)
  refine wl_of (op_call (wn rfl) rfl rfl S (co_func rfl Try.call12 S rfl) (Ret.at_ (x := DoorA b1 (offer (offer (offer (offer (offer (offer (newDS 10 [1, 2] 4) 0 0 0).2 0 0 0).2 0 0 0).2 1 0 0).2 1 0 0).2 1 0 0).2 vr vl vp) H (fun H => offer_spec b1 _ vr vl vp 0 10001 0 6 _ H (offer_wf (offer_wf (offer_wf (offer_wf (offer_wf (offer_wf (new_wf (by decide)) 0 0 0) 0 0 0) 0 0 0) 1 0 0) 1 0 0) 1 0 0) (by omega))) fun v w hc a S => ?_)
  obtain ⟨rfl, H⟩ := hc
  
  refine wl_of (op_y (wn rfl) rfl rfl S (y_assign rfl S rfl) fun a S => ?_)
  refine wpList_nil ?_
  refine n_then ?_
  refine wp_seq ?_
  -- region 5 law.go:22
  refine wp_region_lit ?_
  refine wl_of (op_y (wn rfl) rfl rfl S (y_move rfl S rfl) fun a S => ?_)
  refine wl_of (op_call (wn rfl) rfl rfl S (co_func rfl Try.call15 S rfl) (passed_spec b1 (offer (offer (offer (offer (offer (offer (offer (newDS 10 [1, 2] 4) 0 0 0).2 0 0 0).2 0 0 0).2 1 0 0).2 1 0 0).2 1 0 0).2 0 10001 0).2 vr vl vp 9 7 w (H.perm (HasA.to_ (x := DoorA b1 (offer (offer (offer (offer (offer (offer (offer (newDS 10 [1, 2] 4) 0 0 0).2 0 0 0).2 0 0 0).2 1 0 0).2 1 0 0).2 1 0 0).2 0 10001 0).2 vr vl vp))) (offer_wf (offer_wf (offer_wf (offer_wf (offer_wf (offer_wf (offer_wf (new_wf (by decide)) 0 0 0) 0 0 0) 0 0 0) 1 0 0) 1 0 0) 1 0 0) 0 10001 0)) fun u34 w hc a S => ?_)
  have H1 := hc
  have H := H.call1 H1 rfl
  refine wl_of (op_y (wn rfl) rfl rfl S (y_assign rfl S rfl) fun a S => ?_)
  refine wpList_nil ?_
  refine n_then ?_
  have S := ((((((((((S.nil.cons S 0 rfl).cons S 1 rfl).cons S 2 rfl).cons S 3 rfl).cons S 4 rfl).cons S 5 rfl).cons S 6 rfl).cons S 7 rfl).cons S 8 rfl).cons S 9 rfl).cons S 10 rfl
  refine wp_seq ?_
  -- region 6 law.go:23
  refine wp_region_lit ?_
  refine wl_of (op_y (wn rfl) rfl rfl S (y_move rfl S rfl) fun a S => ?_)
  refine wl_of (op_call (wn rfl) rfl rfl S (co_func rfl Try.call12 S rfl) (Ret.at_ (x := DoorA b1 (offer (offer (offer (offer (offer (offer (offer (newDS 10 [1, 2] 4) 0 0 0).2 0 0 0).2 0 0 0).2 1 0 0).2 1 0 0).2 1 0 0).2 0 10001 0).2 vr vl vp) H (fun H => offer_spec b1 _ vr vl vp 0 0 10 7 _ H (offer_wf (offer_wf (offer_wf (offer_wf (offer_wf (offer_wf (offer_wf (new_wf (by decide)) 0 0 0) 0 0 0) 0 0 0) 1 0 0) 1 0 0) 1 0 0) 0 10001 0) (by omega))) fun v w hc a S => ?_)
  obtain ⟨rfl, H⟩ := hc
  
  refine wl_of (op_y (wn rfl) rfl rfl S (y_assign rfl S rfl) fun a S => ?_)
  refine wpList_nil ?_
  refine n_then ?_
  refine wp_seq ?_
  -- region 7 law.go:24
  refine wp_region_lit ?_
  refine wl_of (op_buildSlice (wn rfl) rfl rfl rfl Try.underlying22 Finf3 S H (idx := [0, 1]) rfl rfl rfl (z := [.int .i64 0, .int .i64 0]) (by kernel_rfl) (cs := [_, _]) rfl fun b38 a w S H => ?_)
  refine wl_of (op_call (wn rfl) rfl rfl S (co_func rfl Try.call10 S rfl) (new_bad 10 4 _ [3, 2] _ (H.slb b38 _ encI 1 rfl rfl (by simp [encI]) (by decide)) (by decide)) fun v w hc a S => ?_)
  obtain ⟨rfl, he⟩ := hc
  have H := H.ext he
  refine wl_of (op_y (wn rfl) rfl rfl S (y_move rfl S rfl) fun a S => ?_)
  refine wl_of (op_y (wn rfl) rfl rfl S (y_extract rfl S rfl rfl) fun a S => ?_)
  refine wl_of (op_y (wn rfl) rfl rfl S (y_extract rfl S rfl rfl) fun a S => ?_)
  refine wl_of (op_y (wn rfl) rfl rfl S (y_assign rfl S rfl) fun a S => ?_)
  refine wl_of (op_y (wn rfl) rfl rfl S (y_assign rfl S rfl) fun a S => ?_)
  refine wpList_nil ?_
  refine n_then ?_
  have S := ((((((((((((S.nil.cons S 0 rfl).cons S 1 rfl).cons S 2 rfl).cons S 3 rfl).cons S 4 rfl).cons S 5 rfl).cons S 6 rfl).cons S 7 rfl).cons S 8 rfl).cons S 9 rfl).cons S 10 rfl).cons S 11 rfl).cons S 13 rfl
  refine wp_seq ?_
  -- region 8 law.go:25
  refine wp_region_lit ?_
  refine wl_of (op_y (wn rfl) rfl rfl S (y_move rfl S rfl) fun a S => ?_)
  refine wl_of (op_y (wn rfl) rfl rfl S (y_bin rfl S rfl rfl rfl) fun a S => ?_)
  refine wl_of (op_y (wn rfl) rfl rfl S (y_move rfl S rfl) fun a S => ?_)
  refine' wl_and 1 44 rfl S H rfl rfl rfl rfl rfl rfl rfl (fun _ S => (wn rfl)) (fun h1 kk => ?yh1) (fun a w S H => ?_)
  case yh1 =>
    have h1p := h1; try simp only [Option.isNone_some, Option.isNone_none, Option.isSome_some, Option.isSome_none, false_or, or_false, true_and, and_true, decide_eq_true_eq, decide_eq_false_iff_not, Bool.or_eq_true, Bool.and_eq_true, Bool.or_eq_false_iff, Bool.and_eq_false_iff, Bool.not_eq_true', Bool.not_eq_false', bne_iff_ne, beq_iff_eq, beq_eq_false_iff_ne, bne_eq_false_iff_eq, ne_eq, Decidable.not_not, Int.not_lt, Int.not_le, gt_iff_lt, ge_iff_le, Bool.true_eq_false, Bool.false_eq_true, not_true_eq_false, not_false_eq_true] at h1p
    refine wl_of (op_y (wg' 44 rfl rfl S rfl h1 rfl) rfl rfl S (y_move rfl S rfl) fun a S => ?_)
    refine wl_of (op_y (wn rfl) rfl rfl S (y_and' rfl h1 S rfl rfl) fun a S => ?_)
    exact kk _ _ (S.join 2 46 rfl rfl) H
  refine wl_of (op_y (wn rfl) rfl rfl S (y_move rfl S rfl) fun a S => ?_)
  refine' wl_and 1 47 rfl S H rfl rfl rfl rfl rfl rfl rfl (fun _ S => (wn rfl)) (fun h2 kk => ?yh2) (fun a w S H => ?_)
  case yh2 =>
    have h2p := h2; try simp only [Option.isNone_some, Option.isNone_none, Option.isSome_some, Option.isSome_none, false_or, or_false, true_and, and_true, decide_eq_true_eq, decide_eq_false_iff_not, Bool.or_eq_true, Bool.and_eq_true, Bool.or_eq_false_iff, Bool.and_eq_false_iff, Bool.not_eq_true', Bool.not_eq_false', bne_iff_ne, beq_iff_eq, beq_eq_false_iff_ne, bne_eq_false_iff_eq, ne_eq, Decidable.not_not, Int.not_lt, Int.not_le, gt_iff_lt, ge_iff_le, Bool.true_eq_false, Bool.false_eq_true, not_true_eq_false, not_false_eq_true] at h2p
    refine wl_of (op_y (wg' 47 rfl rfl S rfl h2 rfl) rfl rfl S (y_move rfl S rfl) fun a S => ?_)
    refine wl_of (op_y (wn rfl) rfl rfl S (y_and' rfl h2 S rfl rfl) fun a S => ?_)
    exact kk _ _ (S.join 2 49 rfl rfl) H
  refine wl_of (op_y (wn rfl) rfl rfl S (y_move rfl S rfl) fun a S => ?_)
  refine' wl_and 2 50 rfl S H rfl rfl rfl rfl rfl rfl rfl (fun _ S => (wn rfl)) (fun h3 kk => ?yh3) (fun a w S H => ?_)
  case yh3 =>
    have h3p := h3; try simp only [Option.isNone_some, Option.isNone_none, Option.isSome_some, Option.isSome_none, false_or, or_false, true_and, and_true, decide_eq_true_eq, decide_eq_false_iff_not, Bool.or_eq_true, Bool.and_eq_true, Bool.or_eq_false_iff, Bool.and_eq_false_iff, Bool.not_eq_true', Bool.not_eq_false', bne_iff_ne, beq_iff_eq, beq_eq_false_iff_ne, bne_eq_false_iff_eq, ne_eq, Decidable.not_not, Int.not_lt, Int.not_le, gt_iff_lt, ge_iff_le, Bool.true_eq_false, Bool.false_eq_true, not_true_eq_false, not_false_eq_true] at h3p
    refine wl_of (op_y (wg' 50 rfl rfl S rfl h3 rfl) rfl rfl S (y_move rfl S rfl) fun a S => ?_)
    refine wl_of (op_y (wg' 50 rfl rfl S rfl h3 rfl) rfl rfl S (y_not rfl S rfl) fun a S => ?_)
    refine wl_of (op_y (wn rfl) rfl rfl S (y_and' rfl h3 S rfl rfl) fun a S => ?_)
    exact kk _ _ (S.join 3 53 rfl rfl) H
  refine wl_of (op_y (wn rfl) rfl rfl S (y_move rfl S rfl) fun a S => ?_)
  refine' wl_and 1 54 rfl S H rfl rfl rfl rfl rfl rfl rfl (fun _ S => (wn rfl)) (fun h4 kk => ?yh4) (fun a w S H => ?_)
  case yh4 =>
    have h4p := h4; try simp only [Option.isNone_some, Option.isNone_none, Option.isSome_some, Option.isSome_none, false_or, or_false, true_and, and_true, decide_eq_true_eq, decide_eq_false_iff_not, Bool.or_eq_true, Bool.and_eq_true, Bool.or_eq_false_iff, Bool.and_eq_false_iff, Bool.not_eq_true', Bool.not_eq_false', bne_iff_ne, beq_iff_eq, beq_eq_false_iff_ne, bne_eq_false_iff_eq, ne_eq, Decidable.not_not, Int.not_lt, Int.not_le, gt_iff_lt, ge_iff_le, Bool.true_eq_false, Bool.false_eq_true, not_true_eq_false, not_false_eq_true] at h4p
    refine wl_of (op_y (wg' 54 rfl rfl S rfl h4 rfl) rfl rfl S (y_move rfl S rfl) fun a S => ?_)
    refine wl_of (op_y (wn rfl) rfl rfl S (y_and' rfl h4 S rfl rfl) fun a S => ?_)
    exact kk _ _ (S.join 2 56 rfl rfl) H
  refine wl_of (op_y (wn rfl) rfl rfl S (y_move rfl S rfl) fun a S => ?_)
  refine' wl_and 1 57 rfl S H rfl rfl rfl rfl rfl rfl rfl (fun _ S => (wn rfl)) (fun h5 kk => ?yh5) (fun a w S H => ?_)
  case yh5 =>
    have h5p := h5; try simp only [Option.isNone_some, Option.isNone_none, Option.isSome_some, Option.isSome_none, false_or, or_false, true_and, and_true, decide_eq_true_eq, decide_eq_false_iff_not, Bool.or_eq_true, Bool.and_eq_true, Bool.or_eq_false_iff, Bool.and_eq_false_iff, Bool.not_eq_true', Bool.not_eq_false', bne_iff_ne, beq_iff_eq, beq_eq_false_iff_ne, bne_eq_false_iff_eq, ne_eq, Decidable.not_not, Int.not_lt, Int.not_le, gt_iff_lt, ge_iff_le, Bool.true_eq_false, Bool.false_eq_true, not_true_eq_false, not_false_eq_true] at h5p
    refine wl_of (op_y (wg' 57 rfl rfl S rfl h5 rfl) rfl rfl S (y_move rfl S rfl) fun a S => ?_)
    refine wl_of (op_y (wn rfl) rfl rfl S (y_and' rfl h5 S rfl rfl) fun a S => ?_)
    exact kk _ _ (S.join 2 59 rfl rfl) H
  refine wl_of (op_y (wn rfl) rfl rfl S (y_move rfl S rfl) fun a S => ?_)
  refine' wl_and 2 60 rfl S H rfl rfl rfl rfl rfl rfl rfl (fun _ S => (wn rfl)) (fun h6 kk => ?yh6) (fun a w S H => ?_)
  case yh6 =>
    have h6p := h6; try simp only [Option.isNone_some, Option.isNone_none, Option.isSome_some, Option.isSome_none, false_or, or_false, true_and, and_true, decide_eq_true_eq, decide_eq_false_iff_not, Bool.or_eq_true, Bool.and_eq_true, Bool.or_eq_false_iff, Bool.and_eq_false_iff, Bool.not_eq_true', Bool.not_eq_false', bne_iff_ne, beq_iff_eq, beq_eq_false_iff_ne, bne_eq_false_iff_eq, ne_eq, Decidable.not_not, Int.not_lt, Int.not_le, gt_iff_lt, ge_iff_le, Bool.true_eq_false, Bool.false_eq_true, not_true_eq_false, not_false_eq_true] at h6p
    refine wl_of (op_y (wg' 60 rfl rfl S rfl h6 rfl) rfl rfl S (y_move rfl S rfl) fun a S => ?_)
    refine wl_of (op_y (wg' 60 rfl rfl S rfl h6 rfl) rfl rfl S (y_not rfl S rfl) fun a S => ?_)
    refine wl_of (op_y (wn rfl) rfl rfl S (y_and' rfl h6 S rfl rfl) fun a S => ?_)
    exact kk _ _ (S.join 3 63 rfl rfl) H
  refine wl_of (op_y (wn rfl) rfl rfl S (y_move rfl S rfl) fun a S => ?_)
  refine' wl_and 1 64 rfl S H rfl rfl rfl rfl rfl rfl rfl (fun _ S => (wn rfl)) (fun h7 kk => ?yh7) (fun a w S H => ?_)
  case yh7 =>
    have h7p := h7; try simp only [Option.isNone_some, Option.isNone_none, Option.isSome_some, Option.isSome_none, false_or, or_false, true_and, and_true, decide_eq_true_eq, decide_eq_false_iff_not, Bool.or_eq_true, Bool.and_eq_true, Bool.or_eq_false_iff, Bool.and_eq_false_iff, Bool.not_eq_true', Bool.not_eq_false', bne_iff_ne, beq_iff_eq, beq_eq_false_iff_ne, bne_eq_false_iff_eq, ne_eq, Decidable.not_not, Int.not_lt, Int.not_le, gt_iff_lt, ge_iff_le, Bool.true_eq_false, Bool.false_eq_true, not_true_eq_false, not_false_eq_true] at h7p
    refine wl_of (op_y (wg' 64 rfl rfl S rfl h7 rfl) rfl rfl S (y_move rfl S rfl) fun a S => ?_)
    refine wl_of (op_y (wn rfl) rfl rfl S (y_and' rfl h7 S rfl rfl) fun a S => ?_)
    exact kk _ _ (S.join 2 66 rfl rfl) H
  refine wl_of (op_y (wn rfl) rfl rfl S (y_move rfl S rfl) fun a S => ?_)
  refine' wl_and 3 67 rfl S H rfl rfl rfl rfl rfl rfl rfl (fun _ S => (wn rfl)) (fun h8 kk => ?yh8) (fun a w S H => ?_)
  case yh8 =>
    have h8p := h8; try simp only [Option.isNone_some, Option.isNone_none, Option.isSome_some, Option.isSome_none, false_or, or_false, true_and, and_true, decide_eq_true_eq, decide_eq_false_iff_not, Bool.or_eq_true, Bool.and_eq_true, Bool.or_eq_false_iff, Bool.and_eq_false_iff, Bool.not_eq_true', Bool.not_eq_false', bne_iff_ne, beq_iff_eq, beq_eq_false_iff_ne, bne_eq_false_iff_eq, ne_eq, Decidable.not_not, Int.not_lt, Int.not_le, gt_iff_lt, ge_iff_le, Bool.true_eq_false, Bool.false_eq_true, not_true_eq_false, not_false_eq_true] at h8p
    refine wl_of (op_y (wg' 67 rfl rfl S rfl h8 rfl) rfl rfl S (y_move rfl S rfl) fun a S => ?_)
    refine wl_of (op_buildSlice (wg' 67 rfl rfl S rfl h8 rfl) rfl rfl rfl Try.underlying22 Finf3 S H (idx := [0, 1]) rfl rfl rfl (z := [.int .i64 0, .int .i64 0]) (by kernel_rfl) (cs := [_, _]) rfl fun b69 a w S H => ?_)
    refine wl_of (op_call (wg' 67 rfl rfl S rfl h8 rfl) rfl rfl S (co_func rfl Try.call14 S rfl) (ints_spec _ _ (passedL (offer (offer (offer (offer (offer (offer (offer (newDS 10 [1, 2] 4) 0 0 0).2 0 0 0).2 0 0 0).2 1 0 0).2 1 0 0).2 1 0 0).2 0 10001 0).2 9) [3, 2] _ (H.sl _) (H.slb b69 _ encI 1 rfl rfl (by simp [encI]) (by decide))) fun v w hc a S => ?_)
    obtain ⟨rfl, he⟩ := hc
    have H := H.ext he
    refine wl_of (op_y (wn rfl) rfl rfl S (y_and' rfl h8 S rfl rfl) fun a S => ?_)
    exact kk _ _ (S.join 4 71 rfl rfl) (H.drop 1)
  refine wl_of (op_y (wn rfl) rfl rfl S (y_move rfl S rfl) fun a S => ?_)
  refine' wl_and 1 72 rfl S H rfl rfl rfl rfl rfl rfl rfl (fun _ S => (wn rfl)) (fun h9 kk => ?yh9) (fun a w S H => ?_)
  case yh9 =>
    have h9p := h9; try simp only [Option.isNone_some, Option.isNone_none, Option.isSome_some, Option.isSome_none, false_or, or_false, true_and, and_true, decide_eq_true_eq, decide_eq_false_iff_not, Bool.or_eq_true, Bool.and_eq_true, Bool.or_eq_false_iff, Bool.and_eq_false_iff, Bool.not_eq_true', Bool.not_eq_false', bne_iff_ne, beq_iff_eq, beq_eq_false_iff_ne, bne_eq_false_iff_eq, ne_eq, Decidable.not_not, Int.not_lt, Int.not_le, gt_iff_lt, ge_iff_le, Bool.true_eq_false, Bool.false_eq_true, not_true_eq_false, not_false_eq_true] at h9p
    refine wl_of (op_y (wg' 72 rfl rfl S rfl h9 rfl) rfl rfl S (y_move rfl S rfl) fun a S => ?_)
    refine wl_of (op_y (wn rfl) rfl rfl S (y_and' rfl h9 S rfl rfl) fun a S => ?_)
    exact kk _ _ (S.join 2 74 rfl rfl) H
  refine wl_of (op_y (wn rfl) rfl rfl S (y_move rfl S rfl) fun a S => ?_)
  refine' wl_and 4 75 rfl S H rfl rfl rfl rfl rfl rfl rfl (fun _ S => (wn rfl)) (fun h10 kk => ?yh10) (fun a w S H => ?_)
  case yh10 =>
    have h10p := h10; try simp only [Option.isNone_some, Option.isNone_none, Option.isSome_some, Option.isSome_none, false_or, or_false, true_and, and_true, decide_eq_true_eq, decide_eq_false_iff_not, Bool.or_eq_true, Bool.and_eq_true, Bool.or_eq_false_iff, Bool.and_eq_false_iff, Bool.not_eq_true', Bool.not_eq_false', bne_iff_ne, beq_iff_eq, beq_eq_false_iff_ne, bne_eq_false_iff_eq, ne_eq, Decidable.not_not, Int.not_lt, Int.not_le, gt_iff_lt, ge_iff_le, Bool.true_eq_false, Bool.false_eq_true, not_true_eq_false, not_false_eq_true] at h10p
    refine wl_of (op_y (wg' 75 rfl rfl S rfl h10 rfl) rfl rfl S (y_move rfl S rfl) fun a S => ?_)
    refine wl_of (op_call (wg' 75 rfl rfl S rfl h10 rfl) rfl rfl S (co_func rfl Try.call15 S rfl) (passed_spec b1 (offer (offer (offer (offer (offer (offer (offer (offer (newDS 10 [1, 2] 4) 0 0 0).2 0 0 0).2 0 0 0).2 1 0 0).2 1 0 0).2 1 0 0).2 0 10001 0).2 0 0 10).2 vr vl vp 19 8 w (H.perm (HasA.to_ (x := DoorA b1 (offer (offer (offer (offer (offer (offer (offer (offer (newDS 10 [1, 2] 4) 0 0 0).2 0 0 0).2 0 0 0).2 1 0 0).2 1 0 0).2 1 0 0).2 0 10001 0).2 0 0 10).2 vr vl vp))) (offer_wf (offer_wf (offer_wf (offer_wf (offer_wf (offer_wf (offer_wf (offer_wf (new_wf (by decide)) 0 0 0) 0 0 0) 0 0 0) 1 0 0) 1 0 0) 1 0 0) 0 10001 0) 0 0 10)) fun u77 w hc a S => ?_)
    have H1 := hc
    have H := H.call1 H1 rfl
    refine wl_of (op_buildSlice (wg' 75 rfl rfl S rfl h10 rfl) rfl rfl rfl Try.underlying22 Finf3 S H (idx := [0, 1]) rfl rfl rfl (z := [.int .i64 0, .int .i64 0]) (by kernel_rfl) (cs := [_, _]) rfl fun b78 a w S H => ?_)
    refine wl_of (op_call (wg' 75 rfl rfl S rfl h10 rfl) rfl rfl S (co_func rfl Try.call14 S rfl) (ints_spec _ _ (passedL (offer (offer (offer (offer (offer (offer (offer (offer (newDS 10 [1, 2] 4) 0 0 0).2 0 0 0).2 0 0 0).2 1 0 0).2 1 0 0).2 1 0 0).2 0 10001 0).2 0 0 10).2 19) [1, 0] _ (H.sl _) (H.slb b78 _ encI 1 rfl rfl (by simp [encI]) (by decide))) fun v w hc a S => ?_)
    obtain ⟨rfl, he⟩ := hc
    have H := H.ext he
    refine wl_of (op_y (wn rfl) rfl rfl S (y_and' rfl h10 S rfl rfl) fun a S => ?_)
    exact kk _ _ (S.join 5 80 rfl rfl) (H.drop 2)
  refine wl_of (op_y (wn rfl) rfl rfl S (y_move rfl S rfl) fun a S => ?_)
  refine' wl_and 4 81 rfl S H rfl rfl rfl rfl rfl rfl rfl (fun _ S => (wn rfl)) (fun h11 kk => ?yh11) (fun a w S H => ?_)
  case yh11 =>
    have h11p := h11; try simp only [Option.isNone_some, Option.isNone_none, Option.isSome_some, Option.isSome_none, false_or, or_false, true_and, and_true, decide_eq_true_eq, decide_eq_false_iff_not, Bool.or_eq_true, Bool.and_eq_true, Bool.or_eq_false_iff, Bool.and_eq_false_iff, Bool.not_eq_true', Bool.not_eq_false', bne_iff_ne, beq_iff_eq, beq_eq_false_iff_ne, bne_eq_false_iff_eq, ne_eq, Decidable.not_not, Int.not_lt, Int.not_le, gt_iff_lt, ge_iff_le, Bool.true_eq_false, Bool.false_eq_true, not_true_eq_false, not_false_eq_true] at h11p
    refine wl_of (op_y (wg' 81 rfl rfl S rfl h11 rfl) rfl rfl S (y_move rfl S rfl) fun a S => ?_)
    refine wl_of (op_call (wg' 81 rfl rfl S rfl h11 rfl) rfl rfl S (co_func rfl Try.call15 S rfl) (passed_spec b1 (offer (offer (offer (offer (offer (offer (offer (offer (newDS 10 [1, 2] 4) 0 0 0).2 0 0 0).2 0 0 0).2 1 0 0).2 1 0 0).2 1 0 0).2 0 10001 0).2 0 0 10).2 vr vl vp 9 8 w (H.perm (HasA.to_ (x := DoorA b1 (offer (offer (offer (offer (offer (offer (offer (offer (newDS 10 [1, 2] 4) 0 0 0).2 0 0 0).2 0 0 0).2 1 0 0).2 1 0 0).2 1 0 0).2 0 10001 0).2 0 0 10).2 vr vl vp))) (offer_wf (offer_wf (offer_wf (offer_wf (offer_wf (offer_wf (offer_wf (offer_wf (new_wf (by decide)) 0 0 0) 0 0 0) 0 0 0) 1 0 0) 1 0 0) 1 0 0) 0 10001 0) 0 0 10)) fun u83 w hc a S => ?_)
    have H1 := hc
    have H := H.call1 H1 rfl
    refine wl_of (op_buildSlice (wg' 81 rfl rfl S rfl h11 rfl) rfl rfl rfl Try.underlying22 Finf3 S H (idx := [0, 1]) rfl rfl rfl (z := [.int .i64 0, .int .i64 0]) (by kernel_rfl) (cs := [_, _]) rfl fun b84 a w S H => ?_)
    refine wl_of (op_call (wg' 81 rfl rfl S rfl h11 rfl) rfl rfl S (co_func rfl Try.call14 S rfl) (ints_spec _ _ (passedL (offer (offer (offer (offer (offer (offer (offer (offer (newDS 10 [1, 2] 4) 0 0 0).2 0 0 0).2 0 0 0).2 1 0 0).2 1 0 0).2 1 0 0).2 0 10001 0).2 0 0 10).2 9) [0, 0] _ (H.sl _) (H.slb b84 _ encI 1 rfl rfl (by simp [encI]) (by decide))) fun v w hc a S => ?_)
    obtain ⟨rfl, he⟩ := hc
    have H := H.ext he
    refine wl_of (op_y (wn rfl) rfl rfl S (y_and' rfl h11 S rfl rfl) fun a S => ?_)
    exact kk _ _ (S.join 5 86 rfl rfl) (H.drop 2)
  refine wl_of (op_y (wn rfl) rfl rfl S (y_move rfl S rfl) fun a S => ?_)
  refine' wl_and 2 87 rfl S H rfl rfl rfl rfl rfl rfl rfl (fun _ S => (wn rfl)) (fun h12 kk => ?yh12) (fun a w S H => ?_)
  case yh12 =>
    have h12p := h12; try simp only [Option.isNone_some, Option.isNone_none, Option.isSome_some, Option.isSome_none, false_or, or_false, true_and, and_true, decide_eq_true_eq, decide_eq_false_iff_not, Bool.or_eq_true, Bool.and_eq_true, Bool.or_eq_false_iff, Bool.and_eq_false_iff, Bool.not_eq_true', Bool.not_eq_false', bne_iff_ne, beq_iff_eq, beq_eq_false_iff_ne, bne_eq_false_iff_eq, ne_eq, Decidable.not_not, Int.not_lt, Int.not_le, gt_iff_lt, ge_iff_le, Bool.true_eq_false, Bool.false_eq_true, not_true_eq_false, not_false_eq_true] at h12p
    refine wl_of (op_y (wg' 87 rfl rfl S rfl h12 rfl) rfl rfl S (y_move rfl S rfl) fun a S => ?_)
    refine wl_of (op_y (wg' 87 rfl rfl S rfl h12 rfl) rfl rfl S (y_bin rfl S rfl rfl rfl) fun a S => ?_)
    refine wl_of (op_y (wn rfl) rfl rfl S (y_and' rfl h12 S rfl rfl) fun a S => ?_)
    exact kk _ _ (S.join 3 90 rfl rfl) H
  refine wl_of (op_y (wn rfl) rfl rfl S (y_assign rfl S rfl) fun a S => ?_)
  refine wpList_nil ?_
  refine n_then ?_
  have S := S.nil.cons S 0 rfl
  refine wp_ret ?_
  refine ret1 rfl S rfl ?_
  exact ⟨by kernel_rfl, H.toExt⟩
/-- foyer/foyerlaw49.door -/
theorem door_spec (sp ra rb rc rm : Int) (w0 : World) (hs : 0 ≤ sp ∧ sp ≤ 255) (ha : 0 ≤ ra ∧ ra ≤ 255) (hb : 0 ≤ rb ∧ rb ≤ 255) (hc : 0 ≤ rc ∧ rc ≤ 255) (hm : 0 ≤ rm ∧ rm ≤ 255) :
    Ret Try.prog 17 #[.int .u8 sp, .int .u8 ra, .int .u8 rb, .int .u8 rc, .int .u8 rm] w0 (fun u w => ∃ d vr vl vp bs, u = .tuple #[.pointer (some ⟨d, 0, none⟩), .slice (some ⟨bs, 0, none⟩) 3 3, .int .i64 (max 1 (ra % 6 + rb % 6 + rc % 6 + rm % 8)), .bool true] ∧ HSat No w0 [DoorA d (newDS (1 + sp % 20) [ra % 6, rb % 6, rc % 6] (max 1 (ra % 6 + rb % 6 + rc % 6 + rm % 8))) vr vl vp, OSl 3 (.slice (some ⟨bs, 0, none⟩) 3 3) 1 encI [ra % 6, rb % 6, rc % 6]] w) := by
  refine ret_of_wp (n := 59) Try.func17 rfl rfl rfl (fl := [(0, .int .u8 sp), (1, .int .u8 ra), (2, .int .u8 rb), (3, .int .u8 rc), (4, .int .u8 rm)]) rfl (fun a S => ?_)
  have H := HSat.start w0
  refine wp_seq ?_
  -- region 0 law.go:48
  refine wp_region_lit ?_
  refine wl_of (op_y (wn rfl) rfl rfl S (y_assign rfl S rfl) fun a S => ?_)
  refine wl_of (op_y (wn rfl) rfl rfl S (y_assign rfl S rfl) fun a S => ?_)
  refine wl_of (op_y (wn rfl) rfl rfl S (y_assign rfl S rfl) fun a S => ?_)
  refine wl_of (op_y (wn rfl) rfl rfl S (y_assign rfl S rfl) fun a S => ?_)
  refine wpList_nil ?_
  refine n_then ?_
  refine wp_seq ?_
  -- region 1 law.go:49
  refine wp_region_lit ?_
  refine wl_of (op_y (wn rfl) rfl rfl S (y_move rfl S rfl) fun a S => ?_)
  refine wl_of (op_y (wn rfl) rfl rfl S (y_conv rfl Try.underlying5 Try.underlying3 S rfl (by omega)) fun a S => ?_)
  refine wl_of (op_y (wn rfl) rfl rfl S (y_remn rfl S rfl rfl (by omega) (by omega)) fun a S => ?_)
  refine wl_of (op_y (wn rfl) rfl rfl S (y_move rfl S rfl) fun a S => ?_)
  refine wl_of (op_y (wn rfl) rfl rfl S (y_conv rfl Try.underlying5 Try.underlying3 S rfl (by omega)) fun a S => ?_)
  refine wl_of (op_y (wn rfl) rfl rfl S (y_remn rfl S rfl rfl (by omega) (by omega)) fun a S => ?_)
  refine wl_of (op_y (wn rfl) rfl rfl S (y_move rfl S rfl) fun a S => ?_)
  refine wl_of (op_y (wn rfl) rfl rfl S (y_conv rfl Try.underlying5 Try.underlying3 S rfl (by omega)) fun a S => ?_)
  refine wl_of (op_y (wn rfl) rfl rfl S (y_remn rfl S rfl rfl (by omega) (by omega)) fun a S => ?_)
  refine wl_of (op_buildSlice (wn rfl) rfl rfl rfl Try.underlying22 Finf3 S H (idx := [0, 1, 2]) rfl rfl rfl (z := [.int .i64 0, .int .i64 0, .int .i64 0]) (by kernel_rfl) (cs := [.int .i64 (ra % 6), .int .i64 (rb % 6), .int .i64 (rc % 6)]) (by kernel_rfl) fun b27 a w S H => ?_)
  refine wl_of (op_y (wn rfl) rfl rfl S (y_assign rfl S rfl) fun a S => ?_)
  refine wpList_nil ?_
  refine n_then ?_
  have S := ((((((S.nil.cons S 4 rfl).cons S 0 rfl).cons S 10 rfl).cons S 11 rfl).cons S 12 rfl).cons S 13 rfl).cons S 14 rfl
  refine wp_seq ?_
  -- region 2 DRAWS law.go:50
  refine region_st (loud := []) (tails := []) (free := []) [0, 1, 2, 3, 4, 5, 6, 7, 8, 9, 10, 11, 12, 13, 14, 15, 16] [] Fmo (by kernel_rfl) (by kernel_rfl) rfl H ?_
  refine m_w rfl rfl (wn rfl) rfl rfl S (fun w H => y_move rfl S rfl) fun a S => ?_
  refine m_w rfl rfl (wn rfl) rfl rfl S (fun w H => y_iaddr rfl Try.underlying22 Fsiz3 S rfl rfl (by omega)) fun a S => ?_
  refine m_w rfl rfl (wn rfl) rfl rfl S (fun w H => y_load rfl Fsca3 S H rfl rfl) fun a S => ?_
  refine m_w rfl rfl (wn rfl) rfl rfl S (fun w H => y_move rfl S rfl) fun a S => ?_
  refine m_w rfl rfl (wn rfl) rfl rfl S (fun w H => y_iaddr rfl Try.underlying22 Fsiz3 S rfl rfl (by omega)) fun a S => ?_
  refine m_w rfl rfl (wn rfl) rfl rfl S (fun w H => y_load rfl Fsca3 S H rfl rfl) fun a S => ?_
  refine m_w rfl rfl (wn rfl) rfl rfl S (fun w H => y_add rfl S rfl rfl (by omega)) fun a S => ?_
  refine m_w rfl rfl (wn rfl) rfl rfl S (fun w H => y_move rfl S rfl) fun a S => ?_
  refine m_w rfl rfl (wn rfl) rfl rfl S (fun w H => y_iaddr rfl Try.underlying22 Fsiz3 S rfl rfl (by omega)) fun a S => ?_
  refine m_w rfl rfl (wn rfl) rfl rfl S (fun w H => y_load rfl Fsca3 S H rfl rfl) fun a S => ?_
  refine m_w rfl rfl (wn rfl) rfl rfl S (fun w H => y_add rfl S rfl rfl (by omega)) fun a S => ?_
  refine m_w rfl rfl (wn rfl) rfl rfl S (fun w H => y_move rfl S rfl) fun a S => ?_
  refine m_w rfl rfl (wn rfl) rfl rfl S (fun w H => y_conv rfl Try.underlying5 Try.underlying3 S rfl (by omega)) fun a S => ?_
  refine m_w rfl rfl (wn rfl) rfl rfl S (fun w H => y_remn rfl S rfl rfl (by omega) (by omega)) fun a S => ?_
  refine m_w rfl rfl (wn rfl) rfl rfl S (fun w H => y_add rfl S rfl rfl (by omega)) fun a S => ?_
  refine m_w rfl rfl (wn rfl) rfl rfl S (fun w H => y_max rfl S rfl rfl) fun a S => ?_
  refine m_w rfl rfl (wn rfl) rfl rfl S (fun w H => y_assign rfl S rfl) fun a S => ?_
  refine m_nil (fun w H => ?_)
  refine n_then ?_
  have S := ((((((S.nil.cons S 0 rfl).cons S 10 rfl).cons S 11 rfl).cons S 12 rfl).cons S 13 rfl).cons S 14 rfl).cons S 15 rfl
  refine wp_seq ?_
  -- region 3 law.go:51
  refine wp_region_lit ?_
  refine wl_of (op_y (wn rfl) rfl rfl S (y_move rfl S rfl) fun a S => ?_)
  refine wl_of (op_y (wn rfl) rfl rfl S (y_conv rfl Try.underlying5 Try.underlying3 S rfl (by omega)) fun a S => ?_)
  refine wl_of (op_y (wn rfl) rfl rfl S (y_remn rfl S rfl rfl (by omega) (by omega)) fun a S => ?_)
  refine wl_of (op_y (wn rfl) rfl rfl S (y_add rfl S rfl rfl (by omega)) fun a S => ?_)
  refine wl_of (op_y (wn rfl) rfl rfl S (y_move rfl S rfl) fun a S => ?_)
  refine wl_of (op_y (wn rfl) rfl rfl S (y_move rfl S rfl) fun a S => ?_)
  refine wl_of (op_call (wn rfl) rfl rfl S (co_func rfl Try.call10 S rfl) (new_ok _ _ _ [ra % 6, rb % 6, rc % 6] _ (H.slb b27 _ encI 1 rfl rfl (by simp [encI]) (by decide)) (door_ok hs ha hb hc hm)) fun v w hc a S => ?_)
  obtain ⟨d, vr, vl, vp, rfl, H1⟩ := hc
  have H := H.call1 H1 rfl
  refine wl_of (op_y (wn rfl) rfl rfl S (y_move rfl S rfl) fun a S => ?_)
  refine wl_of (op_y (wn rfl) rfl rfl S (y_extract rfl S rfl rfl) fun a S => ?_)
  refine wl_of (op_y (wn rfl) rfl rfl S (y_extract rfl S rfl rfl) fun a S => ?_)
  refine wl_of (op_y (wn rfl) rfl rfl S (y_assign rfl S rfl) fun a S => ?_)
  refine wl_of (op_y (wn rfl) rfl rfl S (y_assign rfl S rfl) fun a S => ?_)
  refine wpList_nil ?_
  refine n_then ?_
  have S := (((((((S.nil.cons S 10 rfl).cons S 11 rfl).cons S 12 rfl).cons S 13 rfl).cons S 14 rfl).cons S 15 rfl).cons S 16 rfl).cons S 17 rfl
  refine wp_seq ?_
  -- region 4 law.go:52
  refine wp_region_lit ?_
  refine wl_of (op_y (wn rfl) rfl rfl S (y_move rfl S rfl) fun a S => ?_)
  refine wl_of (op_y (wn rfl) rfl rfl S (y_move rfl S rfl) fun a S => ?_)
  refine wl_of (op_y (wn rfl) rfl rfl S (y_move rfl S rfl) fun a S => ?_)
  refine wl_of (op_y (wn rfl) rfl rfl S (y_move rfl S rfl) fun a S => ?_)
  refine wl_of (op_y (wn rfl) rfl rfl S (y_bin rfl S rfl rfl rfl) fun a S => ?_)
  refine wl_of (op_y (wn rfl) rfl rfl S (y_assign rfl S rfl) fun a S => ?_)
  refine wl_of (op_y (wn rfl) rfl rfl S (y_assign rfl S rfl) fun a S => ?_)
  refine wl_of (op_y (wn rfl) rfl rfl S (y_assign rfl S rfl) fun a S => ?_)
  refine wl_of (op_y (wn rfl) rfl rfl S (y_assign rfl S rfl) fun a S => ?_)
  refine wpList_nil ?_
  refine n_then ?_
  have S := (((S.nil.cons S 10 rfl).cons S 11 rfl).cons S 12 rfl).cons S 13 rfl
  refine wp_ret ?_
  refine ret4 rfl S rfl rfl rfl rfl ?_
  exact ⟨d, vr, vl, vp, b27, rfl, (H.swap2.celO [ra % 6, rb % 6, rc % 6] encI 1 (m := 3) rfl (by simp [encI]) rfl (by decide)).swap2⟩

end Go.Proofs.Ytojmagbonbcffaa
