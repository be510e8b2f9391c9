/- The walks. No condition. -/
import Derived.Test.YtgplcgfdaoenfaaChecked
import Derived.Test.YtgplcgfdaoenfaaGwCut
import Derived.Test.YtgplcgfdaoenfaaFacts
import Derived.Test.YtgplcgfdaoenfaaPlain
import Derived.Test.YtgplcgfdaoenfaaW8
namespace Go.Proofs.Ytgplcgfdaoenfaa
open Go Go.Gw
set_option linter.unusedVariables false
set_option linter.unusedSimpArgs false

theorem rserve_spec {M : Nat → Prop} {u0 : World} {l : List Atom} (b : Nat) (vo vt vs vd : Value) (r : RM) (i now : Int) (N : Nat) (w0 : World) (h00 : HSat M u0 (RRoomA b vo vt vs r vd :: l) w0) (hw : r.WF N) (hN : N ≤ 100000) :
    Ret Try.prog 20 #[.pointer (some ⟨b, 0, none⟩), .int .i64 i, .int .i64 now] w0 (fun u w => u = .int .i64 (serve r i now).1 ∧ ∃ vd1, HSat M u0 (RRoomA b vo vt vs (serve r i now).2 vd1 :: l) w) := by
  by_cases hi : i ∈ r.order
  · obtain ⟨k, hk, rfl⟩ := List.getElem_of_mem hi
    exact rserve_at b vo vt vs vd r k hk now N w0 h00 hw hN
  · exact rserve_none b vo vt vs vd r i now N w0 h00 hw hi
theorem rleave_spec {M : Nat → Prop} {u0 : World} {l : List Atom} (b : Nat) (vo vt vs vd : Value) (r : RM) (i : Int) (N : Nat) (w0 : World) (h00 : HSat M u0 (RRoomA b vo vt vs r vd :: l) w0) (hw : r.WF N) :
    Ret Try.prog 18 #[.pointer (some ⟨b, 0, none⟩), .int .i64 i] w0 (fun u w => u = .int .i64 (leave r i).1 ∧ HSat M u0 (RRoomA b vo vt vs (leave r i).2 vd :: l) w) := by
  by_cases hi : i ∈ r.order
  · obtain ⟨k, hk, rfl⟩ := List.getElem_of_mem hi
    exact rleave_at b vo vt vs vd r k hk N w0 h00 hw
  · exact rleave_none b vo vt vs vd r i N w0 h00 hw hi

theorem new_ok (v : Value) (order : List Int) (width span from_ : Int) (w0 : World) (hv : IsSl w0 v 1 encI order) (h : newOK order width span from_ = true) :
    Ret Try.prog 10 #[v, .int .i64 width, .int .i64 span, .int .i64 from_] w0 (fun u w => ∃ b ms mp vo vs, u = .tuple #[.pointer (some ⟨b, 0, none⟩), .int .i64 0] ∧ HSat No w0 [RoomA b ms mp vo (newRM order width span from_) vs] w) :=
  (new_spec v order width span from_ w0 hv).mono fun u w hh => by
    rcases hh with ⟨h1, _⟩ | ⟨_, hh⟩
    · rw [h] at h1; cases h1
    · exact hh
theorem new_bad (v : Value) (order : List Int) (width span from_ : Int) (w0 : World) (hv : IsSl w0 v 1 encI order) (h : newOK order width span from_ = false) :
    Ret Try.prog 10 #[v, .int .i64 width, .int .i64 span, .int .i64 from_] w0 (fun u w => u = .tuple #[.pointer none, .int .i64 1] ∧ Ext w0 w) :=
  (new_spec v order width span from_ w0 hv).mono fun u w hh => by
    rcases hh with ⟨_, hh⟩ | ⟨h1, _⟩
    · exact hh
    · rw [h] at h1; cases h1

theorem rnew_ok (v : Value) (order : List Int) (width span from_ : Int) (w0 : World) (hv : IsSl w0 v 1 encI order) (h : newOK order width span from_ = true) :
    Ret Try.prog 11 #[v, .int .i64 width, .int .i64 span, .int .i64 from_] w0 (fun u w => ∃ b vo vt vs vd, u = .tuple #[.pointer (some ⟨b, 0, none⟩), .int .i64 0] ∧ HSat No w0 [RRoomA b vo vt vs (newRM order width span from_) vd] w) :=
  (rnew_spec v order width span from_ w0 hv).mono fun u w hh => by
    rcases hh with ⟨h1, _⟩ | ⟨_, hh⟩
    · rw [h] at h1; cases h1
    · exact hh
theorem rnew_bad (v : Value) (order : List Int) (width span from_ : Int) (w0 : World) (hv : IsSl w0 v 1 encI order) (h : newOK order width span from_ = false) :
    Ret Try.prog 11 #[v, .int .i64 width, .int .i64 span, .int .i64 from_] w0 (fun u w => u = .tuple #[.pointer none, .int .i64 1] ∧ Ext w0 w) :=
  (rnew_spec v order width span from_ w0 hv).mono fun u w hh => by
    rcases hh with ⟨_, hh⟩ | ⟨h1, _⟩
    · exact hh
    · rw [h] at h1; cases h1
/-- foyer/foyerlaw21.in -/
theorem in_spec (v : Value) (xs : List Int) (i : Int) (w0 : World) (hv : IsSl w0 v 1 encI xs) :
    Ret Try.prog 22 #[v, .int .i64 i] w0 (fun u w => u = .bool (decide (i ∈ xs)) ∧ Ext w0 w) := by
  refine ret_of_wp (nt := 18) Try.func22 rfl rfl rfl (fl := [(0, v), (1, .int .i64 i)]) rfl (fun a S => ?_)
  have H := HSat.start w0
  have H := H.ro0 (Sl v 1 encI xs) rfl (hv)
  have hl := hv.len
  refine g_seq ?_
  -- region 0 law.go:69
  refine g_region ?_
  refine wl_of (op_y (wn rfl) rfl rfl S (y_assign rfl S rfl) fun a S => ?_)
  refine gl_nil ?_
  refine n_then ?_
  refine g_seq ?_
  refine g_seq ?_
  -- region 1 law.go:70
  refine g_region ?_
  refine wl_of (op_y (wn rfl) rfl rfl S (y_assign rfl S rfl) fun a S => ?_)
  refine gl_nil ?_
  refine n_then ?_
  refine g_block ?_
  -- slots written in the loop and forgotten at its head: [4]
  have SU := (S.nil.cons S 1 rfl).cons S 0 rfl
  refine loop_k (X := Nat) SU (fun k => [(5, .int .i64 (k : Int))]) (fun k => k ≤ xs.length ∧ ∀ j (h : j < xs.length), j < k → xs[j] ≠ i) (fun k => xs.length - k) 0 (S.nil.cons S 5 rfl) H (⟨by omega, fun j h hj => by omega⟩) (fun k a w S H hi => ?_)
  simp only [List.cons_append, List.nil_append] at S hi
  obtain ⟨hk, hno⟩ := hi
  refine g_seq ?_
  refine g_seq ?_
  -- region 2 law.go:70
  refine g_region ?_
  refine wl_of (op_y (wn rfl) rfl rfl S (y_move rfl S rfl) fun a S => ?_)
  refine wl_of (op_y (wn rfl) rfl rfl S (y_move rfl S rfl) fun a S => ?_)
  refine wl_of (op_y (wn rfl) rfl rfl S (y_lens rfl Try.underlying22 S H rfl) fun a S => ?_)
  refine wl_of (op_y (wn rfl) rfl rfl S (y_bin rfl S rfl rfl rfl) fun a S => ?_)
  refine gl_nil ?_
  refine n_then ?_
  -- cond 1
  refine c_if S rfl (fun h1 => ?_) (fun h1 => ?_)
  · have h1p := h1; try simp only [Option.isNone_some, Option.isNone_none, Option.isSome_some, Option.isSome_none, false_or, or_false, true_and, and_true, decide_eq_true_eq, decide_eq_false_iff_not, Bool.or_eq_true, Bool.and_eq_true, Bool.or_eq_false_iff, Bool.and_eq_false_iff, Bool.not_eq_true', Bool.not_eq_false', bne_iff_ne, beq_iff_eq, beq_eq_false_iff_ne, bne_eq_false_iff_eq, ne_eq, Decidable.not_not, Int.not_lt, Int.not_le, gt_iff_lt, ge_iff_le, Bool.true_eq_false, Bool.false_eq_true, not_true_eq_false, not_false_eq_true] at h1p
    refine g_skip ?_
    refine n_then ?_
    refine g_seq ?_
    refine g_block ?_
    refine g_seq ?_
    -- region 4 law.go:71
    refine g_region ?_
    refine wl_of (op_y (wn rfl) rfl rfl S (y_move rfl S rfl) fun a S => ?_)
    refine wl_of (op_y (wn rfl) rfl rfl S (y_move rfl S rfl) fun a S => ?_)
    refine wl_of (op_y (wn rfl) rfl rfl S (y_iaddrn rfl Try.underlying22 Fsiz3 S H rfl rfl (by first | assumption | omega | (simp only [List.length_append, List.length_take, List.length_drop, List.length_replicate, List.length_set, List.length_map, List.length_cons, List.length_nil]; omega))) fun a S => ?_)
    refine wl_of (op_y (wn rfl) rfl rfl S (y_loads _ rfl Fsca3 S H rfl (by first | assumption | omega | (simp only [List.length_append, List.length_take, List.length_drop, List.length_replicate, List.length_set, List.length_map, List.length_cons, List.length_nil]; omega)) rfl) fun a S => ?_)
    refine wl_of (op_y (wn rfl) rfl rfl S (y_move rfl S rfl) fun a S => ?_)
    refine wl_of (op_y (wn rfl) rfl rfl S (y_bin rfl S rfl rfl rfl) fun a S => ?_)
    refine gl_nil ?_
    refine n_then ?_
    -- cond 2
    refine c_if S rfl (fun h2 => ?_) (fun h2 => ?_)
    · have h2p := h2; try simp only [Option.isNone_some, Option.isNone_none, Option.isSome_some, Option.isSome_none, false_or, or_false, true_and, and_true, decide_eq_true_eq, decide_eq_false_iff_not, Bool.or_eq_true, Bool.and_eq_true, Bool.or_eq_false_iff, Bool.and_eq_false_iff, Bool.not_eq_true', Bool.not_eq_false', bne_iff_ne, beq_iff_eq, beq_eq_false_iff_ne, bne_eq_false_iff_eq, ne_eq, Decidable.not_not, Int.not_lt, Int.not_le, gt_iff_lt, ge_iff_le, Bool.true_eq_false, Bool.false_eq_true, not_true_eq_false, not_false_eq_true] at h2p
      refine g_seq ?_
      -- region 5 law.go:72
      refine g_region ?_
      refine wl_of (op_y (wn rfl) rfl rfl S (y_assign rfl S rfl) fun a S => ?_)
      refine gl_nil ?_
      refine n_then ?_
      refine g_ret ?_
      refine r_block (r_then (r_then (r_block (r_then (ret1 rfl S rfl ?_)))))
      exact ⟨congrArg Value.bool (decide_eq_true (by rw [← h2p]; exact List.getElem_mem _)).symm, H.toExt⟩
    · have h2p := h2; try simp only [Option.isNone_some, Option.isNone_none, Option.isSome_some, Option.isSome_none, false_or, or_false, true_and, and_true, decide_eq_true_eq, decide_eq_false_iff_not, Bool.or_eq_true, Bool.and_eq_true, Bool.or_eq_false_iff, Bool.and_eq_false_iff, Bool.not_eq_true', Bool.not_eq_false', bne_iff_ne, beq_iff_eq, beq_eq_false_iff_ne, bne_eq_false_iff_eq, ne_eq, Decidable.not_not, Int.not_lt, Int.not_le, gt_iff_lt, ge_iff_le, Bool.true_eq_false, Bool.false_eq_true, not_true_eq_false, not_false_eq_true] at h2p
      refine g_skip ?_
      refine n_block ?_
      refine n_then ?_
      -- region 3 law.go:70
      refine g_region ?_
      refine wl_of (op_y (wn rfl) rfl rfl S (y_move rfl S rfl) fun a S => ?_)
      refine wl_of (op_y (wn rfl) rfl rfl S (y_add rfl S rfl rfl (by omega)) fun a S => ?_)
      refine wl_of (op_y (wn rfl) rfl rfl S (y_assign rfl S rfl) fun a S => ?_)
      refine gl_nil ?_
      refine n_then ?_
      refine ⟨k + 1, S.nil.cons S 5 rfl, (S.nil.cons S 1 rfl).cons S 0 rfl, H, ?_, ?_⟩
      · exact ⟨by omega, fun j h hj => by by_cases hjk : j < k; exact hno j h hjk; (obtain rfl : j = k := by omega); exact h2p⟩
      · omega
  · have h1p := h1; try simp only [Option.isNone_some, Option.isNone_none, Option.isSome_some, Option.isSome_none, false_or, or_false, true_and, and_true, decide_eq_true_eq, decide_eq_false_iff_not, Bool.or_eq_true, Bool.and_eq_true, Bool.or_eq_false_iff, Bool.and_eq_false_iff, Bool.not_eq_true', Bool.not_eq_false', bne_iff_ne, beq_iff_eq, beq_eq_false_iff_ne, bne_eq_false_iff_eq, ne_eq, Decidable.not_not, Int.not_lt, Int.not_le, gt_iff_lt, ge_iff_le, Bool.true_eq_false, Bool.false_eq_true, not_true_eq_false, not_false_eq_true] at h1p
    refine g_exit ?_
    refine x_then (x_then (x_eq ?_))
    refine n_then ?_
    have S := S.nil
    refine g_seq ?_
    -- region 6 law.go:75
    refine g_region ?_
    refine wl_of (op_y (wn rfl) rfl rfl S (y_assign rfl S rfl) fun a S => ?_)
    refine gl_nil ?_
    refine n_then ?_
    refine g_ret ?_
    refine ret1 rfl S rfl ?_
    exact ⟨congrArg Value.bool (decide_eq_false (find_no (fun j hj => hno j hj (by omega)))).symm, H.toExt⟩
/-- foyer/foyerlaw21.made -/
theorem made_long (v1 v2 : Value) (order : List Int) (width span from_ : Int) (l : List Op) (w0 : World) (hv1 : IsSl w0 v1 1 encI order) (hv2 : IsSl w0 v2 3 Op.enc l) (hlong : order.length > 60 ∨ l.length > 40) :
    Ret Try.prog 21 #[v1, .int .i64 width, .int .i64 span, .int .i64 from_, v2] w0 (fun u w => u = .pointer none ∧ Ext w0 w) := by
  refine ret_of_wp (nt := 61) Try.func21 rfl rfl rfl (fl := [(0, v1), (1, .int .i64 width), (2, .int .i64 span), (3, .int .i64 from_), (4, v2)]) rfl (fun a S => ?_)
  have H := HSat.start w0
  have H := H.ro0 (Sl v1 1 encI order) rfl (hv1)
  have H := H.ro0 (Sl v2 3 Op.enc l) rfl (hv2)
  refine g_seq ?_
  -- region 0 law.go:53
  refine g_region ?_
  refine wl_of (op_y (wn rfl) rfl rfl S (y_assign rfl S rfl) fun a S => ?_)
  refine gl_nil ?_
  refine n_then ?_
  refine g_seq ?_
  refine g_seq ?_
  -- region 1 law.go:54
  refine g_region ?_
  refine wl_of (op_y (wn rfl) rfl rfl S (y_move rfl S rfl) fun a S => ?_)
  refine wl_of (op_y (wn rfl) rfl rfl S (y_lens rfl Try.underlying22 S H rfl) fun a S => ?_)
  refine wl_of (op_y (wn rfl) rfl rfl S (y_bin rfl S rfl rfl rfl) fun a S => ?_)
  refine wl_of (op_y (wn rfl) rfl rfl S (y_move rfl S rfl) fun a S => ?_)
  refine' wl_or 3 17 rfl S H rfl rfl rfl rfl rfl rfl rfl (fun _ S => (wn rfl)) (fun h1 kk => ?yh1) (fun a w S H => ?_)
  case yh1 =>
    have h1p := h1; try simp only [Option.isNone_some, Option.isNone_none, Option.isSome_some, Option.isSome_none, false_or, or_false, true_and, and_true, decide_eq_true_eq, decide_eq_false_iff_not, Bool.or_eq_true, Bool.and_eq_true, Bool.or_eq_false_iff, Bool.and_eq_false_iff, Bool.not_eq_true', Bool.not_eq_false', bne_iff_ne, beq_iff_eq, beq_eq_false_iff_ne, bne_eq_false_iff_eq, ne_eq, Decidable.not_not, Int.not_lt, Int.not_le, gt_iff_lt, ge_iff_le, Bool.true_eq_false, Bool.false_eq_true, not_true_eq_false, not_false_eq_true] at h1p
    refine wl_of (op_y (wg' 17 rfl rfl S rfl h1 rfl) rfl rfl S (y_move rfl S rfl) fun a S => ?_)
    refine wl_of (op_y (wg' 17 rfl rfl S rfl h1 rfl) rfl rfl S (y_lens rfl Try.underlying23 S H rfl) fun a S => ?_)
    refine wl_of (op_y (wg' 17 rfl rfl S rfl h1 rfl) rfl rfl S (y_bin rfl S rfl rfl rfl) fun a S => ?_)
    refine wl_of (op_y (wn rfl) rfl rfl S (y_or' rfl h1 S rfl rfl) fun a S => ?_)
    exact kk _ _ (S.join 4 21 rfl rfl) H
  refine gl_nil ?_
  refine n_then ?_
  have S := ((((((S.nil.cons S 4 rfl).cons S 3 rfl).cons S 2 rfl).cons S 1 rfl).cons S 0 rfl).cons S 10 rfl).cons S 21 rfl
  -- cond 1
  refine c_if S rfl (fun h2 => ?_) (fun h2 => ?_)
  · have h2p := h2; try simp only [Option.isNone_some, Option.isNone_none, Option.isSome_some, Option.isSome_none, false_or, or_false, true_and, and_true, decide_eq_true_eq, decide_eq_false_iff_not, Bool.or_eq_true, Bool.and_eq_true, Bool.or_eq_false_iff, Bool.and_eq_false_iff, Bool.not_eq_true', Bool.not_eq_false', bne_iff_ne, beq_iff_eq, beq_eq_false_iff_ne, bne_eq_false_iff_eq, ne_eq, Decidable.not_not, Int.not_lt, Int.not_le, gt_iff_lt, ge_iff_le, Bool.true_eq_false, Bool.false_eq_true, not_true_eq_false, not_false_eq_true] at h2p
    refine g_seq ?_
    -- region 2 law.go:55
    refine g_region ?_
    refine wl_of (op_y (wn rfl) rfl rfl S (y_assign rfl S rfl) fun a S => ?_)
    refine gl_nil ?_
    refine n_then ?_
    refine g_ret ?_
    refine r_then (ret1 rfl S rfl ?_)
    exact ⟨rfl, H.toExt⟩
  · have h2p := h2; try simp only [Option.isNone_some, Option.isNone_none, Option.isSome_some, Option.isSome_none, false_or, or_false, true_and, and_true, decide_eq_true_eq, decide_eq_false_iff_not, Bool.or_eq_true, Bool.and_eq_true, Bool.or_eq_false_iff, Bool.and_eq_false_iff, Bool.not_eq_true', Bool.not_eq_false', bne_iff_ne, beq_iff_eq, beq_eq_false_iff_ne, bne_eq_false_iff_eq, ne_eq, Decidable.not_not, Int.not_lt, Int.not_le, gt_iff_lt, ge_iff_le, Bool.true_eq_false, Bool.false_eq_true, not_true_eq_false, not_false_eq_true] at h2p
    all_goals (
      exfalso; simp only [Bool.or_eq_false_iff, decide_eq_false_iff_not] at h2; omega)
/-- foyer/foyerlaw21.made -/
theorem made_bad (v1 v2 : Value) (order : List Int) (width span from_ : Int) (l : List Op) (w0 : World) (hv1 : IsSl w0 v1 1 encI order) (hv2 : IsSl w0 v2 3 Op.enc l) (hbad : newOK order width span from_ = false) :
    Ret Try.prog 21 #[v1, .int .i64 width, .int .i64 span, .int .i64 from_, v2] w0 (fun u w => u = .pointer none ∧ Ext w0 w) := by
  refine ret_of_wp (nt := 61) Try.func21 rfl rfl rfl (fl := [(0, v1), (1, .int .i64 width), (2, .int .i64 span), (3, .int .i64 from_), (4, v2)]) rfl (fun a S => ?_)
  have H := HSat.start w0
  have H := H.ro0 (Sl v1 1 encI order) rfl (hv1)
  have H := H.ro0 (Sl v2 3 Op.enc l) rfl (hv2)
  refine g_seq ?_
  -- region 0 law.go:53
  refine g_region ?_
  refine wl_of (op_y (wn rfl) rfl rfl S (y_assign rfl S rfl) fun a S => ?_)
  refine gl_nil ?_
  refine n_then ?_
  refine g_seq ?_
  refine g_seq ?_
  -- region 1 law.go:54
  refine g_region ?_
  refine wl_of (op_y (wn rfl) rfl rfl S (y_move rfl S rfl) fun a S => ?_)
  refine wl_of (op_y (wn rfl) rfl rfl S (y_lens rfl Try.underlying22 S H rfl) fun a S => ?_)
  refine wl_of (op_y (wn rfl) rfl rfl S (y_bin rfl S rfl rfl rfl) fun a S => ?_)
  refine wl_of (op_y (wn rfl) rfl rfl S (y_move rfl S rfl) fun a S => ?_)
  refine' wl_or 3 17 rfl S H rfl rfl rfl rfl rfl rfl rfl (fun _ S => (wn rfl)) (fun h1 kk => ?yh1) (fun a w S H => ?_)
  case yh1 =>
    have h1p := h1; try simp only [Option.isNone_some, Option.isNone_none, Option.isSome_some, Option.isSome_none, false_or, or_false, true_and, and_true, decide_eq_true_eq, decide_eq_false_iff_not, Bool.or_eq_true, Bool.and_eq_true, Bool.or_eq_false_iff, Bool.and_eq_false_iff, Bool.not_eq_true', Bool.not_eq_false', bne_iff_ne, beq_iff_eq, beq_eq_false_iff_ne, bne_eq_false_iff_eq, ne_eq, Decidable.not_not, Int.not_lt, Int.not_le, gt_iff_lt, ge_iff_le, Bool.true_eq_false, Bool.false_eq_true, not_true_eq_false, not_false_eq_true] at h1p
    refine wl_of (op_y (wg' 17 rfl rfl S rfl h1 rfl) rfl rfl S (y_move rfl S rfl) fun a S => ?_)
    refine wl_of (op_y (wg' 17 rfl rfl S rfl h1 rfl) rfl rfl S (y_lens rfl Try.underlying23 S H rfl) fun a S => ?_)
    refine wl_of (op_y (wg' 17 rfl rfl S rfl h1 rfl) rfl rfl S (y_bin rfl S rfl rfl rfl) fun a S => ?_)
    refine wl_of (op_y (wn rfl) rfl rfl S (y_or' rfl h1 S rfl rfl) fun a S => ?_)
    exact kk _ _ (S.join 4 21 rfl rfl) H
  refine gl_nil ?_
  refine n_then ?_
  have S := ((((((S.nil.cons S 4 rfl).cons S 3 rfl).cons S 2 rfl).cons S 1 rfl).cons S 0 rfl).cons S 10 rfl).cons S 21 rfl
  -- cond 1
  refine c_if S rfl (fun h2 => ?_) (fun h2 => ?_)
  · have h2p := h2; try simp only [Option.isNone_some, Option.isNone_none, Option.isSome_some, Option.isSome_none, false_or, or_false, true_and, and_true, decide_eq_true_eq, decide_eq_false_iff_not, Bool.or_eq_true, Bool.and_eq_true, Bool.or_eq_false_iff, Bool.and_eq_false_iff, Bool.not_eq_true', Bool.not_eq_false', bne_iff_ne, beq_iff_eq, beq_eq_false_iff_ne, bne_eq_false_iff_eq, ne_eq, Decidable.not_not, Int.not_lt, Int.not_le, gt_iff_lt, ge_iff_le, Bool.true_eq_false, Bool.false_eq_true, not_true_eq_false, not_false_eq_true] at h2p
    refine g_seq ?_
    -- region 2 law.go:55
    refine g_region ?_
    refine wl_of (op_y (wn rfl) rfl rfl S (y_assign rfl S rfl) fun a S => ?_)
    refine gl_nil ?_
    refine n_then ?_
    refine g_ret ?_
    refine r_then (ret1 rfl S rfl ?_)
    exact ⟨rfl, H.toExt⟩
  · have h2p := h2; try simp only [Option.isNone_some, Option.isNone_none, Option.isSome_some, Option.isSome_none, false_or, or_false, true_and, and_true, decide_eq_true_eq, decide_eq_false_iff_not, Bool.or_eq_true, Bool.and_eq_true, Bool.or_eq_false_iff, Bool.and_eq_false_iff, Bool.not_eq_true', Bool.not_eq_false', bne_iff_ne, beq_iff_eq, beq_eq_false_iff_ne, bne_eq_false_iff_eq, ne_eq, Decidable.not_not, Int.not_lt, Int.not_le, gt_iff_lt, ge_iff_le, Bool.true_eq_false, Bool.false_eq_true, not_true_eq_false, not_false_eq_true] at h2p
    refine g_skip ?_
    refine n_then ?_
    refine g_seq ?_
    -- region 3 law.go:57
    refine g_region ?_
    refine wl_of (op_y (wn rfl) rfl rfl S (y_move rfl S rfl) fun a S => ?_)
    refine wl_of (op_y (wn rfl) rfl rfl S (y_move rfl S rfl) fun a S => ?_)
    refine wl_of (op_y (wn rfl) rfl rfl S (y_move rfl S rfl) fun a S => ?_)
    refine wl_of (op_y (wn rfl) rfl rfl S (y_move rfl S rfl) fun a S => ?_)
    refine wl_of (op_call (wn rfl) rfl rfl S (co_func rfl Try.call10 S rfl) (new_bad v1 order width span from_ _ (H.sl v1) hbad) fun v w hc a S => ?_)
    obtain ⟨rfl, he⟩ := hc
    have H := H.ext he
    refine wl_of (op_y (wn rfl) rfl rfl S (y_move rfl S rfl) fun a S => ?_)
    refine wl_of (op_y (wn rfl) rfl rfl S (y_extract rfl S rfl rfl) fun a S => ?_)
    refine wl_of (op_y (wn rfl) rfl rfl S (y_extract rfl S rfl rfl) fun a S => ?_)
    refine wl_of (op_y (wn rfl) rfl rfl S (y_assign rfl S rfl) fun a S => ?_)
    refine wl_of (op_y (wn rfl) rfl rfl S (y_assign rfl S rfl) fun a S => ?_)
    refine gl_nil ?_
    refine n_then ?_
    have S := ((S.nil.cons S 4 rfl).cons S 10 rfl).cons S 11 rfl
    refine g_seq ?_
    refine g_seq ?_
    -- region 4 law.go:58
    refine g_region ?_
    refine wl_of (op_y (wn rfl) rfl rfl S (y_assign rfl S rfl) fun a S => ?_)
    refine gl_nil ?_
    refine n_then ?_
    refine g_block ?_
    have SU := ((S.nil.cons S 4 rfl).cons S 10 rfl).cons S 11 rfl
    refine loop_k (X := Nat) SU (fun k => [(13, .int .i64 (k : Int))]) (fun k => k ≤ l.length) (fun k => l.length - k) 0 (S.nil.cons S 13 rfl) H (by omega) (fun k a w S H hi => ?_)
    simp only [List.cons_append, List.nil_append] at S hi
    refine g_seq ?_
    refine g_seq ?_
    -- region 5 law.go:58
    refine g_region ?_
    refine wl_of (op_y (wn rfl) rfl rfl S (y_move rfl S rfl) fun a S => ?_)
    refine wl_of (op_y (wn rfl) rfl rfl S (y_move rfl S rfl) fun a S => ?_)
    refine wl_of (op_y (wn rfl) rfl rfl S (y_lens rfl Try.underlying23 S H rfl) fun a S => ?_)
    refine wl_of (op_y (wn rfl) rfl rfl S (y_bin rfl S rfl rfl rfl) fun a S => ?_)
    refine gl_nil ?_
    refine n_then ?_
    -- cond 2
    refine c_if S rfl (fun h3 => ?_) (fun h3 => ?_)
    · have h3p := h3; try simp only [Option.isNone_some, Option.isNone_none, Option.isSome_some, Option.isSome_none, false_or, or_false, true_and, and_true, decide_eq_true_eq, decide_eq_false_iff_not, Bool.or_eq_true, Bool.and_eq_true, Bool.or_eq_false_iff, Bool.and_eq_false_iff, Bool.not_eq_true', Bool.not_eq_false', bne_iff_ne, beq_iff_eq, beq_eq_false_iff_ne, bne_eq_false_iff_eq, ne_eq, Decidable.not_not, Int.not_lt, Int.not_le, gt_iff_lt, ge_iff_le, Bool.true_eq_false, Bool.false_eq_true, not_true_eq_false, not_false_eq_true] at h3p
      refine g_skip ?_
      refine n_then ?_
      refine g_seq ?_
      refine g_block ?_
      refine g_seq ?_
      -- region 7 law.go:59
      refine g_region ?_
      refine wl_of (op_y (wn rfl) rfl rfl S (y_move rfl S rfl) fun a S => ?_)
      refine wl_of (op_y (wn rfl) rfl rfl S (y_move rfl S rfl) fun a S => ?_)
      refine wl_of (op_y (wn rfl) rfl rfl S (y_iaddrn rfl Try.underlying23 Fsiz35 S H rfl rfl (by first | assumption | omega | (simp only [List.length_append, List.length_take, List.length_drop, List.length_replicate, List.length_set, List.length_map, List.length_cons, List.length_nil]; omega))) fun a S => ?_)
      refine wl_of (op_y (wn rfl) rfl rfl S (y_faddr rfl Ffo35_0 S rfl) fun a S => ?_)
      refine wl_of (op_y (wn rfl) rfl rfl S (y_loadsf _ rfl Fsca4 S H rfl (by first | assumption | omega | (simp only [List.length_append, List.length_take, List.length_drop, List.length_replicate, List.length_set, List.length_map, List.length_cons, List.length_nil]; omega)) rfl) fun a S => ?_)
      refine gl_nil ?_
      refine n_then ?_
      -- cond 3 (both ways go on)
      refine c_if S rfl (fun h4 => ?_) (fun h4 => ?_)
      · have h4p := h4; try simp only [Option.isNone_some, Option.isNone_none, Option.isSome_some, Option.isSome_none, false_or, or_false, true_and, and_true, decide_eq_true_eq, decide_eq_false_iff_not, Bool.or_eq_true, Bool.and_eq_true, Bool.or_eq_false_iff, Bool.and_eq_false_iff, Bool.not_eq_true', Bool.not_eq_false', bne_iff_ne, beq_iff_eq, beq_eq_false_iff_ne, bne_eq_false_iff_eq, ne_eq, Decidable.not_not, Int.not_lt, Int.not_le, gt_iff_lt, ge_iff_le, Bool.true_eq_false, Bool.false_eq_true, not_true_eq_false, not_false_eq_true] at h4p
        -- region 8 law.go:60
        refine g_region ?_
        refine wl_of (op_y (wn rfl) rfl rfl S (y_move rfl S rfl) fun a S => ?_)
        refine wl_of (op_y (wn rfl) rfl rfl S (y_move rfl S rfl) fun a S => ?_)
        refine wl_of (op_y (wn rfl) rfl rfl S (y_move rfl S rfl) fun a S => ?_)
        refine wl_of (op_y (wn rfl) rfl rfl S (y_iaddrn rfl Try.underlying23 Fsiz35 S H rfl rfl (by first | assumption | omega | (simp only [List.length_append, List.length_take, List.length_drop, List.length_replicate, List.length_set, List.length_map, List.length_cons, List.length_nil]; omega))) fun a S => ?_)
        refine wl_of (op_y (wn rfl) rfl rfl S (y_faddr rfl Ffo35_1 S rfl) fun a S => ?_)
        refine wl_of (op_y (wn rfl) rfl rfl S (y_loadsf _ rfl Fsca3 S H rfl (by first | assumption | omega | (simp only [List.length_append, List.length_take, List.length_drop, List.length_replicate, List.length_set, List.length_map, List.length_cons, List.length_nil]; omega)) rfl) fun a S => ?_)
        refine wl_of (op_call (wn rfl) rfl rfl S (co_func rfl Try.call17 S rfl) (leave_nil _ _) fun v w hc a S => ?_)
        obtain ⟨rfl, he⟩ := hc
        have H := H.ext he
        refine gl_nil ?_
        refine n_block ?_
        refine n_then ?_
        -- region 6 law.go:58
        refine g_region ?_
        refine wl_of (op_y (wn rfl) rfl rfl S (y_move rfl S rfl) fun a S => ?_)
        refine wl_of (op_y (wn rfl) rfl rfl S (y_add rfl S rfl rfl (by omega)) fun a S => ?_)
        refine wl_of (op_y (wn rfl) rfl rfl S (y_assign rfl S rfl) fun a S => ?_)
        refine gl_nil ?_
        refine n_then ?_
        refine ⟨k + 1, S.nil.cons S 13 rfl, ((S.nil.cons S 4 rfl).cons S 10 rfl).cons S 11 rfl, H, ?_, ?_⟩
        · omega
        · omega
      · have h4p := h4; try simp only [Option.isNone_some, Option.isNone_none, Option.isSome_some, Option.isSome_none, false_or, or_false, true_and, and_true, decide_eq_true_eq, decide_eq_false_iff_not, Bool.or_eq_true, Bool.and_eq_true, Bool.or_eq_false_iff, Bool.and_eq_false_iff, Bool.not_eq_true', Bool.not_eq_false', bne_iff_ne, beq_iff_eq, beq_eq_false_iff_ne, bne_eq_false_iff_eq, ne_eq, Decidable.not_not, Int.not_lt, Int.not_le, gt_iff_lt, ge_iff_le, Bool.true_eq_false, Bool.false_eq_true, not_true_eq_false, not_false_eq_true] at h4p
        -- region 9 DRAWS law.go:62
        refine region_st (loud := []) (tails := []) (free := []) [0, 1, 2, 3, 4, 5, 6, 7, 8, 9, 10, 11] [] Fmo (by kernel_rfl) (by kernel_rfl) rfl H ?_
        refine m_w rfl rfl (wn rfl) rfl rfl S (fun w H => y_move rfl S rfl) fun a S => ?_
        refine m_w rfl rfl (wn rfl) rfl rfl S (fun w H => y_move rfl S rfl) fun a S => ?_
        refine m_w rfl rfl (wn rfl) rfl rfl S (fun w H => y_move rfl S rfl) fun a S => ?_
        refine m_w rfl rfl (wn rfl) rfl rfl S (fun w H => y_iaddrn rfl Try.underlying23 Fsiz35 S H rfl rfl (by first | assumption | omega | (simp only [List.length_append, List.length_take, List.length_drop, List.length_replicate, List.length_set, List.length_map, List.length_cons, List.length_nil]; omega))) fun a S => ?_
        refine m_w rfl rfl (wn rfl) rfl rfl S (fun w H => y_faddr rfl Ffo35_1 S rfl) fun a S => ?_
        refine m_loadsf _ rfl rfl (wn rfl) rfl rfl S rfl Fsca3 rfl (by first | assumption | omega | (simp only [List.length_append, List.length_take, List.length_drop, List.length_replicate, List.length_set, List.length_map, List.length_cons, List.length_nil]; omega)) rfl fun a S => ?_
        refine m_w rfl rfl (wn rfl) rfl rfl S (fun w H => y_move rfl S rfl) fun a S => ?_
        refine m_w rfl rfl (wn rfl) rfl rfl S (fun w H => y_move rfl S rfl) fun a S => ?_
        refine m_w rfl rfl (wn rfl) rfl rfl S (fun w H => y_iaddrn rfl Try.underlying23 Fsiz35 S H rfl rfl (by first | assumption | omega | (simp only [List.length_append, List.length_take, List.length_drop, List.length_replicate, List.length_set, List.length_map, List.length_cons, List.length_nil]; omega))) fun a S => ?_
        refine m_w rfl rfl (wn rfl) rfl rfl S (fun w H => y_faddr rfl Ffo35_2 S rfl) fun a S => ?_
        refine m_loadsf _ rfl rfl (wn rfl) rfl rfl S rfl Fsca3 rfl (by first | assumption | omega | (simp only [List.length_append, List.length_take, List.length_drop, List.length_replicate, List.length_set, List.length_map, List.length_cons, List.length_nil]; omega)) rfl fun a S => ?_
        refine m_c rfl rfl (wn rfl) rfl rfl S (fun w => co_func rfl Try.call19 S rfl) (fun w H => serve_nil _ _ _) fun a S => ?_
        refine m_nil (fun w H => ?_)
        refine n_block ?_
        refine n_then ?_
        -- region 6 law.go:58
        refine g_region ?_
        refine wl_of (op_y (wn rfl) rfl rfl S (y_move rfl S rfl) fun a S => ?_)
        refine wl_of (op_y (wn rfl) rfl rfl S (y_add rfl S rfl rfl (by omega)) fun a S => ?_)
        refine wl_of (op_y (wn rfl) rfl rfl S (y_assign rfl S rfl) fun a S => ?_)
        refine gl_nil ?_
        refine n_then ?_
        refine ⟨k + 1, S.nil.cons S 13 rfl, ((S.nil.cons S 4 rfl).cons S 10 rfl).cons S 11 rfl, H, ?_, ?_⟩
        · omega
        · omega
    · have h3p := h3; try simp only [Option.isNone_some, Option.isNone_none, Option.isSome_some, Option.isSome_none, false_or, or_false, true_and, and_true, decide_eq_true_eq, decide_eq_false_iff_not, Bool.or_eq_true, Bool.and_eq_true, Bool.or_eq_false_iff, Bool.and_eq_false_iff, Bool.not_eq_true', Bool.not_eq_false', bne_iff_ne, beq_iff_eq, beq_eq_false_iff_ne, bne_eq_false_iff_eq, ne_eq, Decidable.not_not, Int.not_lt, Int.not_le, gt_iff_lt, ge_iff_le, Bool.true_eq_false, Bool.false_eq_true, not_true_eq_false, not_false_eq_true] at h3p
      refine g_exit ?_
      refine x_then (x_then (x_eq ?_))
      refine n_then ?_
      have S := (S.nil.cons S 10 rfl).cons S 11 rfl
      refine g_seq ?_
      -- region 10 law.go:65
      refine g_region ?_
      refine wl_of (op_y (wn rfl) rfl rfl S (y_move rfl S rfl) fun a S => ?_)
      refine wl_of (op_y (wn rfl) rfl rfl S (y_assign rfl S rfl) fun a S => ?_)
      refine gl_nil ?_
      refine n_then ?_
      refine g_ret ?_
      refine ret1 rfl S rfl ?_
      exact ⟨rfl, H.toExt⟩
set_option maxHeartbeats 1000000 in
/-- foyer/foyerlaw21.made -/
theorem made_ok (v1 v2 : Value) (order : List Int) (width span from_ : Int) (l : List Op) (w0 : World) (hv1 : IsSl w0 v1 1 encI order) (hv2 : IsSl w0 v2 3 Op.enc l) (hok : newOK order width span from_ = true) (hl1 : order.length ≤ 60) (hl2 : l.length ≤ 40) :
    Ret Try.prog 21 #[v1, .int .i64 width, .int .i64 span, .int .i64 from_, v2] w0 (fun u w => ∃ b ms mp vo vs, u = .pointer (some ⟨b, 0, none⟩) ∧ HSat No w0 [RoomA b ms mp vo (madeRM order width span from_ l) vs] w) := by
  refine ret_of_wp (nt := 61) Try.func21 rfl rfl rfl (fl := [(0, v1), (1, .int .i64 width), (2, .int .i64 span), (3, .int .i64 from_), (4, v2)]) rfl (fun a S => ?_)
  have H := HSat.start w0
  have H := H.ro0 (Sl v1 1 encI order) rfl (hv1)
  have H := H.ro0 (Sl v2 3 Op.enc l) rfl (hv2)
  refine g_seq ?_
  -- region 0 law.go:53
  refine g_region ?_
  refine wl_of (op_y (wn rfl) rfl rfl S (y_assign rfl S rfl) fun a S => ?_)
  refine gl_nil ?_
  refine n_then ?_
  refine g_seq ?_
  refine g_seq ?_
  -- region 1 law.go:54
  refine g_region ?_
  refine wl_of (op_y (wn rfl) rfl rfl S (y_move rfl S rfl) fun a S => ?_)
  refine wl_of (op_y (wn rfl) rfl rfl S (y_lens rfl Try.underlying22 S H rfl) fun a S => ?_)
  refine wl_of (op_y (wn rfl) rfl rfl S (y_bin rfl S rfl rfl rfl) fun a S => ?_)
  refine wl_of (op_y (wn rfl) rfl rfl S (y_move rfl S rfl) fun a S => ?_)
  refine' wl_or 3 17 rfl S H rfl rfl rfl rfl rfl rfl rfl (fun _ S => (wn rfl)) (fun h1 kk => ?yh1) (fun a w S H => ?_)
  case yh1 =>
    have h1p := h1; try simp only [Option.isNone_some, Option.isNone_none, Option.isSome_some, Option.isSome_none, false_or, or_false, true_and, and_true, decide_eq_true_eq, decide_eq_false_iff_not, Bool.or_eq_true, Bool.and_eq_true, Bool.or_eq_false_iff, Bool.and_eq_false_iff, Bool.not_eq_true', Bool.not_eq_false', bne_iff_ne, beq_iff_eq, beq_eq_false_iff_ne, bne_eq_false_iff_eq, ne_eq, Decidable.not_not, Int.not_lt, Int.not_le, gt_iff_lt, ge_iff_le, Bool.true_eq_false, Bool.false_eq_true, not_true_eq_false, not_false_eq_true] at h1p
    refine wl_of (op_y (wg' 17 rfl rfl S rfl h1 rfl) rfl rfl S (y_move rfl S rfl) fun a S => ?_)
    refine wl_of (op_y (wg' 17 rfl rfl S rfl h1 rfl) rfl rfl S (y_lens rfl Try.underlying23 S H rfl) fun a S => ?_)
    refine wl_of (op_y (wg' 17 rfl rfl S rfl h1 rfl) rfl rfl S (y_bin rfl S rfl rfl rfl) fun a S => ?_)
    refine wl_of (op_y (wn rfl) rfl rfl S (y_or' rfl h1 S rfl rfl) fun a S => ?_)
    exact kk _ _ (S.join 4 21 rfl rfl) H
  refine gl_nil ?_
  refine n_then ?_
  have S := ((((((S.nil.cons S 4 rfl).cons S 3 rfl).cons S 2 rfl).cons S 1 rfl).cons S 0 rfl).cons S 10 rfl).cons S 21 rfl
  -- cond 1
  refine c_if S rfl (fun h2 => ?_) (fun h2 => ?_)
  · have h2p := h2; try simp only [Option.isNone_some, Option.isNone_none, Option.isSome_some, Option.isSome_none, false_or, or_false, true_and, and_true, decide_eq_true_eq, decide_eq_false_iff_not, Bool.or_eq_true, Bool.and_eq_true, Bool.or_eq_false_iff, Bool.and_eq_false_iff, Bool.not_eq_true', Bool.not_eq_false', bne_iff_ne, beq_iff_eq, beq_eq_false_iff_ne, bne_eq_false_iff_eq, ne_eq, Decidable.not_not, Int.not_lt, Int.not_le, gt_iff_lt, ge_iff_le, Bool.true_eq_false, Bool.false_eq_true, not_true_eq_false, not_false_eq_true] at h2p
    all_goals (
      exfalso; simp only [Bool.or_eq_true, decide_eq_true_eq] at h2; omega)
  · have h2p := h2; try simp only [Option.isNone_some, Option.isNone_none, Option.isSome_some, Option.isSome_none, false_or, or_false, true_and, and_true, decide_eq_true_eq, decide_eq_false_iff_not, Bool.or_eq_true, Bool.and_eq_true, Bool.or_eq_false_iff, Bool.and_eq_false_iff, Bool.not_eq_true', Bool.not_eq_false', bne_iff_ne, beq_iff_eq, beq_eq_false_iff_ne, bne_eq_false_iff_eq, ne_eq, Decidable.not_not, Int.not_lt, Int.not_le, gt_iff_lt, ge_iff_le, Bool.true_eq_false, Bool.false_eq_true, not_true_eq_false, not_false_eq_true] at h2p
    refine g_skip ?_
    refine n_then ?_
    refine g_seq ?_
    -- region 3 law.go:57
    refine g_region ?_
    refine wl_of (op_y (wn rfl) rfl rfl S (y_move rfl S rfl) fun a S => ?_)
    refine wl_of (op_y (wn rfl) rfl rfl S (y_move rfl S rfl) fun a S => ?_)
    refine wl_of (op_y (wn rfl) rfl rfl S (y_move rfl S rfl) fun a S => ?_)
    refine wl_of (op_y (wn rfl) rfl rfl S (y_move rfl S rfl) fun a S => ?_)
    refine wl_of (op_call (wn rfl) rfl rfl S (co_func rfl Try.call10 S rfl) (new_ok v1 order width span from_ _ (H.sl v1) hok) fun v w hc a S => ?_)
    obtain ⟨b, ms, mp, vo, vs, rfl, H1⟩ := hc
    have H := H.call1 H1 rfl
    refine wl_of (op_y (wn rfl) rfl rfl S (y_move rfl S rfl) fun a S => ?_)
    refine wl_of (op_y (wn rfl) rfl rfl S (y_extract rfl S rfl rfl) fun a S => ?_)
    refine wl_of (op_y (wn rfl) rfl rfl S (y_extract rfl S rfl rfl) fun a S => ?_)
    refine wl_of (op_y (wn rfl) rfl rfl S (y_assign rfl S rfl) fun a S => ?_)
    refine wl_of (op_y (wn rfl) rfl rfl S (y_assign rfl S rfl) fun a S => ?_)
    refine gl_nil ?_
    refine n_then ?_
    have S := ((S.nil.cons S 4 rfl).cons S 10 rfl).cons S 11 rfl
    refine g_seq ?_
    refine g_seq ?_
    -- region 4 law.go:58
    refine g_region ?_
    refine wl_of (op_y (wn rfl) rfl rfl S (y_assign rfl S rfl) fun a S => ?_)
    refine gl_nil ?_
    refine n_then ?_
    refine g_block ?_
    have SU := ((S.nil.cons S 4 rfl).cons S 10 rfl).cons S 11 rfl
    refine loopW (X := Nat) SU (fun k => [(13, .int .i64 (k : Int))]) (fun k w => k ≤ l.length ∧ ∃ vs, (madeRM order width span from_ (l.take k)).WF k ∧ HSat No w0 [RoomA b ms mp vo (madeRM order width span from_ (l.take k)) vs, Sl v2 3 Op.enc l, Sl v1 1 encI order] w) (fun k => l.length - k) 0 (S.nil.cons S 13 rfl) (⟨by omega, vs, new_wf hok, H.take [RoomA b ms mp vo (newRM order width span from_) vs, Sl v2 3 Op.enc l, Sl v1 1 encI order]⟩) (fun k a w S hW => ?_)
    simp only [List.cons_append, List.nil_append] at S
    obtain ⟨hk, vs, hwr, H⟩ := hW
    obtain ⟨r, hr⟩ : ∃ r, r = madeRM order width span from_ (l.take k) := ⟨_, rfl⟩
    rw [← hr] at hwr H
    refine g_seq ?_
    refine g_seq ?_
    -- region 5 law.go:58
    refine g_region ?_
    refine wl_of (op_y (wn rfl) rfl rfl S (y_move rfl S rfl) fun a S => ?_)
    refine wl_of (op_y (wn rfl) rfl rfl S (y_move rfl S rfl) fun a S => ?_)
    refine wl_of (op_y (wn rfl) rfl rfl S (y_lens rfl Try.underlying23 S H rfl) fun a S => ?_)
    refine wl_of (op_y (wn rfl) rfl rfl S (y_bin rfl S rfl rfl rfl) fun a S => ?_)
    refine gl_nil ?_
    refine n_then ?_
    -- cond 2
    refine c_if S rfl (fun h3 => ?_) (fun h3 => ?_)
    · have h3p := h3; try simp only [Option.isNone_some, Option.isNone_none, Option.isSome_some, Option.isSome_none, false_or, or_false, true_and, and_true, decide_eq_true_eq, decide_eq_false_iff_not, Bool.or_eq_true, Bool.and_eq_true, Bool.or_eq_false_iff, Bool.and_eq_false_iff, Bool.not_eq_true', Bool.not_eq_false', bne_iff_ne, beq_iff_eq, beq_eq_false_iff_ne, bne_eq_false_iff_eq, ne_eq, Decidable.not_not, Int.not_lt, Int.not_le, gt_iff_lt, ge_iff_le, Bool.true_eq_false, Bool.false_eq_true, not_true_eq_false, not_false_eq_true] at h3p
      refine g_skip ?_
      refine n_then ?_
      refine g_seq ?_
      refine g_block ?_
      refine g_seq ?_
      -- region 7 law.go:59
      refine g_region ?_
      refine wl_of (op_y (wn rfl) rfl rfl S (y_move rfl S rfl) fun a S => ?_)
      refine wl_of (op_y (wn rfl) rfl rfl S (y_move rfl S rfl) fun a S => ?_)
      refine wl_of (op_y (wn rfl) rfl rfl S (y_iaddrn rfl Try.underlying23 Fsiz35 S H rfl rfl (by first | assumption | omega | (simp only [List.length_append, List.length_take, List.length_drop, List.length_replicate, List.length_set, List.length_map, List.length_cons, List.length_nil]; omega))) fun a S => ?_)
      refine wl_of (op_y (wn rfl) rfl rfl S (y_faddr rfl Ffo35_0 S rfl) fun a S => ?_)
      refine wl_of (op_y (wn rfl) rfl rfl S (y_loadsf _ rfl Fsca4 S H rfl (by first | assumption | omega | (simp only [List.length_append, List.length_take, List.length_drop, List.length_replicate, List.length_set, List.length_map, List.length_cons, List.length_nil]; omega)) rfl) fun a S => ?_)
      refine gl_nil ?_
      refine n_then ?_
      -- cond 3 (both ways go on)
      refine c_if S rfl (fun h4 => ?_) (fun h4 => ?_)
      · have h4p := h4; try simp only [Option.isNone_some, Option.isNone_none, Option.isSome_some, Option.isSome_none, false_or, or_false, true_and, and_true, decide_eq_true_eq, decide_eq_false_iff_not, Bool.or_eq_true, Bool.and_eq_true, Bool.or_eq_false_iff, Bool.and_eq_false_iff, Bool.not_eq_true', Bool.not_eq_false', bne_iff_ne, beq_iff_eq, beq_eq_false_iff_ne, bne_eq_false_iff_eq, ne_eq, Decidable.not_not, Int.not_lt, Int.not_le, gt_iff_lt, ge_iff_le, Bool.true_eq_false, Bool.false_eq_true, not_true_eq_false, not_false_eq_true] at h4p
        -- region 8 law.go:60
        refine g_region ?_
        refine wl_of (op_y (wn rfl) rfl rfl S (y_move rfl S rfl) fun a S => ?_)
        refine wl_of (op_y (wn rfl) rfl rfl S (y_move rfl S rfl) fun a S => ?_)
        refine wl_of (op_y (wn rfl) rfl rfl S (y_move rfl S rfl) fun a S => ?_)
        refine wl_of (op_y (wn rfl) rfl rfl S (y_iaddrn rfl Try.underlying23 Fsiz35 S H rfl rfl (by first | assumption | omega | (simp only [List.length_append, List.length_take, List.length_drop, List.length_replicate, List.length_set, List.length_map, List.length_cons, List.length_nil]; omega))) fun a S => ?_)
        refine wl_of (op_y (wn rfl) rfl rfl S (y_faddr rfl Ffo35_1 S rfl) fun a S => ?_)
        refine wl_of (op_y (wn rfl) rfl rfl S (y_loadsf _ rfl Fsca3 S H rfl (by first | assumption | omega | (simp only [List.length_append, List.length_take, List.length_drop, List.length_replicate, List.length_set, List.length_map, List.length_cons, List.length_nil]; omega)) rfl) fun a S => ?_)
        refine wl_of (op_call (wn rfl) rfl rfl S (co_func rfl Try.call17 S rfl) (leave_spec b ms mp vo vs r _ k _ H hwr) fun v w hc a S => ?_)
        obtain ⟨rfl, H⟩ := hc
        
        refine gl_nil ?_
        refine n_block ?_
        refine n_then ?_
        -- region 6 law.go:58
        refine g_region ?_
        refine wl_of (op_y (wn rfl) rfl rfl S (y_move rfl S rfl) fun a S => ?_)
        refine wl_of (op_y (wn rfl) rfl rfl S (y_add rfl S rfl rfl (by omega)) fun a S => ?_)
        refine wl_of (op_y (wn rfl) rfl rfl S (y_assign rfl S rfl) fun a S => ?_)
        refine gl_nil ?_
        refine n_then ?_
        have hms := made_step order width span from_ l k (by omega)
        rw [← hr] at hms
        have hsw := step_wf hwr l[k]
        first
        | (have hs : stepRM r l[k] = (leave r l[k].i).2 := by rw [stepRM, if_pos h4]
           rw [← hs] at H
           exact ⟨k + 1, S.nil.cons S 13 rfl, ((S.nil.cons S 4 rfl).cons S 10 rfl).cons S 11 rfl, ⟨by omega, vs, by rw [hms]; exact hsw, by rw [hms]; exact H⟩, by omega⟩)
        | (have hs : stepRM r l[k] = (serve r l[k].i l[k].now).2 := by rw [stepRM, if_neg (by rw [h4]; simp)]
           rw [← hs] at H
           exact ⟨k + 1, S.nil.cons S 13 rfl, ((S.nil.cons S 4 rfl).cons S 10 rfl).cons S 11 rfl, ⟨by omega, vs1, by rw [hms]; exact hsw, by rw [hms]; exact H⟩, by omega⟩)
      · have h4p := h4; try simp only [Option.isNone_some, Option.isNone_none, Option.isSome_some, Option.isSome_none, false_or, or_false, true_and, and_true, decide_eq_true_eq, decide_eq_false_iff_not, Bool.or_eq_true, Bool.and_eq_true, Bool.or_eq_false_iff, Bool.and_eq_false_iff, Bool.not_eq_true', Bool.not_eq_false', bne_iff_ne, beq_iff_eq, beq_eq_false_iff_ne, bne_eq_false_iff_eq, ne_eq, Decidable.not_not, Int.not_lt, Int.not_le, gt_iff_lt, ge_iff_le, Bool.true_eq_false, Bool.false_eq_true, not_true_eq_false, not_false_eq_true] at h4p
        -- region 9 DRAWS law.go:62
        refine region_st (loud := [11]) (tails := [11]) (free := []) [0, 1, 2, 3, 4, 5, 6, 7, 8, 9, 10, 11] [Sl v2 3 Op.enc l] Fmo (by kernel_rfl) (by kernel_rfl) rfl H ?_
        refine m_w rfl rfl (wn rfl) rfl rfl S (fun w H => y_move rfl S rfl) fun a S => ?_
        refine m_w rfl rfl (wn rfl) rfl rfl S (fun w H => y_move rfl S rfl) fun a S => ?_
        refine m_w rfl rfl (wn rfl) rfl rfl S (fun w H => y_move rfl S rfl) fun a S => ?_
        refine m_w rfl rfl (wn rfl) rfl rfl S (fun w H => y_iaddrn rfl Try.underlying23 Fsiz35 S H rfl rfl (by first | assumption | omega | (simp only [List.length_append, List.length_take, List.length_drop, List.length_replicate, List.length_set, List.length_map, List.length_cons, List.length_nil]; omega))) fun a S => ?_
        refine m_w rfl rfl (wn rfl) rfl rfl S (fun w H => y_faddr rfl Ffo35_1 S rfl) fun a S => ?_
        refine m_loadsf _ rfl rfl (wn rfl) rfl rfl S rfl Fsca3 rfl (by first | assumption | omega | (simp only [List.length_append, List.length_take, List.length_drop, List.length_replicate, List.length_set, List.length_map, List.length_cons, List.length_nil]; omega)) rfl fun a S => ?_
        refine m_w rfl rfl (wn rfl) rfl rfl S (fun w H => y_move rfl S rfl) fun a S => ?_
        refine m_w rfl rfl (wn rfl) rfl rfl S (fun w H => y_move rfl S rfl) fun a S => ?_
        refine m_w rfl rfl (wn rfl) rfl rfl S (fun w H => y_iaddrn rfl Try.underlying23 Fsiz35 S H rfl rfl (by first | assumption | omega | (simp only [List.length_append, List.length_take, List.length_drop, List.length_replicate, List.length_set, List.length_map, List.length_cons, List.length_nil]; omega))) fun a S => ?_
        refine m_w rfl rfl (wn rfl) rfl rfl S (fun w H => y_faddr rfl Ffo35_2 S rfl) fun a S => ?_
        refine m_loadsf _ rfl rfl (wn rfl) rfl rfl S rfl Fsca3 rfl (by first | assumption | omega | (simp only [List.length_append, List.length_take, List.length_drop, List.length_replicate, List.length_set, List.length_map, List.length_cons, List.length_nil]; omega)) rfl fun a S => ?_
        refine m_l rfl rfl (fun w H => op_call (wn rfl) rfl rfl S (co_func rfl Try.call19 S rfl) (serve_spec b ms mp vo vs r _ _ k _ H hwr (by omega)) fun v w hc a S => ?_)
        obtain ⟨rfl, vs1, H⟩ := hc
        
        refine m_tail H rfl ?_
        refine m_nil (fun w H => ?_)
        refine n_block ?_
        refine n_then ?_
        -- region 6 law.go:58
        refine g_region ?_
        refine wl_of (op_y (wn rfl) rfl rfl S (y_move rfl S rfl) fun a S => ?_)
        refine wl_of (op_y (wn rfl) rfl rfl S (y_add rfl S rfl rfl (by omega)) fun a S => ?_)
        refine wl_of (op_y (wn rfl) rfl rfl S (y_assign rfl S rfl) fun a S => ?_)
        refine gl_nil ?_
        refine n_then ?_
        have hms := made_step order width span from_ l k (by omega)
        rw [← hr] at hms
        have hsw := step_wf hwr l[k]
        first
        | (have hs : stepRM r l[k] = (leave r l[k].i).2 := by rw [stepRM, if_pos h4]
           rw [← hs] at H
           exact ⟨k + 1, S.nil.cons S 13 rfl, ((S.nil.cons S 4 rfl).cons S 10 rfl).cons S 11 rfl, ⟨by omega, vs, by rw [hms]; exact hsw, by rw [hms]; exact H⟩, by omega⟩)
        | (have hs : stepRM r l[k] = (serve r l[k].i l[k].now).2 := by rw [stepRM, if_neg (by rw [h4]; simp)]
           rw [← hs] at H
           exact ⟨k + 1, S.nil.cons S 13 rfl, ((S.nil.cons S 4 rfl).cons S 10 rfl).cons S 11 rfl, ⟨by omega, vs1, by rw [hms]; exact hsw, by rw [hms]; exact H⟩, by omega⟩)
    · have h3p := h3; try simp only [Option.isNone_some, Option.isNone_none, Option.isSome_some, Option.isSome_none, false_or, or_false, true_and, and_true, decide_eq_true_eq, decide_eq_false_iff_not, Bool.or_eq_true, Bool.and_eq_true, Bool.or_eq_false_iff, Bool.and_eq_false_iff, Bool.not_eq_true', Bool.not_eq_false', bne_iff_ne, beq_iff_eq, beq_eq_false_iff_ne, bne_eq_false_iff_eq, ne_eq, Decidable.not_not, Int.not_lt, Int.not_le, gt_iff_lt, ge_iff_le, Bool.true_eq_false, Bool.false_eq_true, not_true_eq_false, not_false_eq_true] at h3p
      obtain rfl : k = l.length := by omega
      rw [List.take_length] at hr
      refine g_exit ?_
      refine x_then (x_then (x_eq ?_))
      refine n_then ?_
      have S := (S.nil.cons S 10 rfl).cons S 11 rfl
      refine g_seq ?_
      -- region 10 law.go:65
      refine g_region ?_
      refine wl_of (op_y (wn rfl) rfl rfl S (y_move rfl S rfl) fun a S => ?_)
      refine wl_of (op_y (wn rfl) rfl rfl S (y_assign rfl S rfl) fun a S => ?_)
      refine gl_nil ?_
      refine n_then ?_
      refine g_ret ?_
      refine ret1 rfl S rfl ?_
      exact ⟨b, ms, mp, vo, vs, rfl, by rw [← hr]; exact H.take [RoomA b ms mp vo r vs]⟩

end Go.Proofs.Ytgplcgfdaoenfaa
