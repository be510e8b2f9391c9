/- The walks. No condition. -/
import Derived.Test.YtojmagbonbcffaaChecked
import Derived.Test.YtojmagbonbcffaaGwMap
import Derived.Test.YtojmagbonbcffaaFacts
import Derived.Test.YtojmagbonbcffaaPlain
import Derived.Test.YtojmagbonbcffaaW4
namespace Go.Proofs.Ytojmagbonbcffaa
open Go Go.Gw
set_option linter.unusedVariables false
set_option linter.unusedSimpArgs false
/-- (*foyer/foyerref49.Door).load -/
theorem load_spec {M : Nat → Prop} {u0 : World} {l : List Atom} (b : Nat) (r : RS) (v vp : Value) (c : Int) (all : Bool) (N : Nat) (w0 : World) (h0 : HSat M u0 (RDoorL b v vp r ++ l) w0) [hs : HasSl l v 1 Int encI r.res] (hw : r.WF N) (hN : N ≤ 100000) :
    Ret Try.prog 25 #[.pointer (some ⟨b, 0, none⟩), .int .i64 c, .bool all] w0 (fun u w => u = .int .i64 (rload r c all) ∧ Ext w0 w) := by
  refine ret_of_wp (n := 60) Try.func25 rfl rfl rfl (fl := [(0, .pointer (some ⟨b, 0, none⟩)), (1, .int .i64 c), (2, .bool all)]) rfl (fun a S => ?_)
  have H := rdoorReads h0
  have hsp := hw.span
  have hnw := hw.now
  have hpa := hw.past
  refine wp_seq ?_
  -- region 0 ref.go:41
  refine wp_region_lit ?_
  refine wl_of (op_y (wn rfl) rfl rfl S (y_assign rfl S rfl) fun a S => ?_)
  refine wpList_nil ?_
  refine n_then ?_
  refine wp_seq ?_
  -- region 1 ref.go:42
  refine wp_region_lit ?_
  refine wl_of (op_y (wn rfl) rfl rfl S (y_assign rfl S rfl) fun a S => ?_)
  refine wpList_nil ?_
  refine n_then ?_
  refine wp_seq ?_
  refine wp_seq ?_
  -- region 2 ref.go:43
  refine wp_region_lit ?_
  refine wl_of (op_y (wn rfl) rfl rfl S (y_assign rfl S rfl) fun a S => ?_)
  refine wpList_nil ?_
  refine n_then ?_
  refine wp_block ?_
  have SU := (((S.nil.cons S 2 rfl).cons S 1 rfl).cons S 0 rfl).cons S 6 rfl
  refine loop_k (X := Nat) SU (fun k => [(7, .int .i64 ((((r.past.take k).filter (counts r c all)).length : Nat) : Int)), (8, .int .i64 (k : Int))]) (fun k => k ≤ r.past.length) (fun k => r.past.length - k) 0 ((S.nil.cons S 8 rfl).cons S 7 rfl) H (by omega) (fun k a w S H hi => ?_)
  simp only [List.cons_append, List.nil_append] at S hi
  refine wp_seq ?_
  refine wp_seq ?_
  -- region 3 ref.go:43
  refine wp_region_lit ?_
  refine wl_of (op_y (wn rfl) rfl rfl S (y_move rfl S rfl) fun a S => ?_)
  refine wl_of (op_y (wn rfl) rfl rfl S (y_move rfl S rfl) fun a S => ?_)
  refine wl_of (op_y (wn rfl) rfl rfl S (y_nilCheck rfl S rfl) fun a S => ?_)
  refine wl_of (op_y (wn rfl) rfl rfl S (y_faddrb rfl Ffo56_4 S rfl) fun a S => ?_)
  refine wl_of (op_y (wn rfl) rfl rfl S (y_load rfl Fsca54 S H rfl rfl) fun a S => ?_)
  refine wl_of (op_y (wn rfl) rfl rfl S (y_lens rfl Try.underlying54 S H rfl) fun a S => ?_)
  refine wl_of (op_y (wn rfl) rfl rfl S (y_bin rfl S rfl rfl rfl) fun a S => ?_)
  refine wpList_nil ?_
  refine n_then ?_
  -- cond 1
  refine c_if S rfl (fun h1 => ?_) (fun h1 => ?_)
  · have h1p := h1; try simp only [Option.isNone_some, Option.isNone_none, Option.isSome_some, Option.isSome_none, false_or, or_false, true_and, and_true, decide_eq_true_eq, decide_eq_false_iff_not, Bool.or_eq_true, Bool.and_eq_true, Bool.or_eq_false_iff, Bool.and_eq_false_iff, Bool.not_eq_true', Bool.not_eq_false', bne_iff_ne, beq_iff_eq, beq_eq_false_iff_ne, bne_eq_false_iff_eq, ne_eq, Decidable.not_not, Int.not_lt, Int.not_le, gt_iff_lt, ge_iff_le, Bool.true_eq_false, Bool.false_eq_true, not_true_eq_false, not_false_eq_true] at h1p
    have htm := hw.times _ (List.getElem_mem (show k < r.past.length by omega))
    have hcl := List.length_filter_le (counts r c all) (r.past.take k)
    have htl : (r.past.take k).length ≤ r.past.length := by simp; omega
    refine wp_skip ?_
    refine n_then ?_
    refine wp_seq ?_
    refine wp_block ?_
    refine wp_seq ?_
    -- region 5 ref.go:44
    refine wp_region_lit ?_
    refine wl_of (op_y (wn rfl) rfl rfl S (y_move rfl S rfl) fun a S => ?_)
    refine wl_of (op_y (wn rfl) rfl rfl S (y_nilCheck rfl S rfl) fun a S => ?_)
    refine wl_of (op_y (wn rfl) rfl rfl S (y_faddrb rfl Ffo56_4 S rfl) fun a S => ?_)
    refine wl_of (op_y (wn rfl) rfl rfl S (y_load rfl Fsca54 S H rfl rfl) fun a S => ?_)
    refine wl_of (op_y (wn rfl) rfl rfl S (y_move rfl S rfl) fun a S => ?_)
    refine wl_of (op_y (wn rfl) rfl rfl S (y_iaddrn rfl Try.underlying54 Fsiz60 S H rfl rfl (by first | omega | (simp only [List.length_append, List.length_take, List.length_drop, List.length_replicate, List.length_set, List.length_map, List.length_cons, List.length_nil]; omega))) fun a S => ?_)
    refine wl_of (op_y (wn rfl) rfl rfl S (y_loadsa _ rfl S H rfl (by exact Fagg60) (by first | omega | (simp only [List.length_append, List.length_take, List.length_drop, List.length_replicate, List.length_set, List.length_map, List.length_cons, List.length_nil]; omega))) fun a S => ?_)
    refine wl_of (op_alloc (wn rfl) rfl rfl rfl S H Fzer60 fun b9 a w S H => ?_)
    refine wl_of (op_storea (wn rfl) rfl rfl S H rfl rfl rfl Fsiz60 rfl (cs' := [_, _, _]) rfl fun a w S H => ?_)
    refine wpList_nil ?_
    refine n_then ?_
    refine wp_seq ?_
    -- region 6 DRAWS ref.go:45
    refine region_st (loud := []) (tails := []) (free := []) [0, 1, 2, 3, 4, 5, 6, 7, 8, 9, 10, 11, 12, 13, 14, 15, 16, 17, 18, 19, 20, 21, 22, 23, 24, 25, 26, 27, 28, 29, 30] [] Fmo (by kernel_rfl) (by kernel_rfl) rfl H ?_
    refine m_w rfl rfl (wn rfl) rfl rfl S (fun w H => y_faddrb rfl Ffo60_0 S rfl) fun a S => ?_
    refine m_w rfl rfl (wn rfl) rfl rfl S (fun w H => y_load rfl Fsca3 S H rfl rfl) fun a S => ?_
    refine m_w rfl rfl (wn rfl) rfl rfl S (fun w H => y_move rfl S rfl) fun a S => ?_
    refine m_w rfl rfl (wn rfl) rfl rfl S (fun w H => y_bin rfl S rfl rfl rfl) fun a S => ?_
    refine m_w rfl rfl (wn rfl) rfl rfl S (fun w H => y_move rfl S rfl) fun a S => ?_
    refine' m_andq [5, 6, 7, 8, 9, 10, 11, 12, 13, 14, 15, 16, 17, 18, 19, 20, 21] 30 S rfl rfl rfl rfl rfl rfl rfl rfl rfl (fun _ S => (wn rfl)) (fun h2 kk => ?yh2) (fun a S => ?_)
    case yh2 =>
      have h2p := h2; try simp only [Option.isNone_some, Option.isNone_none, Option.isSome_some, Option.isSome_none, false_or, or_false, true_and, and_true, decide_eq_true_eq, decide_eq_false_iff_not, Bool.or_eq_true, Bool.and_eq_true, Bool.or_eq_false_iff, Bool.and_eq_false_iff, Bool.not_eq_true', Bool.not_eq_false', bne_iff_ne, beq_iff_eq, beq_eq_false_iff_ne, bne_eq_false_iff_eq, ne_eq, Decidable.not_not, Int.not_lt, Int.not_le, gt_iff_lt, ge_iff_le, Bool.true_eq_false, Bool.false_eq_true, not_true_eq_false, not_false_eq_true] at h2p
      refine m_w rfl rfl (wg' 30 rfl rfl S rfl h2 rfl) rfl rfl S (fun w H => y_faddrb rfl Ffo60_2 S rfl) fun a S => ?_
      refine m_w rfl rfl (wg' 30 rfl rfl S rfl h2 rfl) rfl rfl S (fun w H => y_load rfl Fsca3 S H rfl rfl) fun a S => ?_
      refine m_w rfl rfl (wg' 30 rfl rfl S rfl h2 rfl) rfl rfl S (fun w H => y_move rfl S rfl) fun a S => ?_
      refine m_w rfl rfl (wg' 30 rfl rfl S rfl h2 rfl) rfl rfl S (fun w H => y_nilCheck rfl S rfl) fun a S => ?_
      refine m_w rfl rfl (wg' 30 rfl rfl S rfl h2 rfl) rfl rfl S (fun w H => y_faddrb rfl Ffo56_0 S rfl) fun a S => ?_
      refine m_w rfl rfl (wg' 30 rfl rfl S rfl h2 rfl) rfl rfl S (fun w H => y_load rfl Fsca3 S H rfl rfl) fun a S => ?_
      refine m_w rfl rfl (wg' 30 rfl rfl S rfl h2 rfl) rfl rfl S (fun w H => y_quon rfl S rfl rfl (by omega) (by omega) (by omega)) fun a S => ?_
      refine m_w rfl rfl (wg' 30 rfl rfl S rfl h2 rfl) rfl rfl S (fun w H => y_move rfl S rfl) fun a S => ?_
      refine m_w rfl rfl (wg' 30 rfl rfl S rfl h2 rfl) rfl rfl S (fun w H => y_nilCheck rfl S rfl) fun a S => ?_
      refine m_w rfl rfl (wg' 30 rfl rfl S rfl h2 rfl) rfl rfl S (fun w H => y_faddrb rfl Ffo56_3 S rfl) fun a S => ?_
      refine m_w rfl rfl (wg' 30 rfl rfl S rfl h2 rfl) rfl rfl S (fun w H => y_load rfl Fsca3 S H rfl rfl) fun a S => ?_
      refine m_w rfl rfl (wg' 30 rfl rfl S rfl h2 rfl) rfl rfl S (fun w H => y_move rfl S rfl) fun a S => ?_
      refine m_w rfl rfl (wg' 30 rfl rfl S rfl h2 rfl) rfl rfl S (fun w H => y_nilCheck rfl S rfl) fun a S => ?_
      refine m_w rfl rfl (wg' 30 rfl rfl S rfl h2 rfl) rfl rfl S (fun w H => y_faddrb rfl Ffo56_0 S rfl) fun a S => ?_
      refine m_w rfl rfl (wg' 30 rfl rfl S rfl h2 rfl) rfl rfl S (fun w H => y_load rfl Fsca3 S H rfl rfl) fun a S => ?_
      refine m_w rfl rfl (wg' 30 rfl rfl S rfl h2 rfl) rfl rfl S (fun w H => y_quon rfl S rfl rfl (by omega) (by omega) (by omega)) fun a S => ?_
      refine m_w rfl rfl (wg' 30 rfl rfl S rfl h2 rfl) rfl rfl S (fun w H => y_bin rfl S rfl rfl rfl) fun a S => ?_
      refine m_w rfl rfl (wn rfl) rfl rfl S (fun w H => y_and' rfl h2 S rfl rfl) fun a S => ?_
      exact kk _ (S.join 18 48 rfl rfl)
    refine m_w rfl rfl (wn rfl) rfl rfl S (fun w H => y_move rfl S rfl) fun a S => ?_
    refine' m_andq [24, 25, 26, 27, 28, 29] 49 S rfl rfl rfl rfl rfl rfl rfl rfl rfl (fun _ S => (wn rfl)) (fun h3 kk => ?yh3) (fun a S => ?_)
    case yh3 =>
      have h3p := h3; try simp only [Option.isNone_some, Option.isNone_none, Option.isSome_some, Option.isSome_none, false_or, or_false, true_and, and_true, decide_eq_true_eq, decide_eq_false_iff_not, Bool.or_eq_true, Bool.and_eq_true, Bool.or_eq_false_iff, Bool.and_eq_false_iff, Bool.not_eq_true', Bool.not_eq_false', bne_iff_ne, beq_iff_eq, beq_eq_false_iff_ne, bne_eq_false_iff_eq, ne_eq, Decidable.not_not, Int.not_lt, Int.not_le, gt_iff_lt, ge_iff_le, Bool.true_eq_false, Bool.false_eq_true, not_true_eq_false, not_false_eq_true] at h3p
      refine m_w rfl rfl (wg' 49 rfl rfl S rfl h3 rfl) rfl rfl S (fun w H => y_move rfl S rfl) fun a S => ?_
      refine m_w rfl rfl (wg' 49 rfl rfl S rfl h3 rfl) rfl rfl S (fun w H => y_move rfl S rfl) fun a S => ?_
      refine' m_orq [26, 27, 28] 51 S rfl rfl rfl rfl rfl rfl rfl rfl rfl (fun _ S => (wg' 49 rfl rfl S rfl h3 rfl)) (fun h4 kk => ?yh4) (fun a S => ?_)
      case yh4 =>
        have h4p := h4; try simp only [Option.isNone_some, Option.isNone_none, Option.isSome_some, Option.isSome_none, false_or, or_false, true_and, and_true, decide_eq_true_eq, decide_eq_false_iff_not, Bool.or_eq_true, Bool.and_eq_true, Bool.or_eq_false_iff, Bool.and_eq_false_iff, Bool.not_eq_true', Bool.not_eq_false', bne_iff_ne, beq_iff_eq, beq_eq_false_iff_ne, bne_eq_false_iff_eq, ne_eq, Decidable.not_not, Int.not_lt, Int.not_le, gt_iff_lt, ge_iff_le, Bool.true_eq_false, Bool.false_eq_true, not_true_eq_false, not_false_eq_true] at h4p
        refine m_w rfl rfl (wg' 51 rfl rfl S rfl h4 rfl) rfl rfl S (fun w H => y_faddrb rfl Ffo60_1 S rfl) fun a S => ?_
        refine m_w rfl rfl (wg' 51 rfl rfl S rfl h4 rfl) rfl rfl S (fun w H => y_load rfl Fsca3 S H rfl rfl) fun a S => ?_
        refine m_w rfl rfl (wg' 51 rfl rfl S rfl h4 rfl) rfl rfl S (fun w H => y_bin rfl S rfl rfl rfl) fun a S => ?_
        refine m_w rfl rfl (wg' 49 rfl rfl S rfl h3 rfl) rfl rfl S (fun w H => y_or' rfl h4 S rfl rfl) fun a S => ?_
        exact kk _ (S.join 4 55 rfl rfl)
      refine m_w rfl rfl (wn rfl) rfl rfl S (fun w H => y_and' rfl h3 S rfl rfl) fun a S => ?_
      exact kk _ (S.join 4 56 rfl rfl)
    refine m_nil (fun w H => ?_)
    refine n_then ?_
    -- cond 2 (both ways go on)
    refine c_if S rfl (fun h5 => ?_) (fun h5 => ?_)
    · have h5p := h5; try simp only [Option.isNone_some, Option.isNone_none, Option.isSome_some, Option.isSome_none, false_or, or_false, true_and, and_true, decide_eq_true_eq, decide_eq_false_iff_not, Bool.or_eq_true, Bool.and_eq_true, Bool.or_eq_false_iff, Bool.and_eq_false_iff, Bool.not_eq_true', Bool.not_eq_false', bne_iff_ne, beq_iff_eq, beq_eq_false_iff_ne, bne_eq_false_iff_eq, ne_eq, Decidable.not_not, Int.not_lt, Int.not_le, gt_iff_lt, ge_iff_le, Bool.true_eq_false, Bool.false_eq_true, not_true_eq_false, not_false_eq_true] at h5p
      have e := count_step r c all k (by omega)
      rw [if_pos (show counts r c all r.past[k] = true by rw [counts, ← Bool.and_assoc]; exact h5)] at e
      -- region 7 ref.go:46
      refine wp_region_lit ?_
      refine wl_of (op_y (wn rfl) rfl rfl S (y_move rfl S rfl) fun a S => ?_)
      refine wl_of (op_y (wn rfl) rfl rfl S (y_add rfl S rfl rfl (by omega)) fun a S => ?_)
      refine wl_of (op_y (wn rfl) rfl rfl S (y_assign rfl S rfl) fun a S => ?_)
      refine wpList_nil ?_
      refine n_block ?_
      refine n_then ?_
      -- region 4 ref.go:43
      refine wp_region_lit ?_
      refine wl_of (op_y (wn rfl) rfl rfl S (y_move rfl S rfl) fun a S => ?_)
      refine wl_of (op_y (wn rfl) rfl rfl S (y_add rfl S rfl rfl (by omega)) fun a S => ?_)
      refine wl_of (op_y (wn rfl) rfl rfl S (y_assign rfl S rfl) fun a S => ?_)
      refine wpList_nil ?_
      refine n_then ?_
      rw [← e] at S
      exact ⟨k + 1, (S.nil.cons S 8 rfl).cons S 7 rfl, (((S.nil.cons S 2 rfl).cons S 1 rfl).cons S 0 rfl).cons S 6 rfl, H.drop 1, by omega, by omega⟩
    · have h5p := h5; try simp only [Option.isNone_some, Option.isNone_none, Option.isSome_some, Option.isSome_none, false_or, or_false, true_and, and_true, decide_eq_true_eq, decide_eq_false_iff_not, Bool.or_eq_true, Bool.and_eq_true, Bool.or_eq_false_iff, Bool.and_eq_false_iff, Bool.not_eq_true', Bool.not_eq_false', bne_iff_ne, beq_iff_eq, beq_eq_false_iff_ne, bne_eq_false_iff_eq, ne_eq, Decidable.not_not, Int.not_lt, Int.not_le, gt_iff_lt, ge_iff_le, Bool.true_eq_false, Bool.false_eq_true, not_true_eq_false, not_false_eq_true] at h5p
      have e := count_step r c all k (by omega)
      rw [if_neg (show ¬ counts r c all r.past[k] = true by rw [counts, ← Bool.and_assoc, Bool.not_eq_true]; exact h5), Int.add_zero] at e
      refine wp_skip ?_
      refine n_block ?_
      refine n_then ?_
      -- region 4 ref.go:43
      refine wp_region_lit ?_
      refine wl_of (op_y (wn rfl) rfl rfl S (y_move rfl S rfl) fun a S => ?_)
      refine wl_of (op_y (wn rfl) rfl rfl S (y_add rfl S rfl rfl (by omega)) fun a S => ?_)
      refine wl_of (op_y (wn rfl) rfl rfl S (y_assign rfl S rfl) fun a S => ?_)
      refine wpList_nil ?_
      refine n_then ?_
      rw [← e] at S
      exact ⟨k + 1, (S.nil.cons S 8 rfl).cons S 7 rfl, (((S.nil.cons S 2 rfl).cons S 1 rfl).cons S 0 rfl).cons S 6 rfl, H.drop 1, by omega, by omega⟩
  · have h1p := h1; try simp only [Option.isNone_some, Option.isNone_none, Option.isSome_some, Option.isSome_none, false_or, or_false, true_and, and_true, decide_eq_true_eq, decide_eq_false_iff_not, Bool.or_eq_true, Bool.and_eq_true, Bool.or_eq_false_iff, Bool.and_eq_false_iff, Bool.not_eq_true', Bool.not_eq_false', bne_iff_ne, beq_iff_eq, beq_eq_false_iff_ne, bne_eq_false_iff_eq, ne_eq, Decidable.not_not, Int.not_lt, Int.not_le, gt_iff_lt, ge_iff_le, Bool.true_eq_false, Bool.false_eq_true, not_true_eq_false, not_false_eq_true] at h1p
    obtain rfl : k = r.past.length := by omega
    rw [List.take_length] at S
    refine wp_exit ?_
    refine x_then (x_then (x_eq ?_))
    refine n_then ?_
    have S := (S.nil.cons S 6 rfl).cons S 7 rfl
    refine wp_seq ?_
    -- region 8 ref.go:49
    refine wp_region_lit ?_
    refine wl_of (op_y (wn rfl) rfl rfl S (y_move rfl S rfl) fun a S => ?_)
    refine wl_of (op_y (wn rfl) rfl rfl S (y_assign rfl S rfl) fun a S => ?_)
    refine wpList_nil ?_
    refine n_then ?_
    refine wp_ret ?_
    refine ret1 rfl S rfl ?_
    exact ⟨rfl, H.toExt⟩
/-- (*foyer/foyerref49.Door).Free -/
theorem free_spec {M : Nat → Prop} {u0 : World} {l : List Atom} (b : Nat) (r : RS) (v vp : Value) (N : Nat) (w0 : World) (h0 : HSat M u0 (RDoorL b v vp r ++ l) w0) [hs : HasSl l v 1 Int encI r.res] (hw : r.WF N) (hN : N ≤ 100000) :
    Ret Try.prog 26 #[.pointer (some ⟨b, 0, none⟩)] w0 (fun u w => u = .int .i64 (rfree r) ∧ Ext w0 w) := by
  refine ret_of_wp (n := 32) Try.func26 rfl rfl rfl (fl := [(0, .pointer (some ⟨b, 0, none⟩))]) rfl (fun a S => ?_)
  have H := rdoorReads h0
  have hlen := hw.len
  have htot := hw.total
  refine wp_seq ?_
  -- region 0 ref.go:53
  refine wp_region_lit ?_
  refine wl_of (op_y (wn rfl) rfl rfl S (y_assign rfl S rfl) fun a S => ?_)
  refine wpList_nil ?_
  refine n_then ?_
  refine wp_seq ?_
  -- region 1 ref.go:54
  refine wp_region_lit ?_
  refine wl_of (op_y (wn rfl) rfl rfl S (y_move rfl S rfl) fun a S => ?_)
  refine wl_of (op_y (wn rfl) rfl rfl S (y_nilCheck rfl S rfl) fun a S => ?_)
  refine wl_of (op_y (wn rfl) rfl rfl S (y_faddrb rfl Ffo56_2 S rfl) fun a S => ?_)
  refine wl_of (op_y (wn rfl) rfl rfl S (y_load rfl Fsca3 S H rfl rfl) fun a S => ?_)
  refine wl_of (op_y (wn rfl) rfl rfl S (y_assign rfl S rfl) fun a S => ?_)
  refine wpList_nil ?_
  refine n_then ?_
  have S := ((S.nil.cons S 0 rfl).cons S 2 rfl).cons S 3 rfl
  refine wp_seq ?_
  refine wp_seq ?_
  -- region 2 ref.go:55
  refine wp_region_lit ?_
  refine wl_of (op_y (wn rfl) rfl rfl S (y_assign rfl S rfl) fun a S => ?_)
  refine wpList_nil ?_
  refine n_then ?_
  refine wp_block ?_
  have SU := (S.nil.cons S 0 rfl).cons S 2 rfl
  refine loop_k (X := Nat) SU (fun k => [(3, .int .i64 (r.total - sumL ((takenR r).take k))), (4, .int .i64 (k : Int))]) (fun k => k ≤ r.res.length) (fun k => r.res.length - k) 0 ((S.nil.cons S 4 rfl).cons S 3 (by simp [List.lookup, sumL_nil])) H (by omega) (fun k a w S H hi => ?_)
  simp only [List.cons_append, List.nil_append] at S hi
  have hs := sumL_bd ((takenR_bd hw hN).take k)
  have htl : ((takenR r).take k).length ≤ r.res.length := by simp [takenR_len]; omega
  refine wp_seq ?_
  refine wp_seq ?_
  -- region 3 ref.go:55
  refine wp_region_lit ?_
  refine wl_of (op_y (wn rfl) rfl rfl S (y_move rfl S rfl) fun a S => ?_)
  refine wl_of (op_y (wn rfl) rfl rfl S (y_move rfl S rfl) fun a S => ?_)
  refine wl_of (op_y (wn rfl) rfl rfl S (y_nilCheck rfl S rfl) fun a S => ?_)
  refine wl_of (op_y (wn rfl) rfl rfl S (y_faddrb rfl Ffo56_1 S rfl) fun a S => ?_)
  refine wl_of (op_y (wn rfl) rfl rfl S (y_load rfl Fsca22 S H rfl rfl) fun a S => ?_)
  refine wl_of (op_y (wn rfl) rfl rfl S (y_lens rfl Try.underlying22 S H rfl) fun a S => ?_)
  refine wl_of (op_y (wn rfl) rfl rfl S (y_bin rfl S rfl rfl rfl) fun a S => ?_)
  refine wpList_nil ?_
  refine n_then ?_
  -- cond 1
  refine c_if S rfl (fun h1 => ?_) (fun h1 => ?_)
  · have h1p := h1; try simp only [Option.isNone_some, Option.isNone_none, Option.isSome_some, Option.isSome_none, false_or, or_false, true_and, and_true, decide_eq_true_eq, decide_eq_false_iff_not, Bool.or_eq_true, Bool.and_eq_true, Bool.or_eq_false_iff, Bool.and_eq_false_iff, Bool.not_eq_true', Bool.not_eq_false', bne_iff_ne, beq_iff_eq, beq_eq_false_iff_ne, bne_eq_false_iff_eq, ne_eq, Decidable.not_not, Int.not_lt, Int.not_le, gt_iff_lt, ge_iff_le, Bool.true_eq_false, Bool.false_eq_true, not_true_eq_false, not_false_eq_true] at h1p
    have hl1 := rload_bd r (k : Int) false
    have hl2 := hw.past
    have hl3 := hw.res _ (List.getElem_mem (show k < r.res.length by omega))
    refine wp_skip ?_
    refine n_then ?_
    refine wp_seq ?_
    refine wp_block ?_
    -- region 5 DRAWS ref.go:56
    refine region_st (loud := []) (tails := []) (free := []) [0, 1, 2, 3, 4, 5, 6, 7, 8, 9, 10, 11, 12, 13] [] Fmo (by kernel_rfl) (by kernel_rfl) rfl H ?_
    refine m_w rfl rfl (wn rfl) rfl rfl S (fun w H => y_move rfl S rfl) fun a S => ?_
    refine m_w rfl rfl (wn rfl) rfl rfl S (fun w H => y_move rfl S rfl) fun a S => ?_
    refine m_w rfl rfl (wn rfl) rfl rfl S (fun w H => y_move rfl S rfl) fun a S => ?_
    refine m_c rfl rfl (wn rfl) rfl rfl S (fun w => co_func rfl Try.call25 S rfl) (fun w H => load_spec b r v vp _ false N w (h0.ext H.toExt) hw hN) fun a S => ?_
    refine m_w rfl rfl (wn rfl) rfl rfl S (fun w H => y_move rfl S rfl) fun a S => ?_
    refine m_w rfl rfl (wn rfl) rfl rfl S (fun w H => y_nilCheck rfl S rfl) fun a S => ?_
    refine m_w rfl rfl (wn rfl) rfl rfl S (fun w H => y_faddrb rfl Ffo56_1 S rfl) fun a S => ?_
    refine m_w rfl rfl (wn rfl) rfl rfl S (fun w H => y_load rfl Fsca22 S H rfl rfl) fun a S => ?_
    refine m_w rfl rfl (wn rfl) rfl rfl S (fun w H => y_move rfl S rfl) fun a S => ?_
    refine m_w rfl rfl (wn rfl) rfl rfl S (fun w H => y_iaddrn rfl Try.underlying22 Fsiz3 S H rfl rfl (by first | omega | (simp only [List.length_append, List.length_take, List.length_drop, List.length_replicate, List.length_set, List.length_map, List.length_cons, List.length_nil]; omega))) fun a S => ?_
    refine m_loads _ rfl rfl (wn rfl) rfl rfl S rfl Fsca3 rfl (by first | omega | (simp only [List.length_append, List.length_take, List.length_drop, List.length_replicate, List.length_set, List.length_map, List.length_cons, List.length_nil]; omega)) rfl fun a S => ?_
    refine m_w rfl rfl (wn rfl) rfl rfl S (fun w H => y_max rfl S rfl rfl) fun a S => ?_
    refine m_w rfl rfl (wn rfl) rfl rfl S (fun w H => y_sub rfl S rfl rfl (by omega)) fun a S => ?_
    refine m_w rfl rfl (wn rfl) rfl rfl S (fun w H => y_assign rfl S rfl) fun a S => ?_
    refine m_nil (fun w H => ?_)
    refine n_block ?_
    refine n_then ?_
    -- region 4 ref.go:55
    refine wp_region_lit ?_
    refine wl_of (op_y (wn rfl) rfl rfl S (y_move rfl S rfl) fun a S => ?_)
    refine wl_of (op_y (wn rfl) rfl rfl S (y_add rfl S rfl rfl (by omega)) fun a S => ?_)
    refine wl_of (op_y (wn rfl) rfl rfl S (y_assign rfl S rfl) fun a S => ?_)
    refine wpList_nil ?_
    refine n_then ?_
    rw [take_step r k (by omega)] at S
    exact ⟨k + 1, (S.nil.cons S 4 rfl).cons S 3 rfl, (S.nil.cons S 0 rfl).cons S 2 rfl, H, by omega, by omega⟩
  · have h1p := h1; try simp only [Option.isNone_some, Option.isNone_none, Option.isSome_some, Option.isSome_none, false_or, or_false, true_and, and_true, decide_eq_true_eq, decide_eq_false_iff_not, Bool.or_eq_true, Bool.and_eq_true, Bool.or_eq_false_iff, Bool.and_eq_false_iff, Bool.not_eq_true', Bool.not_eq_false', bne_iff_ne, beq_iff_eq, beq_eq_false_iff_ne, bne_eq_false_iff_eq, ne_eq, Decidable.not_not, Int.not_lt, Int.not_le, gt_iff_lt, ge_iff_le, Bool.true_eq_false, Bool.false_eq_true, not_true_eq_false, not_false_eq_true] at h1p
    obtain rfl : k = r.res.length := by omega
    rw [List.take_of_length_le (by rw [takenR_len]; omega)] at S
    refine wp_exit ?_
    refine x_then (x_then (x_eq ?_))
    refine n_then ?_
    have S := (S.nil.cons S 2 rfl).cons S 3 rfl
    refine wp_seq ?_
    -- region 6 ref.go:58
    refine wp_region_lit ?_
    refine wl_of (op_y (wn rfl) rfl rfl S (y_move rfl S rfl) fun a S => ?_)
    refine wl_of (op_y (wn rfl) rfl rfl S (y_assign rfl S rfl) fun a S => ?_)
    refine wpList_nil ?_
    refine n_then ?_
    refine wp_ret ?_
    refine ret1 rfl S rfl ?_
    exact ⟨rfl, H.toExt⟩
/-- (*foyer/foyerref49.Door).Offer -/
theorem roffer_spec {M : Nat → Prop} {u0 : World} {l : List Atom} (b : Nat) (r : RS) (v vp : Value) (c k t : Int) (N : Nat) (w0 : World) (h0 : HSat M u0 (RDoorA b r v vp :: l) w0) [hs : HasSl l v 1 Int encI r.res] (hw : r.WF N) (hN : N ≤ 100000) :
    Ret Try.prog 13 #[.pointer (some ⟨b, 0, none⟩), .int .i64 c, .int .i64 k, .int .i64 t] w0 (fun u w => u = .bool (roffer r c k t).1 ∧ ∃ vp1, HSat M u0 (RDoorA b (roffer r c k t).2 v vp1 :: l) w) := by
  refine ret_of_wp (n := 78) Try.func13 rfl rfl rfl (fl := [(0, .pointer (some ⟨b, 0, none⟩)), (1, .int .i64 c), (2, .int .i64 k), (3, .int .i64 t)]) rfl (fun a S => ?_)
  have H := h0.unfold
  simp only [RDoorL, List.cons_append, List.nil_append] at H
  have hlen := hw.len
  have hpa := hw.past
  refine wp_seq ?_
  -- region 0 ref.go:62
  refine wp_region_lit ?_
  refine wl_of (op_y (wn rfl) rfl rfl S (y_assign rfl S rfl) fun a S => ?_)
  refine wpList_nil ?_
  refine n_then ?_
  refine wp_seq ?_
  refine wp_seq ?_
  -- region 1 ref.go:63
  refine wp_region_lit ?_
  refine wl_of (op_y (wn rfl) rfl rfl S (y_move rfl S rfl) fun a S => ?_)
  refine wl_of (op_y (wn rfl) rfl rfl S (y_eqp rfl Try.underlying29 S rfl rfl) fun a S => ?_)
  refine wl_of (op_y (wn rfl) rfl rfl S (y_move rfl S rfl) fun a S => ?_)
  refine' wl_or 3 11 rfl S H rfl rfl rfl rfl rfl rfl rfl (fun _ S => (wn rfl)) (fun h1 kk => ?yh1) (fun a w S H => ?_)
  case yh1 =>
    have h1p := h1; try simp only [Option.isNone_some, Option.isNone_none, Option.isSome_some, Option.isSome_none, false_or, or_false, true_and, and_true, decide_eq_true_eq, decide_eq_false_iff_not, Bool.or_eq_true, Bool.and_eq_true, Bool.or_eq_false_iff, Bool.and_eq_false_iff, Bool.not_eq_true', Bool.not_eq_false', bne_iff_ne, beq_iff_eq, beq_eq_false_iff_ne, bne_eq_false_iff_eq, ne_eq, Decidable.not_not, Int.not_lt, Int.not_le, gt_iff_lt, ge_iff_le, Bool.true_eq_false, Bool.false_eq_true, not_true_eq_false, not_false_eq_true] at h1p
    refine wl_of (op_y (wg' 11 rfl rfl S rfl h1 rfl) rfl rfl S (y_move rfl S rfl) fun a S => ?_)
    refine wl_of (op_call (wg' 11 rfl rfl S rfl h1 rfl) rfl rfl S (co_func rfl Try.call24 S rfl) (time_spec t _) fun v w hc a S => ?_)
    obtain ⟨rfl, he⟩ := hc
    have H := H.ext he
    refine wl_of (op_y (wg' 11 rfl rfl S rfl h1 rfl) rfl rfl S (y_not rfl S rfl) fun a S => ?_)
    refine wl_of (op_y (wn rfl) rfl rfl S (y_or' rfl h1 S rfl rfl) fun a S => ?_)
    exact kk _ _ (S.join 4 15 rfl rfl) H
  refine wpList_nil ?_
  refine n_then ?_
  -- cond 1
  refine c_if S rfl (fun h2 => ?_) (fun h2 => ?_)
  · have h2p := h2; try simp only [Option.isNone_some, Option.isNone_none, Option.isSome_some, Option.isSome_none, false_or, or_false, true_and, and_true, decide_eq_true_eq, decide_eq_false_iff_not, Bool.or_eq_true, Bool.and_eq_true, Bool.or_eq_false_iff, Bool.and_eq_false_iff, Bool.not_eq_true', Bool.not_eq_false', bne_iff_ne, beq_iff_eq, beq_eq_false_iff_ne, bne_eq_false_iff_eq, ne_eq, Decidable.not_not, Int.not_lt, Int.not_le, gt_iff_lt, ge_iff_le, Bool.true_eq_false, Bool.false_eq_true, not_true_eq_false, not_false_eq_true] at h2p
    have hok : okTime t = false := by simpa using h2
    refine wp_seq ?_
    -- region 2 ref.go:64
    refine wp_region_lit ?_
    refine wl_of (op_y (wn rfl) rfl rfl S (y_assign rfl S rfl) fun a S => ?_)
    refine wpList_nil ?_
    refine n_then ?_
    have S := ((((S.nil.cons S 3 rfl).cons S 2 rfl).cons S 1 rfl).cons S 0 rfl).cons S 8 rfl
    refine wp_ret ?_
    refine r_then (ret1 rfl S rfl ?_)
    rw [roffer, if_neg (by rw [hok]; simp)]; exact ⟨rfl, vp, HSat.fold (ls := RDoorL b v vp r) H (by simp [RDoorL, OSl, Blk])⟩
  · have h2p := h2; try simp only [Option.isNone_some, Option.isNone_none, Option.isSome_some, Option.isSome_none, false_or, or_false, true_and, and_true, decide_eq_true_eq, decide_eq_false_iff_not, Bool.or_eq_true, Bool.and_eq_true, Bool.or_eq_false_iff, Bool.and_eq_false_iff, Bool.not_eq_true', Bool.not_eq_false', bne_iff_ne, beq_iff_eq, beq_eq_false_iff_ne, bne_eq_false_iff_eq, ne_eq, Decidable.not_not, Int.not_lt, Int.not_le, gt_iff_lt, ge_iff_le, Bool.true_eq_false, Bool.false_eq_true, not_true_eq_false, not_false_eq_true] at h2p
    have hok : okTime t = true := by simpa using h2
    have hw1 := rmoved_wf hw t hok
    refine wp_skip ?_
    refine n_then ?_
    have S := ((((S.nil.cons S 3 rfl).cons S 2 rfl).cons S 1 rfl).cons S 0 rfl).cons S 8 rfl
    refine wp_seq ?_
    -- region 3 ref.go:66
    refine wp_region_lit ?_
    refine wl_of (op_y (wn rfl) rfl rfl S (y_move rfl S rfl) fun a S => ?_)
    refine wl_of (op_y (wn rfl) rfl rfl S (y_move rfl S rfl) fun a S => ?_)
    refine wl_of (op_y (wn rfl) rfl rfl S (y_nilCheck rfl S rfl) fun a S => ?_)
    refine wl_of (op_y (wn rfl) rfl rfl S (y_faddrb rfl Ffo56_3 S rfl) fun a S => ?_)
    refine wl_of (op_y (wn rfl) rfl rfl S (y_load rfl Fsca3 S H rfl rfl) fun a S => ?_)
    refine wl_of (op_y (wn rfl) rfl rfl S (y_move rfl S rfl) fun a S => ?_)
    refine wl_of (op_y (wn rfl) rfl rfl S (y_max rfl S rfl rfl) fun a S => ?_)
    refine wl_of (op_y (wn rfl) rfl rfl S (y_nilCheck rfl S rfl) fun a S => ?_)
    refine wl_of (op_y (wn rfl) rfl rfl S (y_faddrb rfl Ffo56_3 S rfl) fun a S => ?_)
    refine wl_of (op_store (wn rfl) rfl rfl S H rfl rfl rfl Fsiz3 rfl fun a w S H => ?_)
    dsimp only [List.set] at H
    refine wpList_nil ?_
    refine n_then ?_
    have S := (((S.nil.cons S 2 rfl).cons S 1 rfl).cons S 0 rfl).cons S 8 rfl
    refine wp_seq ?_
    refine wp_seq ?_
    -- region 4 ref.go:67
    refine wp_region_lit ?_
    refine wl_of (op_y (wn rfl) rfl rfl S (y_move rfl S rfl) fun a S => ?_)
    refine wl_of (op_y (wn rfl) rfl rfl S (y_bin rfl S rfl rfl rfl) fun a S => ?_)
    refine wl_of (op_y (wn rfl) rfl rfl S (y_move rfl S rfl) fun a S => ?_)
    refine' wl_or 7 27 rfl S H rfl rfl rfl rfl rfl rfl rfl (fun _ S => (wn rfl)) (fun h3 kk => ?yh3) (fun a w S H => ?_)
    case yh3 =>
      have h3p := h3; try simp only [Option.isNone_some, Option.isNone_none, Option.isSome_some, Option.isSome_none, false_or, or_false, true_and, and_true, decide_eq_true_eq, decide_eq_false_iff_not, Bool.or_eq_true, Bool.and_eq_true, Bool.or_eq_false_iff, Bool.and_eq_false_iff, Bool.not_eq_true', Bool.not_eq_false', bne_iff_ne, beq_iff_eq, beq_eq_false_iff_ne, bne_eq_false_iff_eq, ne_eq, Decidable.not_not, Int.not_lt, Int.not_le, gt_iff_lt, ge_iff_le, Bool.true_eq_false, Bool.false_eq_true, not_true_eq_false, not_false_eq_true] at h3p
      refine wl_of (op_y (wg' 27 rfl rfl S rfl h3 rfl) rfl rfl S (y_move rfl S rfl) fun a S => ?_)
      refine wl_of (op_y (wg' 27 rfl rfl S rfl h3 rfl) rfl rfl S (y_move rfl S rfl) fun a S => ?_)
      refine wl_of (op_y (wg' 27 rfl rfl S rfl h3 rfl) rfl rfl S (y_nilCheck rfl S rfl) fun a S => ?_)
      refine wl_of (op_y (wg' 27 rfl rfl S rfl h3 rfl) rfl rfl S (y_faddrb rfl Ffo56_1 S rfl) fun a S => ?_)
      refine wl_of (op_y (wg' 27 rfl rfl S rfl h3 rfl) rfl rfl S (y_load rfl Fsca22 S H rfl rfl) fun a S => ?_)
      refine wl_of (op_y (wg' 27 rfl rfl S rfl h3 rfl) rfl rfl S (y_lens rfl Try.underlying22 S H rfl) fun a S => ?_)
      refine wl_of (op_y (wg' 27 rfl rfl S rfl h3 rfl) rfl rfl S (y_bin rfl S rfl rfl rfl) fun a S => ?_)
      refine wl_of (op_y (wn rfl) rfl rfl S (y_or' rfl h3 S rfl rfl) fun a S => ?_)
      exact kk _ _ (S.join 8 35 rfl rfl) H
    refine wl_of (op_y (wn rfl) rfl rfl S (y_move rfl S rfl) fun a S => ?_)
    refine' wl_or 2 36 rfl S H rfl rfl rfl rfl rfl rfl rfl (fun _ S => (wn rfl)) (fun h4 kk => ?yh4) (fun a w S H => ?_)
    case yh4 =>
      have h4p := h4; try simp only [Option.isNone_some, Option.isNone_none, Option.isSome_some, Option.isSome_none, false_or, or_false, true_and, and_true, decide_eq_true_eq, decide_eq_false_iff_not, Bool.or_eq_true, Bool.and_eq_true, Bool.or_eq_false_iff, Bool.and_eq_false_iff, Bool.not_eq_true', Bool.not_eq_false', bne_iff_ne, beq_iff_eq, beq_eq_false_iff_ne, bne_eq_false_iff_eq, ne_eq, Decidable.not_not, Int.not_lt, Int.not_le, gt_iff_lt, ge_iff_le, Bool.true_eq_false, Bool.false_eq_true, not_true_eq_false, not_false_eq_true] at h4p
      refine wl_of (op_y (wg' 36 rfl rfl S rfl h4 rfl) rfl rfl S (y_move rfl S rfl) fun a S => ?_)
      refine wl_of (op_y (wg' 36 rfl rfl S rfl h4 rfl) rfl rfl S (y_bin rfl S rfl rfl rfl) fun a S => ?_)
      refine wl_of (op_y (wn rfl) rfl rfl S (y_or' rfl h4 S rfl rfl) fun a S => ?_)
      exact kk _ _ (S.join 3 39 rfl rfl) H
    refine wpList_nil ?_
    refine n_then ?_
    have S := ((((S.nil.cons S 2 rfl).cons S 1 rfl).cons S 0 rfl).cons S 8 rfl).cons S 39 rfl
    -- cond 2
    refine c_if S rfl (fun h5 => ?_) (fun h5 => ?_)
    · have h5p := h5; try simp only [Option.isNone_some, Option.isNone_none, Option.isSome_some, Option.isSome_none, false_or, or_false, true_and, and_true, decide_eq_true_eq, decide_eq_false_iff_not, Bool.or_eq_true, Bool.and_eq_true, Bool.or_eq_false_iff, Bool.and_eq_false_iff, Bool.not_eq_true', Bool.not_eq_false', bne_iff_ne, beq_iff_eq, beq_eq_false_iff_ne, bne_eq_false_iff_eq, ne_eq, Decidable.not_not, Int.not_lt, Int.not_le, gt_iff_lt, ge_iff_le, Bool.true_eq_false, Bool.false_eq_true, not_true_eq_false, not_false_eq_true] at h5p
      refine wp_seq ?_
      -- region 5 ref.go:68
      refine wp_region_lit ?_
      refine wl_of (op_y (wn rfl) rfl rfl S (y_assign rfl S rfl) fun a S => ?_)
      refine wpList_nil ?_
      refine n_then ?_
      refine wp_ret ?_
      refine r_then (ret1 rfl S rfl ?_)
      have e : roffer r c k t = (false, rmoved r t) := by rw [roffer, if_pos hok, renter, if_pos (by show c < 0 ∨ c ≥ r.res.length ∨ k < 0; omega)]
      rw [e]; exact ⟨rfl, vp, HSat.fold (ls := RDoorL b v vp (rmoved r t)) H (by simp [RDoorL, OSl, Blk])⟩
    · have h5p := h5; try simp only [Option.isNone_some, Option.isNone_none, Option.isSome_some, Option.isSome_none, false_or, or_false, true_and, and_true, decide_eq_true_eq, decide_eq_false_iff_not, Bool.or_eq_true, Bool.and_eq_true, Bool.or_eq_false_iff, Bool.and_eq_false_iff, Bool.not_eq_true', Bool.not_eq_false', bne_iff_ne, beq_iff_eq, beq_eq_false_iff_ne, bne_eq_false_iff_eq, ne_eq, Decidable.not_not, Int.not_lt, Int.not_le, gt_iff_lt, ge_iff_le, Bool.true_eq_false, Bool.false_eq_true, not_true_eq_false, not_false_eq_true] at h5p
      have hc : 0 ≤ c ∧ c < r.res.length := by omega
      refine wp_skip ?_
      refine n_then ?_
      refine wp_seq ?_
      refine wp_seq ?_
      -- region 6 DRAWS ref.go:70
      refine region_st (loud := []) (tails := []) (free := []) [0, 1, 2, 3, 4, 5, 6, 7, 8, 9, 10, 11, 12, 13, 14, 15, 16, 17, 18, 19] [] Fmo (by kernel_rfl) (by kernel_rfl) rfl H ?_
      refine m_w rfl rfl (wn rfl) rfl rfl S (fun w H => y_move rfl S rfl) fun a S => ?_
      refine m_w rfl rfl (wn rfl) rfl rfl S (fun w H => y_bin rfl S rfl rfl rfl) fun a S => ?_
      refine m_w rfl rfl (wn rfl) rfl rfl S (fun w H => y_move rfl S rfl) fun a S => ?_
      refine' m_andq [3, 4, 5, 6, 7, 8, 9, 10, 11, 12, 13] 42 S rfl rfl rfl rfl rfl rfl rfl rfl rfl (fun _ S => (wn rfl)) (fun h6 kk => ?yh6) (fun a S => ?_)
      case yh6 =>
        have h6p := h6; try simp only [Option.isNone_some, Option.isNone_none, Option.isSome_some, Option.isSome_none, false_or, or_false, true_and, and_true, decide_eq_true_eq, decide_eq_false_iff_not, Bool.or_eq_true, Bool.and_eq_true, Bool.or_eq_false_iff, Bool.and_eq_false_iff, Bool.not_eq_true', Bool.not_eq_false', bne_iff_ne, beq_iff_eq, beq_eq_false_iff_ne, bne_eq_false_iff_eq, ne_eq, Decidable.not_not, Int.not_lt, Int.not_le, gt_iff_lt, ge_iff_le, Bool.true_eq_false, Bool.false_eq_true, not_true_eq_false, not_false_eq_true] at h6p
        refine m_w rfl rfl (wg' 42 rfl rfl S rfl h6 rfl) rfl rfl S (fun w H => y_move rfl S rfl) fun a S => ?_
        refine m_w rfl rfl (wg' 42 rfl rfl S rfl h6 rfl) rfl rfl S (fun w H => y_move rfl S rfl) fun a S => ?_
        refine m_c rfl rfl (wg' 42 rfl rfl S rfl h6 rfl) rfl rfl S (fun w => co_func rfl Try.call25 S rfl) (fun w H => load_spec b (rmoved r t) v vp c false N w H hw1 hN) fun a S => ?_
        refine m_w rfl rfl (wg' 42 rfl rfl S rfl h6 rfl) rfl rfl S (fun w H => y_move rfl S rfl) fun a S => ?_
        refine m_w rfl rfl (wg' 42 rfl rfl S rfl h6 rfl) rfl rfl S (fun w H => y_nilCheck rfl S rfl) fun a S => ?_
        refine m_w rfl rfl (wg' 42 rfl rfl S rfl h6 rfl) rfl rfl S (fun w H => y_faddrb rfl Ffo56_1 S rfl) fun a S => ?_
        refine m_w rfl rfl (wg' 42 rfl rfl S rfl h6 rfl) rfl rfl S (fun w H => y_load rfl Fsca22 S H rfl rfl) fun a S => ?_
        refine m_w rfl rfl (wg' 42 rfl rfl S rfl h6 rfl) rfl rfl S (fun w H => y_move rfl S rfl) fun a S => ?_
        refine m_w rfl rfl (wg' 42 rfl rfl S rfl h6 rfl) rfl rfl S (fun w H => y_iaddrs rfl Try.underlying22 Fsiz3 S H rfl rfl (by first | omega | (simp only [List.length_append, List.length_take, List.length_drop, List.length_replicate, List.length_set, List.length_map, List.length_cons, List.length_nil]; omega))) fun a S => ?_
        refine m_loads _ rfl rfl (wg' 42 rfl rfl S rfl h6 rfl) rfl rfl S rfl Fsca3 rfl (by first | omega | (simp only [List.length_append, List.length_take, List.length_drop, List.length_replicate, List.length_set, List.length_map, List.length_cons, List.length_nil]; omega)) rfl fun a S => ?_
        refine m_w rfl rfl (wg' 42 rfl rfl S rfl h6 rfl) rfl rfl S (fun w H => y_bin rfl S rfl rfl rfl) fun a S => ?_
        refine m_w rfl rfl (wn rfl) rfl rfl S (fun w H => y_and' rfl h6 S rfl rfl) fun a S => ?_
        exact kk _ (S.join 12 54 rfl rfl)
      refine m_w rfl rfl (wn rfl) rfl rfl S (fun w H => y_move rfl S rfl) fun a S => ?_
      refine' m_andq [16, 17, 18] 55 S rfl rfl rfl rfl rfl rfl rfl rfl rfl (fun _ S => (wn rfl)) (fun h7 kk => ?yh7) (fun a S => ?_)
      case yh7 =>
        have h7p := h7; try simp only [Option.isNone_some, Option.isNone_none, Option.isSome_some, Option.isSome_none, false_or, or_false, true_and, and_true, decide_eq_true_eq, decide_eq_false_iff_not, Bool.or_eq_true, Bool.and_eq_true, Bool.or_eq_false_iff, Bool.and_eq_false_iff, Bool.not_eq_true', Bool.not_eq_false', bne_iff_ne, beq_iff_eq, beq_eq_false_iff_ne, bne_eq_false_iff_eq, ne_eq, Decidable.not_not, Int.not_lt, Int.not_le, gt_iff_lt, ge_iff_le, Bool.true_eq_false, Bool.false_eq_true, not_true_eq_false, not_false_eq_true] at h7p
        refine m_w rfl rfl (wg' 55 rfl rfl S rfl h7 rfl) rfl rfl S (fun w H => y_move rfl S rfl) fun a S => ?_
        refine m_c rfl rfl (wg' 55 rfl rfl S rfl h7 rfl) rfl rfl S (fun w => co_func rfl Try.call26 S rfl) (fun w H => free_spec b (rmoved r t) v vp N w H hw1 hN) fun a S => ?_
        refine m_w rfl rfl (wg' 55 rfl rfl S rfl h7 rfl) rfl rfl S (fun w H => y_bin rfl S rfl rfl rfl) fun a S => ?_
        refine m_w rfl rfl (wn rfl) rfl rfl S (fun w H => y_and' rfl h7 S rfl rfl) fun a S => ?_
        exact kk _ (S.join 4 59 rfl rfl)
      refine m_nil (fun w H => ?_)
      refine n_then ?_
      have S := ((((S.nil.cons S 2 rfl).cons S 1 rfl).cons S 0 rfl).cons S 8 rfl).cons S 59 rfl
      -- cond 3
      refine c_if S rfl (fun h8 => ?_) (fun h8 => ?_)
      · have h8p := h8; try simp only [Option.isNone_some, Option.isNone_none, Option.isSome_some, Option.isSome_none, false_or, or_false, true_and, and_true, decide_eq_true_eq, decide_eq_false_iff_not, Bool.or_eq_true, Bool.and_eq_true, Bool.or_eq_false_iff, Bool.and_eq_false_iff, Bool.not_eq_true', Bool.not_eq_false', bne_iff_ne, beq_iff_eq, beq_eq_false_iff_ne, bne_eq_false_iff_eq, ne_eq, Decidable.not_not, Int.not_lt, Int.not_le, gt_iff_lt, ge_iff_le, Bool.true_eq_false, Bool.false_eq_true, not_true_eq_false, not_false_eq_true] at h8p
        have e : roffer r c k t = (false, rmoved r t) := by rw [roffer, if_pos hok, renter, if_neg (by show ¬ (c < 0 ∨ c ≥ r.res.length ∨ k < 0); omega), if_pos]; rw [show (rmoved r t).res = r.res from rfl, getD_at _ _ (by omega)]; exact ⟨h8p.1.1, h8p.1.2, h8p.2⟩
        refine wp_seq ?_
        -- region 7 ref.go:71
        refine wp_region_lit ?_
        refine wl_of (op_y (wn rfl) rfl rfl S (y_assign rfl S rfl) fun a S => ?_)
        refine wpList_nil ?_
        refine n_then ?_
        refine wp_ret ?_
        refine r_then (ret1 rfl S rfl ?_)
        rw [e]; exact ⟨rfl, vp, HSat.fold (ls := RDoorL b v vp (rmoved r t)) H (by simp [RDoorL, OSl, Blk])⟩
      · have h8p := h8; try simp only [Option.isNone_some, Option.isNone_none, Option.isSome_some, Option.isSome_none, false_or, or_false, true_and, and_true, decide_eq_true_eq, decide_eq_false_iff_not, Bool.or_eq_true, Bool.and_eq_true, Bool.or_eq_false_iff, Bool.and_eq_false_iff, Bool.not_eq_true', Bool.not_eq_false', bne_iff_ne, beq_iff_eq, beq_eq_false_iff_ne, bne_eq_false_iff_eq, ne_eq, Decidable.not_not, Int.not_lt, Int.not_le, gt_iff_lt, ge_iff_le, Bool.true_eq_false, Bool.false_eq_true, not_true_eq_false, not_false_eq_true] at h8p
        have e : roffer r c k t = (true, { rmoved r t with past := r.past ++ [⟨c, k, max r.now t⟩] }) := by
          rw [roffer, if_pos hok, renter, if_neg (by show ¬ (c < 0 ∨ c ≥ r.res.length ∨ k < 0); omega), if_neg]
          · rfl
          · rw [show (rmoved r t).res = r.res from rfl, getD_at _ _ (by omega)]; rintro ⟨a1, a2, a3⟩; simp [a1, a2, a3] at h8
        refine wp_skip ?_
        refine n_then ?_
        refine wp_seq ?_
        -- region 8 DRAWS ref.go:73
        -- several orders
        refine cut (fun a w => ∃ vp1, St 78 [(0, .pointer (some ⟨b, 0, none⟩))] a ∧ HSat M u0 (RDoorL b v vp1 { rmoved r t with past := r.past ++ [⟨c, k, max r.now t⟩] } ++ l) w) ?_ ?_
        · skip
          refine t_st (tails := [6, 15, 18]) Fmo H ?_
          refine t_p 0 rfl (by kernel_rfl) (rem' := [1, 2, 3, 4, 5, 6, 7, 8, 9, 10, 11, 12, 13, 14, 15, 16, 17, 18]) rfl rfl rfl rfl S (fun w => y_move rfl S rfl) fun a S => ?_
          refine t_q 2 rfl (by kernel_rfl) (rem' := [1, 3, 4, 5, 6, 7, 8, 9, 10, 11, 12, 13, 14, 15, 16, 17, 18]) rfl rfl rfl rfl S (fun w H => y_move rfl S rfl) fun a S => ?_
          refine t_q 3 rfl (by kernel_rfl) (rem' := [1, 4, 5, 6, 7, 8, 9, 10, 11, 12, 13, 14, 15, 16, 17, 18]) rfl rfl rfl rfl S (fun w H => y_nilCheck rfl S rfl) fun a S => ?_
          refine t_q 4 rfl (by kernel_rfl) (rem' := [1, 5, 6, 7, 8, 9, 10, 11, 12, 13, 14, 15, 16, 17, 18]) rfl rfl rfl rfl S (fun w H => y_faddrb rfl Ffo56_4 S rfl) fun a S => ?_
          refine t_q 5 rfl (by kernel_rfl) (rem' := [1, 6, 7, 8, 9, 10, 11, 12, 13, 14, 15, 16, 17, 18]) rfl rfl rfl rfl S (fun w H => y_load rfl Fsca54 S H rfl rfl) fun a S => ?_
          refine t_p 7 rfl (by kernel_rfl) (rem' := [1, 6, 8, 9, 10, 11, 12, 13, 14, 15, 16, 17, 18]) rfl rfl rfl rfl S (fun w => y_move rfl S rfl) fun a S => ?_
          refine t_p 8 rfl (by kernel_rfl) (rem' := [1, 6, 9, 10, 11, 12, 13, 14, 15, 16, 17, 18]) rfl rfl rfl rfl S (fun w => y_move rfl S rfl) fun a S => ?_
          refine t_p 9 rfl (by kernel_rfl) (rem' := [1, 6, 10, 11, 12, 13, 14, 15, 16, 17, 18]) rfl rfl rfl rfl S (fun w => y_move rfl S rfl) fun a S => ?_
          refine t_p 10 rfl (by kernel_rfl) (rem' := [1, 6, 11, 12, 13, 14, 15, 16, 17, 18]) rfl rfl rfl rfl S (fun w => y_nilCheck rfl S rfl) fun a S => ?_
          refine t_p 11 rfl (by kernel_rfl) (rem' := [1, 6, 12, 13, 14, 15, 16, 17, 18]) rfl rfl rfl rfl S (fun w => y_faddrb rfl Ffo56_3 S rfl) fun a S => ?_
          refine t_b [1, 12] (by kernel_rfl) rfl ?_
          intro i hi; simp only [List.mem_cons, List.not_mem_nil, or_false] at hi; rcases hi with rfl | rfl
          · refine ⟨_, rfl, fun w H => ?_⟩
            refine op_buildSlice (wn rfl) rfl rfl rfl Try.underlying54 Finf60 S H (idx := []) rfl rfl rfl (z := []) (by kernel_rfl) (cs := []) rfl fun b61 a w S H => ?_
            have H := H.celO [] Past.enc 3 (m := 0) rfl (by simp) rfl (by omega)
            refine t_next H (by repeat (first | exact List.Sublist.refl _ | apply List.Sublist.cons)) (rem' := [6, 12, 13, 14, 15, 16, 17, 18]) rfl ?_
            refine t_b [6, 12] (by kernel_rfl) rfl ?_
            intro i hi; simp only [List.mem_cons, List.not_mem_nil, or_false] at hi; rcases hi with rfl | rfl
            · refine ⟨_, rfl, fun w H => ?_⟩
              refine op_appendT (wn rfl) rfl rfl rfl Try.underlying54 Finf60 rfl rfl S H rfl rfl (by simp [Past.enc, Value.oneCell']) (by first | omega | (simp only [List.length_append, List.length_take, List.length_drop, List.length_replicate, List.length_set, List.length_map, List.length_cons, List.length_nil]; omega)) (by first | omega | (simp only [List.length_append, List.length_take, List.length_drop, List.length_replicate, List.length_set, List.length_map, List.length_cons, List.length_nil]; omega)) fun u66 a w S H => ?_
              refine t_tail H rfl (rem' := [12, 13, 14, 15, 16, 17, 18]) rfl ?_
              refine t_q 12 rfl (by kernel_rfl) (rem' := [13, 14, 15, 16, 17, 18]) rfl rfl rfl rfl S (fun w H => y_load rfl Fsca3 S H rfl rfl) fun a S => ?_
              refine t_q 13 rfl (by kernel_rfl) (rem' := [14, 15, 16, 17, 18]) rfl rfl rfl rfl S (fun w H => y_buildf rfl Fbld60 S rfl (idx := [0, 1, 2]) rfl (cs := [.int .i64 c, .int .i64 k, .int .i64 (max r.now t)]) (by kernel_rfl)) fun a S => ?_
              refine t_b [14] (by kernel_rfl) rfl ?_
              intro i hi; simp only [List.mem_cons, List.not_mem_nil, or_false] at hi; subst hi
              · refine ⟨_, rfl, fun w H => ?_⟩
                refine op_buildSlice (wn rfl) rfl rfl rfl Try.underlying54 Finf60 S H (idx := [0]) rfl rfl rfl (z := [.int .i64 0, .int .i64 0, .int .i64 0]) (by kernel_rfl) (cs := [.int .i64 c, .int .i64 k, .int .i64 (max r.now t)]) (by kernel_rfl) fun b74 a w S H => ?_
                refine t_next H (by repeat (first | exact List.Sublist.refl _ | apply List.Sublist.cons)) (rem' := [15, 16, 17, 18]) rfl ?_
                refine t_b [15] (by kernel_rfl) rfl ?_
                intro i hi; simp only [List.mem_cons, List.not_mem_nil, or_false] at hi; subst hi
                · refine ⟨_, rfl, fun w H => ?_⟩
                  refine op_append ([(⟨c, k, max r.now t⟩ : Past)]) (wn rfl) rfl rfl rfl Try.underlying54 Finf60 rfl rfl S H rfl rfl rfl rfl (by simp) (by simp [Past.enc]) (by simp [Past.enc, Value.oneCell']) (by first | omega | (simp only [List.length_append, List.length_take, List.length_drop, List.length_replicate, List.length_set, List.length_map, List.length_cons, List.length_nil]; omega)) (by first | omega | (simp only [List.length_append, List.length_take, List.length_drop, List.length_replicate, List.length_set, List.length_map, List.length_cons, List.length_nil]; omega)) fun u75 a w hn75 S H => ?_
                  refine t_tail H rfl (rem' := [16, 17, 18]) rfl ?_
                  refine t_q 16 rfl (by kernel_rfl) (rem' := [17, 18]) rfl rfl rfl rfl S (fun w H => y_nilCheck rfl S rfl) fun a S => ?_
                  refine t_q 17 rfl (by kernel_rfl) (rem' := [18]) rfl rfl rfl rfl S (fun w H => y_faddrb rfl Ffo56_4 S rfl) fun a S => ?_
                  refine t_b [18] (by kernel_rfl) rfl ?_
                  intro i hi; simp only [List.mem_cons, List.not_mem_nil, or_false] at hi; subst hi
                  · refine ⟨_, rfl, fun w H => ?_⟩
                    refine op_store (wn rfl) rfl rfl S H rfl rfl (H.sl1 _) Fsiz54 rfl fun a w S H => ?_
                    dsimp only [List.set] at H
                    refine t_tail H rfl (rem' := []) rfl ?_
                    refine t_nil (fun w H => ?_)
                    exact ⟨u75, S.nil.cons S 0 rfl, (H.pickK [.b b, .s u75]).sub (by simp only [RDoorL, List.cons_append, List.nil_append]; repeat (first | exact List.Sublist.refl _ | apply List.Sublist.cons_cons | apply List.Sublist.cons))⟩
            · refine ⟨_, rfl, fun w H => ?_⟩
              refine op_y (wn rfl) rfl rfl S (y_load rfl Fsca3 S H rfl rfl) fun a S => ?_
              refine t_next H (by repeat (first | exact List.Sublist.refl _ | apply List.Sublist.cons)) (rem' := [6, 13, 14, 15, 16, 17, 18]) rfl ?_
              refine t_p 13 rfl (by kernel_rfl) (rem' := [6, 14, 15, 16, 17, 18]) rfl rfl rfl rfl S (fun w => y_buildf rfl Fbld60 S rfl (idx := [0, 1, 2]) rfl (cs := [.int .i64 c, .int .i64 k, .int .i64 (max r.now t)]) (by kernel_rfl)) fun a S => ?_
              refine t_b [6, 14] (by kernel_rfl) rfl ?_
              intro i hi; simp only [List.mem_cons, List.not_mem_nil, or_false] at hi; rcases hi with rfl | rfl
              · refine ⟨_, rfl, fun w H => ?_⟩
                refine op_appendT (wn rfl) rfl rfl rfl Try.underlying54 Finf60 rfl rfl S H rfl rfl (by simp [Past.enc, Value.oneCell']) (by first | omega | (simp only [List.length_append, List.length_take, List.length_drop, List.length_replicate, List.length_set, List.length_map, List.length_cons, List.length_nil]; omega)) (by first | omega | (simp only [List.length_append, List.length_take, List.length_drop, List.length_replicate, List.length_set, List.length_map, List.length_cons, List.length_nil]; omega)) fun u66 a w S H => ?_
                refine t_tail H rfl (rem' := [14, 15, 16, 17, 18]) rfl ?_
                refine t_b [14] (by kernel_rfl) rfl ?_
                intro i hi; simp only [List.mem_cons, List.not_mem_nil, or_false] at hi; subst hi
                · refine ⟨_, rfl, fun w H => ?_⟩
                  refine op_buildSlice (wn rfl) rfl rfl rfl Try.underlying54 Finf60 S H (idx := [0]) rfl rfl rfl (z := [.int .i64 0, .int .i64 0, .int .i64 0]) (by kernel_rfl) (cs := [.int .i64 c, .int .i64 k, .int .i64 (max r.now t)]) (by kernel_rfl) fun b74 a w S H => ?_
                  refine t_next H (by repeat (first | exact List.Sublist.refl _ | apply List.Sublist.cons)) (rem' := [15, 16, 17, 18]) rfl ?_
                  refine t_b [15] (by kernel_rfl) rfl ?_
                  intro i hi; simp only [List.mem_cons, List.not_mem_nil, or_false] at hi; subst hi
                  · refine ⟨_, rfl, fun w H => ?_⟩
                    refine op_append ([(⟨c, k, max r.now t⟩ : Past)]) (wn rfl) rfl rfl rfl Try.underlying54 Finf60 rfl rfl S H rfl rfl rfl rfl (by simp) (by simp [Past.enc]) (by simp [Past.enc, Value.oneCell']) (by first | omega | (simp only [List.length_append, List.length_take, List.length_drop, List.length_replicate, List.length_set, List.length_map, List.length_cons, List.length_nil]; omega)) (by first | omega | (simp only [List.length_append, List.length_take, List.length_drop, List.length_replicate, List.length_set, List.length_map, List.length_cons, List.length_nil]; omega)) fun u75 a w hn75 S H => ?_
                    refine t_tail H rfl (rem' := [16, 17, 18]) rfl ?_
                    refine t_q 16 rfl (by kernel_rfl) (rem' := [17, 18]) rfl rfl rfl rfl S (fun w H => y_nilCheck rfl S rfl) fun a S => ?_
                    refine t_q 17 rfl (by kernel_rfl) (rem' := [18]) rfl rfl rfl rfl S (fun w H => y_faddrb rfl Ffo56_4 S rfl) fun a S => ?_
                    refine t_b [18] (by kernel_rfl) rfl ?_
                    intro i hi; simp only [List.mem_cons, List.not_mem_nil, or_false] at hi; subst hi
                    · refine ⟨_, rfl, fun w H => ?_⟩
                      refine op_store (wn rfl) rfl rfl S H rfl rfl (H.sl1 _) Fsiz54 rfl fun a w S H => ?_
                      dsimp only [List.set] at H
                      refine t_tail H rfl (rem' := []) rfl ?_
                      refine t_nil (fun w H => ?_)
                      exact ⟨u75, S.nil.cons S 0 rfl, (H.pickK [.b b, .s u75]).sub (by simp only [RDoorL, List.cons_append, List.nil_append]; repeat (first | exact List.Sublist.refl _ | apply List.Sublist.cons_cons | apply List.Sublist.cons))⟩
              · refine ⟨_, rfl, fun w H => ?_⟩
                refine op_buildSlice (wn rfl) rfl rfl rfl Try.underlying54 Finf60 S H (idx := [0]) rfl rfl rfl (z := [.int .i64 0, .int .i64 0, .int .i64 0]) (by kernel_rfl) (cs := [.int .i64 c, .int .i64 k, .int .i64 (max r.now t)]) (by kernel_rfl) fun b74 a w S H => ?_
                refine t_next H (by repeat (first | exact List.Sublist.refl _ | apply List.Sublist.cons)) (rem' := [6, 15, 16, 17, 18]) rfl ?_
                refine t_b [6] (by kernel_rfl) rfl ?_
                intro i hi; simp only [List.mem_cons, List.not_mem_nil, or_false] at hi; subst hi
                · refine ⟨_, rfl, fun w H => ?_⟩
                  refine op_appendT (wn rfl) rfl rfl rfl Try.underlying54 Finf60 rfl rfl S H rfl rfl (by simp [Past.enc, Value.oneCell']) (by first | omega | (simp only [List.length_append, List.length_take, List.length_drop, List.length_replicate, List.length_set, List.length_map, List.length_cons, List.length_nil]; omega)) (by first | omega | (simp only [List.length_append, List.length_take, List.length_drop, List.length_replicate, List.length_set, List.length_map, List.length_cons, List.length_nil]; omega)) fun u66 a w S H => ?_
                  refine t_tail H rfl (rem' := [15, 16, 17, 18]) rfl ?_
                  refine t_b [15] (by kernel_rfl) rfl ?_
                  intro i hi; simp only [List.mem_cons, List.not_mem_nil, or_false] at hi; subst hi
                  · refine ⟨_, rfl, fun w H => ?_⟩
                    refine op_append ([(⟨c, k, max r.now t⟩ : Past)]) (wn rfl) rfl rfl rfl Try.underlying54 Finf60 rfl rfl S H rfl rfl rfl rfl (by simp) (by simp [Past.enc]) (by simp [Past.enc, Value.oneCell']) (by first | omega | (simp only [List.length_append, List.length_take, List.length_drop, List.length_replicate, List.length_set, List.length_map, List.length_cons, List.length_nil]; omega)) (by first | omega | (simp only [List.length_append, List.length_take, List.length_drop, List.length_replicate, List.length_set, List.length_map, List.length_cons, List.length_nil]; omega)) fun u75 a w hn75 S H => ?_
                    refine t_tail H rfl (rem' := [16, 17, 18]) rfl ?_
                    refine t_q 16 rfl (by kernel_rfl) (rem' := [17, 18]) rfl rfl rfl rfl S (fun w H => y_nilCheck rfl S rfl) fun a S => ?_
                    refine t_q 17 rfl (by kernel_rfl) (rem' := [18]) rfl rfl rfl rfl S (fun w H => y_faddrb rfl Ffo56_4 S rfl) fun a S => ?_
                    refine t_b [18] (by kernel_rfl) rfl ?_
                    intro i hi; simp only [List.mem_cons, List.not_mem_nil, or_false] at hi; subst hi
                    · refine ⟨_, rfl, fun w H => ?_⟩
                      refine op_store (wn rfl) rfl rfl S H rfl rfl (H.sl1 _) Fsiz54 rfl fun a w S H => ?_
                      dsimp only [List.set] at H
                      refine t_tail H rfl (rem' := []) rfl ?_
                      refine t_nil (fun w H => ?_)
                      exact ⟨u75, S.nil.cons S 0 rfl, (H.pickK [.b b, .s u75]).sub (by simp only [RDoorL, List.cons_append, List.nil_append]; repeat (first | exact List.Sublist.refl _ | apply List.Sublist.cons_cons | apply List.Sublist.cons))⟩
          · refine ⟨_, rfl, fun w H => ?_⟩
            refine op_y (wn rfl) rfl rfl S (y_load rfl Fsca3 S H rfl rfl) fun a S => ?_
            refine t_next H (by repeat (first | exact List.Sublist.refl _ | apply List.Sublist.cons)) (rem' := [1, 6, 13, 14, 15, 16, 17, 18]) rfl ?_
            refine t_p 13 rfl (by kernel_rfl) (rem' := [1, 6, 14, 15, 16, 17, 18]) rfl rfl rfl rfl S (fun w => y_buildf rfl Fbld60 S rfl (idx := [0, 1, 2]) rfl (cs := [.int .i64 c, .int .i64 k, .int .i64 (max r.now t)]) (by kernel_rfl)) fun a S => ?_
            refine t_b [1, 14] (by kernel_rfl) rfl ?_
            intro i hi; simp only [List.mem_cons, List.not_mem_nil, or_false] at hi; rcases hi with rfl | rfl
            · refine ⟨_, rfl, fun w H => ?_⟩
              refine op_buildSlice (wn rfl) rfl rfl rfl Try.underlying54 Finf60 S H (idx := []) rfl rfl rfl (z := []) (by kernel_rfl) (cs := []) rfl fun b61 a w S H => ?_
              have H := H.celO [] Past.enc 3 (m := 0) rfl (by simp) rfl (by omega)
              refine t_next H (by repeat (first | exact List.Sublist.refl _ | apply List.Sublist.cons)) (rem' := [6, 14, 15, 16, 17, 18]) rfl ?_
              refine t_b [6, 14] (by kernel_rfl) rfl ?_
              intro i hi; simp only [List.mem_cons, List.not_mem_nil, or_false] at hi; rcases hi with rfl | rfl
              · refine ⟨_, rfl, fun w H => ?_⟩
                refine op_appendT (wn rfl) rfl rfl rfl Try.underlying54 Finf60 rfl rfl S H rfl rfl (by simp [Past.enc, Value.oneCell']) (by first | omega | (simp only [List.length_append, List.length_take, List.length_drop, List.length_replicate, List.length_set, List.length_map, List.length_cons, List.length_nil]; omega)) (by first | omega | (simp only [List.length_append, List.length_take, List.length_drop, List.length_replicate, List.length_set, List.length_map, List.length_cons, List.length_nil]; omega)) fun u66 a w S H => ?_
                refine t_tail H rfl (rem' := [14, 15, 16, 17, 18]) rfl ?_
                refine t_b [14] (by kernel_rfl) rfl ?_
                intro i hi; simp only [List.mem_cons, List.not_mem_nil, or_false] at hi; subst hi
                · refine ⟨_, rfl, fun w H => ?_⟩
                  refine op_buildSlice (wn rfl) rfl rfl rfl Try.underlying54 Finf60 S H (idx := [0]) rfl rfl rfl (z := [.int .i64 0, .int .i64 0, .int .i64 0]) (by kernel_rfl) (cs := [.int .i64 c, .int .i64 k, .int .i64 (max r.now t)]) (by kernel_rfl) fun b74 a w S H => ?_
                  refine t_next H (by repeat (first | exact List.Sublist.refl _ | apply List.Sublist.cons)) (rem' := [15, 16, 17, 18]) rfl ?_
                  refine t_b [15] (by kernel_rfl) rfl ?_
                  intro i hi; simp only [List.mem_cons, List.not_mem_nil, or_false] at hi; subst hi
                  · refine ⟨_, rfl, fun w H => ?_⟩
                    refine op_append ([(⟨c, k, max r.now t⟩ : Past)]) (wn rfl) rfl rfl rfl Try.underlying54 Finf60 rfl rfl S H rfl rfl rfl rfl (by simp) (by simp [Past.enc]) (by simp [Past.enc, Value.oneCell']) (by first | omega | (simp only [List.length_append, List.length_take, List.length_drop, List.length_replicate, List.length_set, List.length_map, List.length_cons, List.length_nil]; omega)) (by first | omega | (simp only [List.length_append, List.length_take, List.length_drop, List.length_replicate, List.length_set, List.length_map, List.length_cons, List.length_nil]; omega)) fun u75 a w hn75 S H => ?_
                    refine t_tail H rfl (rem' := [16, 17, 18]) rfl ?_
                    refine t_q 16 rfl (by kernel_rfl) (rem' := [17, 18]) rfl rfl rfl rfl S (fun w H => y_nilCheck rfl S rfl) fun a S => ?_
                    refine t_q 17 rfl (by kernel_rfl) (rem' := [18]) rfl rfl rfl rfl S (fun w H => y_faddrb rfl Ffo56_4 S rfl) fun a S => ?_
                    refine t_b [18] (by kernel_rfl) rfl ?_
                    intro i hi; simp only [List.mem_cons, List.not_mem_nil, or_false] at hi; subst hi
                    · refine ⟨_, rfl, fun w H => ?_⟩
                      refine op_store (wn rfl) rfl rfl S H rfl rfl (H.sl1 _) Fsiz54 rfl fun a w S H => ?_
                      dsimp only [List.set] at H
                      refine t_tail H rfl (rem' := []) rfl ?_
                      refine t_nil (fun w H => ?_)
                      exact ⟨u75, S.nil.cons S 0 rfl, (H.pickK [.b b, .s u75]).sub (by simp only [RDoorL, List.cons_append, List.nil_append]; repeat (first | exact List.Sublist.refl _ | apply List.Sublist.cons_cons | apply List.Sublist.cons))⟩
              · refine ⟨_, rfl, fun w H => ?_⟩
                refine op_buildSlice (wn rfl) rfl rfl rfl Try.underlying54 Finf60 S H (idx := [0]) rfl rfl rfl (z := [.int .i64 0, .int .i64 0, .int .i64 0]) (by kernel_rfl) (cs := [.int .i64 c, .int .i64 k, .int .i64 (max r.now t)]) (by kernel_rfl) fun b74 a w S H => ?_
                refine t_next H (by repeat (first | exact List.Sublist.refl _ | apply List.Sublist.cons)) (rem' := [6, 15, 16, 17, 18]) rfl ?_
                refine t_b [6] (by kernel_rfl) rfl ?_
                intro i hi; simp only [List.mem_cons, List.not_mem_nil, or_false] at hi; subst hi
                · refine ⟨_, rfl, fun w H => ?_⟩
                  refine op_appendT (wn rfl) rfl rfl rfl Try.underlying54 Finf60 rfl rfl S H rfl rfl (by simp [Past.enc, Value.oneCell']) (by first | omega | (simp only [List.length_append, List.length_take, List.length_drop, List.length_replicate, List.length_set, List.length_map, List.length_cons, List.length_nil]; omega)) (by first | omega | (simp only [List.length_append, List.length_take, List.length_drop, List.length_replicate, List.length_set, List.length_map, List.length_cons, List.length_nil]; omega)) fun u66 a w S H => ?_
                  refine t_tail H rfl (rem' := [15, 16, 17, 18]) rfl ?_
                  refine t_b [15] (by kernel_rfl) rfl ?_
                  intro i hi; simp only [List.mem_cons, List.not_mem_nil, or_false] at hi; subst hi
                  · refine ⟨_, rfl, fun w H => ?_⟩
                    refine op_append ([(⟨c, k, max r.now t⟩ : Past)]) (wn rfl) rfl rfl rfl Try.underlying54 Finf60 rfl rfl S H rfl rfl rfl rfl (by simp) (by simp [Past.enc]) (by simp [Past.enc, Value.oneCell']) (by first | omega | (simp only [List.length_append, List.length_take, List.length_drop, List.length_replicate, List.length_set, List.length_map, List.length_cons, List.length_nil]; omega)) (by first | omega | (simp only [List.length_append, List.length_take, List.length_drop, List.length_replicate, List.length_set, List.length_map, List.length_cons, List.length_nil]; omega)) fun u75 a w hn75 S H => ?_
                    refine t_tail H rfl (rem' := [16, 17, 18]) rfl ?_
                    refine t_q 16 rfl (by kernel_rfl) (rem' := [17, 18]) rfl rfl rfl rfl S (fun w H => y_nilCheck rfl S rfl) fun a S => ?_
                    refine t_q 17 rfl (by kernel_rfl) (rem' := [18]) rfl rfl rfl rfl S (fun w H => y_faddrb rfl Ffo56_4 S rfl) fun a S => ?_
                    refine t_b [18] (by kernel_rfl) rfl ?_
                    intro i hi; simp only [List.mem_cons, List.not_mem_nil, or_false] at hi; subst hi
                    · refine ⟨_, rfl, fun w H => ?_⟩
                      refine op_store (wn rfl) rfl rfl S H rfl rfl (H.sl1 _) Fsiz54 rfl fun a w S H => ?_
                      dsimp only [List.set] at H
                      refine t_tail H rfl (rem' := []) rfl ?_
                      refine t_nil (fun w H => ?_)
                      exact ⟨u75, S.nil.cons S 0 rfl, (H.pickK [.b b, .s u75]).sub (by simp only [RDoorL, List.cons_append, List.nil_append]; repeat (first | exact List.Sublist.refl _ | apply List.Sublist.cons_cons | apply List.Sublist.cons))⟩
            · refine ⟨_, rfl, fun w H => ?_⟩
              refine op_buildSlice (wn rfl) rfl rfl rfl Try.underlying54 Finf60 S H (idx := [0]) rfl rfl rfl (z := [.int .i64 0, .int .i64 0, .int .i64 0]) (by kernel_rfl) (cs := [.int .i64 c, .int .i64 k, .int .i64 (max r.now t)]) (by kernel_rfl) fun b74 a w S H => ?_
              refine t_next H (by repeat (first | exact List.Sublist.refl _ | apply List.Sublist.cons)) (rem' := [1, 6, 15, 16, 17, 18]) rfl ?_
              refine t_b [1] (by kernel_rfl) rfl ?_
              intro i hi; simp only [List.mem_cons, List.not_mem_nil, or_false] at hi; subst hi
              · refine ⟨_, rfl, fun w H => ?_⟩
                refine op_buildSlice (wn rfl) rfl rfl rfl Try.underlying54 Finf60 S H (idx := []) rfl rfl rfl (z := []) (by kernel_rfl) (cs := []) rfl fun b61 a w S H => ?_
                have H := H.celO [] Past.enc 3 (m := 0) rfl (by simp) rfl (by omega)
                refine t_next H (by repeat (first | exact List.Sublist.refl _ | apply List.Sublist.cons)) (rem' := [6, 15, 16, 17, 18]) rfl ?_
                refine t_b [6] (by kernel_rfl) rfl ?_
                intro i hi; simp only [List.mem_cons, List.not_mem_nil, or_false] at hi; subst hi
                · refine ⟨_, rfl, fun w H => ?_⟩
                  refine op_appendT (wn rfl) rfl rfl rfl Try.underlying54 Finf60 rfl rfl S H rfl rfl (by simp [Past.enc, Value.oneCell']) (by first | omega | (simp only [List.length_append, List.length_take, List.length_drop, List.length_replicate, List.length_set, List.length_map, List.length_cons, List.length_nil]; omega)) (by first | omega | (simp only [List.length_append, List.length_take, List.length_drop, List.length_replicate, List.length_set, List.length_map, List.length_cons, List.length_nil]; omega)) fun u66 a w S H => ?_
                  refine t_tail H rfl (rem' := [15, 16, 17, 18]) rfl ?_
                  refine t_b [15] (by kernel_rfl) rfl ?_
                  intro i hi; simp only [List.mem_cons, List.not_mem_nil, or_false] at hi; subst hi
                  · refine ⟨_, rfl, fun w H => ?_⟩
                    refine op_append ([(⟨c, k, max r.now t⟩ : Past)]) (wn rfl) rfl rfl rfl Try.underlying54 Finf60 rfl rfl S H rfl rfl rfl rfl (by simp) (by simp [Past.enc]) (by simp [Past.enc, Value.oneCell']) (by first | omega | (simp only [List.length_append, List.length_take, List.length_drop, List.length_replicate, List.length_set, List.length_map, List.length_cons, List.length_nil]; omega)) (by first | omega | (simp only [List.length_append, List.length_take, List.length_drop, List.length_replicate, List.length_set, List.length_map, List.length_cons, List.length_nil]; omega)) fun u75 a w hn75 S H => ?_
                    refine t_tail H rfl (rem' := [16, 17, 18]) rfl ?_
                    refine t_q 16 rfl (by kernel_rfl) (rem' := [17, 18]) rfl rfl rfl rfl S (fun w H => y_nilCheck rfl S rfl) fun a S => ?_
                    refine t_q 17 rfl (by kernel_rfl) (rem' := [18]) rfl rfl rfl rfl S (fun w H => y_faddrb rfl Ffo56_4 S rfl) fun a S => ?_
                    refine t_b [18] (by kernel_rfl) rfl ?_
                    intro i hi; simp only [List.mem_cons, List.not_mem_nil, or_false] at hi; subst hi
                    · refine ⟨_, rfl, fun w H => ?_⟩
                      refine op_store (wn rfl) rfl rfl S H rfl rfl (H.sl1 _) Fsiz54 rfl fun a w S H => ?_
                      dsimp only [List.set] at H
                      refine t_tail H rfl (rem' := []) rfl ?_
                      refine t_nil (fun w H => ?_)
                      exact ⟨u75, S.nil.cons S 0 rfl, (H.pickK [.b b, .s u75]).sub (by simp only [RDoorL, List.cons_append, List.nil_append]; repeat (first | exact List.Sublist.refl _ | apply List.Sublist.cons_cons | apply List.Sublist.cons))⟩
        rintro a w ⟨vp1, S, H⟩
        refine wp_seq ?_
        -- region 9 ref.go:74
        refine wp_region_lit ?_
        refine wl_of (op_y (wn rfl) rfl rfl S (y_assign rfl S rfl) fun a S => ?_)
        refine wpList_nil ?_
        refine n_then ?_
        refine wp_ret ?_
        refine ret1 rfl S rfl ?_
        rw [e]; exact ⟨rfl, vp1, HSat.fold (ls := RDoorL b v vp1 _) H (by simp [RDoorL, OSl, Blk])⟩

end Go.Proofs.Ytojmagbonbcffaa
