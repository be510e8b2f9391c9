/- The walks. No condition. -/
import Derived.Test.YtgplcgfdaoenfaaChecked
import Derived.Test.YtgplcgfdaoenfaaGwCut
import Derived.Test.YtgplcgfdaoenfaaFacts
import Derived.Test.YtgplcgfdaoenfaaPlain
import Derived.Test.YtgplcgfdaoenfaaW4
namespace Go.Proofs.Ytgplcgfdaoenfaa
open Go Go.Gw
set_option linter.unusedVariables false
set_option linter.unusedSimpArgs false
set_option maxHeartbeats 1000000 in
/-- (*foyer/room.Room).Leave -/
theorem leave_spec {M : Nat → Prop} {u0 : World} {l : List Atom} (b ms mp : Nat) (vo vs : Value) (r : RM) (i : Int) (N : Nat) (w0 : World) (h00 : HSat M u0 (RoomA b ms mp vo r vs :: l) w0) (hw : r.WF N) :
    Ret Try.prog 17 #[.pointer (some ⟨b, 0, none⟩), .int .i64 i] w0 (fun u w => u = .int .i64 (leave r i).1 ∧ HSat M u0 (RoomA b ms mp vo (leave r i).2 vs :: l) w) := by
  refine ret_of_wp (nt := 11) Try.func17 rfl rfl rfl (fl := [(0, .pointer (some ⟨b, 0, none⟩)), (1, .int .i64 i)]) rfl (fun a S => ?_)
  have H := h00.unfold
  simp only [RoomL, List.cons_append, List.nil_append] at H
  refine g_seq ?_
  -- region 0 room.go:102
  refine g_region ?_
  refine wl_of (op_y (wn rfl) rfl rfl S (y_assign rfl S rfl) fun a S => ?_)
  refine gl_nil ?_
  refine n_then ?_
  refine g_seq ?_
  -- region 1 room.go:102
  refine g_region ?_
  refine wl_of (op_y (wn rfl) rfl rfl S (y_move rfl S rfl) fun a S => ?_)
  refine wl_of (op_y (wn rfl) rfl rfl S (y_move rfl S rfl) fun a S => ?_)
  refine wl_of (op_y (wn rfl) rfl rfl S (y_move rfl S rfl) fun a S => ?_)
  refine wl_of (op_y (wn rfl) rfl rfl S (y_makeFunc rfl S rfl rfl) fun a S => ?_)
  refine wl_of (op_buildSlice (wn rfl) rfl rfl rfl Try.underlying53 Finf37 S H (idx := [0]) rfl rfl rfl (z := [.nilFunc]) (by kernel_rfl) (cs := [.func (.func 26) #[.pointer (some ⟨b, 0, none⟩)] #[]]) (by kernel_rfl) fun b9 a w S H => ?_)
  have H := H.celO [((.func (.func 26) #[.pointer (some ⟨b, 0, none⟩)] #[] : Value), readyE r i)] (fun p : Value × Int => [p.1]) 1 (m := 1) rfl (by simp) rfl (by decide)
  refine wl_of (op_call (wn rfl) rfl rfl S (co_func rfl Try.call25 S rfl) (change_spec b ms mp vo vs r i 3 (.slice (some ⟨b9, 0, none⟩) 1 1) [((.func (.func 26) #[.pointer (some ⟨b, 0, none⟩)] #[] : Value), readyE r i)] N _ (H.pickK [.b b, .s vo, .b ms, .b mp, .s vs]) hw trivial (hc := inferInstance) (by
    intro p hp
    simp only [List.mem_cons, List.not_mem_nil, or_false] at hp
    subst hp
    exact ⟨26, [.pointer (some ⟨b, 0, none⟩)], [], rfl, Try.call26, fun w H1 => ready_spec b ms mp vo vs r i N w H1 hw⟩)) fun v w hc a S => ?_)
  obtain ⟨rfl, H⟩ := hc
  simp only [List.map_cons, List.map_nil] at H S
  refine wl_of (op_y (wn rfl) rfl rfl S (y_assign rfl S rfl) fun a S => ?_)
  refine gl_nil ?_
  refine n_then ?_
  have S := S.nil.cons S 4 rfl
  refine g_ret ?_
  refine ret1 rfl S rfl ?_
  have hs := leave_eq r i
  refine ⟨by rw [hs.1], ?_⟩
  rw [hs.2]
  split at H
  · rename_i he; rw [if_pos he]; simp only [RoomL, List.cons_append, List.nil_append] at H; exact HSat.fold (ls := RoomL b ms mp vo vs (setSt r i 3)) ((H.pickK [.b b, .s vo, .b ms, .b mp, .s vs]).sub (by simp only [RoomL, List.cons_append, List.nil_append]; repeat (first | exact List.Sublist.refl _ | apply List.Sublist.cons_cons | apply List.Sublist.cons))) (RoomL_own _ _ _ _ _ _)
  · rename_i he; rw [if_neg he]; simp only [RoomL, List.cons_append, List.nil_append] at H; exact HSat.fold (ls := RoomL b ms mp vo vs r) ((H.pickK [.b b, .s vo, .b ms, .b mp, .s vs]).sub (by simp only [RoomL, List.cons_append, List.nil_append]; repeat (first | exact List.Sublist.refl _ | apply List.Sublist.cons_cons | apply List.Sublist.cons))) (RoomL_own _ _ _ _ _ _)
/-- (*foyer/room.Room).change -/
theorem change_nil {M : Nat → Prop} {u0 : World} {l : List Atom} (i s : Int) (vc : Value) (cs : List (Value × Int)) (w0 : World) (h0 : HSat M u0 l w0) [hc : HasSl l vc 1 (Value × Int) (fun p => [p.1]) cs]
    (hstep : ∀ (h : 0 < cs.length), ∃ (f : FuncId) (fi cap : List Value), cs[0].1 = .func (.func f) fi.toArray cap.toArray ∧ Enters Try.prog f ∧ ∀ w, HSat M u0 l w → Ret Try.prog f (fi ++ [Value.int .i64 i] ++ cap).toArray w (fun u w' => u = .int .i64 cs[0].2 ∧ Ext w w')) (hne : ∃ h : 0 < cs.length, cs[0].2 ≠ 0) :
    Ret Try.prog 25 #[.pointer none, .int .i64 i, .int .i64 s, vc] w0 (fun u w => u = .int .i64 ((cs.map (·.2)).headD 0) ∧ HSat M u0 l w) := by
  refine ret_of_wp (nt := 31) Try.func25 rfl rfl rfl (fl := [(0, .pointer none), (1, .int .i64 i), (2, .int .i64 s), (3, vc)]) rfl (fun a S => ?_)
  have H := h0
  obtain ⟨hlen, hne⟩ := hne
  obtain ⟨f, fi, cap, hfv, hen, hcall⟩ := hstep hlen
  have hcl := (h0.sl vc).len
  refine g_seq ?_
  -- region 0 room.go:76
  refine g_region ?_
  refine wl_of (op_y (wn rfl) rfl rfl S (y_assign rfl S rfl) fun a S => ?_)
  refine gl_nil ?_
  refine n_then ?_
  refine g_seq ?_
  refine g_seq ?_
  -- region 1 room.go:77
  refine g_region ?_
  refine wl_of (op_y (wn rfl) rfl rfl S (y_move rfl S rfl) fun a S => ?_)
  refine wl_of (op_y (wn rfl) rfl rfl S (y_lens rfl Try.underlying53 S H rfl) fun a S => ?_)
  refine wl_of (op_y (wn rfl) rfl rfl S (y_move rfl S rfl) fun a S => ?_)
  refine gl_nil ?_
  refine n_then ?_
  refine g_block ?_
  -- slots written in the loop and forgotten at its head: [8]
  have SU := ((((S.nil.cons S 2 rfl).cons S 1 rfl).cons S 0 rfl).cons S 12 rfl).cons S 13 rfl
  refine loop_k (X := Nat) SU (fun k => [(14, .int .i64 (k : Int))]) (fun k => k = 0) (fun k => 1 - k) 0 (S.nil.cons S 14 rfl) H (rfl) (fun k a w S H hi => ?_)
  simp only [List.cons_append, List.nil_append] at S hi
  refine g_seq ?_
  -- region 2 room.go:77
  refine g_region ?_
  refine wl_of (op_y (wn rfl) rfl rfl S (y_bin rfl S rfl rfl rfl) fun a S => ?_)
  refine gl_nil ?_
  refine n_then ?_
  refine g_seq ?_
  -- cond 1
  refine c_if S rfl (fun h1 => ?_) (fun h1 => ?_)
  · have h1p := h1; try simp only [Option.isNone_some, Option.isNone_none, Option.isSome_some, Option.isSome_none, false_or, or_false, true_and, and_true, decide_eq_true_eq, decide_eq_false_iff_not, Bool.or_eq_true, Bool.and_eq_true, Bool.or_eq_false_iff, Bool.and_eq_false_iff, Bool.not_eq_true', Bool.not_eq_false', bne_iff_ne, beq_iff_eq, beq_eq_false_iff_ne, bne_eq_false_iff_eq, ne_eq, Decidable.not_not, Int.not_lt, Int.not_le, gt_iff_lt, ge_iff_le, Bool.true_eq_false, Bool.false_eq_true, not_true_eq_false, not_false_eq_true] at h1p
    refine g_skip ?_
    refine n_then ?_
    refine g_seq ?_
    refine g_block ?_
    refine g_seq ?_
    -- region 3 room.go:77
    refine g_region ?_
    refine wl_of (op_y (wn rfl) rfl rfl S (y_iaddrn rfl Try.underlying53 Fsiz37 S H rfl rfl (by first | assumption | omega | (simp only [List.length_append, List.length_take, List.length_drop, List.length_replicate, List.length_set, List.length_map, List.length_cons, List.length_nil]; omega))) fun a S => ?_)
    refine wl_of (op_y (wn rfl) rfl rfl S (y_loads _ rfl Fsca37 S H rfl (by first | assumption | omega | (simp only [List.length_append, List.length_take, List.length_drop, List.length_replicate, List.length_set, List.length_map, List.length_cons, List.length_nil]; omega)) rfl) fun a S => ?_)
    obtain rfl : k = 0 := hi
    rw [hfv] at S
    refine wl_of (op_y (wn rfl) rfl rfl S (y_assign rfl S rfl) fun a S => ?_)
    refine gl_nil ?_
    refine n_then ?_
    refine g_seq ?_
    -- region 4 room.go:78
    refine g_region ?_
    refine wl_of (op_y (wn rfl) rfl rfl S (y_move rfl S rfl) fun a S => ?_)
    refine wl_of (op_y (wn rfl) rfl rfl S (y_move rfl S rfl) fun a S => ?_)
    refine wl_of (op_call (wn rfl) rfl rfl S (co_value rfl hen S rfl rfl) (hcall w H) fun v w hc a S => ?_)
    obtain ⟨rfl, he⟩ := hc
    have H := H.ext he
    refine wl_of (op_y (wn rfl) rfl rfl S (y_assign rfl S rfl) fun a S => ?_)
    refine gl_nil ?_
    refine n_then ?_
    refine g_seq ?_
    -- region 5 room.go:78
    refine g_region ?_
    refine wl_of (op_y (wn rfl) rfl rfl S (y_move rfl S rfl) fun a S => ?_)
    refine wl_of (op_y (wn rfl) rfl rfl S (y_bin rfl S rfl rfl rfl) fun a S => ?_)
    refine gl_nil ?_
    refine n_then ?_
    -- cond 2
    refine c_if S rfl (fun h2 => ?_) (fun h2 => ?_)
    · have h2p := h2; try simp only [Option.isNone_some, Option.isNone_none, Option.isSome_some, Option.isSome_none, false_or, or_false, true_and, and_true, decide_eq_true_eq, decide_eq_false_iff_not, Bool.or_eq_true, Bool.and_eq_true, Bool.or_eq_false_iff, Bool.and_eq_false_iff, Bool.not_eq_true', Bool.not_eq_false', bne_iff_ne, beq_iff_eq, beq_eq_false_iff_ne, bne_eq_false_iff_eq, ne_eq, Decidable.not_not, Int.not_lt, Int.not_le, gt_iff_lt, ge_iff_le, Bool.true_eq_false, Bool.false_eq_true, not_true_eq_false, not_false_eq_true] at h2p
      refine g_seq ?_
      -- region 6 room.go:79
      refine g_region ?_
      refine wl_of (op_y (wn rfl) rfl rfl S (y_move rfl S rfl) fun a S => ?_)
      refine wl_of (op_y (wn rfl) rfl rfl S (y_assign rfl S rfl) fun a S => ?_)
      refine gl_nil ?_
      refine n_then ?_
      refine g_ret ?_
      refine r_block (r_then (r_then (r_block (r_then (ret1 rfl S rfl ?_)))))
      match cs, hlen with
      | p :: q, _ => exact ⟨rfl, H⟩
    · have h2p := h2; try simp only [Option.isNone_some, Option.isNone_none, Option.isSome_some, Option.isSome_none, false_or, or_false, true_and, and_true, decide_eq_true_eq, decide_eq_false_iff_not, Bool.or_eq_true, Bool.and_eq_true, Bool.or_eq_false_iff, Bool.and_eq_false_iff, Bool.not_eq_true', Bool.not_eq_false', bne_iff_ne, beq_iff_eq, beq_eq_false_iff_ne, bne_eq_false_iff_eq, ne_eq, Decidable.not_not, Int.not_lt, Int.not_le, gt_iff_lt, ge_iff_le, Bool.true_eq_false, Bool.false_eq_true, not_true_eq_false, not_false_eq_true] at h2p
      all_goals (
        exfalso; simp at h2; exact hne h2)
  · have h1p := h1; try simp only [Option.isNone_some, Option.isNone_none, Option.isSome_some, Option.isSome_none, false_or, or_false, true_and, and_true, decide_eq_true_eq, decide_eq_false_iff_not, Bool.or_eq_true, Bool.and_eq_true, Bool.or_eq_false_iff, Bool.and_eq_false_iff, Bool.not_eq_true', Bool.not_eq_false', bne_iff_ne, beq_iff_eq, beq_eq_false_iff_ne, bne_eq_false_iff_eq, ne_eq, Decidable.not_not, Int.not_lt, Int.not_le, gt_iff_lt, ge_iff_le, Bool.true_eq_false, Bool.false_eq_true, not_true_eq_false, not_false_eq_true] at h1p
    all_goals (
      exfalso; subst hi; simp at h1; omega)
/-- (*foyer/room.Room).Leave -/
theorem leave_nil (i : Int) (w0 : World) :
    Ret Try.prog 17 #[.pointer none, .int .i64 i] w0 (fun u w => u = .int .i64 1 ∧ Ext w0 w) := by
  refine ret_of_wp (nt := 11) Try.func17 rfl rfl rfl (fl := [(0, .pointer none), (1, .int .i64 i)]) rfl (fun a S => ?_)
  have H := HSat.start w0
  refine g_seq ?_
  -- region 0 room.go:102
  refine g_region ?_
  refine wl_of (op_y (wn rfl) rfl rfl S (y_assign rfl S rfl) fun a S => ?_)
  refine gl_nil ?_
  refine n_then ?_
  refine g_seq ?_
  -- region 1 room.go:102
  refine g_region ?_
  refine wl_of (op_y (wn rfl) rfl rfl S (y_move rfl S rfl) fun a S => ?_)
  refine wl_of (op_y (wn rfl) rfl rfl S (y_move rfl S rfl) fun a S => ?_)
  refine wl_of (op_y (wn rfl) rfl rfl S (y_move rfl S rfl) fun a S => ?_)
  refine wl_of (op_y (wn rfl) rfl rfl S (y_makeFunc rfl S rfl rfl) fun a S => ?_)
  refine wl_of (op_buildSlice (wn rfl) rfl rfl rfl Try.underlying53 Finf37 S H (idx := [0]) rfl rfl rfl (z := [.nilFunc]) (by kernel_rfl) (cs := [.func (.func 26) #[.pointer none] #[]]) (by kernel_rfl) fun b9 a w S H => ?_)
  have H := H.celO [((.func (.func 26) #[.pointer none] #[] : Value), (1 : Int))] (fun p : Value × Int => [p.1]) 1 (m := 1) rfl (by simp) rfl (by decide)
  refine wl_of (op_call (wn rfl) rfl rfl S (co_func rfl Try.call25 S rfl) (change_nil i 3 (.slice (some ⟨b9, 0, none⟩) 1 1) [((.func (.func 26) #[.pointer none] #[] : Value), (1 : Int))] _ H (fun _ => ⟨26, [.pointer none], [], rfl, Try.call26, fun w H1 => ready_nil i w⟩) ⟨by simp, by simp⟩) fun v w hc a S => ?_)
  obtain ⟨rfl, H⟩ := hc
  dsimp only [List.map, List.headD] at S
  refine wl_of (op_y (wn rfl) rfl rfl S (y_assign rfl S rfl) fun a S => ?_)
  refine gl_nil ?_
  refine n_then ?_
  have S := S.nil.cons S 4 rfl
  refine g_ret ?_
  refine ret1 rfl S rfl ?_
  exact ⟨rfl, H.toExt⟩
/-- (*foyer/room.Room).Serve -/
theorem serve_nil (i now : Int) (w0 : World) :
    Ret Try.prog 19 #[.pointer none, .int .i64 i, .int .i64 now] w0 (fun u w => u = .int .i64 1 ∧ Ext w0 w) := by
  refine ret_of_wp (nt := 30) Try.func19 rfl rfl rfl (fl := [(0, .pointer none), (1, .int .i64 i), (2, .int .i64 now)]) rfl (fun a S => ?_)
  have H := HSat.start w0
  refine g_seq ?_
  -- region 0 room.go:87
  refine g_region ?_
  refine wl_of (op_box1 (wn rfl) rfl rfl rfl S H rfl rfl fun b3 a w S H => ?_)
  refine wl_of (op_box1 (wn rfl) rfl rfl rfl S H rfl rfl fun b5 a w S H => ?_)
  refine wl_of (op_y (wn rfl) rfl rfl S (y_assign rfl S rfl) fun a S => ?_)
  refine gl_nil ?_
  refine n_then ?_
  refine g_seq ?_
  -- region 1 room.go:88
  refine g_region ?_
  refine wl_of (op_y (wn rfl) rfl rfl S (y_makeFunc rfl S rfl rfl) fun a S => ?_)
  refine wl_of (op_y (wn rfl) rfl rfl S (y_assign rfl S rfl) fun a S => ?_)
  refine gl_nil ?_
  refine n_then ?_
  have S := (((S.nil.cons S 1 rfl).cons S 3 rfl).cons S 6 rfl).cons S 7 rfl
  refine g_seq ?_
  -- region 2 room.go:94
  refine g_region ?_
  refine wl_of (op_y (wn rfl) rfl rfl S (y_load rfl Fsca25 S H rfl rfl) fun a S => ?_)
  refine wl_of (op_y (wn rfl) rfl rfl S (y_move rfl S rfl) fun a S => ?_)
  refine wl_of (op_y (wn rfl) rfl rfl S (y_load rfl Fsca25 S H rfl rfl) fun a S => ?_)
  refine wl_of (op_y (wn rfl) rfl rfl S (y_makeFunc rfl S rfl rfl) fun a S => ?_)
  refine wl_of (op_y (wn rfl) rfl rfl S (y_move rfl S rfl) fun a S => ?_)
  refine wl_of (op_buildSlice (wn rfl) rfl rfl rfl Try.underlying53 Finf37 S H (idx := [0, 1]) rfl rfl rfl (z := [.nilFunc, .nilFunc]) (by kernel_rfl) (cs := [.func (.func 26) #[.pointer none] #[], .func (.func 28) #[] #[.pointer (some ⟨b3, 0, none⟩), .pointer (some ⟨b5, 0, none⟩)]]) (by kernel_rfl) fun b15 a w S H => ?_)
  have H := H.celO [((.func (.func 26) #[.pointer none] #[] : Value), (1 : Int)), ((.func (.func 28) #[] #[.pointer (some ⟨b3, 0, none⟩), .pointer (some ⟨b5, 0, none⟩)] : Value), (0 : Int))] (fun p : Value × Int => [p.1]) 1 (m := 2) rfl (by simp) rfl (by decide)
  refine wl_of (op_call (wn rfl) rfl rfl S (co_func rfl Try.call25 S rfl) (change_nil i 2 (.slice (some ⟨b15, 0, none⟩) 2 2) [((.func (.func 26) #[.pointer none] #[] : Value), (1 : Int)), ((.func (.func 28) #[] #[.pointer (some ⟨b3, 0, none⟩), .pointer (some ⟨b5, 0, none⟩)] : Value), (0 : Int))] _ H (fun _ => ⟨26, [.pointer none], [], rfl, Try.call26, fun w H1 => ready_nil i w⟩) ⟨by simp, by simp⟩) fun v w hc a S => ?_)
  obtain ⟨rfl, H⟩ := hc
  dsimp only [List.map, List.headD] at S
  refine wl_of (op_y (wn rfl) rfl rfl S (y_assign rfl S rfl) fun a S => ?_)
  refine gl_nil ?_
  refine n_then ?_
  have S := (((S.nil.cons S 1 rfl).cons S 3 rfl).cons S 6 rfl).cons S 8 rfl
  refine g_seq ?_
  refine g_seq ?_
  -- region 3 room.go:95
  refine g_region ?_
  refine wl_of (op_y (wn rfl) rfl rfl S (y_move rfl S rfl) fun a S => ?_)
  refine wl_of (op_y (wn rfl) rfl rfl S (y_bin rfl S rfl rfl rfl) fun a S => ?_)
  refine gl_nil ?_
  refine n_then ?_
  -- cond 1 (both ways go on)
  refine c_if S rfl (fun h1 => ?_) (fun h1 => ?_)
  · have h1p := h1; try simp only [Option.isNone_some, Option.isNone_none, Option.isSome_some, Option.isSome_none, false_or, or_false, true_and, and_true, decide_eq_true_eq, decide_eq_false_iff_not, Bool.or_eq_true, Bool.and_eq_true, Bool.or_eq_false_iff, Bool.and_eq_false_iff, Bool.not_eq_true', Bool.not_eq_false', bne_iff_ne, beq_iff_eq, beq_eq_false_iff_ne, bne_eq_false_iff_eq, ne_eq, Decidable.not_not, Int.not_lt, Int.not_le, gt_iff_lt, ge_iff_le, Bool.true_eq_false, Bool.false_eq_true, not_true_eq_false, not_false_eq_true] at h1p
    all_goals (
      exact absurd h1 (by simp))
  · have h1p := h1; try simp only [Option.isNone_some, Option.isNone_none, Option.isSome_some, Option.isSome_none, false_or, or_false, true_and, and_true, decide_eq_true_eq, decide_eq_false_iff_not, Bool.or_eq_true, Bool.and_eq_true, Bool.or_eq_false_iff, Bool.and_eq_false_iff, Bool.not_eq_true', Bool.not_eq_false', bne_iff_ne, beq_iff_eq, beq_eq_false_iff_ne, bne_eq_false_iff_eq, ne_eq, Decidable.not_not, Int.not_lt, Int.not_le, gt_iff_lt, ge_iff_le, Bool.true_eq_false, Bool.false_eq_true, not_true_eq_false, not_false_eq_true] at h1p
    refine g_skip ?_
    refine n_then ?_
    have S := (S.nil.cons S 6 rfl).cons S 8 rfl
    refine g_seq ?_
    -- region 5 room.go:98
    refine g_region ?_
    refine wl_of (op_y (wn rfl) rfl rfl S (y_move rfl S rfl) fun a S => ?_)
    refine wl_of (op_y (wn rfl) rfl rfl S (y_assign rfl S rfl) fun a S => ?_)
    refine gl_nil ?_
    refine n_then ?_
    refine g_ret ?_
    refine ret1 rfl S rfl ?_
    exact ⟨rfl, H.toExt⟩

end Go.Proofs.Ytgplcgfdaoenfaa
