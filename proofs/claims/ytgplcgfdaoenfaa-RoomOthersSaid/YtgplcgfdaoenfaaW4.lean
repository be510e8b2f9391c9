/- The walks. No condition. -/
import Derived.Test.YtgplcgfdaoenfaaChecked
import Derived.Test.YtgplcgfdaoenfaaGwCut
import Derived.Test.YtgplcgfdaoenfaaFacts
import Derived.Test.YtgplcgfdaoenfaaPlain
import Derived.Test.YtgplcgfdaoenfaaW3
namespace Go.Proofs.Ytgplcgfdaoenfaa
open Go Go.Gw
set_option linter.unusedVariables false
set_option linter.unusedSimpArgs false
set_option maxHeartbeats 1000000 in
/-- (*foyer/room.Room).Serve -/
theorem serve_spec {M : Nat → Prop} {u0 : World} {l : List Atom} (b ms mp : Nat) (vo vs : Value) (r : RM) (i now : Int) (N : Nat) (w0 : World) (h00 : HSat M u0 (RoomA b ms mp vo r vs :: l) w0) (hw : r.WF N) (hN : N ≤ 100000) :
    Ret Try.prog 19 #[.pointer (some ⟨b, 0, none⟩), .int .i64 i, .int .i64 now] w0 (fun u w => u = .int .i64 (serve r i now).1 ∧ ∃ vs1, HSat M u0 (RoomA b ms mp vo (serve r i now).2 vs1 :: l) w) := by
  refine ret_of_wp (nt := 30) Try.func19 rfl rfl rfl (fl := [(0, .pointer (some ⟨b, 0, none⟩)), (1, .int .i64 i), (2, .int .i64 now)]) rfl (fun a S => ?_)
  have H := h00.unfold
  simp only [RoomL, List.cons_append, List.nil_append] at H
  have hsl := hw.served
  refine g_seq ?_
  -- region 0 room.go:87
  refine g_region ?_
  refine wl_of (op_box1 (wn rfl) rfl rfl rfl S H rfl rfl fun b3 a w S H => ?_)
  have H := H.freeze
  refine wl_of (op_box1 (wn rfl) rfl rfl rfl S H rfl rfl fun b5 a w S H => ?_)
  refine wl_of (op_y (wn rfl) rfl rfl S (y_assign rfl S rfl) fun a S => ?_)
  refine gl_nil ?_
  refine n_then ?_
  refine g_seq ?_
  -- region 1 room.go:88
  refine g_region ?_
  refine wl_of (op_y (wn rfl) rfl rfl S (y_makeFunc rfl S rfl rfl) fun a S => ?_)
  refine wl_of (op_y (wn rfl) rfl rfl S (y_assign rfl S rfl) fun a S => ?_)
  refine gl_nil ?_
  refine n_then ?_
  have S := (((S.nil.cons S 1 rfl).cons S 3 rfl).cons S 6 rfl).cons S 7 rfl
  refine g_seq ?_
  -- region 2 room.go:94
  refine g_region ?_
  refine wl_of (op_y (wn rfl) rfl rfl S (y_load rfl Fsca25 S H rfl rfl) fun a S => ?_)
  refine wl_of (op_y (wn rfl) rfl rfl S (y_move rfl S rfl) fun a S => ?_)
  refine wl_of (op_y (wn rfl) rfl rfl S (y_load rfl Fsca25 S H rfl rfl) fun a S => ?_)
  refine wl_of (op_y (wn rfl) rfl rfl S (y_makeFunc rfl S rfl rfl) fun a S => ?_)
  refine wl_of (op_y (wn rfl) rfl rfl S (y_move rfl S rfl) fun a S => ?_)
  refine wl_of (op_buildSlice (wn rfl) rfl rfl rfl Try.underlying53 Finf37 S H (idx := [0, 1]) rfl rfl rfl (z := [.nilFunc, .nilFunc]) (by kernel_rfl) (cs := [.func (.func 26) #[.pointer (some ⟨b, 0, none⟩)] #[], .func (.func 28) #[] #[.pointer (some ⟨b3, 0, none⟩), .pointer (some ⟨b5, 0, none⟩)]]) (by kernel_rfl) fun b15 a w S H => ?_)
  have H := H.celO [((.func (.func 26) #[.pointer (some ⟨b, 0, none⟩)] #[] : Value), readyE r i), ((.func (.func 28) #[] #[.pointer (some ⟨b3, 0, none⟩), .pointer (some ⟨b5, 0, none⟩)] : Value), earlyE r i now)] (fun p : Value × Int => [p.1]) 1 (m := 2) rfl (by simp) rfl (by decide)
  refine wl_of (op_call (wn rfl) rfl rfl S (co_func rfl Try.call25 S rfl) (change_spec b ms mp vo vs r i 2 (.slice (some ⟨b15, 0, none⟩) 2 2) [((.func (.func 26) #[.pointer (some ⟨b, 0, none⟩)] #[] : Value), readyE r i), ((.func (.func 28) #[] #[.pointer (some ⟨b3, 0, none⟩), .pointer (some ⟨b5, 0, none⟩)] : Value), earlyE r i now)] N _ (H.pickK [.b b, .s vo, .b ms, .b mp, .s vs]) hw trivial (hc := inferInstance) (by
    intro p hp
    simp only [List.mem_cons, List.not_mem_nil, or_false] at hp
    rcases hp with rfl | rfl
    · exact ⟨26, [.pointer (some ⟨b, 0, none⟩)], [], rfl, Try.call26, fun w H1 => ready_spec b ms mp vo vs r i N w H1 hw⟩
    · exact ⟨28, [], [.pointer (some ⟨b3, 0, none⟩), .pointer (some ⟨b5, 0, none⟩)], rfl, Try.call28, fun w H1 => early_spec b ms mp vo vs r i now b3 b5 N w H1 hw⟩)) fun v w hc a S => ?_)
  obtain ⟨rfl, H⟩ := hc
  simp only [List.map_cons, List.map_nil] at H S
  refine wl_of (op_y (wn rfl) rfl rfl S (y_assign rfl S rfl) fun a S => ?_)
  refine gl_nil ?_
  refine n_then ?_
  have S := (((S.nil.cons S 1 rfl).cons S 3 rfl).cons S 6 rfl).cons S 8 rfl
  refine g_seq ?_
  refine g_seq ?_
  -- region 3 room.go:95
  refine g_region ?_
  refine wl_of (op_y (wn rfl) rfl rfl S (y_move rfl S rfl) fun a S => ?_)
  refine wl_of (op_y (wn rfl) rfl rfl S (y_bin rfl S rfl rfl rfl) fun a S => ?_)
  refine gl_nil ?_
  refine n_then ?_
  -- cond 1 (both ways go on)
  refine c_if S rfl (fun h1 => ?_) (fun h1 => ?_)
  · have h1p := h1; try simp only [Option.isNone_some, Option.isNone_none, Option.isSome_some, Option.isSome_none, false_or, or_false, true_and, and_true, decide_eq_true_eq, decide_eq_false_iff_not, Bool.or_eq_true, Bool.and_eq_true, Bool.or_eq_false_iff, Bool.and_eq_false_iff, Bool.not_eq_true', Bool.not_eq_false', bne_iff_ne, beq_iff_eq, beq_eq_false_iff_ne, bne_eq_false_iff_eq, ne_eq, Decidable.not_not, Int.not_lt, Int.not_le, gt_iff_lt, ge_iff_le, Bool.true_eq_false, Bool.false_eq_true, not_true_eq_false, not_false_eq_true] at h1p
    have he : firstE [readyE r i, earlyE r i now] = 0 := by simpa using h1
    rw [if_pos he] at H
    simp only [RoomL, List.cons_append, List.nil_append] at H
    -- region 4 DRAWS room.go:96
    refine region_st (loud := [6, 7, 10]) (tails := [7, 10]) (free := [0]) [0, 1, 2, 3, 4, 5, 6, 7, 8, 9, 10] [Atom.ro (Cel b3 25 [.pointer (some ⟨b, 0, none⟩)])] Fmo (by kernel_rfl) (by kernel_rfl) rfl H ?_
    refine m_f rfl rfl (wn rfl) rfl rfl S (fun w H => y_load rfl Fsca25 S H rfl rfl) fun a S => ?_
    refine m_w rfl rfl (wn rfl) rfl rfl S (fun w H => y_load rfl Fsca25 S H rfl rfl) fun a S => ?_
    refine m_w rfl rfl (wn rfl) rfl rfl S (fun w H => y_nilCheck rfl S rfl) fun a S => ?_
    refine m_w rfl rfl (wn rfl) rfl rfl S (fun w H => y_faddrb rfl Ffo48_6 S rfl) fun a S => ?_
    refine m_w rfl rfl (wn rfl) rfl rfl S (fun w H => y_load rfl Fsca22 S H rfl rfl) fun a S => ?_
    refine m_w rfl rfl (wn rfl) rfl rfl S (fun w H => y_move rfl S rfl) fun a S => ?_
    refine m_l rfl rfl (fun w H => op_buildSlice (wn rfl) rfl rfl rfl Try.underlying22 Finf3 S H (idx := [0]) rfl rfl rfl (z := [.int .i64 0]) (by kernel_rfl) (cs := [_]) rfl fun b25 a w S H => m_next H (List.sublist_cons_self _ _) ?_)
    refine m_l rfl rfl (fun w H => op_append ([i]) (wn rfl) rfl rfl rfl Try.underlying22 Finf3 rfl rfl S H rfl rfl rfl rfl (by simp) (by simp [encI]) (by simp [encI, Value.oneCell']) (by simp only [setSt, List.length_cons, List.length_nil]; omega) (by simp only [setSt, List.length_cons, List.length_nil]; omega) fun u26 a w hn26 S H => m_tail H rfl ?_)
    refine m_w rfl rfl (wn rfl) rfl rfl S (fun w H => y_nilCheck rfl S rfl) fun a S => ?_
    refine m_w rfl rfl (wn rfl) rfl rfl S (fun w H => y_faddrb rfl Ffo48_6 S rfl) fun a S => ?_
    refine m_l rfl rfl (fun w H => op_store (wn rfl) rfl rfl S H rfl rfl (H.sl1 _) Fsiz22 rfl fun a w S H => m_tail H rfl ?_)
    dsimp only [List.set, Nat.zero_add, Nat.reduceAdd] at H
    refine m_nil (fun w H => ?_)
    refine n_then ?_
    have S := (S.nil.cons S 6 rfl).cons S 8 rfl
    refine g_seq ?_
    -- region 5 room.go:98
    refine g_region ?_
    refine wl_of (op_y (wn rfl) rfl rfl S (y_move rfl S rfl) fun a S => ?_)
    refine wl_of (op_y (wn rfl) rfl rfl S (y_assign rfl S rfl) fun a S => ?_)
    refine gl_nil ?_
    refine n_then ?_
    refine g_ret ?_
    refine ret1 rfl S rfl ?_
    have hs := serve_eq r i now
    refine ⟨by rw [hs.1], u26, ?_⟩
    rw [hs.2, if_pos he]
    exact HSat.fold (ls := RoomL b ms mp vo u26 { setSt r i 2 with served := r.served ++ [i] }) ((H.pickK [.b b, .s vo, .b ms, .b mp, .s u26]).sub (by simp only [RoomL, List.cons_append, List.nil_append]; repeat (first | exact List.Sublist.refl _ | apply List.Sublist.cons_cons | apply List.Sublist.cons))) (RoomL_own _ _ _ _ _ _)
  · have h1p := h1; try simp only [Option.isNone_some, Option.isNone_none, Option.isSome_some, Option.isSome_none, false_or, or_false, true_and, and_true, decide_eq_true_eq, decide_eq_false_iff_not, Bool.or_eq_true, Bool.and_eq_true, Bool.or_eq_false_iff, Bool.and_eq_false_iff, Bool.not_eq_true', Bool.not_eq_false', bne_iff_ne, beq_iff_eq, beq_eq_false_iff_ne, bne_eq_false_iff_eq, ne_eq, Decidable.not_not, Int.not_lt, Int.not_le, gt_iff_lt, ge_iff_le, Bool.true_eq_false, Bool.false_eq_true, not_true_eq_false, not_false_eq_true] at h1p
    have he : ¬ firstE [readyE r i, earlyE r i now] = 0 := by simpa using h1
    rw [if_neg he] at H
    refine g_skip ?_
    refine n_then ?_
    have S := (S.nil.cons S 6 rfl).cons S 8 rfl
    refine g_seq ?_
    -- region 5 room.go:98
    refine g_region ?_
    refine wl_of (op_y (wn rfl) rfl rfl S (y_move rfl S rfl) fun a S => ?_)
    refine wl_of (op_y (wn rfl) rfl rfl S (y_assign rfl S rfl) fun a S => ?_)
    refine gl_nil ?_
    refine n_then ?_
    refine g_ret ?_
    refine ret1 rfl S rfl ?_
    have hs := serve_eq r i now
    refine ⟨by rw [hs.1], vs, ?_⟩
    rw [hs.2, if_neg he]
    simp only [RoomL, List.cons_append, List.nil_append] at H
    exact HSat.fold (ls := RoomL b ms mp vo vs r) ((H.pickK [.b b, .s vo, .b ms, .b mp, .s vs]).sub (by simp only [RoomL, List.cons_append, List.nil_append]; repeat (first | exact List.Sublist.refl _ | apply List.Sublist.cons_cons | apply List.Sublist.cons))) (RoomL_own _ _ _ _ _ _)

end Go.Proofs.Ytgplcgfdaoenfaa
