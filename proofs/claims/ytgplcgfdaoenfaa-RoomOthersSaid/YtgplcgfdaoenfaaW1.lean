/- The walks. No condition. -/
import Derived.Test.YtgplcgfdaoenfaaChecked
import Derived.Test.YtgplcgfdaoenfaaGwCut
import Derived.Test.YtgplcgfdaoenfaaFacts
import Derived.Test.YtgplcgfdaoenfaaPlain
namespace Go.Proofs.Ytgplcgfdaoenfaa
open Go Go.Gw
set_option linter.unusedVariables false
set_option linter.unusedSimpArgs false

def RoomL (b ms mp : Nat) (vo vs : Value) (r : RM) : List Atom := [Cel b 48 [vo, .int .i64 r.width, .int .i64 r.span, .int .i64 r.from_, .map (some ms), .map (some mp), vs], OSl 3 vo 1 encI r.order, MapA ms kI kI r.st r.nst, MapA mp kI kI r.pl r.npl, OSl 3 vs 1 encI r.served]
def RoomA (b ms mp : Nat) (vo : Value) (r : RM) (vs : Value) : Atom := Bun (RoomL b ms mp vo vs r)
theorem RoomL_own (b ms mp : Nat) (vo vs : Value) (r : RM) : ∀ x ∈ RoomL b ms mp vo vs r, x.own = true := by simp [RoomL, OSl, Blk, MapA]
theorem roomReads {M : Nat → Prop} {u0 w0 : World} {l : List Atom} {b ms mp : Nat} {vo vs : Value} {r : RM} (h : HSat M u0 (RoomL b ms mp vo vs r ++ l) w0) : HSat No w0 [Atom.ro (Cel b 48 [vo, .int .i64 r.width, .int .i64 r.span, .int .i64 r.from_, .map (some ms), .map (some mp), vs]), Atom.ro (OSl 3 vo 1 encI r.order), Atom.ro (MapA ms kI kI r.st r.nst), Atom.ro (MapA mp kI kI r.pl r.npl), Atom.ro (OSl 3 vs 1 encI r.served)] w0 := by
  have := h.reads
  rw [List.map_append] at this
  exact this.sub (List.sublist_append_left _ _)
/-- slices.Clone[[]int,int] -/
theorem clone_any (v : Value) (xs : List Int) (w0 : World) (hv : IsSl w0 v 1 encI xs) (hl : xs.length ≤ 1000000) :
    Ret Try.prog 23 #[v] w0 (fun u w => HSat No w0 [OSl 3 u 1 encI xs] w) := by
  refine ret_of_wp (nt := 8) Try.func23 rfl rfl rfl (fl := [(0, v)]) rfl (fun a S => ?_)
  have H := HSat.start w0
  obtain ⟨pv, cv, rfl⟩ := hv.shape
  have H := H.ro0 (Sl (.slice pv xs.length cv) 1 encI xs) rfl (hv)
  refine g_seq ?_
  -- region 0 slices.go:355
  refine g_region ?_
  refine wl_of (op_y (wn rfl) rfl rfl S (y_assign rfl S rfl) fun a S => ?_)
  refine gl_nil ?_
  refine n_then ?_
  refine g_seq ?_
  refine g_seq ?_
  -- region 1 slices.go:357
  refine g_region ?_
  refine wl_of (op_y (wn rfl) rfl rfl S (y_move rfl S rfl) fun a S => ?_)
  refine wl_of (op_y (wn rfl) rfl rfl S (y_eqsl rfl Try.underlying22 S rfl rfl) fun a S => ?_)
  refine gl_nil ?_
  refine n_then ?_
  -- cond 1
  refine c_if S rfl (fun h1 => ?_) (fun h1 => ?_)
  · have h1p := h1; try simp only [Option.isNone_some, Option.isNone_none, Option.isSome_some, Option.isSome_none, false_or, or_false, true_and, and_true, decide_eq_true_eq, decide_eq_false_iff_not, Bool.or_eq_true, Bool.and_eq_true, Bool.or_eq_false_iff, Bool.and_eq_false_iff, Bool.not_eq_true', Bool.not_eq_false', bne_iff_ne, beq_iff_eq, beq_eq_false_iff_ne, bne_eq_false_iff_eq, ne_eq, Decidable.not_not, Int.not_lt, Int.not_le, gt_iff_lt, ge_iff_le, Bool.true_eq_false, Bool.false_eq_true, not_true_eq_false, not_false_eq_true] at h1p
    have hxs : xs = [] := by
      match xs, hv with
      | [], _ => rfl
      | x :: r, hv => obtain ⟨b, off, c, he, _⟩ := hv.cells 0 (by simp); simp only [Value.slice.injEq] at he; rw [he.1] at h1; simp at h1
    refine g_seq ?_
    -- region 2 slices.go:358
    refine g_region ?_
    refine wl_of (op_y (wn rfl) rfl rfl S (y_assign rfl S rfl) fun a S => ?_)
    refine gl_nil ?_
    refine n_then ?_
    refine g_ret ?_
    refine r_then (ret1 rfl S rfl ?_)
    rw [hxs]; exact (H.nilO 3 1 encI).take [OSl 3 (.slice none 0 0) 1 encI []]
  · have h1p := h1; try simp only [Option.isNone_some, Option.isNone_none, Option.isSome_some, Option.isSome_none, false_or, or_false, true_and, and_true, decide_eq_true_eq, decide_eq_false_iff_not, Bool.or_eq_true, Bool.and_eq_true, Bool.or_eq_false_iff, Bool.and_eq_false_iff, Bool.not_eq_true', Bool.not_eq_false', bne_iff_ne, beq_iff_eq, beq_eq_false_iff_ne, bne_eq_false_iff_eq, ne_eq, Decidable.not_not, Int.not_lt, Int.not_le, gt_iff_lt, ge_iff_le, Bool.true_eq_false, Bool.false_eq_true, not_true_eq_false, not_false_eq_true] at h1p
    refine g_skip ?_
    refine n_then ?_
    refine g_seq ?_
    -- region 3 slices.go:362
    refine g_region ?_
    refine wl_of (op_buildSlice (wn rfl) rfl rfl rfl Try.underlying22 Finf3 S H (idx := []) rfl rfl rfl (z := []) (by kernel_rfl) (cs := []) rfl fun b5 a w S H => ?_)
    have H := H.celO [] encI 1 (m := 0) rfl (by simp) rfl (by omega)
    refine wl_of (op_y (wn rfl) rfl rfl S (y_move rfl S rfl) fun a S => ?_)
    refine wl_of (op_appendT (wn rfl) rfl rfl rfl Try.underlying22 Finf3 rfl rfl S H rfl rfl (by simp [encI, Value.oneCell']) (by first | assumption | omega | (simp only [List.length_append, List.length_take, List.length_drop, List.length_replicate, List.length_set, List.length_map, List.length_cons, List.length_nil]; omega)) (by first | assumption | omega | (simp only [List.length_append, List.length_take, List.length_drop, List.length_replicate, List.length_set, List.length_map, List.length_cons, List.length_nil]; omega)) fun u7 a w S H => ?_)
    refine wl_of (op_y (wn rfl) rfl rfl S (y_assign rfl S rfl) fun a S => ?_)
    refine gl_nil ?_
    refine n_then ?_
    have S := S.nil.cons S 2 rfl
    refine g_ret ?_
    refine ret1 rfl S rfl ?_
    exact H.take [OSl 3 u7 1 encI ([] ++ xs)]
/-- (*foyer/room.Room).call -/
theorem call_spec {M : Nat → Prop} {u0 : World} {l : List Atom} (b ms mp : Nat) (vo vs : Value) (r : RM) (k : Int) (N : Nat) (w0 : World) (h0 : HSat M u0 (RoomL b ms mp vo vs r ++ l) w0) (hw : r.WF N) (hk : 0 ≤ k ∧ k ≤ 4000) :
    Ret Try.prog 24 #[.pointer (some ⟨b, 0, none⟩), .int .i64 k] w0 (fun u w => u = .int .i64 (r.call k) ∧ Ext w0 w) := by
  refine ret_of_wp (nt := 21) Try.func24 rfl rfl rfl (fl := [(0, .pointer (some ⟨b, 0, none⟩)), (1, .int .i64 k)]) rfl (fun a S => ?_)
  have H := roomReads h0
  have hnw := hw.nums.width
  have hns := hw.nums.span
  have hnf := hw.nums.from_
  have hnl := hw.nums.len
  have hdm := div_mul_bd hk hnw.1 hns
  refine g_seq ?_
  -- region 0 room.go:43
  refine g_region ?_
  refine wl_of (op_y (wn rfl) rfl rfl S (y_assign rfl S rfl) fun a S => ?_)
  refine gl_nil ?_
  refine n_then ?_
  refine g_seq ?_
  -- region 1 DRAWS room.go:43
  refine region_st (loud := []) (tails := []) (free := []) [0, 1, 2, 3, 4, 5, 6, 7, 8, 9, 10, 11, 12, 13, 14, 15, 16] [] Fmo (by kernel_rfl) (by kernel_rfl) rfl H ?_
  refine m_w rfl rfl (wn rfl) rfl rfl S (fun w H => y_move rfl S rfl) fun a S => ?_
  refine m_w rfl rfl (wn rfl) rfl rfl S (fun w H => y_nilCheck rfl S rfl) fun a S => ?_
  refine m_w rfl rfl (wn rfl) rfl rfl S (fun w H => y_faddrb rfl Ffo48_3 S rfl) fun a S => ?_
  refine m_w rfl rfl (wn rfl) rfl rfl S (fun w H => y_load rfl Fsca3 S H rfl rfl) fun a S => ?_
  refine m_w rfl rfl (wn rfl) rfl rfl S (fun w H => y_move rfl S rfl) fun a S => ?_
  refine m_w rfl rfl (wn rfl) rfl rfl S (fun w H => y_move rfl S rfl) fun a S => ?_
  refine m_w rfl rfl (wn rfl) rfl rfl S (fun w H => y_nilCheck rfl S rfl) fun a S => ?_
  refine m_w rfl rfl (wn rfl) rfl rfl S (fun w H => y_faddrb rfl Ffo48_1 S rfl) fun a S => ?_
  refine m_w rfl rfl (wn rfl) rfl rfl S (fun w H => y_load rfl Fsca3 S H rfl rfl) fun a S => ?_
  refine m_w rfl rfl (wn rfl) rfl rfl S (fun w H => y_quon rfl S rfl rfl (by omega) (by omega) (by omega)) fun a S => ?_
  refine m_w rfl rfl (wn rfl) rfl rfl S (fun w H => y_move rfl S rfl) fun a S => ?_
  refine m_w rfl rfl (wn rfl) rfl rfl S (fun w H => y_nilCheck rfl S rfl) fun a S => ?_
  refine m_w rfl rfl (wn rfl) rfl rfl S (fun w H => y_faddrb rfl Ffo48_2 S rfl) fun a S => ?_
  refine m_w rfl rfl (wn rfl) rfl rfl S (fun w H => y_load rfl Fsca3 S H rfl rfl) fun a S => ?_
  refine m_w rfl rfl (wn rfl) rfl rfl S (fun w H => y_mul rfl S rfl rfl (by omega)) fun a S => ?_
  refine m_w rfl rfl (wn rfl) rfl rfl S (fun w H => y_add rfl S rfl rfl (by omega)) fun a S => ?_
  refine m_w rfl rfl (wn rfl) rfl rfl S (fun w H => y_assign rfl S rfl) fun a S => ?_
  refine m_nil (fun w H => ?_)
  refine n_then ?_
  have S := S.nil.cons S 4 rfl
  refine g_ret ?_
  refine ret1 rfl S rfl ?_
  exact ⟨rfl, H.toExt⟩
/-- (*foyer/room.Room).ready -/
theorem ready_spec {M : Nat → Prop} {u0 : World} {l : List Atom} (b ms mp : Nat) (vo vs : Value) (r : RM) (i : Int) (N : Nat) (w0 : World) (h0 : HSat M u0 (RoomL b ms mp vo vs r ++ l) w0) (hw : r.WF N) :
    Ret Try.prog 26 #[.pointer (some ⟨b, 0, none⟩), .int .i64 i] w0 (fun u w => u = .int .i64 (readyE r i) ∧ Ext w0 w) := by
  refine ret_of_wp (nt := 24) Try.func26 rfl rfl rfl (fl := [(0, .pointer (some ⟨b, 0, none⟩)), (1, .int .i64 i)]) rfl (fun a S => ?_)
  have H := roomReads h0
  have hnw := hw.nums.width
  have hns := hw.nums.span
  have hnf := hw.nums.from_
  have hnl := hw.nums.len
  refine g_seq ?_
  -- region 0 room.go:63
  refine g_region ?_
  refine wl_of (op_y (wn rfl) rfl rfl S (y_assign rfl S rfl) fun a S => ?_)
  refine gl_nil ?_
  refine n_then ?_
  refine g_seq ?_
  refine g_block ?_
  refine g_seq ?_
  -- region 1 room.go:65
  refine g_region ?_
  refine wl_of (op_y (wn rfl) rfl rfl S (y_move rfl S rfl) fun a S => ?_)
  refine wl_of (op_y (wn rfl) rfl rfl S (y_eqp rfl Try.underlying25 S rfl rfl) fun a S => ?_)
  refine wl_of (op_y (wn rfl) rfl rfl S (y_assign rfl S rfl) fun a S => ?_)
  refine gl_nil ?_
  refine n_then ?_
  -- cond 1
  refine c_if S rfl (fun h1 => ?_) (fun h1 => ?_)
  · have h1p := h1; try simp only [Option.isNone_some, Option.isNone_none, Option.isSome_some, Option.isSome_none, false_or, or_false, true_and, and_true, decide_eq_true_eq, decide_eq_false_iff_not, Bool.or_eq_true, Bool.and_eq_true, Bool.or_eq_false_iff, Bool.and_eq_false_iff, Bool.not_eq_true', Bool.not_eq_false', bne_iff_ne, beq_iff_eq, beq_eq_false_iff_ne, bne_eq_false_iff_eq, ne_eq, Decidable.not_not, Int.not_lt, Int.not_le, gt_iff_lt, ge_iff_le, Bool.true_eq_false, Bool.false_eq_true, not_true_eq_false, not_false_eq_true] at h1p
    all_goals (
      exact absurd h1 (by simp))
  · have h1p := h1; try simp only [Option.isNone_some, Option.isNone_none, Option.isSome_some, Option.isSome_none, false_or, or_false, true_and, and_true, decide_eq_true_eq, decide_eq_false_iff_not, Bool.or_eq_true, Bool.and_eq_true, Bool.or_eq_false_iff, Bool.and_eq_false_iff, Bool.not_eq_true', Bool.not_eq_false', bne_iff_ne, beq_iff_eq, beq_eq_false_iff_ne, bne_eq_false_iff_eq, ne_eq, Decidable.not_not, Int.not_lt, Int.not_le, gt_iff_lt, ge_iff_le, Bool.true_eq_false, Bool.false_eq_true, not_true_eq_false, not_false_eq_true] at h1p
    refine g_seq ?_
    -- region 3 room.go:67
    refine g_region ?_
    refine wl_of (op_y (wn rfl) rfl rfl S (y_move rfl S rfl) fun a S => ?_)
    refine wl_of (op_y (wn rfl) rfl rfl S (y_nilCheck rfl S rfl) fun a S => ?_)
    refine wl_of (op_y (wn rfl) rfl rfl S (y_faddrb rfl Ffo48_4 S rfl) fun a S => ?_)
    refine wl_of (op_y (wn rfl) rfl rfl S (y_load rfl Fsca46 S H rfl rfl) fun a S => ?_)
    refine wl_of (op_y (wn rfl) rfl rfl S (y_move rfl S rfl) fun a S => ?_)
    refine wl_of (op_y (wn rfl) rfl rfl S (y_lookup _ ((0 : Int)) rfl Try.underlying46 Finf3 S H rfl (keyOK_int Try.underlying3) (by exact rfl) (by exact rfl)) fun a S => ?_)
    refine wl_of (op_y (wn rfl) rfl rfl S (y_bin rfl S rfl rfl rfl) fun a S => ?_)
    refine wl_of (op_y (wn rfl) rfl rfl S (y_assign rfl S rfl) fun a S => ?_)
    refine gl_nil ?_
    refine n_then ?_
    have S := (((S.nil.cons S 1 rfl).cons S 0 rfl).cons S 4 rfl).cons S 8 rfl
    -- cond 2
    refine c_if S rfl (fun h2 => ?_) (fun h2 => ?_)
    · have h2p := h2; try simp only [Option.isNone_some, Option.isNone_none, Option.isSome_some, Option.isSome_none, false_or, or_false, true_and, and_true, decide_eq_true_eq, decide_eq_false_iff_not, Bool.or_eq_true, Bool.and_eq_true, Bool.or_eq_false_iff, Bool.and_eq_false_iff, Bool.not_eq_true', Bool.not_eq_false', bne_iff_ne, beq_iff_eq, beq_eq_false_iff_ne, bne_eq_false_iff_eq, ne_eq, Decidable.not_not, Int.not_lt, Int.not_le, gt_iff_lt, ge_iff_le, Bool.true_eq_false, Bool.false_eq_true, not_true_eq_false, not_false_eq_true] at h2p
      refine g_seq ?_
      -- region 4 room.go:68
      refine g_region ?_
      refine wl_of (op_y (wn rfl) rfl rfl S (y_assign rfl S rfl) fun a S => ?_)
      refine gl_nil ?_
      refine n_then ?_
      have S := S.nil.cons S 4 rfl
      refine g_ret ?_
      refine r_block (r_then (ret1 rfl S rfl ?_))
      exact ⟨by rw [readyE, if_pos (by simpa [RM.at_] using h2)], H.toExt⟩
    · have h2p := h2; try simp only [Option.isNone_some, Option.isNone_none, Option.isSome_some, Option.isSome_none, false_or, or_false, true_and, and_true, decide_eq_true_eq, decide_eq_false_iff_not, Bool.or_eq_true, Bool.and_eq_true, Bool.or_eq_false_iff, Bool.and_eq_false_iff, Bool.not_eq_true', Bool.not_eq_false', bne_iff_ne, beq_iff_eq, beq_eq_false_iff_ne, bne_eq_false_iff_eq, ne_eq, Decidable.not_not, Int.not_lt, Int.not_le, gt_iff_lt, ge_iff_le, Bool.true_eq_false, Bool.false_eq_true, not_true_eq_false, not_false_eq_true] at h2p
      refine g_seq ?_
      -- region 5 room.go:69
      refine g_region ?_
      refine wl_of (op_y (wn rfl) rfl rfl S (y_move rfl S rfl) fun a S => ?_)
      refine wl_of (op_y (wn rfl) rfl rfl S (y_nilCheck rfl S rfl) fun a S => ?_)
      refine wl_of (op_y (wn rfl) rfl rfl S (y_faddrb rfl Ffo48_4 S rfl) fun a S => ?_)
      refine wl_of (op_y (wn rfl) rfl rfl S (y_load rfl Fsca46 S H rfl rfl) fun a S => ?_)
      refine wl_of (op_y (wn rfl) rfl rfl S (y_move rfl S rfl) fun a S => ?_)
      refine wl_of (op_y (wn rfl) rfl rfl S (y_lookup _ ((0 : Int)) rfl Try.underlying46 Finf3 S H rfl (keyOK_int Try.underlying3) (by exact rfl) (by exact rfl)) fun a S => ?_)
      refine wl_of (op_y (wn rfl) rfl rfl S (y_bin rfl S rfl rfl rfl) fun a S => ?_)
      refine wl_of (op_y (wn rfl) rfl rfl S (y_assign rfl S rfl) fun a S => ?_)
      refine gl_nil ?_
      refine n_then ?_
      have S := (S.nil.cons S 4 rfl).cons S 16 rfl
      -- cond 3
      refine c_if S rfl (fun h3 => ?_) (fun h3 => ?_)
      · have h3p := h3; try simp only [Option.isNone_some, Option.isNone_none, Option.isSome_some, Option.isSome_none, false_or, or_false, true_and, and_true, decide_eq_true_eq, decide_eq_false_iff_not, Bool.or_eq_true, Bool.and_eq_true, Bool.or_eq_false_iff, Bool.and_eq_false_iff, Bool.not_eq_true', Bool.not_eq_false', bne_iff_ne, beq_iff_eq, beq_eq_false_iff_ne, bne_eq_false_iff_eq, ne_eq, Decidable.not_not, Int.not_lt, Int.not_le, gt_iff_lt, ge_iff_le, Bool.true_eq_false, Bool.false_eq_true, not_true_eq_false, not_false_eq_true] at h3p
        refine g_seq ?_
        -- region 6 room.go:70
        refine g_region ?_
        refine wl_of (op_y (wn rfl) rfl rfl S (y_assign rfl S rfl) fun a S => ?_)
        refine gl_nil ?_
        refine n_then ?_
        refine g_ret ?_
        refine r_block (r_then (ret1 rfl S rfl ?_))
        exact ⟨by rw [readyE, if_neg (by simpa [RM.at_] using h2), if_pos (by simpa [RM.at_] using h3)], H.toExt⟩
      · have h3p := h3; try simp only [Option.isNone_some, Option.isNone_none, Option.isSome_some, Option.isSome_none, false_or, or_false, true_and, and_true, decide_eq_true_eq, decide_eq_false_iff_not, Bool.or_eq_true, Bool.and_eq_true, Bool.or_eq_false_iff, Bool.and_eq_false_iff, Bool.not_eq_true', Bool.not_eq_false', bne_iff_ne, beq_iff_eq, beq_eq_false_iff_ne, bne_eq_false_iff_eq, ne_eq, Decidable.not_not, Int.not_lt, Int.not_le, gt_iff_lt, ge_iff_le, Bool.true_eq_false, Bool.false_eq_true, not_true_eq_false, not_false_eq_true] at h3p
        refine g_skip ?_
        refine n_block ?_
        refine n_then ?_
        refine g_seq ?_
        -- region 7 room.go:72
        refine g_region ?_
        refine wl_of (op_y (wn rfl) rfl rfl S (y_assign rfl S rfl) fun a S => ?_)
        refine gl_nil ?_
        refine n_then ?_
        refine g_ret ?_
        refine ret1 rfl S rfl ?_
        exact ⟨by rw [readyE, if_neg (by simpa [RM.at_] using h2), if_neg (by simpa [RM.at_] using h3)], H.toExt⟩
/-- (*foyer/room.Room).change -/
theorem change_spec {M : Nat → Prop} {u0 : World} {l : List Atom} (b ms mp : Nat) (vo vs : Value) (r : RM) (i s : Int) (vc : Value) (cs : List (Value × Int)) (N : Nat) (w0 : World) (h0 : HSat M u0 (RoomL b ms mp vo vs r ++ l) w0) (hw : r.WF N) (hN : True) [hc : HasSl l vc 1 (Value × Int) (fun p => [p.1]) cs]
    (hstep : ∀ p ∈ cs, ∃ (f : FuncId) (fi cap : List Value), p.1 = .func (.func f) fi.toArray cap.toArray ∧ Enters Try.prog f ∧ ∀ w, HSat M u0 (RoomL b ms mp vo vs r ++ l) w → Ret Try.prog f (fi ++ [Value.int .i64 i] ++ cap).toArray w (fun u w' => u = .int .i64 p.2 ∧ Ext w w')) :
    Ret Try.prog 25 #[.pointer (some ⟨b, 0, none⟩), .int .i64 i, .int .i64 s, vc] w0 (fun u w => u = .int .i64 (firstE (cs.map (·.2))) ∧ HSat M u0 (RoomL b ms mp vo vs (if firstE (cs.map (·.2)) = 0 then setSt r i s else r) ++ l) w) := by
  refine ret_of_wp (nt := 31) Try.func25 rfl rfl rfl (fl := [(0, .pointer (some ⟨b, 0, none⟩)), (1, .int .i64 i), (2, .int .i64 s), (3, vc)]) rfl (fun a S => ?_)
  have H := h0
  simp only [RoomL, List.cons_append, List.nil_append] at H
  have hcl := ((show HSat M u0 l w0 from h0.tail.tail.tail.tail.tail).sl vc).len
  refine g_seq ?_
  -- region 0 room.go:76
  refine g_region ?_
  refine wl_of (op_y (wn rfl) rfl rfl S (y_assign rfl S rfl) fun a S => ?_)
  refine gl_nil ?_
  refine n_then ?_
  refine g_seq ?_
  refine g_seq ?_
  -- region 1 room.go:77
  refine g_region ?_
  refine wl_of (op_y (wn rfl) rfl rfl S (y_move rfl S rfl) fun a S => ?_)
  refine wl_of (op_y (wn rfl) rfl rfl S (y_lens rfl Try.underlying53 S H rfl) fun a S => ?_)
  refine wl_of (op_y (wn rfl) rfl rfl S (y_move rfl S rfl) fun a S => ?_)
  refine gl_nil ?_
  refine n_then ?_
  refine g_block ?_
  -- slots written in the loop and forgotten at its head: [8]
  have SU := ((((S.nil.cons S 2 rfl).cons S 1 rfl).cons S 0 rfl).cons S 12 rfl).cons S 13 rfl
  refine loop_k (X := Nat) SU (fun k => [(14, .int .i64 (k : Int))]) (fun k => k ≤ cs.length ∧ ∀ j (h : j < cs.length), j < k → cs[j].2 = 0) (fun k => cs.length - k) 0 (S.nil.cons S 14 rfl) H (⟨by omega, fun j h hj => by omega⟩) (fun k a w S H hi => ?_)
  simp only [List.cons_append, List.nil_append] at S hi
  obtain ⟨hk, hz⟩ := hi
  refine g_seq ?_
  -- region 2 room.go:77
  refine g_region ?_
  refine wl_of (op_y (wn rfl) rfl rfl S (y_bin rfl S rfl rfl rfl) fun a S => ?_)
  refine gl_nil ?_
  refine n_then ?_
  refine g_seq ?_
  -- cond 1
  refine c_if S rfl (fun h1 => ?_) (fun h1 => ?_)
  · have h1p := h1; try simp only [Option.isNone_some, Option.isNone_none, Option.isSome_some, Option.isSome_none, false_or, or_false, true_and, and_true, decide_eq_true_eq, decide_eq_false_iff_not, Bool.or_eq_true, Bool.and_eq_true, Bool.or_eq_false_iff, Bool.and_eq_false_iff, Bool.not_eq_true', Bool.not_eq_false', bne_iff_ne, beq_iff_eq, beq_eq_false_iff_ne, bne_eq_false_iff_eq, ne_eq, Decidable.not_not, Int.not_lt, Int.not_le, gt_iff_lt, ge_iff_le, Bool.true_eq_false, Bool.false_eq_true, not_true_eq_false, not_false_eq_true] at h1p
    refine g_skip ?_
    refine n_then ?_
    refine g_seq ?_
    refine g_block ?_
    refine g_seq ?_
    -- region 3 room.go:77
    refine g_region ?_
    refine wl_of (op_y (wn rfl) rfl rfl S (y_iaddrn rfl Try.underlying53 Fsiz37 S H rfl rfl (by first | assumption | omega | (simp only [List.length_append, List.length_take, List.length_drop, List.length_replicate, List.length_set, List.length_map, List.length_cons, List.length_nil]; omega))) fun a S => ?_)
    refine wl_of (op_y (wn rfl) rfl rfl S (y_loads _ rfl Fsca37 S H rfl (by first | assumption | omega | (simp only [List.length_append, List.length_take, List.length_drop, List.length_replicate, List.length_set, List.length_map, List.length_cons, List.length_nil]; omega)) rfl) fun a S => ?_)
    obtain ⟨f, fi, cap, hfv, hen, hcall⟩ := hstep cs[k] (List.getElem_mem (by omega))
    rw [hfv] at S
    refine wl_of (op_y (wn rfl) rfl rfl S (y_assign rfl S rfl) fun a S => ?_)
    refine gl_nil ?_
    refine n_then ?_
    refine g_seq ?_
    -- region 4 room.go:78
    refine g_region ?_
    refine wl_of (op_y (wn rfl) rfl rfl S (y_move rfl S rfl) fun a S => ?_)
    refine wl_of (op_y (wn rfl) rfl rfl S (y_move rfl S rfl) fun a S => ?_)
    refine wl_of (op_call (wn rfl) rfl rfl S (co_value rfl hen S rfl rfl) (hcall w H) fun v w hc a S => ?_)
    obtain ⟨rfl, he⟩ := hc
    have H := H.ext he
    refine wl_of (op_y (wn rfl) rfl rfl S (y_assign rfl S rfl) fun a S => ?_)
    refine gl_nil ?_
    refine n_then ?_
    refine g_seq ?_
    -- region 5 room.go:78
    refine g_region ?_
    refine wl_of (op_y (wn rfl) rfl rfl S (y_move rfl S rfl) fun a S => ?_)
    refine wl_of (op_y (wn rfl) rfl rfl S (y_bin rfl S rfl rfl rfl) fun a S => ?_)
    refine gl_nil ?_
    refine n_then ?_
    -- cond 2
    refine c_if S rfl (fun h2 => ?_) (fun h2 => ?_)
    · have h2p := h2; try simp only [Option.isNone_some, Option.isNone_none, Option.isSome_some, Option.isSome_none, false_or, or_false, true_and, and_true, decide_eq_true_eq, decide_eq_false_iff_not, Bool.or_eq_true, Bool.and_eq_true, Bool.or_eq_false_iff, Bool.and_eq_false_iff, Bool.not_eq_true', Bool.not_eq_false', bne_iff_ne, beq_iff_eq, beq_eq_false_iff_ne, bne_eq_false_iff_eq, ne_eq, Decidable.not_not, Int.not_lt, Int.not_le, gt_iff_lt, ge_iff_le, Bool.true_eq_false, Bool.false_eq_true, not_true_eq_false, not_false_eq_true] at h2p
      have he : firstE (cs.map (·.2)) = cs[k].2 := by have := firstE_at (cs.map (·.2)) k (by simp; omega) (fun j h => by simp; exact hz j (by omega) h) (by simpa using h2); simpa using this
      have hne : cs[k].2 ≠ 0 := by simpa using h2
      refine g_seq ?_
      -- region 6 room.go:79
      refine g_region ?_
      refine wl_of (op_y (wn rfl) rfl rfl S (y_move rfl S rfl) fun a S => ?_)
      refine wl_of (op_y (wn rfl) rfl rfl S (y_assign rfl S rfl) fun a S => ?_)
      refine gl_nil ?_
      refine n_then ?_
      refine g_ret ?_
      refine r_block (r_then (r_then (r_block (r_then (ret1 rfl S rfl ?_)))))
      exact ⟨by rw [he], by rw [he, if_neg hne]; exact H⟩
    · have h2p := h2; try simp only [Option.isNone_some, Option.isNone_none, Option.isSome_some, Option.isSome_none, false_or, or_false, true_and, and_true, decide_eq_true_eq, decide_eq_false_iff_not, Bool.or_eq_true, Bool.and_eq_true, Bool.or_eq_false_iff, Bool.and_eq_false_iff, Bool.not_eq_true', Bool.not_eq_false', bne_iff_ne, beq_iff_eq, beq_eq_false_iff_ne, bne_eq_false_iff_eq, ne_eq, Decidable.not_not, Int.not_lt, Int.not_le, gt_iff_lt, ge_iff_le, Bool.true_eq_false, Bool.false_eq_true, not_true_eq_false, not_false_eq_true] at h2p
      refine g_skip ?_
      refine n_block ?_
      refine n_then ?_
      -- region 7 room.go:77
      refine g_region ?_
      refine wl_of (op_y (wn rfl) rfl rfl S (y_add rfl S rfl rfl (by omega)) fun a S => ?_)
      refine wl_of (op_y (wn rfl) rfl rfl S (y_move rfl S rfl) fun a S => ?_)
      refine gl_nil ?_
      refine n_then ?_
      refine ⟨k + 1, S.nil.cons S 14 rfl, ((((S.nil.cons S 2 rfl).cons S 1 rfl).cons S 0 rfl).cons S 12 rfl).cons S 13 rfl, H, ?_, ?_⟩
      · exact ⟨by omega, fun j h hj => by by_cases hjk : j < k; exact hz j h hjk; (obtain rfl : j = k := by omega); simpa using h2⟩
      · omega
  · have h1p := h1; try simp only [Option.isNone_some, Option.isNone_none, Option.isSome_some, Option.isSome_none, false_or, or_false, true_and, and_true, decide_eq_true_eq, decide_eq_false_iff_not, Bool.or_eq_true, Bool.and_eq_true, Bool.or_eq_false_iff, Bool.and_eq_false_iff, Bool.not_eq_true', Bool.not_eq_false', bne_iff_ne, beq_iff_eq, beq_eq_false_iff_ne, bne_eq_false_iff_eq, ne_eq, Decidable.not_not, Int.not_lt, Int.not_le, gt_iff_lt, ge_iff_le, Bool.true_eq_false, Bool.false_eq_true, not_true_eq_false, not_false_eq_true] at h1p
    have he : firstE (cs.map (·.2)) = 0 := firstE_zero _ (fun e h => by obtain ⟨p, hp, rfl⟩ := List.mem_map.1 h; obtain ⟨j, hj, rfl⟩ := List.getElem_of_mem hp; exact hz j hj (by omega))
    refine g_exit ?_
    refine x_then (x_then (x_eq ?_))
    refine n_then ?_
    have S := ((S.nil.cons S 2 rfl).cons S 1 rfl).cons S 0 rfl
    refine g_seq ?_
    -- region 8 room.go:82
    refine g_region ?_
    refine wl_of (op_y (wn rfl) rfl rfl S (y_move rfl S rfl) fun a S => ?_)
    refine wl_of (op_y (wn rfl) rfl rfl S (y_nilCheck rfl S rfl) fun a S => ?_)
    refine wl_of (op_y (wn rfl) rfl rfl S (y_faddrb rfl Ffo48_4 S rfl) fun a S => ?_)
    refine wl_of (op_y (wn rfl) rfl rfl S (y_load rfl Fsca46 S H rfl rfl) fun a S => ?_)
    refine wl_of (op_y (wn rfl) rfl rfl S (y_move rfl S rfl) fun a S => ?_)
    refine wl_of (op_y (wn rfl) rfl rfl S (y_move rfl S rfl) fun a S => ?_)
    refine wl_of (op_mapUpdate _ (_) (wn rfl) rfl rfl Try.underlying46 S H rfl (keyOK_int Try.underlying3) (by exact rfl) (by exact rfl) fun a w S H => ?_)
    refine gl_nil ?_
    refine n_then ?_
    have S := S.nil
    refine g_seq ?_
    -- region 9 room.go:83
    refine g_region ?_
    refine wl_of (op_y (wn rfl) rfl rfl S (y_assign rfl S rfl) fun a S => ?_)
    refine gl_nil ?_
    refine n_then ?_
    refine g_ret ?_
    refine ret1 rfl S rfl ?_
    exact ⟨by rw [he], by rw [if_pos he]; exact H⟩

end Go.Proofs.Ytgplcgfdaoenfaa
