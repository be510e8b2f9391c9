/- The walks. No condition. -/
import Derived.Test.YtoghkehlmibniaaChecked
import Derived.Test.YtoghkehlmibniaaGwQue
import Derived.Test.YtoghkehlmibniaaFacts
import Derived.Test.YtoghkehlmibniaaPlain
import Derived.Test.YtoghkehlmibniaaPlainB
import Derived.Test.YtoghkehlmibniaaW3
namespace Go.Proofs.Ytoghkehlmibniaa
open Go Go.Gw
set_option linter.unusedVariables false
set_option linter.unusedSimpArgs false
/-- slices.Backward[[]int,int] -/
theorem backward_spec (v : Value) (xs : List Nat) (w0 : World) (hv : IsSl w0 v 1 encN xs) :
    Ret Try.prog 32 #[v] w0 (fun u w => ∃ b, u = .func (.func 33) #[] #[.pointer (some ⟨b, 0, none⟩)] ∧ HSat No w0 [Cel b 23 [v]] w) := by
  refine ret_of_wp (nt := 4) Try.func32 rfl rfl rfl (fl := [(0, v)]) rfl (fun a S => ?_)
  have H := HSat.start w0
  have H := H.ro0 (Sl v 1 encN xs) rfl (hv)
  refine g_seq ?_
  -- region 0 iter.go:26
  refine g_region ?_
  refine wl_of (op_box1 (wn rfl) rfl rfl rfl S H rfl (H.slc _) fun b1 a w S H => ?_)
  refine wl_of (op_y (wn rfl) rfl rfl S (y_assign rfl S rfl) fun a S => ?_)
  refine gl_nil ?_
  refine n_then ?_
  refine g_seq ?_
  -- region 1 iter.go:27
  refine g_region ?_
  refine wl_of (op_y (wn rfl) rfl rfl S (y_makeFunc rfl S rfl rfl) fun a S => ?_)
  refine wl_of (op_y (wn rfl) rfl rfl S (y_assign rfl S rfl) fun a S => ?_)
  refine gl_nil ?_
  refine n_then ?_
  have S := S.nil.cons S 2 rfl
  refine g_ret ?_
  refine ret1 rfl S rfl ?_
  exact ⟨_, rfl, H.take [Cel b1 23 [v]]⟩
/-- slices.Backward[[]int,int]$1 -/
theorem backward_iter (lb b : Nat) (v : Value) (xs : List Nat) (w0 : World) (J : Nat → World → Prop) (hJ : ∀ k w, J k w → w.heap[b]? = some (.cells [v].toArray 23 (0, 0)) ∧ IsSl w v 1 encN xs) (hst : ∀ k w w', J k w → Ext w w' → J k w')
    (hround : ∀ k (h : k < xs.length) w, J (k + 1) w → YieldRet Try.prog lb #[.int .i64 (k : Int), .int .i64 (xs[k] : Int)] w (fun u w' => u = .bool true ∧ J k w')) (h0 : J xs.length w0) :
    Ret Try.prog 33 #[.func (.yield lb) #[] #[], .pointer (some ⟨b, 0, none⟩)] w0 (fun u w => J 0 w) := by
  refine ret_of_wp (nt := 19) Try.func33 rfl rfl rfl (fl := [(0, .func (.yield lb) #[] #[]), (1, .pointer (some ⟨b, 0, none⟩))]) rfl (fun a S => ?_)
  have H := ((HSat.start w0).ro0 (Sl v 1 encN xs) rfl (hJ _ _ h0).2).ro0 (Atom.ro (Cel b 23 [v])) rfl (hJ _ _ h0).1
  have hlx := (H.sl v).len
  refine g_seq ?_
  -- region 0 iter.go:28
  refine g_region ?_
  refine wl_of (op_y (wn rfl) rfl rfl S (y_load rfl Fsca23 S H rfl rfl) fun a S => ?_)
  refine wl_of (op_y (wn rfl) rfl rfl S (y_lens rfl Try.underlying23 S H rfl) fun a S => ?_)
  refine wl_of (op_y (wn rfl) rfl rfl S (y_sub rfl S rfl rfl (by omega)) fun a S => ?_)
  refine wl_of (op_y (wn rfl) rfl rfl S (y_assign rfl S rfl) fun a S => ?_)
  refine gl_nil ?_
  refine n_then ?_
  refine g_block ?_
  have SU := (S.nil.cons S 1 rfl).cons S 0 rfl
  refine loopW (X := Nat) SU (fun r => [(3, .int .i64 ((r : Int) - 1))]) (fun r w => r ≤ xs.length ∧ J r w) (fun r => r) xs.length (S.nil.cons S 3 rfl) (⟨by omega, hst _ _ _ h0 H.toExt⟩) (fun r a w S hW => ?_)
  simp only [List.cons_append, List.nil_append] at S
  obtain ⟨hk, hW⟩ := hW
  have H := ((HSat.start w).ro0 (Sl v 1 encN xs) rfl (hJ _ _ hW).2).ro0 (Atom.ro (Cel b 23 [v])) rfl (hJ _ _ hW).1
  refine g_seq ?_
  refine g_seq ?_
  -- region 1 iter.go:28
  refine g_region ?_
  refine wl_of (op_y (wn rfl) rfl rfl S (y_move rfl S rfl) fun a S => ?_)
  refine wl_of (op_y (wn rfl) rfl rfl S (y_bin rfl S rfl rfl rfl) fun a S => ?_)
  refine gl_nil ?_
  refine n_then ?_
  -- cond 1
  refine c_if S rfl (fun h1 => ?_) (fun h1 => ?_)
  · have h1p := h1; try simp only [Option.isNone_some, Option.isNone_none, Option.isSome_some, Option.isSome_none, false_or, or_false, true_and, and_true, decide_eq_true_eq, decide_eq_false_iff_not, Bool.or_eq_true, Bool.and_eq_true, Bool.or_eq_false_iff, Bool.and_eq_false_iff, Bool.not_eq_true', Bool.not_eq_false', bne_iff_ne, beq_iff_eq, beq_eq_false_iff_ne, bne_eq_false_iff_eq, ne_eq, Decidable.not_not, Int.not_lt, Int.not_le, gt_iff_lt, ge_iff_le, Bool.true_eq_false, Bool.false_eq_true, not_true_eq_false, not_false_eq_true] at h1p
    obtain ⟨k, rfl⟩ : ∃ k, r = k + 1 := ⟨r - 1, by omega⟩
    rw [show (((k + 1 : Nat) : Int) - 1) = (k : Int) by omega] at S
    refine g_skip ?_
    refine n_then ?_
    refine g_seq ?_
    refine g_block ?_
    refine g_seq ?_
    -- region 3 iter.go:29
    refine g_region ?_
    refine wl_of (op_y (wn rfl) rfl rfl S (y_move rfl S rfl) fun a S => ?_)
    refine wl_of (op_y (wn rfl) rfl rfl S (y_move rfl S rfl) fun a S => ?_)
    refine wl_of (op_y (wn rfl) rfl rfl S (y_load rfl Fsca23 S H rfl rfl) fun a S => ?_)
    refine wl_of (op_y (wn rfl) rfl rfl S (y_move rfl S rfl) fun a S => ?_)
    refine wl_of (op_y (wn rfl) rfl rfl S (y_iaddrn rfl Try.underlying23 Fsiz3 S H rfl rfl (by first | assumption | omega | (simp only [List.length_append, List.length_take, List.length_drop, List.length_replicate, List.length_set, List.length_map, List.length_cons, List.length_nil]; omega))) fun a S => ?_)
    refine wl_of (op_y (wn rfl) rfl rfl S (y_loads _ rfl Fsca3 S H rfl (by first | assumption | omega | (simp only [List.length_append, List.length_take, List.length_drop, List.length_replicate, List.length_set, List.length_map, List.length_cons, List.length_nil]; omega)) rfl) fun a S => ?_)
    refine wl_of (op_yield (wn rfl) rfl rfl rfl S rfl rfl (hround k (by omega) _ (hst _ _ _ hW H.toExt)) fun u w hc a S => ?_)
    obtain ⟨rfl, hJ1⟩ := hc
    refine wl_of (op_y (wn rfl) rfl rfl S (y_not rfl S rfl) fun a S => ?_)
    refine gl_nil ?_
    refine n_then ?_
    -- cond 2
    refine c_if S rfl (fun h2 => ?_) (fun h2 => ?_)
    · have h2p := h2; try simp only [Option.isNone_some, Option.isNone_none, Option.isSome_some, Option.isSome_none, false_or, or_false, true_and, and_true, decide_eq_true_eq, decide_eq_false_iff_not, Bool.or_eq_true, Bool.and_eq_true, Bool.or_eq_false_iff, Bool.and_eq_false_iff, Bool.not_eq_true', Bool.not_eq_false', bne_iff_ne, beq_iff_eq, beq_eq_false_iff_ne, bne_eq_false_iff_eq, ne_eq, Decidable.not_not, Int.not_lt, Int.not_le, gt_iff_lt, ge_iff_le, Bool.true_eq_false, Bool.false_eq_true, not_true_eq_false, not_false_eq_true] at h2p
      all_goals (
        exact absurd h2 (by simp))
    · have h2p := h2; try simp only [Option.isNone_some, Option.isNone_none, Option.isSome_some, Option.isSome_none, false_or, or_false, true_and, and_true, decide_eq_true_eq, decide_eq_false_iff_not, Bool.or_eq_true, Bool.and_eq_true, Bool.or_eq_false_iff, Bool.and_eq_false_iff, Bool.not_eq_true', Bool.not_eq_false', bne_iff_ne, beq_iff_eq, beq_eq_false_iff_ne, bne_eq_false_iff_eq, ne_eq, Decidable.not_not, Int.not_lt, Int.not_le, gt_iff_lt, ge_iff_le, Bool.true_eq_false, Bool.false_eq_true, not_true_eq_false, not_false_eq_true] at h2p
      refine g_skip ?_
      refine n_block ?_
      refine n_then ?_
      -- region 2 iter.go:28
      refine g_region ?_
      refine wl_of (op_y (wn rfl) rfl rfl S (y_move rfl S rfl) fun a S => ?_)
      refine wl_of (op_y (wn rfl) rfl rfl S (y_sub rfl S rfl rfl (by omega)) fun a S => ?_)
      refine wl_of (op_y (wn rfl) rfl rfl S (y_assign rfl S rfl) fun a S => ?_)
      refine gl_nil ?_
      refine n_then ?_
      exact ⟨k, S.nil.cons S 3 rfl, (S.nil.cons S 1 rfl).cons S 0 rfl, ⟨by omega, hJ1⟩, by omega⟩
  · have h1p := h1; try simp only [Option.isNone_some, Option.isNone_none, Option.isSome_some, Option.isSome_none, false_or, or_false, true_and, and_true, decide_eq_true_eq, decide_eq_false_iff_not, Bool.or_eq_true, Bool.and_eq_true, Bool.or_eq_false_iff, Bool.and_eq_false_iff, Bool.not_eq_true', Bool.not_eq_false', bne_iff_ne, beq_iff_eq, beq_eq_false_iff_ne, bne_eq_false_iff_eq, ne_eq, Decidable.not_not, Int.not_lt, Int.not_le, gt_iff_lt, ge_iff_le, Bool.true_eq_false, Bool.false_eq_true, not_true_eq_false, not_false_eq_true] at h1p
    obtain rfl : r = 0 := by omega
    refine g_exit ?_
    refine x_then (x_then (x_eq ?_))
    refine ret0n rfl S ?_
    exact hst _ _ _ hW H.toExt
/-- foyer/pool.Stable$1 -/
theorem to_spec {M : Nat → Prop} {u0 : World} {l : List Atom} (v2 vb : Value) (got : List Int) (qs : List (Value × List Int)) (bt bb : Nat) (n : Nat) (hgl : got.length = n) (hql : qs.length = n) (i : Nat) (w0 : World) (hi0 : i < n) (hrw : ∀ j, (rowG (gr qs) j).length ≤ 1000000) (h0 : HSat M u0 (Atom.ro (Cel bt 23 [v2]) :: Atom.ro (Cel bb 22 [vb]) :: Sl v2 1 encI got :: Sl vb 1 encRow qs :: RowsS 1 encI qs :: l) w0) :
    Ret Try.prog 29 #[.int .i64 (i : Int), .pointer (some ⟨bt, 0, none⟩), .pointer (some ⟨bb, 0, none⟩)] w0 (fun u w => HSat No w0 [OSl 3 u 1 encI (toS got qs i)] w) := by
  refine ret_of_wp (nt := 15) Try.func29 rfl rfl rfl (fl := [(0, .int .i64 (i : Int)), (1, .pointer (some ⟨bt, 0, none⟩)), (2, .pointer (some ⟨bb, 0, none⟩))]) rfl (fun a S => ?_)
  have H := (HSat.start w0).ro0 (RowsS 1 encI qs) rfl (h0.rwsS qs)
  have H := H.ro0 (Sl vb 1 encRow qs) rfl (h0.sl vb)
  have H := H.ro0 (Sl v2 1 encI got) rfl (h0.sl v2)
  have H := H.ro0 (Atom.ro (Cel bb 22 [vb])) rfl (h0.rd bb)
  have H := H.ro0 (Atom.ro (Cel bt 23 [v2])) rfl (h0.rd bt)
  have hiq : i < qs.length := by omega
  have hr2 := hrw i
  rw [gr_row qs hiq] at hr2
  refine g_seq ?_
  -- region 0 pool.go:98
  refine g_region ?_
  refine wl_of (op_y (wn rfl) rfl rfl S (y_assign rfl S rfl) fun a S => ?_)
  refine gl_nil ?_
  refine n_then ?_
  refine g_seq ?_
  -- region 1 DRAWS pool.go:98
  refine region_st (loud := [4, 9]) (tails := [9]) (free := []) [0, 1, 2, 3, 5, 6, 7, 8, 4, 9, 10] [] Fmo (by kernel_rfl) (by kernel_rfl) rfl H ?_
  refine m_w rfl rfl (wn rfl) rfl rfl S (fun w H => y_load rfl Fsca23 S H rfl rfl) fun a S => ?_
  refine m_w rfl rfl (wn rfl) rfl rfl S (fun w H => y_move rfl S rfl) fun a S => ?_
  refine m_w rfl rfl (wn rfl) rfl rfl S (fun w H => y_iaddrn rfl Try.underlying23 Fsiz3 S H rfl rfl (by first | assumption | omega | (simp only [List.length_append, List.length_take, List.length_drop, List.length_replicate, List.length_set, List.length_map, List.length_cons, List.length_nil]; omega))) fun a S => ?_
  refine m_loads _ rfl rfl (wn rfl) rfl rfl S rfl Fsca3 rfl (by first | assumption | omega | (simp only [List.length_append, List.length_take, List.length_drop, List.length_replicate, List.length_set, List.length_map, List.length_cons, List.length_nil]; omega)) rfl fun a S => ?_
  refine m_w rfl rfl (wn rfl) rfl rfl S (fun w H => y_load rfl Fsca22 S H rfl rfl) fun a S => ?_
  refine m_w rfl rfl (wn rfl) rfl rfl S (fun w H => y_move rfl S rfl) fun a S => ?_
  refine m_w rfl rfl (wn rfl) rfl rfl S (fun w H => y_iaddrn rfl Try.underlying22 Fsiz23 S H rfl rfl (by first | assumption | omega | (simp only [List.length_append, List.length_take, List.length_drop, List.length_replicate, List.length_set, List.length_map, List.length_cons, List.length_nil]; omega))) fun a S => ?_
  refine m_loads _ rfl rfl (wn rfl) rfl rfl S rfl Fsca23 rfl (by first | assumption | omega | (simp only [List.length_append, List.length_take, List.length_drop, List.length_replicate, List.length_set, List.length_map, List.length_cons, List.length_nil]; omega)) rfl fun a S => ?_
  refine m_l rfl rfl (fun w H => op_buildSlice (wn rfl) rfl rfl rfl Try.underlying23 Finf3 S H (idx := [0]) rfl rfl rfl (z := [.int .i64 0]) (by kernel_rfl) (cs := [_]) rfl fun b9 a w S H => ?_)
  have H := H.celO [got[i]] encI 1 (m := 1) rfl (by simp [encI]) rfl (by omega)
  refine m_next H (by repeat (first | exact List.Sublist.refl _ | apply List.Sublist.cons)) ?_
  refine m_l rfl rfl (fun w H => op_appendT (wn rfl) rfl rfl rfl Try.underlying23 Finf3 rfl rfl S H rfl rfl (by simp [encI, Value.oneCell']) (by simp; omega) (by simp; omega) fun u14 a w S H => m_tail H rfl ?_)
  refine m_w rfl rfl (wn rfl) rfl rfl S (fun w H => y_assign rfl S rfl) fun a S => ?_
  refine m_nil (fun w H => ?_)
  refine n_then ?_
  have S := S.nil.cons S 4 rfl
  refine g_ret ?_
  refine ret1 rfl S rfl ?_
  have e : toS got qs i = [got[i]] ++ qs[i].2 := by unfold toS; rw [gr_row qs hiq, atI_eq (by omega)]; rfl
  rw [e]; exact H.take [OSl 3 u14 1 encI ([got[i]] ++ qs[i].2)]

/-- what the walk over pointers does: f rounds deep at most -/
def WalkSpec (f : Nat) (v2 vb : Value) (got : List Int) (qs : List (Value × List Int)) (bt bb n : Nat) (vs : Value) (bs bf bw bo : Nat) : Prop := ∀ {M : Nat → Prop} {u0 : World} {l : List Atom} (i : Nat) (s0 : List Bool) (o0 : List Nat) (vo0 : Value) (w0 : World), i < n → atB s0 i = false → Fin (toS got qs) n s0 o0 → thereC s0 ≤ f →
    HSat M u0 (OSl 4 vs 1 encB (s0) :: Cel bo 23 [vo0] :: OSl 3 vo0 1 encN (o0) :: Atom.ro (Cel bs 38 [vs]) :: Atom.ro (Cel bf 44 [.func (.func 29) #[] #[.pointer (some ⟨bt, 0, none⟩), .pointer (some ⟨bb, 0, none⟩)]]) :: Atom.ro (Cel bw 48 [.func (.func 31) #[] #[.pointer (some ⟨bs, 0, none⟩), .pointer (some ⟨bf, 0, none⟩), .pointer (some ⟨bw, 0, none⟩), .pointer (some ⟨bo, 0, none⟩)]]) :: Atom.ro (Cel bt 23 [v2]) :: Atom.ro (Cel bb 22 [vb]) :: Sl v2 1 encI got :: Sl vb 1 encRow qs :: RowsS 1 encI qs :: l) w0 → Ret Try.prog 31 #[.int .i64 (i : Int), .pointer (some ⟨bs, 0, none⟩), .pointer (some ⟨bf, 0, none⟩), .pointer (some ⟨bw, 0, none⟩), .pointer (some ⟨bo, 0, none⟩)] w0 (fun u w => u = .tuple #[] ∧ ∃ s1 o1 vo1, WalkOut (toS got qs) n i s0 o0 s1 o1 ∧ HSat M u0 (OSl 4 vs 1 encB (s1) :: Cel bo 23 [vo1] :: OSl 3 vo1 1 encN (o1) :: Atom.ro (Cel bs 38 [vs]) :: Atom.ro (Cel bf 44 [.func (.func 29) #[] #[.pointer (some ⟨bt, 0, none⟩), .pointer (some ⟨bb, 0, none⟩)]]) :: Atom.ro (Cel bw 48 [.func (.func 31) #[] #[.pointer (some ⟨bs, 0, none⟩), .pointer (some ⟨bf, 0, none⟩), .pointer (some ⟨bw, 0, none⟩), .pointer (some ⟨bo, 0, none⟩)]]) :: Atom.ro (Cel bt 23 [v2]) :: Atom.ro (Cel bb 22 [vb]) :: Sl v2 1 encI got :: Sl vb 1 encRow qs :: RowsS 1 encI qs :: l) w)
set_option maxHeartbeats 2000000 in
/-- foyer/pool.components$1 -/
theorem walk_step {M : Nat → Prop} {u0 : World} {l : List Atom} (f : Nat) (v2 vb : Value) (got : List Int) (qs : List (Value × List Int)) (bt bb : Nat) (n : Nat) (hgl : got.length = n) (hql : qs.length = n) (vs : Value) (bs bf bw bo : Nat) (hrw : ∀ j, (rowG (gr qs) j).length ≤ 1000000) (hto : ∀ u, u < n → ∀ t ∈ toS got qs u, 0 ≤ t ∧ t < n) (hn : n ≤ 1000) (ih : WalkSpec f v2 vb got qs bt bb n vs bs bf bw bo) (i : Nat) (s0 : List Bool) (o0 : List Nat) (vo0 : Value) (w0 : World) (hi0 : i < n) (hs0 : atB s0 i = false) (hf0 : Fin (toS got qs) n s0 o0) (hth : thereC s0 ≤ f + 1) (h0 : HSat M u0 (OSl 4 vs 1 encB (s0) :: Cel bo 23 [vo0] :: OSl 3 vo0 1 encN (o0) :: Atom.ro (Cel bs 38 [vs]) :: Atom.ro (Cel bf 44 [.func (.func 29) #[] #[.pointer (some ⟨bt, 0, none⟩), .pointer (some ⟨bb, 0, none⟩)]]) :: Atom.ro (Cel bw 48 [.func (.func 31) #[] #[.pointer (some ⟨bs, 0, none⟩), .pointer (some ⟨bf, 0, none⟩), .pointer (some ⟨bw, 0, none⟩), .pointer (some ⟨bo, 0, none⟩)]]) :: Atom.ro (Cel bt 23 [v2]) :: Atom.ro (Cel bb 22 [vb]) :: Sl v2 1 encI got :: Sl vb 1 encRow qs :: RowsS 1 encI qs :: l) w0) :
    Ret Try.prog 31 #[.int .i64 (i : Int), .pointer (some ⟨bs, 0, none⟩), .pointer (some ⟨bf, 0, none⟩), .pointer (some ⟨bw, 0, none⟩), .pointer (some ⟨bo, 0, none⟩)] w0 (fun u w => u = .tuple #[] ∧ ∃ s1 o1 vo1, WalkOut (toS got qs) n i s0 o0 s1 o1 ∧ HSat M u0 (OSl 4 vs 1 encB (s1) :: Cel bo 23 [vo1] :: OSl 3 vo1 1 encN (o1) :: Atom.ro (Cel bs 38 [vs]) :: Atom.ro (Cel bf 44 [.func (.func 29) #[] #[.pointer (some ⟨bt, 0, none⟩), .pointer (some ⟨bb, 0, none⟩)]]) :: Atom.ro (Cel bw 48 [.func (.func 31) #[] #[.pointer (some ⟨bs, 0, none⟩), .pointer (some ⟨bf, 0, none⟩), .pointer (some ⟨bw, 0, none⟩), .pointer (some ⟨bo, 0, none⟩)]]) :: Atom.ro (Cel bt 23 [v2]) :: Atom.ro (Cel bb 22 [vb]) :: Sl v2 1 encI got :: Sl vb 1 encRow qs :: RowsS 1 encI qs :: l) w) := by
  refine ret_of_wp (nt := 32) Try.func31 rfl rfl rfl (fl := [(0, .int .i64 (i : Int)), (1, .pointer (some ⟨bs, 0, none⟩)), (2, .pointer (some ⟨bf, 0, none⟩)), (3, .pointer (some ⟨bw, 0, none⟩)), (4, .pointer (some ⟨bo, 0, none⟩))]) rfl (fun a S => ?_)
  have H := h0
  have hln := hf0.ln
  have hms := mid_start hf0 hi0
  have hts := there_set (show i < s0.length by omega) hs0
  refine g_seq ?_
  -- region 0 pool.go:118
  refine g_region ?_
  refine wl_of (op_y (wn rfl) rfl rfl S (y_load rfl Fsca38 S H rfl rfl) fun a S => ?_)
  refine wl_of (op_y (wn rfl) rfl rfl S (y_move rfl S rfl) fun a S => ?_)
  refine wl_of (op_y (wn rfl) rfl rfl S (y_iaddrn rfl Try.underlying38 Fsiz4 S H rfl rfl (by first | assumption | omega | (simp only [List.length_append, List.length_take, List.length_drop, List.length_replicate, List.length_set, List.length_map, List.length_cons, List.length_nil]; omega))) fun a S => ?_)
  refine wl_of (op_store1 _ (true) (wn rfl) rfl rfl S H rfl rfl rfl rfl Fsiz4 (by first | assumption | omega | (simp only [List.length_append, List.length_take, List.length_drop, List.length_replicate, List.length_set, List.length_map, List.length_cons, List.length_nil]; omega)) (by exact rfl) fun a w S H => ?_)
  refine gl_nil ?_
  refine n_then ?_
  refine g_seq ?_
  refine g_seq ?_
  -- region 1 pool.go:119
  refine g_region ?_
  refine wl_of (op_y (wn rfl) rfl rfl S (y_load rfl Fsca44 S H rfl rfl) fun a S => ?_)
  refine wl_of (op_y (wn rfl) rfl rfl S (y_move rfl S rfl) fun a S => ?_)
  refine wl_of (op_call (wn rfl) rfl rfl S (co_value rfl Try.call29 S rfl rfl) (to_spec (l := []) v2 vb got qs bt bb n hgl hql i _ hi0 hrw (H.take [Atom.ro (Cel bt 23 [v2]), Atom.ro (Cel bb 22 [vb]), Sl v2 1 encI got, Sl vb 1 encRow qs, RowsS 1 encI qs])) fun u13 w hc a S => ?_)
  have H1 := hc
  have H := H.call1 H1 rfl
  have htl : (toS got qs i).length ≤ 1000001 := by unfold toS; simp only [List.length_cons]; have := hrw i; omega
  refine wl_of (op_y (wn rfl) rfl rfl S (y_lens rfl Try.underlying23 S H rfl) fun a S => ?_)
  refine wl_of (op_y (wn rfl) rfl rfl S (y_move rfl S rfl) fun a S => ?_)
  refine gl_nil ?_
  refine n_then ?_
  have S := ((((((S.nil.cons S 4 rfl).cons S 3 rfl).cons S 1 rfl).cons S 0 rfl).cons S 13 rfl).cons S 14 rfl).cons S 15 rfl
  refine g_block ?_
  have H := H.giveSl
  have SU := (((((S.nil.cons S 4 rfl).cons S 3 rfl).cons S 1 rfl).cons S 0 rfl).cons S 13 rfl).cons S 14 rfl
  refine loopW (X := Nat) SU (fun k => [(15, .int .i64 (k : Int))]) (fun k w => k ≤ (toS got qs i).length ∧ ∃ s o vo, WalkMid (toS got qs) n i s0 o0 s o k ∧ HSat M u0 (OSl 4 vs 1 encB (s) :: Cel bo 23 [vo] :: OSl 3 vo 1 encN (o) :: Atom.ro (Cel bs 38 [vs]) :: Atom.ro (Cel bf 44 [.func (.func 29) #[] #[.pointer (some ⟨bt, 0, none⟩), .pointer (some ⟨bb, 0, none⟩)]]) :: Atom.ro (Cel bw 48 [.func (.func 31) #[] #[.pointer (some ⟨bs, 0, none⟩), .pointer (some ⟨bf, 0, none⟩), .pointer (some ⟨bw, 0, none⟩), .pointer (some ⟨bo, 0, none⟩)]]) :: Atom.ro (Cel bt 23 [v2]) :: Atom.ro (Cel bb 22 [vb]) :: Sl v2 1 encI got :: Sl vb 1 encRow qs :: RowsS 1 encI qs :: Sl u13 1 encI (toS got qs i) :: l) w) (fun k => (toS got qs i).length - k) 0 (S.nil.cons S 15 rfl) (⟨by omega, _, o0, vo0, hms, by exact (H.pick [OSl 4 vs 1 encB (s0.set i true), Cel bo 23 [vo0], OSl 3 vo0 1 encN (o0), Atom.ro (Cel bs 38 [vs]), Atom.ro (Cel bf 44 [.func (.func 29) #[] #[.pointer (some ⟨bt, 0, none⟩), .pointer (some ⟨bb, 0, none⟩)]]), Atom.ro (Cel bw 48 [.func (.func 31) #[] #[.pointer (some ⟨bs, 0, none⟩), .pointer (some ⟨bf, 0, none⟩), .pointer (some ⟨bw, 0, none⟩), .pointer (some ⟨bo, 0, none⟩)]]), Atom.ro (Cel bt 23 [v2]), Atom.ro (Cel bb 22 [vb]), Sl v2 1 encI got, Sl vb 1 encRow qs, RowsS 1 encI qs, Sl u13 1 encI (toS got qs i)])⟩) (fun k a w S hW => ?_)
  simp only [List.cons_append, List.nil_append] at S
  clear H
  obtain ⟨hk, s, o, vo, hw, H⟩ := hW
  refine g_seq ?_
  -- region 2 pool.go:119
  refine g_region ?_
  refine wl_of (op_y (wn rfl) rfl rfl S (y_bin rfl S rfl rfl rfl) fun a S => ?_)
  refine gl_nil ?_
  refine n_then ?_
  refine g_seq ?_
  -- cond 1
  refine c_if S rfl (fun h1 => ?_) (fun h1 => ?_)
  · have h1p := h1; try simp only [Option.isNone_some, Option.isNone_none, Option.isSome_some, Option.isSome_none, false_or, or_false, true_and, and_true, decide_eq_true_eq, decide_eq_false_iff_not, Bool.or_eq_true, Bool.and_eq_true, Bool.or_eq_false_iff, Bool.and_eq_false_iff, Bool.not_eq_true', Bool.not_eq_false', bne_iff_ne, beq_iff_eq, beq_eq_false_iff_ne, bne_eq_false_iff_eq, ne_eq, Decidable.not_not, Int.not_lt, Int.not_le, gt_iff_lt, ge_iff_le, Bool.true_eq_false, Bool.false_eq_true, not_true_eq_false, not_false_eq_true] at h1p
    have hkl : k < (toS got qs i).length := by omega
    obtain ⟨t, ht⟩ : ∃ t : Nat, (toS got qs i)[k] = t := ⟨(toS got qs i)[k].toNat, by have := hto i hi0 _ (List.getElem_mem hkl); omega⟩
    have htn : t < n := by have := hto i hi0 _ (List.getElem_mem hkl); omega
    have hsl := hw.fin.ln
    have hat : atI (toS got qs i) k = t := by rw [atI_eq hkl]; exact ht
    have hatb : atB s t = s[t] := atB_eq (by omega)
    refine g_skip ?_
    refine n_then ?_
    refine g_seq ?_
    refine g_block ?_
    refine g_seq ?_
    -- region 3 pool.go:119
    refine g_region ?_
    refine wl_of (op_y (wn rfl) rfl rfl S (y_iaddrn rfl Try.underlying23 Fsiz3 S H rfl rfl (by first | assumption | omega | (simp only [List.length_append, List.length_take, List.length_drop, List.length_replicate, List.length_set, List.length_map, List.length_cons, List.length_nil]; omega))) fun a S => ?_)
    refine wl_of (op_y (wn rfl) rfl rfl S (y_loads _ rfl Fsca3 S H rfl (by first | assumption | omega | (simp only [List.length_append, List.length_take, List.length_drop, List.length_replicate, List.length_set, List.length_map, List.length_cons, List.length_nil]; omega)) rfl) fun a S => ?_)
    rw [ht] at S
    refine wl_of (op_y (wn rfl) rfl rfl S (y_assign rfl S rfl) fun a S => ?_)
    refine gl_nil ?_
    refine n_then ?_
    refine g_seq ?_
    -- region 4 pool.go:120
    refine g_region ?_
    refine wl_of (op_y (wn rfl) rfl rfl S (y_load rfl Fsca38 S H rfl rfl) fun a S => ?_)
    refine wl_of (op_y (wn rfl) rfl rfl S (y_move rfl S rfl) fun a S => ?_)
    refine wl_of (op_y (wn rfl) rfl rfl S (y_iaddrn rfl Try.underlying38 Fsiz4 S H rfl rfl (by first | assumption | omega | (simp only [List.length_append, List.length_take, List.length_drop, List.length_replicate, List.length_set, List.length_map, List.length_cons, List.length_nil]; omega))) fun a S => ?_)
    refine wl_of (op_y (wn rfl) rfl rfl S (y_loads _ rfl Fsca4 S H rfl (by first | assumption | omega | (simp only [List.length_append, List.length_take, List.length_drop, List.length_replicate, List.length_set, List.length_map, List.length_cons, List.length_nil]; omega)) rfl) fun a S => ?_)
    refine wl_of (op_y (wn rfl) rfl rfl S (y_not rfl S rfl) fun a S => ?_)
    refine gl_nil ?_
    refine n_then ?_
    -- cond 2 (both ways go on)
    refine c_if S rfl (fun h2 => ?_) (fun h2 => ?_)
    · have h2p := h2; try simp only [Option.isNone_some, Option.isNone_none, Option.isSome_some, Option.isSome_none, false_or, or_false, true_and, and_true, decide_eq_true_eq, decide_eq_false_iff_not, Bool.or_eq_true, Bool.and_eq_true, Bool.or_eq_false_iff, Bool.and_eq_false_iff, Bool.not_eq_true', Bool.not_eq_false', bne_iff_ne, beq_iff_eq, beq_eq_false_iff_ne, bne_eq_false_iff_eq, ne_eq, Decidable.not_not, Int.not_lt, Int.not_le, gt_iff_lt, ge_iff_le, Bool.true_eq_false, Bool.false_eq_true, not_true_eq_false, not_false_eq_true] at h2p
      have hst : atB s t = false := by rw [hatb]; simpa using h2
      -- region 5 pool.go:121
      refine g_region ?_
      refine wl_of (op_y (wn rfl) rfl rfl S (y_load rfl Fsca48 S H rfl rfl) fun a S => ?_)
      refine wl_of (op_y (wn rfl) rfl rfl S (y_move rfl S rfl) fun a S => ?_)
      refine wl_of (op_call (wn rfl) rfl rfl S (co_value rfl Try.call31 S rfl rfl) (ih t s o vo _ htn hst hw.fin (by have := there_mono (s := s0.set i true) (s' := s) (by rw [hw.fin.ln, List.length_set, hln]) (hw.mono (by omega)); omega) H) fun v w hc a S => ?_)
      obtain ⟨rfl, s1, o1, vo1, hwo, H⟩ := hc
      
      refine gl_nil ?_
      refine n_block ?_
      refine n_then ?_
      -- region 6 pool.go:119
      refine g_region ?_
      refine wl_of (op_y (wn rfl) rfl rfl S (y_add rfl S rfl rfl (by omega)) fun a S => ?_)
      refine wl_of (op_y (wn rfl) rfl rfl S (y_move rfl S rfl) fun a S => ?_)
      refine gl_nil ?_
      refine n_then ?_
      first
      | exact ⟨k + 1, S.nil.cons S 15 rfl, (((((S.nil.cons S 4 rfl).cons S 3 rfl).cons S 1 rfl).cons S 0 rfl).cons S 13 rfl).cons S 14 rfl, ⟨by omega, s, o, vo, mid_skip hw (by rw [hat, Int.toNat_natCast]; exact hst), H⟩, by omega⟩
      | exact ⟨k + 1, S.nil.cons S 15 rfl, (((((S.nil.cons S 4 rfl).cons S 3 rfl).cons S 1 rfl).cons S 0 rfl).cons S 13 rfl).cons S 14 rfl, ⟨by omega, s1, o1, vo1, mid_call hw hkl hat hwo, H⟩, by omega⟩
    · have h2p := h2; try simp only [Option.isNone_some, Option.isNone_none, Option.isSome_some, Option.isSome_none, false_or, or_false, true_and, and_true, decide_eq_true_eq, decide_eq_false_iff_not, Bool.or_eq_true, Bool.and_eq_true, Bool.or_eq_false_iff, Bool.and_eq_false_iff, Bool.not_eq_true', Bool.not_eq_false', bne_iff_ne, beq_iff_eq, beq_eq_false_iff_ne, bne_eq_false_iff_eq, ne_eq, Decidable.not_not, Int.not_lt, Int.not_le, gt_iff_lt, ge_iff_le, Bool.true_eq_false, Bool.false_eq_true, not_true_eq_false, not_false_eq_true] at h2p
      have hst : atB s t = true := by rw [hatb]; simpa using h2
      refine g_skip ?_
      refine n_block ?_
      refine n_then ?_
      -- region 6 pool.go:119
      refine g_region ?_
      refine wl_of (op_y (wn rfl) rfl rfl S (y_add rfl S rfl rfl (by omega)) fun a S => ?_)
      refine wl_of (op_y (wn rfl) rfl rfl S (y_move rfl S rfl) fun a S => ?_)
      refine gl_nil ?_
      refine n_then ?_
      first
      | exact ⟨k + 1, S.nil.cons S 15 rfl, (((((S.nil.cons S 4 rfl).cons S 3 rfl).cons S 1 rfl).cons S 0 rfl).cons S 13 rfl).cons S 14 rfl, ⟨by omega, s, o, vo, mid_skip hw (by rw [hat, Int.toNat_natCast]; exact hst), H⟩, by omega⟩
      | exact ⟨k + 1, S.nil.cons S 15 rfl, (((((S.nil.cons S 4 rfl).cons S 3 rfl).cons S 1 rfl).cons S 0 rfl).cons S 13 rfl).cons S 14 rfl, ⟨by omega, s1, o1, vo1, mid_call hw hkl hat hwo, H⟩, by omega⟩
  · have h1p := h1; try simp only [Option.isNone_some, Option.isNone_none, Option.isSome_some, Option.isSome_none, false_or, or_false, true_and, and_true, decide_eq_true_eq, decide_eq_false_iff_not, Bool.or_eq_true, Bool.and_eq_true, Bool.or_eq_false_iff, Bool.and_eq_false_iff, Bool.not_eq_true', Bool.not_eq_false', bne_iff_ne, beq_iff_eq, beq_eq_false_iff_ne, bne_eq_false_iff_eq, ne_eq, Decidable.not_not, Int.not_lt, Int.not_le, gt_iff_lt, ge_iff_le, Bool.true_eq_false, Bool.false_eq_true, not_true_eq_false, not_false_eq_true] at h1p
    have hend := mid_end hf0 hi0 hs0 hw (by omega)
    have hol : o.length ≤ n := by
      have := nodup_le (m := List.range n) hw.fin.nd (fun x hx => List.mem_range.2 (hw.fin.sub x hx).1)
      simpa using this
    refine g_exit ?_
    refine x_then (x_then (x_eq ?_))
    refine n_then ?_
    have S := (S.nil.cons S 4 rfl).cons S 0 rfl
    -- region 7 pool.go:124
    refine g_region ?_
    refine wl_of (op_y (wn rfl) rfl rfl S (y_load rfl Fsca23 S H rfl rfl) fun a S => ?_)
    refine wl_of (op_y (wn rfl) rfl rfl S (y_move rfl S rfl) fun a S => ?_)
    refine wl_of (op_buildSlice (wn rfl) rfl rfl rfl Try.underlying23 Finf3 S H (idx := [0]) rfl rfl rfl (z := [.int .i64 0]) (by kernel_rfl) (cs := [_]) rfl fun b30 a w S H => ?_)
    refine wl_of (op_append ([i]) (wn rfl) rfl rfl rfl Try.underlying23 Finf3 rfl rfl S H rfl rfl rfl rfl (by simp) (by simp [encN]) (by simp [encN, Value.oneCell']) (by simp only [List.length_cons, List.length_nil]; omega) (by simp only [List.length_cons, List.length_nil]; omega) fun u31 a w hn31 S H => ?_)
    refine wl_of (op_store (wn rfl) rfl rfl S H rfl rfl (H.sl1 _) Fsiz23 rfl fun a w S H => ?_)
    dsimp only [List.set, Nat.zero_add, Nat.reduceAdd] at H
    refine gl_nil ?_
    refine ret0n rfl S ?_
    refine ⟨rfl, s, o ++ [i], u31, hend, ?_⟩
    exact ((H.pick [OSl 4 vs 1 encB (s), Cel bo 23 [u31], OSl 3 u31 1 encN (o ++ [i]), Atom.ro (Cel bs 38 [vs]), Atom.ro (Cel bf 44 [.func (.func 29) #[] #[.pointer (some ⟨bt, 0, none⟩), .pointer (some ⟨bb, 0, none⟩)]]), Atom.ro (Cel bw 48 [.func (.func 31) #[] #[.pointer (some ⟨bs, 0, none⟩), .pointer (some ⟨bf, 0, none⟩), .pointer (some ⟨bw, 0, none⟩), .pointer (some ⟨bo, 0, none⟩)]]), Atom.ro (Cel bt 23 [v2]), Atom.ro (Cel bb 22 [vb]), Sl v2 1 encI got, Sl vb 1 encRow qs, RowsS 1 encI qs]).mid).mid

theorem walk_spec (v2 vb : Value) (got : List Int) (qs : List (Value × List Int)) (bt bb : Nat) (n : Nat) (hgl : got.length = n) (hql : qs.length = n) (vs : Value) (bs bf bw bo : Nat) (hrw : ∀ j, (rowG (gr qs) j).length ≤ 1000000) (hto : ∀ u, u < n → ∀ t ∈ toS got qs u, 0 ≤ t ∧ t < n) (hn : n ≤ 1000) : ∀ f, WalkSpec f v2 vb got qs bt bb n vs bs bf bw bo
  | 0 => fun i s0 o0 vo0 w0 hi hs hf hth h => by have := there_set (show i < s0.length by rw [hf.ln]; exact hi) hs; omega
  | f + 1 => fun i s0 o0 vo0 w0 hi hs hf hth h => walk_step f v2 vb got qs bt bb n hgl hql vs bs bf bw bo hrw hto hn (walk_spec v2 vb got qs bt bb n hgl hql vs bs bf bw bo hrw hto hn f) i s0 o0 vo0 w0 hi hs hf hth h

end Go.Proofs.Ytoghkehlmibniaa
