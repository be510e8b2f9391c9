/- The walks. No condition. -/
import Derived.Test.YtoghkehlmibniaaChecked
import Derived.Test.YtoghkehlmibniaaGwQue
import Derived.Test.YtoghkehlmibniaaFacts
import Derived.Test.YtoghkehlmibniaaPlain
import Derived.Test.YtoghkehlmibniaaW1
namespace Go.Proofs.Ytoghkehlmibniaa
open Go Go.Gw
set_option linter.unusedVariables false
set_option linter.unusedSimpArgs false
set_option maxHeartbeats 1000000 in
/-- foyer/pool.Swap$1 -/
theorem best_spec {M : Nat → Prop} {u0 : World} {l : List Atom} (v va vg : Value) (ps : List (Value × List Int)) (bw ba bg : Nat) (gone : List Bool) (hrt : Right (gr ps)) (hgl : gone.length = ps.length) (i : Nat) (at0 : List Int) (w0 : World) (hi0 : i < ps.length) (hat0 : AtOK (gr ps) gone at0) (h0 : HSat M u0 (OSl 3 va 1 encI (at0) :: OSl 4 vg 1 encB (gone) :: Atom.ro (Cel bw 22 [v]) :: Atom.ro (Cel ba 23 [va]) :: Atom.ro (Cel bg 38 [vg]) :: RowsS 1 encI ps :: Sl v 1 encRow ps :: l) w0) :
    Ret Try.prog 24 #[.int .i64 (i : Int), .pointer (some ⟨bw, 0, none⟩), .pointer (some ⟨ba, 0, none⟩), .pointer (some ⟨bg, 0, none⟩)] w0 (fun u w => u = .int .i64 (nxtL (gr ps) gone i) ∧ ∃ at1, AtOK (gr ps) gone at1 ∧ HSat M u0 (OSl 3 va 1 encI (at1) :: OSl 4 vg 1 encB (gone) :: Atom.ro (Cel bw 22 [v]) :: Atom.ro (Cel ba 23 [va]) :: Atom.ro (Cel bg 38 [vg]) :: RowsS 1 encI ps :: Sl v 1 encRow ps :: l) w) := by
  refine ret_of_wp (nt := 51) Try.func24 rfl rfl rfl (fl := [(0, .int .i64 (i : Int)), (1, .pointer (some ⟨bw, 0, none⟩)), (2, .pointer (some ⟨ba, 0, none⟩)), (3, .pointer (some ⟨bg, 0, none⟩))]) rfl (fun a S => ?_)
  have H := h0
  have hgrl := gr_len ps
  have hrw := gr_row ps hi0
  have hlv := (H.sl v).len
  have hrl := (H.rwsS (sz := 1) (enc := encI) ps _ (List.getElem_mem hi0)).len
  have hrg : ∀ q, q < ps[i].2.length → 0 ≤ ps[i].2.getD q (-1) ∧ ps[i].2.getD q (-1) < gone.length := fun q hq => by have := hrt.rng i _ (by rw [hrw]; exact at_mem hq); rw [hgl, ← hgrl]; exact this
  refine g_seq ?_
  -- region 0 pool.go:47
  refine g_region ?_
  refine wl_of (op_y (wn rfl) rfl rfl S (y_assign rfl S rfl) fun a S => ?_)
  refine gl_nil ?_
  refine n_then ?_
  refine g_seq ?_
  -- region 1 pool.go:48
  refine g_region ?_
  refine wl_of (op_y (wn rfl) rfl rfl S (y_load rfl Fsca22 S H rfl rfl) fun a S => ?_)
  refine wl_of (op_y (wn rfl) rfl rfl S (y_move rfl S rfl) fun a S => ?_)
  refine wl_of (op_y (wn rfl) rfl rfl S (y_iaddrn rfl Try.underlying22 Fsiz23 S H rfl rfl (by first | assumption | omega | (simp only [List.length_append, List.length_take, List.length_drop, List.length_replicate, List.length_set, List.length_map, List.length_cons, List.length_nil]; omega))) fun a S => ?_)
  refine wl_of (op_y (wn rfl) rfl rfl S (y_loads _ rfl Fsca23 S H rfl (by first | assumption | omega | (simp only [List.length_append, List.length_take, List.length_drop, List.length_replicate, List.length_set, List.length_map, List.length_cons, List.length_nil]; omega)) rfl) fun a S => ?_)
  refine wl_of (op_y (wn rfl) rfl rfl S (y_assign rfl S rfl) fun a S => ?_)
  refine gl_nil ?_
  refine n_then ?_
  have S := ((((S.nil.cons S 3 rfl).cons S 2 rfl).cons S 0 rfl).cons S 5 rfl).cons S 6 rfl
  refine g_seq ?_
  refine g_block ?_
  have SU := ((((S.nil.cons S 3 rfl).cons S 2 rfl).cons S 0 rfl).cons S 5 rfl).cons S 6 rfl
  refine loopW (X := Nat) SU (fun q => []) (fun q w => ∃ at1, AtOK (gr ps) gone at1 ∧ atI at1 i = q ∧ HSat M u0 (OSl 3 va 1 encI (at1) :: OSl 4 vg 1 encB (gone) :: Atom.ro (Cel bw 22 [v]) :: Atom.ro (Cel ba 23 [va]) :: Atom.ro (Cel bg 38 [vg]) :: RowsS 1 encI ps :: Sl v 1 encRow ps :: l) w) (fun q => ps[i].2.length - q) ((atI at0 i).toNat) (S.nil) (⟨at0, hat0, by rw [Int.toNat_of_nonneg]; exact (hat0.ok i (by omega)).1, H⟩) (fun q a w S hW => ?_)
  simp only [List.cons_append, List.nil_append] at S
  obtain ⟨at1, hat, hq, H⟩ := hW
  have hig : i < (gr ps).length := by omega
  have hatl := hat.len
  have hil : i < at1.length := by omega
  have hqe : at1[i] = (q : Int) := by rw [← atI_eq hil]; exact hq
  have hok := hat.ok i hig
  rw [hrw] at hok
  refine g_seq ?_
  refine g_seq ?_
  -- region 2 DRAWS pool.go:49
  refine region_st (loud := []) (tails := []) (free := []) [0, 1, 2, 3, 4, 5, 6, 7, 8, 9, 10, 11, 12, 13, 14, 15, 16, 17, 18] [] Fmo (by kernel_rfl) (by kernel_rfl) rfl H ?_
  refine m_w rfl rfl (wn rfl) rfl rfl S (fun w H => y_load rfl Fsca23 S H rfl rfl) fun a S => ?_
  refine m_w rfl rfl (wn rfl) rfl rfl S (fun w H => y_move rfl S rfl) fun a S => ?_
  refine m_w rfl rfl (wn rfl) rfl rfl S (fun w H => y_iaddrn rfl Try.underlying23 Fsiz3 S H rfl rfl (by first | assumption | omega | (simp only [List.length_append, List.length_take, List.length_drop, List.length_replicate, List.length_set, List.length_map, List.length_cons, List.length_nil]; omega))) fun a S => ?_
  refine m_loads _ rfl rfl (wn rfl) rfl rfl S rfl Fsca3 rfl (by first | assumption | omega | (simp only [List.length_append, List.length_take, List.length_drop, List.length_replicate, List.length_set, List.length_map, List.length_cons, List.length_nil]; omega)) rfl fun a S => ?_
  rw [hqe] at S
  refine m_w rfl rfl (wn rfl) rfl rfl S (fun w H => y_move rfl S rfl) fun a S => ?_
  refine m_w rfl rfl (wn rfl) rfl rfl S (fun w H => y_lens rfl Try.underlying23 S H rfl) fun a S => ?_
  refine m_w rfl rfl (wn rfl) rfl rfl S (fun w H => y_bin rfl S rfl rfl rfl) fun a S => ?_
  refine m_w rfl rfl (wn rfl) rfl rfl S (fun w H => y_move rfl S rfl) fun a S => ?_
  refine' m_andq [8, 9, 10, 11, 12, 13, 14, 15, 16, 17] 18 S rfl rfl rfl rfl rfl rfl rfl rfl rfl (fun _ S => (wn rfl)) (fun h1 kk => ?yh1) (fun a S => ?_)
  case yh1 =>
    have h1p := h1; try simp only [Option.isNone_some, Option.isNone_none, Option.isSome_some, Option.isSome_none, false_or, or_false, true_and, and_true, decide_eq_true_eq, decide_eq_false_iff_not, Bool.or_eq_true, Bool.and_eq_true, Bool.or_eq_false_iff, Bool.and_eq_false_iff, Bool.not_eq_true', Bool.not_eq_false', bne_iff_ne, beq_iff_eq, beq_eq_false_iff_ne, bne_eq_false_iff_eq, ne_eq, Decidable.not_not, Int.not_lt, Int.not_le, gt_iff_lt, ge_iff_le, Bool.true_eq_false, Bool.false_eq_true, not_true_eq_false, not_false_eq_true] at h1p
    refine m_w rfl rfl (wg' 18 rfl rfl S rfl h1 rfl) rfl rfl S (fun w H => y_load rfl Fsca38 S H rfl rfl) fun a S => ?_
    refine m_w rfl rfl (wg' 18 rfl rfl S rfl h1 rfl) rfl rfl S (fun w H => y_move rfl S rfl) fun a S => ?_
    refine m_w rfl rfl (wg' 18 rfl rfl S rfl h1 rfl) rfl rfl S (fun w H => y_load rfl Fsca23 S H rfl rfl) fun a S => ?_
    refine m_w rfl rfl (wg' 18 rfl rfl S rfl h1 rfl) rfl rfl S (fun w H => y_move rfl S rfl) fun a S => ?_
    refine m_w rfl rfl (wg' 18 rfl rfl S rfl h1 rfl) rfl rfl S (fun w H => y_iaddrn rfl Try.underlying23 Fsiz3 S H rfl rfl (by first | assumption | omega | (simp only [List.length_append, List.length_take, List.length_drop, List.length_replicate, List.length_set, List.length_map, List.length_cons, List.length_nil]; omega))) fun a S => ?_
    refine m_loads _ rfl rfl (wg' 18 rfl rfl S rfl h1 rfl) rfl rfl S rfl Fsca3 rfl (by first | assumption | omega | (simp only [List.length_append, List.length_take, List.length_drop, List.length_replicate, List.length_set, List.length_map, List.length_cons, List.length_nil]; omega)) rfl fun a S => ?_
    rw [hqe] at S
    refine m_w rfl rfl (wg' 18 rfl rfl S rfl h1 rfl) rfl rfl S (fun w H => y_iaddrn rfl Try.underlying23 Fsiz3 S H rfl rfl (by first | assumption | omega | (simp only [List.length_append, List.length_take, List.length_drop, List.length_replicate, List.length_set, List.length_map, List.length_cons, List.length_nil]; omega))) fun a S => ?_
    refine m_w rfl rfl (wg' 18 rfl rfl S rfl h1 rfl) rfl rfl S (fun w H => y_loadsD _ (-1) rfl Fsca3 S H rfl (by omega) rfl) fun a S => ?_
    have hrq := hrg q (by omega)
    refine m_w rfl rfl (wg' 18 rfl rfl S rfl h1 rfl) rfl rfl S (fun w H => y_iaddrs rfl Try.underlying38 Fsiz4 S H rfl rfl (by first | assumption | omega | (simp only [List.length_append, List.length_take, List.length_drop, List.length_replicate, List.length_set, List.length_map, List.length_cons, List.length_nil]; omega))) fun a S => ?_
    refine m_w rfl rfl (wg' 18 rfl rfl S rfl h1 rfl) rfl rfl S (fun w H => y_loadsD _ false rfl Fsca4 S H rfl (by omega) rfl) fun a S => ?_
    refine m_w rfl rfl (wn rfl) rfl rfl S (fun w H => y_and' rfl h1 S rfl rfl) fun a S => ?_
    exact kk _ (S.join 11 29 rfl rfl)
  refine m_nil (fun w H => ?_)
  refine n_then ?_
  -- cond 1
  refine c_if S rfl (fun h2 => ?_) (fun h2 => ?_)
  · have h2p := h2; try simp only [Option.isNone_some, Option.isNone_none, Option.isSome_some, Option.isSome_none, false_or, or_false, true_and, and_true, decide_eq_true_eq, decide_eq_false_iff_not, Bool.or_eq_true, Bool.and_eq_true, Bool.or_eq_false_iff, Bool.and_eq_false_iff, Bool.not_eq_true', Bool.not_eq_false', bne_iff_ne, beq_iff_eq, beq_eq_false_iff_ne, bne_eq_false_iff_eq, ne_eq, Decidable.not_not, Int.not_lt, Int.not_le, gt_iff_lt, ge_iff_le, Bool.true_eq_false, Bool.false_eq_true, not_true_eq_false, not_false_eq_true] at h2p
    have hql : q < ps[i].2.length := by have := h2p.1; omega
    have hgq : atB gone (atI (rowG (gr ps) i) q).toNat = true := by rw [hrw]; exact h2p.2
    have hat1 := hat.step hig (by rw [atI_eq (by omega)]; exact hqe) (by rw [hrw]; exact hql) hgq
    refine g_skip ?_
    refine n_then ?_
    refine g_block ?_
    -- region 3 pool.go:50
    refine g_region ?_
    refine wl_of (op_y (wn rfl) rfl rfl S (y_load rfl Fsca23 S H rfl rfl) fun a S => ?_)
    refine wl_of (op_y (wn rfl) rfl rfl S (y_move rfl S rfl) fun a S => ?_)
    refine wl_of (op_y (wn rfl) rfl rfl S (y_iaddrn rfl Try.underlying23 Fsiz3 S H rfl rfl (by first | assumption | omega | (simp only [List.length_append, List.length_take, List.length_drop, List.length_replicate, List.length_set, List.length_map, List.length_cons, List.length_nil]; omega))) fun a S => ?_)
    refine wl_of (op_y (wn rfl) rfl rfl S (y_loads _ rfl Fsca3 S H rfl (by first | assumption | omega | (simp only [List.length_append, List.length_take, List.length_drop, List.length_replicate, List.length_set, List.length_map, List.length_cons, List.length_nil]; omega)) rfl) fun a S => ?_)
    rw [hqe] at S
    refine wl_of (op_y (wn rfl) rfl rfl S (y_add rfl S rfl rfl (by omega)) fun a S => ?_)
    refine wl_of (op_y (wn rfl) rfl rfl S (y_iaddrn rfl Try.underlying23 Fsiz3 S H rfl rfl (by first | assumption | omega | (simp only [List.length_append, List.length_take, List.length_drop, List.length_replicate, List.length_set, List.length_map, List.length_cons, List.length_nil]; omega))) fun a S => ?_)
    refine wl_of (op_store1 _ (_) (wn rfl) rfl rfl S H rfl rfl rfl rfl Fsiz3 (by first | assumption | omega | (simp only [List.length_append, List.length_take, List.length_drop, List.length_replicate, List.length_set, List.length_map, List.length_cons, List.length_nil]; omega)) (by exact rfl) fun a w S H => ?_)
    refine gl_nil ?_
    refine n_block ?_
    refine n_then ?_
    exact ⟨q + 1, S.nil, ((((S.nil.cons S 3 rfl).cons S 2 rfl).cons S 0 rfl).cons S 5 rfl).cons S 6 rfl, ⟨_, hat1, by rw [atI_set _ hil, if_pos rfl]; rfl, H⟩, by omega⟩
  · have h2p := h2; try simp only [Option.isNone_some, Option.isNone_none, Option.isSome_some, Option.isSome_none, false_or, or_false, true_and, and_true, decide_eq_true_eq, decide_eq_false_iff_not, Bool.or_eq_true, Bool.and_eq_true, Bool.or_eq_false_iff, Bool.and_eq_false_iff, Bool.not_eq_true', Bool.not_eq_false', bne_iff_ne, beq_iff_eq, beq_eq_false_iff_ne, bne_eq_false_iff_eq, ne_eq, Decidable.not_not, Int.not_lt, Int.not_le, gt_iff_lt, ge_iff_le, Bool.true_eq_false, Bool.false_eq_true, not_true_eq_false, not_false_eq_true] at h2p
    refine g_exit ?_
    refine x_then (x_then (x_eq ?_))
    refine n_then ?_
    have S := (((S.nil.cons S 2 rfl).cons S 0 rfl).cons S 5 rfl).cons S 6 rfl
    refine g_seq ?_
    refine g_seq ?_
    -- region 4 pool.go:52
    refine g_region ?_
    refine wl_of (op_y (wn rfl) rfl rfl S (y_load rfl Fsca23 S H rfl rfl) fun a S => ?_)
    refine wl_of (op_y (wn rfl) rfl rfl S (y_move rfl S rfl) fun a S => ?_)
    refine wl_of (op_y (wn rfl) rfl rfl S (y_iaddrn rfl Try.underlying23 Fsiz3 S H rfl rfl (by first | assumption | omega | (simp only [List.length_append, List.length_take, List.length_drop, List.length_replicate, List.length_set, List.length_map, List.length_cons, List.length_nil]; omega))) fun a S => ?_)
    refine wl_of (op_y (wn rfl) rfl rfl S (y_loads _ rfl Fsca3 S H rfl (by first | assumption | omega | (simp only [List.length_append, List.length_take, List.length_drop, List.length_replicate, List.length_set, List.length_map, List.length_cons, List.length_nil]; omega)) rfl) fun a S => ?_)
    rw [hqe] at S
    refine wl_of (op_y (wn rfl) rfl rfl S (y_move rfl S rfl) fun a S => ?_)
    refine wl_of (op_y (wn rfl) rfl rfl S (y_lens rfl Try.underlying23 S H rfl) fun a S => ?_)
    refine wl_of (op_y (wn rfl) rfl rfl S (y_bin rfl S rfl rfl rfl) fun a S => ?_)
    refine gl_nil ?_
    refine n_then ?_
    have S := ((((S.nil.cons S 2 rfl).cons S 0 rfl).cons S 5 rfl).cons S 6 rfl).cons S 42 rfl
    -- cond 2
    refine c_if S rfl (fun h3 => ?_) (fun h3 => ?_)
    · have h3p := h3; try simp only [Option.isNone_some, Option.isNone_none, Option.isSome_some, Option.isSome_none, false_or, or_false, true_and, and_true, decide_eq_true_eq, decide_eq_false_iff_not, Bool.or_eq_true, Bool.and_eq_true, Bool.or_eq_false_iff, Bool.and_eq_false_iff, Bool.not_eq_true', Bool.not_eq_false', bne_iff_ne, beq_iff_eq, beq_eq_false_iff_ne, bne_eq_false_iff_eq, ne_eq, Decidable.not_not, Int.not_lt, Int.not_le, gt_iff_lt, ge_iff_le, Bool.true_eq_false, Bool.false_eq_true, not_true_eq_false, not_false_eq_true] at h3p
      refine g_seq ?_
      -- region 5 pool.go:53
      refine g_region ?_
      refine wl_of (op_y (wn rfl) rfl rfl S (y_move rfl S rfl) fun a S => ?_)
      refine wl_of (op_y (wn rfl) rfl rfl S (y_assign rfl S rfl) fun a S => ?_)
      refine gl_nil ?_
      refine n_then ?_
      refine g_ret ?_
      refine r_then (ret1 rfl S rfl ?_)
      have hqn : q = ps[i].2.length := by have := h3p; omega
      exact ⟨by rw [nxtL, Int.toNat_natCast, hrw, bestL_end (fun j hj => hok.2.2 j (by omega))], at1, hat, H⟩
    · have h3p := h3; try simp only [Option.isNone_some, Option.isNone_none, Option.isSome_some, Option.isSome_none, false_or, or_false, true_and, and_true, decide_eq_true_eq, decide_eq_false_iff_not, Bool.or_eq_true, Bool.and_eq_true, Bool.or_eq_false_iff, Bool.and_eq_false_iff, Bool.not_eq_true', Bool.not_eq_false', bne_iff_ne, beq_iff_eq, beq_eq_false_iff_ne, bne_eq_false_iff_eq, ne_eq, Decidable.not_not, Int.not_lt, Int.not_le, gt_iff_lt, ge_iff_le, Bool.true_eq_false, Bool.false_eq_true, not_true_eq_false, not_false_eq_true] at h3p
      refine g_skip ?_
      refine n_then ?_
      refine g_seq ?_
      -- region 6 pool.go:55
      refine g_region ?_
      refine wl_of (op_y (wn rfl) rfl rfl S (y_move rfl S rfl) fun a S => ?_)
      refine wl_of (op_y (wn rfl) rfl rfl S (y_load rfl Fsca23 S H rfl rfl) fun a S => ?_)
      refine wl_of (op_y (wn rfl) rfl rfl S (y_move rfl S rfl) fun a S => ?_)
      refine wl_of (op_y (wn rfl) rfl rfl S (y_iaddrn rfl Try.underlying23 Fsiz3 S H rfl rfl (by first | assumption | omega | (simp only [List.length_append, List.length_take, List.length_drop, List.length_replicate, List.length_set, List.length_map, List.length_cons, List.length_nil]; omega))) fun a S => ?_)
      refine wl_of (op_y (wn rfl) rfl rfl S (y_loads _ rfl Fsca3 S H rfl (by first | assumption | omega | (simp only [List.length_append, List.length_take, List.length_drop, List.length_replicate, List.length_set, List.length_map, List.length_cons, List.length_nil]; omega)) rfl) fun a S => ?_)
      rw [hqe] at S
      refine wl_of (op_y (wn rfl) rfl rfl S (y_iaddrn rfl Try.underlying23 Fsiz3 S H rfl rfl (by first | assumption | omega | (simp only [List.length_append, List.length_take, List.length_drop, List.length_replicate, List.length_set, List.length_map, List.length_cons, List.length_nil]; omega))) fun a S => ?_)
      refine wl_of (op_y (wn rfl) rfl rfl S (y_loads _ rfl Fsca3 S H rfl (by first | assumption | omega | (simp only [List.length_append, List.length_take, List.length_drop, List.length_replicate, List.length_set, List.length_map, List.length_cons, List.length_nil]; omega)) rfl) fun a S => ?_)
      refine wl_of (op_y (wn rfl) rfl rfl S (y_assign rfl S rfl) fun a S => ?_)
      refine gl_nil ?_
      refine n_then ?_
      have S := S.nil.cons S 5 rfl
      refine g_ret ?_
      refine ret1 rfl S rfl ?_
      have hqn : q < ps[i].2.length := by have := h3p; omega
      have hng : atB gone (atI ps[i].2 q).toNat = false := by
        rcases h2p with h | h
        · omega
        · exact h
      exact ⟨by rw [nxtL, Int.toNat_natCast, hrw, bestL_at (fun j hj => hok.2.2 j (by omega)) hqn hng, atI_eq hqn], at1, hat, H⟩
set_option maxHeartbeats 1000000 in
/-- foyer/pool.circle -/
theorem circle_spec {M : Nat → Prop} {u0 : World} {l : List Atom} (v va vg : Value) (ps : List (Value × List Int)) (bw ba bg : Nat) (gone : List Bool) (hrt : Right (gr ps)) (hgl : gone.length = ps.length) (hl1 : ps.length ≤ 1000) (i0 : Nat) (at0 : List Int) (w0 : World) (hi0 : i0 < ps.length) (hg0 : atB gone i0 = false) (hat0 : AtOK (gr ps) gone at0) (h0 : HSat M u0 (OSl 3 va 1 encI (at0) :: OSl 4 vg 1 encB (gone) :: Atom.ro (Cel bw 22 [v]) :: Atom.ro (Cel ba 23 [va]) :: Atom.ro (Cel bg 38 [vg]) :: RowsS 1 encI ps :: Sl v 1 encRow ps :: l) w0) :
    Ret Try.prog 25 #[.int .i64 (i0 : Int), .func (.func 24) #[] #[.pointer (some ⟨bw, 0, none⟩), .pointer (some ⟨ba, 0, none⟩), .pointer (some ⟨bg, 0, none⟩)]] w0 (fun u w => ∃ c, Circ (gr ps) gone c ∧ ∃ at1, AtOK (gr ps) gone at1 ∧ HSat M u0 (Sl u 1 encI c :: (OSl 3 va 1 encI (at1) :: OSl 4 vg 1 encB (gone) :: Atom.ro (Cel bw 22 [v]) :: Atom.ro (Cel ba 23 [va]) :: Atom.ro (Cel bg 38 [vg]) :: RowsS 1 encI ps :: Sl v 1 encRow ps :: l)) w) := by
  refine ret_of_wp (nt := 33) Try.func25 rfl rfl rfl (fl := [(0, .int .i64 (i0 : Int)), (1, .func (.func 24) #[] #[.pointer (some ⟨bw, 0, none⟩), .pointer (some ⟨ba, 0, none⟩), .pointer (some ⟨bg, 0, none⟩)])]) rfl (fun a S => ?_)
  have H := h0
  have hgrl := gr_len ps
  refine g_seq ?_
  -- region 0 pool.go:25
  refine g_region ?_
  refine wl_of (op_y (wn rfl) rfl rfl S (y_assign rfl S rfl) fun a S => ?_)
  refine gl_nil ?_
  refine n_then ?_
  refine g_seq ?_
  -- region 1 pool.go:26
  refine g_region ?_
  refine wl_of (op_makeMap (fun n : Int => .int .i64 n) (fun n : Int => .int .i64 n) (wn rfl) rfl rfl rfl S H fun b10 a w S H => ?_)
  refine wl_of (op_y (wn rfl) rfl rfl S (y_assign rfl S rfl) fun a S => ?_)
  refine gl_nil ?_
  refine n_then ?_
  refine g_seq ?_
  -- region 2 pool.go:27
  refine g_region ?_
  refine wl_of (op_y (wn rfl) rfl rfl S (y_assign rfl S rfl) fun a S => ?_)
  refine gl_nil ?_
  refine n_then ?_
  refine g_seq ?_
  -- region 3 pool.go:28
  refine g_region ?_
  refine wl_of (op_y (wn rfl) rfl rfl S (y_move rfl S rfl) fun a S => ?_)
  refine wl_of (op_y (wn rfl) rfl rfl S (y_assign rfl S rfl) fun a S => ?_)
  refine gl_nil ?_
  refine n_then ?_
  refine g_block ?_
  -- slots written in the loop and forgotten at its head: [4]
  have H := H.nilO 3 1 encI
  have SU := (S.nil.cons S 1 rfl).cons S 5 rfl
  refine loopW (X := List Int × Int × Value) SU (fun x => [(6, x.2.2), (7, .int .i64 x.2.1)]) (fun x w => Way (gr ps) gone x.1 x.2.1 ∧ ∃ at1 c, AtOK (gr ps) gone at1 ∧ HSat M u0 (OSl 3 va 1 encI (at1) :: OSl 4 vg 1 encB (gone) :: Atom.ro (Cel bw 22 [v]) :: Atom.ro (Cel ba 23 [va]) :: Atom.ro (Cel bg 38 [vg]) :: RowsS 1 encI ps :: Sl v 1 encRow ps :: MapA b10 (fun n : Int => .int .i64 n) (fun n : Int => .int .i64 n) (placeM (x.1)) c :: OSl 3 x.2.2 1 encI (x.1) :: l) w) (fun x => ps.length + 1 - x.1.length) ([], (i0 : Int), .slice none 0 0) ((S.nil.cons S 7 rfl).cons S 6 rfl) (⟨way_start (by dsimp only; omega) (by dsimp only; rw [Int.toNat_natCast]; exact hg0), at0, 0, hat0, by exact (H.pick [OSl 3 va 1 encI (at0), OSl 4 vg 1 encB (gone), Atom.ro (Cel bw 22 [v]), Atom.ro (Cel ba 23 [va]), Atom.ro (Cel bg 38 [vg]), RowsS 1 encI ps, Sl v 1 encRow ps, MapA b10 (fun n : Int => .int .i64 n) (fun n : Int => .int .i64 n) (fun _ => none) 0, OSl 3 (.slice none 0 0) 1 encI []])⟩) (fun x a w S hW => ?_)
  simp only [List.cons_append, List.nil_append] at S
  obtain ⟨way, i, vw⟩ := x
  obtain ⟨hw, at1, c, hat, H⟩ := hW
  dsimp only at S H hw
  have hir := hw.irng
  obtain ⟨k, rfl⟩ : ∃ k : Nat, i = k := ⟨i.toNat, by omega⟩
  refine g_seq ?_
  refine g_block ?_
  refine g_seq ?_
  refine g_seq ?_
  -- region 5 pool.go:29
  refine g_region ?_
  refine wl_of (op_y (wn rfl) rfl rfl S (y_move rfl S rfl) fun a S => ?_)
  refine wl_of (op_y (wn rfl) rfl rfl S (y_move rfl S rfl) fun a S => ?_)
  refine wl_of (op_y (wn rfl) rfl rfl S (y_lookupok _ ((0 : Int)) rfl Try.underlying46 Finf3 S H rfl (keyOK_int Try.underlying3) (by exact rfl) (by exact rfl)) fun a S => ?_)
  refine wl_of (op_y (wn rfl) rfl rfl S (y_move rfl S rfl) fun a S => ?_)
  refine wl_of (op_y (wn rfl) rfl rfl S (y_extract rfl S rfl rfl) fun a S => ?_)
  refine wl_of (op_y (wn rfl) rfl rfl S (y_extract rfl S rfl rfl) fun a S => ?_)
  refine wl_of (op_y (wn rfl) rfl rfl S (y_assign rfl S rfl) fun a S => ?_)
  refine wl_of (op_y (wn rfl) rfl rfl S (y_assign rfl S rfl) fun a S => ?_)
  refine gl_nil ?_
  refine n_then ?_
  refine g_seq ?_
  -- region 6 pool.go:29
  refine g_region ?_
  refine wl_of (op_y (wn rfl) rfl rfl S (y_move rfl S rfl) fun a S => ?_)
  refine gl_nil ?_
  refine n_then ?_
  -- cond 1
  refine c_if S rfl (fun h1 => ?_) (fun h1 => ?_)
  · have h1p := h1; try simp only [Option.isNone_some, Option.isNone_none, Option.isSome_some, Option.isSome_none, false_or, or_false, true_and, and_true, decide_eq_true_eq, decide_eq_false_iff_not, Bool.or_eq_true, Bool.and_eq_true, Bool.or_eq_false_iff, Bool.and_eq_false_iff, Bool.not_eq_true', Bool.not_eq_false', bne_iff_ne, beq_iff_eq, beq_eq_false_iff_ne, bne_eq_false_iff_eq, ne_eq, Decidable.not_not, Int.not_lt, Int.not_le, gt_iff_lt, ge_iff_le, Bool.true_eq_false, Bool.false_eq_true, not_true_eq_false, not_false_eq_true] at h1p
    obtain ⟨pa, ha⟩ : ∃ a, findL way k = some a := by
      have := h1; unfold placeM at this; cases hf : findL way k with
      | none => rw [hf] at this; cases this
      | some a => exact ⟨a, rfl⟩
    obtain ⟨ha1, ha2, _⟩ := findL_some.1 ha
    have hpv : (placeM way k).getD 0 = (pa : Int) := by unfold placeM; rw [ha]; rfl
    rw [hpv] at S
    refine g_seq ?_
    -- region 7 pool.go:30
    refine g_region ?_
    refine wl_of (op_y (wn rfl) rfl rfl S (y_move rfl S rfl) fun a S => ?_)
    refine wl_of (op_y (wn rfl) rfl rfl S (y_move rfl S rfl) fun a S => ?_)
    refine wl_of (op_y (wn rfl) rfl rfl S (y_sliceL rfl Try.underlying23 Fsiz3 S H rfl rfl (by first | assumption | omega | (simp only [List.length_append, List.length_take, List.length_drop, List.length_replicate, List.length_set, List.length_map, List.length_cons, List.length_nil]; omega))) fun a S => ?_)
    refine wl_of (op_y (wn rfl) rfl rfl S (y_assign rfl S rfl) fun a S => ?_)
    refine gl_nil ?_
    refine n_then ?_
    refine g_ret ?_
    refine r_then (r_block (r_then (r_then (r_block (ret1 rfl S rfl ?_)))))
    refine ⟨way.drop pa, way_stop ha1 (by rw [ha2]; exact hw), at1, hat, ?_⟩
    have H := ((H.front (OSl 3 vw 1 encI way)).cutSl pa way.length)
    rw [List.take_length] at H
    exact (H.pick [Sl (subV vw pa way.length 1) 1 encI (way.drop pa), OSl 3 va 1 encI (at1), OSl 4 vg 1 encB (gone), Atom.ro (Cel bw 22 [v]), Atom.ro (Cel ba 23 [va]), Atom.ro (Cel bg 38 [vg]), RowsS 1 encI ps, Sl v 1 encRow ps]).mid
  · have h1p := h1; try simp only [Option.isNone_some, Option.isNone_none, Option.isSome_some, Option.isSome_none, false_or, or_false, true_and, and_true, decide_eq_true_eq, decide_eq_false_iff_not, Bool.or_eq_true, Bool.and_eq_true, Bool.or_eq_false_iff, Bool.and_eq_false_iff, Bool.not_eq_true', Bool.not_eq_false', bne_iff_ne, beq_iff_eq, beq_eq_false_iff_ne, bne_eq_false_iff_eq, ne_eq, Decidable.not_not, Int.not_lt, Int.not_le, gt_iff_lt, ge_iff_le, Bool.true_eq_false, Bool.false_eq_true, not_true_eq_false, not_false_eq_true] at h1p
    have hkn : (k : Int) ∉ way := findL_none.1 (by
      have := h1; unfold placeM at this; cases hf : findL way k with
      | none => rfl
      | some a => rw [hf] at this; cases this)
    have hfew := hw.few
    have hw2 := way_next hrt hw hkn
    refine g_skip ?_
    refine n_then ?_
    refine g_seq ?_
    -- region 8 pool.go:32
    refine g_region ?_
    refine wl_of (op_y (wn rfl) rfl rfl S (y_move rfl S rfl) fun a S => ?_)
    refine wl_of (op_y (wn rfl) rfl rfl S (y_move rfl S rfl) fun a S => ?_)
    refine wl_of (op_y (wn rfl) rfl rfl S (y_move rfl S rfl) fun a S => ?_)
    refine wl_of (op_y (wn rfl) rfl rfl S (y_lens rfl Try.underlying23 S H rfl) fun a S => ?_)
    refine wl_of (op_mapUpdate _ ((way.length : Int)) (wn rfl) rfl rfl Try.underlying46 S H rfl (keyOK_int Try.underlying3) (by exact rfl) (by exact rfl) fun a w S H => ?_)
    refine gl_nil ?_
    refine n_then ?_
    -- region 9 pool.go:33
    refine g_region ?_
    refine wl_of (op_y (wn rfl) rfl rfl S (y_move rfl S rfl) fun a S => ?_)
    refine wl_of (op_y (wn rfl) rfl rfl S (y_move rfl S rfl) fun a S => ?_)
    refine wl_of (op_buildSlice (wn rfl) rfl rfl rfl Try.underlying23 Finf3 S H (idx := [0]) rfl rfl rfl (z := [.int .i64 0]) (by kernel_rfl) (cs := [_]) rfl fun b31 a w S H => ?_)
    refine wl_of (op_append ([(k : Int)]) (wn rfl) rfl rfl rfl Try.underlying23 Finf3 rfl rfl S H rfl rfl rfl rfl (by simp) (by simp [encI]) (by simp [encI, Value.oneCell']) (by simp only [List.length_cons, List.length_nil]; omega) (by simp only [List.length_cons, List.length_nil]; omega) fun u32 a w hn32 S H => ?_)
    rw [placeM_next hkn] at H
    obtain ⟨c2, hc2⟩ : ∃ c2, (if (placeM way k).isSome = true then c else c + 1) = c2 := ⟨_, rfl⟩
    rw [hc2] at H
    have H := (H.pick [OSl 3 va 1 encI (at1), OSl 4 vg 1 encB (gone), Atom.ro (Cel bw 22 [v]), Atom.ro (Cel ba 23 [va]), Atom.ro (Cel bg 38 [vg]), RowsS 1 encI ps, Sl v 1 encRow ps, MapA b10 (fun n : Int => .int .i64 n) (fun n : Int => .int .i64 n) (placeM (way ++ [(k : Int)])) c2, OSl 3 u32 1 encI (way ++ [(k : Int)])]).mid
    refine wl_of (op_y (wn rfl) rfl rfl S (y_assign rfl S rfl) fun a S => ?_)
    refine gl_nil ?_
    refine n_block ?_
    refine n_then ?_
    -- region 4 pool.go:28
    refine g_region ?_
    refine wl_of (op_y (wn rfl) rfl rfl S (y_move rfl S rfl) fun a S => ?_)
    refine wl_of (op_y (wn rfl) rfl rfl S (y_move rfl S rfl) fun a S => ?_)
    refine wl_of (op_call (wn rfl) rfl rfl S (co_value rfl Try.call24 S rfl rfl) (best_spec v va vg ps bw ba bg gone hrt hgl k at1 _ (by omega) hat H) fun v w hc a S => ?_)
    obtain ⟨rfl, at2, hat2, H⟩ := hc
    
    refine wl_of (op_y (wn rfl) rfl rfl S (y_assign rfl S rfl) fun a S => ?_)
    refine gl_nil ?_
    refine n_then ?_
    exact ⟨(way ++ [(k : Int)], nxtL (gr ps) gone k, u32), (S.nil.cons S 7 rfl).cons S 6 rfl, (S.nil.cons S 1 rfl).cons S 5 rfl, ⟨hw2, at2, c2, hat2, H⟩, by dsimp only; simp only [List.length_append, List.length_cons, List.length_nil]; omega⟩

end Go.Proofs.Ytoghkehlmibniaa
