/- The walks. No condition. -/
import Derived.Test.YtenaoaegichecaaChecked
import Derived.Test.YtenaoaegichecaaGwBits
import Derived.Test.YtenaoaegichecaaFacts
import Derived.Test.YtenaoaegichecaaPlain
import Derived.Test.YtenaoaegichecaaPlainZ
import Derived.Test.YtenaoaegichecaaW17
namespace Go.Proofs.Ytenaoaegichecaa
open Go Go.Gw
set_option linter.unusedVariables false
set_option linter.unusedSimpArgs false
set_option maxHeartbeats 8000000 in
/-- foyer/foyerlaw41.RebuildWrong -/
theorem law7 (v1 v2 : Value) (old next : List Pl) (v3 : Value) (ts : List Ow) (w0 : World) (hv1 : IsSl w0 v1 9 Pl.enc old) (hv2 : IsSl w0 v2 9 Pl.enc next) (hv3 : IsSl w0 v3 11 Ow.enc ts) (hok : ∀ o ∈ ts, o.ok) (one two : Nat) (ho : one ≤ 255) (ht : two ≤ 255) :
    Ret Try.prog 8 #[v1, v2, v3, .int .u8 (one : Int), .int .u8 (two : Int)] w0 (fun v w => v = .bool true ∧ Ext w0 w) := by
 refine ret_of_wp (nt := 254) Try.func8 rfl rfl rfl (fl := [(0, v1), (1, v2), (2, v3), (3, .int .u8 (one : Int)), (4, .int .u8 (two : Int))]) rfl (fun a S => ?_)
 have H := HSat.start w0
 have H := H.ro0 (Sl v1 9 Pl.enc old) rfl (hv1)
 have H := H.ro0 (Sl v2 9 Pl.enc next) rfl (hv2)
 have H := H.ro0 (Sl v3 11 Ow.enc ts) rfl (hv3)
 have hl1 := hv1.len
 have hl2 := hv2.len
 have hl3 := hv3.len
 refine g_seq ?_
 refine g_region ?_
 refine gy rfl rfl rfl S (y_assign rfl S rfl) fun a S => ?_
 refine gl_nil ?_
 refine n_then ?_
 refine g_seq ?_
 refine g_region ?_
 refine wl_of (op_call (wn rfl) rfl rfl S (co_func rfl Try.call11 S rfl) (head_spec _) fun v w hc a S => ?_)
 obtain ⟨rfl, he⟩ := hc
 have H := H.ext he
 refine gy rfl rfl rfl S (y_assign rfl S rfl) fun a S => ?_
 refine gl_nil ?_
 refine n_then ?_
 refine g_seq ?_
 refine g_seq ?_
 refine g_region ?_
 refine gy rfl rfl rfl S (y_move rfl S rfl) fun a S => ?_
 refine gy rfl rfl rfl S (y_move rfl S rfl) fun a S => ?_
 refine gy rfl rfl rfl S (y_move rfl S rfl) fun a S => ?_
 refine wl_of (op_call (wn rfl) rfl rfl S (co_func rfl Try.call12 S rfl) (few_spec v1 v2 old next v3 ts 20 _ (H.sl v1) (H.sl v2) (H.sl v3)) fun v w hc a S => ?_)
 obtain ⟨rfl, he⟩ := hc
 have H := H.ext he
 refine gy rfl rfl rfl S (y_not rfl S rfl) fun a S => ?_
 refine gl_nil ?_
 refine n_then ?_
 have S := (((((((S.nil.cons S 4 rfl).cons S 3 rfl).cons S 2 rfl).cons S 1 rfl).cons S 0 rfl).cons S 10 rfl).cons S 11 rfl).cons S 30 rfl
 refine c_if S rfl (fun h1 => ?_) (fun h1 => ?_)
 ·have h1p := h1; try simp only [DL] at h1p
  refine g_seq ?_
  refine g_region ?_
  refine gy rfl rfl rfl S (y_move rfl S rfl) fun a S => ?_
  refine gy rfl rfl rfl S (y_assign rfl S rfl) fun a S => ?_
  refine gl_nil ?_
  refine n_then ?_
  refine g_ret ?_
  refine r_then (ret1 rfl S rfl ?_)
  exact ⟨rfl, H.toExt⟩
 ·have h1p := h1; try simp only [DL] at h1p
  have hfw : old.length ≤ 20 ∧ next.length ≤ 20 ∧ ts.length ≤ 20 := by have := h1p; omega
  refine g_skip ?_
  refine n_then ?_
  refine g_seq ?_
  refine g_region ?_
  refine gy rfl rfl rfl S (y_move rfl S rfl) fun a S => ?_
  refine gy rfl rfl rfl S (y_move rfl S rfl) fun a S => ?_
  refine gy rfl rfl rfl S (y_move rfl S rfl) fun a S => ?_
  refine wl_of (op_call (wn rfl) rfl rfl S (co_func rfl Try.call14 S rfl) (plan_any v1 v2 old next v3 ts _ (H.sl v1) (H.sl v2) (H.sl v3) hok (by omega)) fun v w hc a S => ?_)
  obtain ⟨mvA, vlA, vrA, msA, rfl, hmA, H1⟩ := hc
  have H := H.call4 H1 rfl rfl rfl rfl
  have hclA := clP_len old next ts (by omega)
  have hcrA := crP_len old next ts (by omega)
  have hlA := (H.sl mvA).len
  obtain ⟨pmA, cmA, hsA⟩ := (H.sl mvA).shape
  obtain ⟨plA, clA, hslA⟩ := (H.sl vlA).shape
  obtain ⟨prA, crA, hsrA⟩ := (H.sl vrA).shape
  have holA := (H.sl vlA).one
  have horA := (H.sl vrA).one
  have hrows : ∀ p ∈ rowsOf msA, IsSl w p.1 1 encI p.2 := H.rws 3 (rowsOf msA)
  have hone : ∀ q (hq : q < msA.length), (msA[q].row.1).oneCell' = true := fun q hq => (hrows _ (rows_mem hq)).one
  have honeA : ∀ y ∈ msA, ∀ u ∈ Mv.enc y, u.oneCell' = true := fun y hy u hu => by
    obtain ⟨q, hq, rfl⟩ := List.getElem_of_mem hy
    simp only [Mv.enc, List.mem_cons, List.not_mem_nil, or_false] at hu
    rcases hu with rfl | rfl | rfl
    · rfl
    · rfl
    · exact hone q hq
  refine gy rfl rfl rfl S (y_move rfl S rfl) fun a S => ?_
  refine gy rfl rfl rfl S (y_extract rfl S rfl rfl) fun a S => ?_
  refine gy rfl rfl rfl S (y_extract rfl S rfl rfl) fun a S => ?_
  refine wl_of (op_alloc (wn rfl) rfl rfl rfl S H Fzer29 fun b12 a w S H => ?_)
  refine wl_of (op_storea (wn rfl) rfl rfl S H rfl rfl (by simp only [List.all_cons, List.all_nil, H.sl1 mvA, H.sl1 vlA, H.sl1 vrA, Bool.true_and]) Fsiz29 rfl (cs' := [_, _, _]) rfl fun a w S H => ?_)
  refine gy rfl rfl rfl S (y_assign rfl S rfl) fun a S => ?_
  refine gl_nil ?_
  refine n_then ?_
  have S := ((((((((S.nil.cons S 4 rfl).cons S 3 rfl).cons S 2 rfl).cons S 1 rfl).cons S 0 rfl).cons S 10 rfl).cons S 11 rfl).cons S 12 rfl).cons S 13 rfl
  refine g_seq ?_
  refine g_region ?_
  refine gy rfl rfl rfl S (y_move rfl S rfl) fun a S => ?_
  refine wl_of (op_call (wn rfl) rfl rfl S (co_func rfl Try.call20 S rfl) (moved_spec v3 ts _ (H.sl v3) hok (by omega)) fun u40 w hc a S => ?_)
  have H1 := hc
  have H := H.call1 H1 rfl
  have hmle := moved_len ts
  refine gy rfl rfl rfl S (y_assign rfl S rfl) fun a S => ?_
  refine gl_nil ?_
  refine n_then ?_
  refine g_seq ?_
  refine g_seq ?_
  refine g_region ?_
  refine gy rfl rfl rfl S (y_move rfl S rfl) fun a S => ?_
  refine gy rfl rfl rfl S (y_bin rfl S rfl rfl rfl) fun a S => ?_
  refine gy rfl rfl rfl S (y_move rfl S rfl) fun a S => ?_
  refine' wl_or 3 43 rfl S H rfl rfl rfl rfl rfl rfl rfl (fun _ S => (wn rfl)) (fun h2 kk => ?yh2) (fun a w S H => ?_)
  case yh2 =>
   have h2p := h2; try simp only [DL] at h2p
   refine gz 43 h2 S rfl rfl rfl rfl rfl rfl (y_move rfl S rfl) fun a S => ?_
   refine gz 43 h2 S rfl rfl rfl rfl rfl rfl (y_lens rfl Try.underlying23 S H rfl) fun a S => ?_
   refine gz 43 h2 S rfl rfl rfl rfl rfl rfl (y_bin rfl S rfl rfl rfl) fun a S => ?_
   refine gy rfl rfl rfl S (y_or' rfl h2 S rfl rfl) fun a S => ?_
   exact kk _ _ (S.join 4 47 rfl rfl) H
  refine gl_nil ?_
  refine n_then ?_
  have S := (((((((((S.nil.cons S 4 rfl).cons S 3 rfl).cons S 2 rfl).cons S 1 rfl).cons S 0 rfl).cons S 10 rfl).cons S 11 rfl).cons S 12 rfl).cons S 14 rfl).cons S 47 rfl
  refine c_if S rfl (fun h3 => ?_) (fun h3 => ?_)
  ·have h3p := h3; try simp only [DL] at h3p
   refine g_seq ?_
   refine g_region ?_
   refine gy rfl rfl rfl S (y_move rfl S rfl) fun a S => ?_
   refine gy rfl rfl rfl S (y_assign rfl S rfl) fun a S => ?_
   refine gl_nil ?_
   refine n_then ?_
   refine g_ret ?_
   refine r_then (ret1 rfl S rfl ?_)
   exact ⟨rfl, H.toExt⟩
  ·have h3p := h3; try simp only [DL] at h3p
   have hc2 := h3
   simp only [Bool.or_eq_false_iff, bne_eq_false_iff_eq, beq_eq_false_iff_ne, ne_eq] at hc2
   have herr : errP old next ts = 0 := hc2.1
   have hM := planM herr hmA
   have hlen := hM.len
   have hpos : 0 < msA.length := by have := hc2.2; omega
   refine g_skip ?_
   refine n_then ?_
   refine g_seq ?_
   refine g_region ?_
   refine gy rfl rfl rfl S (y_faddrb rfl Ffo29_0 S rfl) fun a S => ?_
   refine gy rfl rfl rfl S (y_load rfl Fsca24 S H rfl rfl) fun a S => ?_
   refine gy rfl rfl rfl S (y_lens rfl Try.underlying24 S H rfl) fun a S => ?_
   refine gy rfl rfl rfl S (y_assign rfl S rfl) fun a S => ?_
   refine gl_nil ?_
   refine n_then ?_
   have S := (((((((((S.nil.cons S 4 rfl).cons S 3 rfl).cons S 2 rfl).cons S 1 rfl).cons S 0 rfl).cons S 10 rfl).cons S 11 rfl).cons S 12 rfl).cons S 14 rfl).cons S 15 rfl
   refine g_seq ?_
   refine g_seq ?_
   refine g_region ?_
   refine gy rfl rfl rfl S (y_move rfl S rfl) fun a S => ?_
   refine gy rfl rfl rfl S (y_move rfl S rfl) fun a S => ?_
   refine gy rfl rfl rfl S (y_lens rfl Try.underlying23 S H rfl) fun a S => ?_
   refine gy rfl rfl rfl S (y_bin rfl S rfl rfl rfl) fun a S => ?_
   refine gl_nil ?_
   refine n_then ?_
   refine c_if S rfl (fun h4 => ?_) (fun h4 => ?_)
   ·have h4p := h4; try simp only [DL] at h4p
    all_goals (
      exfalso
      have := h4p
      omega)
   ·have h4p := h4; try simp only [DL] at h4p
    refine g_skip ?_
    refine n_then ?_
    have S := (((((((((S.nil.cons S 4 rfl).cons S 3 rfl).cons S 2 rfl).cons S 1 rfl).cons S 0 rfl).cons S 10 rfl).cons S 11 rfl).cons S 12 rfl).cons S 14 rfl).cons S 15 rfl
    refine g_seq ?_
    refine g_region ?_
    refine gy rfl rfl rfl S (y_move rfl S rfl) fun a S => ?_
    refine gy rfl rfl rfl S (y_conv rfl Try.underlying5 Try.underlying3 S rfl (by omega)) fun a S => ?_
    refine gy rfl rfl rfl S (y_move rfl S rfl) fun a S => ?_
    refine gy rfl rfl rfl S (y_remn rfl S rfl rfl (by omega) (by omega)) fun a S => ?_
    obtain ⟨ni, hni0⟩ : ∃ n : Nat, (one : Int) % (msA.length : Int) = n := ⟨one % msA.length, rfl⟩
    rw [hni0] at S
    have hni : ni < msA.length := by have := Int.emod_lt_of_pos (one : Int) (show (0 : Int) < (msA.length : Int) by omega); omega
    refine gy rfl rfl rfl S (y_assign rfl S rfl) fun a S => ?_
    refine gl_nil ?_
    refine n_then ?_
    have S := (((((((((S.nil.cons S 4 rfl).cons S 2 rfl).cons S 1 rfl).cons S 0 rfl).cons S 10 rfl).cons S 11 rfl).cons S 12 rfl).cons S 14 rfl).cons S 15 rfl).cons S 16 rfl
    refine g_seq ?_
    refine g_region ?_
    refine gy rfl rfl rfl S (y_move rfl S rfl) fun a S => ?_
    refine gy rfl rfl rfl S (y_conv rfl Try.underlying5 Try.underlying3 S rfl (by omega)) fun a S => ?_
    refine gy rfl rfl rfl S (y_move rfl S rfl) fun a S => ?_
    refine gy rfl rfl rfl S (y_remn rfl S rfl rfl (by omega) (by omega)) fun a S => ?_
    obtain ⟨nk, hnk0⟩ : ∃ n : Nat, (two : Int) % (msA.length : Int) = n := ⟨two % msA.length, rfl⟩
    rw [hnk0] at S
    have hnk : nk < msA.length := by have := Int.emod_lt_of_pos (two : Int) (show (0 : Int) < (msA.length : Int) by omega); omega
    refine gy rfl rfl rfl S (y_assign rfl S rfl) fun a S => ?_
    refine gl_nil ?_
    refine n_then ?_
    have S := (((((((((S.nil.cons S 2 rfl).cons S 1 rfl).cons S 0 rfl).cons S 10 rfl).cons S 11 rfl).cons S 12 rfl).cons S 14 rfl).cons S 15 rfl).cons S 16 rfl).cons S 17 rfl
    refine g_seq ?_
    refine region_st (loud := [8, 9]) (tails := [9]) (free := []) [0, 1, 2, 3, 4, 5, 6, 7, 8, 9] [] Fmo (by kernel_rfl) (by kernel_rfl) rfl H ?_
    refine m_w rfl rfl (wn rfl) rfl rfl S (fun w H => y_faddrb rfl Ffo29_0 S rfl) fun a S => ?_
    refine m_w rfl rfl (wn rfl) rfl rfl S (fun w H => y_load rfl Fsca24 S H rfl rfl) fun a S => ?_
    refine m_w rfl rfl (wn rfl) rfl rfl S (fun w H => y_move rfl S rfl) fun a S => ?_
    refine m_w rfl rfl (wn rfl) rfl rfl S (fun w H => y_sub rfl S rfl rfl (by omega)) fun a S => ?_
    rw [show (msA.length : Int) - 1 = ((msA.length - 1 : Nat) : Int) by omega] at S
    refine m_w rfl rfl (wn rfl) rfl rfl S (fun w H => y_sliceH rfl Try.underlying24 Fsiz50 S H rfl rfl (by first | assumption | omega | (simp only [List.length_set]; omega))) fun a S => ?_
    have hos := (H.sl (subV mvA 0 (msA.length - 1) 3)).one
    refine m_w rfl rfl (wn rfl) rfl rfl S (fun w H => y_faddrb rfl Ffo29_1 S rfl) fun a S => ?_
    refine m_w rfl rfl (wn rfl) rfl rfl S (fun w H => y_loadp (vs := [vlA, vrA]) rfl S H rfl (by exact Fagg27) rfl) fun a S => ?_
    refine m_w rfl rfl (wn rfl) rfl rfl S (fun w H => y_buildf rfl Fbld29 S rfl (idx := [0, 1]) rfl (cs := [(subV mvA 0 (msA.length - 1) 3), vlA, vrA]) (by rw [hsA, hslA, hsrA]; rfl)) fun a S => ?_
    refine m_l rfl rfl (fun w H => op_alloc (wn rfl) rfl rfl rfl S H Fzer29 fun b18 a w S H => m_next H (List.sublist_cons_self _ _) ?_)
    refine m_l rfl rfl (fun w H => op_storea (wn rfl) rfl rfl S H rfl rfl (by simp only [List.all_cons, List.all_nil, hos, holA, horA, Bool.true_and]) Fsiz29 rfl (cs' := [_, _, _]) rfl fun a w S H => m_tail H rfl ?_)
    refine m_nil (fun w H => ?_)
    refine n_then ?_
    have S := ((((((((((S.nil.cons S 2 rfl).cons S 1 rfl).cons S 0 rfl).cons S 10 rfl).cons S 11 rfl).cons S 12 rfl).cons S 14 rfl).cons S 15 rfl).cons S 16 rfl).cons S 17 rfl).cons S 18 rfl
    refine g_seq ?_
    refine g_seq ?_
    refine g_region ?_
    refine gy rfl rfl rfl S (y_move rfl S rfl) fun a S => ?_
    refine gy rfl rfl rfl S (y_move rfl S rfl) fun a S => ?_
    refine gy rfl rfl rfl S (y_move rfl S rfl) fun a S => ?_
    refine gy rfl rfl rfl S (y_load0 rfl S H rfl (by exact Fagg29)) fun a S => ?_
    refine wl_of (op_call (wn rfl) rfl rfl S (co_func rfl Try.call17 S rfl) (check_any v1 v2 old next v3 ts _ (H.sl v1) (H.sl v2) (H.sl v3) hok (by omega) (subV mvA 0 (msA.length - 1) 3) vlA vrA ((msA.take (msA.length - 1)).drop 0) (clP old next ts) (crP old next ts) (H.sl (subV mvA 0 (msA.length - 1) 3)) (fun p hp => (show ∀ p ∈ rowsOf msA, IsSl _ p.1 1 encI p.2 from H.rws 3 (rowsOf msA)) p (mem_rows_take hp)) (H.sl vlA) (H.sl vrA) (H.cap vlA) (by omega) (by omega)) fun v w hc a S => ?_)
    obtain ⟨rfl, he⟩ := hc
    have H := H.ext he
    refine gl_nil ?_
    refine n_then ?_
    have S := ((((((((((S.nil.cons S 2 rfl).cons S 1 rfl).cons S 0 rfl).cons S 10 rfl).cons S 11 rfl).cons S 12 rfl).cons S 14 rfl).cons S 15 rfl).cons S 16 rfl).cons S 17 rfl).cons S 76 rfl
    refine c_if S rfl (fun h5 => ?_) (fun h5 => ?_)
    ·have h5p := h5; try simp only [DL] at h5p
     all_goals (
       exfalso
       have hx4 := h5
       rw [hM.less hpos (by simp; omega)] at hx4
       cases hx4)
    ·have h5p := h5; try simp only [DL] at h5p
     refine g_skip ?_
     refine n_then ?_
     refine g_seq ?_
     refine g_seq ?_
     refine region_st (loud := []) (tails := []) (free := []) [0, 1, 2, 3, 4, 5, 6, 7, 8, 9, 10, 11, 12, 13, 14, 15, 16, 17] [] Fmo (by kernel_rfl) (by kernel_rfl) rfl H ?_
     refine m_w rfl rfl (wn rfl) rfl rfl S (fun w H => y_move rfl S rfl) fun a S => ?_
     refine m_w rfl rfl (wn rfl) rfl rfl S (fun w H => y_move rfl S rfl) fun a S => ?_
     refine m_w rfl rfl (wn rfl) rfl rfl S (fun w H => y_bin rfl S rfl rfl rfl) fun a S => ?_
     refine m_w rfl rfl (wn rfl) rfl rfl S (fun w H => y_move rfl S rfl) fun a S => ?_
     refine' m_andq [4, 5, 6, 7, 8, 9, 10, 11, 12, 13, 14, 15, 16] 80 S rfl rfl rfl rfl rfl rfl rfl rfl rfl (fun _ S => (wn rfl)) (fun h6 kk => ?yh6) (fun a S => ?_)
     case yh6 =>
      have h6p := h6; try simp only [DL] at h6p
      refine m_w rfl rfl (wg' 80 rfl rfl S rfl h6 rfl) rfl rfl S (fun w H => y_faddrb rfl Ffo29_0 S rfl) fun a S => ?_
      refine m_w rfl rfl (wg' 80 rfl rfl S rfl h6 rfl) rfl rfl S (fun w H => y_load rfl Fsca24 S H rfl rfl) fun a S => ?_
      refine m_w rfl rfl (wg' 80 rfl rfl S rfl h6 rfl) rfl rfl S (fun w H => y_move rfl S rfl) fun a S => ?_
      refine m_w rfl rfl (wg' 80 rfl rfl S rfl h6 rfl) rfl rfl S (fun w H => y_iaddrn rfl Try.underlying24 Fsiz50 S H rfl rfl (by first | assumption | omega | (simp only [List.length_set]; omega))) fun a S => ?_
      refine m_w rfl rfl (wg' 80 rfl rfl S rfl h6 rfl) rfl rfl S (fun w H => y_faddr rfl Ffo50_0 S rfl) fun a S => ?_
      refine m_loadsf _ rfl rfl (wg' 80 rfl rfl S rfl h6 rfl) rfl rfl S rfl Fsca3 rfl (by first | assumption | omega | (simp only [List.length_set]; omega)) rfl fun a S => ?_
      refine m_w rfl rfl (wg' 80 rfl rfl S rfl h6 rfl) rfl rfl S (fun w H => y_faddrb rfl Ffo29_0 S rfl) fun a S => ?_
      refine m_w rfl rfl (wg' 80 rfl rfl S rfl h6 rfl) rfl rfl S (fun w H => y_load rfl Fsca24 S H rfl rfl) fun a S => ?_
      refine m_w rfl rfl (wg' 80 rfl rfl S rfl h6 rfl) rfl rfl S (fun w H => y_move rfl S rfl) fun a S => ?_
      refine m_w rfl rfl (wg' 80 rfl rfl S rfl h6 rfl) rfl rfl S (fun w H => y_iaddrn rfl Try.underlying24 Fsiz50 S H rfl rfl (by first | assumption | omega | (simp only [List.length_set]; omega))) fun a S => ?_
      refine m_w rfl rfl (wg' 80 rfl rfl S rfl h6 rfl) rfl rfl S (fun w H => y_faddr rfl Ffo50_0 S rfl) fun a S => ?_
      refine m_loadsf _ rfl rfl (wg' 80 rfl rfl S rfl h6 rfl) rfl rfl S rfl Fsca3 rfl (by first | assumption | omega | (simp only [List.length_set]; omega)) rfl fun a S => ?_
      refine m_w rfl rfl (wg' 80 rfl rfl S rfl h6 rfl) rfl rfl S (fun w H => y_bin rfl S rfl rfl rfl) fun a S => ?_
      refine m_w rfl rfl (wn rfl) rfl rfl S (fun w H => y_and' rfl h6 S rfl rfl) fun a S => ?_
      exact kk _ (S.join 14 94 rfl rfl)
     refine m_nil (fun w H => ?_)
     refine n_then ?_
     have S := ((((((((((S.nil.cons S 2 rfl).cons S 1 rfl).cons S 0 rfl).cons S 10 rfl).cons S 11 rfl).cons S 12 rfl).cons S 14 rfl).cons S 15 rfl).cons S 16 rfl).cons S 17 rfl).cons S 94 rfl
     refine cut (fun a w => St 254 [(0, v1), (1, v2), (2, v3), (11, .bool true), (12, .pointer (some ⟨b12, 0, none⟩)), (14, u40), (15, .int .i64 (msA.length : Int)), (16, .int .i64 (ni : Int)), (17, .int .i64 (nk : Int))] a ∧ HSat No w0 [RowsA 3 1 encI (rowsOf msA), Cel b12 29 [mvA, vlA, vrA], OSl 50 mvA 3 Mv.enc msA, OSl 3 vlA 1 encI (clP old next ts), OSl 3 vrA 1 encI (crP old next ts), OSl 47 u40 11 Ow.enc (movedL ts), Sl v3 11 Ow.enc ts, Sl v2 9 Pl.enc next, Sl v1 9 Pl.enc old] w) ?_ ?_
     ·skip
      refine c_if S rfl (fun h7 => ?_) (fun h7 => ?_)
      ·have h7p := h7; try simp only [DL] at h7p
       have hc5 := h7
       simp only [Bool.and_eq_true, bne_iff_ne, ne_eq] at hc5
       have hne5 : ni ≠ nk := by have := hc5.1; omega
       have hse5 := hc5.2
       refine g_seq ?_
       refine g_region ?_
       refine wl_of (op_buildSlice (wn rfl) rfl rfl rfl Try.underlying24 Finf50 S H (idx := []) rfl rfl rfl (z := []) (by kernel_rfl) (cs := []) rfl fun b95 a w S H => ?_)
       have H := H.celO [] Mv.enc 3 (m := 0) rfl (by simp) rfl (by omega)
       refine gy rfl rfl rfl S (y_faddrb rfl Ffo29_0 S rfl) fun a S => ?_
       refine gy rfl rfl rfl S (y_load rfl Fsca24 S H rfl rfl) fun a S => ?_
       refine wl_of (op_appendT (wn rfl) rfl rfl rfl Try.underlying24 Finf50 rfl rfl S H rfl rfl (by simp (config := { failIfUnchanged := false }) only []; exact honeA) (by simp; omega) (by simp; omega) fun u98 a w S H => ?_)
       try rw [List.nil_append] at H
       obtain ⟨p98, c98, hp98⟩ := (H.sl u98).shape
       refine gy rfl rfl rfl S (y_assign rfl S rfl) fun a S => ?_
       refine gl_nil ?_
       refine n_then ?_
       refine g_seq ?_
       refine g_region ?_
       refine gy rfl rfl rfl S (y_move rfl S rfl) fun a S => ?_
       refine gy rfl rfl rfl S (y_move rfl S rfl) fun a S => ?_
       refine gy rfl rfl rfl S (y_faddrb rfl Ffo29_0 S rfl) fun a S => ?_
       refine gy rfl rfl rfl S (y_load rfl Fsca24 S H rfl rfl) fun a S => ?_
       refine gy rfl rfl rfl S (y_move rfl S rfl) fun a S => ?_
       refine gy rfl rfl rfl S (y_iaddrn rfl Try.underlying24 Fsiz50 S H rfl rfl (by first | assumption | omega | (simp only [List.length_set]; omega))) fun a S => ?_
       refine gy rfl rfl rfl S (y_loadsa _ rfl S H rfl (by exact Fagg50) (by first | assumption | omega | (simp only [List.length_set]; omega))) fun a S => ?_
       refine gy rfl rfl rfl S (y_iaddrn rfl Try.underlying24 Fsiz50 S H rfl rfl (by first | assumption | omega | (simp only [List.length_set]; omega))) fun a S => ?_
       refine wl_of (op_storeS (i := ni) (j := 0) (sz := 3) (vs := [.int .i64 msA[nk].serial, .int .i64 msA[nk].to_, msA[nk].row.1]) _ (msA[nk]) (wn rfl) rfl rfl S H rfl (addr_zero _) rfl rfl (by intro c hc; rcases List.mem_cons.1 hc with rfl | hc; rfl; rcases List.mem_cons.1 hc with rfl | hc; rfl; rw [List.mem_singleton.1 hc]; exact hone nk hnk) Fsiz50 (by first | omega | (simp only [List.length_set]; omega)) (by simp) (by simp [Mv.enc]) fun a w S H => ?_)
       refine gl_nil ?_
       refine n_then ?_
       refine g_seq ?_
       refine g_region ?_
       refine gy rfl rfl rfl S (y_move rfl S rfl) fun a S => ?_
       refine gy rfl rfl rfl S (y_move rfl S rfl) fun a S => ?_
       refine gy rfl rfl rfl S (y_faddrb rfl Ffo29_0 S rfl) fun a S => ?_
       refine gy rfl rfl rfl S (y_load rfl Fsca24 S H rfl rfl) fun a S => ?_
       refine gy rfl rfl rfl S (y_move rfl S rfl) fun a S => ?_
       refine gy rfl rfl rfl S (y_iaddrn rfl Try.underlying24 Fsiz50 S H rfl rfl (by first | assumption | omega | (simp only [List.length_set]; omega))) fun a S => ?_
       refine gy rfl rfl rfl S (y_loadsa _ rfl S H rfl (by exact Fagg50) (by first | assumption | omega | (simp only [List.length_set]; omega))) fun a S => ?_
       refine gy rfl rfl rfl S (y_iaddrn rfl Try.underlying24 Fsiz50 S H rfl rfl (by first | assumption | omega | (simp only [List.length_set]; omega))) fun a S => ?_
       refine wl_of (op_storeS (i := nk) (j := 0) (sz := 3) (vs := [.int .i64 msA[ni].serial, .int .i64 msA[ni].to_, msA[ni].row.1]) _ (msA[ni]) (wn rfl) rfl rfl S H rfl (addr_zero _) rfl rfl (by intro c hc; rcases List.mem_cons.1 hc with rfl | hc; rfl; rcases List.mem_cons.1 hc with rfl | hc; rfl; rw [List.mem_singleton.1 hc]; exact hone ni hni) Fsiz50 (by first | omega | (simp only [List.length_set]; omega)) (by simp) (by simp [Mv.enc]) fun a w S H => ?_)
       refine gl_nil ?_
       refine n_then ?_
       refine g_seq ?_
       refine g_region ?_
       refine gy rfl rfl rfl S (y_move rfl S rfl) fun a S => ?_
       refine gy rfl rfl rfl S (y_move rfl S rfl) fun a S => ?_
       refine gy rfl rfl rfl S (y_move rfl S rfl) fun a S => ?_
       refine gy rfl rfl rfl S (y_move rfl S rfl) fun a S => ?_
       refine gy rfl rfl rfl S (y_faddrb rfl Ffo29_1 S rfl) fun a S => ?_
       refine gy rfl rfl rfl S (y_loadp (vs := [vlA, vrA]) rfl S H rfl (by exact Fagg27) rfl) fun a S => ?_
       refine gy rfl rfl rfl S (y_buildf rfl Fbld29 S rfl (idx := [0, 1]) rfl (cs := [u98, vlA, vrA]) (by rw [hp98, hslA, hsrA]; rfl)) fun a S => ?_
       refine wl_of (op_call (wn rfl) rfl rfl S (co_func rfl Try.call17 S rfl) (check_any v1 v2 old next v3 ts _ (H.sl v1) (H.sl v2) (H.sl v3) hok (by omega) u98 vlA vrA ((msA.set ni msA[nk]).set nk msA[ni]) (clP old next ts) (crP old next ts) (H.sl u98) (fun p hp => (show ∀ p ∈ rowsOf msA, IsSl _ p.1 1 encI p.2 from H.rws 3 (rowsOf msA)) p (mem_rows_swap hni hnk hp)) (H.sl vlA) (H.sl vrA) (H.cap vlA) (by omega) (by omega)) fun v w hc a S => ?_)
       obtain ⟨rfl, he⟩ := hc
       have H := H.ext he
       refine gl_nil ?_
       refine n_then ?_
       refine c_if S rfl (fun h8 => ?_) (fun h8 => ?_)
       ·have h8p := h8; try simp only [DL] at h8p
        all_goals (
          exfalso
          have hx6 := h8
          have hsw : ((msA.set ni msA[nk]).set nk msA[ni])[ni]'(by simp; omega) = msA[nk] := by rw [List.getElem_set, if_neg (Ne.symm hne5), List.getElem_set_self]
          rw [hM.moves (i := ni) hni (by simp; omega) (by rw [hsw]; exact Ne.symm hse5)] at hx6
          cases hx6)
       ·have h8p := h8; try simp only [DL] at h8p
        refine g_skip ?_
        refine n_then ?_
        exact ⟨(((((((((S.nil.cons S 17 rfl).cons S 16 rfl).cons S 15 rfl).cons S 14 rfl).cons S 12 rfl).cons S 11 rfl).cons S 2 rfl).cons S 1 rfl).cons S 0 rfl), H.take [RowsA 3 1 encI (rowsOf msA), Cel b12 29 [mvA, vlA, vrA], OSl 50 mvA 3 Mv.enc msA, OSl 3 vlA 1 encI (clP old next ts), OSl 3 vrA 1 encI (crP old next ts), OSl 47 u40 11 Ow.enc (movedL ts), Sl v3 11 Ow.enc ts, Sl v2 9 Pl.enc next, Sl v1 9 Pl.enc old]⟩
      ·have h7p := h7; try simp only [DL] at h7p
       refine g_skip ?_
       refine n_then ?_
       exact ⟨(((((((((S.nil.cons S 17 rfl).cons S 16 rfl).cons S 15 rfl).cons S 14 rfl).cons S 12 rfl).cons S 11 rfl).cons S 2 rfl).cons S 1 rfl).cons S 0 rfl), H.take [RowsA 3 1 encI (rowsOf msA), Cel b12 29 [mvA, vlA, vrA], OSl 50 mvA 3 Mv.enc msA, OSl 3 vlA 1 encI (clP old next ts), OSl 3 vrA 1 encI (crP old next ts), OSl 47 u40 11 Ow.enc (movedL ts), Sl v3 11 Ow.enc ts, Sl v2 9 Pl.enc next, Sl v1 9 Pl.enc old]⟩
     rintro a w ⟨S, H⟩
     refine g_seq ?_
     refine g_seq ?_
     refine g_region ?_
     refine gy rfl rfl rfl S (y_move rfl S rfl) fun a S => ?_
     refine gy rfl rfl rfl S (y_move rfl S rfl) fun a S => ?_
     refine gy rfl rfl rfl S (y_bin rfl S rfl rfl rfl) fun a S => ?_
     refine gy rfl rfl rfl S (y_move rfl S rfl) fun a S => ?_
     refine' wl_and 7 126 rfl S H rfl rfl rfl rfl rfl rfl rfl (fun _ S => (wn rfl)) (fun h9 kk => ?yh9) (fun a w S H => ?_)
     case yh9 =>
      have h9p := h9; try simp only [DL] at h9p
      refine gz 126 h9 S rfl rfl rfl rfl rfl rfl (y_faddrb rfl Ffo29_0 S rfl) fun a S => ?_
      refine gz 126 h9 S rfl rfl rfl rfl rfl rfl (y_load rfl Fsca24 S H rfl rfl) fun a S => ?_
      refine gz 126 h9 S rfl rfl rfl rfl rfl rfl (y_move rfl S rfl) fun a S => ?_
      refine gz 126 h9 S rfl rfl rfl rfl rfl rfl (y_iaddrn rfl Try.underlying24 Fsiz50 S H rfl rfl (by first | assumption | omega | (simp only [List.length_set]; omega))) fun a S => ?_
      refine gz 126 h9 S rfl rfl rfl rfl rfl rfl (y_faddr rfl Ffo50_1 S rfl) fun a S => ?_
      refine gz 126 h9 S rfl rfl rfl rfl rfl rfl (y_loadsf _ rfl Fsca3 S H rfl (by first | assumption | omega | (simp only [List.length_set]; omega)) rfl) fun a S => ?_
      refine gz 126 h9 S rfl rfl rfl rfl rfl rfl (y_bin rfl S rfl rfl rfl) fun a S => ?_
      refine gy rfl rfl rfl S (y_and' rfl h9 S rfl rfl) fun a S => ?_
      exact kk _ _ (S.join 8 134 rfl rfl) H
     refine gl_nil ?_
     refine n_then ?_
     have S := (((((((((S.nil.cons S 17 rfl).cons S 16 rfl).cons S 15 rfl).cons S 14 rfl).cons S 12 rfl).cons S 11 rfl).cons S 2 rfl).cons S 1 rfl).cons S 0 rfl).cons S 134 rfl
     refine cut (fun a w => St 254 [(0, v1), (1, v2), (2, v3), (11, .bool true), (12, .pointer (some ⟨b12, 0, none⟩)), (14, u40), (15, .int .i64 (msA.length : Int)), (16, .int .i64 (ni : Int)), (17, .int .i64 (nk : Int))] a ∧ HSat No w0 [RowsA 3 1 encI (rowsOf msA), Cel b12 29 [mvA, vlA, vrA], OSl 50 mvA 3 Mv.enc msA, OSl 3 vlA 1 encI (clP old next ts), OSl 3 vrA 1 encI (crP old next ts), OSl 47 u40 11 Ow.enc (movedL ts), Sl v3 11 Ow.enc ts, Sl v2 9 Pl.enc next, Sl v1 9 Pl.enc old] w) ?_ ?_
     ·skip
      refine c_if S rfl (fun h10 => ?_) (fun h10 => ?_)
      ·have h10p := h10; try simp only [DL] at h10p
       have hc7 := h10
       simp only [Bool.and_eq_true, bne_iff_ne, ne_eq, decide_eq_true_eq] at hc7
       have hne7 : ni ≠ nk := by have := hc7.1; omega
       have h07 : 0 ≤ msA[ni].to_ := by have := hc7.2; omega
       refine g_seq ?_
       refine g_region ?_
       refine wl_of (op_buildSlice (wn rfl) rfl rfl rfl Try.underlying24 Finf50 S H (idx := []) rfl rfl rfl (z := []) (by kernel_rfl) (cs := []) rfl fun b135 a w S H => ?_)
       have H := H.celO [] Mv.enc 3 (m := 0) rfl (by simp) rfl (by omega)
       refine gy rfl rfl rfl S (y_faddrb rfl Ffo29_0 S rfl) fun a S => ?_
       refine gy rfl rfl rfl S (y_load rfl Fsca24 S H rfl rfl) fun a S => ?_
       refine wl_of (op_appendT (wn rfl) rfl rfl rfl Try.underlying24 Finf50 rfl rfl S H rfl rfl (by simp (config := { failIfUnchanged := false }) only []; exact honeA) (by simp; omega) (by simp; omega) fun u138 a w S H => ?_)
       try rw [List.nil_append] at H
       obtain ⟨p138, c138, hp138⟩ := (H.sl u138).shape
       refine gy rfl rfl rfl S (y_assign rfl S rfl) fun a S => ?_
       refine gl_nil ?_
       refine n_then ?_
       refine g_seq ?_
       refine region_st (loud := [16]) (tails := [16]) (free := []) [0, 1, 2, 3, 4, 5, 6, 7, 8, 9, 10, 11, 12, 13, 14, 15, 16] [] Fmo (by kernel_rfl) (by kernel_rfl) rfl H ?_
       refine m_w rfl rfl (wn rfl) rfl rfl S (fun w H => y_move rfl S rfl) fun a S => ?_
       refine m_w rfl rfl (wn rfl) rfl rfl S (fun w H => y_move rfl S rfl) fun a S => ?_
       refine m_w rfl rfl (wn rfl) rfl rfl S (fun w H => y_faddrb rfl Ffo29_0 S rfl) fun a S => ?_
       refine m_w rfl rfl (wn rfl) rfl rfl S (fun w H => y_load rfl Fsca24 S H rfl rfl) fun a S => ?_
       refine m_w rfl rfl (wn rfl) rfl rfl S (fun w H => y_move rfl S rfl) fun a S => ?_
       refine m_w rfl rfl (wn rfl) rfl rfl S (fun w H => y_iaddrn rfl Try.underlying24 Fsiz50 S H rfl rfl (by first | assumption | omega | (simp only [List.length_set]; omega))) fun a S => ?_
       refine m_w rfl rfl (wn rfl) rfl rfl S (fun w H => y_faddr rfl Ffo50_0 S rfl) fun a S => ?_
       refine m_loadsf _ rfl rfl (wn rfl) rfl rfl S rfl Fsca3 rfl (by first | assumption | omega | (simp only [List.length_set]; omega)) rfl fun a S => ?_
       refine m_w rfl rfl (wn rfl) rfl rfl S (fun w H => y_faddrb rfl Ffo29_0 S rfl) fun a S => ?_
       refine m_w rfl rfl (wn rfl) rfl rfl S (fun w H => y_load rfl Fsca24 S H rfl rfl) fun a S => ?_
       refine m_w rfl rfl (wn rfl) rfl rfl S (fun w H => y_move rfl S rfl) fun a S => ?_
       refine m_w rfl rfl (wn rfl) rfl rfl S (fun w H => y_iaddrn rfl Try.underlying24 Fsiz50 S H rfl rfl (by first | assumption | omega | (simp only [List.length_set]; omega))) fun a S => ?_
       refine m_w rfl rfl (wn rfl) rfl rfl S (fun w H => y_faddr rfl Ffo50_1 S rfl) fun a S => ?_
       refine m_loadsf _ rfl rfl (wn rfl) rfl rfl S rfl Fsca3 rfl (by first | assumption | omega | (simp only [List.length_set]; omega)) rfl fun a S => ?_
       refine m_w rfl rfl (wn rfl) rfl rfl S (fun w H => y_buildf rfl Fbld50 S rfl (idx := [0, 1]) rfl (cs := [_, _, _]) rfl) fun a S => ?_
       refine m_w rfl rfl (wn rfl) rfl rfl S (fun w H => y_iaddrn rfl Try.underlying24 Fsiz50 S H rfl rfl (by first | assumption | omega | (simp only [List.length_set]; omega))) fun a S => ?_
       refine m_l rfl rfl (fun w H => op_storeS (i := nk) (j := 0) (sz := 3) (vs := [.int .i64 msA[nk].serial, .int .i64 msA[ni].to_, .slice none 0 0]) _ (Mv.mk msA[nk].serial msA[ni].to_ (.slice none 0 0, [])) (wn rfl) rfl rfl S H rfl (addr_zero _) rfl rfl (by intro c hc; rcases List.mem_cons.1 hc with rfl | hc; rfl; rcases List.mem_cons.1 hc with rfl | hc; rfl; rw [List.mem_singleton.1 hc]; exact rfl) Fsiz50 (by first | omega | (simp only [List.length_set]; omega)) (by simp) (by simp [Mv.enc]) fun a w S H => m_tail H rfl ?_)
       refine m_nil (fun w H => ?_)
       refine n_then ?_
       refine g_seq ?_
       refine g_region ?_
       refine gy rfl rfl rfl S (y_move rfl S rfl) fun a S => ?_
       refine gy rfl rfl rfl S (y_move rfl S rfl) fun a S => ?_
       refine gy rfl rfl rfl S (y_move rfl S rfl) fun a S => ?_
       refine gy rfl rfl rfl S (y_move rfl S rfl) fun a S => ?_
       refine gy rfl rfl rfl S (y_faddrb rfl Ffo29_1 S rfl) fun a S => ?_
       refine gy rfl rfl rfl S (y_loadp (vs := [vlA, vrA]) rfl S H rfl (by exact Fagg27) rfl) fun a S => ?_
       refine gy rfl rfl rfl S (y_buildf rfl Fbld29 S rfl (idx := [0, 1]) rfl (cs := [u138, vlA, vrA]) (by rw [hp138, hslA, hsrA]; rfl)) fun a S => ?_
       refine wl_of (op_call (wn rfl) rfl rfl S (co_func rfl Try.call17 S rfl) (check_any v1 v2 old next v3 ts _ (H.sl v1) (H.sl v2) (H.sl v3) hok (by omega) u138 vlA vrA (msA.set nk (Mv.mk msA[nk].serial msA[ni].to_ (.slice none 0 0, []))) (clP old next ts) (crP old next ts) (H.sl u138) (fun p hp => (mem_rows_set hp).elim ((show ∀ p ∈ rowsOf msA, IsSl _ p.1 1 encI p.2 from H.rws 3 (rowsOf msA)) p) (fun h => h ▸ IsSl.nil _ 1 encI)) (H.sl vlA) (H.sl vrA) (H.cap vlA) (by omega) (by omega)) fun v w hc a S => ?_)
       obtain ⟨rfl, he⟩ := hc
       have H := H.ext he
       refine gl_nil ?_
       refine n_then ?_
       refine c_if S rfl (fun h11 => ?_) (fun h11 => ?_)
       ·have h11p := h11; try simp only [DL] at h11p
        all_goals (
          exfalso
          have hx8 := h11
          have e1 : (msA.set nk (Mv.mk msA[nk].serial msA[ni].to_ (.slice none 0 0, [])))[ni]'(by simp; omega) = msA[ni] := by rw [List.getElem_set, if_neg (Ne.symm hne7)]
          have e2 : (msA.set nk (Mv.mk msA[nk].serial msA[ni].to_ (.slice none 0 0, [])))[nk]'(by simp; omega) = (Mv.mk msA[nk].serial msA[ni].to_ (.slice none 0 0, [])) := by rw [List.getElem_set_self]
          rw [hM.twice (i := ni) (k := nk) (by simp; omega) (by simp; omega) hne7 (by rw [e1]; exact h07) (by rw [e1, e2])] at hx8
          cases hx8)
       ·have h11p := h11; try simp only [DL] at h11p
        refine g_skip ?_
        refine n_then ?_
        exact ⟨(((((((((S.nil.cons S 17 rfl).cons S 16 rfl).cons S 15 rfl).cons S 14 rfl).cons S 12 rfl).cons S 11 rfl).cons S 2 rfl).cons S 1 rfl).cons S 0 rfl), H.take [RowsA 3 1 encI (rowsOf msA), Cel b12 29 [mvA, vlA, vrA], OSl 50 mvA 3 Mv.enc msA, OSl 3 vlA 1 encI (clP old next ts), OSl 3 vrA 1 encI (crP old next ts), OSl 47 u40 11 Ow.enc (movedL ts), Sl v3 11 Ow.enc ts, Sl v2 9 Pl.enc next, Sl v1 9 Pl.enc old]⟩
      ·have h10p := h10; try simp only [DL] at h10p
       refine g_skip ?_
       refine n_then ?_
       exact ⟨(((((((((S.nil.cons S 17 rfl).cons S 16 rfl).cons S 15 rfl).cons S 14 rfl).cons S 12 rfl).cons S 11 rfl).cons S 2 rfl).cons S 1 rfl).cons S 0 rfl), H.take [RowsA 3 1 encI (rowsOf msA), Cel b12 29 [mvA, vlA, vrA], OSl 50 mvA 3 Mv.enc msA, OSl 3 vlA 1 encI (clP old next ts), OSl 3 vrA 1 encI (crP old next ts), OSl 47 u40 11 Ow.enc (movedL ts), Sl v3 11 Ow.enc ts, Sl v2 9 Pl.enc next, Sl v1 9 Pl.enc old]⟩
     rintro a w ⟨S, H⟩
     refine g_seq ?_
     refine g_seq ?_
     refine g_region ?_
     refine gy rfl rfl rfl S (y_faddrb rfl Ffo29_0 S rfl) fun a S => ?_
     refine gy rfl rfl rfl S (y_load rfl Fsca24 S H rfl rfl) fun a S => ?_
     refine gy rfl rfl rfl S (y_move rfl S rfl) fun a S => ?_
     refine gy rfl rfl rfl S (y_iaddrn rfl Try.underlying24 Fsiz50 S H rfl rfl (by first | assumption | omega | (simp only [List.length_set]; omega))) fun a S => ?_
     refine gy rfl rfl rfl S (y_faddr rfl Ffo50_1 S rfl) fun a S => ?_
     refine gy rfl rfl rfl S (y_loadsf _ rfl Fsca3 S H rfl (by first | assumption | omega | (simp only [List.length_set]; omega)) rfl) fun a S => ?_
     refine gy rfl rfl rfl S (y_bin rfl S rfl rfl rfl) fun a S => ?_
     refine gl_nil ?_
     refine n_then ?_
     have S := ((((((((S.nil.cons S 16 rfl).cons S 15 rfl).cons S 14 rfl).cons S 12 rfl).cons S 11 rfl).cons S 2 rfl).cons S 1 rfl).cons S 0 rfl).cons S 169 rfl
     refine c_if S rfl (fun h12 => ?_) (fun h12 => ?_)
     ·have h12p := h12; try simp only [DL] at h12p
      refine g_seq ?_
      refine g_region ?_
      refine gy rfl rfl rfl S (y_move rfl S rfl) fun a S => ?_
      refine gy rfl rfl rfl S (y_assign rfl S rfl) fun a S => ?_
      refine gl_nil ?_
      refine n_then ?_
      refine g_ret ?_
      refine r_then (ret1 rfl S rfl ?_)
      exact ⟨rfl, H.toExt⟩
     ·have h12p := h12; try simp only [DL] at h12p
      have h09 : 0 ≤ msA[ni].to_ := by have := h12p; omega
      refine g_skip ?_
      refine n_then ?_
      refine g_seq ?_
      refine g_region ?_
      refine wl_of (op_buildSlice (wn rfl) rfl rfl rfl Try.underlying24 Finf50 S H (idx := []) rfl rfl rfl (z := []) (by kernel_rfl) (cs := []) rfl fun b171 a w S H => ?_)
      have H := H.celO [] Mv.enc 3 (m := 0) rfl (by simp) rfl (by omega)
      refine gy rfl rfl rfl S (y_faddrb rfl Ffo29_0 S rfl) fun a S => ?_
      refine gy rfl rfl rfl S (y_load rfl Fsca24 S H rfl rfl) fun a S => ?_
      refine wl_of (op_appendT (wn rfl) rfl rfl rfl Try.underlying24 Finf50 rfl rfl S H rfl rfl (by simp (config := { failIfUnchanged := false }) only []; exact honeA) (by simp; omega) (by simp; omega) fun u174 a w S H => ?_)
      try rw [List.nil_append] at H
      refine gy rfl rfl rfl S (y_assign rfl S rfl) fun a S => ?_
      refine gl_nil ?_
      refine n_then ?_
      have S := ((((((((S.nil.cons S 16 rfl).cons S 15 rfl).cons S 14 rfl).cons S 12 rfl).cons S 11 rfl).cons S 2 rfl).cons S 1 rfl).cons S 0 rfl).cons S 21 rfl
      refine g_seq ?_
      refine g_region ?_
      refine gy rfl rfl rfl S (y_assign rfl S rfl) fun a S => ?_
      refine gl_nil ?_
      refine n_then ?_
      refine g_seq ?_
      refine g_seq ?_
      refine g_region ?_
      refine gy rfl rfl rfl S (y_assign rfl S rfl) fun a S => ?_
      refine gl_nil ?_
      refine n_then ?_
      refine g_block ?_
      obtain ⟨p174, c174, hp174⟩ := (H.sl u174).shape
      have H := H.nilO 3 1 encI
      have SU := ((((((((S.nil.cons S 16 rfl).cons S 15 rfl).cons S 14 rfl).cons S 12 rfl).cons S 11 rfl).cons S 2 rfl).cons S 1 rfl).cons S 0 rfl).cons S 21 rfl
      refine loopW (X := Nat × Value) SU (fun x => [(22, x.2), (23, .int .i64 (x.1 : Int))]) (fun x w => x.1 ≤ msA.length ∧ HSat No w0 [OSl 3 x.2 1 encI (takeW (tosS (msA.map Mv.say)) ni x.1), OSl 50 u174 3 Mv.enc msA, RowsA 3 1 encI (rowsOf msA), Cel b12 29 [mvA, vlA, vrA], OSl 50 mvA 3 Mv.enc msA, OSl 3 vlA 1 encI (clP old next ts), OSl 3 vrA 1 encI (crP old next ts), OSl 47 u40 11 Ow.enc (movedL ts), Sl v3 11 Ow.enc ts, Sl v2 9 Pl.enc next, Sl v1 9 Pl.enc old] w) (fun x => msA.length - x.1) (0, .slice none 0 0) ((S.nil.cons S 23 rfl).cons S 22 rfl) (⟨by simp, H.take [OSl 3 (.slice none 0 0) 1 encI ([]), OSl 50 u174 3 Mv.enc msA, RowsA 3 1 encI (rowsOf msA), Cel b12 29 [mvA, vlA, vrA], OSl 50 mvA 3 Mv.enc msA, OSl 3 vlA 1 encI (clP old next ts), OSl 3 vrA 1 encI (crP old next ts), OSl 47 u40 11 Ow.enc (movedL ts), Sl v3 11 Ow.enc ts, Sl v2 9 Pl.enc next, Sl v1 9 Pl.enc old]⟩) (fun x a w S hW => ?_)
      simp only [List.cons_append, List.nil_append] at S
      clear H
      obtain ⟨k, vt⟩ := x
      obtain ⟨hk, H⟩ := hW
      dsimp only at S H hk
      refine g_seq ?_
      refine g_seq ?_
      refine g_region ?_
      refine gy rfl rfl rfl S (y_move rfl S rfl) fun a S => ?_
      refine gy rfl rfl rfl S (y_move rfl S rfl) fun a S => ?_
      refine gy rfl rfl rfl S (y_bin rfl S rfl rfl rfl) fun a S => ?_
      refine gl_nil ?_
      refine n_then ?_
      refine c_if S rfl (fun h13 => ?_) (fun h13 => ?_)
      ·have h13p := h13; try simp only [DL] at h13p
       have hkl : k < msA.length := by omega
       have hta := tos_at hkl
       have htl := takeW_len (tosS (msA.map Mv.say)) ni k
       refine g_skip ?_
       refine n_then ?_
       refine g_seq ?_
       refine g_block ?_
       refine g_seq ?_
       refine g_region ?_
       refine gy rfl rfl rfl S (y_move rfl S rfl) fun a S => ?_
       refine gy rfl rfl rfl S (y_move rfl S rfl) fun a S => ?_
       refine gy rfl rfl rfl S (y_bin rfl S rfl rfl rfl) fun a S => ?_
       refine gl_nil ?_
       refine n_then ?_
       refine c_if S rfl (fun h14 => ?_) (fun h14 => ?_)
       ·have h14p := h14; try simp only [DL] at h14p
        have hts : takeW (tosS (msA.map Mv.say)) ni (k + 1) = takeW (tosS (msA.map Mv.say)) ni k ++ [msA[k].to_] := by rw [takeW, if_neg (by have := h14p; omega), hta]
        refine g_region ?_
        refine gy rfl rfl rfl S (y_move rfl S rfl) fun a S => ?_
        refine gy rfl rfl rfl S (y_faddrb rfl Ffo29_0 S rfl) fun a S => ?_
        refine gy rfl rfl rfl S (y_load rfl Fsca24 S H rfl rfl) fun a S => ?_
        refine gy rfl rfl rfl S (y_move rfl S rfl) fun a S => ?_
        refine gy rfl rfl rfl S (y_iaddrn rfl Try.underlying24 Fsiz50 S H rfl rfl (by first | assumption | omega | (simp only [List.length_set]; omega))) fun a S => ?_
        refine gy rfl rfl rfl S (y_faddr rfl Ffo50_1 S rfl) fun a S => ?_
        refine gy rfl rfl rfl S (y_loadsf _ rfl Fsca3 S H rfl (by first | assumption | omega | (simp only [List.length_set]; omega)) rfl) fun a S => ?_
        refine wl_of (op_buildSlice (wn rfl) rfl rfl rfl Try.underlying25 Finf3 S H (idx := [0]) rfl rfl rfl (z := [.int .i64 0]) (by kernel_rfl) (cs := [_]) rfl fun b190 a w S H => ?_)
        refine wl_of (op_append ([msA[k].to_]) (wn rfl) rfl rfl rfl Try.underlying25 Finf3 rfl rfl S H rfl rfl rfl rfl (by simp) (by simp [encI]) (by simp [encI, Value.oneCell']) (by simp only [List.length_cons, List.length_nil]; omega) (by simp only [List.length_cons, List.length_nil]; omega) fun u191 a w hn191 S H => ?_)
        refine gy rfl rfl rfl S (y_assign rfl S rfl) fun a S => ?_
        refine gl_nil ?_
        refine n_block ?_
        refine n_then ?_
        refine g_region ?_
        refine gy rfl rfl rfl S (y_move rfl S rfl) fun a S => ?_
        refine gy rfl rfl rfl S (y_add rfl S rfl rfl (by omega)) fun a S => ?_
        refine gy rfl rfl rfl S (y_assign rfl S rfl) fun a S => ?_
        refine gl_nil ?_
        refine n_then ?_
        first
        | exact ⟨(k + 1, u191), (S.nil.cons S 23 rfl).cons S 22 rfl, ((((((((S.nil.cons S 16 rfl).cons S 15 rfl).cons S 14 rfl).cons S 12 rfl).cons S 11 rfl).cons S 2 rfl).cons S 1 rfl).cons S 0 rfl).cons S 21 rfl, ⟨by dsimp only; omega, by dsimp only; rw [hts]; exact H.take [OSl 3 u191 1 encI (takeW (tosS (msA.map Mv.say)) ni k ++ [msA[k].to_]), OSl 50 u174 3 Mv.enc msA, RowsA 3 1 encI (rowsOf msA), Cel b12 29 [mvA, vlA, vrA], OSl 50 mvA 3 Mv.enc msA, OSl 3 vlA 1 encI (clP old next ts), OSl 3 vrA 1 encI (crP old next ts), OSl 47 u40 11 Ow.enc (movedL ts), Sl v3 11 Ow.enc ts, Sl v2 9 Pl.enc next, Sl v1 9 Pl.enc old]⟩, by dsimp only; omega⟩
        | exact ⟨(k + 1, vt), (S.nil.cons S 23 rfl).cons S 22 rfl, ((((((((S.nil.cons S 16 rfl).cons S 15 rfl).cons S 14 rfl).cons S 12 rfl).cons S 11 rfl).cons S 2 rfl).cons S 1 rfl).cons S 0 rfl).cons S 21 rfl, ⟨by dsimp only; omega, by dsimp only; rw [hts]; exact H.take [OSl 3 vt 1 encI (takeW (tosS (msA.map Mv.say)) ni k), OSl 50 u174 3 Mv.enc msA, RowsA 3 1 encI (rowsOf msA), Cel b12 29 [mvA, vlA, vrA], OSl 50 mvA 3 Mv.enc msA, OSl 3 vlA 1 encI (clP old next ts), OSl 3 vrA 1 encI (crP old next ts), OSl 47 u40 11 Ow.enc (movedL ts), Sl v3 11 Ow.enc ts, Sl v2 9 Pl.enc next, Sl v1 9 Pl.enc old]⟩, by dsimp only; omega⟩
       ·have h14p := h14; try simp only [DL] at h14p
        have hts : takeW (tosS (msA.map Mv.say)) ni (k + 1) = takeW (tosS (msA.map Mv.say)) ni k := by rw [takeW, if_pos (by have := h14p; omega), List.append_nil]
        refine g_skip ?_
        refine n_block ?_
        refine n_then ?_
        refine g_region ?_
        refine gy rfl rfl rfl S (y_move rfl S rfl) fun a S => ?_
        refine gy rfl rfl rfl S (y_add rfl S rfl rfl (by omega)) fun a S => ?_
        refine gy rfl rfl rfl S (y_assign rfl S rfl) fun a S => ?_
        refine gl_nil ?_
        refine n_then ?_
        first
        | exact ⟨(k + 1, u191), (S.nil.cons S 23 rfl).cons S 22 rfl, ((((((((S.nil.cons S 16 rfl).cons S 15 rfl).cons S 14 rfl).cons S 12 rfl).cons S 11 rfl).cons S 2 rfl).cons S 1 rfl).cons S 0 rfl).cons S 21 rfl, ⟨by dsimp only; omega, by dsimp only; rw [hts]; exact H.take [OSl 3 u191 1 encI (takeW (tosS (msA.map Mv.say)) ni k ++ [msA[k].to_]), OSl 50 u174 3 Mv.enc msA, RowsA 3 1 encI (rowsOf msA), Cel b12 29 [mvA, vlA, vrA], OSl 50 mvA 3 Mv.enc msA, OSl 3 vlA 1 encI (clP old next ts), OSl 3 vrA 1 encI (crP old next ts), OSl 47 u40 11 Ow.enc (movedL ts), Sl v3 11 Ow.enc ts, Sl v2 9 Pl.enc next, Sl v1 9 Pl.enc old]⟩, by dsimp only; omega⟩
        | exact ⟨(k + 1, vt), (S.nil.cons S 23 rfl).cons S 22 rfl, ((((((((S.nil.cons S 16 rfl).cons S 15 rfl).cons S 14 rfl).cons S 12 rfl).cons S 11 rfl).cons S 2 rfl).cons S 1 rfl).cons S 0 rfl).cons S 21 rfl, ⟨by dsimp only; omega, by dsimp only; rw [hts]; exact H.take [OSl 3 vt 1 encI (takeW (tosS (msA.map Mv.say)) ni k), OSl 50 u174 3 Mv.enc msA, RowsA 3 1 encI (rowsOf msA), Cel b12 29 [mvA, vlA, vrA], OSl 50 mvA 3 Mv.enc msA, OSl 3 vlA 1 encI (clP old next ts), OSl 3 vrA 1 encI (crP old next ts), OSl 47 u40 11 Ow.enc (movedL ts), Sl v3 11 Ow.enc ts, Sl v2 9 Pl.enc next, Sl v1 9 Pl.enc old]⟩, by dsimp only; omega⟩
      ·have h13p := h13; try simp only [DL] at h13p
       obtain rfl : k = msA.length := by omega
       refine g_exit ?_
       refine x_then (x_then (x_eq ?_))
       refine n_then ?_
       have S := (((((((((S.nil.cons S 16 rfl).cons S 15 rfl).cons S 14 rfl).cons S 12 rfl).cons S 11 rfl).cons S 2 rfl).cons S 1 rfl).cons S 0 rfl).cons S 21 rfl).cons S 22 rfl
       refine g_seq ?_
       refine g_seq ?_
       refine g_region ?_
       refine gy rfl rfl rfl S (y_assign rfl S rfl) fun a S => ?_
       refine gl_nil ?_
       refine n_then ?_
       refine g_block ?_
       have H := rowsRead (H.front (RowsA 3 1 encI (rowsOf msA)))
       have htl := takeW_len (tosS (msA.map Mv.say)) ni msA.length
       have SU := (((((((((S.nil.cons S 16 rfl).cons S 15 rfl).cons S 14 rfl).cons S 12 rfl).cons S 11 rfl).cons S 2 rfl).cons S 1 rfl).cons S 0 rfl).cons S 21 rfl).cons S 22 rfl
       refine loopW (X := Nat) SU (fun k => [(24, .int .i64 (k : Int))]) (fun k w => k ≤ msA.length ∧ ∃ ms2 : List Mv, ms2.length = msA.length ∧ (∀ j, atI (tosS (ms2.map Mv.say)) j = if j = ni ∧ j < k then -1 else atI (tosS (msA.map Mv.say)) j) ∧ HSat No w0 [OSl 50 u174 3 Mv.enc (ms2), RowsS 1 encI (rowsOf (ms2)), OSl 3 vt 1 encI (takeW (tosS (msA.map Mv.say)) ni msA.length), Cel b12 29 [mvA, vlA, vrA], OSl 50 mvA 3 Mv.enc msA, OSl 3 vlA 1 encI (clP old next ts), OSl 3 vrA 1 encI (crP old next ts), OSl 47 u40 11 Ow.enc (movedL ts), Sl v3 11 Ow.enc ts, Sl v2 9 Pl.enc next, Sl v1 9 Pl.enc old] w) (fun k => msA.length - k) 0 (S.nil.cons S 24 rfl) (⟨by omega, msA, rfl, fun j => by rw [if_neg (by omega)], H.take [OSl 50 u174 3 Mv.enc (msA), RowsS 1 encI (rowsOf (msA)), OSl 3 vt 1 encI (takeW (tosS (msA.map Mv.say)) ni msA.length), Cel b12 29 [mvA, vlA, vrA], OSl 50 mvA 3 Mv.enc msA, OSl 3 vlA 1 encI (clP old next ts), OSl 3 vrA 1 encI (crP old next ts), OSl 47 u40 11 Ow.enc (movedL ts), Sl v3 11 Ow.enc ts, Sl v2 9 Pl.enc next, Sl v1 9 Pl.enc old]⟩) (fun k a w S hW => ?_)
       simp only [List.cons_append, List.nil_append] at S
       clear H
       obtain ⟨hk, ms2, hl2, ht2, H⟩ := hW
       refine g_seq ?_
       refine g_seq ?_
       refine g_region ?_
       refine gy rfl rfl rfl S (y_move rfl S rfl) fun a S => ?_
       refine gy rfl rfl rfl S (y_move rfl S rfl) fun a S => ?_
       refine gy rfl rfl rfl S (y_bin rfl S rfl rfl rfl) fun a S => ?_
       refine gl_nil ?_
       refine n_then ?_
       refine c_if S rfl (fun h15 => ?_) (fun h15 => ?_)
       ·have h15p := h15; try simp only [DL] at h15p
        have hkl : k < msA.length := by omega
        have hkt : k < (movedL ts).length := by omega
        obtain ⟨x, hx⟩ : ∃ x : Nat, (movedL ts)[k].place = x := ⟨(movedL ts)[k].place.toNat, by have := hM.place hkt; omega⟩
        have hxn : x < old.length := by have := hM.place hkt; omega
        refine g_skip ?_
        refine n_then ?_
        refine g_seq ?_
        refine g_block ?_
        refine g_seq ?_
        refine g_region ?_
        refine gy rfl rfl rfl S (y_move rfl S rfl) fun a S => ?_
        refine gy rfl rfl rfl S (y_move rfl S rfl) fun a S => ?_
        refine gy rfl rfl rfl S (y_bin rfl S rfl rfl rfl) fun a S => ?_
        refine gy rfl rfl rfl S (y_move rfl S rfl) fun a S => ?_
        refine' wl_or 7 200 rfl S H rfl rfl rfl rfl rfl rfl rfl (fun _ S => (wn rfl)) (fun h16 kk => ?yh16) (fun a w S H => ?_)
        case yh16 =>
         have h16p := h16; try simp only [DL] at h16p
         refine gz 200 h16 S rfl rfl rfl rfl rfl rfl (y_faddrb rfl Ffo29_0 S rfl) fun a S => ?_
         refine gz 200 h16 S rfl rfl rfl rfl rfl rfl (y_load rfl Fsca24 S H rfl rfl) fun a S => ?_
         refine gz 200 h16 S rfl rfl rfl rfl rfl rfl (y_move rfl S rfl) fun a S => ?_
         refine gz 200 h16 S rfl rfl rfl rfl rfl rfl (y_iaddrn rfl Try.underlying24 Fsiz50 S H rfl rfl (by first | assumption | omega | (simp only [List.length_set]; omega))) fun a S => ?_
         refine gz 200 h16 S rfl rfl rfl rfl rfl rfl (y_faddr rfl Ffo50_1 S rfl) fun a S => ?_
         refine gz 200 h16 S rfl rfl rfl rfl rfl rfl (y_loadsf _ rfl Fsca3 S H rfl (by first | assumption | omega | (simp only [List.length_set]; omega)) rfl) fun a S => ?_
         refine gz 200 h16 S rfl rfl rfl rfl rfl rfl (y_bin rfl S rfl rfl rfl) fun a S => ?_
         refine gy rfl rfl rfl S (y_or' rfl h16 S rfl rfl) fun a S => ?_
         exact kk _ _ (S.join 8 208 rfl rfl) H
        refine gl_nil ?_
        refine n_then ?_
        refine c_if S rfl (fun h17 => ?_) (fun h17 => ?_)
        ·have h17p := h17; try simp only [DL] at h17p
         have hc13 : k = ni ∨ msA[k].to_ < 0 := by have hx13 := h17; simp only [Bool.or_eq_true, beq_iff_eq, decide_eq_true_eq] at hx13; omega
         refine region_st (loud := [19, 22]) (tails := [22]) (free := []) [0, 1, 2, 3, 4, 5, 6, 7, 8, 9, 10, 11, 12, 13, 14, 15, 16, 17, 18, 19, 20, 21, 22] [] Fmo (by kernel_rfl) (by kernel_rfl) rfl H ?_
         refine m_w rfl rfl (wn rfl) rfl rfl S (fun w H => y_move rfl S rfl) fun a S => ?_
         refine m_w rfl rfl (wn rfl) rfl rfl S (fun w H => y_move rfl S rfl) fun a S => ?_
         refine m_w rfl rfl (wn rfl) rfl rfl S (fun w H => y_faddrb rfl Ffo29_0 S rfl) fun a S => ?_
         refine m_w rfl rfl (wn rfl) rfl rfl S (fun w H => y_load rfl Fsca24 S H rfl rfl) fun a S => ?_
         refine m_w rfl rfl (wn rfl) rfl rfl S (fun w H => y_move rfl S rfl) fun a S => ?_
         refine m_w rfl rfl (wn rfl) rfl rfl S (fun w H => y_iaddrn rfl Try.underlying24 Fsiz50 S H rfl rfl (by first | assumption | omega | (simp only [List.length_set]; omega))) fun a S => ?_
         refine m_w rfl rfl (wn rfl) rfl rfl S (fun w H => y_faddr rfl Ffo50_0 S rfl) fun a S => ?_
         refine m_loadsf _ rfl rfl (wn rfl) rfl rfl S rfl Fsca3 rfl (by first | assumption | omega | (simp only [List.length_set]; omega)) rfl fun a S => ?_
         refine m_w rfl rfl (wn rfl) rfl rfl S (fun w H => y_move rfl S rfl) fun a S => ?_
         refine m_w rfl rfl (wn rfl) rfl rfl S (fun w H => y_move rfl S rfl) fun a S => ?_
         refine m_w rfl rfl (wn rfl) rfl rfl S (fun w H => y_move rfl S rfl) fun a S => ?_
         refine m_w rfl rfl (wn rfl) rfl rfl S (fun w H => y_iaddrn rfl Try.underlying23 Fsiz47 S H rfl rfl (by first | assumption | omega | (simp only [List.length_set]; omega))) fun a S => ?_
         refine m_w rfl rfl (wn rfl) rfl rfl S (fun w H => y_faddr rfl Ffo47_0 S rfl) fun a S => ?_
         refine m_w rfl rfl (wn rfl) rfl rfl S (fun w H => y_faddr rfl Ffo41_2 S rfl) fun a S => ?_
         refine m_loadsff _ rfl rfl (wn rfl) rfl rfl S rfl Fsca3 rfl (by first | assumption | omega | (simp only [List.length_set]; omega)) rfl fun a S => ?_
         rw [hx] at S
         refine m_w rfl rfl (wn rfl) rfl rfl S (fun w H => y_iaddrn rfl Try.underlying22 Fsiz56 S H rfl rfl (by first | assumption | omega | (simp only [List.length_set]; omega))) fun a S => ?_
         refine m_loadsa _ rfl rfl (wn rfl) rfl rfl S rfl rfl (by exact Fagg56) (by first | assumption | omega | (simp only [List.length_set]; omega)) fun a S => ?_
         refine m_w rfl rfl (wn rfl) rfl rfl S (fun w H => y_move rfl S rfl) fun a S => ?_
         refine m_w rfl rfl (wn rfl) rfl rfl S (fun w H => y_move rfl S rfl) fun a S => ?_
         refine m_l rfl rfl (fun w H => op_call (wn rfl) rfl rfl S (co_func rfl Try.call24 S rfl) (roffers_spec old[x] v2 vt next (takeW (tosS (msA.map Mv.say)) ni msA.length) _ (H.sl v2) (H.sl vt) (by omega)) fun u228 w hc a S => ?_)
         have H1 := hc
         obtain ⟨orow, hor⟩ : ∃ o, o = offL old[x].kind next (takeW (tosS (msA.map Mv.say)) ni msA.length) := ⟨_, rfl⟩
         rw [← hor] at H1
         have H := H.call1 H1 rfl
         obtain ⟨pu, cu, hpu⟩ := (H.sl u228).shape
         have hu1 := H.sl1 u228
         refine m_next H (by repeat (first | exact List.Sublist.refl _ | apply List.Sublist.cons)) ?_
         refine m_w rfl rfl (wn rfl) rfl rfl S (fun w H => y_buildf rfl Fbld50 S rfl (idx := [0, 1, 2]) (vs := [.int .i64 msA[k].serial, .int .i64 (-1), u228]) rfl (cs := [.int .i64 msA[k].serial, .int .i64 (-1), u228]) (by rw [hpu]; rfl)) fun a S => ?_
         refine m_w rfl rfl (wn rfl) rfl rfl S (fun w H => y_iaddrn rfl Try.underlying24 Fsiz50 S H rfl rfl (by first | assumption | omega | (simp only [List.length_set]; omega))) fun a S => ?_
         refine m_l rfl rfl (fun w H => op_storeS (i := k) (j := 0) (sz := 3) (vs := [.int .i64 msA[k].serial, .int .i64 (-1), u228]) _ ((Mv.mk msA[k].serial (-1) (u228, orow))) (wn rfl) rfl rfl S H rfl (addr_zero _) rfl rfl (by intro c hc; rcases List.mem_cons.1 hc with rfl | hc; rfl; rcases List.mem_cons.1 hc with rfl | hc; rfl; rw [List.mem_singleton.1 hc]; exact hu1) Fsiz50 (by first | omega | (simp only [List.length_set]; omega)) (by simp) (by simp [Mv.enc]) fun a w S H => m_tail H rfl ?_)
         refine m_nil (fun w H => ?_)
         refine n_block ?_
         refine n_then ?_
         refine g_region ?_
         refine gy rfl rfl rfl S (y_move rfl S rfl) fun a S => ?_
         refine gy rfl rfl rfl S (y_add rfl S rfl rfl (by omega)) fun a S => ?_
         refine gy rfl rfl rfl S (y_assign rfl S rfl) fun a S => ?_
         refine gl_nil ?_
         refine n_then ?_
         first
         | exact ⟨k + 1, S.nil.cons S 24 rfl, (((((((((S.nil.cons S 16 rfl).cons S 15 rfl).cons S 14 rfl).cons S 12 rfl).cons S 11 rfl).cons S 2 rfl).cons S 1 rfl).cons S 0 rfl).cons S 21 rfl).cons S 22 rfl, ⟨by omega, ms2.set k (Mv.mk msA[k].serial (-1) (u228, orow)), by rw [List.length_set]; exact hl2, hM.left_step hkl hl2 rfl hc13 ht2, (rowsMore (H.front2 (OSl 3 u228 1 encI orow) (RowsS 1 encI (rowsOf ms2))) (qs := rowsOf (ms2.set k (Mv.mk msA[k].serial (-1) (u228, orow)))) (fun q hq => mem_rows_set (m := (Mv.mk msA[k].serial (-1) (u228, orow))) hq)).take [OSl 50 u174 3 Mv.enc (ms2.set k (Mv.mk msA[k].serial (-1) (u228, orow))), RowsS 1 encI (rowsOf (ms2.set k (Mv.mk msA[k].serial (-1) (u228, orow)))), OSl 3 vt 1 encI (takeW (tosS (msA.map Mv.say)) ni msA.length), Cel b12 29 [mvA, vlA, vrA], OSl 50 mvA 3 Mv.enc msA, OSl 3 vlA 1 encI (clP old next ts), OSl 3 vrA 1 encI (crP old next ts), OSl 47 u40 11 Ow.enc (movedL ts), Sl v3 11 Ow.enc ts, Sl v2 9 Pl.enc next, Sl v1 9 Pl.enc old]⟩, by omega⟩
         | exact ⟨k + 1, S.nil.cons S 24 rfl, (((((((((S.nil.cons S 16 rfl).cons S 15 rfl).cons S 14 rfl).cons S 12 rfl).cons S 11 rfl).cons S 2 rfl).cons S 1 rfl).cons S 0 rfl).cons S 21 rfl).cons S 22 rfl, ⟨by omega, ms2, hl2, left_skip hc13 ht2, H.take [OSl 50 u174 3 Mv.enc (ms2), RowsS 1 encI (rowsOf (ms2)), OSl 3 vt 1 encI (takeW (tosS (msA.map Mv.say)) ni msA.length), Cel b12 29 [mvA, vlA, vrA], OSl 50 mvA 3 Mv.enc msA, OSl 3 vlA 1 encI (clP old next ts), OSl 3 vrA 1 encI (crP old next ts), OSl 47 u40 11 Ow.enc (movedL ts), Sl v3 11 Ow.enc ts, Sl v2 9 Pl.enc next, Sl v1 9 Pl.enc old]⟩, by omega⟩
        ·have h17p := h17; try simp only [DL] at h17p
         have hc13 : k ≠ ni := by have hx13 := h17; simp only [Bool.or_eq_false_iff, beq_eq_false_iff_ne, ne_eq] at hx13; omega
         refine g_skip ?_
         refine n_block ?_
         refine n_then ?_
         refine g_region ?_
         refine gy rfl rfl rfl S (y_move rfl S rfl) fun a S => ?_
         refine gy rfl rfl rfl S (y_add rfl S rfl rfl (by omega)) fun a S => ?_
         refine gy rfl rfl rfl S (y_assign rfl S rfl) fun a S => ?_
         refine gl_nil ?_
         refine n_then ?_
         first
         | exact ⟨k + 1, S.nil.cons S 24 rfl, (((((((((S.nil.cons S 16 rfl).cons S 15 rfl).cons S 14 rfl).cons S 12 rfl).cons S 11 rfl).cons S 2 rfl).cons S 1 rfl).cons S 0 rfl).cons S 21 rfl).cons S 22 rfl, ⟨by omega, ms2.set k (Mv.mk msA[k].serial (-1) (u228, orow)), by rw [List.length_set]; exact hl2, hM.left_step hkl hl2 rfl hc13 ht2, (rowsMore (H.front2 (OSl 3 u228 1 encI orow) (RowsS 1 encI (rowsOf ms2))) (qs := rowsOf (ms2.set k (Mv.mk msA[k].serial (-1) (u228, orow)))) (fun q hq => mem_rows_set (m := (Mv.mk msA[k].serial (-1) (u228, orow))) hq)).take [OSl 50 u174 3 Mv.enc (ms2.set k (Mv.mk msA[k].serial (-1) (u228, orow))), RowsS 1 encI (rowsOf (ms2.set k (Mv.mk msA[k].serial (-1) (u228, orow)))), OSl 3 vt 1 encI (takeW (tosS (msA.map Mv.say)) ni msA.length), Cel b12 29 [mvA, vlA, vrA], OSl 50 mvA 3 Mv.enc msA, OSl 3 vlA 1 encI (clP old next ts), OSl 3 vrA 1 encI (crP old next ts), OSl 47 u40 11 Ow.enc (movedL ts), Sl v3 11 Ow.enc ts, Sl v2 9 Pl.enc next, Sl v1 9 Pl.enc old]⟩, by omega⟩
         | exact ⟨k + 1, S.nil.cons S 24 rfl, (((((((((S.nil.cons S 16 rfl).cons S 15 rfl).cons S 14 rfl).cons S 12 rfl).cons S 11 rfl).cons S 2 rfl).cons S 1 rfl).cons S 0 rfl).cons S 21 rfl).cons S 22 rfl, ⟨by omega, ms2, hl2, left_skip hc13 ht2, H.take [OSl 50 u174 3 Mv.enc (ms2), RowsS 1 encI (rowsOf (ms2)), OSl 3 vt 1 encI (takeW (tosS (msA.map Mv.say)) ni msA.length), Cel b12 29 [mvA, vlA, vrA], OSl 50 mvA 3 Mv.enc msA, OSl 3 vlA 1 encI (clP old next ts), OSl 3 vrA 1 encI (crP old next ts), OSl 47 u40 11 Ow.enc (movedL ts), Sl v3 11 Ow.enc ts, Sl v2 9 Pl.enc next, Sl v1 9 Pl.enc old]⟩, by omega⟩
       ·have h15p := h15; try simp only [DL] at h15p
        obtain rfl : k = msA.length := by omega
        refine g_exit ?_
        refine x_then (x_then (x_eq ?_))
        refine n_then ?_
        have S := (((((((S.nil.cons S 16 rfl).cons S 12 rfl).cons S 11 rfl).cons S 2 rfl).cons S 1 rfl).cons S 0 rfl).cons S 21 rfl).cons S 22 rfl
        refine g_seq ?_
        refine g_region ?_
        refine gy rfl rfl rfl S (y_move rfl S rfl) fun a S => ?_
        refine gy rfl rfl rfl S (y_move rfl S rfl) fun a S => ?_
        refine' wl_and 9 232 rfl S H rfl rfl rfl rfl rfl rfl rfl (fun _ S => (wn rfl)) (fun h18 kk => ?yh18) (fun a w S H => ?_)
        case yh18 =>
         have h18p := h18; try simp only [DL] at h18p
         refine gz 232 h18 S rfl rfl rfl rfl rfl rfl (y_move rfl S rfl) fun a S => ?_
         refine gz 232 h18 S rfl rfl rfl rfl rfl rfl (y_move rfl S rfl) fun a S => ?_
         refine gz 232 h18 S rfl rfl rfl rfl rfl rfl (y_move rfl S rfl) fun a S => ?_
         refine gz 232 h18 S rfl rfl rfl rfl rfl rfl (y_move rfl S rfl) fun a S => ?_
         refine gz 232 h18 S rfl rfl rfl rfl rfl rfl (y_faddrb rfl Ffo29_1 S rfl) fun a S => ?_
         refine gz 232 h18 S rfl rfl rfl rfl rfl rfl (y_loadp (vs := [vlA, vrA]) rfl S H rfl (by exact Fagg27) rfl) fun a S => ?_
         refine gz 232 h18 S rfl rfl rfl rfl rfl rfl (y_buildf rfl Fbld29 S rfl (idx := [0, 1]) rfl (cs := [u174, vlA, vrA]) (by rw [hp174, hslA, hsrA]; rfl)) fun a S => ?_
         refine wl_of (op_call (wg' 232 rfl rfl S rfl h18 rfl) rfl rfl S (co_func rfl Try.call17 S rfl) (check_any v1 v2 old next v3 ts _ (H.sl v1) (H.sl v2) (H.sl v3) hok (by omega) u174 vlA vrA (ms2) (clP old next ts) (crP old next ts) (H.sl u174) (H.rwsS (rowsOf ms2)) (H.sl vlA) (H.sl vrA) (H.cap vlA) (by omega) (by omega)) fun v w hc a S => ?_)
         obtain ⟨rfl, he⟩ := hc
         have H := H.ext he
         refine gz 232 h18 S rfl rfl rfl rfl rfl rfl (y_not rfl S rfl) fun a S => ?_
         refine gy rfl rfl rfl S (y_and' rfl h18 S rfl rfl) fun a S => ?_
         exact kk _ _ (S.join 10 242 rfl rfl) H
        refine gy rfl rfl rfl S (y_move rfl S rfl) fun a S => ?_
        refine' wl_and 9 243 rfl S H rfl rfl rfl rfl rfl rfl rfl (fun _ S => (wn rfl)) (fun h19 kk => ?yh19) (fun a w S H => ?_)
        case yh19 =>
         have h19p := h19; try simp only [DL] at h19p
         refine gz 243 h19 S rfl rfl rfl rfl rfl rfl (y_move rfl S rfl) fun a S => ?_
         refine gz 243 h19 S rfl rfl rfl rfl rfl rfl (y_faddrb rfl Ffo29_0 S rfl) fun a S => ?_
         refine gz 243 h19 S rfl rfl rfl rfl rfl rfl (y_load rfl Fsca24 S H rfl rfl) fun a S => ?_
         refine gz 243 h19 S rfl rfl rfl rfl rfl rfl (y_move rfl S rfl) fun a S => ?_
         refine gz 243 h19 S rfl rfl rfl rfl rfl rfl (y_iaddrn rfl Try.underlying24 Fsiz50 S H rfl rfl (by first | assumption | omega | (simp only [List.length_set]; omega))) fun a S => ?_
         refine gz 243 h19 S rfl rfl rfl rfl rfl rfl (y_faddr rfl Ffo50_1 S rfl) fun a S => ?_
         refine gz 243 h19 S rfl rfl rfl rfl rfl rfl (y_loadsf _ rfl Fsca3 S H rfl (by first | assumption | omega | (simp only [List.length_set]; omega)) rfl) fun a S => ?_
         refine wl_of (op_call (wg' 243 rfl rfl S rfl h19 rfl) rfl rfl S (co_func rfl Try.call25 S rfl) (in_spec vt (takeW (tosS (msA.map Mv.say)) ni msA.length) msA[ni].to_ _ (H.sl vt)) fun v w hc a S => ?_)
         obtain ⟨rfl, he⟩ := hc
         have H := H.ext he
         refine gz 243 h19 S rfl rfl rfl rfl rfl rfl (y_not rfl S rfl) fun a S => ?_
         refine gy rfl rfl rfl S (y_and' rfl h19 S rfl rfl) fun a S => ?_
         exact kk _ _ (S.join 10 253 rfl rfl) H
        refine gy rfl rfl rfl S (y_assign rfl S rfl) fun a S => ?_
        refine gl_nil ?_
        refine n_then ?_
        have S := S.nil.cons S 10 rfl
        refine g_ret ?_
        refine ret1 rfl S rfl ?_
        exact ⟨congrArg Value.bool (by rw [hM.left_out hni hl2 h09 (left_all ht2), decide_eq_false (hM.not_taken hni h09)]; rfl), H.toExt⟩

end Go.Proofs.Ytenaoaegichecaa
