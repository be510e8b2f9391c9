/- The walks. No condition. -/
import Derived.Test.YtenaoaegichecaaChecked
import Derived.Test.YtenaoaegichecaaGwBits
import Derived.Test.YtenaoaegichecaaFacts
import Derived.Test.YtenaoaegichecaaPlain
import Derived.Test.YtenaoaegichecaaPlainX
import Derived.Test.YtenaoaegichecaaW17
namespace Go.Proofs.Ytenaoaegichecaa
open Go Go.Gw
set_option linter.unusedVariables false
set_option linter.unusedSimpArgs false
set_option maxHeartbeats 4000000 in
/-- foyer/foyerlaw41.RebuildCertified -/
theorem law3 (v1 v2 : Value) (old next : List Pl) (v3 : Value) (ts : List Ow) (w0 : World) (hv1 : IsSl w0 v1 9 Pl.enc old) (hv2 : IsSl w0 v2 9 Pl.enc next) (hv3 : IsSl w0 v3 11 Ow.enc ts) (hok : ∀ o ∈ ts, o.ok) :
    Ret Try.prog 5 #[v1, v2, v3] w0 (fun v w => v = .bool true ∧ Ext w0 w) := by
 refine ret_of_wp (nt := 196) Try.func5 rfl rfl rfl (fl := [(0, v1), (1, v2), (2, v3)]) rfl (fun a S => ?_)
 have H := HSat.start w0
 have H := H.ro0 (Sl v1 9 Pl.enc old) rfl (hv1)
 have H := H.ro0 (Sl v2 9 Pl.enc next) rfl (hv2)
 have H := H.ro0 (Sl v3 11 Ow.enc ts) rfl (hv3)
 have hl1 := hv1.len
 have hl2 := hv2.len
 have hl3 := hv3.len
 refine g_seq ?_
 refine g_region ?_
 refine gy rfl rfl rfl S (y_assign rfl S rfl) fun a S => ?_
 refine gl_nil ?_
 refine n_then ?_
 refine g_seq ?_
 refine g_region ?_
 refine wl_of (op_call (wn rfl) rfl rfl S (co_func rfl Try.call11 S rfl) (head_spec _) fun v w hc a S => ?_)
 obtain ⟨rfl, he⟩ := hc
 have H := H.ext he
 refine gy rfl rfl rfl S (y_assign rfl S rfl) fun a S => ?_
 refine gl_nil ?_
 refine n_then ?_
 refine g_seq ?_
 refine g_seq ?_
 refine g_region ?_
 refine gy rfl rfl rfl S (y_move rfl S rfl) fun a S => ?_
 refine gy rfl rfl rfl S (y_move rfl S rfl) fun a S => ?_
 refine gy rfl rfl rfl S (y_move rfl S rfl) fun a S => ?_
 refine wl_of (op_call (wn rfl) rfl rfl S (co_func rfl Try.call12 S rfl) (few_spec v1 v2 old next v3 ts 20 _ (H.sl v1) (H.sl v2) (H.sl v3)) fun v w hc a S => ?_)
 obtain ⟨rfl, he⟩ := hc
 have H := H.ext he
 refine gy rfl rfl rfl S (y_not rfl S rfl) fun a S => ?_
 refine gl_nil ?_
 refine n_then ?_
 have S := (((((S.nil.cons S 2 rfl).cons S 1 rfl).cons S 0 rfl).cons S 6 rfl).cons S 7 rfl).cons S 23 rfl
 refine c_if S rfl (fun h1 => ?_) (fun h1 => ?_)
 ·have h1p := h1; try simp only [DL] at h1p
  refine g_seq ?_
  refine g_region ?_
  refine gy rfl rfl rfl S (y_move rfl S rfl) fun a S => ?_
  refine gy rfl rfl rfl S (y_assign rfl S rfl) fun a S => ?_
  refine gl_nil ?_
  refine n_then ?_
  refine g_ret ?_
  refine r_then (ret1 rfl S rfl ?_)
  exact ⟨rfl, H.toExt⟩
 ·have h1p := h1; try simp only [DL] at h1p
  have hfw : old.length ≤ 20 ∧ next.length ≤ 20 ∧ ts.length ≤ 20 := by have := h1p; omega
  refine g_skip ?_
  refine n_then ?_
  refine g_seq ?_
  refine g_region ?_
  refine gy rfl rfl rfl S (y_move rfl S rfl) fun a S => ?_
  refine gy rfl rfl rfl S (y_move rfl S rfl) fun a S => ?_
  refine gy rfl rfl rfl S (y_move rfl S rfl) fun a S => ?_
  refine wl_of (op_call (wn rfl) rfl rfl S (co_func rfl Try.call14 S rfl) (plan_any v1 v2 old next v3 ts _ (H.sl v1) (H.sl v2) (H.sl v3) hok (by omega)) fun v w hc a S => ?_)
  obtain ⟨mvA, vlA, vrA, msA, rfl, hmA, H1⟩ := hc
  have H := H.call4 H1 rfl rfl rfl rfl
  have hclA := clP_len old next ts (by omega)
  have hcrA := crP_len old next ts (by omega)
  refine gy rfl rfl rfl S (y_move rfl S rfl) fun a S => ?_
  refine gy rfl rfl rfl S (y_extract rfl S rfl rfl) fun a S => ?_
  refine gy rfl rfl rfl S (y_extract rfl S rfl rfl) fun a S => ?_
  refine wl_of (op_alloc (wn rfl) rfl rfl rfl S H Fzer29 fun b8 a w S H => ?_)
  refine wl_of (op_storea (wn rfl) rfl rfl S H rfl rfl (by simp only [List.all_cons, List.all_nil, H.sl1 mvA, H.sl1 vlA, H.sl1 vrA, Bool.true_and]) Fsiz29 rfl (cs' := [_, _, _]) rfl fun a w S H => ?_)
  refine gy rfl rfl rfl S (y_assign rfl S rfl) fun a S => ?_
  refine gl_nil ?_
  refine n_then ?_
  have S := ((((((S.nil.cons S 2 rfl).cons S 1 rfl).cons S 0 rfl).cons S 6 rfl).cons S 7 rfl).cons S 8 rfl).cons S 9 rfl
  refine g_seq ?_
  refine g_seq ?_
  refine g_region ?_
  refine gy rfl rfl rfl S (y_move rfl S rfl) fun a S => ?_
  refine gy rfl rfl rfl S (y_bin rfl S rfl rfl rfl) fun a S => ?_
  refine gl_nil ?_
  refine n_then ?_
  refine c_if S rfl (fun h2 => ?_) (fun h2 => ?_)
  ·have h2p := h2; try simp only [DL] at h2p
   have herr : errP old next ts ≠ 0 := h2p
   have hms := plan_none herr hmA
   refine g_seq ?_
   refine g_region ?_
   refine gy rfl rfl rfl S (y_move rfl S rfl) fun a S => ?_
   refine gy rfl rfl rfl S (y_move rfl S rfl) fun a S => ?_
   refine' wl_and 4 35 rfl S H rfl rfl rfl rfl rfl rfl rfl (fun _ S => (wn rfl)) (fun h3 kk => ?yh3) (fun a w S H => ?_)
   case yh3 =>
    have h3p := h3; try simp only [DL] at h3p
    refine gz 35 h3 S rfl rfl rfl rfl rfl rfl (y_faddrb rfl Ffo29_0 S rfl) fun a S => ?_
    refine gz 35 h3 S rfl rfl rfl rfl rfl rfl (y_load rfl Fsca24 S H rfl rfl) fun a S => ?_
    refine gz 35 h3 S rfl rfl rfl rfl rfl rfl (y_lens rfl Try.underlying24 S H rfl) fun a S => ?_
    refine gz 35 h3 S rfl rfl rfl rfl rfl rfl (y_bin rfl S rfl rfl rfl) fun a S => ?_
    refine gy rfl rfl rfl S (y_and' rfl h3 S rfl rfl) fun a S => ?_
    exact kk _ _ (S.join 5 40 rfl rfl) H
   refine gy rfl rfl rfl S (y_move rfl S rfl) fun a S => ?_
   refine' wl_and 6 41 rfl S H rfl rfl rfl rfl rfl rfl rfl (fun _ S => (wn rfl)) (fun h4 kk => ?yh4) (fun a w S H => ?_)
   case yh4 =>
    have h4p := h4; try simp only [DL] at h4p
    refine gz 41 h4 S rfl rfl rfl rfl rfl rfl (y_move rfl S rfl) fun a S => ?_
    refine gz 41 h4 S rfl rfl rfl rfl rfl rfl (y_move rfl S rfl) fun a S => ?_
    refine gz 41 h4 S rfl rfl rfl rfl rfl rfl (y_move rfl S rfl) fun a S => ?_
    refine gz 41 h4 S rfl rfl rfl rfl rfl rfl (y_load0 rfl S H rfl (by exact Fagg29)) fun a S => ?_
    refine wl_of (op_call (wg' 41 rfl rfl S rfl h4 rfl) rfl rfl S (co_func rfl Try.call17 S rfl) (check_any v1 v2 old next v3 ts _ (H.sl v1) (H.sl v2) (H.sl v3) hok (by omega) mvA vlA vrA msA (clP old next ts) (crP old next ts) (H.sl mvA) (H.rws 3 (rowsOf msA)) (H.sl vlA) (H.sl vrA) (H.cap vlA) (by omega) (by omega)) fun v w hc a S => ?_)
    obtain ⟨rfl, he⟩ := hc
    have H := H.ext he
    refine gz 41 h4 S rfl rfl rfl rfl rfl rfl (y_not rfl S rfl) fun a S => ?_
    refine gy rfl rfl rfl S (y_and' rfl h4 S rfl rfl) fun a S => ?_
    exact kk _ _ (S.join 7 48 rfl rfl) H
   refine gy rfl rfl rfl S (y_assign rfl S rfl) fun a S => ?_
   refine gl_nil ?_
   refine n_then ?_
   have S := (((((S.nil.cons S 2 rfl).cons S 1 rfl).cons S 0 rfl).cons S 7 rfl).cons S 8 rfl).cons S 6 rfl
   refine g_ret ?_
   refine r_then (ret1 rfl S rfl ?_)
   exact ⟨by rw [hms, show chkW old next ts (List.map Mv.say []) (clP old next ts) (crP old next ts) = false by unfold chkW; rw [if_neg herr]]; rfl, H.toExt⟩
  ·have h2p := h2; try simp only [DL] at h2p
   have herr : errP old next ts = 0 := by have := h2p; simpa using this
   have hM := planM herr hmA
   have hlen := hM.len
   have hmle := moved_len ts
   refine g_skip ?_
   refine n_then ?_
   refine g_seq ?_
   refine g_region ?_
   refine gy rfl rfl rfl S (y_move rfl S rfl) fun a S => ?_
   refine wl_of (op_call (wn rfl) rfl rfl S (co_func rfl Try.call20 S rfl) (moved_spec v3 ts _ (H.sl v3) hok (by omega)) fun u50 w hc a S => ?_)
   have H1 := hc
   have H := H.call1 H1 rfl
   refine gy rfl rfl rfl S (y_assign rfl S rfl) fun a S => ?_
   refine gl_nil ?_
   refine n_then ?_
   have S := ((((((S.nil.cons S 2 rfl).cons S 1 rfl).cons S 0 rfl).cons S 6 rfl).cons S 7 rfl).cons S 8 rfl).cons S 10 rfl
   refine g_seq ?_
   refine g_seq ?_
   refine g_region ?_
   refine gy rfl rfl rfl S (y_faddrb rfl Ffo29_0 S rfl) fun a S => ?_
   refine gy rfl rfl rfl S (y_load rfl Fsca24 S H rfl rfl) fun a S => ?_
   refine gy rfl rfl rfl S (y_lens rfl Try.underlying24 S H rfl) fun a S => ?_
   refine gy rfl rfl rfl S (y_move rfl S rfl) fun a S => ?_
   refine gy rfl rfl rfl S (y_lens rfl Try.underlying23 S H rfl) fun a S => ?_
   refine gy rfl rfl rfl S (y_bin rfl S rfl rfl rfl) fun a S => ?_
   refine gy rfl rfl rfl S (y_move rfl S rfl) fun a S => ?_
   refine' wl_or 6 57 rfl S H rfl rfl rfl rfl rfl rfl rfl (fun _ S => (wn rfl)) (fun h5 kk => ?yh5) (fun a w S H => ?_)
   case yh5 =>
    have h5p := h5; try simp only [DL] at h5p
    refine gz 57 h5 S rfl rfl rfl rfl rfl rfl (y_move rfl S rfl) fun a S => ?_
    refine gz 57 h5 S rfl rfl rfl rfl rfl rfl (y_move rfl S rfl) fun a S => ?_
    refine gz 57 h5 S rfl rfl rfl rfl rfl rfl (y_move rfl S rfl) fun a S => ?_
    refine gz 57 h5 S rfl rfl rfl rfl rfl rfl (y_load0 rfl S H rfl (by exact Fagg29)) fun a S => ?_
    refine wl_of (op_call (wg' 57 rfl rfl S rfl h5 rfl) rfl rfl S (co_func rfl Try.call17 S rfl) (check_any v1 v2 old next v3 ts _ (H.sl v1) (H.sl v2) (H.sl v3) hok (by omega) mvA vlA vrA msA (clP old next ts) (crP old next ts) (H.sl mvA) (H.rws 3 (rowsOf msA)) (H.sl vlA) (H.sl vrA) (H.cap vlA) (by omega) (by omega)) fun v w hc a S => ?_)
    obtain ⟨rfl, he⟩ := hc
    have H := H.ext he
    refine gz 57 h5 S rfl rfl rfl rfl rfl rfl (y_not rfl S rfl) fun a S => ?_
    refine gy rfl rfl rfl S (y_or' rfl h5 S rfl rfl) fun a S => ?_
    exact kk _ _ (S.join 7 64 rfl rfl) H
   refine gl_nil ?_
   refine n_then ?_
   have S := ((((((S.nil.cons S 1 rfl).cons S 0 rfl).cons S 6 rfl).cons S 7 rfl).cons S 8 rfl).cons S 10 rfl).cons S 64 rfl
   refine c_if S rfl (fun h6 => ?_) (fun h6 => ?_)
   ·have h6p := h6; try simp only [DL] at h6p
    all_goals (
      have hlen := hM.len
      rw [hM.say, show chkW old next ts (sayP old next ts) (clP old next ts) (crP old next ts) = true by unfold chkW; rw [if_pos herr]; exact chk_yes (plan_chk herr)] at h6
      rw [hlen] at h6
      simp at h6)
   ·have h6p := h6; try simp only [DL] at h6p
    refine g_skip ?_
    refine n_then ?_
    refine g_seq ?_
    refine g_region ?_
    refine gy rfl rfl rfl S (y_move rfl S rfl) fun a S => ?_
    refine gy rfl rfl rfl S (y_lens rfl Try.underlying22 S H rfl) fun a S => ?_
    refine wl_of (op_make (encB) (false) (wn rfl) rfl rfl rfl Try.underlying53 Finf4 rfl rfl S H rfl rfl rfl (by omega) (by omega) fun b67 a w S H => ?_)
    rw [← seenB_nil] at H
    refine gy rfl rfl rfl S (y_assign rfl S rfl) fun a S => ?_
    refine gl_nil ?_
    refine n_then ?_
    have S := ((((((S.nil.cons S 1 rfl).cons S 0 rfl).cons S 6 rfl).cons S 7 rfl).cons S 8 rfl).cons S 10 rfl).cons S 11 rfl
    refine g_seq ?_
    refine g_seq ?_
    refine g_region ?_
    refine gy rfl rfl rfl S (y_assign rfl S rfl) fun a S => ?_
    refine gl_nil ?_
    refine n_then ?_
    refine g_block ?_
    have SU := (((((S.nil.cons S 1 rfl).cons S 0 rfl).cons S 7 rfl).cons S 8 rfl).cons S 10 rfl).cons S 11 rfl
    refine loopW (X := Nat) SU (fun k => [(12, .int .i64 (k : Int))]) (fun k w => k ≤ msA.length ∧ HSat No w0 [OSl 4 (.slice (some ⟨b67, 0, none⟩) next.length next.length) 1 encB (seenB next.length (posK (tosS (msA.map Mv.say)) k)), Cel b8 29 [mvA, vlA, vrA], OSl 50 mvA 3 Mv.enc msA, RowsA 3 1 encI (rowsOf msA), OSl 3 vlA 1 encI (clP old next ts), OSl 3 vrA 1 encI (crP old next ts), OSl 47 u50 11 Ow.enc (movedL ts), Sl v3 11 Ow.enc ts, Sl v2 9 Pl.enc next, Sl v1 9 Pl.enc old] w) (fun k => msA.length - k) 0 (S.nil.cons S 12 rfl) (⟨by omega, H.take [OSl 4 (.slice (some ⟨b67, 0, none⟩) next.length next.length) 1 encB (seenB next.length []), Cel b8 29 [mvA, vlA, vrA], OSl 50 mvA 3 Mv.enc msA, RowsA 3 1 encI (rowsOf msA), OSl 3 vlA 1 encI (clP old next ts), OSl 3 vrA 1 encI (crP old next ts), OSl 47 u50 11 Ow.enc (movedL ts), Sl v3 11 Ow.enc ts, Sl v2 9 Pl.enc next, Sl v1 9 Pl.enc old]⟩) (fun k a w S hW => ?_)
    simp only [List.cons_append, List.nil_append] at S
    clear H
    obtain ⟨hk, H⟩ := hW
    refine g_seq ?_
    refine g_seq ?_
    refine g_region ?_
    refine gy rfl rfl rfl S (y_move rfl S rfl) fun a S => ?_
    refine gy rfl rfl rfl S (y_move rfl S rfl) fun a S => ?_
    refine gy rfl rfl rfl S (y_lens rfl Try.underlying23 S H rfl) fun a S => ?_
    refine gy rfl rfl rfl S (y_bin rfl S rfl rfl rfl) fun a S => ?_
    refine gl_nil ?_
    refine n_then ?_
    refine c_if S rfl (fun h7 => ?_) (fun h7 => ?_)
    ·have h7p := h7; try simp only [DL] at h7p
     have hkt : k < (movedL ts).length := by omega
     have hkm : k < msA.length := by omega
     have hta := tos_at hkm
     obtain ⟨x, hx⟩ : ∃ x : Nat, (movedL ts)[k].place = x := ⟨(movedL ts)[k].place.toNat, by have := hM.place hkt; omega⟩
     have hxn : x < old.length := by have := hM.place hkt; omega
     refine g_skip ?_
     refine n_then ?_
     refine g_seq ?_
     refine g_block ?_
     refine g_seq ?_
     refine g_region ?_
     refine gy rfl rfl rfl S (y_faddrb rfl Ffo29_0 S rfl) fun a S => ?_
     refine gy rfl rfl rfl S (y_load rfl Fsca24 S H rfl rfl) fun a S => ?_
     refine gy rfl rfl rfl S (y_move rfl S rfl) fun a S => ?_
     refine gy rfl rfl rfl S (y_iaddrn rfl Try.underlying24 Fsiz50 S H rfl rfl (by first | assumption | omega | (rw [seenB_len]; omega))) fun a S => ?_
     refine gy rfl rfl rfl S (y_loadsa _ rfl S H rfl (by exact Fagg50) (by first | assumption | omega | (rw [seenB_len]; omega))) fun a S => ?_
     refine wl_of (op_alloc (wn rfl) rfl rfl rfl S H Fzer50 fun b13 a w S H => ?_)
     refine wl_of (op_storea (wn rfl) rfl rfl S H rfl rfl (by simp only [Mv.enc, List.all_cons, List.all_nil, H.sl1 msA[k].row.1, Bool.and_true]; rfl) Fsiz50 rfl (cs' := [_, _, _]) rfl fun a w S H => ?_)
     refine gl_nil ?_
     refine n_then ?_
     refine g_seq ?_
     refine g_seq ?_
     refine region_st (loud := []) (tails := []) (free := []) [0, 1, 2, 3, 4, 5, 6, 7, 8, 9, 10, 11, 12, 13, 14, 15, 16, 17, 18, 19, 20] [] Fmo (by kernel_rfl) (by kernel_rfl) rfl H ?_
     refine m_w rfl rfl (wn rfl) rfl rfl S (fun w H => y_faddrb rfl Ffo50_0 S rfl) fun a S => ?_
     refine m_w rfl rfl (wn rfl) rfl rfl S (fun w H => y_load rfl Fsca3 S H rfl rfl) fun a S => ?_
     refine m_w rfl rfl (wn rfl) rfl rfl S (fun w H => y_move rfl S rfl) fun a S => ?_
     refine m_w rfl rfl (wn rfl) rfl rfl S (fun w H => y_move rfl S rfl) fun a S => ?_
     refine m_w rfl rfl (wn rfl) rfl rfl S (fun w H => y_iaddrn rfl Try.underlying23 Fsiz47 S H rfl rfl (by first | assumption | omega | (rw [seenB_len]; omega))) fun a S => ?_
     refine m_w rfl rfl (wn rfl) rfl rfl S (fun w H => y_faddr rfl Ffo47_0 S rfl) fun a S => ?_
     refine m_w rfl rfl (wn rfl) rfl rfl S (fun w H => y_faddr rfl Ffo41_0 S rfl) fun a S => ?_
     refine m_loadsff _ rfl rfl (wn rfl) rfl rfl S rfl Fsca3 rfl (by first | assumption | omega | (rw [seenB_len]; omega)) rfl fun a S => ?_
     refine m_w rfl rfl (wn rfl) rfl rfl S (fun w H => y_bin rfl S rfl rfl rfl) fun a S => ?_
     refine m_w rfl rfl (wn rfl) rfl rfl S (fun w H => y_move rfl S rfl) fun a S => ?_
     refine' m_orq [10, 11, 12] 88 S rfl rfl rfl rfl rfl rfl rfl rfl rfl (fun _ S => (wn rfl)) (fun h8 kk => ?yh8) (fun a S => ?_)
     case yh8 =>
      have h8p := h8; try simp only [DL] at h8p
      refine m_w rfl rfl (wg' 88 rfl rfl S rfl h8 rfl) rfl rfl S (fun w H => y_faddrb rfl Ffo50_1 S rfl) fun a S => ?_
      refine m_w rfl rfl (wg' 88 rfl rfl S rfl h8 rfl) rfl rfl S (fun w H => y_load rfl Fsca3 S H rfl rfl) fun a S => ?_
      refine m_w rfl rfl (wg' 88 rfl rfl S rfl h8 rfl) rfl rfl S (fun w H => y_bin rfl S rfl rfl rfl) fun a S => ?_
      refine m_w rfl rfl (wn rfl) rfl rfl S (fun w H => y_or' rfl h8 S rfl rfl) fun a S => ?_
      exact kk _ (S.join 4 92 rfl rfl)
     refine m_w rfl rfl (wn rfl) rfl rfl S (fun w H => y_move rfl S rfl) fun a S => ?_
     refine' m_orq [15, 16, 17, 18, 19] 93 S rfl rfl rfl rfl rfl rfl rfl rfl rfl (fun _ S => (wn rfl)) (fun h9 kk => ?yh9) (fun a S => ?_)
     case yh9 =>
      have h9p := h9; try simp only [DL] at h9p
      refine m_w rfl rfl (wg' 93 rfl rfl S rfl h9 rfl) rfl rfl S (fun w H => y_faddrb rfl Ffo50_1 S rfl) fun a S => ?_
      refine m_w rfl rfl (wg' 93 rfl rfl S rfl h9 rfl) rfl rfl S (fun w H => y_load rfl Fsca3 S H rfl rfl) fun a S => ?_
      refine m_w rfl rfl (wg' 93 rfl rfl S rfl h9 rfl) rfl rfl S (fun w H => y_move rfl S rfl) fun a S => ?_
      refine m_w rfl rfl (wg' 93 rfl rfl S rfl h9 rfl) rfl rfl S (fun w H => y_lens rfl Try.underlying22 S H rfl) fun a S => ?_
      refine m_w rfl rfl (wg' 93 rfl rfl S rfl h9 rfl) rfl rfl S (fun w H => y_bin rfl S rfl rfl rfl) fun a S => ?_
      refine m_w rfl rfl (wn rfl) rfl rfl S (fun w H => y_or' rfl h9 S rfl rfl) fun a S => ?_
      exact kk _ (S.join 6 99 rfl rfl)
     refine m_nil (fun w H => ?_)
     refine n_then ?_
     refine c_if S rfl (fun h10 => ?_) (fun h10 => ?_)
     ·have h10p := h10; try simp only [DL] at h10p
      all_goals (
        exfalso
        have hx5 := h10
        simp only [Bool.or_eq_true, decide_eq_true_eq, bne_iff_ne, ne_eq] at hx5
        rcases hx5 with (hx5 | hx5) | hx5
        · exact hx5 (hM.serial hkm hkt)
        · have := hM.low hkm; omega
        · have := hM.hi hkm; omega)
     ·have h10p := h10; try simp only [DL] at h10p
      refine g_skip ?_
      refine n_then ?_
      refine g_seq ?_
      refine g_region ?_
      refine gy rfl rfl rfl S (y_faddrb rfl Ffo50_1 S rfl) fun a S => ?_
      refine gy rfl rfl rfl S (y_load rfl Fsca3 S H rfl rfl) fun a S => ?_
      refine gy rfl rfl rfl S (y_bin rfl S rfl rfl rfl) fun a S => ?_
      refine gl_nil ?_
      refine n_then ?_
      refine c_if S rfl (fun h11 => ?_) (fun h11 => ?_)
      ·have h11p := h11; try simp only [DL] at h11p
       have h0 : 0 ≤ msA[k].to_ := by have := h11p; omega
       obtain ⟨m, hm⟩ : ∃ m : Nat, msA[k].to_ = m := ⟨msA[k].to_.toNat, by omega⟩
       have hmn : m < next.length := by have := hM.hi hkm; omega
       have hgd := hM.good hkm hm hkt hx hxn hmn
       have hof : msA[k].row.2 = [] := by rw [hM.offers hkm (by rw [old_len]; exact hkt), if_neg (by omega)]
       have hnt : (m : Int) ∉ posK (tosS (msA.map Mv.say)) k := fun hmem => by
         obtain ⟨_, j, hj, e⟩ := mem_posK.1 hmem
         rw [tos_at (show j < msA.length by omega)] at e
         have := hM.inj (i := k) (j := j) hkm (by omega) h0 (by rw [hm, e])
         omega
       have hpk : posK (tosS (msA.map Mv.say)) (k + 1) = (m : Int) :: posK (tosS (msA.map Mv.say)) k := by rw [posK, hta, if_pos h0, hm]
       refine g_seq ?_
       refine g_seq ?_
       refine region_st (loud := []) (tails := []) (free := []) [0, 1, 2, 3, 4, 5, 6, 7, 8, 9, 10, 11, 12, 13, 14, 15, 16, 17, 18, 19, 20, 21, 22, 23, 24, 25, 26, 27, 28] [] Fmo (by kernel_rfl) (by kernel_rfl) rfl H ?_
       refine m_w rfl rfl (wn rfl) rfl rfl S (fun w H => y_move rfl S rfl) fun a S => ?_
       refine m_w rfl rfl (wn rfl) rfl rfl S (fun w H => y_faddrb rfl Ffo50_1 S rfl) fun a S => ?_
       refine m_w rfl rfl (wn rfl) rfl rfl S (fun w H => y_load rfl Fsca3 S H rfl rfl) fun a S => ?_
       rw [hm] at S
       refine m_w rfl rfl (wn rfl) rfl rfl S (fun w H => y_iaddrn rfl Try.underlying53 Fsiz4 S H rfl rfl (by first | assumption | omega | (rw [seenB_len]; omega))) fun a S => ?_
       refine m_loads _ rfl rfl (wn rfl) rfl rfl S rfl Fsca4 rfl (by first | assumption | omega | (rw [seenB_len]; omega)) rfl fun a S => ?_
       refine m_w rfl rfl (wn rfl) rfl rfl S (fun w H => y_move rfl S rfl) fun a S => ?_
       refine' m_orq [6, 7, 8, 9, 10, 11, 12, 13, 14, 15, 16, 17, 18, 19, 20, 21] 108 S rfl rfl rfl rfl rfl rfl rfl rfl rfl (fun _ S => (wn rfl)) (fun h12 kk => ?yh12) (fun a S => ?_)
       case yh12 =>
        have h12p := h12; try simp only [DL] at h12p
        refine m_w rfl rfl (wg' 108 rfl rfl S rfl h12 rfl) rfl rfl S (fun w H => y_move rfl S rfl) fun a S => ?_
        refine m_w rfl rfl (wg' 108 rfl rfl S rfl h12 rfl) rfl rfl S (fun w H => y_faddrb rfl Ffo50_1 S rfl) fun a S => ?_
        refine m_w rfl rfl (wg' 108 rfl rfl S rfl h12 rfl) rfl rfl S (fun w H => y_load rfl Fsca3 S H rfl rfl) fun a S => ?_
        rw [hm] at S
        refine m_w rfl rfl (wg' 108 rfl rfl S rfl h12 rfl) rfl rfl S (fun w H => y_iaddrn rfl Try.underlying22 Fsiz56 S H rfl rfl (by first | assumption | omega | (rw [seenB_len]; omega))) fun a S => ?_
        refine m_loadsa _ rfl rfl (wg' 108 rfl rfl S rfl h12 rfl) rfl rfl S rfl rfl (by exact Fagg56) (by first | assumption | omega | (rw [seenB_len]; omega)) fun a S => ?_
        refine m_w rfl rfl (wg' 108 rfl rfl S rfl h12 rfl) rfl rfl S (fun w H => y_move rfl S rfl) fun a S => ?_
        refine m_w rfl rfl (wg' 108 rfl rfl S rfl h12 rfl) rfl rfl S (fun w H => y_move rfl S rfl) fun a S => ?_
        refine m_w rfl rfl (wg' 108 rfl rfl S rfl h12 rfl) rfl rfl S (fun w H => y_move rfl S rfl) fun a S => ?_
        refine m_w rfl rfl (wg' 108 rfl rfl S rfl h12 rfl) rfl rfl S (fun w H => y_iaddrn rfl Try.underlying23 Fsiz47 S H rfl rfl (by first | assumption | omega | (rw [seenB_len]; omega))) fun a S => ?_
        refine m_w rfl rfl (wg' 108 rfl rfl S rfl h12 rfl) rfl rfl S (fun w H => y_faddr rfl Ffo47_0 S rfl) fun a S => ?_
        refine m_w rfl rfl (wg' 108 rfl rfl S rfl h12 rfl) rfl rfl S (fun w H => y_faddr rfl Ffo41_2 S rfl) fun a S => ?_
        refine m_loadsff _ rfl rfl (wg' 108 rfl rfl S rfl h12 rfl) rfl rfl S rfl Fsca3 rfl (by first | assumption | omega | (rw [seenB_len]; omega)) rfl fun a S => ?_
        rw [hx] at S
        refine m_w rfl rfl (wg' 108 rfl rfl S rfl h12 rfl) rfl rfl S (fun w H => y_iaddrn rfl Try.underlying22 Fsiz56 S H rfl rfl (by first | assumption | omega | (rw [seenB_len]; omega))) fun a S => ?_
        refine m_loadsa _ rfl rfl (wg' 108 rfl rfl S rfl h12 rfl) rfl rfl S rfl rfl (by exact Fagg56) (by first | assumption | omega | (rw [seenB_len]; omega)) fun a S => ?_
        refine m_c rfl rfl (wg' 108 rfl rfl S rfl h12 rfl) rfl rfl S (fun w => co_func rfl Try.call21 S rfl) (fun w H => atLeast_spec next[m] old[x] _) fun a S => ?_
        refine m_w rfl rfl (wg' 108 rfl rfl S rfl h12 rfl) rfl rfl S (fun w H => y_not rfl S rfl) fun a S => ?_
        refine m_w rfl rfl (wn rfl) rfl rfl S (fun w H => y_or' rfl h12 S rfl rfl) fun a S => ?_
        exact kk _ (S.join 17 125 rfl rfl)
       refine m_w rfl rfl (wn rfl) rfl rfl S (fun w H => y_move rfl S rfl) fun a S => ?_
       refine' m_orq [24, 25, 26, 27] 126 S rfl rfl rfl rfl rfl rfl rfl rfl rfl (fun _ S => (wn rfl)) (fun h13 kk => ?yh13) (fun a S => ?_)
       case yh13 =>
        have h13p := h13; try simp only [DL] at h13p
        refine m_w rfl rfl (wg' 126 rfl rfl S rfl h13 rfl) rfl rfl S (fun w H => y_faddrb rfl Ffo50_2 S rfl) fun a S => ?_
        refine m_w rfl rfl (wg' 126 rfl rfl S rfl h13 rfl) rfl rfl S (fun w H => y_load rfl Fsca25 S H rfl rfl) fun a S => ?_
        refine m_w rfl rfl (wg' 126 rfl rfl S rfl h13 rfl) rfl rfl S (fun w H => y_lens rfl Try.underlying25 S H rfl) fun a S => ?_
        refine m_w rfl rfl (wg' 126 rfl rfl S rfl h13 rfl) rfl rfl S (fun w H => y_bin rfl S rfl rfl rfl) fun a S => ?_
        refine m_w rfl rfl (wn rfl) rfl rfl S (fun w H => y_or' rfl h13 S rfl rfl) fun a S => ?_
        exact kk _ (S.join 5 131 rfl rfl)
       refine m_nil (fun w H => ?_)
       refine n_then ?_
       refine c_if S rfl (fun h14 => ?_) (fun h14 => ?_)
       ·have h14p := h14; try simp only [DL] at h14p
        all_goals (
          exfalso
          have hx7 := h14
          rw [seenB_get, decide_eq_false hnt, hgd, hof] at hx7
          simp at hx7)
       ·have h14p := h14; try simp only [DL] at h14p
        refine g_skip ?_
        refine n_then ?_
        refine g_region ?_
        refine gy rfl rfl rfl S (y_move rfl S rfl) fun a S => ?_
        refine gy rfl rfl rfl S (y_faddrb rfl Ffo50_1 S rfl) fun a S => ?_
        refine gy rfl rfl rfl S (y_load rfl Fsca3 S H rfl rfl) fun a S => ?_
        rw [hm] at S
        refine gy rfl rfl rfl S (y_iaddrn rfl Try.underlying53 Fsiz4 S H rfl rfl (by first | assumption | omega | (rw [seenB_len]; omega))) fun a S => ?_
        refine wl_of (op_store1 _ (true) (wn rfl) rfl rfl S H rfl rfl rfl rfl Fsiz4 (by first | assumption | omega | (rw [seenB_len]; omega)) (by exact rfl) fun a w S H => ?_)
        refine gl_nil ?_
        refine n_block ?_
        refine n_then ?_
        refine g_region ?_
        refine gy rfl rfl rfl S (y_move rfl S rfl) fun a S => ?_
        refine gy rfl rfl rfl S (y_add rfl S rfl rfl (by omega)) fun a S => ?_
        refine gy rfl rfl rfl S (y_assign rfl S rfl) fun a S => ?_
        refine gl_nil ?_
        refine n_then ?_
        first
        | (rw [seenB_set] at H
           exact ⟨k + 1, S.nil.cons S 12 rfl, (((((S.nil.cons S 1 rfl).cons S 0 rfl).cons S 7 rfl).cons S 8 rfl).cons S 10 rfl).cons S 11 rfl, ⟨by omega, by rw [hpk]; exact H.take [OSl 4 (.slice (some ⟨b67, 0, none⟩) next.length next.length) 1 encB (seenB next.length ((m : Int) :: posK (tosS (msA.map Mv.say)) k)), Cel b8 29 [mvA, vlA, vrA], OSl 50 mvA 3 Mv.enc msA, RowsA 3 1 encI (rowsOf msA), OSl 3 vlA 1 encI (clP old next ts), OSl 3 vrA 1 encI (crP old next ts), OSl 47 u50 11 Ow.enc (movedL ts), Sl v3 11 Ow.enc ts, Sl v2 9 Pl.enc next, Sl v1 9 Pl.enc old]⟩, by omega⟩)
        | exact ⟨k + 1, S.nil.cons S 12 rfl, (((((S.nil.cons S 1 rfl).cons S 0 rfl).cons S 7 rfl).cons S 8 rfl).cons S 10 rfl).cons S 11 rfl, ⟨by omega, by rw [hpk]; exact H.take [OSl 4 (.slice (some ⟨b67, 0, none⟩) next.length next.length) 1 encB (seenB next.length (posK (tosS (msA.map Mv.say)) k)), Cel b8 29 [mvA, vlA, vrA], OSl 50 mvA 3 Mv.enc msA, RowsA 3 1 encI (rowsOf msA), OSl 3 vlA 1 encI (clP old next ts), OSl 3 vrA 1 encI (crP old next ts), OSl 47 u50 11 Ow.enc (movedL ts), Sl v3 11 Ow.enc ts, Sl v2 9 Pl.enc next, Sl v1 9 Pl.enc old]⟩, by omega⟩
      ·have h11p := h11; try simp only [DL] at h11p
       have h0 : ¬ 0 ≤ msA[k].to_ := by have := h11p; omega
       have hpk : posK (tosS (msA.map Mv.say)) (k + 1) = posK (tosS (msA.map Mv.say)) k := by rw [posK, hta, if_neg h0]
       refine g_skip ?_
       refine n_block ?_
       refine n_then ?_
       refine g_region ?_
       refine gy rfl rfl rfl S (y_move rfl S rfl) fun a S => ?_
       refine gy rfl rfl rfl S (y_add rfl S rfl rfl (by omega)) fun a S => ?_
       refine gy rfl rfl rfl S (y_assign rfl S rfl) fun a S => ?_
       refine gl_nil ?_
       refine n_then ?_
       first
       | (rw [seenB_set] at H
          exact ⟨k + 1, S.nil.cons S 12 rfl, (((((S.nil.cons S 1 rfl).cons S 0 rfl).cons S 7 rfl).cons S 8 rfl).cons S 10 rfl).cons S 11 rfl, ⟨by omega, by rw [hpk]; exact H.take [OSl 4 (.slice (some ⟨b67, 0, none⟩) next.length next.length) 1 encB (seenB next.length ((m : Int) :: posK (tosS (msA.map Mv.say)) k)), Cel b8 29 [mvA, vlA, vrA], OSl 50 mvA 3 Mv.enc msA, RowsA 3 1 encI (rowsOf msA), OSl 3 vlA 1 encI (clP old next ts), OSl 3 vrA 1 encI (crP old next ts), OSl 47 u50 11 Ow.enc (movedL ts), Sl v3 11 Ow.enc ts, Sl v2 9 Pl.enc next, Sl v1 9 Pl.enc old]⟩, by omega⟩)
       | exact ⟨k + 1, S.nil.cons S 12 rfl, (((((S.nil.cons S 1 rfl).cons S 0 rfl).cons S 7 rfl).cons S 8 rfl).cons S 10 rfl).cons S 11 rfl, ⟨by omega, by rw [hpk]; exact H.take [OSl 4 (.slice (some ⟨b67, 0, none⟩) next.length next.length) 1 encB (seenB next.length (posK (tosS (msA.map Mv.say)) k)), Cel b8 29 [mvA, vlA, vrA], OSl 50 mvA 3 Mv.enc msA, RowsA 3 1 encI (rowsOf msA), OSl 3 vlA 1 encI (clP old next ts), OSl 3 vrA 1 encI (crP old next ts), OSl 47 u50 11 Ow.enc (movedL ts), Sl v3 11 Ow.enc ts, Sl v2 9 Pl.enc next, Sl v1 9 Pl.enc old]⟩, by omega⟩
    ·have h7p := h7; try simp only [DL] at h7p
     obtain rfl : k = msA.length := by omega
     refine g_exit ?_
     refine x_then (x_then (x_eq ?_))
     refine n_then ?_
     have S := (((((S.nil.cons S 1 rfl).cons S 0 rfl).cons S 7 rfl).cons S 8 rfl).cons S 10 rfl).cons S 11 rfl
     refine g_seq ?_
     refine g_seq ?_
     refine g_region ?_
     refine gy rfl rfl rfl S (y_assign rfl S rfl) fun a S => ?_
     refine gl_nil ?_
     refine n_then ?_
     refine g_block ?_
     have SU := (((((S.nil.cons S 1 rfl).cons S 0 rfl).cons S 7 rfl).cons S 8 rfl).cons S 10 rfl).cons S 11 rfl
     refine loopW (X := Nat) SU (fun k => [(14, .int .i64 (k : Int))]) (fun k w => k ≤ msA.length ∧ HSat No w0 [OSl 4 (.slice (some ⟨b67, 0, none⟩) next.length next.length) 1 encB (seenB next.length (posK (tosS (msA.map Mv.say)) msA.length)), Cel b8 29 [mvA, vlA, vrA], OSl 50 mvA 3 Mv.enc msA, RowsA 3 1 encI (rowsOf msA), OSl 3 vlA 1 encI (clP old next ts), OSl 3 vrA 1 encI (crP old next ts), OSl 47 u50 11 Ow.enc (movedL ts), Sl v3 11 Ow.enc ts, Sl v2 9 Pl.enc next, Sl v1 9 Pl.enc old] w) (fun k => msA.length - k) 0 (S.nil.cons S 14 rfl) (⟨by omega, H.take [OSl 4 (.slice (some ⟨b67, 0, none⟩) next.length next.length) 1 encB (seenB next.length (posK (tosS (msA.map Mv.say)) msA.length)), Cel b8 29 [mvA, vlA, vrA], OSl 50 mvA 3 Mv.enc msA, RowsA 3 1 encI (rowsOf msA), OSl 3 vlA 1 encI (clP old next ts), OSl 3 vrA 1 encI (crP old next ts), OSl 47 u50 11 Ow.enc (movedL ts), Sl v3 11 Ow.enc ts, Sl v2 9 Pl.enc next, Sl v1 9 Pl.enc old]⟩) (fun k a w S hW => ?_)
     simp only [List.cons_append, List.nil_append] at S
     clear H
     obtain ⟨hk, H⟩ := hW
     refine g_seq ?_
     refine g_seq ?_
     refine g_region ?_
     refine gy rfl rfl rfl S (y_move rfl S rfl) fun a S => ?_
     refine gy rfl rfl rfl S (y_move rfl S rfl) fun a S => ?_
     refine gy rfl rfl rfl S (y_lens rfl Try.underlying23 S H rfl) fun a S => ?_
     refine gy rfl rfl rfl S (y_bin rfl S rfl rfl rfl) fun a S => ?_
     refine gl_nil ?_
     refine n_then ?_
     refine c_if S rfl (fun h15 => ?_) (fun h15 => ?_)
     ·have h15p := h15; try simp only [DL] at h15p
      have hkt : k < (movedL ts).length := by omega
      have hkm : k < msA.length := by omega
      obtain ⟨x, hx⟩ : ∃ x : Nat, (movedL ts)[k].place = x := ⟨(movedL ts)[k].place.toNat, by have := hM.place hkt; omega⟩
      have hxn : x < old.length := by have := hM.place hkt; omega
      have hko : k < (oldL old (movedL ts)).length := by rw [old_len]; exact hkt
      have hof := hM.offers hkm hko
      rw [oldL_at hkt hx hxn hko] at hof
      have hofl : msA[k].row.2.length ≤ 5 := by rw [hof]; split; exact offK_len _ _ _ _; simp
      refine g_skip ?_
      refine n_then ?_
      refine g_seq ?_
      refine g_block ?_
      refine g_seq ?_
      refine g_region ?_
      refine gy rfl rfl rfl S (y_faddrb rfl Ffo29_0 S rfl) fun a S => ?_
      refine gy rfl rfl rfl S (y_load rfl Fsca24 S H rfl rfl) fun a S => ?_
      refine gy rfl rfl rfl S (y_move rfl S rfl) fun a S => ?_
      refine gy rfl rfl rfl S (y_iaddrn rfl Try.underlying24 Fsiz50 S H rfl rfl (by first | assumption | omega | (rw [seenB_len]; omega))) fun a S => ?_
      refine gy rfl rfl rfl S (y_loadsa _ rfl S H rfl (by exact Fagg50) (by first | assumption | omega | (rw [seenB_len]; omega))) fun a S => ?_
      refine wl_of (op_alloc (wn rfl) rfl rfl rfl S H Fzer50 fun b15 a w S H => ?_)
      refine wl_of (op_storea (wn rfl) rfl rfl S H rfl rfl (by simp only [Mv.enc, List.all_cons, List.all_nil, H.sl1 msA[k].row.1, Bool.and_true]; rfl) Fsiz50 rfl (cs' := [_, _, _]) rfl fun a w S H => ?_)
      refine gl_nil ?_
      refine n_then ?_
      refine g_seq ?_
      refine g_seq ?_
      refine g_region ?_
      refine gy rfl rfl rfl S (y_faddrb rfl Ffo50_2 S rfl) fun a S => ?_
      refine gy rfl rfl rfl S (y_load rfl Fsca25 S H rfl rfl) fun a S => ?_
      refine gy rfl rfl rfl S (y_lens rfl Try.underlying25 S H rfl) fun a S => ?_
      refine gy rfl rfl rfl S (y_bin rfl S rfl rfl rfl) fun a S => ?_
      refine gl_nil ?_
      refine n_then ?_
      refine c_if S rfl (fun h16 => ?_) (fun h16 => ?_)
      ·have h16p := h16; try simp only [DL] at h16p
       all_goals (
         exfalso
         have hx9 := h16p
         omega)
      ·have h16p := h16; try simp only [DL] at h16p
       refine g_skip ?_
       refine n_then ?_
       refine g_seq ?_
       refine g_region ?_
       refine gy rfl rfl rfl S (y_assign rfl S rfl) fun a S => ?_
       refine gl_nil ?_
       refine n_then ?_
       refine g_block ?_
       have SU := ((((((((((((((((((((S.nil.cons S 1 rfl).cons S 0 rfl).cons S 7 rfl).cons S 8 rfl).cons S 10 rfl).cons S 11 rfl).cons S 14 rfl).cons S 136 rfl).cons S 137 rfl).cons S 138 rfl).cons S 139 rfl).cons S 142 rfl).cons S 143 rfl).cons S 144 rfl).cons S 145 rfl).cons S 146 rfl).cons S 15 rfl).cons S 147 rfl).cons S 148 rfl).cons S 149 rfl).cons S 150 rfl
       refine loop_k (X := Nat) SU (fun q => [(16, .int .i64 (q : Int))]) (fun q => q ≤ msA[k].row.2.length) (fun q => msA[k].row.2.length - q) 0 (S.nil.cons S 16 rfl) H (by omega) (fun q a w S H hi => ?_)
       simp only [List.cons_append, List.nil_append] at S hi
       refine g_seq ?_
       refine g_seq ?_
       refine g_region ?_
       refine gy rfl rfl rfl S (y_move rfl S rfl) fun a S => ?_
       refine gy rfl rfl rfl S (y_faddrb rfl Ffo50_2 S rfl) fun a S => ?_
       refine gy rfl rfl rfl S (y_load rfl Fsca25 S H rfl rfl) fun a S => ?_
       refine gy rfl rfl rfl S (y_lens rfl Try.underlying25 S H rfl) fun a S => ?_
       refine gy rfl rfl rfl S (y_bin rfl S rfl rfl rfl) fun a S => ?_
       refine gl_nil ?_
       refine n_then ?_
       refine c_if S rfl (fun h17 => ?_) (fun h17 => ?_)
       ·have h17p := h17; try simp only [DL] at h17p
        have hql : q < msA[k].row.2.length := by omega
        have hneg : msA[k].to_ < 0 := by
          by_cases e : msA[k].to_ < 0
          · exact e
          · rw [if_neg e] at hof; rw [hof] at hql; simp at hql
        rw [if_pos hneg] at hof
        have hrm : ∀ y ∈ msA[k].row.2, y ∈ offK old[x].kind next (plL (oldL old (movedL ts)) next) next.length := fun y hy => by rw [hof] at hy; exact hy
        obtain ⟨n, hnn, hn, _, hkd, hnm⟩ := offK_mem next.length (Nat.le_refl _) msA[k].row.2[q] (hrm _ (List.getElem_mem hql))
        have hnt : (n : Int) ∉ posK (tosS (msA.map Mv.say)) msA.length := fun hmem => hnm (by rw [← hM.tos]; exact posK_all.1 (by rw [tos_len]; exact hmem))
        refine g_skip ?_
        refine n_then ?_
        refine g_seq ?_
        refine g_block ?_
        refine g_seq ?_
        refine g_region ?_
        refine gy rfl rfl rfl S (y_faddrb rfl Ffo50_2 S rfl) fun a S => ?_
        refine gy rfl rfl rfl S (y_load rfl Fsca25 S H rfl rfl) fun a S => ?_
        refine gy rfl rfl rfl S (y_move rfl S rfl) fun a S => ?_
        refine gy rfl rfl rfl S (y_iaddrn rfl Try.underlying25 Fsiz3 S H rfl rfl (by first | assumption | omega | (rw [seenB_len]; omega))) fun a S => ?_
        refine gy rfl rfl rfl S (y_loads _ rfl Fsca3 S H rfl (by first | assumption | omega | (rw [seenB_len]; omega)) rfl) fun a S => ?_
        rw [hn] at S
        refine gy rfl rfl rfl S (y_assign rfl S rfl) fun a S => ?_
        refine gl_nil ?_
        refine n_then ?_
        refine g_seq ?_
        refine region_st (loud := []) (tails := []) (free := []) [0, 1, 2, 3, 4, 5, 6, 7, 8, 9, 10, 11, 12, 13, 14, 15, 16, 17, 18, 19, 20, 21, 22, 23, 24, 25, 26, 27, 28, 29, 30, 31] [] Fmo (by kernel_rfl) (by kernel_rfl) rfl H ?_
        refine m_w rfl rfl (wn rfl) rfl rfl S (fun w H => y_move rfl S rfl) fun a S => ?_
        refine m_w rfl rfl (wn rfl) rfl rfl S (fun w H => y_bin rfl S rfl rfl rfl) fun a S => ?_
        refine m_w rfl rfl (wn rfl) rfl rfl S (fun w H => y_move rfl S rfl) fun a S => ?_
        refine' m_orq [3, 4, 5, 6] 165 S rfl rfl rfl rfl rfl rfl rfl rfl rfl (fun _ S => (wn rfl)) (fun h18 kk => ?yh18) (fun a S => ?_)
        case yh18 =>
         have h18p := h18; try simp only [DL] at h18p
         refine m_w rfl rfl (wg' 165 rfl rfl S rfl h18 rfl) rfl rfl S (fun w H => y_move rfl S rfl) fun a S => ?_
         refine m_w rfl rfl (wg' 165 rfl rfl S rfl h18 rfl) rfl rfl S (fun w H => y_move rfl S rfl) fun a S => ?_
         refine m_w rfl rfl (wg' 165 rfl rfl S rfl h18 rfl) rfl rfl S (fun w H => y_lens rfl Try.underlying22 S H rfl) fun a S => ?_
         refine m_w rfl rfl (wg' 165 rfl rfl S rfl h18 rfl) rfl rfl S (fun w H => y_bin rfl S rfl rfl rfl) fun a S => ?_
         refine m_w rfl rfl (wn rfl) rfl rfl S (fun w H => y_or' rfl h18 S rfl rfl) fun a S => ?_
         exact kk _ (S.join 5 170 rfl rfl)
        refine m_w rfl rfl (wn rfl) rfl rfl S (fun w H => y_move rfl S rfl) fun a S => ?_
        refine' m_orq [9, 10, 11, 12] 171 S rfl rfl rfl rfl rfl rfl rfl rfl rfl (fun _ S => (wn rfl)) (fun h19 kk => ?yh19) (fun a S => ?_)
        case yh19 =>
         have h19p := h19; try simp only [DL] at h19p
         refine m_w rfl rfl (wg' 171 rfl rfl S rfl h19 rfl) rfl rfl S (fun w H => y_move rfl S rfl) fun a S => ?_
         refine m_w rfl rfl (wg' 171 rfl rfl S rfl h19 rfl) rfl rfl S (fun w H => y_move rfl S rfl) fun a S => ?_
         refine m_w rfl rfl (wg' 171 rfl rfl S rfl h19 rfl) rfl rfl S (fun w H => y_iaddrn rfl Try.underlying53 Fsiz4 S H rfl rfl (by first | assumption | omega | (rw [seenB_len]; omega))) fun a S => ?_
         refine m_loads _ rfl rfl (wg' 171 rfl rfl S rfl h19 rfl) rfl rfl S rfl Fsca4 rfl (by first | assumption | omega | (rw [seenB_len]; omega)) rfl fun a S => ?_
         refine m_w rfl rfl (wn rfl) rfl rfl S (fun w H => y_or' rfl h19 S rfl rfl) fun a S => ?_
         exact kk _ (S.join 5 176 rfl rfl)
        refine m_w rfl rfl (wn rfl) rfl rfl S (fun w H => y_move rfl S rfl) fun a S => ?_
        refine' m_orq [15, 16, 17, 18, 19, 20, 21, 22, 23, 24, 25, 26, 27, 28, 29, 30] 177 S rfl rfl rfl rfl rfl rfl rfl rfl rfl (fun _ S => (wn rfl)) (fun h20 kk => ?yh20) (fun a S => ?_)
        case yh20 =>
         have h20p := h20; try simp only [DL] at h20p
         refine m_w rfl rfl (wg' 177 rfl rfl S rfl h20 rfl) rfl rfl S (fun w H => y_move rfl S rfl) fun a S => ?_
         refine m_w rfl rfl (wg' 177 rfl rfl S rfl h20 rfl) rfl rfl S (fun w H => y_move rfl S rfl) fun a S => ?_
         refine m_w rfl rfl (wg' 177 rfl rfl S rfl h20 rfl) rfl rfl S (fun w H => y_iaddrn rfl Try.underlying22 Fsiz56 S H rfl rfl (by first | assumption | omega | (rw [seenB_len]; omega))) fun a S => ?_
         refine m_w rfl rfl (wg' 177 rfl rfl S rfl h20 rfl) rfl rfl S (fun w H => y_faddr rfl Ffo56_0 S rfl) fun a S => ?_
         refine m_loadsf _ rfl rfl (wg' 177 rfl rfl S rfl h20 rfl) rfl rfl S rfl Fsca3 rfl (by first | assumption | omega | (rw [seenB_len]; omega)) rfl fun a S => ?_
         refine m_w rfl rfl (wg' 177 rfl rfl S rfl h20 rfl) rfl rfl S (fun w H => y_move rfl S rfl) fun a S => ?_
         refine m_w rfl rfl (wg' 177 rfl rfl S rfl h20 rfl) rfl rfl S (fun w H => y_move rfl S rfl) fun a S => ?_
         refine m_w rfl rfl (wg' 177 rfl rfl S rfl h20 rfl) rfl rfl S (fun w H => y_move rfl S rfl) fun a S => ?_
         refine m_w rfl rfl (wg' 177 rfl rfl S rfl h20 rfl) rfl rfl S (fun w H => y_iaddrn rfl Try.underlying23 Fsiz47 S H rfl rfl (by first | assumption | omega | (rw [seenB_len]; omega))) fun a S => ?_
         refine m_w rfl rfl (wg' 177 rfl rfl S rfl h20 rfl) rfl rfl S (fun w H => y_faddr rfl Ffo47_0 S rfl) fun a S => ?_
         refine m_w rfl rfl (wg' 177 rfl rfl S rfl h20 rfl) rfl rfl S (fun w H => y_faddr rfl Ffo41_2 S rfl) fun a S => ?_
         refine m_loadsff _ rfl rfl (wg' 177 rfl rfl S rfl h20 rfl) rfl rfl S rfl Fsca3 rfl (by first | assumption | omega | (rw [seenB_len]; omega)) rfl fun a S => ?_
         rw [hx] at S
         refine m_w rfl rfl (wg' 177 rfl rfl S rfl h20 rfl) rfl rfl S (fun w H => y_iaddrn rfl Try.underlying22 Fsiz56 S H rfl rfl (by first | assumption | omega | (rw [seenB_len]; omega))) fun a S => ?_
         refine m_w rfl rfl (wg' 177 rfl rfl S rfl h20 rfl) rfl rfl S (fun w H => y_faddr rfl Ffo56_0 S rfl) fun a S => ?_
         refine m_loadsf _ rfl rfl (wg' 177 rfl rfl S rfl h20 rfl) rfl rfl S rfl Fsca3 rfl (by first | assumption | omega | (rw [seenB_len]; omega)) rfl fun a S => ?_
         refine m_w rfl rfl (wg' 177 rfl rfl S rfl h20 rfl) rfl rfl S (fun w H => y_bin rfl S rfl rfl rfl) fun a S => ?_
         refine m_w rfl rfl (wn rfl) rfl rfl S (fun w H => y_or' rfl h20 S rfl rfl) fun a S => ?_
         exact kk _ (S.join 17 194 rfl rfl)
        refine m_nil (fun w H => ?_)
        refine n_then ?_
        refine c_if S rfl (fun h21 => ?_) (fun h21 => ?_)
        ·have h21p := h21; try simp only [DL] at h21p
         all_goals (
           exfalso
           have hx11 := h21
           rw [seenB_get, decide_eq_false hnt, hkd] at hx11
           simp only [Bool.or_eq_true, decide_eq_true_eq, bne_self_eq_false, Bool.false_eq_true, or_false] at hx11
           omega)
        ·have h21p := h21; try simp only [DL] at h21p
         refine g_skip ?_
         refine n_block ?_
         refine n_then ?_
         refine g_region ?_
         refine gy rfl rfl rfl S (y_move rfl S rfl) fun a S => ?_
         refine gy rfl rfl rfl S (y_add rfl S rfl rfl (by omega)) fun a S => ?_
         refine gy rfl rfl rfl S (y_assign rfl S rfl) fun a S => ?_
         refine gl_nil ?_
         refine n_then ?_
         refine ⟨q + 1, S.nil.cons S 16 rfl, ((((((((((((((((((((S.nil.cons S 1 rfl).cons S 0 rfl).cons S 7 rfl).cons S 8 rfl).cons S 10 rfl).cons S 11 rfl).cons S 14 rfl).cons S 136 rfl).cons S 137 rfl).cons S 138 rfl).cons S 139 rfl).cons S 142 rfl).cons S 143 rfl).cons S 144 rfl).cons S 145 rfl).cons S 146 rfl).cons S 15 rfl).cons S 147 rfl).cons S 148 rfl).cons S 149 rfl).cons S 150 rfl, H, ?_, ?_⟩
         · omega
         · omega
       ·have h17p := h17; try simp only [DL] at h17p
        refine g_exit ?_
        refine x_then (x_then (x_eq ?_))
        refine n_block ?_
        refine n_then ?_
        refine g_region ?_
        refine gy rfl rfl rfl S (y_move rfl S rfl) fun a S => ?_
        refine gy rfl rfl rfl S (y_add rfl S rfl rfl (by omega)) fun a S => ?_
        refine gy rfl rfl rfl S (y_assign rfl S rfl) fun a S => ?_
        refine gl_nil ?_
        refine n_then ?_
        exact ⟨k + 1, S.nil.cons S 14 rfl, (((((S.nil.cons S 1 rfl).cons S 0 rfl).cons S 7 rfl).cons S 8 rfl).cons S 10 rfl).cons S 11 rfl, ⟨by omega, H.take [OSl 4 (.slice (some ⟨b67, 0, none⟩) next.length next.length) 1 encB (seenB next.length (posK (tosS (msA.map Mv.say)) msA.length)), Cel b8 29 [mvA, vlA, vrA], OSl 50 mvA 3 Mv.enc msA, RowsA 3 1 encI (rowsOf msA), OSl 3 vlA 1 encI (clP old next ts), OSl 3 vrA 1 encI (crP old next ts), OSl 47 u50 11 Ow.enc (movedL ts), Sl v3 11 Ow.enc ts, Sl v2 9 Pl.enc next, Sl v1 9 Pl.enc old]⟩, by omega⟩
     ·have h15p := h15; try simp only [DL] at h15p
      skip
      refine g_exit ?_
      refine x_then (x_then (x_eq ?_))
      refine n_then ?_
      have S := S.nil.cons S 7 rfl
      refine g_seq ?_
      refine g_region ?_
      refine gy rfl rfl rfl S (y_move rfl S rfl) fun a S => ?_
      refine gy rfl rfl rfl S (y_assign rfl S rfl) fun a S => ?_
      refine gl_nil ?_
      refine n_then ?_
      refine g_ret ?_
      refine ret1 rfl S rfl ?_
      exact ⟨rfl, H.toExt⟩

end Go.Proofs.Ytenaoaegichecaa
