/- The walks. No condition. -/
import Derived.Test.YtenaoaegichecaaChecked
import Derived.Test.YtenaoaegichecaaGwBits
import Derived.Test.YtenaoaegichecaaFacts
import Derived.Test.YtenaoaegichecaaPlain
import Derived.Test.YtenaoaegichecaaPlainX
import Derived.Test.YtenaoaegichecaaW17
namespace Go.Proofs.Ytenaoaegichecaa
open Go Go.Gw
set_option linter.unusedVariables false
set_option linter.unusedSimpArgs false
set_option maxHeartbeats 4000000 in
/-- foyer/foyerlaw41.RebuildMost -/
theorem law4 (v1 v2 : Value) (old next : List Pl) (v3 : Value) (ts : List Ow) (w0 : World) (hv1 : IsSl w0 v1 9 Pl.enc old) (hv2 : IsSl w0 v2 9 Pl.enc next) (hv3 : IsSl w0 v3 11 Ow.enc ts) (hok : ∀ o ∈ ts, o.ok) (mvv vl vr : Value) (ms : List Mv) (left right : List Int) (hmv : IsSl w0 mvv 3 Mv.enc ms) (hmr : ∀ p ∈ rowsOf ms, IsSl w0 p.1 1 encI p.2) (hvl : IsSl w0 vl 1 encI left) (hvr : IsSl w0 vr 1 encI right) (hcl : capOK vl) (vp : Value) (pls : List Int) (hvp : IsSl w0 vp 1 encI pls) :
    Ret Try.prog 6 #[v1, v2, v3, .agg #[mvv, vl, vr], vp] w0 (fun v w => v = .bool true ∧ Ext w0 w) := by
 refine ret_of_wp (nt := 123) Try.func6 rfl rfl rfl (fl := [(0, v1), (1, v2), (2, v3), (3, .agg #[mvv, vl, vr]), (4, vp)]) rfl (fun a S => ?_)
 have H := HSat.start w0
 have H := H.ro0 (Sl v1 9 Pl.enc old) rfl (hv1)
 have H := H.ro0 (Sl v2 9 Pl.enc next) rfl (hv2)
 have H := H.ro0 (Sl v3 11 Ow.enc ts) rfl (hv3)
 have H := H.ro0 (Sl vl 1 encI left) rfl (hvl)
 have H := H.ro0 (Sl vr 1 encI right) rfl (hvr)
 have H := H.ro0 (Sl mvv 3 Mv.enc ms) rfl (hmv)
 have H := H.ro0 (RowsS 1 encI (rowsOf ms)) rfl (hmr)
 have H := H.ro0 (Sl vp 1 encI pls) rfl (hvp)
 have hl1 := hv1.len
 have hl2 := hv2.len
 have hl3 := hv3.len
 have hlm := hmv.len
 have hlpl := hvp.len
 refine g_seq ?_
 refine g_region ?_
 refine wl_of (op_boxa (wn rfl) rfl rfl rfl S H rfl fun b8 a w S H => ?_)
 refine gy rfl rfl rfl S (y_assign rfl S rfl) fun a S => ?_
 refine gl_nil ?_
 refine n_then ?_
 refine g_seq ?_
 refine g_region ?_
 refine wl_of (op_call (wn rfl) rfl rfl S (co_func rfl Try.call11 S rfl) (head_spec _) fun v w hc a S => ?_)
 obtain ⟨rfl, he⟩ := hc
 have H := H.ext he
 refine gy rfl rfl rfl S (y_assign rfl S rfl) fun a S => ?_
 refine gl_nil ?_
 refine n_then ?_
 refine g_seq ?_
 refine g_seq ?_
 refine g_region ?_
 refine gy rfl rfl rfl S (y_move rfl S rfl) fun a S => ?_
 refine gy rfl rfl rfl S (y_move rfl S rfl) fun a S => ?_
 refine gy rfl rfl rfl S (y_move rfl S rfl) fun a S => ?_
 refine wl_of (op_call (wn rfl) rfl rfl S (co_func rfl Try.call12 S rfl) (few_spec v1 v2 old next v3 ts 20 _ (H.sl v1) (H.sl v2) (H.sl v3)) fun v w hc a S => ?_)
 obtain ⟨rfl, he⟩ := hc
 have H := H.ext he
 refine gy rfl rfl rfl S (y_not rfl S rfl) fun a S => ?_
 refine gy rfl rfl rfl S (y_move rfl S rfl) fun a S => ?_
 refine' wl_or 3 26 rfl S H rfl rfl rfl rfl rfl rfl rfl (fun _ S => (wn rfl)) (fun h1 kk => ?yh1) (fun a w S H => ?_)
 case yh1 =>
  have h1p := h1; try simp only [DL] at h1p
  refine gz 26 h1 S rfl rfl rfl rfl rfl rfl (y_load0 rfl S H rfl (by exact Fagg29)) fun a S => ?_
  refine wl_of (op_call (wg' 26 rfl rfl S rfl h1 rfl) rfl rfl S (co_func rfl Try.call13 S rfl) (short_spec mvv vl vr ms left right _ (H.sl mvv) (H.rwsS (rowsOf ms)) (H.sl vl) (H.sl vr)) fun v w hc a S => ?_)
  obtain ⟨rfl, he⟩ := hc
  have H := H.ext he
  refine gz 26 h1 S rfl rfl rfl rfl rfl rfl (y_not rfl S rfl) fun a S => ?_
  refine gy rfl rfl rfl S (y_or' rfl h1 S rfl rfl) fun a S => ?_
  exact kk _ _ (S.join 4 30 rfl rfl) H
 refine gy rfl rfl rfl S (y_move rfl S rfl) fun a S => ?_
 refine' wl_or 3 31 rfl S H rfl rfl rfl rfl rfl rfl rfl (fun _ S => (wn rfl)) (fun h2 kk => ?yh2) (fun a w S H => ?_)
 case yh2 =>
  have h2p := h2; try simp only [DL] at h2p
  refine gz 31 h2 S rfl rfl rfl rfl rfl rfl (y_move rfl S rfl) fun a S => ?_
  refine gz 31 h2 S rfl rfl rfl rfl rfl rfl (y_lens rfl Try.underlying25 S H rfl) fun a S => ?_
  refine gz 31 h2 S rfl rfl rfl rfl rfl rfl (y_bin rfl S rfl rfl rfl) fun a S => ?_
  refine gy rfl rfl rfl S (y_or' rfl h2 S rfl rfl) fun a S => ?_
  exact kk _ _ (S.join 4 35 rfl rfl) H
 refine gl_nil ?_
 refine n_then ?_
 have S := (((((((S.nil.cons S 4 rfl).cons S 2 rfl).cons S 1 rfl).cons S 0 rfl).cons S 8 rfl).cons S 10 rfl).cons S 11 rfl).cons S 35 rfl
 refine c_if S rfl (fun h3 => ?_) (fun h3 => ?_)
 ·have h3p := h3; try simp only [DL] at h3p
  refine g_seq ?_
  refine g_region ?_
  refine gy rfl rfl rfl S (y_move rfl S rfl) fun a S => ?_
  refine gy rfl rfl rfl S (y_assign rfl S rfl) fun a S => ?_
  refine gl_nil ?_
  refine n_then ?_
  refine g_ret ?_
  refine r_then (ret1 rfl S rfl ?_)
  exact ⟨rfl, H.toExt⟩
 ·have h3p := h3; try simp only [DL] at h3p
  have hfs := h3
  simp only [Bool.or_eq_false_iff, Bool.not_eq_false', Bool.and_eq_true, decide_eq_true_eq, decide_eq_false_iff_not] at hfs
  have hsh := short_parts hfs.1.2
  have hfw : old.length ≤ 20 ∧ next.length ≤ 20 ∧ ts.length ≤ 20 := by have := hfs.1.1; omega
  have hlp40 : pls.length ≤ 40 := by have := hfs.2; omega
  refine g_skip ?_
  refine n_then ?_
  refine g_seq ?_
  refine g_region ?_
  refine gy rfl rfl rfl S (y_move rfl S rfl) fun a S => ?_
  refine gy rfl rfl rfl S (y_move rfl S rfl) fun a S => ?_
  refine gy rfl rfl rfl S (y_move rfl S rfl) fun a S => ?_
  refine wl_of (op_call (wn rfl) rfl rfl S (co_func rfl Try.call14 S rfl) (plan_any v1 v2 old next v3 ts _ (H.sl v1) (H.sl v2) (H.sl v3) hok (by omega)) fun v w hc a S => ?_)
  obtain ⟨mvA, vlA, vrA, msA, rfl, hmA, H1⟩ := hc
  have H := H.call4 H1 rfl rfl rfl rfl
  have hclA := clP_len old next ts (by omega)
  have hcrA := crP_len old next ts (by omega)
  refine gy rfl rfl rfl S (y_move rfl S rfl) fun a S => ?_
  refine gy rfl rfl rfl S (y_extract rfl S rfl rfl) fun a S => ?_
  refine gy rfl rfl rfl S (y_extract rfl S rfl rfl) fun a S => ?_
  refine wl_of (op_alloc (wn rfl) rfl rfl rfl S H Fzer29 fun b12 a w S H => ?_)
  refine wl_of (op_storea (wn rfl) rfl rfl S H rfl rfl (by simp only [List.all_cons, List.all_nil, H.sl1 mvA, H.sl1 vlA, H.sl1 vrA, Bool.true_and]) Fsiz29 rfl (cs' := [_, _, _]) rfl fun a w S H => ?_)
  refine gy rfl rfl rfl S (y_assign rfl S rfl) fun a S => ?_
  refine gl_nil ?_
  refine n_then ?_
  have S := ((((((((S.nil.cons S 4 rfl).cons S 2 rfl).cons S 1 rfl).cons S 0 rfl).cons S 8 rfl).cons S 10 rfl).cons S 11 rfl).cons S 12 rfl).cons S 13 rfl
  refine g_seq ?_
  refine g_seq ?_
  refine g_region ?_
  refine gy rfl rfl rfl S (y_move rfl S rfl) fun a S => ?_
  refine gy rfl rfl rfl S (y_bin rfl S rfl rfl rfl) fun a S => ?_
  refine gl_nil ?_
  refine n_then ?_
  refine c_if S rfl (fun h4 => ?_) (fun h4 => ?_)
  ·have h4p := h4; try simp only [DL] at h4p
   refine g_seq ?_
   refine g_region ?_
   refine gy rfl rfl rfl S (y_move rfl S rfl) fun a S => ?_
   refine gy rfl rfl rfl S (y_assign rfl S rfl) fun a S => ?_
   refine gl_nil ?_
   refine n_then ?_
   have S := (((((((S.nil.cons S 4 rfl).cons S 2 rfl).cons S 1 rfl).cons S 0 rfl).cons S 8 rfl).cons S 11 rfl).cons S 12 rfl).cons S 10 rfl
   refine g_ret ?_
   refine r_then (ret1 rfl S rfl ?_)
   exact ⟨rfl, H.toExt⟩
  ·have h4p := h4; try simp only [DL] at h4p
   have herr : errP old next ts = 0 := by have := h4p; simpa using this
   have hM := planM herr hmA
   have hlen := hM.len
   have hmle := moved_len ts
   refine g_skip ?_
   refine n_then ?_
   refine g_seq ?_
   refine g_region ?_
   refine gy rfl rfl rfl S (y_load0 rfl S H rfl (by exact Fagg29)) fun a S => ?_
   refine wl_of (op_call (wn rfl) rfl rfl S (co_func rfl Try.call22 S rfl) (placed_spec mvA vlA vrA msA _ (H.sl mvA)) fun v w hc a S => ?_)
   obtain ⟨rfl, he⟩ := hc
   have H := H.ext he
   refine gy rfl rfl rfl S (y_assign rfl S rfl) fun a S => ?_
   refine gl_nil ?_
   refine n_then ?_
   have S := (((((((S.nil.cons S 4 rfl).cons S 2 rfl).cons S 1 rfl).cons S 0 rfl).cons S 8 rfl).cons S 10 rfl).cons S 11 rfl).cons S 14 rfl
   refine g_seq ?_
   refine g_seq ?_
   refine g_region ?_
   refine gy rfl rfl rfl S (y_move rfl S rfl) fun a S => ?_
   refine gy rfl rfl rfl S (y_move rfl S rfl) fun a S => ?_
   refine gy rfl rfl rfl S (y_move rfl S rfl) fun a S => ?_
   refine gy rfl rfl rfl S (y_load0 rfl S H rfl (by exact Fagg29)) fun a S => ?_
   refine wl_of (op_call (wn rfl) rfl rfl S (co_func rfl Try.call17 S rfl) (check_any v1 v2 old next v3 ts _ (H.sl v1) (H.sl v2) (H.sl v3) hok (by omega) mvv vl vr ms left right (H.sl mvv) (H.rwsS (rowsOf ms)) (H.sl vl) (H.sl vr) hcl (by omega) (by omega)) fun v w hc a S => ?_)
   obtain ⟨rfl, he⟩ := hc
   have H := H.ext he
   refine gy rfl rfl rfl S (y_move rfl S rfl) fun a S => ?_
   refine' wl_and 4 54 rfl S H rfl rfl rfl rfl rfl rfl rfl (fun _ S => (wn rfl)) (fun h5 kk => ?yh5) (fun a w S H => ?_)
   case yh5 =>
    have h5p := h5; try simp only [DL] at h5p
    refine gz 54 h5 S rfl rfl rfl rfl rfl rfl (y_load0 rfl S H rfl (by exact Fagg29)) fun a S => ?_
    refine wl_of (op_call (wg' 54 rfl rfl S rfl h5 rfl) rfl rfl S (co_func rfl Try.call22 S rfl) (placed_spec mvv vl vr ms _ (H.sl mvv)) fun v w hc a S => ?_)
    obtain ⟨rfl, he⟩ := hc
    have H := H.ext he
    refine gz 54 h5 S rfl rfl rfl rfl rfl rfl (y_move rfl S rfl) fun a S => ?_
    refine gz 54 h5 S rfl rfl rfl rfl rfl rfl (y_bin rfl S rfl rfl rfl) fun a S => ?_
    refine gy rfl rfl rfl S (y_and' rfl h5 S rfl rfl) fun a S => ?_
    exact kk _ _ (S.join 5 59 rfl rfl) H
   refine gl_nil ?_
   refine n_then ?_
   have S := (((((((S.nil.cons S 4 rfl).cons S 2 rfl).cons S 1 rfl).cons S 0 rfl).cons S 10 rfl).cons S 11 rfl).cons S 14 rfl).cons S 59 rfl
   refine c_if S rfl (fun h6 => ?_) (fun h6 => ?_)
   ·have h6p := h6; try simp only [DL] at h6p
    all_goals (
      exfalso
      have hx3 := h6
      simp only [Bool.and_eq_true, bne_iff_ne, ne_eq] at hx3
      exact hx3.2 (by have := hM.other hx3.1; omega))
   ·have h6p := h6; try simp only [DL] at h6p
    refine g_skip ?_
    refine n_then ?_
    refine g_seq ?_
    refine g_region ?_
    refine gy rfl rfl rfl S (y_move rfl S rfl) fun a S => ?_
    refine wl_of (op_call (wn rfl) rfl rfl S (co_func rfl Try.call20 S rfl) (moved_spec v3 ts _ (H.sl v3) hok (by omega)) fun u61 w hc a S => ?_)
    have H1 := hc
    have H := H.call1 H1 rfl
    refine gy rfl rfl rfl S (y_assign rfl S rfl) fun a S => ?_
    refine gl_nil ?_
    refine n_then ?_
    have S := ((((((S.nil.cons S 4 rfl).cons S 1 rfl).cons S 0 rfl).cons S 10 rfl).cons S 11 rfl).cons S 14 rfl).cons S 15 rfl
    refine g_seq ?_
    refine g_region ?_
    refine gy rfl rfl rfl S (y_assign rfl S rfl) fun a S => ?_
    refine gl_nil ?_
    refine n_then ?_
    refine g_seq ?_
    refine g_region ?_
    refine gy rfl rfl rfl S (y_move rfl S rfl) fun a S => ?_
    refine gy rfl rfl rfl S (y_lens rfl Try.underlying22 S H rfl) fun a S => ?_
    refine wl_of (op_make (encB) (false) (wn rfl) rfl rfl rfl Try.underlying53 Finf4 rfl rfl S H rfl rfl rfl (by omega) (by omega) fun b64 a w S H => ?_)
    rw [← seenB_nil] at H
    refine gy rfl rfl rfl S (y_assign rfl S rfl) fun a S => ?_
    refine gl_nil ?_
    refine n_then ?_
    refine g_seq ?_
    refine g_seq ?_
    refine g_region ?_
    refine gy rfl rfl rfl S (y_assign rfl S rfl) fun a S => ?_
    refine gl_nil ?_
    refine n_then ?_
    refine g_block ?_
    have SU := (((((((S.nil.cons S 4 rfl).cons S 1 rfl).cons S 0 rfl).cons S 10 rfl).cons S 11 rfl).cons S 14 rfl).cons S 15 rfl).cons S 17 rfl
    refine loopW (X := Nat × List Int) SU (fun x => [(16, .int .i64 (cntG x.2 x.1 : Int)), (18, .int .i64 (x.1 : Int))]) (fun x w => x.1 ≤ (movedL ts).length ∧ GotI (edgesL (oldL old (movedL ts)) next) x.2 x.1 ∧ HSat No w0 [OSl 4 (.slice (some ⟨b64, 0, none⟩) next.length next.length) 1 encB (seenB next.length (posK (x.2) x.1)), Cel b12 29 [mvA, vlA, vrA], OSl 50 mvA 3 Mv.enc msA, RowsA 3 1 encI (rowsOf msA), OSl 3 vlA 1 encI (clP old next ts), OSl 3 vrA 1 encI (crP old next ts), OSl 47 u61 11 Ow.enc (movedL ts), Sl vp 1 encI pls, RowsS 1 encI (rowsOf ms), Sl mvv 3 Mv.enc ms, Sl vr 1 encI right, Sl vl 1 encI left, Sl v3 11 Ow.enc ts, Sl v2 9 Pl.enc next, Sl v1 9 Pl.enc old] w) (fun x => (movedL ts).length - x.1) (0, []) ((S.nil.cons S 18 rfl).cons S 16 rfl) (⟨by simp, gotI_start _, H.take [OSl 4 (.slice (some ⟨b64, 0, none⟩) next.length next.length) 1 encB (seenB next.length []), Cel b12 29 [mvA, vlA, vrA], OSl 50 mvA 3 Mv.enc msA, RowsA 3 1 encI (rowsOf msA), OSl 3 vlA 1 encI (clP old next ts), OSl 3 vrA 1 encI (crP old next ts), OSl 47 u61 11 Ow.enc (movedL ts), Sl vp 1 encI pls, RowsS 1 encI (rowsOf ms), Sl mvv 3 Mv.enc ms, Sl vr 1 encI right, Sl vl 1 encI left, Sl v3 11 Ow.enc ts, Sl v2 9 Pl.enc next, Sl v1 9 Pl.enc old]⟩) (fun x a w S hW => ?_)
    simp only [List.cons_append, List.nil_append] at S
    clear H
    obtain ⟨k, g⟩ := x
    obtain ⟨hk, hg, H⟩ := hW
    dsimp only at S H hk hg
    refine g_seq ?_
    refine g_seq ?_
    refine g_region ?_
    refine gy rfl rfl rfl S (y_move rfl S rfl) fun a S => ?_
    refine gy rfl rfl rfl S (y_move rfl S rfl) fun a S => ?_
    refine gy rfl rfl rfl S (y_lens rfl Try.underlying23 S H rfl) fun a S => ?_
    refine gy rfl rfl rfl S (y_bin rfl S rfl rfl rfl) fun a S => ?_
    refine gy rfl rfl rfl S (y_move rfl S rfl) fun a S => ?_
    refine' wl_and 4 69 rfl S H rfl rfl rfl rfl rfl rfl rfl (fun _ S => (wn rfl)) (fun h7 kk => ?yh7) (fun a w S H => ?_)
    case yh7 =>
     have h7p := h7; try simp only [DL] at h7p
     refine gz 69 h7 S rfl rfl rfl rfl rfl rfl (y_move rfl S rfl) fun a S => ?_
     refine gz 69 h7 S rfl rfl rfl rfl rfl rfl (y_move rfl S rfl) fun a S => ?_
     refine gz 69 h7 S rfl rfl rfl rfl rfl rfl (y_lens rfl Try.underlying25 S H rfl) fun a S => ?_
     refine gz 69 h7 S rfl rfl rfl rfl rfl rfl (y_bin rfl S rfl rfl rfl) fun a S => ?_
     refine gy rfl rfl rfl S (y_and' rfl h7 S rfl rfl) fun a S => ?_
     exact kk _ _ (S.join 5 74 rfl rfl) H
    refine gl_nil ?_
    refine n_then ?_
    refine c_if S rfl (fun h8 => ?_) (fun h8 => ?_)
    ·have h8p := h8; try simp only [DL] at h8p
     have hc4 := h8
     simp only [Bool.and_eq_true, decide_eq_true_eq] at hc4
     have hkt : k < (movedL ts).length := by omega
     have hkq : k < pls.length := by omega
     have hcg := cntG_le g k
     obtain ⟨x, hx⟩ : ∃ x : Nat, (movedL ts)[k].place = x := ⟨(movedL ts)[k].place.toNat, by have := hM.place hkt; omega⟩
     have hxn : x < old.length := by have := hM.place hkt; omega
     have hko : k < (oldL old (movedL ts)).length := by rw [old_len]; exact hkt
     have hoa := oldL_at hkt hx hxn hko
     refine g_skip ?_
     refine n_then ?_
     refine g_seq ?_
     refine g_block ?_
     refine g_seq ?_
     refine g_region ?_
     refine gy rfl rfl rfl S (y_move rfl S rfl) fun a S => ?_
     refine gy rfl rfl rfl S (y_move rfl S rfl) fun a S => ?_
     refine gy rfl rfl rfl S (y_iaddrn rfl Try.underlying25 Fsiz3 S H rfl rfl (by first | assumption | omega | (rw [seenB_len]; omega))) fun a S => ?_
     refine gy rfl rfl rfl S (y_loads _ rfl Fsca3 S H rfl (by first | assumption | omega | (rw [seenB_len]; omega)) rfl) fun a S => ?_
     refine gy rfl rfl rfl S (y_assign rfl S rfl) fun a S => ?_
     refine gl_nil ?_
     refine n_then ?_
     refine g_seq ?_
     refine region_st (loud := []) (tails := []) (free := []) [0, 1, 2, 3, 4, 5, 6, 7, 8, 9, 10, 11, 12, 13, 14, 15, 16, 17, 18, 19, 20, 21, 22, 23, 24, 25, 26, 27, 28, 29, 30] [] Fmo (by kernel_rfl) (by kernel_rfl) rfl H ?_
     refine m_w rfl rfl (wn rfl) rfl rfl S (fun w H => y_move rfl S rfl) fun a S => ?_
     refine m_w rfl rfl (wn rfl) rfl rfl S (fun w H => y_bin rfl S rfl rfl rfl) fun a S => ?_
     refine m_w rfl rfl (wn rfl) rfl rfl S (fun w H => y_move rfl S rfl) fun a S => ?_
     refine' m_andq [3, 4, 5, 6] 83 S rfl rfl rfl rfl rfl rfl rfl rfl rfl (fun _ S => (wn rfl)) (fun h9 kk => ?yh9) (fun a S => ?_)
     case yh9 =>
      have h9p := h9; try simp only [DL] at h9p
      refine m_w rfl rfl (wg' 83 rfl rfl S rfl h9 rfl) rfl rfl S (fun w H => y_move rfl S rfl) fun a S => ?_
      refine m_w rfl rfl (wg' 83 rfl rfl S rfl h9 rfl) rfl rfl S (fun w H => y_move rfl S rfl) fun a S => ?_
      refine m_w rfl rfl (wg' 83 rfl rfl S rfl h9 rfl) rfl rfl S (fun w H => y_lens rfl Try.underlying22 S H rfl) fun a S => ?_
      refine m_w rfl rfl (wg' 83 rfl rfl S rfl h9 rfl) rfl rfl S (fun w H => y_bin rfl S rfl rfl rfl) fun a S => ?_
      refine m_w rfl rfl (wn rfl) rfl rfl S (fun w H => y_and' rfl h9 S rfl rfl) fun a S => ?_
      exact kk _ (S.join 5 88 rfl rfl)
     refine m_w rfl rfl (wn rfl) rfl rfl S (fun w H => y_move rfl S rfl) fun a S => ?_
     refine' m_andq [9, 10, 11, 12, 13] 89 S rfl rfl rfl rfl rfl rfl rfl rfl rfl (fun _ S => (wn rfl)) (fun h10 kk => ?yh10) (fun a S => ?_)
     case yh10 =>
      have h10p := h10; try simp only [DL] at h10p
      refine m_w rfl rfl (wg' 89 rfl rfl S rfl h10 rfl) rfl rfl S (fun w H => y_move rfl S rfl) fun a S => ?_
      refine m_w rfl rfl (wg' 89 rfl rfl S rfl h10 rfl) rfl rfl S (fun w H => y_move rfl S rfl) fun a S => ?_
      refine m_w rfl rfl (wg' 89 rfl rfl S rfl h10 rfl) rfl rfl S (fun w H => y_iaddrs rfl Try.underlying53 Fsiz4 S H rfl rfl (by first | assumption | omega | (rw [seenB_len]; omega))) fun a S => ?_
      refine m_w rfl rfl (wg' 89 rfl rfl S rfl h10 rfl) rfl rfl S (fun w H => y_loadsD _ false rfl Fsca4 S H rfl (by rw [seenB_len]; omega) rfl) fun a S => ?_
      refine m_w rfl rfl (wg' 89 rfl rfl S rfl h10 rfl) rfl rfl S (fun w H => y_not rfl S rfl) fun a S => ?_
      refine m_w rfl rfl (wn rfl) rfl rfl S (fun w H => y_and' rfl h10 S rfl rfl) fun a S => ?_
      exact kk _ (S.join 6 95 rfl rfl)
     refine m_w rfl rfl (wn rfl) rfl rfl S (fun w H => y_move rfl S rfl) fun a S => ?_
     refine' m_andq [16, 17, 18, 19, 20, 21, 22, 23, 24, 25, 26, 27, 28, 29] 96 S rfl rfl rfl rfl rfl rfl rfl rfl rfl (fun _ S => (wn rfl)) (fun h11 kk => ?yh11) (fun a S => ?_)
     case yh11 =>
      have h11p := h11; try simp only [DL] at h11p
      refine m_w rfl rfl (wg' 96 rfl rfl S rfl h11 rfl) rfl rfl S (fun w H => y_move rfl S rfl) fun a S => ?_
      refine m_w rfl rfl (wg' 96 rfl rfl S rfl h11 rfl) rfl rfl S (fun w H => y_move rfl S rfl) fun a S => ?_
      refine m_w rfl rfl (wg' 96 rfl rfl S rfl h11 rfl) rfl rfl S (fun w H => y_iaddrs rfl Try.underlying22 Fsiz56 S H rfl rfl (by first | assumption | omega | (rw [seenB_len]; omega))) fun a S => ?_
      refine m_w rfl rfl (wg' 96 rfl rfl S rfl h11 rfl) rfl rfl S (fun w H => y_loadsaD _ pl0 rfl S H rfl (by exact Fagg56) (by omega) rfl) fun a S => ?_
      refine m_w rfl rfl (wg' 96 rfl rfl S rfl h11 rfl) rfl rfl S (fun w H => y_move rfl S rfl) fun a S => ?_
      refine m_w rfl rfl (wg' 96 rfl rfl S rfl h11 rfl) rfl rfl S (fun w H => y_move rfl S rfl) fun a S => ?_
      refine m_w rfl rfl (wg' 96 rfl rfl S rfl h11 rfl) rfl rfl S (fun w H => y_move rfl S rfl) fun a S => ?_
      refine m_w rfl rfl (wg' 96 rfl rfl S rfl h11 rfl) rfl rfl S (fun w H => y_iaddrn rfl Try.underlying23 Fsiz47 S H rfl rfl (by first | assumption | omega | (rw [seenB_len]; omega))) fun a S => ?_
      refine m_w rfl rfl (wg' 96 rfl rfl S rfl h11 rfl) rfl rfl S (fun w H => y_faddr rfl Ffo47_0 S rfl) fun a S => ?_
      refine m_w rfl rfl (wg' 96 rfl rfl S rfl h11 rfl) rfl rfl S (fun w H => y_faddr rfl Ffo41_2 S rfl) fun a S => ?_
      refine m_loadsff _ rfl rfl (wg' 96 rfl rfl S rfl h11 rfl) rfl rfl S rfl Fsca3 rfl (by first | assumption | omega | (rw [seenB_len]; omega)) rfl fun a S => ?_
      rw [hx] at S
      refine m_w rfl rfl (wg' 96 rfl rfl S rfl h11 rfl) rfl rfl S (fun w H => y_iaddrn rfl Try.underlying22 Fsiz56 S H rfl rfl (by first | assumption | omega | (rw [seenB_len]; omega))) fun a S => ?_
      refine m_loadsa _ rfl rfl (wg' 96 rfl rfl S rfl h11 rfl) rfl rfl S rfl rfl (by exact Fagg56) (by first | assumption | omega | (rw [seenB_len]; omega)) fun a S => ?_
      refine m_c rfl rfl (wg' 96 rfl rfl S rfl h11 rfl) rfl rfl S (fun w => co_func rfl Try.call21 S rfl) (fun w H => atLeast_spec (next.getD pls[k].toNat pl0) old[x] _) fun a S => ?_
      refine m_w rfl rfl (wn rfl) rfl rfl S (fun w H => y_and' rfl h11 S rfl rfl) fun a S => ?_
      exact kk _ (S.join 15 111 rfl rfl)
     refine m_nil (fun w H => ?_)
     refine n_then ?_
     refine c_if S rfl (fun h12 => ?_) (fun h12 => ?_)
     ·have h12p := h12; try simp only [DL] at h12p
      have hc5 := h12
      simp only [Bool.and_eq_true, decide_eq_true_eq, Bool.not_eq_true'] at hc5
      obtain ⟨m, hm⟩ : ∃ m : Nat, pls[k] = m := ⟨pls[k].toNat, by omega⟩
      rw [hm, Int.toNat_natCast] at hc5
      have hmn : m < next.length := by omega
      rw [seenB_getD _ _ _ hmn, decide_eq_false_iff_not, List.getD_eq_getElem?_getD, List.getElem?_eq_getElem hmn, Option.getD_some] at hc5
      have hg2 := gotI_yes hg (n := m) (row_in hko hmn (by rw [hoa]; exact hc5.2)) hc5.1.2
      have hps2 := posK_snoc hg.len m
      have hcn2 := cntG_snoc hg.len m
      refine g_seq ?_
      refine g_region ?_
      refine gy rfl rfl rfl S (y_move rfl S rfl) fun a S => ?_
      refine gy rfl rfl rfl S (y_move rfl S rfl) fun a S => ?_
      rw [hm] at S
      refine gy rfl rfl rfl S (y_iaddrn rfl Try.underlying53 Fsiz4 S H rfl rfl (by first | assumption | omega | (rw [seenB_len]; omega))) fun a S => ?_
      refine wl_of (op_store1 _ (true) (wn rfl) rfl rfl S H rfl rfl rfl rfl Fsiz4 (by first | assumption | omega | (rw [seenB_len]; omega)) (by exact rfl) fun a w S H => ?_)
      refine gl_nil ?_
      refine n_then ?_
      refine g_region ?_
      refine gy rfl rfl rfl S (y_move rfl S rfl) fun a S => ?_
      refine gy rfl rfl rfl S (y_add rfl S rfl rfl (by omega)) fun a S => ?_
      refine gy rfl rfl rfl S (y_assign rfl S rfl) fun a S => ?_
      refine gl_nil ?_
      refine n_block ?_
      refine n_then ?_
      refine g_region ?_
      refine gy rfl rfl rfl S (y_move rfl S rfl) fun a S => ?_
      refine gy rfl rfl rfl S (y_add rfl S rfl rfl (by omega)) fun a S => ?_
      refine gy rfl rfl rfl S (y_assign rfl S rfl) fun a S => ?_
      refine gl_nil ?_
      refine n_then ?_
      first
      | (rw [seenB_set] at H
         exact ⟨(k + 1, g ++ [(m : Int)]), (S.nil.cons S 18 rfl).cons S 16 (by dsimp only; rw [hcn2]; rfl), (((((((S.nil.cons S 4 rfl).cons S 1 rfl).cons S 0 rfl).cons S 10 rfl).cons S 11 rfl).cons S 14 rfl).cons S 15 rfl).cons S 17 rfl, ⟨by dsimp only; omega, hg2, by dsimp only; rw [hps2]; exact H.take [OSl 4 (.slice (some ⟨b64, 0, none⟩) next.length next.length) 1 encB (seenB next.length ((m : Int) :: posK g k)), Cel b12 29 [mvA, vlA, vrA], OSl 50 mvA 3 Mv.enc msA, RowsA 3 1 encI (rowsOf msA), OSl 3 vlA 1 encI (clP old next ts), OSl 3 vrA 1 encI (crP old next ts), OSl 47 u61 11 Ow.enc (movedL ts), Sl vp 1 encI pls, RowsS 1 encI (rowsOf ms), Sl mvv 3 Mv.enc ms, Sl vr 1 encI right, Sl vl 1 encI left, Sl v3 11 Ow.enc ts, Sl v2 9 Pl.enc next, Sl v1 9 Pl.enc old]⟩, by dsimp only; omega⟩)
      | exact ⟨(k + 1, g ++ [-1]), (S.nil.cons S 18 rfl).cons S 16 (by dsimp only; rw [hcn2]; rfl), (((((((S.nil.cons S 4 rfl).cons S 1 rfl).cons S 0 rfl).cons S 10 rfl).cons S 11 rfl).cons S 14 rfl).cons S 15 rfl).cons S 17 rfl, ⟨by dsimp only; omega, hg2, by dsimp only; rw [hps2]; exact H.take [OSl 4 (.slice (some ⟨b64, 0, none⟩) next.length next.length) 1 encB (seenB next.length (posK (g) k)), Cel b12 29 [mvA, vlA, vrA], OSl 50 mvA 3 Mv.enc msA, RowsA 3 1 encI (rowsOf msA), OSl 3 vlA 1 encI (clP old next ts), OSl 3 vrA 1 encI (crP old next ts), OSl 47 u61 11 Ow.enc (movedL ts), Sl vp 1 encI pls, RowsS 1 encI (rowsOf ms), Sl mvv 3 Mv.enc ms, Sl vr 1 encI right, Sl vl 1 encI left, Sl v3 11 Ow.enc ts, Sl v2 9 Pl.enc next, Sl v1 9 Pl.enc old]⟩, by dsimp only; omega⟩
     ·have h12p := h12; try simp only [DL] at h12p
      have hg2 := gotI_no hg
      have hps2 := posK_snoc_no hg.len
      have hcn2 := cntG_snoc_no hg.len
      refine g_skip ?_
      refine n_block ?_
      refine n_then ?_
      refine g_region ?_
      refine gy rfl rfl rfl S (y_move rfl S rfl) fun a S => ?_
      refine gy rfl rfl rfl S (y_add rfl S rfl rfl (by omega)) fun a S => ?_
      refine gy rfl rfl rfl S (y_assign rfl S rfl) fun a S => ?_
      refine gl_nil ?_
      refine n_then ?_
      first
      | (rw [seenB_set] at H
         exact ⟨(k + 1, g ++ [(m : Int)]), (S.nil.cons S 18 rfl).cons S 16 (by dsimp only; rw [hcn2]; rfl), (((((((S.nil.cons S 4 rfl).cons S 1 rfl).cons S 0 rfl).cons S 10 rfl).cons S 11 rfl).cons S 14 rfl).cons S 15 rfl).cons S 17 rfl, ⟨by dsimp only; omega, hg2, by dsimp only; rw [hps2]; exact H.take [OSl 4 (.slice (some ⟨b64, 0, none⟩) next.length next.length) 1 encB (seenB next.length ((m : Int) :: posK g k)), Cel b12 29 [mvA, vlA, vrA], OSl 50 mvA 3 Mv.enc msA, RowsA 3 1 encI (rowsOf msA), OSl 3 vlA 1 encI (clP old next ts), OSl 3 vrA 1 encI (crP old next ts), OSl 47 u61 11 Ow.enc (movedL ts), Sl vp 1 encI pls, RowsS 1 encI (rowsOf ms), Sl mvv 3 Mv.enc ms, Sl vr 1 encI right, Sl vl 1 encI left, Sl v3 11 Ow.enc ts, Sl v2 9 Pl.enc next, Sl v1 9 Pl.enc old]⟩, by dsimp only; omega⟩)
      | exact ⟨(k + 1, g ++ [-1]), (S.nil.cons S 18 rfl).cons S 16 (by dsimp only; rw [hcn2]; rfl), (((((((S.nil.cons S 4 rfl).cons S 1 rfl).cons S 0 rfl).cons S 10 rfl).cons S 11 rfl).cons S 14 rfl).cons S 15 rfl).cons S 17 rfl, ⟨by dsimp only; omega, hg2, by dsimp only; rw [hps2]; exact H.take [OSl 4 (.slice (some ⟨b64, 0, none⟩) next.length next.length) 1 encB (seenB next.length (posK (g) k)), Cel b12 29 [mvA, vlA, vrA], OSl 50 mvA 3 Mv.enc msA, RowsA 3 1 encI (rowsOf msA), OSl 3 vlA 1 encI (clP old next ts), OSl 3 vrA 1 encI (crP old next ts), OSl 47 u61 11 Ow.enc (movedL ts), Sl vp 1 encI pls, RowsS 1 encI (rowsOf ms), Sl mvv 3 Mv.enc ms, Sl vr 1 encI right, Sl vl 1 encI left, Sl v3 11 Ow.enc ts, Sl v2 9 Pl.enc next, Sl v1 9 Pl.enc old]⟩, by dsimp only; omega⟩
    ·have h8p := h8; try simp only [DL] at h8p
     refine g_exit ?_
     refine x_then (x_then (x_eq ?_))
     refine n_then ?_
     have S := (((S.nil.cons S 10 rfl).cons S 11 rfl).cons S 14 rfl).cons S 16 rfl
     refine g_seq ?_
     refine g_region ?_
     refine gy rfl rfl rfl S (y_move rfl S rfl) fun a S => ?_
     refine gy rfl rfl rfl S (y_move rfl S rfl) fun a S => ?_
     refine' wl_and 3 118 rfl S H rfl rfl rfl rfl rfl rfl rfl (fun _ S => (wn rfl)) (fun h13 kk => ?yh13) (fun a w S H => ?_)
     case yh13 =>
      have h13p := h13; try simp only [DL] at h13p
      refine gz 118 h13 S rfl rfl rfl rfl rfl rfl (y_move rfl S rfl) fun a S => ?_
      refine gz 118 h13 S rfl rfl rfl rfl rfl rfl (y_move rfl S rfl) fun a S => ?_
      refine gz 118 h13 S rfl rfl rfl rfl rfl rfl (y_bin rfl S rfl rfl rfl) fun a S => ?_
      refine gy rfl rfl rfl S (y_and' rfl h13 S rfl rfl) fun a S => ?_
      exact kk _ _ (S.join 4 122 rfl rfl) H
     refine gy rfl rfl rfl S (y_assign rfl S rfl) fun a S => ?_
     refine gl_nil ?_
     refine n_then ?_
     have S := S.nil.cons S 10 rfl
     refine g_ret ?_
     refine ret1 rfl S rfl ?_
     exact ⟨congrArg Value.bool (by have := hM.most hg hk; simp only [Bool.true_and, decide_eq_true_eq]; omega), H.toExt⟩

end Go.Proofs.Ytenaoaegichecaa
