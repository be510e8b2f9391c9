/- The walks. No condition. -/
import Derived.Test.YtenaoaegichecaaChecked
import Derived.Test.YtenaoaegichecaaGwBits
import Derived.Test.YtenaoaegichecaaFacts
import Derived.Test.YtenaoaegichecaaPlain
import Derived.Test.YtenaoaegichecaaPlainV
import Derived.Test.YtenaoaegichecaaW15
namespace Go.Proofs.Ytenaoaegichecaa
open Go Go.Gw
set_option linter.unusedVariables false
set_option linter.unusedSimpArgs false
/-- foyer/foyerref41.Check -/
theorem rcheck41_err (v1 v2 : Value) (old next : List Pl) (v3 : Value) (ts : List Ow) (w0 : World) (hv1 : IsSl w0 v1 9 Pl.enc old) (hv2 : IsSl w0 v2 9 Pl.enc next) (hv3 : IsSl w0 v3 11 Ow.enc ts) (hok : ∀ o ∈ ts, o.ok) (hl1 : ts.length ≤ 100000) (mvv vl vr : Value) (ms : List Mv) (left right : List Int) (hmv : IsSl w0 mvv 3 Mv.enc ms) (hmr : ∀ p ∈ rowsOf ms, IsSl w0 p.1 1 encI p.2) (hvl : IsSl w0 vl 1 encI left) (hvr : IsSl w0 vr 1 encI right) (hcl : capOK vl) (hll : left.length ≤ 100000) (hlr : right.length ≤ 100000) (herr : errW old.length next.length (movedL ts) ≠ 0) :
    Ret Try.prog 18 #[v1, v2, v3, .agg #[mvv, vl, vr]] w0 (fun u w => u = .bool false ∧ Ext w0 w) := by
 refine ret_of_wp (nt := 125) Try.func18 rfl rfl rfl (fl := [(0, v1), (1, v2), (2, v3), (3, .agg #[mvv, vl, vr])]) rfl (fun a S => ?_)
 have H := HSat.start w0
 have H := H.ro0 (Sl v1 9 Pl.enc old) rfl (hv1)
 have H := H.ro0 (Sl v2 9 Pl.enc next) rfl (hv2)
 have H := H.ro0 (Sl v3 11 Ow.enc ts) rfl (hv3)
 have H := H.ro0 (Sl vl 1 encI left) rfl (hvl)
 have H := H.ro0 (Sl vr 1 encI right) rfl (hvr)
 have H := H.ro0 (Sl mvv 3 Mv.enc ms) rfl (hmv)
 have H := H.ro0 (RowsS 1 encI (rowsOf ms)) rfl (hmr)
 have hll1 := hv1.len
 have hl2 := hv2.len
 have hl3 := hv3.len
 have hlm := hmv.len
 refine g_seq ?_
 refine g_region ?_
 refine wl_of (op_boxa (wn rfl) rfl rfl rfl S H rfl fun b7 a w S H => ?_)
 refine gy rfl rfl rfl S (y_assign rfl S rfl) fun a S => ?_
 refine gl_nil ?_
 refine n_then ?_
 refine g_seq ?_
 refine g_region ?_
 refine gy rfl rfl rfl S (y_move rfl S rfl) fun a S => ?_
 refine wl_of (op_call (wn rfl) rfl rfl S (co_func rfl Try.call20 S rfl) (moved_spec v3 ts _ (H.sl v3) hok hl1) fun u17 w hc a S => ?_)
 have H1 := hc
 have H := H.call1 H1 rfl
 refine gy rfl rfl rfl S (y_assign rfl S rfl) fun a S => ?_
 refine gl_nil ?_
 refine n_then ?_
 have S := ((((S.nil.cons S 1 rfl).cons S 0 rfl).cons S 7 rfl).cons S 8 rfl).cons S 9 rfl
 refine g_seq ?_
 refine g_seq ?_
 refine g_region ?_
 refine gy rfl rfl rfl S (y_move rfl S rfl) fun a S => ?_
 refine gy rfl rfl rfl S (y_move rfl S rfl) fun a S => ?_
 refine gy rfl rfl rfl S (y_move rfl S rfl) fun a S => ?_
 refine wl_of (op_call (wn rfl) rfl rfl S (co_func rfl Try.call32 S rfl) (rright_spec v1 v2 old next u17 (movedL ts) _ (H.sl v1) (H.sl v2) (H.sl u17) (fun o ho => (moved_place ho).1)) fun v w hc a S => ?_)
 obtain ⟨rfl, he⟩ := hc
 have H := H.ext he
 refine gy rfl rfl rfl S (y_bin rfl S rfl rfl rfl) fun a S => ?_
 rw [show ((errW old.length next.length (movedL ts)) != 0) = true from bne_iff_ne.2 herr] at S
 refine gy rfl rfl rfl S (y_move rfl S rfl) fun a S => ?_
 refine' wl_or (B2 := false) 6 23 rfl S H rfl rfl rfl rfl rfl rfl rfl (fun _ S => (wn rfl)) (fun h1 kk => ?yh1) (fun a w S H => ?_)
 case yh1 => exact absurd h1 (by simp)
 refine gl_nil ?_
 refine n_then ?_
 have S := (((((S.nil.cons S 1 rfl).cons S 0 rfl).cons S 7 rfl).cons S 8 rfl).cons S 9 rfl).cons S 30 rfl
 refine c_if S rfl (fun h2 => ?_) (fun h2 => ?_)
 ·have h2p := h2; try simp only [DL] at h2p
  refine g_seq ?_
  refine g_region ?_
  refine gy rfl rfl rfl S (y_assign rfl S rfl) fun a S => ?_
  refine gl_nil ?_
  refine n_then ?_
  refine g_ret ?_
  refine r_then (ret1 rfl S rfl ?_)
  exact ⟨rfl, H.toExt⟩
 ·have h2p := h2; try simp only [DL] at h2p
  all_goals (
    exact absurd h2 (by simp))
set_option maxHeartbeats 4000000 in
/-- foyer/foyerref41.Check -/
theorem rcheck41_ok (v1 v2 : Value) (old next : List Pl) (v3 : Value) (ts : List Ow) (w0 : World) (hv1 : IsSl w0 v1 9 Pl.enc old) (hv2 : IsSl w0 v2 9 Pl.enc next) (hv3 : IsSl w0 v3 11 Ow.enc ts) (hok : ∀ o ∈ ts, o.ok) (hl1 : ts.length ≤ 100000) (mvv vl vr : Value) (ms : List Mv) (left right : List Int) (hmv : IsSl w0 mvv 3 Mv.enc ms) (hmr : ∀ p ∈ rowsOf ms, IsSl w0 p.1 1 encI p.2) (hvl : IsSl w0 vl 1 encI left) (hvr : IsSl w0 vr 1 encI right) (hcl : capOK vl) (hll : left.length ≤ 100000) (hlr : right.length ≤ 100000) (herr : errW old.length next.length (movedL ts) = 0) :
    Ret Try.prog 18 #[v1, v2, v3, .agg #[mvv, vl, vr]] w0 (fun u w => u = .bool (chkB (movedL ts) (oldL old (movedL ts)) next (ms.map Mv.say) left right) ∧ Ext w0 w) := by
 refine ret_of_wp (nt := 125) Try.func18 rfl rfl rfl (fl := [(0, v1), (1, v2), (2, v3), (3, .agg #[mvv, vl, vr])]) rfl (fun a S => ?_)
 have H := HSat.start w0
 have H := H.ro0 (Sl v1 9 Pl.enc old) rfl (hv1)
 have H := H.ro0 (Sl v2 9 Pl.enc next) rfl (hv2)
 have H := H.ro0 (Sl v3 11 Ow.enc ts) rfl (hv3)
 have H := H.ro0 (Sl vl 1 encI left) rfl (hvl)
 have H := H.ro0 (Sl vr 1 encI right) rfl (hvr)
 have H := H.ro0 (Sl mvv 3 Mv.enc ms) rfl (hmv)
 have H := H.ro0 (RowsS 1 encI (rowsOf ms)) rfl (hmr)
 have hll1 := hv1.len
 have hl2 := hv2.len
 have hl3 := hv3.len
 have hlm := hmv.len
 refine g_seq ?_
 refine g_region ?_
 refine wl_of (op_boxa (wn rfl) rfl rfl rfl S H rfl fun b7 a w S H => ?_)
 refine gy rfl rfl rfl S (y_assign rfl S rfl) fun a S => ?_
 refine gl_nil ?_
 refine n_then ?_
 refine g_seq ?_
 refine g_region ?_
 refine gy rfl rfl rfl S (y_move rfl S rfl) fun a S => ?_
 refine wl_of (op_call (wn rfl) rfl rfl S (co_func rfl Try.call20 S rfl) (moved_spec v3 ts _ (H.sl v3) hok hl1) fun u17 w hc a S => ?_)
 have H1 := hc
 have H := H.call1 H1 rfl
 refine gy rfl rfl rfl S (y_assign rfl S rfl) fun a S => ?_
 refine gl_nil ?_
 refine n_then ?_
 have S := ((((S.nil.cons S 1 rfl).cons S 0 rfl).cons S 7 rfl).cons S 8 rfl).cons S 9 rfl
 refine g_seq ?_
 refine g_seq ?_
 refine g_region ?_
 refine gy rfl rfl rfl S (y_move rfl S rfl) fun a S => ?_
 refine gy rfl rfl rfl S (y_move rfl S rfl) fun a S => ?_
 refine gy rfl rfl rfl S (y_move rfl S rfl) fun a S => ?_
 refine wl_of (op_call (wn rfl) rfl rfl S (co_func rfl Try.call32 S rfl) (rright_spec v1 v2 old next u17 (movedL ts) _ (H.sl v1) (H.sl v2) (H.sl u17) (fun o ho => (moved_place ho).1)) fun v w hc a S => ?_)
 obtain ⟨rfl, he⟩ := hc
 have H := H.ext he
 have hpo := errW_ok herr
 have hto := old_len old (movedL ts)
 have hplc : ∀ o ∈ movedL ts, 0 ≤ o.place ∧ o.place < old.length := fun o ho => ⟨(moved_place ho).1, by obtain ⟨j, hj, rfl⟩ := List.getElem_of_mem ho; exact (hpo.2.2.2 j hj).1⟩
 have hin := pairP_own (olds := (oldL old (movedL ts))) (next := next) (by omega) (by omega)
 have hpl : (plL (oldL old (movedL ts)) next).length = (movedL ts).length := by have := hin.wf.lg; rw [edges_len, hto] at this; exact this
 rw [herr] at S
 refine gy rfl rfl rfl S (y_bin rfl S rfl rfl rfl) fun a S => ?_
 refine gy rfl rfl rfl S (y_move rfl S rfl) fun a S => ?_
 refine gz 23 rfl S rfl rfl rfl rfl rfl rfl (y_faddrb rfl Ffo29_0 S rfl) fun a S => ?_
 refine gz 23 rfl S rfl rfl rfl rfl rfl rfl (y_load rfl Fsca24 S H rfl rfl) fun a S => ?_
 refine gz 23 rfl S rfl rfl rfl rfl rfl rfl (y_lens rfl Try.underlying24 S H rfl) fun a S => ?_
 refine gz 23 rfl S rfl rfl rfl rfl rfl rfl (y_move rfl S rfl) fun a S => ?_
 refine gz 23 rfl S rfl rfl rfl rfl rfl rfl (y_lens rfl Try.underlying23 S H rfl) fun a S => ?_
 refine gz 23 rfl S rfl rfl rfl rfl rfl rfl (y_bin rfl S rfl rfl rfl) fun a S => ?_
 refine gy rfl rfl rfl S (y_or' rfl rfl S rfl rfl) fun a S => ?_
 refine gl_nil ?_
 refine n_then ?_
 have S := (((((S.nil.cons S 1 rfl).cons S 0 rfl).cons S 7 rfl).cons S 8 rfl).cons S 9 rfl).cons S 30 rfl
 refine c_if S rfl (fun h2 => ?_) (fun h2 => ?_)
 ·have h2p := h2; try simp only [DL] at h2p
  refine g_seq ?_
  refine g_region ?_
  refine gy rfl rfl rfl S (y_assign rfl S rfl) fun a S => ?_
  refine gl_nil ?_
  refine n_then ?_
  refine g_ret ?_
  refine r_then (ret1 rfl S rfl ?_)
  exact ⟨by rw [chk_no (fun hc => by have := hc.len; rw [List.length_map] at this; have := h2p; omega)], H.toExt⟩
 ·have h2p := h2; try simp only [DL] at h2p
  have hlen : ms.length = (movedL ts).length := by have := h2p; omega
  refine g_skip ?_
  refine n_then ?_
  refine g_seq ?_
  refine g_region ?_
  refine gy rfl rfl rfl S (y_move rfl S rfl) fun a S => ?_
  refine gy rfl rfl rfl S (y_move rfl S rfl) fun a S => ?_
  refine gy rfl rfl rfl S (y_move rfl S rfl) fun a S => ?_
  refine wl_of (op_call (wn rfl) rfl rfl S (co_func rfl Try.call35 S rfl) (accepted_spec v1 v2 old next u17 (movedL ts) _ (H.sl v1) (H.sl v2) (H.sl u17) hplc (by omega) (by omega)) fun u34 w hc a S => ?_)
  obtain ⟨ps, hps, H1⟩ := hc
  have H := H.call2 H1 rfl rfl
  have hps : gr ps = edgesL (oldL old (movedL ts)) next := hps
  have hpl0 : ps.length = (oldL old (movedL ts)).length := by have := congrArg List.length hps; rw [gr_len, edges_len] at this; exact this
  have hvg := edges_valid (olds := (oldL old (movedL ts))) (next := next) (by omega) (by omega)
  refine gy rfl rfl rfl S (y_assign rfl S rfl) fun a S => ?_
  refine gl_nil ?_
  refine n_then ?_
  have S := (((((S.nil.cons S 1 rfl).cons S 0 rfl).cons S 7 rfl).cons S 8 rfl).cons S 9 rfl).cons S 10 rfl
  refine g_seq ?_
  refine g_region ?_
  refine gy rfl rfl rfl S (y_assign rfl S rfl) fun a S => ?_
  refine gl_nil ?_
  refine n_then ?_
  refine g_seq ?_
  refine g_seq ?_
  refine g_region ?_
  refine gy rfl rfl rfl S (y_assign rfl S rfl) fun a S => ?_
  refine gl_nil ?_
  refine n_then ?_
  refine g_block ?_
  have H := H.nilO 3 1 encI
  have SU := ((((S.nil.cons S 1 rfl).cons S 0 rfl).cons S 7 rfl).cons S 9 rfl).cons S 10 rfl
  refine loopW (X := Nat × Value) SU (fun x => [(11, x.2), (12, .int .i64 (x.1 : Int))]) (fun x w => x.1 ≤ ms.length ∧ (∀ i (h : i < (ms.map Mv.say).length) (h2 : i < (movedL ts).length), i < x.1 → (ms.map Mv.say)[i].1 = (movedL ts)[i].serial) ∧ (∀ i, i < x.1 → goodAt (edgesL (oldL old (movedL ts)) next) (tosS (ms.map Mv.say)) i ∧ -1 ≤ atI (tosS (ms.map Mv.say)) i) ∧ HSat No w0 [OSl 3 x.2 1 encI ((tosS (ms.map Mv.say)).take x.1), Cel b7 29 [mvv, vl, vr], OSl 25 u34 1 encRow ps, RowsA 3 1 encI ps, OSl 47 u17 11 Ow.enc (movedL ts), RowsS 1 encI (rowsOf ms), Sl mvv 3 Mv.enc ms, Sl vr 1 encI right, Sl vl 1 encI left, Sl v3 11 Ow.enc ts, Sl v2 9 Pl.enc next, Sl v1 9 Pl.enc old] w) (fun x => ms.length - x.1) (0, .slice none 0 0) ((S.nil.cons S 12 rfl).cons S 11 rfl) (⟨by simp, fun i h h2 hi => by simp at hi, fun i hi => by simp at hi, H.take [OSl 3 (.slice none 0 0) 1 encI [], Cel b7 29 [mvv, vl, vr], OSl 25 u34 1 encRow ps, RowsA 3 1 encI ps, OSl 47 u17 11 Ow.enc (movedL ts), RowsS 1 encI (rowsOf ms), Sl mvv 3 Mv.enc ms, Sl vr 1 encI right, Sl vl 1 encI left, Sl v3 11 Ow.enc ts, Sl v2 9 Pl.enc next, Sl v1 9 Pl.enc old]⟩) (fun x a w S hW => ?_)
  simp only [List.cons_append, List.nil_append] at S
  clear H
  obtain ⟨k, vg⟩ := x
  obtain ⟨hk, hser, hgood, H⟩ := hW
  dsimp only at S H hk hser hgood
  refine g_seq ?_
  refine g_seq ?_
  refine g_region ?_
  refine gy rfl rfl rfl S (y_move rfl S rfl) fun a S => ?_
  refine gy rfl rfl rfl S (y_move rfl S rfl) fun a S => ?_
  refine gy rfl rfl rfl S (y_lens rfl Try.underlying23 S H rfl) fun a S => ?_
  refine gy rfl rfl rfl S (y_bin rfl S rfl rfl rfl) fun a S => ?_
  refine gl_nil ?_
  refine n_then ?_
  refine c_if S rfl (fun h3 => ?_) (fun h3 => ?_)
  ·have h3p := h3; try simp only [DL] at h3p
   have hkl : k < ms.length := by omega
   have hko : k < (movedL ts).length := by omega
   have hkp : k < ps.length := by omega
   have hmo := (hmr _ (rows_mem hkl)).one
   have hta := tos_at hkl
   have htt := tos_take hkl
   have hrw := gr_row ps hkp
   rw [hps] at hrw
   have hsg := say_get hkl (by simpa using hkl)
   have htm := take_mem (l := (tosS (ms.map Mv.say))) (k := k) (by rw [tos_len]; omega) (x := ms[k].to_)
   refine g_skip ?_
   refine n_then ?_
   refine g_seq ?_
   refine g_block ?_
   refine g_seq ?_
   refine g_region ?_
   refine gy rfl rfl rfl S (y_faddrb rfl Ffo29_0 S rfl) fun a S => ?_
   refine gy rfl rfl rfl S (y_load rfl Fsca24 S H rfl rfl) fun a S => ?_
   refine gy rfl rfl rfl S (y_move rfl S rfl) fun a S => ?_
   refine gy rfl rfl rfl S (y_iaddrn rfl Try.underlying24 Fsiz50 S H rfl rfl (by first | assumption | omega | (rw [tos_len]; omega))) fun a S => ?_
   refine gy rfl rfl rfl S (y_loadsa _ rfl S H rfl (by exact Fagg50) (by first | assumption | omega | (rw [tos_len]; omega))) fun a S => ?_
   refine wl_of (op_alloc (wn rfl) rfl rfl rfl S H Fzer50 fun b13 a w S H => ?_)
   refine wl_of (op_storea (wn rfl) rfl rfl S H rfl rfl (by simp only [Mv.enc, List.all_cons, List.all_nil, hmo, Bool.and_true]; rfl) Fsiz50 rfl (cs' := [_, _, _]) rfl fun a w S H => ?_)
   refine gl_nil ?_
   refine n_then ?_
   refine g_seq ?_
   refine g_seq ?_
   refine region_st (loud := []) (tails := []) (free := []) [0, 1, 2, 3, 4, 5, 6, 7, 8, 9, 10, 11, 12, 13, 14, 15, 16, 17, 18, 19, 20, 21, 22, 23, 24, 25, 26, 27, 28, 29, 30, 31, 32, 33, 34] [] Fmo (by kernel_rfl) (by kernel_rfl) rfl H ?_
   refine m_w rfl rfl (wn rfl) rfl rfl S (fun w H => y_faddrb rfl Ffo50_0 S rfl) fun a S => ?_
   refine m_w rfl rfl (wn rfl) rfl rfl S (fun w H => y_load rfl Fsca3 S H rfl rfl) fun a S => ?_
   refine m_w rfl rfl (wn rfl) rfl rfl S (fun w H => y_move rfl S rfl) fun a S => ?_
   refine m_w rfl rfl (wn rfl) rfl rfl S (fun w H => y_move rfl S rfl) fun a S => ?_
   refine m_w rfl rfl (wn rfl) rfl rfl S (fun w H => y_iaddrn rfl Try.underlying23 Fsiz47 S H rfl rfl (by first | assumption | omega | (rw [tos_len]; omega))) fun a S => ?_
   refine m_w rfl rfl (wn rfl) rfl rfl S (fun w H => y_faddr rfl Ffo47_0 S rfl) fun a S => ?_
   refine m_w rfl rfl (wn rfl) rfl rfl S (fun w H => y_faddr rfl Ffo41_0 S rfl) fun a S => ?_
   refine m_loadsff _ rfl rfl (wn rfl) rfl rfl S rfl Fsca3 rfl (by first | assumption | omega | (rw [tos_len]; omega)) rfl fun a S => ?_
   refine m_w rfl rfl (wn rfl) rfl rfl S (fun w H => y_bin rfl S rfl rfl rfl) fun a S => ?_
   refine m_w rfl rfl (wn rfl) rfl rfl S (fun w H => y_move rfl S rfl) fun a S => ?_
   refine' m_orq [10, 11, 12] 55 S rfl rfl rfl rfl rfl rfl rfl rfl rfl (fun _ S => (wn rfl)) (fun h4 kk => ?yh4) (fun a S => ?_)
   case yh4 =>
    have h4p := h4; try simp only [DL] at h4p
    refine m_w rfl rfl (wg' 55 rfl rfl S rfl h4 rfl) rfl rfl S (fun w H => y_faddrb rfl Ffo50_1 S rfl) fun a S => ?_
    refine m_w rfl rfl (wg' 55 rfl rfl S rfl h4 rfl) rfl rfl S (fun w H => y_load rfl Fsca3 S H rfl rfl) fun a S => ?_
    refine m_w rfl rfl (wg' 55 rfl rfl S rfl h4 rfl) rfl rfl S (fun w H => y_bin rfl S rfl rfl rfl) fun a S => ?_
    refine m_w rfl rfl (wn rfl) rfl rfl S (fun w H => y_or' rfl h4 S rfl rfl) fun a S => ?_
    exact kk _ (S.join 4 59 rfl rfl)
   refine m_w rfl rfl (wn rfl) rfl rfl S (fun w H => y_move rfl S rfl) fun a S => ?_
   refine' m_orq [15, 16, 17, 18, 19, 20, 21, 22, 23, 24, 25, 26, 27, 28, 29, 30, 31, 32, 33] 60 S rfl rfl rfl rfl rfl rfl rfl rfl rfl (fun _ S => (wn rfl)) (fun h5 kk => ?yh5) (fun a S => ?_)
   case yh5 =>
    have h5p := h5; try simp only [DL] at h5p
    refine m_w rfl rfl (wg' 60 rfl rfl S rfl h5 rfl) rfl rfl S (fun w H => y_faddrb rfl Ffo50_1 S rfl) fun a S => ?_
    refine m_w rfl rfl (wg' 60 rfl rfl S rfl h5 rfl) rfl rfl S (fun w H => y_load rfl Fsca3 S H rfl rfl) fun a S => ?_
    refine m_w rfl rfl (wg' 60 rfl rfl S rfl h5 rfl) rfl rfl S (fun w H => y_bin rfl S rfl rfl rfl) fun a S => ?_
    refine m_w rfl rfl (wg' 60 rfl rfl S rfl h5 rfl) rfl rfl S (fun w H => y_move rfl S rfl) fun a S => ?_
    refine' m_andq [19, 20, 21, 22, 23, 24, 25, 26, 27, 28, 29, 30, 31, 32] 64 S rfl rfl rfl rfl rfl rfl rfl rfl rfl (fun _ S => (wg' 60 rfl rfl S rfl h5 rfl)) (fun h6 kk => ?yh6) (fun a S => ?_)
    case yh6 =>
     have h6p := h6; try simp only [DL] at h6p
     refine m_w rfl rfl (wg' 64 rfl rfl S rfl h6 rfl) rfl rfl S (fun w H => y_move rfl S rfl) fun a S => ?_
     refine m_w rfl rfl (wg' 64 rfl rfl S rfl h6 rfl) rfl rfl S (fun w H => y_move rfl S rfl) fun a S => ?_
     refine m_w rfl rfl (wg' 64 rfl rfl S rfl h6 rfl) rfl rfl S (fun w H => y_iaddrn rfl Try.underlying66 Fsiz25 S H rfl rfl (by first | assumption | omega | (rw [tos_len]; omega))) fun a S => ?_
     refine m_loads _ rfl rfl (wg' 64 rfl rfl S rfl h6 rfl) rfl rfl S rfl Fsca25 rfl (by first | assumption | omega | (rw [tos_len]; omega)) rfl fun a S => ?_
     refine m_w rfl rfl (wg' 64 rfl rfl S rfl h6 rfl) rfl rfl S (fun w H => y_faddrb rfl Ffo50_1 S rfl) fun a S => ?_
     refine m_w rfl rfl (wg' 64 rfl rfl S rfl h6 rfl) rfl rfl S (fun w H => y_load rfl Fsca3 S H rfl rfl) fun a S => ?_
     refine m_c rfl rfl (wg' 64 rfl rfl S rfl h6 rfl) rfl rfl S (fun w => co_func rfl Try.call25 S rfl) (fun w H => in_spec ps[k].1 ps[k].2 ms[k].to_ _ (H.rws 3 ps _ (List.getElem_mem (by omega)))) fun a S => ?_
     refine m_w rfl rfl (wg' 64 rfl rfl S rfl h6 rfl) rfl rfl S (fun w H => y_not rfl S rfl) fun a S => ?_
     refine m_w rfl rfl (wg' 64 rfl rfl S rfl h6 rfl) rfl rfl S (fun w H => y_move rfl S rfl) fun a S => ?_
     refine' m_orq [28, 29, 30, 31] 73 S rfl rfl rfl rfl rfl rfl rfl rfl rfl (fun _ S => (wg' 64 rfl rfl S rfl h6 rfl)) (fun h7 kk => ?yh7) (fun a S => ?_)
     case yh7 =>
      have h7p := h7; try simp only [DL] at h7p
      refine m_w rfl rfl (wg' 73 rfl rfl S rfl h7 rfl) rfl rfl S (fun w H => y_move rfl S rfl) fun a S => ?_
      refine m_w rfl rfl (wg' 73 rfl rfl S rfl h7 rfl) rfl rfl S (fun w H => y_faddrb rfl Ffo50_1 S rfl) fun a S => ?_
      refine m_w rfl rfl (wg' 73 rfl rfl S rfl h7 rfl) rfl rfl S (fun w H => y_load rfl Fsca3 S H rfl rfl) fun a S => ?_
      refine m_c rfl rfl (wg' 73 rfl rfl S rfl h7 rfl) rfl rfl S (fun w => co_func rfl Try.call25 S rfl) (fun w H => in_spec vg ((tosS (ms.map Mv.say)).take k) ms[k].to_ _ (H.sl vg)) fun a S => ?_
      refine m_w rfl rfl (wg' 64 rfl rfl S rfl h6 rfl) rfl rfl S (fun w H => y_or' rfl h7 S rfl rfl) fun a S => ?_
      exact kk _ (S.join 5 78 rfl rfl)
     refine m_w rfl rfl (wg' 60 rfl rfl S rfl h5 rfl) rfl rfl S (fun w H => y_and' rfl h6 S rfl rfl) fun a S => ?_
     exact kk _ (S.join 11 79 rfl rfl)
    refine m_w rfl rfl (wn rfl) rfl rfl S (fun w H => y_or' rfl h5 S rfl rfl) fun a S => ?_
    exact kk _ (S.join 6 80 rfl rfl)
   refine m_nil (fun w H => ?_)
   refine n_then ?_
   refine c_if S rfl (fun h8 => ?_) (fun h8 => ?_)
   ·have h8p := h8; try simp only [DL] at h8p
    have hx := h8
    simp only [Bool.or_eq_true, Bool.and_eq_true, decide_eq_true_eq, Bool.not_eq_true', decide_eq_false_iff_not, bne_iff_ne, ne_eq, htm] at hx
    refine g_seq ?_
    refine g_region ?_
    refine gy rfl rfl rfl S (y_assign rfl S rfl) fun a S => ?_
    refine gl_nil ?_
    refine n_then ?_
    refine g_ret ?_
    refine r_then (r_block (r_then (r_then (r_block (r_then (ret1 rfl S rfl ?_))))))
    refine ⟨congrArg Value.bool (Eq.symm ?_), H.toExt⟩
    by_cases hs : ms[k].serial = (movedL ts)[k].serial
    · refine chk_bad (by simpa using hkl) (fun hg => ?_)
      rcases hg with hg | ⟨hg, hg2⟩
      · rw [hta] at hg
        rcases hx with (hx | hx) | hx
        · exact hx hs
        · omega
        · omega
      · rw [hta, hrw] at hg
        have hv := (validG_parts hvg).2.2.2 k ms[k].to_ (by rw [hrw]; exact hg)
        rcases hx with (hx | hx) | ⟨hx, hx2 | ⟨j, hj, e⟩⟩
        · exact hx hs
        · omega
        · exact hx2 hg
        · exact hg2 j hj (by rw [e, hta])
    · exact chk_no (fun hc => hs (by have := hc.ser k (by simpa using hkl) hko; rw [hsg] at this; exact this))
   ·have h8p := h8; try simp only [DL] at h8p
    have hx := h8
    simp only [Bool.or_eq_false_iff, Bool.and_eq_false_iff, decide_eq_false_iff_not, Bool.not_eq_false', decide_eq_true_eq, bne_eq_false_iff_eq, htm] at hx
    obtain ⟨⟨hx1, hx2⟩, hx3⟩ := hx
    have hlow : -1 ≤ atI (tosS (ms.map Mv.say)) k := by rw [hta]; omega
    have hgd : goodAt (edgesL (oldL old (movedL ts)) next) (tosS (ms.map Mv.say)) k := by
      rcases hx3 with hx3 | ⟨hx3, hx4⟩
      · exact .inl (by rw [hta]; omega)
      · exact .inr ⟨by rw [hta, hrw]; exact hx3, fun j hj e => hx4 ⟨j, hj, by rw [e, hta]⟩⟩
    refine g_skip ?_
    refine n_then ?_
    refine g_region ?_
    refine gy rfl rfl rfl S (y_move rfl S rfl) fun a S => ?_
    refine gy rfl rfl rfl S (y_faddrb rfl Ffo50_1 S rfl) fun a S => ?_
    refine gy rfl rfl rfl S (y_load rfl Fsca3 S H rfl rfl) fun a S => ?_
    refine wl_of (op_buildSlice (wn rfl) rfl rfl rfl Try.underlying25 Finf3 S H (idx := [0]) rfl rfl rfl (z := [.int .i64 0]) (by kernel_rfl) (cs := [_]) rfl fun b84 a w S H => ?_)
    refine wl_of (op_append ([ms[k].to_]) (wn rfl) rfl rfl rfl Try.underlying25 Finf3 rfl rfl S H rfl rfl rfl rfl (by simp) (by simp [encI]) (by simp [encI, Value.oneCell']) (by simp only [List.length_cons, List.length_nil, List.length_take, tos_len]; omega) (by simp only [List.length_cons, List.length_nil, List.length_take, tos_len]; omega) fun u85 a w hn85 S H => ?_)
    refine gy rfl rfl rfl S (y_assign rfl S rfl) fun a S => ?_
    refine gl_nil ?_
    refine n_block ?_
    refine n_then ?_
    refine g_region ?_
    refine gy rfl rfl rfl S (y_move rfl S rfl) fun a S => ?_
    refine gy rfl rfl rfl S (y_add rfl S rfl rfl (by omega)) fun a S => ?_
    refine gy rfl rfl rfl S (y_assign rfl S rfl) fun a S => ?_
    refine gl_nil ?_
    refine n_then ?_
    refine ⟨(k + 1, u85), (S.nil.cons S 12 rfl).cons S 11 rfl, ((((S.nil.cons S 1 rfl).cons S 0 rfl).cons S 7 rfl).cons S 9 rfl).cons S 10 rfl, ⟨by dsimp only; omega, fun i h h2 hi => ?_, fun i hi => ?_, by dsimp only; rw [htt]; exact H.take [OSl 3 u85 1 encI ((tosS (ms.map Mv.say)).take k ++ [ms[k].to_]), Cel b7 29 [mvv, vl, vr], OSl 25 u34 1 encRow ps, RowsA 3 1 encI ps, OSl 47 u17 11 Ow.enc (movedL ts), RowsS 1 encI (rowsOf ms), Sl mvv 3 Mv.enc ms, Sl vr 1 encI right, Sl vl 1 encI left, Sl v3 11 Ow.enc ts, Sl v2 9 Pl.enc next, Sl v1 9 Pl.enc old]⟩, by dsimp only; omega⟩
    · by_cases e : i < k
      · exact hser i h h2 e
      · obtain rfl : i = k := by dsimp only at hi; omega
        rw [hsg]; exact hx1
    · by_cases e : i < k
      · exact hgood i e
      · obtain rfl : i = k := by dsimp only at hi; omega
        exact ⟨hgd, hlow⟩
  ·have h3p := h3; try simp only [DL] at h3p
   obtain rfl : k = ms.length := by omega
   rw [List.take_of_length_le (by rw [tos_len]; exact Nat.le_refl _)] at H
   refine g_exit ?_
   refine x_then (x_then (x_eq ?_))
   refine n_then ?_
   have S := (((((S.nil.cons S 1 rfl).cons S 0 rfl).cons S 7 rfl).cons S 9 rfl).cons S 10 rfl).cons S 11 rfl
   refine g_seq ?_
   refine g_seq ?_
   refine g_region ?_
   refine gy rfl rfl rfl S (y_assign rfl S rfl) fun a S => ?_
   refine gl_nil ?_
   refine n_then ?_
   refine g_block ?_
   have SU := (((((S.nil.cons S 1 rfl).cons S 0 rfl).cons S 7 rfl).cons S 9 rfl).cons S 10 rfl).cons S 11 rfl
   refine loopW (X := Nat) SU (fun k => [(14, .int .i64 (k : Int))]) (fun k w => k ≤ ms.length ∧ (∀ i (h : i < (ms.map Mv.say).length) (h2 : i < (oldL old (movedL ts)).length), i < k → (ms.map Mv.say)[i].2.2 = if (ms.map Mv.say)[i].2.1 < 0 then offL (oldL old (movedL ts))[i].kind next (tosS (ms.map Mv.say)) else []) ∧ HSat No w0 [OSl 3 vg 1 encI (tosS (ms.map Mv.say)), Cel b7 29 [mvv, vl, vr], OSl 25 u34 1 encRow ps, RowsA 3 1 encI ps, OSl 47 u17 11 Ow.enc (movedL ts), RowsS 1 encI (rowsOf ms), Sl mvv 3 Mv.enc ms, Sl vr 1 encI right, Sl vl 1 encI left, Sl v3 11 Ow.enc ts, Sl v2 9 Pl.enc next, Sl v1 9 Pl.enc old] w) (fun k => ms.length - k) 0 (S.nil.cons S 14 rfl) (⟨by omega, fun i h h2 hi => by omega, H.take [OSl 3 vg 1 encI (tosS (ms.map Mv.say)), Cel b7 29 [mvv, vl, vr], OSl 25 u34 1 encRow ps, RowsA 3 1 encI ps, OSl 47 u17 11 Ow.enc (movedL ts), RowsS 1 encI (rowsOf ms), Sl mvv 3 Mv.enc ms, Sl vr 1 encI right, Sl vl 1 encI left, Sl v3 11 Ow.enc ts, Sl v2 9 Pl.enc next, Sl v1 9 Pl.enc old]⟩) (fun k a w S hW => ?_)
   simp only [List.cons_append, List.nil_append] at S
   clear H
   obtain ⟨hk, hoff, H⟩ := hW
   refine g_seq ?_
   refine g_seq ?_
   refine g_region ?_
   refine gy rfl rfl rfl S (y_move rfl S rfl) fun a S => ?_
   refine gy rfl rfl rfl S (y_move rfl S rfl) fun a S => ?_
   refine gy rfl rfl rfl S (y_lens rfl Try.underlying23 S H rfl) fun a S => ?_
   refine gy rfl rfl rfl S (y_bin rfl S rfl rfl rfl) fun a S => ?_
   refine gl_nil ?_
   refine n_then ?_
   refine c_if S rfl (fun h9 => ?_) (fun h9 => ?_)
   ·have h9p := h9; try simp only [DL] at h9p
    have hkl : k < ms.length := by omega
    have hko : k < (movedL ts).length := by omega
    have hko2 : k < (oldL old (movedL ts)).length := by omega
    obtain ⟨x, hx⟩ : ∃ x : Nat, (movedL ts)[k].place = x := ⟨(movedL ts)[k].place.toNat, by have := hplc _ (List.getElem_mem hko); omega⟩
    have hxn : x < old.length := by have := hplc _ (List.getElem_mem hko); omega
    have hok2 := oldL_at hko hx hxn hko2
    have hmo := (hmr _ (rows_mem hkl)).one
    have hsg := say_get hkl (by simpa using hkl)
    have hvt : (tosS (ms.map Mv.say))[k]'(by rw [tos_len]; exact hkl) = ms[k].to_ := by rw [← tos_at hkl, atI_eq (by rw [tos_len]; exact hkl)]
    refine g_skip ?_
    refine n_then ?_
    refine g_seq ?_
    refine g_block ?_
    refine g_seq ?_
    refine g_region ?_
    refine gy rfl rfl rfl S (y_assign rfl S rfl) fun a S => ?_
    refine gl_nil ?_
    refine n_then ?_
    refine g_seq ?_
    refine g_seq ?_
    refine g_region ?_
    refine gy rfl rfl rfl S (y_move rfl S rfl) fun a S => ?_
    refine gy rfl rfl rfl S (y_move rfl S rfl) fun a S => ?_
    refine gy rfl rfl rfl S (y_iaddrn rfl Try.underlying25 Fsiz3 S H rfl rfl (by first | assumption | omega | (rw [tos_len]; omega))) fun a S => ?_
    refine gy rfl rfl rfl S (y_loads _ rfl Fsca3 S H rfl (by first | assumption | omega | (rw [tos_len]; omega)) rfl) fun a S => ?_
    rw [hvt] at S
    refine gy rfl rfl rfl S (y_bin rfl S rfl rfl rfl) fun a S => ?_
    refine gl_nil ?_
    refine n_then ?_
    refine c_if S rfl (fun h10 => ?_) (fun h10 => ?_)
    ·have h10p := h10; try simp only [DL] at h10p
     have hneg : ms[k].to_ < 0 := h10p
     refine g_region ?_
     refine gy rfl rfl rfl S (y_move rfl S rfl) fun a S => ?_
     refine gy rfl rfl rfl S (y_move rfl S rfl) fun a S => ?_
     refine gy rfl rfl rfl S (y_move rfl S rfl) fun a S => ?_
     refine gy rfl rfl rfl S (y_iaddrn rfl Try.underlying23 Fsiz47 S H rfl rfl (by first | assumption | omega | (rw [tos_len]; omega))) fun a S => ?_
     refine gy rfl rfl rfl S (y_faddr rfl Ffo47_0 S rfl) fun a S => ?_
     refine gy rfl rfl rfl S (y_faddr rfl Ffo41_2 S rfl) fun a S => ?_
     refine gy rfl rfl rfl S (y_loadsff _ rfl Fsca3 S H rfl (by first | assumption | omega | (rw [tos_len]; omega)) rfl) fun a S => ?_
     rw [hx] at S
     refine gy rfl rfl rfl S (y_iaddrn rfl Try.underlying22 Fsiz56 S H rfl rfl (by first | assumption | omega | (rw [tos_len]; omega))) fun a S => ?_
     refine gy rfl rfl rfl S (y_loadsa _ rfl S H rfl (by exact Fagg56) (by first | assumption | omega | (rw [tos_len]; omega))) fun a S => ?_
     refine gy rfl rfl rfl S (y_move rfl S rfl) fun a S => ?_
     refine gy rfl rfl rfl S (y_move rfl S rfl) fun a S => ?_
     refine wl_of (op_call (wn rfl) rfl rfl S (co_func rfl Try.call24 S rfl) (roffers_spec old[x] v2 vg next (tosS (ms.map Mv.say)) _ (H.sl v2) (H.sl vg) (by omega)) fun uw w hc a S => ?_)
     have H1 := hc
     obtain ⟨ow, how⟩ : ∃ o, o = offL old[x].kind next (tosS (ms.map Mv.say)) := ⟨_, rfl⟩
     rw [← how] at H1
     have H := H.call1 H1 rfl
     have hwant : ow = if ms[k].to_ < 0 then offL (oldL old (movedL ts))[k].kind next (tosS (ms.map Mv.say)) else [] := by rw [if_pos hneg, hok2]; exact how
     refine gy rfl rfl rfl S (y_assign rfl S rfl) fun a S => ?_
     refine gl_nil ?_
     refine n_then ?_
     refine g_seq ?_
     refine g_region ?_
     refine gy rfl rfl rfl S (y_faddrb rfl Ffo29_0 S rfl) fun a S => ?_
     refine gy rfl rfl rfl S (y_load rfl Fsca24 S H rfl rfl) fun a S => ?_
     refine gy rfl rfl rfl S (y_move rfl S rfl) fun a S => ?_
     refine gy rfl rfl rfl S (y_iaddrn rfl Try.underlying24 Fsiz50 S H rfl rfl (by first | assumption | omega | (rw [tos_len]; omega))) fun a S => ?_
     refine gy rfl rfl rfl S (y_faddr rfl Ffo50_2 S rfl) fun a S => ?_
     refine gy rfl rfl rfl S (y_loadsf _ rfl Fsca25 S H rfl (by omega) rfl) fun a S => ?_
     refine gy rfl rfl rfl S (y_move rfl S rfl) fun a S => ?_
     refine wl_of (op_call (wn rfl) rfl rfl S (co_func rfl Try.call36 S rfl) (ints_spec ms[k].row.1 uw ms[k].row.2 ow _ (H.rwsS (rowsOf ms) _ (rows_mem (by omega))) (H.sl uw)) fun v w hc a S => ?_)
     obtain ⟨rfl, he⟩ := hc
     have H := H.ext he
     refine gy rfl rfl rfl S (y_not rfl S rfl) fun a S => ?_
     refine gl_nil ?_
     refine n_then ?_
     refine c_if S rfl (fun h11 => ?_) (fun h11 => ?_)
     ·have h11p := h11; try simp only [DL] at h11p
      refine g_seq ?_
      refine g_region ?_
      refine gy rfl rfl rfl S (y_assign rfl S rfl) fun a S => ?_
      refine gl_nil ?_
      refine n_then ?_
      refine g_ret ?_
      refine r_block (r_then (r_then (r_block (r_then (ret1 rfl S rfl ?_)))))
      have hne : ms[k].row.2 ≠ ow := h11p
      exact ⟨congrArg Value.bool (Eq.symm (chk_no (fun hc => hne (by have := hc.off k (by simpa using hkl) (by omega); rw [hsg] at this; rw [hwant]; exact this)))), H.toExt⟩
     ·have h11p := h11; try simp only [DL] at h11p
      have hq := h11p
      refine g_skip ?_
      refine n_block ?_
      refine n_then ?_
      refine g_region ?_
      refine gy rfl rfl rfl S (y_move rfl S rfl) fun a S => ?_
      refine gy rfl rfl rfl S (y_add rfl S rfl rfl (by omega)) fun a S => ?_
      refine gy rfl rfl rfl S (y_assign rfl S rfl) fun a S => ?_
      refine gl_nil ?_
      refine n_then ?_
      refine ⟨k + 1, S.nil.cons S 14 rfl, (((((S.nil.cons S 1 rfl).cons S 0 rfl).cons S 7 rfl).cons S 9 rfl).cons S 10 rfl).cons S 11 rfl, ⟨by omega, fun i h h2 hi => ?_, H.take [OSl 3 vg 1 encI (tosS (ms.map Mv.say)), Cel b7 29 [mvv, vl, vr], OSl 25 u34 1 encRow ps, RowsA 3 1 encI ps, OSl 47 u17 11 Ow.enc (movedL ts), RowsS 1 encI (rowsOf ms), Sl mvv 3 Mv.enc ms, Sl vr 1 encI right, Sl vl 1 encI left, Sl v3 11 Ow.enc ts, Sl v2 9 Pl.enc next, Sl v1 9 Pl.enc old]⟩, by omega⟩
      by_cases e : i < k
      · exact hoff i h h2 e
      · obtain rfl : i = k := by omega
        rw [hsg]; exact hq.trans hwant
    ·have h10p := h10; try simp only [DL] at h10p
     have hneg : ¬ ms[k].to_ < 0 := by have := h10p; omega
     obtain ⟨uw, huw⟩ : ∃ u : Value, u = .slice none 0 0 := ⟨_, rfl⟩
     obtain ⟨ow, how⟩ : ∃ o : List Int, o = [] := ⟨_, rfl⟩
     have H := H.nilO 3 1 encI
     rw [← huw, ← how] at H
     rw [← huw] at S
     have hwant : ow = if ms[k].to_ < 0 then offL (oldL old (movedL ts))[k].kind next (tosS (ms.map Mv.say)) else [] := by rw [if_neg hneg]; exact how
     refine g_skip ?_
     refine n_then ?_
     refine g_seq ?_
     refine g_region ?_
     refine gy rfl rfl rfl S (y_faddrb rfl Ffo29_0 S rfl) fun a S => ?_
     refine gy rfl rfl rfl S (y_load rfl Fsca24 S H rfl rfl) fun a S => ?_
     refine gy rfl rfl rfl S (y_move rfl S rfl) fun a S => ?_
     refine gy rfl rfl rfl S (y_iaddrn rfl Try.underlying24 Fsiz50 S H rfl rfl (by first | assumption | omega | (rw [tos_len]; omega))) fun a S => ?_
     refine gy rfl rfl rfl S (y_faddr rfl Ffo50_2 S rfl) fun a S => ?_
     refine gy rfl rfl rfl S (y_loadsf _ rfl Fsca25 S H rfl (by omega) rfl) fun a S => ?_
     refine gy rfl rfl rfl S (y_move rfl S rfl) fun a S => ?_
     refine wl_of (op_call (wn rfl) rfl rfl S (co_func rfl Try.call36 S rfl) (ints_spec ms[k].row.1 uw ms[k].row.2 ow _ (H.rwsS (rowsOf ms) _ (rows_mem (by omega))) (H.sl uw)) fun v w hc a S => ?_)
     obtain ⟨rfl, he⟩ := hc
     have H := H.ext he
     refine gy rfl rfl rfl S (y_not rfl S rfl) fun a S => ?_
     refine gl_nil ?_
     refine n_then ?_
     refine c_if S rfl (fun h12 => ?_) (fun h12 => ?_)
     ·have h12p := h12; try simp only [DL] at h12p
      refine g_seq ?_
      refine g_region ?_
      refine gy rfl rfl rfl S (y_assign rfl S rfl) fun a S => ?_
      refine gl_nil ?_
      refine n_then ?_
      refine g_ret ?_
      refine r_block (r_then (r_then (r_block (r_then (ret1 rfl S rfl ?_)))))
      have hne : ms[k].row.2 ≠ ow := h12p
      exact ⟨congrArg Value.bool (Eq.symm (chk_no (fun hc => hne (by have := hc.off k (by simpa using hkl) (by omega); rw [hsg] at this; rw [hwant]; exact this)))), H.toExt⟩
     ·have h12p := h12; try simp only [DL] at h12p
      have hq := h12p
      refine g_skip ?_
      refine n_block ?_
      refine n_then ?_
      refine g_region ?_
      refine gy rfl rfl rfl S (y_move rfl S rfl) fun a S => ?_
      refine gy rfl rfl rfl S (y_add rfl S rfl rfl (by omega)) fun a S => ?_
      refine gy rfl rfl rfl S (y_assign rfl S rfl) fun a S => ?_
      refine gl_nil ?_
      refine n_then ?_
      refine ⟨k + 1, S.nil.cons S 14 rfl, (((((S.nil.cons S 1 rfl).cons S 0 rfl).cons S 7 rfl).cons S 9 rfl).cons S 10 rfl).cons S 11 rfl, ⟨by omega, fun i h h2 hi => ?_, H.take [OSl 3 vg 1 encI (tosS (ms.map Mv.say)), Cel b7 29 [mvv, vl, vr], OSl 25 u34 1 encRow ps, RowsA 3 1 encI ps, OSl 47 u17 11 Ow.enc (movedL ts), RowsS 1 encI (rowsOf ms), Sl mvv 3 Mv.enc ms, Sl vr 1 encI right, Sl vl 1 encI left, Sl v3 11 Ow.enc ts, Sl v2 9 Pl.enc next, Sl v1 9 Pl.enc old]⟩, by omega⟩
      by_cases e : i < k
      · exact hoff i h h2 e
      · obtain rfl : i = k := by omega
        rw [hsg]; exact hq.trans hwant
   ·have h9p := h9; try simp only [DL] at h9p
    obtain rfl : k = ms.length := by omega
    refine g_exit ?_
    refine x_then (x_then (x_eq ?_))
    refine n_then ?_
    have S := (((S.nil.cons S 1 rfl).cons S 7 rfl).cons S 10 rfl).cons S 11 rfl
    refine g_seq ?_
    refine g_region ?_
    refine gy rfl rfl rfl S (y_move rfl S rfl) fun a S => ?_
    refine gy rfl rfl rfl S (y_move rfl S rfl) fun a S => ?_
    refine gy rfl rfl rfl S (y_move rfl S rfl) fun a S => ?_
    refine gy rfl rfl rfl S (y_lens rfl Try.underlying22 S H rfl) fun a S => ?_
    refine gy rfl rfl rfl S (y_faddrb rfl Ffo29_1 S rfl) fun a S => ?_
    refine gy rfl rfl rfl S (y_loadp (vs := [vl, vr]) rfl S H rfl (by exact Fagg27) rfl) fun a S => ?_
    refine wl_of (op_call (wn rfl) rfl rfl S (co_func rfl Try.call40 S rfl) (rcovers_spec u34 vg vl vr ps (tosS (ms.map Mv.say)) left right next.length _ (H.sl u34) (H.rws 3 ps) (H.sl vg) (H.sl vl) (H.sl vr) hll hlr (by rw [tos_len]; omega) (by omega)) fun v w hc a S => ?_)
    obtain ⟨rfl, he⟩ := hc
    have H := H.ext he
    refine gy rfl rfl rfl S (y_assign rfl S rfl) fun a S => ?_
    refine gl_nil ?_
    refine n_then ?_
    have S := S.nil.cons S 8 rfl
    refine g_ret ?_
    refine ret1 rfl S rfl ?_
    rw [hps, covC_check hvg (good_isM (by rw [tos_len, edges_len]; omega) (fun i hi => (hgood i (by rw [tos_len] at hi; exact hi)).1)) (fun i hi => (hgood i (by rw [tos_len] at hi; exact hi)).2)]
    exact ⟨congrArg Value.bool (chk_last (by rw [List.length_map]; exact hlen) (fun i h h2 => hser i h h2 (by simpa using h)) (fun i h h2 => hoff i h h2 (by simpa using h))), H.toExt⟩
set_option maxHeartbeats 2000000 in
/-- foyer/foyerref41.Same -/
theorem same_spec (mva vla vra : Value) (msa : List Mv) (lefta righta : List Int) (mvb vlb vrb : Value) (msb : List Mv) (leftb rightb : List Int) (w0 : World) (hma : IsSl w0 mva 3 Mv.enc msa) (hra : ∀ p ∈ rowsOf msa, IsSl w0 p.1 1 encI p.2) (hla : IsSl w0 vla 1 encI lefta) (hca : IsSl w0 vra 1 encI righta) (hmb : IsSl w0 mvb 3 Mv.enc msb) (hrb : ∀ p ∈ rowsOf msb, IsSl w0 p.1 1 encI p.2) (hlb : IsSl w0 vlb 1 encI leftb) (hcb : IsSl w0 vrb 1 encI rightb) :
    Ret Try.prog 16 #[.agg #[mva, vla, vra], .agg #[mvb, vlb, vrb]] w0 (fun u w => u = .bool (decide (msa.map Mv.say = msb.map Mv.say) && (decide (lefta = leftb) && decide (righta = rightb))) ∧ Ext w0 w) := by
 refine ret_of_wp (nt := 72) Try.func16 rfl rfl rfl (fl := [(0, .agg #[mva, vla, vra]), (1, .agg #[mvb, vlb, vrb])]) rfl (fun a S => ?_)
 have H := HSat.start w0
 have H := H.ro0 (Sl mva 3 Mv.enc msa) rfl (hma)
 have H := H.ro0 (Sl mvb 3 Mv.enc msb) rfl (hmb)
 have H := H.ro0 (RowsS 1 encI (rowsOf msa)) rfl (hra)
 have H := H.ro0 (RowsS 1 encI (rowsOf msb)) rfl (hrb)
 have H := H.ro0 (Sl vla 1 encI lefta) rfl (hla)
 have H := H.ro0 (Sl vlb 1 encI leftb) rfl (hlb)
 have H := H.ro0 (Sl vra 1 encI righta) rfl (hca)
 have H := H.ro0 (Sl vrb 1 encI rightb) rfl (hcb)
 have hlma := hma.len
 have hlmb := hmb.len
 refine g_seq ?_
 refine g_region ?_
 refine wl_of (op_boxa (wn rfl) rfl rfl rfl S H rfl fun b2 a w S H => ?_)
 refine wl_of (op_boxa (wn rfl) rfl rfl rfl S H rfl fun b3 a w S H => ?_)
 refine gy rfl rfl rfl S (y_assign rfl S rfl) fun a S => ?_
 refine gl_nil ?_
 refine n_then ?_
 refine g_seq ?_
 refine g_seq ?_
 refine g_region ?_
 refine gy rfl rfl rfl S (y_faddrb rfl Ffo29_0 S rfl) fun a S => ?_
 refine gy rfl rfl rfl S (y_load rfl Fsca24 S H rfl rfl) fun a S => ?_
 refine gy rfl rfl rfl S (y_lens rfl Try.underlying24 S H rfl) fun a S => ?_
 refine gy rfl rfl rfl S (y_faddrb rfl Ffo29_0 S rfl) fun a S => ?_
 refine gy rfl rfl rfl S (y_load rfl Fsca24 S H rfl rfl) fun a S => ?_
 refine gy rfl rfl rfl S (y_lens rfl Try.underlying24 S H rfl) fun a S => ?_
 refine gy rfl rfl rfl S (y_bin rfl S rfl rfl rfl) fun a S => ?_
 refine gy rfl rfl rfl S (y_move rfl S rfl) fun a S => ?_
 refine' wl_or 8 15 rfl S H rfl rfl rfl rfl rfl rfl rfl (fun _ S => (wn rfl)) (fun h1 kk => ?yh1) (fun a w S H => ?_)
 case yh1 =>
  have h1p := h1; try simp only [DL] at h1p
  refine gz 15 h1 S rfl rfl rfl rfl rfl rfl (y_faddrb rfl Ffo29_1 S rfl) fun a S => ?_
  refine gz 15 h1 S rfl rfl rfl rfl rfl rfl (y_faddrb rfl Ffo27_0 S rfl) fun a S => ?_
  refine gz 15 h1 S rfl rfl rfl rfl rfl rfl (y_load rfl Fsca25 S H rfl rfl) fun a S => ?_
  refine gz 15 h1 S rfl rfl rfl rfl rfl rfl (y_faddrb rfl Ffo29_1 S rfl) fun a S => ?_
  refine gz 15 h1 S rfl rfl rfl rfl rfl rfl (y_faddrb rfl Ffo27_0 S rfl) fun a S => ?_
  refine gz 15 h1 S rfl rfl rfl rfl rfl rfl (y_load rfl Fsca25 S H rfl rfl) fun a S => ?_
  refine wl_of (op_call (wg' 15 rfl rfl S rfl h1 rfl) rfl rfl S (co_func rfl Try.call36 S rfl) (ints_spec vla vlb lefta leftb _ (H.sl vla) (H.sl vlb)) fun v w hc a S => ?_)
  obtain ⟨rfl, he⟩ := hc
  have H := H.ext he
  refine gz 15 h1 S rfl rfl rfl rfl rfl rfl (y_not rfl S rfl) fun a S => ?_
  refine gy rfl rfl rfl S (y_or' rfl h1 S rfl rfl) fun a S => ?_
  exact kk _ _ (S.join 9 24 rfl rfl) H
 refine gy rfl rfl rfl S (y_move rfl S rfl) fun a S => ?_
 refine' wl_or 8 25 rfl S H rfl rfl rfl rfl rfl rfl rfl (fun _ S => (wn rfl)) (fun h2 kk => ?yh2) (fun a w S H => ?_)
 case yh2 =>
  have h2p := h2; try simp only [DL] at h2p
  refine gz 25 h2 S rfl rfl rfl rfl rfl rfl (y_faddrb rfl Ffo29_1 S rfl) fun a S => ?_
  refine gz 25 h2 S rfl rfl rfl rfl rfl rfl (y_faddrb rfl Ffo27_1 S rfl) fun a S => ?_
  refine gz 25 h2 S rfl rfl rfl rfl rfl rfl (y_load rfl Fsca25 S H rfl rfl) fun a S => ?_
  refine gz 25 h2 S rfl rfl rfl rfl rfl rfl (y_faddrb rfl Ffo29_1 S rfl) fun a S => ?_
  refine gz 25 h2 S rfl rfl rfl rfl rfl rfl (y_faddrb rfl Ffo27_1 S rfl) fun a S => ?_
  refine gz 25 h2 S rfl rfl rfl rfl rfl rfl (y_load rfl Fsca25 S H rfl rfl) fun a S => ?_
  refine wl_of (op_call (wg' 25 rfl rfl S rfl h2 rfl) rfl rfl S (co_func rfl Try.call36 S rfl) (ints_spec vra vrb righta rightb _ (H.sl vra) (H.sl vrb)) fun v w hc a S => ?_)
  obtain ⟨rfl, he⟩ := hc
  have H := H.ext he
  refine gz 25 h2 S rfl rfl rfl rfl rfl rfl (y_not rfl S rfl) fun a S => ?_
  refine gy rfl rfl rfl S (y_or' rfl h2 S rfl rfl) fun a S => ?_
  exact kk _ _ (S.join 9 34 rfl rfl) H
 refine gl_nil ?_
 refine n_then ?_
 have S := (((S.nil.cons S 2 rfl).cons S 3 rfl).cons S 4 rfl).cons S 34 rfl
 refine c_if S rfl (fun h3 => ?_) (fun h3 => ?_)
 ·have h3p := h3; try simp only [DL] at h3p
  have hx := h3
  simp only [Bool.or_eq_true, Bool.not_eq_true', decide_eq_false_iff_not, bne_iff_ne, ne_eq] at hx
  refine g_seq ?_
  refine g_region ?_
  refine gy rfl rfl rfl S (y_assign rfl S rfl) fun a S => ?_
  refine gl_nil ?_
  refine n_then ?_
  refine g_ret ?_
  refine r_then (ret1 rfl S rfl ?_)
  refine ⟨congrArg Value.bool (Eq.symm ?_), H.toExt⟩
  rcases hx with (hx | hx) | hx
  · rw [decide_eq_false (fun e => hx (by have := congrArg List.length e; simp only [List.length_map] at this; omega))]; rfl
  · rw [decide_eq_false hx]; simp
  · rw [decide_eq_false hx]; simp
 ·have h3p := h3; try simp only [DL] at h3p
  have hx := h3
  simp only [Bool.or_eq_false_iff, Bool.not_eq_false', decide_eq_true_eq, bne_eq_false_iff_eq] at hx
  obtain ⟨⟨hx0, hx1⟩, hx2⟩ := hx
  have hlab : msa.length = msb.length := by omega
  refine g_skip ?_
  refine n_then ?_
  refine g_seq ?_
  refine g_seq ?_
  refine g_region ?_
  refine gy rfl rfl rfl S (y_assign rfl S rfl) fun a S => ?_
  refine gl_nil ?_
  refine n_then ?_
  refine g_block ?_
  have SU := (S.nil.cons S 2 rfl).cons S 3 rfl
  refine loopW (X := Nat) SU (fun k => [(5, .int .i64 (k : Int))]) (fun k w => k ≤ msa.length ∧ (∀ j (h : j < msa.length) (h2 : j < msb.length), j < k → msa[j].say = msb[j].say) ∧ HSat No w0 [Cel b3 29 [mvb, vlb, vrb], Cel b2 29 [mva, vla, vra], Sl vrb 1 encI rightb, Sl vra 1 encI righta, Sl vlb 1 encI leftb, Sl vla 1 encI lefta, RowsS 1 encI (rowsOf msb), RowsS 1 encI (rowsOf msa), Sl mvb 3 Mv.enc msb, Sl mva 3 Mv.enc msa] w) (fun k => msa.length - k) 0 (S.nil.cons S 5 rfl) (⟨by omega, fun j h h2 hj => by omega, H⟩) (fun k a w S hW => ?_)
  simp only [List.cons_append, List.nil_append] at S
  clear H
  obtain ⟨hk, hsm, H⟩ := hW
  refine g_seq ?_
  refine g_seq ?_
  refine g_region ?_
  refine gy rfl rfl rfl S (y_move rfl S rfl) fun a S => ?_
  refine gy rfl rfl rfl S (y_faddrb rfl Ffo29_0 S rfl) fun a S => ?_
  refine gy rfl rfl rfl S (y_load rfl Fsca24 S H rfl rfl) fun a S => ?_
  refine gy rfl rfl rfl S (y_lens rfl Try.underlying24 S H rfl) fun a S => ?_
  refine gy rfl rfl rfl S (y_bin rfl S rfl rfl rfl) fun a S => ?_
  refine gl_nil ?_
  refine n_then ?_
  refine c_if S rfl (fun h4 => ?_) (fun h4 => ?_)
  ·have h4p := h4; try simp only [DL] at h4p
   have hka : k < msa.length := by omega
   have hkb : k < msb.length := by omega
   have hmoa := (hra _ (rows_mem hka)).one
   have hmob := (hrb _ (rows_mem hkb)).one
   refine g_skip ?_
   refine n_then ?_
   refine g_seq ?_
   refine g_block ?_
   refine g_seq ?_
   refine g_region ?_
   refine gy rfl rfl rfl S (y_faddrb rfl Ffo29_0 S rfl) fun a S => ?_
   refine gy rfl rfl rfl S (y_load rfl Fsca24 S H rfl rfl) fun a S => ?_
   refine gy rfl rfl rfl S (y_move rfl S rfl) fun a S => ?_
   refine gy rfl rfl rfl S (y_iaddrn rfl Try.underlying24 Fsiz50 S H rfl rfl (by first | assumption | omega | (simp only [List.length_append, List.length_take, List.length_drop, List.length_replicate, List.length_set, List.length_map, List.length_cons, List.length_nil]; omega))) fun a S => ?_
   refine gy rfl rfl rfl S (y_loadsa _ rfl S H rfl (by exact Fagg50) (by first | assumption | omega | (simp only [List.length_append, List.length_take, List.length_drop, List.length_replicate, List.length_set, List.length_map, List.length_cons, List.length_nil]; omega))) fun a S => ?_
   refine wl_of (op_alloc (wn rfl) rfl rfl rfl S H Fzer50 fun b6 a w S H => ?_)
   refine wl_of (op_storea (wn rfl) rfl rfl S H rfl rfl (by simp only [Mv.enc, List.all_cons, List.all_nil, hmoa, Bool.and_true]; rfl) Fsiz50 rfl (cs' := [_, _, _]) rfl fun a w S H => ?_)
   refine gl_nil ?_
   refine n_then ?_
   refine g_seq ?_
   refine g_region ?_
   refine gy rfl rfl rfl S (y_faddrb rfl Ffo29_0 S rfl) fun a S => ?_
   refine gy rfl rfl rfl S (y_load rfl Fsca24 S H rfl rfl) fun a S => ?_
   refine gy rfl rfl rfl S (y_move rfl S rfl) fun a S => ?_
   refine gy rfl rfl rfl S (y_iaddrn rfl Try.underlying24 Fsiz50 S H rfl rfl (by first | assumption | omega | (simp only [List.length_append, List.length_take, List.length_drop, List.length_replicate, List.length_set, List.length_map, List.length_cons, List.length_nil]; omega))) fun a S => ?_
   refine gy rfl rfl rfl S (y_loadsa _ rfl S H rfl (by exact Fagg50) (by first | assumption | omega | (simp only [List.length_append, List.length_take, List.length_drop, List.length_replicate, List.length_set, List.length_map, List.length_cons, List.length_nil]; omega))) fun a S => ?_
   refine wl_of (op_alloc (wn rfl) rfl rfl rfl S H Fzer50 fun b7 a w S H => ?_)
   refine wl_of (op_storea (wn rfl) rfl rfl S H rfl rfl (by simp only [Mv.enc, List.all_cons, List.all_nil, hmob, Bool.and_true]; rfl) Fsiz50 rfl (cs' := [_, _, _]) rfl fun a w S H => ?_)
   refine gl_nil ?_
   refine n_then ?_
   refine g_seq ?_
   refine g_region ?_
   refine gy rfl rfl rfl S (y_faddrb rfl Ffo50_0 S rfl) fun a S => ?_
   refine gy rfl rfl rfl S (y_load rfl Fsca3 S H rfl rfl) fun a S => ?_
   refine gy rfl rfl rfl S (y_faddrb rfl Ffo50_0 S rfl) fun a S => ?_
   refine gy rfl rfl rfl S (y_load rfl Fsca3 S H rfl rfl) fun a S => ?_
   refine gy rfl rfl rfl S (y_bin rfl S rfl rfl rfl) fun a S => ?_
   refine gy rfl rfl rfl S (y_move rfl S rfl) fun a S => ?_
   refine' wl_or 5 57 rfl S H rfl rfl rfl rfl rfl rfl rfl (fun _ S => (wn rfl)) (fun h5 kk => ?yh5) (fun a w S H => ?_)
   case yh5 =>
    have h5p := h5; try simp only [DL] at h5p
    refine gz 57 h5 S rfl rfl rfl rfl rfl rfl (y_faddrb rfl Ffo50_1 S rfl) fun a S => ?_
    refine gz 57 h5 S rfl rfl rfl rfl rfl rfl (y_load rfl Fsca3 S H rfl rfl) fun a S => ?_
    refine gz 57 h5 S rfl rfl rfl rfl rfl rfl (y_faddrb rfl Ffo50_1 S rfl) fun a S => ?_
    refine gz 57 h5 S rfl rfl rfl rfl rfl rfl (y_load rfl Fsca3 S H rfl rfl) fun a S => ?_
    refine gz 57 h5 S rfl rfl rfl rfl rfl rfl (y_bin rfl S rfl rfl rfl) fun a S => ?_
    refine gy rfl rfl rfl S (y_or' rfl h5 S rfl rfl) fun a S => ?_
    exact kk _ _ (S.join 6 63 rfl rfl) H
   refine gy rfl rfl rfl S (y_move rfl S rfl) fun a S => ?_
   refine' wl_or 6 64 rfl S H rfl rfl rfl rfl rfl rfl rfl (fun _ S => (wn rfl)) (fun h6 kk => ?yh6) (fun a w S H => ?_)
   case yh6 =>
    have h6p := h6; try simp only [DL] at h6p
    refine gz 64 h6 S rfl rfl rfl rfl rfl rfl (y_faddrb rfl Ffo50_2 S rfl) fun a S => ?_
    refine gz 64 h6 S rfl rfl rfl rfl rfl rfl (y_load rfl Fsca25 S H rfl rfl) fun a S => ?_
    refine gz 64 h6 S rfl rfl rfl rfl rfl rfl (y_faddrb rfl Ffo50_2 S rfl) fun a S => ?_
    refine gz 64 h6 S rfl rfl rfl rfl rfl rfl (y_load rfl Fsca25 S H rfl rfl) fun a S => ?_
    refine wl_of (op_call (wg' 64 rfl rfl S rfl h6 rfl) rfl rfl S (co_func rfl Try.call36 S rfl) (ints_spec msa[k].row.1 msb[k].row.1 msa[k].row.2 msb[k].row.2 _ (H.rwsS (rowsOf msa) _ (rows_mem (by omega))) (H.rwsS (rowsOf msb) _ (rows_mem (by omega)))) fun v w hc a S => ?_)
    obtain ⟨rfl, he⟩ := hc
    have H := H.ext he
    refine gz 64 h6 S rfl rfl rfl rfl rfl rfl (y_not rfl S rfl) fun a S => ?_
    refine gy rfl rfl rfl S (y_or' rfl h6 S rfl rfl) fun a S => ?_
    exact kk _ _ (S.join 7 71 rfl rfl) H
   refine gl_nil ?_
   refine n_then ?_
   refine c_if S rfl (fun h7 => ?_) (fun h7 => ?_)
   ·have h7p := h7; try simp only [DL] at h7p
    have hy := h7
    simp only [Bool.or_eq_true, Bool.not_eq_true', decide_eq_false_iff_not, bne_iff_ne, ne_eq] at hy
    refine g_seq ?_
    refine g_region ?_
    refine gy rfl rfl rfl S (y_assign rfl S rfl) fun a S => ?_
    refine gl_nil ?_
    refine n_then ?_
    refine g_ret ?_
    refine r_block (r_then (r_then (r_block (r_then (ret1 rfl S rfl ?_)))))
    refine ⟨congrArg Value.bool (Eq.symm ?_), H.toExt⟩
    rw [decide_eq_false (fun e => ?_)]; rfl
    have h1 := say_get hka (by simpa using hka)
    have h2 := say_get hkb (by simpa using hkb)
    simp only [e] at h1
    rw [h2] at h1
    simp only [Prod.mk.injEq] at h1
    rcases hy with (hy | hy) | hy
    · exact hy h1.1.symm
    · exact hy h1.2.1.symm
    · exact hy h1.2.2.symm
   ·have h7p := h7; try simp only [DL] at h7p
    have hy := h7
    simp only [Bool.or_eq_false_iff, Bool.not_eq_false', decide_eq_true_eq, bne_eq_false_iff_eq] at hy
    refine g_skip ?_
    refine n_block ?_
    refine n_then ?_
    refine g_region ?_
    refine gy rfl rfl rfl S (y_move rfl S rfl) fun a S => ?_
    refine gy rfl rfl rfl S (y_add rfl S rfl rfl (by omega)) fun a S => ?_
    refine gy rfl rfl rfl S (y_assign rfl S rfl) fun a S => ?_
    refine gl_nil ?_
    refine n_then ?_
    refine ⟨k + 1, S.nil.cons S 5 rfl, (S.nil.cons S 2 rfl).cons S 3 rfl, ⟨by omega, fun j h h2 hj => ?_, H.drop 2⟩, by omega⟩
    by_cases e : j < k
    · exact hsm j h h2 e
    · obtain rfl : j = k := by omega
      simp only [Mv.say, Prod.mk.injEq]; exact ⟨hy.1.1, hy.1.2, hy.2⟩
  ·have h4p := h4; try simp only [DL] at h4p
   obtain rfl : k = msa.length := by omega
   refine g_exit ?_
   refine x_then (x_then (x_eq ?_))
   refine n_then ?_
   have S := S.nil
   refine g_seq ?_
   refine g_region ?_
   refine gy rfl rfl rfl S (y_assign rfl S rfl) fun a S => ?_
   refine gl_nil ?_
   refine n_then ?_
   refine g_ret ?_
   refine ret1 rfl S rfl ?_
   refine ⟨congrArg Value.bool (Eq.symm ?_), H.toExt⟩
   rw [decide_eq_true (List.ext_getElem (by simpa using hlab) (fun j h h2 => by simp only [List.getElem_map]; exact hsm j (by simpa using h) (by simpa using h2) (by simpa using h))), decide_eq_true hx1, decide_eq_true hx2]; rfl
/-- foyer/foyerref41.Placed -/
theorem placed_spec (mvv vl vr : Value) (ms : List Mv) (w0 : World) (hm : IsSl w0 mvv 3 Mv.enc ms) :
    Ret Try.prog 22 #[.agg #[mvv, vl, vr]] w0 (fun u w => u = .int .i64 (cntG (tosS (ms.map Mv.say)) ms.length : Int) ∧ Ext w0 w) := by
 refine ret_of_wp (nt := 22) Try.func22 rfl rfl rfl (fl := [(0, .agg #[mvv, vl, vr])]) rfl (fun a S => ?_)
 have H := HSat.start w0
 have H := H.ro0 (Sl mvv 3 Mv.enc ms) rfl (hm)
 have hlm := hm.len
 refine g_seq ?_
 refine g_region ?_
 refine wl_of (op_boxa (wn rfl) rfl rfl rfl S H rfl fun b1 a w S H => ?_)
 refine gy rfl rfl rfl S (y_assign rfl S rfl) fun a S => ?_
 refine gl_nil ?_
 refine n_then ?_
 refine g_seq ?_
 refine g_region ?_
 refine gy rfl rfl rfl S (y_assign rfl S rfl) fun a S => ?_
 refine gl_nil ?_
 refine n_then ?_
 refine g_seq ?_
 refine g_seq ?_
 refine g_region ?_
 refine gy rfl rfl rfl S (y_assign rfl S rfl) fun a S => ?_
 refine gl_nil ?_
 refine n_then ?_
 refine g_block ?_
 have SU := (S.nil.cons S 1 rfl).cons S 2 rfl
 refine loop_k (X := Nat) SU (fun k => [(3, .int .i64 (cntG (tosS (ms.map Mv.say)) k : Int)), (4, .int .i64 (k : Int))]) (fun k => k ≤ ms.length) (fun k => ms.length - k) 0 ((S.nil.cons S 4 rfl).cons S 3 rfl) H (by omega) (fun k a w S H hi => ?_)
 simp only [List.cons_append, List.nil_append] at S hi
 refine g_seq ?_
 refine g_seq ?_
 refine g_region ?_
 refine gy rfl rfl rfl S (y_move rfl S rfl) fun a S => ?_
 refine gy rfl rfl rfl S (y_faddrb rfl Ffo29_0 S rfl) fun a S => ?_
 refine gy rfl rfl rfl S (y_load rfl Fsca24 S H rfl rfl) fun a S => ?_
 refine gy rfl rfl rfl S (y_lens rfl Try.underlying24 S H rfl) fun a S => ?_
 refine gy rfl rfl rfl S (y_bin rfl S rfl rfl rfl) fun a S => ?_
 refine gl_nil ?_
 refine n_then ?_
 refine c_if S rfl (fun h1 => ?_) (fun h1 => ?_)
 ·have h1p := h1; try simp only [DL] at h1p
  have hkl : k < ms.length := by omega
  have hta := tos_at hkl
  have hcl := cntG_le (tosS (ms.map Mv.say)) k
  refine g_skip ?_
  refine n_then ?_
  refine g_seq ?_
  refine g_block ?_
  refine g_seq ?_
  refine g_region ?_
  refine gy rfl rfl rfl S (y_faddrb rfl Ffo29_0 S rfl) fun a S => ?_
  refine gy rfl rfl rfl S (y_load rfl Fsca24 S H rfl rfl) fun a S => ?_
  refine gy rfl rfl rfl S (y_move rfl S rfl) fun a S => ?_
  refine gy rfl rfl rfl S (y_iaddrn rfl Try.underlying24 Fsiz50 S H rfl rfl (by first | assumption | omega | (simp only [List.length_append, List.length_take, List.length_drop, List.length_replicate, List.length_set, List.length_map, List.length_cons, List.length_nil]; omega))) fun a S => ?_
  refine gy rfl rfl rfl S (y_faddr rfl Ffo50_1 S rfl) fun a S => ?_
  refine gy rfl rfl rfl S (y_loadsf _ rfl Fsca3 S H rfl (by first | assumption | omega | (simp only [List.length_append, List.length_take, List.length_drop, List.length_replicate, List.length_set, List.length_map, List.length_cons, List.length_nil]; omega)) rfl) fun a S => ?_
  refine gy rfl rfl rfl S (y_bin rfl S rfl rfl rfl) fun a S => ?_
  refine gl_nil ?_
  refine n_then ?_
  refine c_if S rfl (fun h2 => ?_) (fun h2 => ?_)
  ·have h2p := h2; try simp only [DL] at h2p
   have hcs : cntG (tosS (ms.map Mv.say)) (k + 1) = cntG (tosS (ms.map Mv.say)) k + 1 := by rw [cntG, if_pos (by rw [hta]; have := h2p; omega)]
   refine g_region ?_
   refine gy rfl rfl rfl S (y_move rfl S rfl) fun a S => ?_
   refine gy rfl rfl rfl S (y_add rfl S rfl rfl (by omega)) fun a S => ?_
   refine gy rfl rfl rfl S (y_assign rfl S rfl) fun a S => ?_
   refine gl_nil ?_
   refine n_block ?_
   refine n_then ?_
   refine g_region ?_
   refine gy rfl rfl rfl S (y_move rfl S rfl) fun a S => ?_
   refine gy rfl rfl rfl S (y_add rfl S rfl rfl (by omega)) fun a S => ?_
   refine gy rfl rfl rfl S (y_assign rfl S rfl) fun a S => ?_
   refine gl_nil ?_
   refine n_then ?_
   exact ⟨k + 1, (S.nil.cons S 4 rfl).cons S 3 (by rw [hcs]; rfl), (S.nil.cons S 1 rfl).cons S 2 rfl, H, by omega, by omega⟩
  ·have h2p := h2; try simp only [DL] at h2p
   have hcs : cntG (tosS (ms.map Mv.say)) (k + 1) = cntG (tosS (ms.map Mv.say)) k := by rw [cntG, if_neg (by rw [hta]; have := h2p; omega)]
   refine g_skip ?_
   refine n_block ?_
   refine n_then ?_
   refine g_region ?_
   refine gy rfl rfl rfl S (y_move rfl S rfl) fun a S => ?_
   refine gy rfl rfl rfl S (y_add rfl S rfl rfl (by omega)) fun a S => ?_
   refine gy rfl rfl rfl S (y_assign rfl S rfl) fun a S => ?_
   refine gl_nil ?_
   refine n_then ?_
   exact ⟨k + 1, (S.nil.cons S 4 rfl).cons S 3 (by rw [hcs]; rfl), (S.nil.cons S 1 rfl).cons S 2 rfl, H, by omega, by omega⟩
 ·have h1p := h1; try simp only [DL] at h1p
  obtain rfl : k = ms.length := by omega
  refine g_exit ?_
  refine x_then (x_then (x_eq ?_))
  refine n_then ?_
  have S := (S.nil.cons S 2 rfl).cons S 3 rfl
  refine g_seq ?_
  refine g_region ?_
  refine gy rfl rfl rfl S (y_move rfl S rfl) fun a S => ?_
  refine gy rfl rfl rfl S (y_assign rfl S rfl) fun a S => ?_
  refine gl_nil ?_
  refine n_then ?_
  refine g_ret ?_
  refine ret1 rfl S rfl ?_
  exact ⟨rfl, H.toExt⟩

end Go.Proofs.Ytenaoaegichecaa
