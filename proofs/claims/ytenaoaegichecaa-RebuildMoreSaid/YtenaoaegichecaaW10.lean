/- The walks. No condition. -/
import Derived.Test.YtenaoaegichecaaChecked
import Derived.Test.YtenaoaegichecaaGwBits
import Derived.Test.YtenaoaegichecaaFacts
import Derived.Test.YtenaoaegichecaaPlain
import Derived.Test.YtenaoaegichecaaPlainU
import Derived.Test.YtenaoaegichecaaW9
namespace Go.Proofs.Ytenaoaegichecaa
open Go Go.Gw
set_option linter.unusedVariables false
set_option linter.unusedSimpArgs false
/-- foyer/rebuild.Check -/
theorem check41_err (v1 v2 : Value) (old next : List Pl) (v3 : Value) (ts : List Ow) (w0 : World) (hv1 : IsSl w0 v1 9 Pl.enc old) (hv2 : IsSl w0 v2 9 Pl.enc next) (hv3 : IsSl w0 v3 11 Ow.enc ts) (hok : ∀ o ∈ ts, o.ok) (hl1 : ts.length ≤ 100000) (mvv vl vr : Value) (ms : List Mv) (left right : List Int) (hmv : IsSl w0 mvv 3 Mv.enc ms) (hmr : ∀ p ∈ rowsOf ms, IsSl w0 p.1 1 encI p.2) (hvl : IsSl w0 vl 1 encI left) (hvr : IsSl w0 vr 1 encI right) (hcl : capOK vl) (hll : left.length ≤ 100000) (hlr : right.length ≤ 100000) (herr : errW old.length next.length (movedL ts) ≠ 0) :
    Ret Try.prog 17 #[v1, v2, v3, .agg #[mvv, vl, vr]] w0 (fun u w => u = .bool false ∧ Ext w0 w) := by
 refine ret_of_wp (nt := 123) Try.func17 rfl rfl rfl (fl := [(0, v1), (1, v2), (2, v3), (3, .agg #[mvv, vl, vr])]) rfl (fun a S => ?_)
 have H := HSat.start w0
 have H := H.ro0 (Sl v1 9 Pl.enc old) rfl (hv1)
 have H := H.ro0 (Sl v2 9 Pl.enc next) rfl (hv2)
 have H := H.ro0 (Sl v3 11 Ow.enc ts) rfl (hv3)
 have H := H.ro0 (Sl vl 1 encI left) rfl (hvl)
 have H := H.ro0 (Sl vr 1 encI right) rfl (hvr)
 have H := H.ro0 (Sl mvv 3 Mv.enc ms) rfl (hmv)
 have H := H.ro0 (RowsS 1 encI (rowsOf ms)) rfl (hmr)
 have hll1 := hv1.len
 have hl2 := hv2.len
 have hl3 := hv3.len
 have hlm := hmv.len
 refine g_seq ?_
 refine g_region ?_
 refine wl_of (op_boxa (wn rfl) rfl rfl rfl S H rfl fun b7 a w S H => ?_)
 refine gy rfl rfl rfl S (y_assign rfl S rfl) fun a S => ?_
 refine gl_nil ?_
 refine n_then ?_
 refine g_seq ?_
 refine g_region ?_
 refine gy rfl rfl rfl S (y_move rfl S rfl) fun a S => ?_
 refine gy rfl rfl rfl S (y_move rfl S rfl) fun a S => ?_
 refine gy rfl rfl rfl S (y_move rfl S rfl) fun a S => ?_
 refine wl_of (op_call (wn rfl) rfl rfl S (co_func rfl Try.call29 S rfl) (prepare_spec v1 v2 old next v3 ts _ (H.sl v1) (H.sl v2) (H.sl v3) hok hl1) fun v w hc a S => ?_)
 obtain ⟨va, vb, vc, ve, rfl, hoc, he, _⟩ := hc
 have H := H.ext he
 refine gy rfl rfl rfl S (y_move rfl S rfl) fun a S => ?_
 refine gy rfl rfl rfl S (y_extract rfl S rfl rfl) fun a S => ?_
 refine gy rfl rfl rfl S (y_extract rfl S rfl rfl) fun a S => ?_
 refine wl_of (op_alloc (wn rfl) rfl rfl rfl S H Fzer70 fun b9 a w S H => ?_)
 refine wl_of (op_storea (wn rfl) rfl rfl S H rfl rfl hoc Fsiz70 rfl (cs' := [_, _, _, _]) rfl fun a w S H => ?_)
 refine gy rfl rfl rfl S (y_assign rfl S rfl) fun a S => ?_
 refine gl_nil ?_
 refine n_then ?_
 have S := ((((S.nil.cons S 1 rfl).cons S 7 rfl).cons S 8 rfl).cons S 9 rfl).cons S 10 rfl
 refine g_seq ?_
 refine g_seq ?_
 refine g_region ?_
 refine gy rfl rfl rfl S (y_move rfl S rfl) fun a S => ?_
 refine gy rfl rfl rfl S (y_bin rfl S rfl rfl rfl) fun a S => ?_
 rw [show ((errW old.length next.length (movedL ts)) != 0) = true from bne_iff_ne.2 herr] at S
 refine gy rfl rfl rfl S (y_move rfl S rfl) fun a S => ?_
 refine' wl_or (B2 := false) 7 27 rfl S H rfl rfl rfl rfl rfl rfl rfl (fun _ S => (wn rfl)) (fun h1 kk => ?yh1) (fun a w S H => ?_)
 case yh1 => exact absurd h1 (by simp)
 refine gl_nil ?_
 refine n_then ?_
 have S := ((((S.nil.cons S 1 rfl).cons S 7 rfl).cons S 8 rfl).cons S 9 rfl).cons S 35 rfl
 refine c_if S rfl (fun h2 => ?_) (fun h2 => ?_)
 ·have h2p := h2; try simp only [DL] at h2p
  refine g_seq ?_
  refine g_region ?_
  refine gy rfl rfl rfl S (y_assign rfl S rfl) fun a S => ?_
  refine gl_nil ?_
  refine n_then ?_
  refine g_ret ?_
  refine r_then (ret1 rfl S rfl ?_)
  exact ⟨rfl, H.toExt⟩
 ·have h2p := h2; try simp only [DL] at h2p
  all_goals (
    exact absurd h2 (by simp))
set_option maxHeartbeats 4000000 in
/-- foyer/rebuild.Check -/
theorem check41_ok (v1 v2 : Value) (old next : List Pl) (v3 : Value) (ts : List Ow) (w0 : World) (hv1 : IsSl w0 v1 9 Pl.enc old) (hv2 : IsSl w0 v2 9 Pl.enc next) (hv3 : IsSl w0 v3 11 Ow.enc ts) (hok : ∀ o ∈ ts, o.ok) (hl1 : ts.length ≤ 100000) (mvv vl vr : Value) (ms : List Mv) (left right : List Int) (hmv : IsSl w0 mvv 3 Mv.enc ms) (hmr : ∀ p ∈ rowsOf ms, IsSl w0 p.1 1 encI p.2) (hvl : IsSl w0 vl 1 encI left) (hvr : IsSl w0 vr 1 encI right) (hcl : capOK vl) (hll : left.length ≤ 100000) (hlr : right.length ≤ 100000) (herr : errW old.length next.length (movedL ts) = 0) :
    Ret Try.prog 17 #[v1, v2, v3, .agg #[mvv, vl, vr]] w0 (fun u w => u = .bool (chkB (movedL ts) (oldL old (movedL ts)) next (ms.map Mv.say) left right) ∧ Ext w0 w) := by
 refine ret_of_wp (nt := 123) Try.func17 rfl rfl rfl (fl := [(0, v1), (1, v2), (2, v3), (3, .agg #[mvv, vl, vr])]) rfl (fun a S => ?_)
 have H := HSat.start w0
 have H := H.ro0 (Sl v1 9 Pl.enc old) rfl (hv1)
 have H := H.ro0 (Sl v2 9 Pl.enc next) rfl (hv2)
 have H := H.ro0 (Sl v3 11 Ow.enc ts) rfl (hv3)
 have H := H.ro0 (Sl vl 1 encI left) rfl (hvl)
 have H := H.ro0 (Sl vr 1 encI right) rfl (hvr)
 have H := H.ro0 (Sl mvv 3 Mv.enc ms) rfl (hmv)
 have H := H.ro0 (RowsS 1 encI (rowsOf ms)) rfl (hmr)
 have hll1 := hv1.len
 have hl2 := hv2.len
 have hl3 := hv3.len
 have hlm := hmv.len
 refine g_seq ?_
 refine g_region ?_
 refine wl_of (op_boxa (wn rfl) rfl rfl rfl S H rfl fun b7 a w S H => ?_)
 refine gy rfl rfl rfl S (y_assign rfl S rfl) fun a S => ?_
 refine gl_nil ?_
 refine n_then ?_
 refine g_seq ?_
 refine g_region ?_
 refine gy rfl rfl rfl S (y_move rfl S rfl) fun a S => ?_
 refine gy rfl rfl rfl S (y_move rfl S rfl) fun a S => ?_
 refine gy rfl rfl rfl S (y_move rfl S rfl) fun a S => ?_
 refine wl_of (op_call (wn rfl) rfl rfl S (co_func rfl Try.call29 S rfl) (prepare_spec v1 v2 old next v3 ts _ (H.sl v1) (H.sl v2) (H.sl v3) hok hl1) fun v w hc a S => ?_)
 obtain ⟨va, vb, vc, ve, rfl, hoc, _, hx⟩ := hc
 obtain ⟨rfl, ps, hps, H1⟩ := hx herr
 have H := H.call4 H1 rfl rfl rfl rfl
 have hpo := errW_ok herr
 have hto := old_len old (movedL ts)
 have hps : gr ps = edgesL (oldL old (movedL ts)) next := hps
 have hpl0 : ps.length = (oldL old (movedL ts)).length := by have := congrArg List.length hps; rw [gr_len, edges_len] at this; exact this
 have hvg := edges_valid (olds := (oldL old (movedL ts))) (next := next) (by omega) (by omega)
 refine gy rfl rfl rfl S (y_move rfl S rfl) fun a S => ?_
 refine gy rfl rfl rfl S (y_extract rfl S rfl rfl) fun a S => ?_
 refine gy rfl rfl rfl S (y_extract rfl S rfl rfl) fun a S => ?_
 rw [herr] at S
 refine wl_of (op_alloc (wn rfl) rfl rfl rfl S H Fzer70 fun b9 a w S H => ?_)
 refine wl_of (op_storea (wn rfl) rfl rfl S H rfl rfl hoc Fsiz70 rfl (cs' := [_, _, _, _]) rfl fun a w S H => ?_)
 refine gy rfl rfl rfl S (y_assign rfl S rfl) fun a S => ?_
 refine gl_nil ?_
 refine n_then ?_
 have S := ((((S.nil.cons S 1 rfl).cons S 7 rfl).cons S 8 rfl).cons S 9 rfl).cons S 10 rfl
 refine g_seq ?_
 refine g_seq ?_
 refine g_region ?_
 refine gy rfl rfl rfl S (y_move rfl S rfl) fun a S => ?_
 refine gy rfl rfl rfl S (y_bin rfl S rfl rfl rfl) fun a S => ?_
 refine gy rfl rfl rfl S (y_move rfl S rfl) fun a S => ?_
 refine gz 27 rfl S rfl rfl rfl rfl rfl rfl (y_faddrb rfl Ffo29_0 S rfl) fun a S => ?_
 refine gz 27 rfl S rfl rfl rfl rfl rfl rfl (y_load rfl Fsca24 S H rfl rfl) fun a S => ?_
 refine gz 27 rfl S rfl rfl rfl rfl rfl rfl (y_lens rfl Try.underlying24 S H rfl) fun a S => ?_
 refine gz 27 rfl S rfl rfl rfl rfl rfl rfl (y_faddrb rfl Ffo70_0 S rfl) fun a S => ?_
 refine gz 27 rfl S rfl rfl rfl rfl rfl rfl (y_load rfl Fsca23 S H rfl rfl) fun a S => ?_
 refine gz 27 rfl S rfl rfl rfl rfl rfl rfl (y_lens rfl Try.underlying23 S H rfl) fun a S => ?_
 refine gz 27 rfl S rfl rfl rfl rfl rfl rfl (y_bin rfl S rfl rfl rfl) fun a S => ?_
 refine gy rfl rfl rfl S (y_or' rfl rfl S rfl rfl) fun a S => ?_
 refine gl_nil ?_
 refine n_then ?_
 have S := ((((S.nil.cons S 1 rfl).cons S 7 rfl).cons S 8 rfl).cons S 9 rfl).cons S 35 rfl
 refine c_if S rfl (fun h2 => ?_) (fun h2 => ?_)
 ·have h2p := h2; try simp only [DL] at h2p
  refine g_seq ?_
  refine g_region ?_
  refine gy rfl rfl rfl S (y_assign rfl S rfl) fun a S => ?_
  refine gl_nil ?_
  refine n_then ?_
  refine g_ret ?_
  refine r_then (ret1 rfl S rfl ?_)
  exact ⟨by rw [chk_no (fun hc => by have := hc.len; rw [List.length_map] at this; have := h2p; omega)], H.toExt⟩
 ·have h2p := h2; try simp only [DL] at h2p
  have hlen : ms.length = (movedL ts).length := by have := h2p; omega
  refine g_skip ?_
  refine n_then ?_
  refine g_seq ?_
  refine g_region ?_
  refine wl_of (op_makeMap (fun n : Int => .int .i64 n) (fun b : Bool => .bool b) (wn rfl) rfl rfl rfl S H fun b36 a w S H => ?_)
  refine gy rfl rfl rfl S (y_assign rfl S rfl) fun a S => ?_
  refine gl_nil ?_
  refine n_then ?_
  refine g_seq ?_
  refine g_region ?_
  refine gy rfl rfl rfl S (y_assign rfl S rfl) fun a S => ?_
  refine gl_nil ?_
  refine n_then ?_
  refine g_seq ?_
  refine g_seq ?_
  refine g_region ?_
  refine gy rfl rfl rfl S (y_faddrb rfl Ffo29_0 S rfl) fun a S => ?_
  refine gy rfl rfl rfl S (y_load rfl Fsca24 S H rfl rfl) fun a S => ?_
  refine gy rfl rfl rfl S (y_lens rfl Try.underlying24 S H rfl) fun a S => ?_
  refine gy rfl rfl rfl S (y_move rfl S rfl) fun a S => ?_
  refine gl_nil ?_
  refine n_then ?_
  refine g_block ?_
  have H := H.nilO 3 1 encI
  have SU := (((((S.nil.cons S 1 rfl).cons S 7 rfl).cons S 9 rfl).cons S 11 rfl).cons S 38 rfl).cons S 39 rfl
  refine loopW (X := Nat × Value) SU (fun x => [(12, x.2), (40, .int .i64 (x.1 : Int))]) (fun x w => x.1 ≤ ms.length ∧ (∀ i (h : i < (ms.map Mv.say).length) (h2 : i < (movedL ts).length), i < x.1 → (ms.map Mv.say)[i].1 = (movedL ts)[i].serial) ∧ (∀ i, i < x.1 → goodAt (edgesL (oldL old (movedL ts)) next) (tosS (ms.map Mv.say)) i) ∧ ∃ c, HSat No w0 [MapA b36 (fun n : Int => .int .i64 n) (fun b : Bool => .bool b) (memS (posK (tosS (ms.map Mv.say)) x.1)) c, OSl 3 x.2 1 encI ((tosS (ms.map Mv.say)).take x.1), Cel b9 70 [va, vb, v2, ve], Cel b7 29 [mvv, vl, vr], OSl 47 va 11 Ow.enc (movedL ts), OSl 56 vb 9 Pl.enc (oldL old (movedL ts)), OSl 25 ve 1 encRow ps, RowsA 3 1 encI ps, RowsS 1 encI (rowsOf ms), Sl mvv 3 Mv.enc ms, Sl vr 1 encI right, Sl vl 1 encI left, Sl v3 11 Ow.enc ts, Sl v2 9 Pl.enc next, Sl v1 9 Pl.enc old] w) (fun x => ms.length - x.1) (0, .slice none 0 0) ((S.nil.cons S 40 rfl).cons S 12 rfl) (⟨by simp, fun i h h2 hi => by simp at hi, fun i hi => by simp at hi, 0, by exact H.take [MapA b36 (fun n : Int => .int .i64 n) (fun b : Bool => .bool b) (fun _ => none) 0, OSl 3 (.slice none 0 0) 1 encI [], Cel b9 70 [va, vb, v2, ve], Cel b7 29 [mvv, vl, vr], OSl 47 va 11 Ow.enc (movedL ts), OSl 56 vb 9 Pl.enc (oldL old (movedL ts)), OSl 25 ve 1 encRow ps, RowsA 3 1 encI ps, RowsS 1 encI (rowsOf ms), Sl mvv 3 Mv.enc ms, Sl vr 1 encI right, Sl vl 1 encI left, Sl v3 11 Ow.enc ts, Sl v2 9 Pl.enc next, Sl v1 9 Pl.enc old]⟩) (fun x a w S hW => ?_)
  simp only [List.cons_append, List.nil_append] at S
  clear H
  obtain ⟨k, vg⟩ := x
  obtain ⟨hk, hser, hgood, c, H⟩ := hW
  dsimp only at S H hk hser hgood
  refine g_seq ?_
  refine g_region ?_
  refine gy rfl rfl rfl S (y_bin rfl S rfl rfl rfl) fun a S => ?_
  refine gl_nil ?_
  refine n_then ?_
  refine g_seq ?_
  refine c_if S rfl (fun h3 => ?_) (fun h3 => ?_)
  ·have h3p := h3; try simp only [DL] at h3p
   have hkl : k < ms.length := by omega
   have hko : k < (movedL ts).length := by omega
   have hkp : k < ps.length := by omega
   have hmo := (hmr _ (rows_mem hkl)).one
   have hta := tos_at hkl
   have htt := tos_take hkl
   have hrw := gr_row ps hkp
   rw [hps] at hrw
   have hsg := say_get hkl (by simpa using hkl)
   refine g_skip ?_
   refine n_then ?_
   refine g_seq ?_
   refine g_block ?_
   refine g_seq ?_
   refine g_region ?_
   refine gy rfl rfl rfl S (y_move rfl S rfl) fun a S => ?_
   refine gy rfl rfl rfl S (y_iaddrn rfl Try.underlying24 Fsiz50 S H rfl rfl (by first | assumption | omega | (simp only [List.length_append, List.length_take, List.length_drop, List.length_replicate, List.length_set, List.length_map, List.length_cons, List.length_nil]; omega))) fun a S => ?_
   refine gy rfl rfl rfl S (y_loadsa _ rfl S H rfl (by exact Fagg50) (by first | assumption | omega | (simp only [List.length_append, List.length_take, List.length_drop, List.length_replicate, List.length_set, List.length_map, List.length_cons, List.length_nil]; omega))) fun a S => ?_
   refine wl_of (op_alloc (wn rfl) rfl rfl rfl S H Fzer50 fun b14 a w S H => ?_)
   refine gy rfl rfl rfl S (y_assign rfl S rfl) fun a S => ?_
   refine wl_of (op_storea (wn rfl) rfl rfl S H rfl rfl (by simp only [Mv.enc, List.all_cons, List.all_nil, hmo, Bool.and_true]; rfl) Fsiz50 rfl (cs' := [_, _, _]) rfl fun a w S H => ?_)
   refine gl_nil ?_
   refine n_then ?_
   refine g_seq ?_
   refine g_seq ?_
   refine region_st (loud := []) (tails := []) (free := []) [0, 1, 2, 3, 4, 5, 6, 7, 8, 9, 10, 11, 12, 13, 14, 15, 16, 17, 18, 19, 20, 21, 22, 23, 24, 25, 26, 27, 28, 29, 30, 31, 32, 33, 34, 35, 36] [] Fmo (by kernel_rfl) (by kernel_rfl) rfl H ?_
   refine m_w rfl rfl (wn rfl) rfl rfl S (fun w H => y_faddrb rfl Ffo50_0 S rfl) fun a S => ?_
   refine m_w rfl rfl (wn rfl) rfl rfl S (fun w H => y_load rfl Fsca3 S H rfl rfl) fun a S => ?_
   refine m_w rfl rfl (wn rfl) rfl rfl S (fun w H => y_faddrb rfl Ffo70_0 S rfl) fun a S => ?_
   refine m_w rfl rfl (wn rfl) rfl rfl S (fun w H => y_load rfl Fsca23 S H rfl rfl) fun a S => ?_
   refine m_w rfl rfl (wn rfl) rfl rfl S (fun w H => y_move rfl S rfl) fun a S => ?_
   refine m_w rfl rfl (wn rfl) rfl rfl S (fun w H => y_iaddrn rfl Try.underlying23 Fsiz47 S H rfl rfl (by first | assumption | omega | (simp only [List.length_append, List.length_take, List.length_drop, List.length_replicate, List.length_set, List.length_map, List.length_cons, List.length_nil]; omega))) fun a S => ?_
   refine m_w rfl rfl (wn rfl) rfl rfl S (fun w H => y_faddr rfl Ffo47_0 S rfl) fun a S => ?_
   refine m_w rfl rfl (wn rfl) rfl rfl S (fun w H => y_faddr rfl Ffo41_0 S rfl) fun a S => ?_
   refine m_loadsff _ rfl rfl (wn rfl) rfl rfl S rfl Fsca3 rfl (by first | assumption | omega | (simp only [List.length_append, List.length_take, List.length_drop, List.length_replicate, List.length_set, List.length_map, List.length_cons, List.length_nil]; omega)) rfl fun a S => ?_
   refine m_w rfl rfl (wn rfl) rfl rfl S (fun w H => y_bin rfl S rfl rfl rfl) fun a S => ?_
   refine m_w rfl rfl (wn rfl) rfl rfl S (fun w H => y_move rfl S rfl) fun a S => ?_
   refine' m_orq [11, 12, 13] 55 S rfl rfl rfl rfl rfl rfl rfl rfl rfl (fun _ S => (wn rfl)) (fun h4 kk => ?yh4) (fun a S => ?_)
   case yh4 =>
    have h4p := h4; try simp only [DL] at h4p
    refine m_w rfl rfl (wg' 55 rfl rfl S rfl h4 rfl) rfl rfl S (fun w H => y_faddrb rfl Ffo50_1 S rfl) fun a S => ?_
    refine m_w rfl rfl (wg' 55 rfl rfl S rfl h4 rfl) rfl rfl S (fun w H => y_load rfl Fsca3 S H rfl rfl) fun a S => ?_
    refine m_w rfl rfl (wg' 55 rfl rfl S rfl h4 rfl) rfl rfl S (fun w H => y_bin rfl S rfl rfl rfl) fun a S => ?_
    refine m_w rfl rfl (wn rfl) rfl rfl S (fun w H => y_or' rfl h4 S rfl rfl) fun a S => ?_
    exact kk _ (S.join 4 59 rfl rfl)
   refine m_w rfl rfl (wn rfl) rfl rfl S (fun w H => y_move rfl S rfl) fun a S => ?_
   refine' m_orq [16, 17, 18, 19, 20, 21, 22, 23, 24, 25, 26, 27, 28, 29, 30, 31, 32, 33, 34, 35] 60 S rfl rfl rfl rfl rfl rfl rfl rfl rfl (fun _ S => (wn rfl)) (fun h5 kk => ?yh5) (fun a S => ?_)
   case yh5 =>
    have h5p := h5; try simp only [DL] at h5p
    refine m_w rfl rfl (wg' 60 rfl rfl S rfl h5 rfl) rfl rfl S (fun w H => y_faddrb rfl Ffo50_1 S rfl) fun a S => ?_
    refine m_w rfl rfl (wg' 60 rfl rfl S rfl h5 rfl) rfl rfl S (fun w H => y_load rfl Fsca3 S H rfl rfl) fun a S => ?_
    refine m_w rfl rfl (wg' 60 rfl rfl S rfl h5 rfl) rfl rfl S (fun w H => y_bin rfl S rfl rfl rfl) fun a S => ?_
    refine m_w rfl rfl (wg' 60 rfl rfl S rfl h5 rfl) rfl rfl S (fun w H => y_move rfl S rfl) fun a S => ?_
    refine' m_andq [20, 21, 22, 23, 24, 25, 26, 27, 28, 29, 30, 31, 32, 33, 34] 64 S rfl rfl rfl rfl rfl rfl rfl rfl rfl (fun _ S => (wg' 60 rfl rfl S rfl h5 rfl)) (fun h6 kk => ?yh6) (fun a S => ?_)
    case yh6 =>
     have h6p := h6; try simp only [DL] at h6p
     refine m_w rfl rfl (wg' 64 rfl rfl S rfl h6 rfl) rfl rfl S (fun w H => y_move rfl S rfl) fun a S => ?_
     refine m_w rfl rfl (wg' 64 rfl rfl S rfl h6 rfl) rfl rfl S (fun w H => y_faddrb rfl Ffo50_1 S rfl) fun a S => ?_
     refine m_w rfl rfl (wg' 64 rfl rfl S rfl h6 rfl) rfl rfl S (fun w H => y_load rfl Fsca3 S H rfl rfl) fun a S => ?_
     refine m_w rfl rfl (wg' 64 rfl rfl S rfl h6 rfl) rfl rfl S (fun w H => y_lookupE (ms[k].to_) (false) rfl Try.underlying75 Finf4 S H rfl (keyOK_int Try.underlying3) (by exact rfl) (by exact rfl) rfl) fun a S => ?_
     refine m_w rfl rfl (wg' 64 rfl rfl S rfl h6 rfl) rfl rfl S (fun w H => y_move rfl S rfl) fun a S => ?_
     refine' m_orq [25, 26, 27, 28, 29, 30, 31, 32, 33] 69 S rfl rfl rfl rfl rfl rfl rfl rfl rfl (fun _ S => (wg' 64 rfl rfl S rfl h6 rfl)) (fun h7 kk => ?yh7) (fun a S => ?_)
     case yh7 =>
      have h7p := h7; try simp only [DL] at h7p
      refine m_w rfl rfl (wg' 69 rfl rfl S rfl h7 rfl) rfl rfl S (fun w H => y_faddrb rfl Ffo70_3 S rfl) fun a S => ?_
      refine m_w rfl rfl (wg' 69 rfl rfl S rfl h7 rfl) rfl rfl S (fun w H => y_load rfl Fsca66 S H rfl rfl) fun a S => ?_
      refine m_w rfl rfl (wg' 69 rfl rfl S rfl h7 rfl) rfl rfl S (fun w H => y_move rfl S rfl) fun a S => ?_
      refine m_w rfl rfl (wg' 69 rfl rfl S rfl h7 rfl) rfl rfl S (fun w H => y_iaddrn rfl Try.underlying66 Fsiz25 S H rfl rfl (by first | assumption | omega | (simp only [List.length_append, List.length_take, List.length_drop, List.length_replicate, List.length_set, List.length_map, List.length_cons, List.length_nil]; omega))) fun a S => ?_
      refine m_loads _ rfl rfl (wg' 69 rfl rfl S rfl h7 rfl) rfl rfl S rfl Fsca25 rfl (by first | assumption | omega | (simp only [List.length_append, List.length_take, List.length_drop, List.length_replicate, List.length_set, List.length_map, List.length_cons, List.length_nil]; omega)) rfl fun a S => ?_
      refine m_w rfl rfl (wg' 69 rfl rfl S rfl h7 rfl) rfl rfl S (fun w H => y_faddrb rfl Ffo50_1 S rfl) fun a S => ?_
      refine m_w rfl rfl (wg' 69 rfl rfl S rfl h7 rfl) rfl rfl S (fun w H => y_load rfl Fsca3 S H rfl rfl) fun a S => ?_
      refine m_c rfl rfl (wg' 69 rfl rfl S rfl h7 rfl) rfl rfl S (fun w => co_func rfl Try.call37 S rfl) (fun w H => contains_spec ps[k].1 ps[k].2 ms[k].to_ _ (H.rws 3 ps _ (List.getElem_mem (by omega)))) fun a S => ?_
      refine m_w rfl rfl (wg' 69 rfl rfl S rfl h7 rfl) rfl rfl S (fun w H => y_not rfl S rfl) fun a S => ?_
      refine m_w rfl rfl (wg' 64 rfl rfl S rfl h6 rfl) rfl rfl S (fun w H => y_or' rfl h7 S rfl rfl) fun a S => ?_
      exact kk _ (S.join 10 79 rfl rfl)
     refine m_w rfl rfl (wg' 60 rfl rfl S rfl h5 rfl) rfl rfl S (fun w H => y_and' rfl h6 S rfl rfl) fun a S => ?_
     exact kk _ (S.join 7 80 rfl rfl)
    refine m_w rfl rfl (wn rfl) rfl rfl S (fun w H => y_or' rfl h5 S rfl rfl) fun a S => ?_
    exact kk _ (S.join 6 81 rfl rfl)
   refine m_nil (fun w H => ?_)
   refine n_then ?_
   refine c_if S rfl (fun h8 => ?_) (fun h8 => ?_)
   ·have h8p := h8; try simp only [DL] at h8p
    have hx := h8
    rw [memS_get] at hx
    simp only [Bool.or_eq_true, Bool.and_eq_true, decide_eq_true_eq, Bool.not_eq_true', decide_eq_false_iff_not, bne_iff_ne, ne_eq, mem_posK] at hx
    refine g_seq ?_
    refine g_region ?_
    refine gy rfl rfl rfl S (y_assign rfl S rfl) fun a S => ?_
    refine gl_nil ?_
    refine n_then ?_
    refine g_ret ?_
    refine r_then (r_block (r_then (r_then (r_block (r_then (ret1 rfl S rfl ?_))))))
    refine ⟨congrArg Value.bool (Eq.symm ?_), H.toExt⟩
    by_cases hs : ms[k].serial = (movedL ts)[k].serial
    · refine chk_bad (by simpa using hkl) (fun hg => ?_)
      rcases hg with hg | ⟨hg, hg2⟩
      · rw [hta] at hg
        rcases hx with (hx | hx) | hx
        · exact hx hs
        · omega
        · omega
      · rw [hta, hrw] at hg
        have hv := (validG_parts hvg).2.2.2 k ms[k].to_ (by rw [hrw]; exact hg)
        rcases hx with (hx | hx) | ⟨hx, ⟨_, j, hj, e⟩ | hx2⟩
        · exact hx hs
        · omega
        · exact hg2 j hj (by rw [e, hta])
        · exact hx2 hg
    · exact chk_no (fun hc => hs (by have := hc.ser k (by simpa using hkl) hko; rw [hsg] at this; exact this))
   ·have h8p := h8; try simp only [DL] at h8p
    have hx := h8
    rw [memS_get] at hx
    simp only [Bool.or_eq_false_iff, Bool.and_eq_false_iff, decide_eq_false_iff_not, Bool.not_eq_false', decide_eq_true_eq, bne_eq_false_iff_eq, mem_posK] at hx
    obtain ⟨⟨hx1, hx2⟩, hx3⟩ := hx
    have hgd : goodAt (edgesL (oldL old (movedL ts)) next) (tosS (ms.map Mv.say)) k := by
      rcases hx3 with hx3 | ⟨hx3, hx4⟩
      · exact .inl (by rw [hta]; omega)
      · refine .inr ⟨by rw [hta, hrw]; exact hx4, fun j hj e => ?_⟩
        by_cases h0 : 0 ≤ ms[k].to_
        · exact hx3 ⟨h0, j, hj, by rw [e, hta]⟩
        · have hv := (validG_parts hvg).2.2.2 k ms[k].to_ (by rw [hrw]; exact hx4)
          omega
    refine g_skip ?_
    refine n_then ?_
    refine g_seq ?_
    refine g_seq ?_
    refine g_region ?_
    refine gy rfl rfl rfl S (y_faddrb rfl Ffo50_1 S rfl) fun a S => ?_
    refine gy rfl rfl rfl S (y_load rfl Fsca3 S H rfl rfl) fun a S => ?_
    refine gy rfl rfl rfl S (y_bin rfl S rfl rfl rfl) fun a S => ?_
    refine gl_nil ?_
    refine n_then ?_
    refine c_if S rfl (fun h9 => ?_) (fun h9 => ?_)
    ·have h9p := h9; try simp only [DL] at h9p
     have hpk : posK (tosS (ms.map Mv.say)) (k + 1) = ms[k].to_ :: posK (tosS (ms.map Mv.say)) k := by rw [posK, hta, if_pos h9p]
     refine g_region ?_
     refine gy rfl rfl rfl S (y_move rfl S rfl) fun a S => ?_
     refine gy rfl rfl rfl S (y_faddrb rfl Ffo50_1 S rfl) fun a S => ?_
     refine gy rfl rfl rfl S (y_load rfl Fsca3 S H rfl rfl) fun a S => ?_
     refine wl_of (op_mapUpdate (ms[k].to_) (true) (wn rfl) rfl rfl Try.underlying75 S H rfl (keyOK_int Try.underlying3) (by exact rfl) (by exact rfl) fun a w S H => ?_)
     refine gl_nil ?_
     refine n_then ?_
     refine g_region ?_
     refine gy rfl rfl rfl S (y_move rfl S rfl) fun a S => ?_
     refine gy rfl rfl rfl S (y_faddrb rfl Ffo50_1 S rfl) fun a S => ?_
     refine gy rfl rfl rfl S (y_load rfl Fsca3 S H rfl rfl) fun a S => ?_
     refine wl_of (op_buildSlice (wn rfl) rfl rfl rfl Try.underlying25 Finf3 S H (idx := [0]) rfl rfl rfl (z := [.int .i64 0]) (by kernel_rfl) (cs := [_]) rfl fun b91 a w S H => ?_)
     refine wl_of (op_append ([ms[k].to_]) (wn rfl) rfl rfl rfl Try.underlying25 Finf3 rfl rfl S H rfl rfl rfl rfl (by simp) (by simp [encI]) (by simp [encI, Value.oneCell']) (by simp only [List.length_cons, List.length_nil, List.length_take]; omega) (by simp only [List.length_cons, List.length_nil, List.length_take]; omega) fun u92 a w hn92 S H => ?_)
     refine gy rfl rfl rfl S (y_assign rfl S rfl) fun a S => ?_
     refine gl_nil ?_
     refine n_block ?_
     refine n_then ?_
     refine g_region ?_
     refine gy rfl rfl rfl S (y_add rfl S rfl rfl (by omega)) fun a S => ?_
     refine gy rfl rfl rfl S (y_move rfl S rfl) fun a S => ?_
     refine gl_nil ?_
     refine n_then ?_
     have hs1 : ∀ i (h : i < (ms.map Mv.say).length) (h2 : i < (movedL ts).length), i < k + 1 → (ms.map Mv.say)[i].1 = (movedL ts)[i].serial := fun i h h2 hi => by
       by_cases e : i < k
       · exact hser i h h2 e
       · obtain rfl : i = k := by omega
         rw [hsg]; exact hx1
     have hg1 : ∀ i, i < k + 1 → goodAt (edgesL (oldL old (movedL ts)) next) (tosS (ms.map Mv.say)) i := fun i hi => by
       by_cases e : i < k
       · exact hgood i e
       · obtain rfl : i = k := by omega
         exact hgd
     first
     | exact ⟨(k + 1, u92), (S.nil.cons S 40 rfl).cons S 12 rfl, (((((S.nil.cons S 1 rfl).cons S 7 rfl).cons S 9 rfl).cons S 11 rfl).cons S 38 rfl).cons S 39 rfl, ⟨by dsimp only; omega, hs1, hg1, c, by dsimp only; rw [htt, hpk]; exact H.take [MapA b36 (fun n : Int => .int .i64 n) (fun b : Bool => .bool b) (memS (posK (tosS (ms.map Mv.say)) k)) c, OSl 3 u92 1 encI ((tosS (ms.map Mv.say)).take k ++ [ms[k].to_]), Cel b9 70 [va, vb, v2, ve], Cel b7 29 [mvv, vl, vr], OSl 47 va 11 Ow.enc (movedL ts), OSl 56 vb 9 Pl.enc (oldL old (movedL ts)), OSl 25 ve 1 encRow ps, RowsA 3 1 encI ps, RowsS 1 encI (rowsOf ms), Sl mvv 3 Mv.enc ms, Sl vr 1 encI right, Sl vl 1 encI left, Sl v3 11 Ow.enc ts, Sl v2 9 Pl.enc next, Sl v1 9 Pl.enc old]⟩, by dsimp only; omega⟩
     | exact ⟨(k + 1, u92), (S.nil.cons S 40 rfl).cons S 12 rfl, (((((S.nil.cons S 1 rfl).cons S 7 rfl).cons S 9 rfl).cons S 11 rfl).cons S 38 rfl).cons S 39 rfl, ⟨by dsimp only; omega, hs1, hg1, (if (memS (posK (tosS (ms.map Mv.say)) k) ms[k].to_).isSome = true then c else c + 1), by dsimp only; rw [htt, hpk]; exact H.take [MapA b36 (fun n : Int => .int .i64 n) (fun b : Bool => .bool b) (upd (memS (posK (tosS (ms.map Mv.say)) k)) ms[k].to_ true) (if (memS (posK (tosS (ms.map Mv.say)) k) ms[k].to_).isSome = true then c else c + 1), OSl 3 u92 1 encI ((tosS (ms.map Mv.say)).take k ++ [ms[k].to_]), Cel b9 70 [va, vb, v2, ve], Cel b7 29 [mvv, vl, vr], OSl 47 va 11 Ow.enc (movedL ts), OSl 56 vb 9 Pl.enc (oldL old (movedL ts)), OSl 25 ve 1 encRow ps, RowsA 3 1 encI ps, RowsS 1 encI (rowsOf ms), Sl mvv 3 Mv.enc ms, Sl vr 1 encI right, Sl vl 1 encI left, Sl v3 11 Ow.enc ts, Sl v2 9 Pl.enc next, Sl v1 9 Pl.enc old]⟩, by dsimp only; omega⟩
    ·have h9p := h9; try simp only [DL] at h9p
     have hpk : posK (tosS (ms.map Mv.say)) (k + 1) = posK (tosS (ms.map Mv.say)) k := by rw [posK, hta, if_neg (by have := h9p; omega)]
     refine g_skip ?_
     refine n_then ?_
     refine g_region ?_
     refine gy rfl rfl rfl S (y_move rfl S rfl) fun a S => ?_
     refine gy rfl rfl rfl S (y_faddrb rfl Ffo50_1 S rfl) fun a S => ?_
     refine gy rfl rfl rfl S (y_load rfl Fsca3 S H rfl rfl) fun a S => ?_
     refine wl_of (op_buildSlice (wn rfl) rfl rfl rfl Try.underlying25 Finf3 S H (idx := [0]) rfl rfl rfl (z := [.int .i64 0]) (by kernel_rfl) (cs := [_]) rfl fun b91 a w S H => ?_)
     refine wl_of (op_append ([ms[k].to_]) (wn rfl) rfl rfl rfl Try.underlying25 Finf3 rfl rfl S H rfl rfl rfl rfl (by simp) (by simp [encI]) (by simp [encI, Value.oneCell']) (by simp only [List.length_cons, List.length_nil, List.length_take]; omega) (by simp only [List.length_cons, List.length_nil, List.length_take]; omega) fun u92 a w hn92 S H => ?_)
     refine gy rfl rfl rfl S (y_assign rfl S rfl) fun a S => ?_
     refine gl_nil ?_
     refine n_block ?_
     refine n_then ?_
     refine g_region ?_
     refine gy rfl rfl rfl S (y_add rfl S rfl rfl (by omega)) fun a S => ?_
     refine gy rfl rfl rfl S (y_move rfl S rfl) fun a S => ?_
     refine gl_nil ?_
     refine n_then ?_
     have hs1 : ∀ i (h : i < (ms.map Mv.say).length) (h2 : i < (movedL ts).length), i < k + 1 → (ms.map Mv.say)[i].1 = (movedL ts)[i].serial := fun i h h2 hi => by
       by_cases e : i < k
       · exact hser i h h2 e
       · obtain rfl : i = k := by omega
         rw [hsg]; exact hx1
     have hg1 : ∀ i, i < k + 1 → goodAt (edgesL (oldL old (movedL ts)) next) (tosS (ms.map Mv.say)) i := fun i hi => by
       by_cases e : i < k
       · exact hgood i e
       · obtain rfl : i = k := by omega
         exact hgd
     first
     | exact ⟨(k + 1, u92), (S.nil.cons S 40 rfl).cons S 12 rfl, (((((S.nil.cons S 1 rfl).cons S 7 rfl).cons S 9 rfl).cons S 11 rfl).cons S 38 rfl).cons S 39 rfl, ⟨by dsimp only; omega, hs1, hg1, c, by dsimp only; rw [htt, hpk]; exact H.take [MapA b36 (fun n : Int => .int .i64 n) (fun b : Bool => .bool b) (memS (posK (tosS (ms.map Mv.say)) k)) c, OSl 3 u92 1 encI ((tosS (ms.map Mv.say)).take k ++ [ms[k].to_]), Cel b9 70 [va, vb, v2, ve], Cel b7 29 [mvv, vl, vr], OSl 47 va 11 Ow.enc (movedL ts), OSl 56 vb 9 Pl.enc (oldL old (movedL ts)), OSl 25 ve 1 encRow ps, RowsA 3 1 encI ps, RowsS 1 encI (rowsOf ms), Sl mvv 3 Mv.enc ms, Sl vr 1 encI right, Sl vl 1 encI left, Sl v3 11 Ow.enc ts, Sl v2 9 Pl.enc next, Sl v1 9 Pl.enc old]⟩, by dsimp only; omega⟩
     | exact ⟨(k + 1, u92), (S.nil.cons S 40 rfl).cons S 12 rfl, (((((S.nil.cons S 1 rfl).cons S 7 rfl).cons S 9 rfl).cons S 11 rfl).cons S 38 rfl).cons S 39 rfl, ⟨by dsimp only; omega, hs1, hg1, (if (memS (posK (tosS (ms.map Mv.say)) k) ms[k].to_).isSome = true then c else c + 1), by dsimp only; rw [htt, hpk]; exact H.take [MapA b36 (fun n : Int => .int .i64 n) (fun b : Bool => .bool b) (upd (memS (posK (tosS (ms.map Mv.say)) k)) ms[k].to_ true) (if (memS (posK (tosS (ms.map Mv.say)) k) ms[k].to_).isSome = true then c else c + 1), OSl 3 u92 1 encI ((tosS (ms.map Mv.say)).take k ++ [ms[k].to_]), Cel b9 70 [va, vb, v2, ve], Cel b7 29 [mvv, vl, vr], OSl 47 va 11 Ow.enc (movedL ts), OSl 56 vb 9 Pl.enc (oldL old (movedL ts)), OSl 25 ve 1 encRow ps, RowsA 3 1 encI ps, RowsS 1 encI (rowsOf ms), Sl mvv 3 Mv.enc ms, Sl vr 1 encI right, Sl vl 1 encI left, Sl v3 11 Ow.enc ts, Sl v2 9 Pl.enc next, Sl v1 9 Pl.enc old]⟩, by dsimp only; omega⟩
  ·have h3p := h3; try simp only [DL] at h3p
   obtain rfl : k = ms.length := by omega
   obtain ⟨c0, hc0⟩ : ∃ c0, c0 = c := ⟨_, rfl⟩
   rw [← hc0] at H
   rw [List.take_of_length_le (by rw [tos_len]; exact Nat.le_refl _)] at H
   refine g_exit ?_
   refine x_then (x_then (x_eq ?_))
   refine n_then ?_
   have S := ((((S.nil.cons S 1 rfl).cons S 7 rfl).cons S 9 rfl).cons S 11 rfl).cons S 12 rfl
   refine g_seq ?_
   refine g_seq ?_
   refine g_region ?_
   refine gy rfl rfl rfl S (y_faddrb rfl Ffo29_0 S rfl) fun a S => ?_
   refine gy rfl rfl rfl S (y_load rfl Fsca24 S H rfl rfl) fun a S => ?_
   refine gy rfl rfl rfl S (y_lens rfl Try.underlying24 S H rfl) fun a S => ?_
   refine gy rfl rfl rfl S (y_move rfl S rfl) fun a S => ?_
   refine gl_nil ?_
   refine n_then ?_
   refine g_block ?_
   have SU := ((((((S.nil.cons S 1 rfl).cons S 7 rfl).cons S 9 rfl).cons S 11 rfl).cons S 12 rfl).cons S 95 rfl).cons S 96 rfl
   refine loopW (X := Nat) SU (fun k => [(97, .int .i64 (k : Int))]) (fun k w => k ≤ ms.length ∧ (∀ i (h : i < (ms.map Mv.say).length) (h2 : i < (oldL old (movedL ts)).length), i < k → (ms.map Mv.say)[i].2.2 = if (ms.map Mv.say)[i].2.1 < 0 then offL (oldL old (movedL ts))[i].kind next (tosS (ms.map Mv.say)) else []) ∧ HSat No w0 [MapA b36 (fun n : Int => .int .i64 n) (fun b : Bool => .bool b) (memS (posK (tosS (ms.map Mv.say)) ms.length)) c0, OSl 3 vg 1 encI (tosS (ms.map Mv.say)), Cel b9 70 [va, vb, v2, ve], Cel b7 29 [mvv, vl, vr], OSl 47 va 11 Ow.enc (movedL ts), OSl 56 vb 9 Pl.enc (oldL old (movedL ts)), OSl 25 ve 1 encRow ps, RowsA 3 1 encI ps, RowsS 1 encI (rowsOf ms), Sl mvv 3 Mv.enc ms, Sl vr 1 encI right, Sl vl 1 encI left, Sl v3 11 Ow.enc ts, Sl v2 9 Pl.enc next, Sl v1 9 Pl.enc old] w) (fun k => ms.length - k) 0 (S.nil.cons S 97 rfl) (⟨by omega, fun i h h2 hi => by omega, H.take [MapA b36 (fun n : Int => .int .i64 n) (fun b : Bool => .bool b) (memS (posK (tosS (ms.map Mv.say)) ms.length)) c0, OSl 3 vg 1 encI (tosS (ms.map Mv.say)), Cel b9 70 [va, vb, v2, ve], Cel b7 29 [mvv, vl, vr], OSl 47 va 11 Ow.enc (movedL ts), OSl 56 vb 9 Pl.enc (oldL old (movedL ts)), OSl 25 ve 1 encRow ps, RowsA 3 1 encI ps, RowsS 1 encI (rowsOf ms), Sl mvv 3 Mv.enc ms, Sl vr 1 encI right, Sl vl 1 encI left, Sl v3 11 Ow.enc ts, Sl v2 9 Pl.enc next, Sl v1 9 Pl.enc old]⟩) (fun k a w S hW => ?_)
   simp only [List.cons_append, List.nil_append] at S
   clear H
   obtain ⟨hk, hoff, H⟩ := hW
   refine g_seq ?_
   refine g_region ?_
   refine gy rfl rfl rfl S (y_bin rfl S rfl rfl rfl) fun a S => ?_
   refine gl_nil ?_
   refine n_then ?_
   refine g_seq ?_
   refine c_if S rfl (fun h10 => ?_) (fun h10 => ?_)
   ·have h10p := h10; try simp only [DL] at h10p
    have hkl : k < ms.length := by omega
    have hko : k < (oldL old (movedL ts)).length := by omega
    have hmo := (hmr _ (rows_mem hkl)).one
    have hsg := say_get hkl (by simpa using hkl)
    refine g_skip ?_
    refine n_then ?_
    refine g_seq ?_
    refine g_block ?_
    refine g_seq ?_
    refine g_region ?_
    refine gy rfl rfl rfl S (y_move rfl S rfl) fun a S => ?_
    refine gy rfl rfl rfl S (y_iaddrn rfl Try.underlying24 Fsiz50 S H rfl rfl (by first | assumption | omega | (simp only [List.length_append, List.length_take, List.length_drop, List.length_replicate, List.length_set, List.length_map, List.length_cons, List.length_nil]; omega))) fun a S => ?_
    refine gy rfl rfl rfl S (y_loadsa _ rfl S H rfl (by exact Fagg50) (by first | assumption | omega | (simp only [List.length_append, List.length_take, List.length_drop, List.length_replicate, List.length_set, List.length_map, List.length_cons, List.length_nil]; omega))) fun a S => ?_
    refine wl_of (op_alloc (wn rfl) rfl rfl rfl S H Fzer50 fun b16 a w S H => ?_)
    refine gy rfl rfl rfl S (y_assign rfl S rfl) fun a S => ?_
    refine wl_of (op_storea (wn rfl) rfl rfl S H rfl rfl (by simp only [Mv.enc, List.all_cons, List.all_nil, hmo, Bool.and_true]; rfl) Fsiz50 rfl (cs' := [_, _, _]) rfl fun a w S H => ?_)
    refine gl_nil ?_
    refine n_then ?_
    refine g_seq ?_
    refine g_region ?_
    refine gy rfl rfl rfl S (y_assign rfl S rfl) fun a S => ?_
    refine gl_nil ?_
    refine n_then ?_
    refine g_seq ?_
    refine g_seq ?_
    refine g_region ?_
    refine gy rfl rfl rfl S (y_faddrb rfl Ffo50_1 S rfl) fun a S => ?_
    refine gy rfl rfl rfl S (y_load rfl Fsca3 S H rfl rfl) fun a S => ?_
    refine gy rfl rfl rfl S (y_bin rfl S rfl rfl rfl) fun a S => ?_
    refine gl_nil ?_
    refine n_then ?_
    refine c_if S rfl (fun h11 => ?_) (fun h11 => ?_)
    ·have h11p := h11; try simp only [DL] at h11p
     have hneg : ms[k].to_ < 0 := h11p
     refine g_region ?_
     refine gy rfl rfl rfl S (y_load0 rfl S H rfl (by exact Fagg70)) fun a S => ?_
     refine gy rfl rfl rfl S (y_move rfl S rfl) fun a S => ?_
     refine gy rfl rfl rfl S (y_move rfl S rfl) fun a S => ?_
     refine wl_of (op_call (wn rfl) rfl rfl S (co_func rfl Try.call31 S rfl) (offers_spec va vb v2 ve (oldL old (movedL ts)) next k b36 (posK (tosS (ms.map Mv.say)) ms.length) c0 _ (H.sl vb) (H.sl v2) (H.mp b36) (by omega) (by omega)) fun uw w hc a S => ?_)
     have H1 := hc
     obtain ⟨ow, how⟩ : ∃ o, o = offL (oldL old (movedL ts))[k].kind next (tosS (ms.map Mv.say)) := ⟨_, rfl⟩
     rw [show offL (oldL old (movedL ts))[k].kind next (posK (tosS (ms.map Mv.say)) ms.length) = ow by rw [how]; exact offK_congr (fun k _ => by rw [← tos_len ms]; exact posK_all) _ (Nat.le_refl _)] at H1
     have H := H.call1 H1 rfl
     have hwant : ow = if ms[k].to_ < 0 then offL (oldL old (movedL ts))[k].kind next (tosS (ms.map Mv.say)) else [] := by rw [if_pos hneg]; exact how
     refine gy rfl rfl rfl S (y_assign rfl S rfl) fun a S => ?_
     refine gl_nil ?_
     refine n_then ?_
     refine g_seq ?_
     refine g_region ?_
     refine gy rfl rfl rfl S (y_faddrb rfl Ffo50_2 S rfl) fun a S => ?_
     refine gy rfl rfl rfl S (y_load rfl Fsca25 S H rfl rfl) fun a S => ?_
     refine gy rfl rfl rfl S (y_move rfl S rfl) fun a S => ?_
     refine wl_of (op_call (wn rfl) rfl rfl S (co_func rfl Try.call38 S rfl) (equal_spec ms[k].row.1 uw ms[k].row.2 ow _ (H.rwsS (rowsOf ms) _ (rows_mem (by omega))) (H.sl uw)) fun v w hc a S => ?_)
     obtain ⟨rfl, he⟩ := hc
     have H := H.ext he
     refine gy rfl rfl rfl S (y_not rfl S rfl) fun a S => ?_
     refine gl_nil ?_
     refine n_then ?_
     refine c_if S rfl (fun h12 => ?_) (fun h12 => ?_)
     ·have h12p := h12; try simp only [DL] at h12p
      refine g_seq ?_
      refine g_region ?_
      refine gy rfl rfl rfl S (y_assign rfl S rfl) fun a S => ?_
      refine gl_nil ?_
      refine n_then ?_
      refine g_ret ?_
      refine r_block (r_then (r_then (r_block (r_then (ret1 rfl S rfl ?_)))))
      have hne : ms[k].row.2 ≠ ow := h12p
      exact ⟨congrArg Value.bool (Eq.symm (chk_no (fun hc => hne (by have := hc.off k (by simpa using hkl) (by omega); rw [hsg] at this; rw [hwant]; exact this)))), H.toExt⟩
     ·have h12p := h12; try simp only [DL] at h12p
      have hq := h12p
      refine g_skip ?_
      refine n_block ?_
      refine n_then ?_
      refine g_region ?_
      refine gy rfl rfl rfl S (y_add rfl S rfl rfl (by omega)) fun a S => ?_
      refine gy rfl rfl rfl S (y_move rfl S rfl) fun a S => ?_
      refine gl_nil ?_
      refine n_then ?_
      refine ⟨k + 1, S.nil.cons S 97 rfl, ((((((S.nil.cons S 1 rfl).cons S 7 rfl).cons S 9 rfl).cons S 11 rfl).cons S 12 rfl).cons S 95 rfl).cons S 96 rfl, ⟨by omega, fun i h h2 hi => ?_, H.take [MapA b36 (fun n : Int => .int .i64 n) (fun b : Bool => .bool b) (memS (posK (tosS (ms.map Mv.say)) ms.length)) c0, OSl 3 vg 1 encI (tosS (ms.map Mv.say)), Cel b9 70 [va, vb, v2, ve], Cel b7 29 [mvv, vl, vr], OSl 47 va 11 Ow.enc (movedL ts), OSl 56 vb 9 Pl.enc (oldL old (movedL ts)), OSl 25 ve 1 encRow ps, RowsA 3 1 encI ps, RowsS 1 encI (rowsOf ms), Sl mvv 3 Mv.enc ms, Sl vr 1 encI right, Sl vl 1 encI left, Sl v3 11 Ow.enc ts, Sl v2 9 Pl.enc next, Sl v1 9 Pl.enc old]⟩, by omega⟩
      by_cases e : i < k
      · exact hoff i h h2 e
      · obtain rfl : i = k := by omega
        rw [hsg]; exact hq.trans hwant
    ·have h11p := h11; try simp only [DL] at h11p
     have hneg : ¬ ms[k].to_ < 0 := by have := h11p; omega
     obtain ⟨uw, huw⟩ : ∃ u : Value, u = .slice none 0 0 := ⟨_, rfl⟩
     obtain ⟨ow, how⟩ : ∃ o : List Int, o = [] := ⟨_, rfl⟩
     have H := H.nilO 3 1 encI
     rw [← huw, ← how] at H
     rw [← huw] at S
     have hwant : ow = if ms[k].to_ < 0 then offL (oldL old (movedL ts))[k].kind next (tosS (ms.map Mv.say)) else [] := by rw [if_neg hneg]; exact how
     refine g_skip ?_
     refine n_then ?_
     refine g_seq ?_
     refine g_region ?_
     refine gy rfl rfl rfl S (y_faddrb rfl Ffo50_2 S rfl) fun a S => ?_
     refine gy rfl rfl rfl S (y_load rfl Fsca25 S H rfl rfl) fun a S => ?_
     refine gy rfl rfl rfl S (y_move rfl S rfl) fun a S => ?_
     refine wl_of (op_call (wn rfl) rfl rfl S (co_func rfl Try.call38 S rfl) (equal_spec ms[k].row.1 uw ms[k].row.2 ow _ (H.rwsS (rowsOf ms) _ (rows_mem (by omega))) (H.sl uw)) fun v w hc a S => ?_)
     obtain ⟨rfl, he⟩ := hc
     have H := H.ext he
     refine gy rfl rfl rfl S (y_not rfl S rfl) fun a S => ?_
     refine gl_nil ?_
     refine n_then ?_
     refine c_if S rfl (fun h13 => ?_) (fun h13 => ?_)
     ·have h13p := h13; try simp only [DL] at h13p
      refine g_seq ?_
      refine g_region ?_
      refine gy rfl rfl rfl S (y_assign rfl S rfl) fun a S => ?_
      refine gl_nil ?_
      refine n_then ?_
      refine g_ret ?_
      refine r_block (r_then (r_then (r_block (r_then (ret1 rfl S rfl ?_)))))
      have hne : ms[k].row.2 ≠ ow := h13p
      exact ⟨congrArg Value.bool (Eq.symm (chk_no (fun hc => hne (by have := hc.off k (by simpa using hkl) (by omega); rw [hsg] at this; rw [hwant]; exact this)))), H.toExt⟩
     ·have h13p := h13; try simp only [DL] at h13p
      have hq := h13p
      refine g_skip ?_
      refine n_block ?_
      refine n_then ?_
      refine g_region ?_
      refine gy rfl rfl rfl S (y_add rfl S rfl rfl (by omega)) fun a S => ?_
      refine gy rfl rfl rfl S (y_move rfl S rfl) fun a S => ?_
      refine gl_nil ?_
      refine n_then ?_
      refine ⟨k + 1, S.nil.cons S 97 rfl, ((((((S.nil.cons S 1 rfl).cons S 7 rfl).cons S 9 rfl).cons S 11 rfl).cons S 12 rfl).cons S 95 rfl).cons S 96 rfl, ⟨by omega, fun i h h2 hi => ?_, H.take [MapA b36 (fun n : Int => .int .i64 n) (fun b : Bool => .bool b) (memS (posK (tosS (ms.map Mv.say)) ms.length)) c0, OSl 3 vg 1 encI (tosS (ms.map Mv.say)), Cel b9 70 [va, vb, v2, ve], Cel b7 29 [mvv, vl, vr], OSl 47 va 11 Ow.enc (movedL ts), OSl 56 vb 9 Pl.enc (oldL old (movedL ts)), OSl 25 ve 1 encRow ps, RowsA 3 1 encI ps, RowsS 1 encI (rowsOf ms), Sl mvv 3 Mv.enc ms, Sl vr 1 encI right, Sl vl 1 encI left, Sl v3 11 Ow.enc ts, Sl v2 9 Pl.enc next, Sl v1 9 Pl.enc old]⟩, by omega⟩
      by_cases e : i < k
      · exact hoff i h h2 e
      · obtain rfl : i = k := by omega
        rw [hsg]; exact hq.trans hwant
   ·have h10p := h10; try simp only [DL] at h10p
    obtain rfl : k = ms.length := by omega
    refine g_exit ?_
    refine x_then (x_then (x_eq ?_))
    refine n_then ?_
    have S := (((S.nil.cons S 1 rfl).cons S 7 rfl).cons S 9 rfl).cons S 12 rfl
    refine g_seq ?_
    refine g_region ?_
    refine gy rfl rfl rfl S (y_faddrb rfl Ffo70_3 S rfl) fun a S => ?_
    refine gy rfl rfl rfl S (y_load rfl Fsca66 S H rfl rfl) fun a S => ?_
    refine gy rfl rfl rfl S (y_move rfl S rfl) fun a S => ?_
    refine gy rfl rfl rfl S (y_lens rfl Try.underlying22 S H rfl) fun a S => ?_
    refine gy rfl rfl rfl S (y_move rfl S rfl) fun a S => ?_
    refine gy rfl rfl rfl S (y_faddrb rfl Ffo29_1 S rfl) fun a S => ?_
    refine gy rfl rfl rfl S (y_loadp (vs := [vl, vr]) rfl S H rfl (by exact Fagg27) rfl) fun a S => ?_
    refine wl_of (op_call (wn rfl) rfl rfl S (co_func rfl Try.call39 S rfl) (check_spec ve ps next.length vg (tosS (ms.map Mv.say)) vl vr left right _ (H.sl ve) (H.rws 3 ps) (H.sl vg) (H.sl vl) (H.sl vr) hcl (by omega) (by omega)) fun v w hc a S => ?_)
    obtain ⟨rfl, he⟩ := hc
    have H := H.ext he
    refine gy rfl rfl rfl S (y_assign rfl S rfl) fun a S => ?_
    refine gl_nil ?_
    refine n_then ?_
    have S := S.nil.cons S 8 rfl
    refine g_ret ?_
    refine ret1 rfl S rfl ?_
    rw [hps]
    exact ⟨congrArg Value.bool (chk_last (by rw [List.length_map]; exact hlen) (fun i h h2 => hser i h h2 (by simpa using h)) (fun i h h2 => hoff i h h2 (by simpa using h))), H.toExt⟩


/-- what the reference's search does: f rounds deep at most -/
def RLookSpec (f : Nat) (r : Nat) (vs vt vp ve : Value) (ps : List (Value × List Int)) (bw : Nat) : Prop := ∀ {M : Nat → Prop} {u0 : World} {l : List Atom} (i : Nat) (s0 : AS) (w0 : World), i < ps.length → AWF (gr ps) r s0 → r < f + s0.seen.length →
    HSat M u0 (OSl 4 vs 1 encB (seenB r (s0.seen)) :: OSl 3 vt 1 encI (s0.owner) :: OSl 3 vp 1 encI (s0.got) :: Cel bw 105 [ve, vt, vp, vs] :: Atom.ro (RowsA 3 1 encI ps) :: Atom.ro (OSl 25 ve 1 encRow ps) :: l) w0 → Ret Try.prog 53 #[.pointer (some ⟨bw, 0, none⟩), .int .i64 (i : Int)] w0 (fun u w => u = .bool (aug (gr ps) f (i : Int) s0).1 ∧ HSat M u0 (OSl 4 vs 1 encB (seenB r ((aug (gr ps) f (i : Int) s0).2.seen)) :: OSl 3 vt 1 encI ((aug (gr ps) f (i : Int) s0).2.owner) :: OSl 3 vp 1 encI ((aug (gr ps) f (i : Int) s0).2.got) :: Cel bw 105 [ve, vt, vp, vs] :: Atom.ro (RowsA 3 1 encI ps) :: Atom.ro (OSl 25 ve 1 encRow ps) :: l) w)
set_option maxHeartbeats 2000000 in
/-- (*foyer/foyerref41.work).look -/
theorem rlook_step {M : Nat → Prop} {u0 : World} {l : List Atom} (f : Nat) (r : Nat) (vs vt vp ve : Value) (ps : List (Value × List Int)) (bw : Nat) (hvg : validG (gr ps) r = true) (ih : RLookSpec f r vs vt vp ve ps bw) (i : Nat) (s0 : AS) (w0 : World) (hi0 : i < ps.length) (hwf0 : AWF (gr ps) r s0) (hf0 : r < f + 1 + s0.seen.length) (h0 : HSat M u0 (OSl 4 vs 1 encB (seenB r (s0.seen)) :: OSl 3 vt 1 encI (s0.owner) :: OSl 3 vp 1 encI (s0.got) :: Cel bw 105 [ve, vt, vp, vs] :: Atom.ro (RowsA 3 1 encI ps) :: Atom.ro (OSl 25 ve 1 encRow ps) :: l) w0) :
    Ret Try.prog 53 #[.pointer (some ⟨bw, 0, none⟩), .int .i64 (i : Int)] w0 (fun u w => u = .bool (aug (gr ps) (f + 1) (i : Int) s0).1 ∧ HSat M u0 (OSl 4 vs 1 encB (seenB r ((aug (gr ps) (f + 1) (i : Int) s0).2.seen)) :: OSl 3 vt 1 encI ((aug (gr ps) (f + 1) (i : Int) s0).2.owner) :: OSl 3 vp 1 encI ((aug (gr ps) (f + 1) (i : Int) s0).2.got) :: Cel bw 105 [ve, vt, vp, vs] :: Atom.ro (RowsA 3 1 encI ps) :: Atom.ro (OSl 25 ve 1 encRow ps) :: l) w) := by
 refine ret_of_wp (nt := 75) Try.func53 rfl rfl rfl (fl := [(0, .pointer (some ⟨bw, 0, none⟩)), (1, .int .i64 (i : Int))]) rfl (fun a S => ?_)
 have H := h0
 have hgl := gr_len ps
 have hrw := gr_row ps hi0
 have hvp := validG_parts hvg
 have hlv := (H.sl ve).len
 have hrl := (H.sl ps[i].1).len
 refine g_seq ?_
 refine g_region ?_
 refine gy rfl rfl rfl S (y_assign rfl S rfl) fun a S => ?_
 refine gl_nil ?_
 refine n_then ?_
 refine g_seq ?_
 refine g_seq ?_
 refine g_region ?_
 refine gy rfl rfl rfl S (y_assign rfl S rfl) fun a S => ?_
 refine gl_nil ?_
 refine n_then ?_
 refine g_block ?_
 have SU := (S.nil.cons S 1 rfl).cons S 0 rfl
 refine loopW (X := Nat) SU (fun k => [(5, .int .i64 (k : Int))]) (fun k w => k ≤ ps[i].2.length ∧ ∃ s, augRow (aug (gr ps) f) i ps[i].2 s0 = augRow (aug (gr ps) f) i (ps[i].2.drop k) s ∧ AWF (gr ps) r s ∧ r < f + 1 + s.seen.length ∧ HSat M u0 (OSl 4 vs 1 encB (seenB r (s.seen)) :: OSl 3 vt 1 encI (s.owner) :: OSl 3 vp 1 encI (s.got) :: Cel bw 105 [ve, vt, vp, vs] :: Atom.ro (RowsA 3 1 encI ps) :: Atom.ro (OSl 25 ve 1 encRow ps) :: l) w) (fun k => ps[i].2.length - k) 0 (S.nil.cons S 5 rfl) (⟨by omega, s0, rfl, hwf0, hf0, H⟩) (fun k a w S hW => ?_)
 simp only [List.cons_append, List.nil_append] at S
 obtain ⟨hk, s, hau, hwf, hfu, H⟩ := hW
 have hlo := hwf.lo
 have hlg := hwf.lg
 refine g_seq ?_
 refine g_seq ?_
 refine g_region ?_
 refine gy rfl rfl rfl S (y_move rfl S rfl) fun a S => ?_
 refine gy rfl rfl rfl S (y_move rfl S rfl) fun a S => ?_
 refine gy rfl rfl rfl S (y_nilCheck rfl S rfl) fun a S => ?_
 refine gy rfl rfl rfl S (y_faddrb rfl Ffo105_0 S rfl) fun a S => ?_
 refine gy rfl rfl rfl S (y_load rfl Fsca66 S H rfl rfl) fun a S => ?_
 refine gy rfl rfl rfl S (y_move rfl S rfl) fun a S => ?_
 refine gy rfl rfl rfl S (y_iaddrn rfl Try.underlying66 Fsiz25 S H rfl rfl (by first | assumption | omega | (rw [seenB_len]; omega))) fun a S => ?_
 refine gy rfl rfl rfl S (y_loads _ rfl Fsca25 S H rfl (by first | assumption | omega | (rw [seenB_len]; omega)) rfl) fun a S => ?_
 refine gy rfl rfl rfl S (y_lens rfl Try.underlying25 S H rfl) fun a S => ?_
 refine gy rfl rfl rfl S (y_bin rfl S rfl rfl rfl) fun a S => ?_
 refine gl_nil ?_
 refine n_then ?_
 refine c_if S rfl (fun h1 => ?_) (fun h1 => ?_)
 ·have h1p := h1; try simp only [DL] at h1p
  have hkl : k < ps[i].2.length := by omega
  obtain ⟨n, hn⟩ : ∃ n : Nat, ps[i].2[k] = n := ⟨ps[i].2[k].toNat, by have := hvp.2.2.2 i ps[i].2[k] (by rw [hrw]; exact List.getElem_mem _); omega⟩
  have hnr : (0 : Int) ≤ n ∧ (n : Int) < r := hvp.2.2.2 i n (by rw [hrw, ← hn]; exact List.getElem_mem _)
  have hrd : ps[i].2.drop k = (n : Int) :: ps[i].2.drop (k + 1) := by rw [← hn]; exact List.drop_eq_getElem_cons hkl
  have hnrr : n < r := by omega
  refine g_skip ?_
  refine n_then ?_
  refine g_seq ?_
  refine g_block ?_
  refine g_seq ?_
  refine g_region ?_
  refine gy rfl rfl rfl S (y_move rfl S rfl) fun a S => ?_
  refine gy rfl rfl rfl S (y_nilCheck rfl S rfl) fun a S => ?_
  refine gy rfl rfl rfl S (y_faddrb rfl Ffo105_0 S rfl) fun a S => ?_
  refine gy rfl rfl rfl S (y_load rfl Fsca66 S H rfl rfl) fun a S => ?_
  refine gy rfl rfl rfl S (y_move rfl S rfl) fun a S => ?_
  refine gy rfl rfl rfl S (y_iaddrn rfl Try.underlying66 Fsiz25 S H rfl rfl (by first | assumption | omega | (rw [seenB_len]; omega))) fun a S => ?_
  refine gy rfl rfl rfl S (y_loads _ rfl Fsca25 S H rfl (by first | assumption | omega | (rw [seenB_len]; omega)) rfl) fun a S => ?_
  refine gy rfl rfl rfl S (y_move rfl S rfl) fun a S => ?_
  refine gy rfl rfl rfl S (y_iaddrn rfl Try.underlying25 Fsiz3 S H rfl rfl (by first | assumption | omega | (rw [seenB_len]; omega))) fun a S => ?_
  refine gy rfl rfl rfl S (y_loads _ rfl Fsca3 S H rfl (by first | assumption | omega | (rw [seenB_len]; omega)) rfl) fun a S => ?_
  rw [hn] at S
  refine gy rfl rfl rfl S (y_assign rfl S rfl) fun a S => ?_
  refine gl_nil ?_
  refine n_then ?_
  refine g_seq ?_
  refine g_seq ?_
  refine g_region ?_
  refine gy rfl rfl rfl S (y_move rfl S rfl) fun a S => ?_
  refine gy rfl rfl rfl S (y_nilCheck rfl S rfl) fun a S => ?_
  refine gy rfl rfl rfl S (y_faddrb rfl Ffo105_3 S rfl) fun a S => ?_
  refine gy rfl rfl rfl S (y_load rfl Fsca53 S H rfl rfl) fun a S => ?_
  refine gy rfl rfl rfl S (y_move rfl S rfl) fun a S => ?_
  refine gy rfl rfl rfl S (y_iaddrn rfl Try.underlying53 Fsiz4 S H rfl rfl (by first | assumption | omega | (rw [seenB_len]; omega))) fun a S => ?_
  refine gy rfl rfl rfl S (y_loads _ rfl Fsca4 S H rfl (by first | assumption | omega | (rw [seenB_len]; omega)) rfl) fun a S => ?_
  refine gl_nil ?_
  refine n_then ?_
  refine c_if S rfl (fun h2 => ?_) (fun h2 => ?_)
  ·have h2p := h2; try simp only [DL] at h2p
   have hx : (n : Int) ∈ s.seen := by have := h2; rw [seenB_get] at this; simpa using this
   refine g_exit ?_
   refine x_then (x_eq ?_)
   refine n_then ?_
   refine g_region ?_
   refine gy rfl rfl rfl S (y_move rfl S rfl) fun a S => ?_
   refine gy rfl rfl rfl S (y_add rfl S rfl rfl (by omega)) fun a S => ?_
   refine gy rfl rfl rfl S (y_assign rfl S rfl) fun a S => ?_
   refine gl_nil ?_
   refine n_then ?_
   first
   | exact ⟨k + 1, S.nil.cons S 5 rfl, (S.nil.cons S 1 rfl).cons S 0 rfl, ⟨by omega, s, by rw [hau, hrd, augRow, if_pos hx], hwf, hfu, H⟩, by omega⟩
   | (have hbf : b = false := by simpa using @c3
      subst hbf
      exact ⟨k + 1, S.nil.cons S 5 rfl, (S.nil.cons S 1 rfl).cons S 0 rfl, ⟨by omega, s2, by rw [hau, hrd, augRow, if_neg hx, Int.toNat_natCast, if_neg hb, ho, hq], hout.wf, by omega, H⟩, by omega⟩)
  ·have h2p := h2; try simp only [DL] at h2p
   have hx : (n : Int) ∉ s.seen := by have := h2; rw [seenB_get] at this; simpa using this
   have hwf1 := hwf.see hnr hx
   have hon := hwf.own n
   have hnl : n < s.owner.length := by omega
   have hat := atI_eq hnl
   refine g_skip ?_
   refine n_then ?_
   refine g_seq ?_
   refine g_region ?_
   refine gy rfl rfl rfl S (y_move rfl S rfl) fun a S => ?_
   refine gy rfl rfl rfl S (y_nilCheck rfl S rfl) fun a S => ?_
   refine gy rfl rfl rfl S (y_faddrb rfl Ffo105_3 S rfl) fun a S => ?_
   refine gy rfl rfl rfl S (y_load rfl Fsca53 S H rfl rfl) fun a S => ?_
   refine gy rfl rfl rfl S (y_move rfl S rfl) fun a S => ?_
   refine gy rfl rfl rfl S (y_iaddrn rfl Try.underlying53 Fsiz4 S H rfl rfl (by first | assumption | omega | (rw [seenB_len]; omega))) fun a S => ?_
   refine wl_of (op_store1 _ (true) (wn rfl) rfl rfl S H rfl rfl rfl rfl Fsiz4 (by first | assumption | omega | (rw [seenB_len]; omega)) (by exact rfl) fun a w S H => ?_)
   refine gl_nil ?_
   refine n_then ?_
   refine g_seq ?_
   rw [seenB_set] at H
   have H : HSat M u0 (OSl 4 vs 1 encB (seenB r ((s.see n).seen)) :: OSl 3 vt 1 encI (s.owner) :: OSl 3 vp 1 encI (s.got) :: Cel bw 105 [ve, vt, vp, vs] :: Atom.ro (RowsA 3 1 encI ps) :: Atom.ro (OSl 25 ve 1 encRow ps) :: l) _ := H
   by_cases hb : atI s.owner n < 0
   ·skip
    refine g_region ?_
    refine gy rfl rfl rfl S (y_move rfl S rfl) fun a S => ?_
    refine gy rfl rfl rfl S (y_nilCheck rfl S rfl) fun a S => ?_
    refine gy rfl rfl rfl S (y_faddrb rfl Ffo105_1 S rfl) fun a S => ?_
    refine gy rfl rfl rfl S (y_load rfl Fsca25 S H rfl rfl) fun a S => ?_
    refine gy rfl rfl rfl S (y_move rfl S rfl) fun a S => ?_
    refine gy rfl rfl rfl S (y_iaddrn rfl Try.underlying25 Fsiz3 S H rfl rfl (by first | assumption | omega | (rw [seenB_len]; omega))) fun a S => ?_
    refine gy rfl rfl rfl S (y_loads _ rfl Fsca3 S H rfl (by first | assumption | omega | (rw [seenB_len]; omega)) rfl) fun a S => ?_
    refine gy rfl rfl rfl S (y_bin rfl S rfl rfl rfl) fun a S => ?_
    rw [← hat, decide_eq_true hb] at S
    refine gy rfl rfl rfl S (y_move rfl S rfl) fun a S => ?_
    refine' wl_or (B2 := false) 9 50 rfl S H rfl rfl rfl rfl rfl rfl rfl (fun _ S => (wn rfl)) (fun h3 kk => ?yh3) (fun a w S H => ?_)
    case yh3 => exact absurd h3 (by simp)
    refine gl_nil ?_
    refine n_then ?_
    refine c_if S rfl (fun h4 => ?_) (fun h4 => ?_)
    ·have h4p := h4; try simp only [DL] at h4p
     refine g_seq ?_
     refine g_region ?_
     refine gy rfl rfl rfl S (y_move rfl S rfl) fun a S => ?_
     refine gy rfl rfl rfl S (y_nilCheck rfl S rfl) fun a S => ?_
     refine gy rfl rfl rfl S (y_faddrb rfl Ffo105_1 S rfl) fun a S => ?_
     refine gy rfl rfl rfl S (y_load rfl Fsca25 S H rfl rfl) fun a S => ?_
     refine gy rfl rfl rfl S (y_move rfl S rfl) fun a S => ?_
     refine gy rfl rfl rfl S (y_move rfl S rfl) fun a S => ?_
     refine gy rfl rfl rfl S (y_iaddrn rfl Try.underlying25 Fsiz3 S H rfl rfl (by first | assumption | omega | (rw [seenB_len]; omega))) fun a S => ?_
     refine wl_of (op_store1 _ ((i : Int)) (wn rfl) rfl rfl S H rfl rfl rfl rfl Fsiz3 (by first | assumption | omega | (rw [seenB_len]; omega)) (by exact rfl) fun a w S H => ?_)
     refine gl_nil ?_
     refine n_then ?_
     refine g_seq ?_
     refine g_region ?_
     refine gy rfl rfl rfl S (y_move rfl S rfl) fun a S => ?_
     refine gy rfl rfl rfl S (y_nilCheck rfl S rfl) fun a S => ?_
     refine gy rfl rfl rfl S (y_faddrb rfl Ffo105_2 S rfl) fun a S => ?_
     refine gy rfl rfl rfl S (y_load rfl Fsca25 S H rfl rfl) fun a S => ?_
     refine gy rfl rfl rfl S (y_move rfl S rfl) fun a S => ?_
     refine gy rfl rfl rfl S (y_move rfl S rfl) fun a S => ?_
     refine gy rfl rfl rfl S (y_iaddrn rfl Try.underlying25 Fsiz3 S H rfl rfl (by first | assumption | omega | (rw [seenB_len]; omega))) fun a S => ?_
     refine wl_of (op_store1 _ ((n : Int)) (wn rfl) rfl rfl S H rfl rfl rfl rfl Fsiz3 (by first | assumption | omega | (rw [seenB_len]; omega)) (by exact rfl) fun a w S H => ?_)
     refine gl_nil ?_
     refine n_then ?_
     refine g_seq ?_
     refine g_region ?_
     refine gy rfl rfl rfl S (y_assign rfl S rfl) fun a S => ?_
     refine gl_nil ?_
     refine n_then ?_
     refine g_ret ?_
     refine r_block (r_then (r_then (r_block (r_then (ret1 rfl S rfl ?_)))))
     first
     | (have e : aug (gr ps) (f + 1) i s0 = (true, (s.see n).pair n i) := by rw [aug_succ ps f i s0 hi0, hau, hrd, augRow, if_neg hx, Int.toNat_natCast, if_pos hb]
        rw [e]; exact ⟨rfl, H⟩)
     | (have hbt : b = true := by simpa using h4
        subst hbt
        have e : aug (gr ps) (f + 1) i s0 = (true, s2.pair n i) := by rw [aug_succ ps f i s0 hi0, hau, hrd, augRow, if_neg hx, Int.toNat_natCast, if_neg hb, ho, hq]
        rw [e]; exact ⟨rfl, H⟩)
    ·have h4p := h4; try simp only [DL] at h4p
     all_goals (
       exact absurd h4 (by simp))
   ·obtain ⟨o, ho⟩ : ∃ o : Nat, atI s.owner n = o := ⟨(atI s.owner n).toNat, by omega⟩
    refine g_region ?_
    refine gy rfl rfl rfl S (y_move rfl S rfl) fun a S => ?_
    refine gy rfl rfl rfl S (y_nilCheck rfl S rfl) fun a S => ?_
    refine gy rfl rfl rfl S (y_faddrb rfl Ffo105_1 S rfl) fun a S => ?_
    refine gy rfl rfl rfl S (y_load rfl Fsca25 S H rfl rfl) fun a S => ?_
    refine gy rfl rfl rfl S (y_move rfl S rfl) fun a S => ?_
    refine gy rfl rfl rfl S (y_iaddrn rfl Try.underlying25 Fsiz3 S H rfl rfl (by first | assumption | omega | (rw [seenB_len]; omega))) fun a S => ?_
    refine gy rfl rfl rfl S (y_loads _ rfl Fsca3 S H rfl (by first | assumption | omega | (rw [seenB_len]; omega)) rfl) fun a S => ?_
    refine gy rfl rfl rfl S (y_bin rfl S rfl rfl rfl) fun a S => ?_
    rw [← hat, decide_eq_false hb] at S
    refine gy rfl rfl rfl S (y_move rfl S rfl) fun a S => ?_
    refine gz 50 rfl S rfl rfl rfl rfl rfl rfl (y_move rfl S rfl) fun a S => ?_
    refine gz 50 rfl S rfl rfl rfl rfl rfl rfl (y_move rfl S rfl) fun a S => ?_
    refine gz 50 rfl S rfl rfl rfl rfl rfl rfl (y_nilCheck rfl S rfl) fun a S => ?_
    refine gz 50 rfl S rfl rfl rfl rfl rfl rfl (y_faddrb rfl Ffo105_1 S rfl) fun a S => ?_
    refine gz 50 rfl S rfl rfl rfl rfl rfl rfl (y_load rfl Fsca25 S H rfl rfl) fun a S => ?_
    refine gz 50 rfl S rfl rfl rfl rfl rfl rfl (y_move rfl S rfl) fun a S => ?_
    refine gz 50 rfl S rfl rfl rfl rfl rfl rfl (y_iaddrn rfl Try.underlying25 Fsiz3 S H rfl rfl (by first | assumption | omega | (rw [seenB_len]; omega))) fun a S => ?_
    refine gz 50 rfl S rfl rfl rfl rfl rfl rfl (y_loads _ rfl Fsca3 S H rfl (by first | assumption | omega | (rw [seenB_len]; omega)) rfl) fun a S => ?_
    rw [← hat, ho] at S
    refine wl_of (op_call (wg' 50 rfl rfl S rfl rfl rfl) rfl rfl S (co_func rfl Try.call53 S rfl) (ih o (s.see n) _ (by omega) hwf1 (by simp [AS.see]; omega) H) fun v w hc a S => ?_)
    obtain ⟨rfl, H⟩ := hc
    have hout := aug_out hvg f o (s.see n) (by omega) hwf1
    obtain ⟨b, s2, hq⟩ : ∃ b s2, aug (gr ps) f o (s.see n) = (b, s2) := ⟨_, _, rfl⟩
    rw [hq] at S H hout
    dsimp only at S H hout
    have hlo2 := hout.wf.lo
    have hlg2 := hout.wf.lg
    have hln2 := hout.len
    simp only [AS.see, List.length_cons] at hln2
    refine gy rfl rfl rfl S (y_or' rfl rfl S rfl rfl) fun a S => ?_
    refine gl_nil ?_
    refine n_then ?_
    refine c_if S rfl (fun h6 => ?_) (fun h6 => ?_)
    ·have h6p := h6; try simp only [DL] at h6p
     refine g_seq ?_
     refine g_region ?_
     refine gy rfl rfl rfl S (y_move rfl S rfl) fun a S => ?_
     refine gy rfl rfl rfl S (y_nilCheck rfl S rfl) fun a S => ?_
     refine gy rfl rfl rfl S (y_faddrb rfl Ffo105_1 S rfl) fun a S => ?_
     refine gy rfl rfl rfl S (y_load rfl Fsca25 S H rfl rfl) fun a S => ?_
     refine gy rfl rfl rfl S (y_move rfl S rfl) fun a S => ?_
     refine gy rfl rfl rfl S (y_move rfl S rfl) fun a S => ?_
     refine gy rfl rfl rfl S (y_iaddrn rfl Try.underlying25 Fsiz3 S H rfl rfl (by first | assumption | omega | (rw [seenB_len]; omega))) fun a S => ?_
     refine wl_of (op_store1 _ ((i : Int)) (wn rfl) rfl rfl S H rfl rfl rfl rfl Fsiz3 (by first | assumption | omega | (rw [seenB_len]; omega)) (by exact rfl) fun a w S H => ?_)
     refine gl_nil ?_
     refine n_then ?_
     refine g_seq ?_
     refine g_region ?_
     refine gy rfl rfl rfl S (y_move rfl S rfl) fun a S => ?_
     refine gy rfl rfl rfl S (y_nilCheck rfl S rfl) fun a S => ?_
     refine gy rfl rfl rfl S (y_faddrb rfl Ffo105_2 S rfl) fun a S => ?_
     refine gy rfl rfl rfl S (y_load rfl Fsca25 S H rfl rfl) fun a S => ?_
     refine gy rfl rfl rfl S (y_move rfl S rfl) fun a S => ?_
     refine gy rfl rfl rfl S (y_move rfl S rfl) fun a S => ?_
     refine gy rfl rfl rfl S (y_iaddrn rfl Try.underlying25 Fsiz3 S H rfl rfl (by first | assumption | omega | (rw [seenB_len]; omega))) fun a S => ?_
     refine wl_of (op_store1 _ ((n : Int)) (wn rfl) rfl rfl S H rfl rfl rfl rfl Fsiz3 (by first | assumption | omega | (rw [seenB_len]; omega)) (by exact rfl) fun a w S H => ?_)
     refine gl_nil ?_
     refine n_then ?_
     refine g_seq ?_
     refine g_region ?_
     refine gy rfl rfl rfl S (y_assign rfl S rfl) fun a S => ?_
     refine gl_nil ?_
     refine n_then ?_
     refine g_ret ?_
     refine r_block (r_then (r_then (r_block (r_then (ret1 rfl S rfl ?_)))))
     first
     | (have e : aug (gr ps) (f + 1) i s0 = (true, (s.see n).pair n i) := by rw [aug_succ ps f i s0 hi0, hau, hrd, augRow, if_neg hx, Int.toNat_natCast, if_pos hb]
        rw [e]; exact ⟨rfl, H⟩)
     | (have hbt : b = true := by simpa using h6
        subst hbt
        have e : aug (gr ps) (f + 1) i s0 = (true, s2.pair n i) := by rw [aug_succ ps f i s0 hi0, hau, hrd, augRow, if_neg hx, Int.toNat_natCast, if_neg hb, ho, hq]
        rw [e]; exact ⟨rfl, H⟩)
    ·have h6p := h6; try simp only [DL] at h6p
     refine g_skip ?_
     refine n_block ?_
     refine n_then ?_
     refine g_region ?_
     refine gy rfl rfl rfl S (y_move rfl S rfl) fun a S => ?_
     refine gy rfl rfl rfl S (y_add rfl S rfl rfl (by omega)) fun a S => ?_
     refine gy rfl rfl rfl S (y_assign rfl S rfl) fun a S => ?_
     refine gl_nil ?_
     refine n_then ?_
     first
     | exact ⟨k + 1, S.nil.cons S 5 rfl, (S.nil.cons S 1 rfl).cons S 0 rfl, ⟨by omega, s, by rw [hau, hrd, augRow, if_pos hx], hwf, hfu, H⟩, by omega⟩
     | (have hbf : b = false := by simpa using h6
        subst hbf
        exact ⟨k + 1, S.nil.cons S 5 rfl, (S.nil.cons S 1 rfl).cons S 0 rfl, ⟨by omega, s2, by rw [hau, hrd, augRow, if_neg hx, Int.toNat_natCast, if_neg hb, ho, hq], hout.wf, by omega, H⟩, by omega⟩)
 ·have h1p := h1; try simp only [DL] at h1p
  refine g_exit ?_
  refine x_then (x_then (x_eq ?_))
  refine n_then ?_
  have S := S.nil
  refine g_seq ?_
  refine g_region ?_
  refine gy rfl rfl rfl S (y_assign rfl S rfl) fun a S => ?_
  refine gl_nil ?_
  refine n_then ?_
  refine g_ret ?_
  refine ret1 rfl S rfl ?_
  have e : aug (gr ps) (f + 1) i s0 = (false, s) := by rw [aug_succ ps f i s0 hi0, hau, List.drop_of_length_le (by omega)]; rfl
  rw [e]; exact ⟨rfl, H⟩

theorem rlook_spec (r : Nat) (vs vt vp ve : Value) (ps : List (Value × List Int)) (bw : Nat) (hvg : validG (gr ps) r = true) : ∀ f, RLookSpec f r vs vt vp ve ps bw
  | 0 => fun i s0 w0 hi hwf hf h => by have := hwf.few; omega
  | f + 1 => fun i s0 w0 hi hwf hf h => rlook_step f r vs vt vp ve ps bw hvg (rlook_spec r vs vt vp ve ps bw hvg f) i s0 w0 hi hwf hf h


end Go.Proofs.Ytenaoaegichecaa
