/- The walks. No condition. -/
import Derived.Test.YtenaoaegichecaaChecked
import Derived.Test.YtenaoaegichecaaGwBits
import Derived.Test.YtenaoaegichecaaFacts
import Derived.Test.YtenaoaegichecaaPlain
import Derived.Test.YtenaoaegichecaaPlainY
import Derived.Test.YtenaoaegichecaaW17
import Derived.Test.YtenaoaegichecaaM4
namespace Go.Proofs.Ytenaoaegichecaa
open Go Go.Gw
set_option linter.unusedVariables false
set_option linter.unusedSimpArgs false
set_option maxHeartbeats 4000000 in
/-- foyer/foyerlaw41.RebuildMatching -/
theorem law5 (v1 v2 : Value) (old next : List Pl) (v3 : Value) (ts : List Ow) (w0 : World) (hv1 : IsSl w0 v1 9 Pl.enc old) (hv2 : IsSl w0 v2 9 Pl.enc next) (hv3 : IsSl w0 v3 11 Ow.enc ts) (hok : ∀ o ∈ ts, o.ok) :
    Ret Try.prog 10 #[v1, v2, v3] w0 (fun v w => v = .bool true ∧ Ext w0 w) := by
 refine ret_of_wp (nt := 89) Try.func10 rfl rfl rfl (fl := [(0, v1), (1, v2), (2, v3)]) rfl (fun a S => ?_)
 have H := HSat.start w0
 have H := H.ro0 (Sl v1 9 Pl.enc old) rfl (hv1)
 have H := H.ro0 (Sl v2 9 Pl.enc next) rfl (hv2)
 have H := H.ro0 (Sl v3 11 Ow.enc ts) rfl (hv3)
 have hl1 := hv1.len
 have hl2 := hv2.len
 have hl3 := hv3.len
 refine g_seq ?_
 refine g_region ?_
 refine gy rfl rfl rfl S (y_assign rfl S rfl) fun a S => ?_
 refine gl_nil ?_
 refine n_then ?_
 refine g_seq ?_
 refine g_region ?_
 refine wl_of (op_call (wn rfl) rfl rfl S (co_func rfl Try.call11 S rfl) (head_spec _) fun v w hc a S => ?_)
 obtain ⟨rfl, he⟩ := hc
 have H := H.ext he
 refine gy rfl rfl rfl S (y_assign rfl S rfl) fun a S => ?_
 refine gl_nil ?_
 refine n_then ?_
 refine g_seq ?_
 refine g_seq ?_
 refine g_region ?_
 refine gy rfl rfl rfl S (y_move rfl S rfl) fun a S => ?_
 refine gy rfl rfl rfl S (y_move rfl S rfl) fun a S => ?_
 refine gy rfl rfl rfl S (y_move rfl S rfl) fun a S => ?_
 refine wl_of (op_call (wn rfl) rfl rfl S (co_func rfl Try.call12 S rfl) (few_spec v1 v2 old next v3 ts 20 _ (H.sl v1) (H.sl v2) (H.sl v3)) fun v w hc a S => ?_)
 obtain ⟨rfl, he⟩ := hc
 have H := H.ext he
 refine gy rfl rfl rfl S (y_not rfl S rfl) fun a S => ?_
 refine gl_nil ?_
 refine n_then ?_
 have S := (((((S.nil.cons S 2 rfl).cons S 1 rfl).cons S 0 rfl).cons S 6 rfl).cons S 7 rfl).cons S 23 rfl
 refine c_if S rfl (fun h1 => ?_) (fun h1 => ?_)
 ·have h1p := h1; try simp only [DL] at h1p
  refine g_seq ?_
  refine g_region ?_
  refine gy rfl rfl rfl S (y_move rfl S rfl) fun a S => ?_
  refine gy rfl rfl rfl S (y_assign rfl S rfl) fun a S => ?_
  refine gl_nil ?_
  refine n_then ?_
  refine g_ret ?_
  refine r_then (ret1 rfl S rfl ?_)
  exact ⟨rfl, H.toExt⟩
 ·have h1p := h1; try simp only [DL] at h1p
  have hfw : old.length ≤ 20 ∧ next.length ≤ 20 ∧ ts.length ≤ 20 := by have := h1p; omega
  refine g_skip ?_
  refine n_then ?_
  refine g_seq ?_
  refine g_region ?_
  refine gy rfl rfl rfl S (y_move rfl S rfl) fun a S => ?_
  refine gy rfl rfl rfl S (y_move rfl S rfl) fun a S => ?_
  refine gy rfl rfl rfl S (y_move rfl S rfl) fun a S => ?_
  refine wl_of (op_call (wn rfl) rfl rfl S (co_func rfl Try.call14 S rfl) (plan_any v1 v2 old next v3 ts _ (H.sl v1) (H.sl v2) (H.sl v3) hok (by omega)) fun v w hc a S => ?_)
  obtain ⟨mvA, vlA, vrA, msA, rfl, hmA, H1⟩ := hc
  have H := H.call4 H1 rfl rfl rfl rfl
  have hclA := clP_len old next ts (by omega)
  have hcrA := crP_len old next ts (by omega)
  refine gy rfl rfl rfl S (y_move rfl S rfl) fun a S => ?_
  refine gy rfl rfl rfl S (y_extract rfl S rfl rfl) fun a S => ?_
  refine gy rfl rfl rfl S (y_extract rfl S rfl rfl) fun a S => ?_
  refine wl_of (op_alloc (wn rfl) rfl rfl rfl S H Fzer29 fun b8 a w S H => ?_)
  refine wl_of (op_storea (wn rfl) rfl rfl S H rfl rfl (by simp only [List.all_cons, List.all_nil, H.sl1 mvA, H.sl1 vlA, H.sl1 vrA, Bool.true_and]) Fsiz29 rfl (cs' := [_, _, _]) rfl fun a w S H => ?_)
  refine gy rfl rfl rfl S (y_assign rfl S rfl) fun a S => ?_
  refine gl_nil ?_
  refine n_then ?_
  have S := ((((((S.nil.cons S 2 rfl).cons S 1 rfl).cons S 0 rfl).cons S 6 rfl).cons S 7 rfl).cons S 8 rfl).cons S 9 rfl
  refine g_seq ?_
  refine g_seq ?_
  refine g_region ?_
  refine gy rfl rfl rfl S (y_move rfl S rfl) fun a S => ?_
  refine gy rfl rfl rfl S (y_bin rfl S rfl rfl rfl) fun a S => ?_
  refine gl_nil ?_
  refine n_then ?_
  refine c_if S rfl (fun h2 => ?_) (fun h2 => ?_)
  ·have h2p := h2; try simp only [DL] at h2p
   refine g_seq ?_
   refine g_region ?_
   refine gy rfl rfl rfl S (y_move rfl S rfl) fun a S => ?_
   refine gy rfl rfl rfl S (y_assign rfl S rfl) fun a S => ?_
   refine gl_nil ?_
   refine n_then ?_
   have S := (((((S.nil.cons S 2 rfl).cons S 1 rfl).cons S 0 rfl).cons S 7 rfl).cons S 8 rfl).cons S 6 rfl
   refine g_ret ?_
   refine r_then (ret1 rfl S rfl ?_)
   exact ⟨rfl, H.toExt⟩
  ·have h2p := h2; try simp only [DL] at h2p
   have herr : errP old next ts = 0 := by have := h2p; simpa using this
   have hM := planM herr hmA
   have hlen := hM.len
   have hmle := moved_len ts
   refine g_skip ?_
   refine n_then ?_
   refine g_seq ?_
   refine g_region ?_
   refine gy rfl rfl rfl S (y_move rfl S rfl) fun a S => ?_
   refine wl_of (op_call (wn rfl) rfl rfl S (co_func rfl Try.call20 S rfl) (moved_spec v3 ts _ (H.sl v3) hok (by omega)) fun u36 w hc a S => ?_)
   have H1 := hc
   have H := H.call1 H1 rfl
   refine gy rfl rfl rfl S (y_assign rfl S rfl) fun a S => ?_
   refine gl_nil ?_
   refine n_then ?_
   have S := (((((S.nil.cons S 1 rfl).cons S 0 rfl).cons S 6 rfl).cons S 7 rfl).cons S 8 rfl).cons S 10 rfl
   refine g_seq ?_
   refine g_region ?_
   refine gy rfl rfl rfl S (y_assign rfl S rfl) fun a S => ?_
   refine gl_nil ?_
   refine n_then ?_
   refine g_seq ?_
   refine g_seq ?_
   refine g_region ?_
   refine gy rfl rfl rfl S (y_assign rfl S rfl) fun a S => ?_
   refine gl_nil ?_
   refine n_then ?_
   refine g_block ?_
   have H := H.nilO 56 9 Pl.enc
   have SU := (((((S.nil.cons S 1 rfl).cons S 0 rfl).cons S 6 rfl).cons S 7 rfl).cons S 8 rfl).cons S 10 rfl
   refine loopW (X := Nat × Value) SU (fun x => [(11, x.2), (12, .int .i64 (x.1 : Int))]) (fun x w => x.1 ≤ (movedL ts).length ∧ HSat No w0 [OSl 56 x.2 9 Pl.enc (oldL old ((movedL ts).take x.1)), OSl 47 u36 11 Ow.enc (movedL ts), Cel b8 29 [mvA, vlA, vrA], OSl 50 mvA 3 Mv.enc msA, Sl v3 11 Ow.enc ts, Sl v2 9 Pl.enc next, Sl v1 9 Pl.enc old] w) (fun x => (movedL ts).length - x.1) (0, .slice none 0 0) ((S.nil.cons S 12 rfl).cons S 11 rfl) (⟨by simp, H.take [OSl 56 (.slice none 0 0) 9 Pl.enc ([]), OSl 47 u36 11 Ow.enc (movedL ts), Cel b8 29 [mvA, vlA, vrA], OSl 50 mvA 3 Mv.enc msA, Sl v3 11 Ow.enc ts, Sl v2 9 Pl.enc next, Sl v1 9 Pl.enc old]⟩) (fun x a w S hW => ?_)
   simp only [List.cons_append, List.nil_append] at S
   clear H
   obtain ⟨k, vo⟩ := x
   obtain ⟨hk, H⟩ := hW
   dsimp only at S H hk
   refine g_seq ?_
   refine g_seq ?_
   refine g_region ?_
   refine gy rfl rfl rfl S (y_move rfl S rfl) fun a S => ?_
   refine gy rfl rfl rfl S (y_move rfl S rfl) fun a S => ?_
   refine gy rfl rfl rfl S (y_lens rfl Try.underlying23 S H rfl) fun a S => ?_
   refine gy rfl rfl rfl S (y_bin rfl S rfl rfl rfl) fun a S => ?_
   refine gl_nil ?_
   refine n_then ?_
   refine c_if S rfl (fun h3 => ?_) (fun h3 => ?_)
   ·have h3p := h3; try simp only [DL] at h3p
    have hkt : k < (movedL ts).length := by omega
    obtain ⟨x, hx⟩ : ∃ x : Nat, (movedL ts)[k].place = x := ⟨(movedL ts)[k].place.toNat, by have := hM.place hkt; omega⟩
    have hxn : x < old.length := by have := hM.place hkt; omega
    have hos := old_step hkt hx hxn
    refine g_skip ?_
    refine n_then ?_
    refine g_seq ?_
    refine g_block ?_
    refine g_region ?_
    refine gy rfl rfl rfl S (y_move rfl S rfl) fun a S => ?_
    refine gy rfl rfl rfl S (y_move rfl S rfl) fun a S => ?_
    refine gy rfl rfl rfl S (y_move rfl S rfl) fun a S => ?_
    refine gy rfl rfl rfl S (y_move rfl S rfl) fun a S => ?_
    refine gy rfl rfl rfl S (y_iaddrn rfl Try.underlying23 Fsiz47 S H rfl rfl (by first | assumption | omega | (simp only [List.length_append, List.length_take, List.length_drop, List.length_replicate, List.length_set, List.length_map, List.length_cons, List.length_nil]; omega))) fun a S => ?_
    refine gy rfl rfl rfl S (y_faddr rfl Ffo47_0 S rfl) fun a S => ?_
    refine gy rfl rfl rfl S (y_faddr rfl Ffo41_2 S rfl) fun a S => ?_
    refine gy rfl rfl rfl S (y_loadsff _ rfl Fsca3 S H rfl (by first | assumption | omega | (simp only [List.length_append, List.length_take, List.length_drop, List.length_replicate, List.length_set, List.length_map, List.length_cons, List.length_nil]; omega)) rfl) fun a S => ?_
    rw [hx] at S
    refine gy rfl rfl rfl S (y_iaddrn rfl Try.underlying22 Fsiz56 S H rfl rfl (by first | assumption | omega | (simp only [List.length_append, List.length_take, List.length_drop, List.length_replicate, List.length_set, List.length_map, List.length_cons, List.length_nil]; omega))) fun a S => ?_
    refine gy rfl rfl rfl S (y_loadsa _ rfl S H rfl (by exact Fagg56) (by first | assumption | omega | (simp only [List.length_append, List.length_take, List.length_drop, List.length_replicate, List.length_set, List.length_map, List.length_cons, List.length_nil]; omega))) fun a S => ?_
    refine wl_of (op_buildSlice (wn rfl) rfl rfl rfl Try.underlying22 Finf56 S H (idx := [0]) rfl rfl rfl (z := [.int .i64 0, .int .i64 0, .int .i64 0, .int .i64 0, .int .i64 0, .int .i64 0, .int .i64 0, .int .i64 0, .int .i64 0]) (by kernel_rfl) (cs := [.int .i64 old[x].kind, .int .i64 old[x].level, .int .i64 old[x].block, .int .i64 old[x].row, .int .i64 old[x].seat, .int .i64 old[x].x, .int .i64 old[x].y, .int .i64 old[x].view, .int .i64 old[x].with_]) (by kernel_rfl) fun b53 a w S H => ?_)
    refine wl_of (op_append ([old[x]]) (wn rfl) rfl rfl rfl Try.underlying22 Finf56 rfl rfl S H rfl rfl rfl rfl (by simp) (by simp [Pl.enc]) (by simp [Pl.enc, Value.oneCell']) (by simp only [List.length_cons, List.length_nil, old_len, List.length_take]; omega) (by simp only [List.length_cons, List.length_nil, old_len, List.length_take]; omega) fun u54 a w hn54 S H => ?_)
    refine gy rfl rfl rfl S (y_assign rfl S rfl) fun a S => ?_
    refine gl_nil ?_
    refine n_block ?_
    refine n_then ?_
    refine g_region ?_
    refine gy rfl rfl rfl S (y_move rfl S rfl) fun a S => ?_
    refine gy rfl rfl rfl S (y_add rfl S rfl rfl (by omega)) fun a S => ?_
    refine gy rfl rfl rfl S (y_assign rfl S rfl) fun a S => ?_
    refine gl_nil ?_
    refine n_then ?_
    exact ⟨(k + 1, u54), (S.nil.cons S 12 rfl).cons S 11 rfl, (((((S.nil.cons S 1 rfl).cons S 0 rfl).cons S 6 rfl).cons S 7 rfl).cons S 8 rfl).cons S 10 rfl, ⟨by dsimp only; omega, by dsimp only; rw [hos]; exact H.take [OSl 56 u54 9 Pl.enc (oldL old ((movedL ts).take k) ++ [old[x]]), OSl 47 u36 11 Ow.enc (movedL ts), Cel b8 29 [mvA, vlA, vrA], OSl 50 mvA 3 Mv.enc msA, Sl v3 11 Ow.enc ts, Sl v2 9 Pl.enc next, Sl v1 9 Pl.enc old]⟩, by dsimp only; omega⟩
   ·have h3p := h3; try simp only [DL] at h3p
    obtain rfl : k = (movedL ts).length := by omega
    rw [List.take_length] at H
    refine g_exit ?_
    refine x_then (x_then (x_eq ?_))
    refine n_then ?_
    have S := ((((S.nil.cons S 1 rfl).cons S 6 rfl).cons S 7 rfl).cons S 8 rfl).cons S 11 rfl
    refine g_seq ?_
    refine g_region ?_
    refine gy rfl rfl rfl S (y_move rfl S rfl) fun a S => ?_
    refine gy rfl rfl rfl S (y_move rfl S rfl) fun a S => ?_
    refine wl_of (op_call (wn rfl) rfl rfl S (co_func rfl Try.call27 S rfl) (edges_spec vo v2 (oldL old (movedL ts)) next _ (H.sl vo) (H.sl v2) (by rw [old_len]; omega) (by omega)) fun u58 w hc a S => ?_)
    obtain ⟨ps, hps, H1⟩ := hc
    have H := H.call2 H1 rfl rfl
    have hgr : gr ps = edgesL (oldL old (movedL ts)) next := hps
    have hvg : validG (gr ps) next.length = true := by rw [hgr]; exact edges_valid hM.small (planP hM.err).n2
    refine gy rfl rfl rfl S (y_move rfl S rfl) fun a S => ?_
    refine gy rfl rfl rfl S (y_lens rfl Try.underlying22 S H rfl) fun a S => ?_
    refine wl_of (op_call (wn rfl) rfl rfl S (co_func rfl Try.call26 S rfl) (match_ok u58 ps next.length _ (H.sl u58) (H.rws 3 ps) hvg) fun v w hc a S => ?_)
    obtain ⟨vgM, vlM, vrM, rfl, H1⟩ := hc
    have H := H.call3 H1 rfl rfl rfl
    have hgl : (gotL (gr ps) (next.length : Int)).length ≤ 20 := by have e := (match_isM hvg).len; exact e ▸ (show (gr ps).length ≤ 20 by rw [hgr, edges_len, old_len]; omega)
    have hgn : (gotL (gr ps) (next.length : Int)).length ≤ 9223372036854775807 := by omega
    refine gy rfl rfl rfl S (y_move rfl S rfl) fun a S => ?_
    refine gy rfl rfl rfl S (y_extract rfl S rfl rfl) fun a S => ?_
    refine gy rfl rfl rfl S (y_extract rfl S rfl rfl) fun a S => ?_
    refine gy rfl rfl rfl S (y_extract rfl S rfl rfl) fun a S => ?_
    refine wl_of (op_alloc (wn rfl) rfl rfl rfl S H Fzer27 fun b14 a w S H => ?_)
    refine gy rfl rfl rfl S (y_assign rfl S rfl) fun a S => ?_
    refine wl_of (op_storea (wn rfl) rfl rfl S H rfl rfl (by rw [List.all_cons, List.all_cons, H.sl1 vlM, H.sl1 vrM]; rfl) Fsiz27 rfl (cs' := [_, _]) rfl fun a w S H => ?_)
    refine gy rfl rfl rfl S (y_assign rfl S rfl) fun a S => ?_
    refine gl_nil ?_
    refine n_then ?_
    have S := ((((S.nil.cons S 6 rfl).cons S 7 rfl).cons S 8 rfl).cons S 13 rfl).cons S 15 rfl
    refine g_seq ?_
    refine g_region ?_
    refine gy rfl rfl rfl S (y_assign rfl S rfl) fun a S => ?_
    refine gl_nil ?_
    refine n_then ?_
    refine g_seq ?_
    refine g_seq ?_
    refine g_region ?_
    refine gy rfl rfl rfl S (y_assign rfl S rfl) fun a S => ?_
    refine gl_nil ?_
    refine n_then ?_
    refine g_block ?_
    have SU := ((((S.nil.cons S 6 rfl).cons S 7 rfl).cons S 8 rfl).cons S 13 rfl).cons S 15 rfl
    refine loop_k (X := Nat) SU (fun k => [(16, .int .i64 (cntG (gotL (gr ps) (next.length : Int)) k : Int)), (17, .int .i64 (k : Int))]) (fun k => k ≤ (gotL (gr ps) (next.length : Int)).length) (fun k => (gotL (gr ps) (next.length : Int)).length - k) 0 ((S.nil.cons S 17 rfl).cons S 16 rfl) H (by omega) (fun k a w S H hi => ?_)
    simp only [List.cons_append, List.nil_append] at S hi
    refine g_seq ?_
    refine g_seq ?_
    refine g_region ?_
    refine gy rfl rfl rfl S (y_move rfl S rfl) fun a S => ?_
    refine gy rfl rfl rfl S (y_move rfl S rfl) fun a S => ?_
    refine gy rfl rfl rfl S (y_lens rfl Try.underlying25 S H rfl) fun a S => ?_
    refine gy rfl rfl rfl S (y_bin rfl S rfl rfl rfl) fun a S => ?_
    refine gl_nil ?_
    refine n_then ?_
    refine c_if S rfl (fun h4 => ?_) (fun h4 => ?_)
    ·have h4p := h4; try simp only [DL] at h4p
     have hkl : k < (gotL (gr ps) (next.length : Int)).length := by omega
     have hcl := cntG_le (gotL (gr ps) (next.length : Int)) k
     refine g_skip ?_
     refine n_then ?_
     refine g_seq ?_
     refine g_block ?_
     refine g_seq ?_
     refine g_region ?_
     refine gy rfl rfl rfl S (y_move rfl S rfl) fun a S => ?_
     refine gy rfl rfl rfl S (y_move rfl S rfl) fun a S => ?_
     refine gy rfl rfl rfl S (y_iaddrn rfl Try.underlying25 Fsiz3 S H rfl rfl (by first | assumption | omega | (simp only [List.length_append, List.length_take, List.length_drop, List.length_replicate, List.length_set, List.length_map, List.length_cons, List.length_nil]; omega))) fun a S => ?_
     refine gy rfl rfl rfl S (y_loads _ rfl Fsca3 S H rfl (by first | assumption | omega | (simp only [List.length_append, List.length_take, List.length_drop, List.length_replicate, List.length_set, List.length_map, List.length_cons, List.length_nil]; omega)) rfl) fun a S => ?_
     refine gy rfl rfl rfl S (y_bin rfl S rfl rfl rfl) fun a S => ?_
     refine gl_nil ?_
     refine n_then ?_
     refine c_if S rfl (fun h5 => ?_) (fun h5 => ?_)
     ·have h5p := h5; try simp only [DL] at h5p
      have hcs : cntG (gotL (gr ps) (next.length : Int)) (k + 1) = cntG (gotL (gr ps) (next.length : Int)) k + 1 := by rw [cntG, if_pos (by rw [atI_eq hkl]; have := h5p; omega)]
      refine g_region ?_
      refine gy rfl rfl rfl S (y_move rfl S rfl) fun a S => ?_
      refine gy rfl rfl rfl S (y_add rfl S rfl rfl (by omega)) fun a S => ?_
      refine gy rfl rfl rfl S (y_assign rfl S rfl) fun a S => ?_
      refine gl_nil ?_
      refine n_block ?_
      refine n_then ?_
      refine g_region ?_
      refine gy rfl rfl rfl S (y_move rfl S rfl) fun a S => ?_
      refine gy rfl rfl rfl S (y_add rfl S rfl rfl (by omega)) fun a S => ?_
      refine gy rfl rfl rfl S (y_assign rfl S rfl) fun a S => ?_
      refine gl_nil ?_
      refine n_then ?_
      exact ⟨k + 1, (S.nil.cons S 17 rfl).cons S 16 (by rw [hcs]; rfl), ((((S.nil.cons S 6 rfl).cons S 7 rfl).cons S 8 rfl).cons S 13 rfl).cons S 15 rfl, H, by omega, by omega⟩
     ·have h5p := h5; try simp only [DL] at h5p
      have hcs : cntG (gotL (gr ps) (next.length : Int)) (k + 1) = cntG (gotL (gr ps) (next.length : Int)) k := by rw [cntG, if_neg (by rw [atI_eq hkl]; have := h5p; omega)]
      refine g_skip ?_
      refine n_block ?_
      refine n_then ?_
      refine g_region ?_
      refine gy rfl rfl rfl S (y_move rfl S rfl) fun a S => ?_
      refine gy rfl rfl rfl S (y_add rfl S rfl rfl (by omega)) fun a S => ?_
      refine gy rfl rfl rfl S (y_assign rfl S rfl) fun a S => ?_
      refine gl_nil ?_
      refine n_then ?_
      exact ⟨k + 1, (S.nil.cons S 17 rfl).cons S 16 (by rw [hcs]; rfl), ((((S.nil.cons S 6 rfl).cons S 7 rfl).cons S 8 rfl).cons S 13 rfl).cons S 15 rfl, H, by omega, by omega⟩
    ·have h4p := h4; try simp only [DL] at h4p
     obtain rfl : k = (gotL (gr ps) (next.length : Int)).length := by omega
     refine g_exit ?_
     refine x_then (x_then (x_eq ?_))
     refine n_then ?_
     have S := ((((S.nil.cons S 6 rfl).cons S 7 rfl).cons S 8 rfl).cons S 15 rfl).cons S 16 rfl
     refine g_seq ?_
     refine g_region ?_
     refine gy rfl rfl rfl S (y_move rfl S rfl) fun a S => ?_
     refine gy rfl rfl rfl S (y_move rfl S rfl) fun a S => ?_
     refine' wl_and 2 79 rfl S H rfl rfl rfl rfl rfl rfl rfl (fun _ S => (wn rfl)) (fun h6 kk => ?yh6) (fun a w S H => ?_)
     case yh6 =>
      have h6p := h6; try simp only [DL] at h6p
      refine gz 79 h6 S rfl rfl rfl rfl rfl rfl (y_move rfl S rfl) fun a S => ?_
      refine gz 79 h6 S rfl rfl rfl rfl rfl rfl (y_bin rfl S rfl rfl rfl) fun a S => ?_
      refine gy rfl rfl rfl S (y_and' rfl h6 S rfl rfl) fun a S => ?_
      exact kk _ _ (S.join 3 82 rfl rfl) H
     refine gy rfl rfl rfl S (y_move rfl S rfl) fun a S => ?_
     refine' wl_and 4 83 rfl S H rfl rfl rfl rfl rfl rfl rfl (fun _ S => (wn rfl)) (fun h7 kk => ?yh7) (fun a w S H => ?_)
     case yh7 =>
      have h7p := h7; try simp only [DL] at h7p
      refine gz 83 h7 S rfl rfl rfl rfl rfl rfl (y_move rfl S rfl) fun a S => ?_
      refine gz 83 h7 S rfl rfl rfl rfl rfl rfl (y_load0 rfl S H rfl (by exact Fagg29)) fun a S => ?_
      refine wl_of (op_call (wg' 83 rfl rfl S rfl h7 rfl) rfl rfl S (co_func rfl Try.call22 S rfl) (placed_spec mvA vlA vrA msA _ (H.sl mvA)) fun v w hc a S => ?_)
      obtain ⟨rfl, he⟩ := hc
      have H := H.ext he
      refine gz 83 h7 S rfl rfl rfl rfl rfl rfl (y_bin rfl S rfl rfl rfl) fun a S => ?_
      refine gy rfl rfl rfl S (y_and' rfl h7 S rfl rfl) fun a S => ?_
      exact kk _ _ (S.join 5 88 rfl rfl) H
     refine gy rfl rfl rfl S (y_assign rfl S rfl) fun a S => ?_
     refine gl_nil ?_
     refine n_then ?_
     have S := S.nil.cons S 6 rfl
     refine g_ret ?_
     refine ret1 rfl S rfl ?_
     exact ⟨congrArg Value.bool (by rw [hM.match_eq hgr]; simp), H.toExt⟩

end Go.Proofs.Ytenaoaegichecaa
