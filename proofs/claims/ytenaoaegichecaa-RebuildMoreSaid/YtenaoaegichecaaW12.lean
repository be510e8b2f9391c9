/- The walks. No condition. -/
import Derived.Test.YtenaoaegichecaaChecked
import Derived.Test.YtenaoaegichecaaGwBits
import Derived.Test.YtenaoaegichecaaFacts
import Derived.Test.YtenaoaegichecaaPlain
import Derived.Test.YtenaoaegichecaaPlainU
import Derived.Test.YtenaoaegichecaaW10
namespace Go.Proofs.Ytenaoaegichecaa
open Go Go.Gw
set_option linter.unusedVariables false
set_option linter.unusedSimpArgs false
set_option maxHeartbeats 4000000 in
/-- foyer/foyerref41.match -/
theorem rmatch_spec (v1 v2 : Value) (old next : List Pl) (v3 : Value) (ts : List Ow) (w0 : World) (hv1 : IsSl w0 v1 9 Pl.enc old) (hv2 : IsSl w0 v2 9 Pl.enc next) (hv3 : IsSl w0 v3 11 Ow.enc ts) (hpl : ∀ o ∈ ts, 0 ≤ o.place ∧ o.place < old.length) (hs1 : ts.length ≤ 4000) (hs2 : next.length ≤ 4000) :
    Ret Try.prog 33 #[v1, v2, v3] w0 (fun u w => HSat No w0 [OSl 3 u 1 encI (plL (oldL old ts) next)] w) := by
 refine ret_of_wp (nt := 115) Try.func33 rfl rfl rfl (fl := [(0, v1), (1, v2), (2, v3)]) rfl (fun a S => ?_)
 have H := HSat.start w0
 have H := H.ro0 (Sl v1 9 Pl.enc old) rfl (hv1)
 have H := H.ro0 (Sl v2 9 Pl.enc next) rfl (hv2)
 have H := H.ro0 (Sl v3 11 Ow.enc ts) rfl (hv3)
 have hl1 := hv1.len
 have hl2 := hv2.len
 have hl3 := hv3.len
 refine g_seq ?_
 refine g_region ?_
 refine gy rfl rfl rfl S (y_assign rfl S rfl) fun a S => ?_
 refine gl_nil ?_
 refine n_then ?_
 refine g_seq ?_
 refine g_region ?_
 refine gy rfl rfl rfl S (y_move rfl S rfl) fun a S => ?_
 refine gy rfl rfl rfl S (y_move rfl S rfl) fun a S => ?_
 refine gy rfl rfl rfl S (y_move rfl S rfl) fun a S => ?_
 refine wl_of (op_call (wn rfl) rfl rfl S (co_func rfl Try.call35 S rfl) (accepted_spec v1 v2 old next v3 ts _ (H.sl v1) (H.sl v2) (H.sl v3) hpl (by omega) (by omega)) fun u17 w hc a S => ?_)
 obtain ⟨ps, hps, H1⟩ := hc
 have H := ((H.call2 H1 rfl rfl).freeze.swap2).freeze
 have hps : gr ps = edgesL (oldL old ts) next := hps
 have hto := old_len old ts
 have hpl0 : ps.length = ts.length := by have := congrArg List.length hps; rw [gr_len, edges_len] at this; omega
 have hvg0 := edges_valid (olds := (oldL old ts)) (next := next) (by omega) hs2
 have hvg : validG (gr ps) next.length = true := by rw [hps]; exact hvg0
 have hvp := validG_parts hvg
 obtain ⟨pu, cu, hpu⟩ := (H.sl u17).shape
 refine gy rfl rfl rfl S (y_buildf rfl Fbld105 S rfl (idx := [0]) rfl (cs := [u17, .slice none 0 0, .slice none 0 0, .slice none 0 0]) (by rw [hpu]; rfl)) fun a S => ?_
 refine wl_of (op_alloc (wn rfl) rfl rfl rfl S H Fzer105 fun b7 a w S H => ?_)
 refine wl_of (op_storea (wn rfl) rfl rfl S H rfl rfl (by simp only [List.all_cons, List.all_nil, H.sl1 u17]; rfl) Fsiz105 rfl (cs' := [_, _, _, _]) rfl fun a w S H => ?_)
 refine gl_nil ?_
 refine n_then ?_
 have S := ((((S.nil.cons S 2 rfl).cons S 1 rfl).cons S 0 rfl).cons S 6 rfl).cons S 7 rfl
 refine g_seq ?_
 refine g_seq ?_
 refine g_region ?_
 refine gy rfl rfl rfl S (y_assign rfl S rfl) fun a S => ?_
 refine gl_nil ?_
 refine n_then ?_
 refine g_block ?_
 have H := H.nilO 3 1 encI
 have SU := ((((S.nil.cons S 2 rfl).cons S 1 rfl).cons S 0 rfl).cons S 6 rfl).cons S 7 rfl
 refine loopW (X := Nat) SU (fun k => [(8, .int .i64 (k : Int))]) (fun k w => k ≤ next.length ∧ ∃ vt, HSat No w0 [OSl 3 vt 1 encI (List.replicate k (-1)), Cel b7 105 [u17, vt, .slice none 0 0, .slice none 0 0], Atom.ro (RowsA 3 1 encI ps), Atom.ro (OSl 25 u17 1 encRow ps), Sl v3 11 Ow.enc ts, Sl v2 9 Pl.enc next, Sl v1 9 Pl.enc old] w) (fun k => next.length - k) 0 (S.nil.cons S 8 rfl) (⟨by omega, .slice none 0 0, H.take [OSl 3 (.slice none 0 0) 1 encI [], Cel b7 105 [u17, .slice none 0 0, .slice none 0 0, .slice none 0 0], Atom.ro (RowsA 3 1 encI ps), Atom.ro (OSl 25 u17 1 encRow ps), Sl v3 11 Ow.enc ts, Sl v2 9 Pl.enc next, Sl v1 9 Pl.enc old]⟩) (fun k a w S hW => ?_)
 simp only [List.cons_append, List.nil_append] at S
 clear H
 obtain ⟨hk, vt, H⟩ := hW
 refine g_seq ?_
 refine g_seq ?_
 refine g_region ?_
 refine gy rfl rfl rfl S (y_move rfl S rfl) fun a S => ?_
 refine gy rfl rfl rfl S (y_move rfl S rfl) fun a S => ?_
 refine gy rfl rfl rfl S (y_lens rfl Try.underlying22 S H rfl) fun a S => ?_
 refine gy rfl rfl rfl S (y_bin rfl S rfl rfl rfl) fun a S => ?_
 refine gl_nil ?_
 refine n_then ?_
 refine c_if S rfl (fun h1 => ?_) (fun h1 => ?_)
 ·have h1p := h1; try simp only [DL] at h1p
  refine g_skip ?_
  refine n_then ?_
  refine g_seq ?_
  refine g_block ?_
  refine g_region ?_
  refine gy rfl rfl rfl S (y_faddrb rfl Ffo105_1 S rfl) fun a S => ?_
  refine gy rfl rfl rfl S (y_load rfl Fsca25 S H rfl rfl) fun a S => ?_
  refine wl_of (op_buildSlice (wn rfl) rfl rfl rfl Try.underlying25 Finf3 S H (idx := [0]) rfl rfl rfl (z := [.int .i64 0]) (by kernel_rfl) (cs := [_]) rfl fun b27 a w S H => ?_)
  refine wl_of (op_append ([-1]) (wn rfl) rfl rfl rfl Try.underlying25 Finf3 rfl rfl S H rfl rfl rfl rfl (by simp) (by simp [encI]) (by simp [encI, Value.oneCell']) (by simp only [List.length_cons, List.length_nil, List.length_replicate]; omega) (by simp only [List.length_cons, List.length_nil, List.length_replicate]; omega) fun u28 a w hn28 S H => ?_)
  refine gy rfl rfl rfl S (y_faddrb rfl Ffo105_1 S rfl) fun a S => ?_
  refine wl_of (op_store (wn rfl) rfl rfl S H rfl rfl (H.sl1 _) Fsiz25 rfl fun a w S H => ?_)
  dsimp only [List.set, Nat.zero_add, Nat.reduceAdd] at H
  refine gl_nil ?_
  refine n_block ?_
  refine n_then ?_
  refine g_region ?_
  refine gy rfl rfl rfl S (y_move rfl S rfl) fun a S => ?_
  refine gy rfl rfl rfl S (y_add rfl S rfl rfl (by omega)) fun a S => ?_
  refine gy rfl rfl rfl S (y_assign rfl S rfl) fun a S => ?_
  refine gl_nil ?_
  refine n_then ?_
  exact ⟨k + 1, S.nil.cons S 8 rfl, ((((S.nil.cons S 2 rfl).cons S 1 rfl).cons S 0 rfl).cons S 6 rfl).cons S 7 rfl, ⟨by omega, u28, by rw [List.replicate_succ']; exact H.take [OSl 3 u28 1 encI (List.replicate k (-1) ++ [-1]), Cel b7 105 [u17, u28, .slice none 0 0, .slice none 0 0], Atom.ro (RowsA 3 1 encI ps), Atom.ro (OSl 25 u17 1 encRow ps), Sl v3 11 Ow.enc ts, Sl v2 9 Pl.enc next, Sl v1 9 Pl.enc old]⟩, by omega⟩
 ·have h1p := h1; try simp only [DL] at h1p
  obtain rfl : k = next.length := by omega
  refine g_exit ?_
  refine x_then (x_then (x_eq ?_))
  refine n_then ?_
  have S := ((((S.nil.cons S 2 rfl).cons S 1 rfl).cons S 0 rfl).cons S 6 rfl).cons S 7 rfl
  refine g_seq ?_
  refine g_seq ?_
  refine g_region ?_
  refine gy rfl rfl rfl S (y_assign rfl S rfl) fun a S => ?_
  refine gl_nil ?_
  refine n_then ?_
  refine g_block ?_
  have H := H.nilO 3 1 encI
  have SU := ((((S.nil.cons S 2 rfl).cons S 1 rfl).cons S 0 rfl).cons S 6 rfl).cons S 7 rfl
  refine loopW (X := Nat) SU (fun k => [(9, .int .i64 (k : Int))]) (fun k w => k ≤ ts.length ∧ ∃ vp, HSat No w0 [OSl 3 vt 1 encI (List.replicate next.length (-1)), OSl 3 vp 1 encI (List.replicate k (-1)), Cel b7 105 [u17, vt, vp, .slice none 0 0], Atom.ro (RowsA 3 1 encI ps), Atom.ro (OSl 25 u17 1 encRow ps), Sl v3 11 Ow.enc ts, Sl v2 9 Pl.enc next, Sl v1 9 Pl.enc old] w) (fun k => ts.length - k) 0 (S.nil.cons S 9 rfl) (⟨by omega, .slice none 0 0, H.take [OSl 3 vt 1 encI (List.replicate next.length (-1)), OSl 3 (.slice none 0 0) 1 encI ([]), Cel b7 105 [u17, vt, (.slice none 0 0), .slice none 0 0], Atom.ro (RowsA 3 1 encI ps), Atom.ro (OSl 25 u17 1 encRow ps), Sl v3 11 Ow.enc ts, Sl v2 9 Pl.enc next, Sl v1 9 Pl.enc old]⟩) (fun k a w S hW => ?_)
  simp only [List.cons_append, List.nil_append] at S
  clear H
  obtain ⟨hk, vp, H⟩ := hW
  refine g_seq ?_
  refine g_seq ?_
  refine g_region ?_
  refine gy rfl rfl rfl S (y_move rfl S rfl) fun a S => ?_
  refine gy rfl rfl rfl S (y_move rfl S rfl) fun a S => ?_
  refine gy rfl rfl rfl S (y_lens rfl Try.underlying23 S H rfl) fun a S => ?_
  refine gy rfl rfl rfl S (y_bin rfl S rfl rfl rfl) fun a S => ?_
  refine gl_nil ?_
  refine n_then ?_
  refine c_if S rfl (fun h2 => ?_) (fun h2 => ?_)
  ·have h2p := h2; try simp only [DL] at h2p
   refine g_skip ?_
   refine n_then ?_
   refine g_seq ?_
   refine g_block ?_
   refine g_region ?_
   refine gy rfl rfl rfl S (y_faddrb rfl Ffo105_2 S rfl) fun a S => ?_
   refine gy rfl rfl rfl S (y_load rfl Fsca25 S H rfl rfl) fun a S => ?_
   refine wl_of (op_buildSlice (wn rfl) rfl rfl rfl Try.underlying25 Finf3 S H (idx := [0]) rfl rfl rfl (z := [.int .i64 0]) (by kernel_rfl) (cs := [_]) rfl fun b38 a w S H => ?_)
   refine wl_of (op_append ([-1]) (wn rfl) rfl rfl rfl Try.underlying25 Finf3 rfl rfl S H rfl rfl rfl rfl (by simp) (by simp [encI]) (by simp [encI, Value.oneCell']) (by simp only [List.length_cons, List.length_nil, List.length_replicate]; omega) (by simp only [List.length_cons, List.length_nil, List.length_replicate]; omega) fun u39 a w hn39 S H => ?_)
   refine gy rfl rfl rfl S (y_faddrb rfl Ffo105_2 S rfl) fun a S => ?_
   refine wl_of (op_store (wn rfl) rfl rfl S H rfl rfl (H.sl1 _) Fsiz25 rfl fun a w S H => ?_)
   dsimp only [List.set, Nat.zero_add, Nat.reduceAdd] at H
   refine gl_nil ?_
   refine n_block ?_
   refine n_then ?_
   refine g_region ?_
   refine gy rfl rfl rfl S (y_move rfl S rfl) fun a S => ?_
   refine gy rfl rfl rfl S (y_add rfl S rfl rfl (by omega)) fun a S => ?_
   refine gy rfl rfl rfl S (y_assign rfl S rfl) fun a S => ?_
   refine gl_nil ?_
   refine n_then ?_
   exact ⟨k + 1, S.nil.cons S 9 rfl, ((((S.nil.cons S 2 rfl).cons S 1 rfl).cons S 0 rfl).cons S 6 rfl).cons S 7 rfl, ⟨by omega, u39, by rw [List.replicate_succ']; exact H.take [OSl 3 vt 1 encI (List.replicate next.length (-1)), OSl 3 u39 1 encI (List.replicate k (-1) ++ [-1]), Cel b7 105 [u17, vt, u39, .slice none 0 0], Atom.ro (RowsA 3 1 encI ps), Atom.ro (OSl 25 u17 1 encRow ps), Sl v3 11 Ow.enc ts, Sl v2 9 Pl.enc next, Sl v1 9 Pl.enc old]⟩, by omega⟩
  ·have h2p := h2; try simp only [DL] at h2p
   obtain rfl : k = ts.length := by omega
   rw [show List.replicate next.length (-1) = (startK (oldL old ts) next 0).1 from rfl, show List.replicate ts.length (-1) = (startK (oldL old ts) next 0).2 by rw [← hto]; rfl] at H
   refine g_exit ?_
   refine x_then (x_then (x_eq ?_))
   refine n_then ?_
   have S := ((((S.nil.cons S 2 rfl).cons S 1 rfl).cons S 0 rfl).cons S 6 rfl).cons S 7 rfl
   refine g_seq ?_
   refine g_seq ?_
   refine g_region ?_
   refine gy rfl rfl rfl S (y_assign rfl S rfl) fun a S => ?_
   refine gl_nil ?_
   refine n_then ?_
   refine g_block ?_
   have SU := ((((S.nil.cons S 2 rfl).cons S 1 rfl).cons S 0 rfl).cons S 6 rfl).cons S 7 rfl
   refine loopW (X := Nat) SU (fun k => [(10, .int .i64 (k : Int))]) (fun k w => k ≤ ts.length ∧ HSat No w0 [OSl 3 vt 1 encI ((startK (oldL old ts) next k).1), OSl 3 vp 1 encI ((startK (oldL old ts) next k).2), Cel b7 105 [u17, vt, vp, .slice none 0 0], Atom.ro (RowsA 3 1 encI ps), Atom.ro (OSl 25 u17 1 encRow ps), Sl v3 11 Ow.enc ts, Sl v2 9 Pl.enc next, Sl v1 9 Pl.enc old] w) (fun k => ts.length - k) 0 (S.nil.cons S 10 rfl) (⟨by omega, H.take [OSl 3 vt 1 encI ((startK (oldL old ts) next 0).1), OSl 3 vp 1 encI ((startK (oldL old ts) next 0).2), Cel b7 105 [u17, vt, vp, .slice none 0 0], Atom.ro (RowsA 3 1 encI ps), Atom.ro (OSl 25 u17 1 encRow ps), Sl v3 11 Ow.enc ts, Sl v2 9 Pl.enc next, Sl v1 9 Pl.enc old]⟩) (fun k a w S hW => ?_)
   simp only [List.cons_append, List.nil_append] at S
   clear H
   obtain ⟨hk, H⟩ := hW
   refine g_seq ?_
   refine g_seq ?_
   refine g_region ?_
   refine gy rfl rfl rfl S (y_move rfl S rfl) fun a S => ?_
   refine gy rfl rfl rfl S (y_move rfl S rfl) fun a S => ?_
   refine gy rfl rfl rfl S (y_lens rfl Try.underlying23 S H rfl) fun a S => ?_
   refine gy rfl rfl rfl S (y_bin rfl S rfl rfl rfl) fun a S => ?_
   refine gl_nil ?_
   refine n_then ?_
   refine c_if S rfl (fun h3 => ?_) (fun h3 => ?_)
   ·have h3p := h3; try simp only [DL] at h3p
    have hkl : k < ts.length := by omega
    have hko : k < (oldL old ts).length := by omega
    have hkp : k < ps.length := by omega
    have hrw := gr_row ps hkp
    have hrl := (H.sl ps[k].1).len
    obtain ⟨x, hx⟩ : ∃ x : Nat, ts[k].place = x := ⟨ts[k].place.toNat, by have := hpl _ (List.getElem_mem hkl); omega⟩
    have hxn : x < old.length := by have := hpl _ (List.getElem_mem hkl); omega
    have hI := startK_inv (olds := (oldL old ts)) (next := next) (by omega) hs2 k (by omega)
    have hsl1 : (startK (oldL old ts) next k).1.length = next.length := hI.wf.lo
    have hsl2 : (startK (oldL old ts) next k).2.length = ts.length := by have := hI.wf.lg; rw [edges_len, hto] at this; exact this
    have hch := chF_at (next := next) hko
    rw [oldL_at hkl hx hxn hko, ← hps, hrw] at hch
    refine g_skip ?_
    refine n_then ?_
    refine g_seq ?_
    refine g_block ?_
    refine g_seq ?_
    refine g_region ?_
    refine gy rfl rfl rfl S (y_assign rfl S rfl) fun a S => ?_
    refine gl_nil ?_
    refine n_then ?_
    refine g_block ?_
    have SU := (((((((((S.nil.cons S 2 rfl).cons S 1 rfl).cons S 0 rfl).cons S 6 rfl).cons S 7 rfl).cons S 10 rfl).cons S 41 rfl).cons S 42 rfl).cons S 43 rfl).cons S 44 rfl
    refine loop_k (X := Nat) SU (fun q => [(11, .int .i64 (q : Int))]) (fun q => q ≤ ps[k].2.length ∧ firstS next old[x] ps[k].2 = firstS next old[x] (ps[k].2.drop q)) (fun q => ps[k].2.length - q) 0 (S.nil.cons S 11 rfl) H (⟨by omega, rfl⟩) (fun q a w S H hi => ?_)
    simp only [List.cons_append, List.nil_append] at S hi
    obtain ⟨hq, hsk⟩ := hi
    refine g_seq ?_
    refine g_seq ?_
    refine g_region ?_
    refine gy rfl rfl rfl S (y_move rfl S rfl) fun a S => ?_
    refine gy rfl rfl rfl S (y_faddrb rfl Ffo105_0 S rfl) fun a S => ?_
    refine gy rfl rfl rfl S (y_load rfl Fsca66 S H rfl rfl) fun a S => ?_
    refine gy rfl rfl rfl S (y_move rfl S rfl) fun a S => ?_
    refine gy rfl rfl rfl S (y_iaddrn rfl Try.underlying66 Fsiz25 S H rfl rfl (by first | assumption | omega | (rw [hsl1]; omega) | (rw [hsl2]; omega) | (rw [hpk]; omega))) fun a S => ?_
    refine gy rfl rfl rfl S (y_loads _ rfl Fsca25 S H rfl (by first | assumption | omega | (rw [hsl1]; omega) | (rw [hsl2]; omega) | (rw [hpk]; omega)) rfl) fun a S => ?_
    refine gy rfl rfl rfl S (y_lens rfl Try.underlying25 S H rfl) fun a S => ?_
    refine gy rfl rfl rfl S (y_bin rfl S rfl rfl rfl) fun a S => ?_
    refine gl_nil ?_
    refine n_then ?_
    refine c_if S rfl (fun h4 => ?_) (fun h4 => ?_)
    ·have h4p := h4; try simp only [DL] at h4p
     have hql : q < ps[k].2.length := by omega
     obtain ⟨n, hn⟩ : ∃ n : Nat, ps[k].2[q] = n := ⟨ps[k].2[q].toNat, by have := hvp.2.2.2 k ps[k].2[q] (by rw [hrw]; exact List.getElem_mem _); omega⟩
     have hnr : (0 : Int) ≤ n ∧ (n : Int) < next.length := hvp.2.2.2 k n (by rw [hrw, ← hn]; exact List.getElem_mem _)
     have hnn : n < next.length := by omega
     have hfa := firstS_at (o := old[x]) hql hn hnn
     refine g_skip ?_
     refine n_then ?_
     refine g_seq ?_
     refine g_block ?_
     refine g_seq ?_
     refine g_region ?_
     refine gy rfl rfl rfl S (y_faddrb rfl Ffo105_0 S rfl) fun a S => ?_
     refine gy rfl rfl rfl S (y_load rfl Fsca66 S H rfl rfl) fun a S => ?_
     refine gy rfl rfl rfl S (y_move rfl S rfl) fun a S => ?_
     refine gy rfl rfl rfl S (y_iaddrn rfl Try.underlying66 Fsiz25 S H rfl rfl (by first | assumption | omega | (rw [hsl1]; omega) | (rw [hsl2]; omega) | (rw [hpk]; omega))) fun a S => ?_
     refine gy rfl rfl rfl S (y_loads _ rfl Fsca25 S H rfl (by first | assumption | omega | (rw [hsl1]; omega) | (rw [hsl2]; omega) | (rw [hpk]; omega)) rfl) fun a S => ?_
     refine gy rfl rfl rfl S (y_move rfl S rfl) fun a S => ?_
     refine gy rfl rfl rfl S (y_iaddrn rfl Try.underlying25 Fsiz3 S H rfl rfl (by first | assumption | omega | (rw [hsl1]; omega) | (rw [hsl2]; omega) | (rw [hpk]; omega))) fun a S => ?_
     refine gy rfl rfl rfl S (y_loads _ rfl Fsca3 S H rfl (by first | assumption | omega | (rw [hsl1]; omega) | (rw [hsl2]; omega) | (rw [hpk]; omega)) rfl) fun a S => ?_
     refine gy rfl rfl rfl S (y_assign rfl S rfl) fun a S => ?_
     rw [hn] at S
     refine gl_nil ?_
     refine n_then ?_
     refine g_seq ?_
     refine region_st (loud := []) (tails := []) (free := []) [0, 1, 2, 3, 4, 5, 6, 7, 8, 9, 10, 11, 12, 13] [] Fmo (by kernel_rfl) (by kernel_rfl) rfl H ?_
     refine m_w rfl rfl (wn rfl) rfl rfl S (fun w H => y_move rfl S rfl) fun a S => ?_
     refine m_w rfl rfl (wn rfl) rfl rfl S (fun w H => y_move rfl S rfl) fun a S => ?_
     refine m_w rfl rfl (wn rfl) rfl rfl S (fun w H => y_move rfl S rfl) fun a S => ?_
     refine m_w rfl rfl (wn rfl) rfl rfl S (fun w H => y_iaddrn rfl Try.underlying23 Fsiz47 S H rfl rfl (by first | assumption | omega | (rw [hsl1]; omega) | (rw [hsl2]; omega) | (rw [hpk]; omega))) fun a S => ?_
     refine m_w rfl rfl (wn rfl) rfl rfl S (fun w H => y_faddr rfl Ffo47_0 S rfl) fun a S => ?_
     refine m_w rfl rfl (wn rfl) rfl rfl S (fun w H => y_faddr rfl Ffo41_2 S rfl) fun a S => ?_
     refine m_loadsff _ rfl rfl (wn rfl) rfl rfl S rfl Fsca3 rfl (by first | assumption | omega | (rw [hsl1]; omega) | (rw [hsl2]; omega) | (rw [hpk]; omega)) rfl fun a S => ?_
     rw [hx] at S
     refine m_w rfl rfl (wn rfl) rfl rfl S (fun w H => y_iaddrn rfl Try.underlying22 Fsiz56 S H rfl rfl (by first | assumption | omega | (rw [hsl1]; omega) | (rw [hsl2]; omega) | (rw [hpk]; omega))) fun a S => ?_
     refine m_loadsa _ rfl rfl (wn rfl) rfl rfl S rfl rfl (by exact Fagg56) (by first | assumption | omega | (rw [hsl1]; omega) | (rw [hsl2]; omega) | (rw [hpk]; omega)) fun a S => ?_
     refine m_w rfl rfl (wn rfl) rfl rfl S (fun w H => y_move rfl S rfl) fun a S => ?_
     refine m_w rfl rfl (wn rfl) rfl rfl S (fun w H => y_move rfl S rfl) fun a S => ?_
     refine m_w rfl rfl (wn rfl) rfl rfl S (fun w H => y_iaddrn rfl Try.underlying22 Fsiz56 S H rfl rfl (by first | assumption | omega | (rw [hsl1]; omega) | (rw [hsl2]; omega) | (rw [hpk]; omega))) fun a S => ?_
     refine m_loadsa _ rfl rfl (wn rfl) rfl rfl S rfl rfl (by exact Fagg56) (by first | assumption | omega | (rw [hsl1]; omega) | (rw [hsl2]; omega) | (rw [hpk]; omega)) fun a S => ?_
     refine m_c rfl rfl (wn rfl) rfl rfl S (fun w => co_func rfl Try.call52 S rfl) (fun w H => sameN_spec old[x] next[n] _) fun a S => ?_
     refine m_nil (fun w H => ?_)
     refine n_then ?_
     refine c_if S rfl (fun h5 => ?_) (fun h5 => ?_)
     ·have h5p := h5; try simp only [DL] at h5p
      rw [if_pos h5] at hfa
      have hch2 : chF (oldL old ts) next k = some (n : Int) := by rw [hch, hsk]; exact hfa
      have hat := atI_eq (show n < (startK (oldL old ts) next k).1.length by omega)
      refine g_seq ?_
      refine g_seq ?_
      refine g_region ?_
      refine gy rfl rfl rfl S (y_faddrb rfl Ffo105_1 S rfl) fun a S => ?_
      refine gy rfl rfl rfl S (y_load rfl Fsca25 S H rfl rfl) fun a S => ?_
      refine gy rfl rfl rfl S (y_move rfl S rfl) fun a S => ?_
      refine gy rfl rfl rfl S (y_iaddrn rfl Try.underlying25 Fsiz3 S H rfl rfl (by first | assumption | omega | (rw [hsl1]; omega) | (rw [hsl2]; omega) | (rw [hpk]; omega))) fun a S => ?_
      refine gy rfl rfl rfl S (y_loads _ rfl Fsca3 S H rfl (by first | assumption | omega | (rw [hsl1]; omega) | (rw [hsl2]; omega) | (rw [hpk]; omega)) rfl) fun a S => ?_
      refine gy rfl rfl rfl S (y_bin rfl S rfl rfl rfl) fun a S => ?_
      refine gl_nil ?_
      refine n_then ?_
      refine c_if S rfl (fun h6 => ?_) (fun h6 => ?_)
      ·have h6p := h6; try simp only [DL] at h6p
       have stp := startK_give hch2 (by rw [hat]; exact h6p)
       refine g_seq ?_
       refine g_region ?_
       refine gy rfl rfl rfl S (y_faddrb rfl Ffo105_1 S rfl) fun a S => ?_
       refine gy rfl rfl rfl S (y_load rfl Fsca25 S H rfl rfl) fun a S => ?_
       refine gy rfl rfl rfl S (y_move rfl S rfl) fun a S => ?_
       refine gy rfl rfl rfl S (y_move rfl S rfl) fun a S => ?_
       refine gy rfl rfl rfl S (y_iaddrn rfl Try.underlying25 Fsiz3 S H rfl rfl (by first | assumption | omega | (rw [hsl1]; omega) | (rw [hsl2]; omega) | (rw [hpk]; omega))) fun a S => ?_
       refine wl_of (op_store1 _ ((k : Int)) (wn rfl) rfl rfl S H rfl rfl rfl rfl Fsiz3 (by first | assumption | omega | (rw [hsl1]; omega) | (rw [hsl2]; omega) | (rw [hpk]; omega)) (by exact rfl) fun a w S H => ?_)
       refine gl_nil ?_
       refine n_then ?_
       refine g_region ?_
       refine gy rfl rfl rfl S (y_faddrb rfl Ffo105_2 S rfl) fun a S => ?_
       refine gy rfl rfl rfl S (y_load rfl Fsca25 S H rfl rfl) fun a S => ?_
       refine gy rfl rfl rfl S (y_move rfl S rfl) fun a S => ?_
       refine gy rfl rfl rfl S (y_move rfl S rfl) fun a S => ?_
       refine gy rfl rfl rfl S (y_iaddrn rfl Try.underlying25 Fsiz3 S H rfl rfl (by first | assumption | omega | (rw [hsl1]; omega) | (rw [hsl2]; omega) | (rw [hpk]; omega))) fun a S => ?_
       refine wl_of (op_store1 _ ((n : Int)) (wn rfl) rfl rfl S H rfl rfl rfl rfl Fsiz3 (by first | assumption | omega | (rw [hsl1]; omega) | (rw [hsl2]; omega) | (rw [hpk]; omega)) (by exact rfl) fun a w S H => ?_)
       refine gl_nil ?_
       refine n_then ?_
       refine g_exit ?_
       refine x_ne rfl (x_then (x_then (x_eq ?_)))
       refine n_block ?_
       refine n_then ?_
       refine g_region ?_
       refine gy rfl rfl rfl S (y_move rfl S rfl) fun a S => ?_
       refine gy rfl rfl rfl S (y_add rfl S rfl rfl (by omega)) fun a S => ?_
       refine gy rfl rfl rfl S (y_assign rfl S rfl) fun a S => ?_
       refine gl_nil ?_
       refine n_then ?_
       exact ⟨k + 1, S.nil.cons S 10 rfl, ((((S.nil.cons S 2 rfl).cons S 1 rfl).cons S 0 rfl).cons S 6 rfl).cons S 7 rfl, ⟨by omega, by rw [stp]; first | exact H.take [OSl 3 vt 1 encI ((startK (oldL old ts) next k).1), OSl 3 vp 1 encI ((startK (oldL old ts) next k).2), Cel b7 105 [u17, vt, vp, .slice none 0 0], Atom.ro (RowsA 3 1 encI ps), Atom.ro (OSl 25 u17 1 encRow ps), Sl v3 11 Ow.enc ts, Sl v2 9 Pl.enc next, Sl v1 9 Pl.enc old] | exact H.take [OSl 3 vt 1 encI ((startK (oldL old ts) next k).1.set n (k : Int)), OSl 3 vp 1 encI ((startK (oldL old ts) next k).2.set k (n : Int)), Cel b7 105 [u17, vt, vp, .slice none 0 0], Atom.ro (RowsA 3 1 encI ps), Atom.ro (OSl 25 u17 1 encRow ps), Sl v3 11 Ow.enc ts, Sl v2 9 Pl.enc next, Sl v1 9 Pl.enc old]⟩, by omega⟩
      ·have h6p := h6; try simp only [DL] at h6p
       have stp := startK_taken hch2 (by rw [hat]; have := h6p; omega)
       refine g_skip ?_
       refine n_then ?_
       refine g_exit ?_
       refine x_ne rfl (x_then (x_then (x_eq ?_)))
       refine n_block ?_
       refine n_then ?_
       refine g_region ?_
       refine gy rfl rfl rfl S (y_move rfl S rfl) fun a S => ?_
       refine gy rfl rfl rfl S (y_add rfl S rfl rfl (by omega)) fun a S => ?_
       refine gy rfl rfl rfl S (y_assign rfl S rfl) fun a S => ?_
       refine gl_nil ?_
       refine n_then ?_
       exact ⟨k + 1, S.nil.cons S 10 rfl, ((((S.nil.cons S 2 rfl).cons S 1 rfl).cons S 0 rfl).cons S 6 rfl).cons S 7 rfl, ⟨by omega, by rw [stp]; first | exact H.take [OSl 3 vt 1 encI ((startK (oldL old ts) next k).1), OSl 3 vp 1 encI ((startK (oldL old ts) next k).2), Cel b7 105 [u17, vt, vp, .slice none 0 0], Atom.ro (RowsA 3 1 encI ps), Atom.ro (OSl 25 u17 1 encRow ps), Sl v3 11 Ow.enc ts, Sl v2 9 Pl.enc next, Sl v1 9 Pl.enc old] | exact H.take [OSl 3 vt 1 encI ((startK (oldL old ts) next k).1.set n (k : Int)), OSl 3 vp 1 encI ((startK (oldL old ts) next k).2.set k (n : Int)), Cel b7 105 [u17, vt, vp, .slice none 0 0], Atom.ro (RowsA 3 1 encI ps), Atom.ro (OSl 25 u17 1 encRow ps), Sl v3 11 Ow.enc ts, Sl v2 9 Pl.enc next, Sl v1 9 Pl.enc old]⟩, by omega⟩
     ·have h5p := h5; try simp only [DL] at h5p
      rw [if_neg (by rw [h5]; simp)] at hfa
      refine g_skip ?_
      refine n_block ?_
      refine n_then ?_
      refine g_region ?_
      refine gy rfl rfl rfl S (y_move rfl S rfl) fun a S => ?_
      refine gy rfl rfl rfl S (y_add rfl S rfl rfl (by omega)) fun a S => ?_
      refine gy rfl rfl rfl S (y_assign rfl S rfl) fun a S => ?_
      refine gl_nil ?_
      refine n_then ?_
      refine ⟨q + 1, S.nil.cons S 11 rfl, (((((((((S.nil.cons S 2 rfl).cons S 1 rfl).cons S 0 rfl).cons S 6 rfl).cons S 7 rfl).cons S 10 rfl).cons S 41 rfl).cons S 42 rfl).cons S 43 rfl).cons S 44 rfl, H, ?_, ?_⟩
      · exact ⟨by omega, by rw [hsk]; exact hfa⟩
      · omega
    ·have h4p := h4; try simp only [DL] at h4p
     have hch2 : chF (oldL old ts) next k = none := by rw [hch, hsk, List.drop_of_length_le (by omega)]; rfl
     have stp := startK_none hch2
     refine g_exit ?_
     refine x_then (x_then (x_eq ?_))
     refine n_block ?_
     refine n_then ?_
     refine g_region ?_
     refine gy rfl rfl rfl S (y_move rfl S rfl) fun a S => ?_
     refine gy rfl rfl rfl S (y_add rfl S rfl rfl (by omega)) fun a S => ?_
     refine gy rfl rfl rfl S (y_assign rfl S rfl) fun a S => ?_
     refine gl_nil ?_
     refine n_then ?_
     exact ⟨k + 1, S.nil.cons S 10 rfl, ((((S.nil.cons S 2 rfl).cons S 1 rfl).cons S 0 rfl).cons S 6 rfl).cons S 7 rfl, ⟨by omega, by rw [stp]; first | exact H.take [OSl 3 vt 1 encI ((startK (oldL old ts) next k).1), OSl 3 vp 1 encI ((startK (oldL old ts) next k).2), Cel b7 105 [u17, vt, vp, .slice none 0 0], Atom.ro (RowsA 3 1 encI ps), Atom.ro (OSl 25 u17 1 encRow ps), Sl v3 11 Ow.enc ts, Sl v2 9 Pl.enc next, Sl v1 9 Pl.enc old] | exact H.take [OSl 3 vt 1 encI ((startK (oldL old ts) next k).1.set n (k : Int)), OSl 3 vp 1 encI ((startK (oldL old ts) next k).2.set k (n : Int)), Cel b7 105 [u17, vt, vp, .slice none 0 0], Atom.ro (RowsA 3 1 encI ps), Atom.ro (OSl 25 u17 1 encRow ps), Sl v3 11 Ow.enc ts, Sl v2 9 Pl.enc next, Sl v1 9 Pl.enc old]⟩, by omega⟩
   ·have h3p := h3; try simp only [DL] at h3p
    obtain rfl : k = ts.length := by omega
    refine g_exit ?_
    refine x_then (x_then (x_eq ?_))
    refine n_then ?_
    have S := (((S.nil.cons S 2 rfl).cons S 1 rfl).cons S 6 rfl).cons S 7 rfl
    refine g_seq ?_
    refine g_seq ?_
    refine g_region ?_
    refine gy rfl rfl rfl S (y_assign rfl S rfl) fun a S => ?_
    refine gl_nil ?_
    refine n_then ?_
    refine g_block ?_
    rw [show startK (oldL old ts) next ts.length = pairK (oldL old ts) next 0 by rw [← hto]; rfl] at H
    have SU := (((S.nil.cons S 2 rfl).cons S 1 rfl).cons S 6 rfl).cons S 7 rfl
    refine loopW (X := Nat) SU (fun k => [(13, .int .i64 (k : Int))]) (fun k w => k ≤ ts.length ∧ ∃ vs, HSat No w0 [OSl 3 vt 1 encI ((pairK (oldL old ts) next k).1), OSl 3 vp 1 encI ((pairK (oldL old ts) next k).2), Cel b7 105 [u17, vt, vp, vs], Atom.ro (RowsA 3 1 encI ps), Atom.ro (OSl 25 u17 1 encRow ps), Sl v3 11 Ow.enc ts, Sl v2 9 Pl.enc next, Sl v1 9 Pl.enc old] w) (fun k => ts.length - k) 0 (S.nil.cons S 13 rfl) (⟨by omega, .slice none 0 0, H.take [OSl 3 vt 1 encI ((pairK (oldL old ts) next 0).1), OSl 3 vp 1 encI ((pairK (oldL old ts) next 0).2), Cel b7 105 [u17, vt, vp, .slice none 0 0], Atom.ro (RowsA 3 1 encI ps), Atom.ro (OSl 25 u17 1 encRow ps), Sl v3 11 Ow.enc ts, Sl v2 9 Pl.enc next, Sl v1 9 Pl.enc old]⟩) (fun k a w S hW => ?_)
    simp only [List.cons_append, List.nil_append] at S
    clear H
    obtain ⟨hk, vs0, H⟩ := hW
    have hpk : (pairK (oldL old ts) next k).2.length = ts.length := by have := (pairK_inv (olds := (oldL old ts)) (next := next) (by omega) hs2 k (by omega)).1.wf.lg; rw [edges_len, hto] at this; exact this
    refine g_seq ?_
    refine g_seq ?_
    refine g_region ?_
    refine gy rfl rfl rfl S (y_move rfl S rfl) fun a S => ?_
    refine gy rfl rfl rfl S (y_move rfl S rfl) fun a S => ?_
    refine gy rfl rfl rfl S (y_lens rfl Try.underlying23 S H rfl) fun a S => ?_
    refine gy rfl rfl rfl S (y_bin rfl S rfl rfl rfl) fun a S => ?_
    refine gl_nil ?_
    refine n_then ?_
    refine c_if S rfl (fun h7 => ?_) (fun h7 => ?_)
    ·have h7p := h7; try simp only [DL] at h7p
     have hkl : k < ts.length := by omega
     have hI := (pairK_inv (olds := (oldL old ts)) (next := next) (by omega) hs2 k (by omega)).1
     have hatk := atI_eq (show k < (pairK (oldL old ts) next k).2.length by omega)
     refine g_skip ?_
     refine n_then ?_
     refine g_seq ?_
     refine g_block ?_
     refine g_seq ?_
     refine g_region ?_
     refine gy rfl rfl rfl S (y_faddrb rfl Ffo105_2 S rfl) fun a S => ?_
     refine gy rfl rfl rfl S (y_load rfl Fsca25 S H rfl rfl) fun a S => ?_
     refine gy rfl rfl rfl S (y_move rfl S rfl) fun a S => ?_
     refine gy rfl rfl rfl S (y_iaddrn rfl Try.underlying25 Fsiz3 S H rfl rfl (by first | assumption | omega | (rw [hsl1]; omega) | (rw [hsl2]; omega) | (rw [hpk]; omega))) fun a S => ?_
     refine gy rfl rfl rfl S (y_loads _ rfl Fsca3 S H rfl (by first | assumption | omega | (rw [hsl1]; omega) | (rw [hsl2]; omega) | (rw [hpk]; omega)) rfl) fun a S => ?_
     refine gy rfl rfl rfl S (y_bin rfl S rfl rfl rfl) fun a S => ?_
     refine gl_nil ?_
     refine n_then ?_
     refine c_if S rfl (fun h8 => ?_) (fun h8 => ?_)
     ·have h8p := h8; try simp only [DL] at h8p
      have hneg : atI (pairK (oldL old ts) next k).2 k < 0 := by rw [hatk]; exact h8p
      have stp := pairK_yes hneg
      refine g_seq ?_
      refine g_region ?_
      refine gy rfl rfl rfl S (y_move rfl S rfl) fun a S => ?_
      refine gy rfl rfl rfl S (y_lens rfl Try.underlying22 S H rfl) fun a S => ?_
      refine wl_of (op_make (encB) (false) (wn rfl) rfl rfl rfl Try.underlying53 Finf4 rfl rfl S H rfl rfl rfl (by omega) (by omega) fun b109 a w S H => ?_)
      rw [← seenB_nil] at H
      refine gy rfl rfl rfl S (y_faddrb rfl Ffo105_3 S rfl) fun a S => ?_
      refine wl_of (op_store (wn rfl) rfl rfl S H rfl rfl (H.sl1 _) Fsiz53 rfl fun a w S H => ?_)
      dsimp only [List.set, Nat.zero_add, Nat.reduceAdd] at H
      refine gl_nil ?_
      refine n_then ?_
      refine g_region ?_
      refine gy rfl rfl rfl S (y_move rfl S rfl) fun a S => ?_
      refine wl_of (op_call (wn rfl) rfl rfl S (co_func rfl Try.call53 S rfl) (rlook_spec next.length (.slice (some ⟨b109, 0, none⟩) next.length next.length) vt vp u17 ps b7 hvg (fuelG next.length) k ⟨[], (pairK (oldL old ts) next k).1, (pairK (oldL old ts) next k).2⟩ _ (by omega) (by rw [hps]; exact hI.wf) (by simp [fuelG]) (H.pick [OSl 4 (.slice (some ⟨b109, 0, none⟩) next.length next.length) 1 encB (seenB next.length ([])), OSl 3 vt 1 encI ((pairK (oldL old ts) next k).1), OSl 3 vp 1 encI ((pairK (oldL old ts) next k).2), Cel b7 105 [u17, vt, vp, (.slice (some ⟨b109, 0, none⟩) next.length next.length)], Atom.ro (RowsA 3 1 encI ps), Atom.ro (OSl 25 u17 1 encRow ps)])) fun v w hc a S => ?_)
      obtain ⟨rfl, H⟩ := hc
      simp only [List.append_eq, List.nil_append] at H
      rw [hps] at H
      refine gl_nil ?_
      refine n_block ?_
      refine n_then ?_
      refine g_region ?_
      refine gy rfl rfl rfl S (y_move rfl S rfl) fun a S => ?_
      refine gy rfl rfl rfl S (y_add rfl S rfl rfl (by omega)) fun a S => ?_
      refine gy rfl rfl rfl S (y_assign rfl S rfl) fun a S => ?_
      refine gl_nil ?_
      refine n_then ?_
      first
      | exact ⟨k + 1, S.nil.cons S 13 rfl, (((S.nil.cons S 2 rfl).cons S 1 rfl).cons S 6 rfl).cons S 7 rfl, ⟨by omega, vs0, by rw [stp]; exact H⟩, by omega⟩
      | exact ⟨k + 1, S.nil.cons S 13 rfl, (((S.nil.cons S 2 rfl).cons S 1 rfl).cons S 6 rfl).cons S 7 rfl, ⟨by omega, (.slice (some ⟨b109, 0, none⟩) next.length next.length), by rw [stp]; exact H.take [OSl 3 vt 1 encI ((aug (edgesL (oldL old ts) next) (fuelG next.length) k ⟨[], (pairK (oldL old ts) next k).1, (pairK (oldL old ts) next k).2⟩).2.owner), OSl 3 vp 1 encI ((aug (edgesL (oldL old ts) next) (fuelG next.length) k ⟨[], (pairK (oldL old ts) next k).1, (pairK (oldL old ts) next k).2⟩).2.got), Cel b7 105 [u17, vt, vp, (.slice (some ⟨b109, 0, none⟩) next.length next.length)], Atom.ro (RowsA 3 1 encI ps), Atom.ro (OSl 25 u17 1 encRow ps), Sl v3 11 Ow.enc ts, Sl v2 9 Pl.enc next, Sl v1 9 Pl.enc old]⟩, by omega⟩
     ·have h8p := h8; try simp only [DL] at h8p
      have hneg : ¬ atI (pairK (oldL old ts) next k).2 k < 0 := by rw [hatk]; have := h8p; omega
      have stp := pairK_no hneg
      refine g_skip ?_
      refine n_block ?_
      refine n_then ?_
      refine g_region ?_
      refine gy rfl rfl rfl S (y_move rfl S rfl) fun a S => ?_
      refine gy rfl rfl rfl S (y_add rfl S rfl rfl (by omega)) fun a S => ?_
      refine gy rfl rfl rfl S (y_assign rfl S rfl) fun a S => ?_
      refine gl_nil ?_
      refine n_then ?_
      first
      | exact ⟨k + 1, S.nil.cons S 13 rfl, (((S.nil.cons S 2 rfl).cons S 1 rfl).cons S 6 rfl).cons S 7 rfl, ⟨by omega, vs0, by rw [stp]; exact H⟩, by omega⟩
      | exact ⟨k + 1, S.nil.cons S 13 rfl, (((S.nil.cons S 2 rfl).cons S 1 rfl).cons S 6 rfl).cons S 7 rfl, ⟨by omega, (.slice (some ⟨b109, 0, none⟩) next.length next.length), by rw [stp]; exact H.take [OSl 3 vt 1 encI ((aug (edgesL (oldL old ts) next) (fuelG next.length) k ⟨[], (pairK (oldL old ts) next k).1, (pairK (oldL old ts) next k).2⟩).2.owner), OSl 3 vp 1 encI ((aug (edgesL (oldL old ts) next) (fuelG next.length) k ⟨[], (pairK (oldL old ts) next k).1, (pairK (oldL old ts) next k).2⟩).2.got), Cel b7 105 [u17, vt, vp, (.slice (some ⟨b109, 0, none⟩) next.length next.length)], Atom.ro (RowsA 3 1 encI ps), Atom.ro (OSl 25 u17 1 encRow ps), Sl v3 11 Ow.enc ts, Sl v2 9 Pl.enc next, Sl v1 9 Pl.enc old]⟩, by omega⟩
    ·have h7p := h7; try simp only [DL] at h7p
     obtain rfl : k = ts.length := by omega
     refine g_exit ?_
     refine x_then (x_then (x_eq ?_))
     refine n_then ?_
     have S := (S.nil.cons S 6 rfl).cons S 7 rfl
     refine g_seq ?_
     refine g_region ?_
     refine gy rfl rfl rfl S (y_faddrb rfl Ffo105_2 S rfl) fun a S => ?_
     refine gy rfl rfl rfl S (y_load rfl Fsca25 S H rfl rfl) fun a S => ?_
     refine gy rfl rfl rfl S (y_assign rfl S rfl) fun a S => ?_
     refine gl_nil ?_
     refine n_then ?_
     have S := S.nil.cons S 6 rfl
     refine g_ret ?_
     refine ret1 rfl S rfl ?_
     rw [show pairK (oldL old ts) next ts.length = pairP (oldL old ts) next by rw [← hto]; rfl] at H
     exact H.take [OSl 3 vp 1 encI (pairP (oldL old ts) next).2]

end Go.Proofs.Ytenaoaegichecaa
