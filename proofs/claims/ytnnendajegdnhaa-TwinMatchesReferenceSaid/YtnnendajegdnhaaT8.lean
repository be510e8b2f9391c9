/- The walks. No condition. -/
import Derived.Test.YtnnendajegdnhaaChecked
import Derived.Test.YtnnendajegdnhaaGwDel
import Derived.Test.YtnnendajegdnhaaFacts
import Derived.Test.YtnnendajegdnhaaPlain
import Derived.Test.YtnnendajegdnhaaPlainTx
import Derived.Test.YtnnendajegdnhaaT4
namespace Go.Proofs.Ytnnendajegdnhaa
open Go Go.Gw
set_option linter.unusedVariables false
set_option linter.unusedSimpArgs false
set_option maxHeartbeats 1000000 in
/-- foyer/foyerref42.New -/
theorem rnew_spec (v1 v2 : Value) (old next : List Pl) (v3 : Value) (ts : List Ow) (w0 : World) (hv1 : IsSl w0 v1 9 Pl.enc old) (hv2 : IsSl w0 v2 9 Pl.enc next) (hv3 : IsSl w0 v3 11 Ow.enc ts) (hok : ∀ o ∈ ts, o.ok) (hl : ts.length ≤ 100000) :
    Ret Try.prog 10 #[v1, v2, v3] w0 (fun u w => (newE old next ts ≠ 0 ∧ u = .tuple #[.pointer none, .int .i64 (newE old next ts)] ∧ Ext w0 w) ∨ (newE old next ts = 0 ∧ ∃ b vt, u = .tuple #[.pointer (some ⟨b, 0, none⟩), .int .i64 0] ∧ HSat No w0 [RTwA b v1 v2 vt ts] w)) := by
 refine ret_of_wp (nt := 53) Try.func10 rfl rfl rfl (fl := [(0, v1), (1, v2), (2, v3)]) rfl (fun a S => ?_)
 have H := HSat.start w0
 have H := H.ro0 (Sl v1 9 Pl.enc old) rfl (hv1)
 have H := H.ro0 (Sl v2 9 Pl.enc next) rfl (hv2)
 have H := H.ro0 (Sl v3 11 Ow.enc ts) rfl (hv3)
 obtain ⟨p1, c1, hp1⟩ := hv1.shape
 obtain ⟨p2, c2, hp2⟩ := hv2.shape
 have hll := hv3.len
 refine gsr ?_
 refine ga S fun a S => ?_
 refine ga S fun a S => ?_
 refine gnt ?_
 refine gsr ?_
 refine gm S fun a S => ?_
 refine gm S fun a S => ?_
 refine gm S fun a S => ?_
 refine wl_of (op_call (wn rfl) rfl rfl S (co_func rfl Try.call30 S rfl) (rplan_any v1 v2 old next v3 ts _ (H.sl v1) (H.sl v2) (H.sl v3) hok hl) fun u16 w hc a S => ?_)
 obtain ⟨mv, vl, vr, ms, rfl, hms, H1⟩ := hc
 have H := H.call4 H1 rfl rfl rfl rfl
 refine gm S fun a S => ?_
 refine gy rfl rfl rfl S (y_extract rfl S rfl rfl) fun a S => ?_
 refine gy rfl rfl rfl S (y_extract rfl S rfl rfl) fun a S => ?_
 refine wl_of (op_alloc (wn rfl) rfl rfl rfl S H Fzer43 fun b8 a w S H => ?_)
 refine wl_of (op_storea (wn rfl) rfl rfl S H rfl rfl (by rw [List.all_cons, List.all_cons, List.all_cons, H.sl1 mv, H.sl1 vl, H.sl1 vr]; rfl) Fsiz43 rfl (cs' := [_, _, _]) rfl fun a w S H => ?_)
 refine ga S fun a S => ?_
 refine gnt ?_
 have S := (((((S.nil.cons S 2 rfl).cons S 1 rfl).cons S 0 rfl).cons S 6 rfl).cons S 7 rfl).cons S 9 rfl
 refine g_seq ?_
 refine gsr ?_
 refine gm S fun a S => ?_
 refine gy rfl rfl rfl S (y_bin rfl S rfl rfl rfl) fun a S => ?_
 refine gnt ?_
 refine c_if S rfl (fun h1 => ?_) (fun h1 => ?_)
 ·have h1p := h1; try simp only [DL] at h1p
  have herr : errP old next ts ≠ 0 := by have := h1p; simpa using this
  refine gsr ?_
  refine gm S fun a S => ?_
  refine ga S fun a S => ?_
  refine ga S fun a S => ?_
  refine gnt ?_
  have S := ((((S.nil.cons S 2 rfl).cons S 1 rfl).cons S 0 rfl).cons S 6 rfl).cons S 7 rfl
  refine g_ret ?_
  refine r_then (ret2 rfl S rfl rfl ?_)
  exact .inl ⟨by rw [newE_err herr]; exact herr, by rw [newE_err herr], H.toExt⟩
 ·have h1p := h1; try simp only [DL] at h1p
  have herr : errP old next ts = 0 := by have := h1p; simpa using this
  refine g_skip ?_
  refine n_then ?_
  refine g_seq ?_
  refine gsr ?_
  refine ga S fun a S => ?_
  refine gnt ?_
  refine g_block ?_
  have SU := ((S.nil.cons S 2 rfl).cons S 1 rfl).cons S 0 rfl
  refine loopW (X := Nat) SU (fun k => [(10, .int .i64 (k : Int))]) (fun k w => k ≤ ts.length ∧ DistS (ts.take k) ∧ HSat No w0 [Sl v3 11 Ow.enc ts, Sl v2 9 Pl.enc next, Sl v1 9 Pl.enc old] w) (fun k => ts.length - k) 0 (S.nil.cons S 10 rfl) (⟨by omega, dist_nil, H.take [Sl v3 11 Ow.enc ts, Sl v2 9 Pl.enc next, Sl v1 9 Pl.enc old]⟩) (fun k a w S hW => ?_)
  simp only [List.cons_append, List.nil_append] at S
  clear H
  obtain ⟨hk, hd, H⟩ := hW
  refine g_seq ?_
  refine gsr ?_
  refine gm S fun a S => ?_
  refine gm S fun a S => ?_
  refine gy rfl rfl rfl S (y_lens rfl Try.underlying23 S H rfl) fun a S => ?_
  refine gy rfl rfl rfl S (y_bin rfl S rfl rfl rfl) fun a S => ?_
  refine gnt ?_
  refine c_if S rfl (fun h2 => ?_) (fun h2 => ?_)
  ·have h2p := h2; try simp only [DL] at h2p
   have hkl : k < ts.length := by omega
   refine g_skip ?_
   refine n_then ?_
   have S := (((S.nil.cons S 2 rfl).cons S 1 rfl).cons S 0 rfl).cons S 10 rfl
   refine g_seq ?_
   refine g_block ?_
   refine gsr ?_
   refine ga S fun a S => ?_
   refine gnt ?_
   refine g_block ?_
   have SU := (((S.nil.cons S 2 rfl).cons S 1 rfl).cons S 0 rfl).cons S 10 rfl
   refine loopW (X := Nat) SU (fun j => [(11, .int .i64 (j : Int))]) (fun j w => j ≤ k ∧ (∀ q (hq : q < ts.length), q < j → ts[q].serial ≠ ts[k].serial) ∧ HSat No w0 [Sl v3 11 Ow.enc ts, Sl v2 9 Pl.enc next, Sl v1 9 Pl.enc old] w) (fun j => k - j) 0 (S.nil.cons S 11 rfl) (⟨by omega, fun q hq h => by omega, H⟩) (fun j a w S hW => ?_)
   simp only [List.cons_append, List.nil_append] at S
   clear H
   obtain ⟨hj, hno, H⟩ := hW
   refine g_seq ?_
   refine gsr ?_
   refine gm S fun a S => ?_
   refine gm S fun a S => ?_
   refine gy rfl rfl rfl S (y_bin rfl S rfl rfl rfl) fun a S => ?_
   refine gnt ?_
   refine c_if S rfl (fun h3 => ?_) (fun h3 => ?_)
   ·have h3p := h3; try simp only [DL] at h3p
    have hjl : j < ts.length := by omega
    refine g_skip ?_
    refine n_then ?_
    refine g_seq ?_
    refine g_block ?_
    refine g_seq ?_
    refine region_st (loud := []) (tails := []) (free := []) [0, 1, 2, 3, 4, 5, 6, 7, 8, 9, 10, 11, 12] [] Fmo (by kernel_rfl) (by kernel_rfl) rfl H ?_
    refine m_w rfl rfl (wn rfl) rfl rfl S (fun w H => y_move rfl S rfl) fun a S => ?_
    refine m_w rfl rfl (wn rfl) rfl rfl S (fun w H => y_move rfl S rfl) fun a S => ?_
    refine m_w rfl rfl (wn rfl) rfl rfl S (fun w H => y_iaddrn rfl Try.underlying23 Fsiz66 S H rfl rfl (by first | assumption | omega | (simp only [LL]; omega))) fun a S => ?_
    refine m_w rfl rfl (wn rfl) rfl rfl S (fun w H => y_faddr rfl Ffo66_0 S rfl) fun a S => ?_
    refine m_w rfl rfl (wn rfl) rfl rfl S (fun w H => y_faddr rfl Ffo60_0 S rfl) fun a S => ?_
    refine m_loadsff _ rfl rfl (wn rfl) rfl rfl S rfl Fsca3 rfl (by first | assumption | omega | (simp only [LL]; omega)) rfl fun a S => ?_
    refine m_w rfl rfl (wn rfl) rfl rfl S (fun w H => y_move rfl S rfl) fun a S => ?_
    refine m_w rfl rfl (wn rfl) rfl rfl S (fun w H => y_move rfl S rfl) fun a S => ?_
    refine m_w rfl rfl (wn rfl) rfl rfl S (fun w H => y_iaddrn rfl Try.underlying23 Fsiz66 S H rfl rfl (by first | assumption | omega | (simp only [LL]; omega))) fun a S => ?_
    refine m_w rfl rfl (wn rfl) rfl rfl S (fun w H => y_faddr rfl Ffo66_0 S rfl) fun a S => ?_
    refine m_w rfl rfl (wn rfl) rfl rfl S (fun w H => y_faddr rfl Ffo60_0 S rfl) fun a S => ?_
    refine m_loadsff _ rfl rfl (wn rfl) rfl rfl S rfl Fsca3 rfl (by first | assumption | omega | (simp only [LL]; omega)) rfl fun a S => ?_
    refine m_w rfl rfl (wn rfl) rfl rfl S (fun w H => y_bin rfl S rfl rfl rfl) fun a S => ?_
    refine m_nil (fun w H => ?_)
    refine n_then ?_
    have S := (((((S.nil.cons S 2 rfl).cons S 1 rfl).cons S 0 rfl).cons S 10 rfl).cons S 11 rfl).cons S 45 rfl
    refine c_if S rfl (fun h4 => ?_) (fun h4 => ?_)
    ·have h4p := h4; try simp only [DL] at h4p
     have heq : ts[j].serial = ts[k].serial := by simpa using h4p
     refine gsr ?_
     refine ga S fun a S => ?_
     refine ga S fun a S => ?_
     refine gnt ?_
     refine g_ret ?_
     refine r_block (r_then (r_then (r_block (r_block (r_then (r_then (r_block (r_then (ret2 rfl S rfl rfl ?_)))))))))
     exact .inl ⟨by rw [newE_dup herr (dup_at hkl (by omega) heq)]; decide, by rw [newE_dup herr (dup_at hkl (by omega) heq)], H.toExt⟩
    ·have h4p := h4; try simp only [DL] at h4p
     have heq : ts[j].serial ≠ ts[k].serial := by simpa using h4p
     refine g_skip ?_
     refine n_block ?_
     refine n_then ?_
     refine g_region ?_
     refine gm S fun a S => ?_
     refine gy rfl rfl rfl S (y_add rfl S rfl rfl (by omega)) fun a S => ?_
     refine ga S fun a S => ?_
     refine gnt ?_
     exact ⟨j + 1, S.nil.cons S 11 rfl, (((S.nil.cons S 2 rfl).cons S 1 rfl).cons S 0 rfl).cons S 10 rfl, ⟨by omega, fun q hq h => by by_cases e : q < j; exact hno q hq e; (obtain rfl : q = j := by omega); exact heq, H⟩, by omega⟩
   ·have h3p := h3; try simp only [DL] at h3p
    obtain rfl : j = k := by omega
    refine g_exit ?_
    refine x_then (x_then (x_eq ?_))
    refine n_block ?_
    refine n_then ?_
    have S := (((S.nil.cons S 2 rfl).cons S 1 rfl).cons S 0 rfl).cons S 10 rfl
    refine g_region ?_
    refine gm S fun a S => ?_
    refine gy rfl rfl rfl S (y_add rfl S rfl rfl (by omega)) fun a S => ?_
    refine ga S fun a S => ?_
    refine gnt ?_
    exact ⟨j + 1, S.nil.cons S 10 rfl, ((S.nil.cons S 2 rfl).cons S 1 rfl).cons S 0 rfl, ⟨by omega, dist_step2 hkl hd hno, H.take [Sl v3 11 Ow.enc ts, Sl v2 9 Pl.enc next, Sl v1 9 Pl.enc old]⟩, by omega⟩
  ·have h2p := h2; try simp only [DL] at h2p
   obtain rfl : k = ts.length := by omega
   rw [List.take_length] at hd
   refine g_exit ?_
   refine x_then (x_then (x_eq ?_))
   refine n_then ?_
   have S := ((S.nil.cons S 2 rfl).cons S 1 rfl).cons S 0 rfl
   refine gsr ?_
   refine gm S fun a S => ?_
   refine gm S fun a S => ?_
   refine wl_of (op_buildSlice (wn rfl) rfl rfl rfl Try.underlying23 Finf66 S H (idx := []) rfl rfl rfl (z := []) (by kernel_rfl) (cs := []) rfl fun b48 a w S H => ?_)
   have H := H.celO [] Ow.enc 11 (m := 0) rfl (by simp) rfl (by omega)
   refine gm S fun a S => ?_
   refine wl_of (op_appendT (wn rfl) rfl rfl rfl Try.underlying23 Finf66 rfl rfl S H rfl rfl (by exact fun y hy u hu => List.all_eq_true.1 (Ow.all (hok y hy)) u hu) (by first | assumption | omega | (simp only [LL]; omega)) (by first | assumption | omega | (simp only [LL]; omega)) fun u50 a w S H => ?_)
   obtain ⟨p3, c3, hp3⟩ := (H.sl u50).shape
   refine gy rfl rfl rfl S (y_buildf rfl Fbld78 S rfl (idx := [0, 1, 2]) rfl (cs := [v1, v2, u50, .bool false]) (by rw [hp1, hp2, hp3]; rfl)) fun a S => ?_
   refine wl_of (op_boxa (wn rfl) rfl rfl rfl S H rfl fun b52 a w S H => ?_)
   refine ga S fun a S => ?_
   refine ga S fun a S => ?_
   refine gnt ?_
   have S := (S.nil.cons S 6 rfl).cons S 7 rfl
   refine g_ret ?_
   refine ret2 rfl S rfl rfl ?_
   simp only [List.nil_append] at H
   exact .inr ⟨newE_ok herr (dup_no hd), b52, u50, rfl, HSat.fold (l := []) (ls := RTwL b52 v1 v2 u50 ts) (H.take [Cel b52 78 [v1, v2, u50, .bool false], OSl 66 u50 11 Ow.enc ts]) (by simp [RTwL, OSl, Blk])⟩
/-- (*foyer/foyerref42.Twin).Drop -/
theorem rdrop_nil (serial : Int) (w0 : World) :
    Ret Try.prog 12 #[.pointer none, .int .i64 serial] w0 (fun u w => u = .int .i64 1 ∧ Ext w0 w) := by
 refine ret_of_wp (nt := 64) Try.func12 rfl rfl rfl (fl := [(0, .pointer none), (1, .int .i64 serial)]) rfl (fun a S => ?_)
 have H := HSat.start w0
 refine gsr ?_
 refine ga S fun a S => ?_
 refine gnt ?_
 refine g_seq ?_
 refine gsr ?_
 refine gm S fun a S => ?_
 refine gy rfl rfl rfl S (y_eqp rfl Try.underlying31 S rfl rfl) fun a S => ?_
 refine gnt ?_
 refine c_if S rfl (fun h1 => ?_) (fun h1 => ?_)
 ·have h1p := h1; try simp only [DL] at h1p
  refine gsr ?_
  refine ga S fun a S => ?_
  refine gnt ?_
  refine g_ret ?_
  refine r_then (ret1 rfl S rfl ?_)
  exact ⟨rfl, H.toExt⟩
 ·have h1p := h1; try simp only [DL] at h1p
  all_goals (
    exact absurd h1 (by simp))
/-- (*foyer/foyerref42.Twin).Sell -/
theorem rsell_nil (place serial : Int) (w0 : World) :
    Ret Try.prog 14 #[.pointer none, .int .i64 place, .int .i64 serial] w0 (fun u w => u = .int .i64 1 ∧ Ext w0 w) := by
 refine ret_of_wp (nt := 118) Try.func14 rfl rfl rfl (fl := [(0, .pointer none), (1, .int .i64 place), (2, .int .i64 serial)]) rfl (fun a S => ?_)
 have H := HSat.start w0
 refine gsr ?_
 refine ga S fun a S => ?_
 refine gnt ?_
 refine g_seq ?_
 refine gsr ?_
 refine gm S fun a S => ?_
 refine gy rfl rfl rfl S (y_eqp rfl Try.underlying31 S rfl rfl) fun a S => ?_
 refine gnt ?_
 refine c_if S rfl (fun h1 => ?_) (fun h1 => ?_)
 ·have h1p := h1; try simp only [DL] at h1p
  refine gsr ?_
  refine ga S fun a S => ?_
  refine gnt ?_
  refine g_ret ?_
  refine r_then (ret1 rfl S rfl ?_)
  exact ⟨rfl, H.toExt⟩
 ·have h1p := h1; try simp only [DL] at h1p
  all_goals (
    exact absurd h1 (by simp))
/-- (*foyer/foyerref42.Twin).Change -/
theorem rchange_nil (w0 : World) :
    Ret Try.prog 16 #[.pointer none] w0 (fun u w => u = .tuple #[.agg #[.slice none 0 0, .slice none 0 0, .slice none 0 0], .int .i64 1] ∧ Ext w0 w) := by
 refine ret_of_wp (nt := 27) Try.func16 rfl rfl rfl (fl := [(0, .pointer none)]) rfl (fun a S => ?_)
 have H := HSat.start w0
 refine gsr ?_
 refine wl_of (op_alloc (wn rfl) rfl rfl rfl S H Fzer43 fun b2 a w S H => ?_)
 refine ga S fun a S => ?_
 refine gnt ?_
 refine g_seq ?_
 refine gsr ?_
 refine gm S fun a S => ?_
 refine gy rfl rfl rfl S (y_eqp rfl Try.underlying31 S rfl rfl) fun a S => ?_
 refine gnt ?_
 refine c_if S rfl (fun h1 => ?_) (fun h1 => ?_)
 ·have h1p := h1; try simp only [DL] at h1p
  refine gsr ?_
  refine gy rfl rfl rfl S (y_buildf rfl Fbld43 S rfl (idx := []) rfl (cs := [_, _, _]) rfl) fun a S => ?_
  refine wl_of (op_storea (wn rfl) rfl rfl S H rfl rfl rfl Fsiz43 rfl (cs' := [_, _, _]) rfl fun a w S H => ?_)
  refine ga S fun a S => ?_
  refine gnt ?_
  have S := ((S.nil.cons S 0 rfl).cons S 2 rfl).cons S 3 rfl
  refine g_ret ?_
  refine r_then (ret2ct rfl S H rfl rfl (by exact Fagg43) ?_)
  exact ⟨rfl, H.toExt⟩
 ·have h1p := h1; try simp only [DL] at h1p
  all_goals (
    exact absurd h1 (by simp))
/-- (*foyer/foyerref42.Twin).Change -/
theorem rchange_closed (b : Nat) (v1 v2 vt : Value)  (w0 : World) (hb : w0.heap[b]? = some (.cells [v1, v2, vt, .bool true].toArray 78 (0, 0))) :
    Ret Try.prog 16 #[.pointer (some ⟨b, 0, none⟩)] w0 (fun u w => u = .tuple #[.agg #[.slice none 0 0, .slice none 0 0, .slice none 0 0], .int .i64 27] ∧ Ext w0 w) := by
 refine ret_of_wp (nt := 27) Try.func16 rfl rfl rfl (fl := [(0, .pointer (some ⟨b, 0, none⟩))]) rfl (fun a S => ?_)
 have H := HSat.start w0
 have H := H.ro0 (Atom.ro (Cel b 78 [v1, v2, vt, .bool true])) rfl (hb)
 refine gsr ?_
 refine wl_of (op_alloc (wn rfl) rfl rfl rfl S H Fzer43 fun b2 a w S H => ?_)
 refine ga S fun a S => ?_
 refine gnt ?_
 refine g_seq ?_
 refine gsr ?_
 refine gm S fun a S => ?_
 refine gy rfl rfl rfl S (y_eqp rfl Try.underlying31 S rfl rfl) fun a S => ?_
 refine gnt ?_
 refine c_if S rfl (fun h1 => ?_) (fun h1 => ?_)
 ·have h1p := h1; try simp only [DL] at h1p
  all_goals (
    exact absurd h1 (by simp))
 ·have h1p := h1; try simp only [DL] at h1p
  refine g_skip ?_
  refine n_then ?_
  refine g_seq ?_
  refine gsr ?_
  refine gm S fun a S => ?_
  refine gy rfl rfl rfl S (y_nilCheck rfl S rfl) fun a S => ?_
  refine gy rfl rfl rfl S (y_faddrb rfl Ffo78_3 S rfl) fun a S => ?_
  refine gy rfl rfl rfl S (y_load rfl Fsca4 S H rfl rfl) fun a S => ?_
  refine gnt ?_
  have S := (((S.nil.cons S 0 rfl).cons S 2 rfl).cons S 3 rfl).cons S 10 rfl
  refine c_if S rfl (fun h2 => ?_) (fun h2 => ?_)
  ·have h2p := h2; try simp only [DL] at h2p
   refine gsr ?_
   refine gy rfl rfl rfl S (y_buildf rfl Fbld43 S rfl (idx := []) rfl (cs := [_, _, _]) rfl) fun a S => ?_
   refine wl_of (op_storea (wn rfl) rfl rfl S H rfl rfl rfl Fsiz43 rfl (cs' := [_, _, _]) rfl fun a w S H => ?_)
   refine ga S fun a S => ?_
   refine gnt ?_
   refine g_ret ?_
   refine r_then (ret2ct rfl S H rfl rfl (by exact Fagg43) ?_)
   exact ⟨rfl, H.toExt⟩
  ·have h2p := h2; try simp only [DL] at h2p
   all_goals (
     exact absurd h2 (by simp))
/-- (*foyer/foyerref42.Twin).Finish -/
theorem rfinish_nil (acc : Bool) (w0 : World) :
    Ret Try.prog 18 #[.pointer none, .bool acc] w0 (fun u w => u = .tuple #[.slice none 0 0, .int .i64 1] ∧ Ext w0 w) := by
 refine ret_of_wp (nt := 96) Try.func18 rfl rfl rfl (fl := [(0, .pointer none), (1, .bool acc)]) rfl (fun a S => ?_)
 have H := HSat.start w0
 refine gsr ?_
 refine ga S fun a S => ?_
 refine ga S fun a S => ?_
 refine gnt ?_
 refine g_seq ?_
 refine gsr ?_
 refine gm S fun a S => ?_
 refine gy rfl rfl rfl S (y_eqp rfl Try.underlying31 S rfl rfl) fun a S => ?_
 refine gnt ?_
 refine c_if S rfl (fun h1 => ?_) (fun h1 => ?_)
 ·have h1p := h1; try simp only [DL] at h1p
  refine gsr ?_
  refine ga S fun a S => ?_
  refine ga S fun a S => ?_
  refine gnt ?_
  have S := (((S.nil.cons S 1 rfl).cons S 0 rfl).cons S 4 rfl).cons S 5 rfl
  refine g_ret ?_
  refine r_then (ret2 rfl S rfl rfl ?_)
  exact ⟨rfl, H.toExt⟩
 ·have h1p := h1; try simp only [DL] at h1p
  all_goals (
    exact absurd h1 (by simp))
/-- (*foyer/foyerref42.Twin).Finish -/
theorem rfinish_closed (b : Nat) (v1 v2 vt : Value) (acc : Bool) (w0 : World) (hb : w0.heap[b]? = some (.cells [v1, v2, vt, .bool true].toArray 78 (0, 0))) :
    Ret Try.prog 18 #[.pointer (some ⟨b, 0, none⟩), .bool acc] w0 (fun u w => u = .tuple #[.slice none 0 0, .int .i64 27] ∧ Ext w0 w) := by
 refine ret_of_wp (nt := 96) Try.func18 rfl rfl rfl (fl := [(0, .pointer (some ⟨b, 0, none⟩)), (1, .bool acc)]) rfl (fun a S => ?_)
 have H := HSat.start w0
 have H := H.ro0 (Atom.ro (Cel b 78 [v1, v2, vt, .bool true])) rfl (hb)
 refine gsr ?_
 refine ga S fun a S => ?_
 refine ga S fun a S => ?_
 refine gnt ?_
 refine g_seq ?_
 refine gsr ?_
 refine gm S fun a S => ?_
 refine gy rfl rfl rfl S (y_eqp rfl Try.underlying31 S rfl rfl) fun a S => ?_
 refine gnt ?_
 refine c_if S rfl (fun h1 => ?_) (fun h1 => ?_)
 ·have h1p := h1; try simp only [DL] at h1p
  all_goals (
    exact absurd h1 (by simp))
 ·have h1p := h1; try simp only [DL] at h1p
  refine g_skip ?_
  refine n_then ?_
  refine g_seq ?_
  refine gsr ?_
  refine gm S fun a S => ?_
  refine gy rfl rfl rfl S (y_nilCheck rfl S rfl) fun a S => ?_
  refine gy rfl rfl rfl S (y_faddrb rfl Ffo78_3 S rfl) fun a S => ?_
  refine gy rfl rfl rfl S (y_load rfl Fsca4 S H rfl rfl) fun a S => ?_
  refine gnt ?_
  have S := ((((S.nil.cons S 1 rfl).cons S 0 rfl).cons S 4 rfl).cons S 5 rfl).cons S 17 rfl
  refine c_if S rfl (fun h2 => ?_) (fun h2 => ?_)
  ·have h2p := h2; try simp only [DL] at h2p
   refine gsr ?_
   refine ga S fun a S => ?_
   refine ga S fun a S => ?_
   refine gnt ?_
   refine g_ret ?_
   refine r_then (ret2 rfl S rfl rfl ?_)
   exact ⟨rfl, H.toExt⟩
  ·have h2p := h2; try simp only [DL] at h2p
   all_goals (
     exact absurd h2 (by simp))
set_option maxHeartbeats 2000000 in
/-- (*foyer/foyerref42.Twin).Drop -/
theorem rdrop_ok {M : Nat → Prop} {u0 : World} {l : List Atom} (b : Nat) (v1 v2 vt : Value) (old next : List Pl) (ts : List Ow) (serial : Int) (w0 : World) (h0 : HSat M u0 (RTwA b v1 v2 vt ts :: Sl v1 9 Pl.enc old :: Sl v2 9 Pl.enc next :: l) w0) (hok : ∀ o ∈ ts, o.ok) (hl : ts.length ≤ 200000) :
    Ret Try.prog 12 #[.pointer (some ⟨b, 0, none⟩), .int .i64 serial] w0 (fun u w => u = .int .i64 (dropE ts serial) ∧ ∃ vt2, HSat M u0 (RTwA b v1 v2 vt2 (dropT ts serial) :: Sl v1 9 Pl.enc old :: Sl v2 9 Pl.enc next :: l) w) := by
 refine ret_of_wp (nt := 64) Try.func12 rfl rfl rfl (fl := [(0, .pointer (some ⟨b, 0, none⟩)), (1, .int .i64 serial)]) rfl (fun a S => ?_)
 have H := h0.unfold
 simp only [RTwL, List.cons_append, List.nil_append] at H
 refine gsr ?_
 refine ga S fun a S => ?_
 refine gnt ?_
 refine g_seq ?_
 refine gsr ?_
 refine gm S fun a S => ?_
 refine gy rfl rfl rfl S (y_eqp rfl Try.underlying31 S rfl rfl) fun a S => ?_
 refine gnt ?_
 refine c_if S rfl (fun h1 => ?_) (fun h1 => ?_)
 ·have h1p := h1; try simp only [DL] at h1p
  all_goals (
    exact absurd h1 (by simp))
 ·have h1p := h1; try simp only [DL] at h1p
  refine g_skip ?_
  refine n_then ?_
  refine g_seq ?_
  refine gsr ?_
  refine gm S fun a S => ?_
  refine gy rfl rfl rfl S (y_nilCheck rfl S rfl) fun a S => ?_
  refine gy rfl rfl rfl S (y_faddrb rfl Ffo78_3 S rfl) fun a S => ?_
  refine gy rfl rfl rfl S (y_load rfl Fsca4 S H rfl rfl) fun a S => ?_
  refine gnt ?_
  have S := (((S.nil.cons S 1 rfl).cons S 0 rfl).cons S 4 rfl).cons S 12 rfl
  refine c_if S rfl (fun h2 => ?_) (fun h2 => ?_)
  ·have h2p := h2; try simp only [DL] at h2p
   all_goals (
     exact absurd h2 (by simp))
  ·have h2p := h2; try simp only [DL] at h2p
   refine g_skip ?_
   refine n_then ?_
   refine g_seq ?_
   refine gsr ?_
   refine ga S fun a S => ?_
   refine gnt ?_
   refine g_block ?_
   have SU := (S.nil.cons S 1 rfl).cons S 0 rfl
   refine loopW (X := Nat) SU (fun k => [(5, .int .i64 (k : Int))]) (fun k w => k ≤ ts.length ∧ (∀ q (hq : q < ts.length), q < k → dropP serial ts[q] = false) ∧ HSat M u0 (Cel b 78 [v1, v2, vt, .bool false] :: OSl 66 vt 11 Ow.enc ts :: Sl v1 9 Pl.enc old :: Sl v2 9 Pl.enc next :: l) w) (fun k => ts.length - k) 0 (S.nil.cons S 5 rfl) (⟨by omega, fun q hq h => by omega, H⟩) (fun k a w S hW => ?_)
   simp only [List.cons_append, List.nil_append] at S
   clear H
   obtain ⟨hk, hno, H⟩ := hW
   refine g_seq ?_
   refine gsr ?_
   refine gm S fun a S => ?_
   refine gm S fun a S => ?_
   refine gy rfl rfl rfl S (y_nilCheck rfl S rfl) fun a S => ?_
   refine gy rfl rfl rfl S (y_faddrb rfl Ffo78_2 S rfl) fun a S => ?_
   refine gy rfl rfl rfl S (y_load rfl Fsca23 S H rfl rfl) fun a S => ?_
   refine gy rfl rfl rfl S (y_lens rfl Try.underlying23 S H rfl) fun a S => ?_
   refine gy rfl rfl rfl S (y_bin rfl S rfl rfl rfl) fun a S => ?_
   refine gnt ?_
   have S := (((S.nil.cons S 1 rfl).cons S 0 rfl).cons S 5 rfl).cons S 19 rfl
   refine c_if S rfl (fun h3 => ?_) (fun h3 => ?_)
   ·have h3p := h3; try simp only [DL] at h3p
    have hkl : k < ts.length := by omega
    refine g_skip ?_
    refine n_then ?_
    refine g_seq ?_
    refine g_block ?_
    refine gsr ?_
    refine gm S fun a S => ?_
    refine gy rfl rfl rfl S (y_nilCheck rfl S rfl) fun a S => ?_
    refine gy rfl rfl rfl S (y_faddrb rfl Ffo78_2 S rfl) fun a S => ?_
    refine gy rfl rfl rfl S (y_load rfl Fsca23 S H rfl rfl) fun a S => ?_
    refine gm S fun a S => ?_
    refine gy rfl rfl rfl S (y_iaddrn rfl Try.underlying23 Fsiz66 S H rfl rfl (by first | assumption | omega | (simp only [LL]; omega))) fun a S => ?_
    refine gy rfl rfl rfl S (y_loadsa _ rfl S H rfl (by exact Fagg66) (by first | assumption | omega | (simp only [LL]; omega))) fun a S => ?_
    refine wl_of (op_alloc (wn rfl) rfl rfl rfl S H Fzer66 fun b6 a w S H => ?_)
    refine wl_of (op_storea (wn rfl) rfl rfl S H rfl rfl (Ow.all (hok _ (List.getElem_mem hkl))) Fsiz66 rfl (cs' := [_, _, _, _, _, _, _, _, _, _, _]) rfl fun a w S H => ?_)
    refine gnt ?_
    have S := (((S.nil.cons S 1 rfl).cons S 0 rfl).cons S 5 rfl).cons S 6 rfl
    refine gsr ?_
    refine gy rfl rfl rfl S (y_faddrb rfl Ffo66_0 S rfl) fun a S => ?_
    refine gy rfl rfl rfl S (y_faddrb rfl Ffo60_0 S rfl) fun a S => ?_
    refine gy rfl rfl rfl S (y_load rfl Fsca3 S H rfl rfl) fun a S => ?_
    refine gm S fun a S => ?_
    refine gy rfl rfl rfl S (y_bin rfl S rfl rfl rfl) fun a S => ?_
    refine gm S fun a S => ?_
    refine' wl_and 3 34 rfl S H rfl rfl rfl rfl rfl rfl rfl (fun _ S => (wn rfl)) (fun h4 kk => ?yh4) (fun a w S H => ?_)
    case yh4 =>
     have h4p := h4; try simp only [DL] at h4p
     refine gz 34 h4 S rfl rfl rfl rfl rfl rfl (y_faddrb rfl Ffo66_4 S rfl) fun a S => ?_
     refine gz 34 h4 S rfl rfl rfl rfl rfl rfl (y_load rfl Fsca3 S H rfl rfl) fun a S => ?_
     refine gz 34 h4 S rfl rfl rfl rfl rfl rfl (y_bin rfl S rfl rfl rfl) fun a S => ?_
     refine gy rfl rfl rfl S (y_and' rfl h4 S rfl rfl) fun a S => ?_
     exact kk _ _ (S.join 4 38 rfl rfl) H
    refine gm S fun a S => ?_
    refine' wl_and 4 39 rfl S H rfl rfl rfl rfl rfl rfl rfl (fun _ S => (wn rfl)) (fun h5 kk => ?yh5) (fun a w S H => ?_)
    case yh5 =>
     have h5p := h5; try simp only [DL] at h5p
     refine gz 39 h5 S rfl rfl rfl rfl rfl rfl (y_faddrb rfl Ffo66_0 S rfl) fun a S => ?_
     refine gz 39 h5 S rfl rfl rfl rfl rfl rfl (y_faddrb rfl Ffo60_2 S rfl) fun a S => ?_
     refine gz 39 h5 S rfl rfl rfl rfl rfl rfl (y_load rfl Fsca3 S H rfl rfl) fun a S => ?_
     refine gz 39 h5 S rfl rfl rfl rfl rfl rfl (y_bin rfl S rfl rfl rfl) fun a S => ?_
     refine gy rfl rfl rfl S (y_and' rfl h5 S rfl rfl) fun a S => ?_
     exact kk _ _ (S.join 5 44 rfl rfl) H
    refine gnt ?_
    have S := (((S.nil.cons S 1 rfl).cons S 0 rfl).cons S 5 rfl).cons S 44 rfl
    refine c_if S rfl (fun h6 => ?_) (fun h6 => ?_)
    ·have h6p := h6; try simp only [DL] at h6p
     have hpk : dropP serial ts[k] = true := by have := h6p; unfold dropP movedB; simp only [Bool.and_eq_true, decide_eq_true_eq]; omega
     obtain ⟨hd1, hd2⟩ := dropT_at hkl hpk hno
     have herx := List.eraseIdx_eq_take_drop_succ ts k
     refine g_seq ?_
     refine cut (fun a w => ∃ vt2, St 64 [] a ∧ HSat M u0 (Cel b 78 [v1, v2, vt2, .bool false] :: OSl 66 vt2 11 Ow.enc (dropT ts serial) :: Sl v1 9 Pl.enc old :: Sl v2 9 Pl.enc next :: l) w) ?_ ?_
     ·skip
      refine t_st (tails := [8, 16, 19]) [] Fmo H ?_
      refine t_p 0 rfl (by kernel_rfl) (rem' := [1, 2, 3, 4, 5, 6, 7, 8, 9, 10, 11, 12, 13, 14, 15, 16, 17, 18, 19]) rfl rfl rfl rfl S (fun w => y_move rfl S rfl) fun a S => ?_
      refine t_q 2 rfl (by kernel_rfl) (rem' := [1, 3, 4, 5, 6, 7, 8, 9, 10, 11, 12, 13, 14, 15, 16, 17, 18, 19]) rfl rfl rfl rfl S (fun w H => y_move rfl S rfl) fun a S => ?_
      refine t_q 3 rfl (by kernel_rfl) (rem' := [1, 4, 5, 6, 7, 8, 9, 10, 11, 12, 13, 14, 15, 16, 17, 18, 19]) rfl rfl rfl rfl S (fun w H => y_nilCheck rfl S rfl) fun a S => ?_
      refine t_q 4 rfl (by kernel_rfl) (rem' := [1, 5, 6, 7, 8, 9, 10, 11, 12, 13, 14, 15, 16, 17, 18, 19]) rfl rfl rfl rfl S (fun w H => y_faddrb rfl Ffo78_2 S rfl) fun a S => ?_
      refine t_q 5 rfl (by kernel_rfl) (rem' := [1, 6, 7, 8, 9, 10, 11, 12, 13, 14, 15, 16, 17, 18, 19]) rfl rfl rfl rfl S (fun w H => y_load rfl Fsca23 S H rfl rfl) fun a S => ?_
      refine t_q 6 rfl (by kernel_rfl) (rem' := [1, 7, 8, 9, 10, 11, 12, 13, 14, 15, 16, 17, 18, 19]) rfl rfl rfl rfl S (fun w H => y_move rfl S rfl) fun a S => ?_
      refine t_q 7 rfl (by kernel_rfl) (rem' := [1, 8, 9, 10, 11, 12, 13, 14, 15, 16, 17, 18, 19]) rfl rfl rfl rfl S (fun w H => y_sliceH rfl Try.underlying23 Fsiz66 S H rfl rfl (by first | assumption | omega | (simp only [LL]; omega))) fun a S => ?_
      refine t_p 9 rfl (by kernel_rfl) (rem' := [1, 8, 10, 11, 12, 13, 14, 15, 16, 17, 18, 19]) rfl rfl rfl rfl S (fun w => y_move rfl S rfl) fun a S => ?_
      refine t_p 10 rfl (by kernel_rfl) (rem' := [1, 8, 11, 12, 13, 14, 15, 16, 17, 18, 19]) rfl rfl rfl rfl S (fun w => y_nilCheck rfl S rfl) fun a S => ?_
      refine t_p 11 rfl (by kernel_rfl) (rem' := [1, 8, 12, 13, 14, 15, 16, 17, 18, 19]) rfl rfl rfl rfl S (fun w => y_faddrb rfl Ffo78_2 S rfl) fun a S => ?_
      refine t_p 13 rfl (by kernel_rfl) (rem' := [1, 8, 12, 14, 15, 16, 17, 18, 19]) rfl rfl rfl rfl S (fun w => y_move rfl S rfl) fun a S => ?_
      refine t_p 14 rfl (by kernel_rfl) (rem' := [1, 8, 12, 15, 16, 17, 18, 19]) rfl rfl rfl rfl S (fun w => y_add rfl S rfl rfl (by omega)) fun a S => ?_
      refine t_b [1, 12] (by kernel_rfl) rfl (fa2 ?_ ?_)
      ·refine ⟨_, rfl, fun w H => ?_⟩
       refine op_buildSlice (wn rfl) rfl rfl rfl Try.underlying23 Finf66 S H (idx := []) rfl rfl rfl (z := []) (by kernel_rfl) (cs := []) rfl fun b46 a w S H => ?_
       have H := H.celO [] Ow.enc 11 (m := 0) rfl (by simp) rfl (by omega)
       refine t_n H (rem' := [8, 12, 15, 16, 17, 18, 19]) rfl ?_
       refine t_b [8, 12] (by kernel_rfl) rfl (fa2 ?_ ?_)
       ·refine ⟨_, rfl, fun w H => ?_⟩
        refine op_appendT (wn rfl) rfl rfl rfl Try.underlying23 Finf66 rfl rfl S H rfl rfl (by exact fun y hy u hu => List.all_eq_true.1 (Ow.all (hok y (List.mem_of_mem_take (List.mem_of_mem_drop hy)))) u hu) (by simp only [List.length_drop, List.length_take, List.length_nil]; omega) (by simp only [List.length_drop, List.length_take, List.length_nil]; omega) fun u53 a w S H => ?_
        refine t_tail H rfl (rem' := [12, 15, 16, 17, 18, 19]) rfl ?_
        refine t_q 12 rfl (by kernel_rfl) (rem' := [15, 16, 17, 18, 19]) rfl rfl rfl rfl S (fun w H => y_load rfl Fsca23 S H rfl rfl) fun a S => ?_
        refine t_q 15 rfl (by kernel_rfl) (rem' := [16, 17, 18, 19]) rfl rfl rfl rfl S (fun w H => y_sliceL rfl Try.underlying23 Fsiz66 S H rfl rfl (by first | assumption | omega | (simp only [LL]; omega))) fun a S => ?_
        refine t_b1 16 (by kernel_rfl) rfl fun w H => ?_
        refine op_appendT (wn rfl) rfl rfl rfl Try.underlying23 Finf66 rfl rfl S H rfl rfl (by exact fun y hy u hu => List.all_eq_true.1 (Ow.all (hok y (List.mem_of_mem_take (List.mem_of_mem_drop hy)))) u hu) (by simp only [List.length_append, List.length_drop, List.length_take, List.length_nil]; omega) (by simp only [List.length_append, List.length_drop, List.length_take, List.length_nil]; omega) fun u61 a w S H => ?_
        refine t_tail H rfl (rem' := [17, 18, 19]) rfl ?_
        refine t_q 17 rfl (by kernel_rfl) (rem' := [18, 19]) rfl rfl rfl rfl S (fun w H => y_nilCheck rfl S rfl) fun a S => ?_
        refine t_q 18 rfl (by kernel_rfl) (rem' := [19]) rfl rfl rfl rfl S (fun w H => y_faddrb rfl Ffo78_2 S rfl) fun a S => ?_
        refine t_b1 19 (by kernel_rfl) rfl fun w H => ?_
        refine op_store (wn rfl) rfl rfl S H rfl rfl (H.sl1 _) Fsiz23 rfl fun a w S H => ?_
        dsimp only [List.set, Nat.zero_add, Nat.reduceAdd] at H
        refine t_tail H rfl (rem' := []) rfl ?_
        refine t_nil (fun w H => ?_)
        rw [show ([] ++ (ts.take k).drop 0) ++ (ts.take ts.length).drop (k + 1) = ts.take k ++ ts.drop (k + 1) by simp] at H
        exact ⟨u61, S.nil, by rw [hd1, herx]; exact H.takeT [Cel b 78 [v1, v2, u61, .bool false], OSl 66 u61 11 Ow.enc (ts.take k ++ ts.drop (k + 1)), Sl v1 9 Pl.enc old, Sl v2 9 Pl.enc next] l⟩
       ·refine ⟨_, rfl, fun w H => ?_⟩
        refine op_y (wn rfl) rfl rfl S (y_load rfl Fsca23 S H rfl rfl) fun a S => ?_
        refine t_n H (rem' := [8, 15, 16, 17, 18, 19]) rfl ?_
        refine t_b [8, 15] (by kernel_rfl) rfl (fa2 ?_ ?_)
        ·refine ⟨_, rfl, fun w H => ?_⟩
         refine op_appendT (wn rfl) rfl rfl rfl Try.underlying23 Finf66 rfl rfl S H rfl rfl (by exact fun y hy u hu => List.all_eq_true.1 (Ow.all (hok y (List.mem_of_mem_take (List.mem_of_mem_drop hy)))) u hu) (by simp only [List.length_drop, List.length_take, List.length_nil]; omega) (by simp only [List.length_drop, List.length_take, List.length_nil]; omega) fun u53 a w S H => ?_
         refine t_tail H rfl (rem' := [15, 16, 17, 18, 19]) rfl ?_
         refine t_q 15 rfl (by kernel_rfl) (rem' := [16, 17, 18, 19]) rfl rfl rfl rfl S (fun w H => y_sliceL rfl Try.underlying23 Fsiz66 S H rfl rfl (by first | assumption | omega | (simp only [LL]; omega))) fun a S => ?_
         refine t_b1 16 (by kernel_rfl) rfl fun w H => ?_
         refine op_appendT (wn rfl) rfl rfl rfl Try.underlying23 Finf66 rfl rfl S H rfl rfl (by exact fun y hy u hu => List.all_eq_true.1 (Ow.all (hok y (List.mem_of_mem_take (List.mem_of_mem_drop hy)))) u hu) (by simp only [List.length_append, List.length_drop, List.length_take, List.length_nil]; omega) (by simp only [List.length_append, List.length_drop, List.length_take, List.length_nil]; omega) fun u61 a w S H => ?_
         refine t_tail H rfl (rem' := [17, 18, 19]) rfl ?_
         refine t_q 17 rfl (by kernel_rfl) (rem' := [18, 19]) rfl rfl rfl rfl S (fun w H => y_nilCheck rfl S rfl) fun a S => ?_
         refine t_q 18 rfl (by kernel_rfl) (rem' := [19]) rfl rfl rfl rfl S (fun w H => y_faddrb rfl Ffo78_2 S rfl) fun a S => ?_
         refine t_b1 19 (by kernel_rfl) rfl fun w H => ?_
         refine op_store (wn rfl) rfl rfl S H rfl rfl (H.sl1 _) Fsiz23 rfl fun a w S H => ?_
         dsimp only [List.set, Nat.zero_add, Nat.reduceAdd] at H
         refine t_tail H rfl (rem' := []) rfl ?_
         refine t_nil (fun w H => ?_)
         rw [show ([] ++ (ts.take k).drop 0) ++ (ts.take ts.length).drop (k + 1) = ts.take k ++ ts.drop (k + 1) by simp] at H
         exact ⟨u61, S.nil, by rw [hd1, herx]; exact H.takeT [Cel b 78 [v1, v2, u61, .bool false], OSl 66 u61 11 Ow.enc (ts.take k ++ ts.drop (k + 1)), Sl v1 9 Pl.enc old, Sl v2 9 Pl.enc next] l⟩
        ·refine ⟨_, rfl, fun w H => ?_⟩
         refine op_y (wn rfl) rfl rfl S (y_sliceL rfl Try.underlying23 Fsiz66 S H rfl rfl (by first | assumption | omega | (simp only [LL]; omega))) fun a S => ?_
         refine t_n H (rem' := [8, 16, 17, 18, 19]) rfl ?_
         refine t_b1 8 (by kernel_rfl) rfl fun w H => ?_
         refine op_appendT (wn rfl) rfl rfl rfl Try.underlying23 Finf66 rfl rfl S H rfl rfl (by exact fun y hy u hu => List.all_eq_true.1 (Ow.all (hok y (List.mem_of_mem_take (List.mem_of_mem_drop hy)))) u hu) (by simp only [List.length_drop, List.length_take, List.length_nil]; omega) (by simp only [List.length_drop, List.length_take, List.length_nil]; omega) fun u53 a w S H => ?_
         refine t_tail H rfl (rem' := [16, 17, 18, 19]) rfl ?_
         refine t_b1 16 (by kernel_rfl) rfl fun w H => ?_
         refine op_appendT (wn rfl) rfl rfl rfl Try.underlying23 Finf66 rfl rfl S H rfl rfl (by exact fun y hy u hu => List.all_eq_true.1 (Ow.all (hok y (List.mem_of_mem_take (List.mem_of_mem_drop hy)))) u hu) (by simp only [List.length_append, List.length_drop, List.length_take, List.length_nil]; omega) (by simp only [List.length_append, List.length_drop, List.length_take, List.length_nil]; omega) fun u61 a w S H => ?_
         refine t_tail H rfl (rem' := [17, 18, 19]) rfl ?_
         refine t_q 17 rfl (by kernel_rfl) (rem' := [18, 19]) rfl rfl rfl rfl S (fun w H => y_nilCheck rfl S rfl) fun a S => ?_
         refine t_q 18 rfl (by kernel_rfl) (rem' := [19]) rfl rfl rfl rfl S (fun w H => y_faddrb rfl Ffo78_2 S rfl) fun a S => ?_
         refine t_b1 19 (by kernel_rfl) rfl fun w H => ?_
         refine op_store (wn rfl) rfl rfl S H rfl rfl (H.sl1 _) Fsiz23 rfl fun a w S H => ?_
         dsimp only [List.set, Nat.zero_add, Nat.reduceAdd] at H
         refine t_tail H rfl (rem' := []) rfl ?_
         refine t_nil (fun w H => ?_)
         rw [show ([] ++ (ts.take k).drop 0) ++ (ts.take ts.length).drop (k + 1) = ts.take k ++ ts.drop (k + 1) by simp] at H
         exact ⟨u61, S.nil, by rw [hd1, herx]; exact H.takeT [Cel b 78 [v1, v2, u61, .bool false], OSl 66 u61 11 Ow.enc (ts.take k ++ ts.drop (k + 1)), Sl v1 9 Pl.enc old, Sl v2 9 Pl.enc next] l⟩
      ·refine ⟨_, rfl, fun w H => ?_⟩
       refine op_y (wn rfl) rfl rfl S (y_load rfl Fsca23 S H rfl rfl) fun a S => ?_
       refine t_n H (rem' := [1, 8, 15, 16, 17, 18, 19]) rfl ?_
       refine t_b [1, 15] (by kernel_rfl) rfl (fa2 ?_ ?_)
       ·refine ⟨_, rfl, fun w H => ?_⟩
        refine op_buildSlice (wn rfl) rfl rfl rfl Try.underlying23 Finf66 S H (idx := []) rfl rfl rfl (z := []) (by kernel_rfl) (cs := []) rfl fun b46 a w S H => ?_
        have H := H.celO [] Ow.enc 11 (m := 0) rfl (by simp) rfl (by omega)
        refine t_n H (rem' := [8, 15, 16, 17, 18, 19]) rfl ?_
        refine t_b [8, 15] (by kernel_rfl) rfl (fa2 ?_ ?_)
        ·refine ⟨_, rfl, fun w H => ?_⟩
         refine op_appendT (wn rfl) rfl rfl rfl Try.underlying23 Finf66 rfl rfl S H rfl rfl (by exact fun y hy u hu => List.all_eq_true.1 (Ow.all (hok y (List.mem_of_mem_take (List.mem_of_mem_drop hy)))) u hu) (by simp only [List.length_drop, List.length_take, List.length_nil]; omega) (by simp only [List.length_drop, List.length_take, List.length_nil]; omega) fun u53 a w S H => ?_
         refine t_tail H rfl (rem' := [15, 16, 17, 18, 19]) rfl ?_
         refine t_q 15 rfl (by kernel_rfl) (rem' := [16, 17, 18, 19]) rfl rfl rfl rfl S (fun w H => y_sliceL rfl Try.underlying23 Fsiz66 S H rfl rfl (by first | assumption | omega | (simp only [LL]; omega))) fun a S => ?_
         refine t_b1 16 (by kernel_rfl) rfl fun w H => ?_
         refine op_appendT (wn rfl) rfl rfl rfl Try.underlying23 Finf66 rfl rfl S H rfl rfl (by exact fun y hy u hu => List.all_eq_true.1 (Ow.all (hok y (List.mem_of_mem_take (List.mem_of_mem_drop hy)))) u hu) (by simp only [List.length_append, List.length_drop, List.length_take, List.length_nil]; omega) (by simp only [List.length_append, List.length_drop, List.length_take, List.length_nil]; omega) fun u61 a w S H => ?_
         refine t_tail H rfl (rem' := [17, 18, 19]) rfl ?_
         refine t_q 17 rfl (by kernel_rfl) (rem' := [18, 19]) rfl rfl rfl rfl S (fun w H => y_nilCheck rfl S rfl) fun a S => ?_
         refine t_q 18 rfl (by kernel_rfl) (rem' := [19]) rfl rfl rfl rfl S (fun w H => y_faddrb rfl Ffo78_2 S rfl) fun a S => ?_
         refine t_b1 19 (by kernel_rfl) rfl fun w H => ?_
         refine op_store (wn rfl) rfl rfl S H rfl rfl (H.sl1 _) Fsiz23 rfl fun a w S H => ?_
         dsimp only [List.set, Nat.zero_add, Nat.reduceAdd] at H
         refine t_tail H rfl (rem' := []) rfl ?_
         refine t_nil (fun w H => ?_)
         rw [show ([] ++ (ts.take k).drop 0) ++ (ts.take ts.length).drop (k + 1) = ts.take k ++ ts.drop (k + 1) by simp] at H
         exact ⟨u61, S.nil, by rw [hd1, herx]; exact H.takeT [Cel b 78 [v1, v2, u61, .bool false], OSl 66 u61 11 Ow.enc (ts.take k ++ ts.drop (k + 1)), Sl v1 9 Pl.enc old, Sl v2 9 Pl.enc next] l⟩
        ·refine ⟨_, rfl, fun w H => ?_⟩
         refine op_y (wn rfl) rfl rfl S (y_sliceL rfl Try.underlying23 Fsiz66 S H rfl rfl (by first | assumption | omega | (simp only [LL]; omega))) fun a S => ?_
         refine t_n H (rem' := [8, 16, 17, 18, 19]) rfl ?_
         refine t_b1 8 (by kernel_rfl) rfl fun w H => ?_
         refine op_appendT (wn rfl) rfl rfl rfl Try.underlying23 Finf66 rfl rfl S H rfl rfl (by exact fun y hy u hu => List.all_eq_true.1 (Ow.all (hok y (List.mem_of_mem_take (List.mem_of_mem_drop hy)))) u hu) (by simp only [List.length_drop, List.length_take, List.length_nil]; omega) (by simp only [List.length_drop, List.length_take, List.length_nil]; omega) fun u53 a w S H => ?_
         refine t_tail H rfl (rem' := [16, 17, 18, 19]) rfl ?_
         refine t_b1 16 (by kernel_rfl) rfl fun w H => ?_
         refine op_appendT (wn rfl) rfl rfl rfl Try.underlying23 Finf66 rfl rfl S H rfl rfl (by exact fun y hy u hu => List.all_eq_true.1 (Ow.all (hok y (List.mem_of_mem_take (List.mem_of_mem_drop hy)))) u hu) (by simp only [List.length_append, List.length_drop, List.length_take, List.length_nil]; omega) (by simp only [List.length_append, List.length_drop, List.length_take, List.length_nil]; omega) fun u61 a w S H => ?_
         refine t_tail H rfl (rem' := [17, 18, 19]) rfl ?_
         refine t_q 17 rfl (by kernel_rfl) (rem' := [18, 19]) rfl rfl rfl rfl S (fun w H => y_nilCheck rfl S rfl) fun a S => ?_
         refine t_q 18 rfl (by kernel_rfl) (rem' := [19]) rfl rfl rfl rfl S (fun w H => y_faddrb rfl Ffo78_2 S rfl) fun a S => ?_
         refine t_b1 19 (by kernel_rfl) rfl fun w H => ?_
         refine op_store (wn rfl) rfl rfl S H rfl rfl (H.sl1 _) Fsiz23 rfl fun a w S H => ?_
         dsimp only [List.set, Nat.zero_add, Nat.reduceAdd] at H
         refine t_tail H rfl (rem' := []) rfl ?_
         refine t_nil (fun w H => ?_)
         rw [show ([] ++ (ts.take k).drop 0) ++ (ts.take ts.length).drop (k + 1) = ts.take k ++ ts.drop (k + 1) by simp] at H
         exact ⟨u61, S.nil, by rw [hd1, herx]; exact H.takeT [Cel b 78 [v1, v2, u61, .bool false], OSl 66 u61 11 Ow.enc (ts.take k ++ ts.drop (k + 1)), Sl v1 9 Pl.enc old, Sl v2 9 Pl.enc next] l⟩
       ·refine ⟨_, rfl, fun w H => ?_⟩
        refine op_y (wn rfl) rfl rfl S (y_sliceL rfl Try.underlying23 Fsiz66 S H rfl rfl (by first | assumption | omega | (simp only [LL]; omega))) fun a S => ?_
        refine t_n H (rem' := [1, 8, 16, 17, 18, 19]) rfl ?_
        refine t_b1 1 (by kernel_rfl) rfl fun w H => ?_
        refine op_buildSlice (wn rfl) rfl rfl rfl Try.underlying23 Finf66 S H (idx := []) rfl rfl rfl (z := []) (by kernel_rfl) (cs := []) rfl fun b46 a w S H => ?_
        have H := H.celO [] Ow.enc 11 (m := 0) rfl (by simp) rfl (by omega)
        refine t_n H (rem' := [8, 16, 17, 18, 19]) rfl ?_
        refine t_b1 8 (by kernel_rfl) rfl fun w H => ?_
        refine op_appendT (wn rfl) rfl rfl rfl Try.underlying23 Finf66 rfl rfl S H rfl rfl (by exact fun y hy u hu => List.all_eq_true.1 (Ow.all (hok y (List.mem_of_mem_take (List.mem_of_mem_drop hy)))) u hu) (by simp only [List.length_drop, List.length_take, List.length_nil]; omega) (by simp only [List.length_drop, List.length_take, List.length_nil]; omega) fun u53 a w S H => ?_
        refine t_tail H rfl (rem' := [16, 17, 18, 19]) rfl ?_
        refine t_b1 16 (by kernel_rfl) rfl fun w H => ?_
        refine op_appendT (wn rfl) rfl rfl rfl Try.underlying23 Finf66 rfl rfl S H rfl rfl (by exact fun y hy u hu => List.all_eq_true.1 (Ow.all (hok y (List.mem_of_mem_take (List.mem_of_mem_drop hy)))) u hu) (by simp only [List.length_append, List.length_drop, List.length_take, List.length_nil]; omega) (by simp only [List.length_append, List.length_drop, List.length_take, List.length_nil]; omega) fun u61 a w S H => ?_
        refine t_tail H rfl (rem' := [17, 18, 19]) rfl ?_
        refine t_q 17 rfl (by kernel_rfl) (rem' := [18, 19]) rfl rfl rfl rfl S (fun w H => y_nilCheck rfl S rfl) fun a S => ?_
        refine t_q 18 rfl (by kernel_rfl) (rem' := [19]) rfl rfl rfl rfl S (fun w H => y_faddrb rfl Ffo78_2 S rfl) fun a S => ?_
        refine t_b1 19 (by kernel_rfl) rfl fun w H => ?_
        refine op_store (wn rfl) rfl rfl S H rfl rfl (H.sl1 _) Fsiz23 rfl fun a w S H => ?_
        dsimp only [List.set, Nat.zero_add, Nat.reduceAdd] at H
        refine t_tail H rfl (rem' := []) rfl ?_
        refine t_nil (fun w H => ?_)
        rw [show ([] ++ (ts.take k).drop 0) ++ (ts.take ts.length).drop (k + 1) = ts.take k ++ ts.drop (k + 1) by simp] at H
        exact ⟨u61, S.nil, by rw [hd1, herx]; exact H.takeT [Cel b 78 [v1, v2, u61, .bool false], OSl 66 u61 11 Ow.enc (ts.take k ++ ts.drop (k + 1)), Sl v1 9 Pl.enc old, Sl v2 9 Pl.enc next] l⟩
     rintro a w ⟨vt2, S, H⟩
     refine gsr ?_
     refine ga S fun a S => ?_
     refine gnt ?_
     refine g_ret ?_
     refine r_block (r_then (r_then (r_block (r_then (ret1 rfl S rfl ?_)))))
     rw [hd2]; exact ⟨rfl, vt2, HSat.fold (ls := RTwL b v1 v2 vt2 (dropT ts serial)) (H.takeT [Cel b 78 [v1, v2, vt2, .bool false], OSl 66 vt2 11 Ow.enc (dropT ts serial), Sl v1 9 Pl.enc old, Sl v2 9 Pl.enc next] l) (by simp [RTwL, OSl, Blk])⟩
    ·have h6p := h6; try simp only [DL] at h6p
     have hpk : dropP serial ts[k] = false := by have := h6p; unfold dropP movedB; simp only [Bool.and_eq_false_iff, decide_eq_false_iff_not]; omega
     refine g_skip ?_
     refine n_block ?_
     refine n_then ?_
     refine g_region ?_
     refine gm S fun a S => ?_
     refine gy rfl rfl rfl S (y_add rfl S rfl rfl (by omega)) fun a S => ?_
     refine ga S fun a S => ?_
     refine gnt ?_
     exact ⟨k + 1, S.nil.cons S 5 rfl, (S.nil.cons S 1 rfl).cons S 0 rfl, ⟨by omega, fun q hq h => by by_cases e : q < k; exact hno q hq e; (obtain rfl : q = k := by omega); exact hpk, H.takeT [Cel b 78 [v1, v2, vt, .bool false], OSl 66 vt 11 Ow.enc ts, Sl v1 9 Pl.enc old, Sl v2 9 Pl.enc next] l⟩, by omega⟩
   ·have h3p := h3; try simp only [DL] at h3p
    obtain rfl : k = ts.length := by omega
    obtain ⟨hd1, hd2⟩ := dropT_no (serial := serial) (ts := ts) (fun x hx => by obtain ⟨q, hq, rfl⟩ := List.getElem_of_mem hx; exact hno q hq hq)
    refine g_exit ?_
    refine x_then (x_then (x_eq ?_))
    refine n_then ?_
    have S := S.nil
    refine gsr ?_
    refine ga S fun a S => ?_
    refine gnt ?_
    refine g_ret ?_
    refine ret1 rfl S rfl ?_
    rw [hd1, hd2]; exact ⟨rfl, vt, HSat.fold (ls := RTwL b v1 v2 vt (ts)) (H.takeT [Cel b 78 [v1, v2, vt, .bool false], OSl 66 vt 11 Ow.enc (ts), Sl v1 9 Pl.enc old, Sl v2 9 Pl.enc next] l) (by simp [RTwL, OSl, Blk])⟩
set_option maxHeartbeats 1000000 in
/-- foyer/foyerref42.Loss -/
theorem loss_spec (v1 v2 : Value) (old next : List Pl) (v3 : Value) (ts : List Ow) (w0 : World) (hv1 : IsSl w0 v1 9 Pl.enc old) (hv2 : IsSl w0 v2 9 Pl.enc next) (hv3 : IsSl w0 v3 11 Ow.enc ts) (hok : ∀ o ∈ ts, o.ok) (hl : ts.length ≤ 100000) :
    Ret Try.prog 42 #[v1, v2, v3] w0 (fun u w => u = .int .i64 (lossS old next ts : Int) ∧ Ext w0 w) := by
 refine ret_of_wp (nt := 35) Try.func42 rfl rfl rfl (fl := [(0, v1), (1, v2), (2, v3)]) rfl (fun a S => ?_)
 have H := HSat.start w0
 have H := H.ro0 (Sl v1 9 Pl.enc old) rfl (hv1)
 have H := H.ro0 (Sl v2 9 Pl.enc next) rfl (hv2)
 have H := H.ro0 (Sl v3 11 Ow.enc ts) rfl (hv3)
 refine gsr ?_
 refine ga S fun a S => ?_
 refine gnt ?_
 refine gsr ?_
 refine gm S fun a S => ?_
 refine gm S fun a S => ?_
 refine gm S fun a S => ?_
 refine wl_of (op_call (wn rfl) rfl rfl S (co_func rfl Try.call30 S rfl) (rplan_any v1 v2 old next v3 ts _ (H.sl v1) (H.sl v2) (H.sl v3) hok hl) fun u15 w hc a S => ?_)
 obtain ⟨mv, vl, vr, ms, rfl, hms, H1⟩ := hc
 have H := H.call4 H1 rfl rfl rfl rfl
 have hlm := (H.sl mv).len
 refine gm S fun a S => ?_
 refine gy rfl rfl rfl S (y_extract rfl S rfl rfl) fun a S => ?_
 refine gy rfl rfl rfl S (y_extract rfl S rfl rfl) fun a S => ?_
 refine wl_of (op_alloc (wn rfl) rfl rfl rfl S H Fzer43 fun b7 a w S H => ?_)
 refine wl_of (op_storea (wn rfl) rfl rfl S H rfl rfl (by rw [List.all_cons, List.all_cons, List.all_cons, H.sl1 mv, H.sl1 vl, H.sl1 vr]; rfl) Fsiz43 rfl (cs' := [_, _, _]) rfl fun a w S H => ?_)
 refine ga S fun a S => ?_
 refine gnt ?_
 have S := (S.nil.cons S 6 rfl).cons S 7 rfl
 refine gsr ?_
 refine ga S fun a S => ?_
 refine gnt ?_
 refine g_seq ?_
 refine gsr ?_
 refine ga S fun a S => ?_
 refine gnt ?_
 refine g_block ?_
 have SU := (S.nil.cons S 6 rfl).cons S 7 rfl
 refine loop_k (X := Nat) SU (fun k => [(9, .int .i64 (lostN ((tosS (ms.map Mv.say)).take k) : Int)), (10, .int .i64 (k : Int))]) (fun k => k ≤ ms.length) (fun k => ms.length - k) 0 ((S.nil.cons S 10 rfl).cons S 9 rfl) H (by omega) (fun k a w S H hi => ?_)
 simp only [List.cons_append, List.nil_append] at S hi
 refine g_seq ?_
 refine gsr ?_
 refine gm S fun a S => ?_
 refine gy rfl rfl rfl S (y_faddrb rfl Ffo43_0 S rfl) fun a S => ?_
 refine gy rfl rfl rfl S (y_load rfl Fsca38 S H rfl rfl) fun a S => ?_
 refine gy rfl rfl rfl S (y_lens rfl Try.underlying38 S H rfl) fun a S => ?_
 refine gy rfl rfl rfl S (y_bin rfl S rfl rfl rfl) fun a S => ?_
 refine gnt ?_
 have S := ((((S.nil.cons S 6 rfl).cons S 7 rfl).cons S 10 rfl).cons S 9 rfl).cons S 22 rfl
 refine c_if S rfl (fun h1 => ?_) (fun h1 => ?_)
 ·have h1p := h1; try simp only [DL] at h1p
  have hkl : k < ms.length := by omega
  have hst := lostK hkl
  have hle := lost_le ms k
  refine g_skip ?_
  refine n_then ?_
  refine g_seq ?_
  refine g_block ?_
  refine gsr ?_
  refine gy rfl rfl rfl S (y_faddrb rfl Ffo43_0 S rfl) fun a S => ?_
  refine gy rfl rfl rfl S (y_load rfl Fsca38 S H rfl rfl) fun a S => ?_
  refine gm S fun a S => ?_
  refine gy rfl rfl rfl S (y_iaddrn rfl Try.underlying38 Fsiz91 S H rfl rfl (by first | assumption | omega | (simp only [LL]; omega))) fun a S => ?_
  refine gy rfl rfl rfl S (y_faddr rfl Ffo91_1 S rfl) fun a S => ?_
  refine gy rfl rfl rfl S (y_loadsf _ rfl Fsca3 S H rfl (by first | assumption | omega | (simp only [LL]; omega)) rfl) fun a S => ?_
  refine gy rfl rfl rfl S (y_bin rfl S rfl rfl rfl) fun a S => ?_
  refine gnt ?_
  have S := ((((S.nil.cons S 6 rfl).cons S 7 rfl).cons S 10 rfl).cons S 9 rfl).cons S 31 rfl
  refine c_if S rfl (fun h2 => ?_) (fun h2 => ?_)
  ·have h2p := h2; try simp only [DL] at h2p
   rw [if_pos (by have := h2p; omega)] at hst
   refine g_region ?_
   refine gm S fun a S => ?_
   refine gy rfl rfl rfl S (y_add rfl S rfl rfl (by omega)) fun a S => ?_
   refine ga S fun a S => ?_
   refine gl_nil ?_
   refine n_block ?_
   refine n_then ?_
   have S := (((S.nil.cons S 6 rfl).cons S 7 rfl).cons S 10 rfl).cons S 9 rfl
   refine g_region ?_
   refine gm S fun a S => ?_
   refine gy rfl rfl rfl S (y_add rfl S rfl rfl (by omega)) fun a S => ?_
   refine ga S fun a S => ?_
   refine gnt ?_
   exact ⟨k + 1, (S.nil.cons S 10 rfl).cons S 9 (by rw [hst]; rfl), (S.nil.cons S 6 rfl).cons S 7 rfl, H, by omega, by omega⟩
  ·have h2p := h2; try simp only [DL] at h2p
   rw [if_neg (by have := h2p; omega)] at hst
   refine g_skip ?_
   refine n_block ?_
   refine n_then ?_
   refine g_region ?_
   refine gm S fun a S => ?_
   refine gy rfl rfl rfl S (y_add rfl S rfl rfl (by omega)) fun a S => ?_
   refine ga S fun a S => ?_
   refine gnt ?_
   exact ⟨k + 1, (S.nil.cons S 10 rfl).cons S 9 (by rw [hst]; rfl), (S.nil.cons S 6 rfl).cons S 7 rfl, H, by omega, by omega⟩
 ·have h1p := h1; try simp only [DL] at h1p
  obtain rfl : k = ms.length := by omega
  refine g_exit ?_
  refine x_then (x_then (x_eq ?_))
  refine n_then ?_
  refine gsr ?_
  refine gm S fun a S => ?_
  refine ga S fun a S => ?_
  refine gnt ?_
  have S := S.nil.cons S 6 rfl
  refine g_ret ?_
  refine ret1 rfl S rfl ?_
  exact ⟨by rw [lossS_eq hms, List.take_of_length_le (by rw [tos_len]; omega)], H.toExt⟩
set_option maxHeartbeats 4000000 in
/-- (*foyer/foyerref42.Twin).Sell -/
theorem rsell_ok {M : Nat → Prop} {u0 : World} {l : List Atom} (b : Nat) (v1 v2 vt : Value) (old next : List Pl) (ts : List Ow) (place serial : Int) (n : Nat) (w0 : World) (h0 : HSat M u0 (RTwA b v1 v2 vt ts :: Sl v1 9 Pl.enc old :: Sl v2 9 Pl.enc next :: l) w0) (htw : TwOK old next ts n) (hn : n ≤ 90000) :
    Ret Try.prog 14 #[.pointer (some ⟨b, 0, none⟩), .int .i64 place, .int .i64 serial] w0 (fun u w => u = .int .i64 (sellE old next ts place serial) ∧ ∃ vt2, HSat M u0 (RTwA b v1 v2 vt2 (sellT old next ts place serial) :: Sl v1 9 Pl.enc old :: Sl v2 9 Pl.enc next :: l) w) := by
 refine ret_of_wp (nt := 118) Try.func14 rfl rfl rfl (fl := [(0, .pointer (some ⟨b, 0, none⟩)), (1, .int .i64 place), (2, .int .i64 serial)]) rfl (fun a S => ?_)
 have H := h0.unfold
 simp only [RTwL, List.cons_append, List.nil_append] at H
 have hlt := htw.len
 have hlm := htw.m
 have hok := htw.ok
 have hl1 := (H.sl v1).len
 refine gsr ?_
 refine ga S fun a S => ?_
 refine gnt ?_
 refine g_seq ?_
 refine gsr ?_
 refine gm S fun a S => ?_
 refine gy rfl rfl rfl S (y_eqp rfl Try.underlying31 S rfl rfl) fun a S => ?_
 refine gnt ?_
 refine c_if S rfl (fun h1 => ?_) (fun h1 => ?_)
 ·have h1p := h1; try simp only [DL] at h1p
  all_goals (
    exact absurd h1 (by simp))
 ·have h1p := h1; try simp only [DL] at h1p
  refine g_skip ?_
  refine n_then ?_
  refine g_seq ?_
  refine gsr ?_
  refine gm S fun a S => ?_
  refine gy rfl rfl rfl S (y_nilCheck rfl S rfl) fun a S => ?_
  refine gy rfl rfl rfl S (y_faddrb rfl Ffo78_3 S rfl) fun a S => ?_
  refine gy rfl rfl rfl S (y_load rfl Fsca4 S H rfl rfl) fun a S => ?_
  refine gnt ?_
  have S := ((((S.nil.cons S 2 rfl).cons S 1 rfl).cons S 0 rfl).cons S 6 rfl).cons S 16 rfl
  refine c_if S rfl (fun h2 => ?_) (fun h2 => ?_)
  ·have h2p := h2; try simp only [DL] at h2p
   all_goals (
     exact absurd h2 (by simp))
  ·have h2p := h2; try simp only [DL] at h2p
   refine g_skip ?_
   refine n_then ?_
   refine g_seq ?_
   refine gsr ?_
   refine gm S fun a S => ?_
   refine gy rfl rfl rfl S (y_bin rfl S rfl rfl rfl) fun a S => ?_
   refine gm S fun a S => ?_
   refine' wl_or 7 19 rfl S H rfl rfl rfl rfl rfl rfl rfl (fun _ S => (wn rfl)) (fun h3 kk => ?yh3) (fun a w S H => ?_)
   case yh3 =>
    have h3p := h3; try simp only [DL] at h3p
    refine gz 19 h3 S rfl rfl rfl rfl rfl rfl (y_move rfl S rfl) fun a S => ?_
    refine gz 19 h3 S rfl rfl rfl rfl rfl rfl (y_move rfl S rfl) fun a S => ?_
    refine gz 19 h3 S rfl rfl rfl rfl rfl rfl (y_nilCheck rfl S rfl) fun a S => ?_
    refine gz 19 h3 S rfl rfl rfl rfl rfl rfl (y_faddrb rfl Ffo78_0 S rfl) fun a S => ?_
    refine gz 19 h3 S rfl rfl rfl rfl rfl rfl (y_load rfl Fsca22 S H rfl rfl) fun a S => ?_
    refine gz 19 h3 S rfl rfl rfl rfl rfl rfl (y_lens rfl Try.underlying22 S H rfl) fun a S => ?_
    refine gz 19 h3 S rfl rfl rfl rfl rfl rfl (y_bin rfl S rfl rfl rfl) fun a S => ?_
    refine gy rfl rfl rfl S (y_or' rfl h3 S rfl rfl) fun a S => ?_
    exact kk _ _ (S.join 8 27 rfl rfl) H
   refine gm S fun a S => ?_
   refine' wl_or 2 28 rfl S H rfl rfl rfl rfl rfl rfl rfl (fun _ S => (wn rfl)) (fun h4 kk => ?yh4) (fun a w S H => ?_)
   case yh4 =>
    have h4p := h4; try simp only [DL] at h4p
    refine gz 28 h4 S rfl rfl rfl rfl rfl rfl (y_move rfl S rfl) fun a S => ?_
    refine gz 28 h4 S rfl rfl rfl rfl rfl rfl (y_bin rfl S rfl rfl rfl) fun a S => ?_
    refine gy rfl rfl rfl S (y_or' rfl h4 S rfl rfl) fun a S => ?_
    exact kk _ _ (S.join 3 31 rfl rfl) H
   refine gm S fun a S => ?_
   refine' wl_or 2 32 rfl S H rfl rfl rfl rfl rfl rfl rfl (fun _ S => (wn rfl)) (fun h5 kk => ?yh5) (fun a w S H => ?_)
   case yh5 =>
    have h5p := h5; try simp only [DL] at h5p
    refine gz 32 h5 S rfl rfl rfl rfl rfl rfl (y_move rfl S rfl) fun a S => ?_
    refine gz 32 h5 S rfl rfl rfl rfl rfl rfl (y_bin rfl S rfl rfl rfl) fun a S => ?_
    refine gy rfl rfl rfl S (y_or' rfl h5 S rfl rfl) fun a S => ?_
    exact kk _ _ (S.join 3 35 rfl rfl) H
   refine gnt ?_
   have S := ((((S.nil.cons S 2 rfl).cons S 1 rfl).cons S 0 rfl).cons S 6 rfl).cons S 35 rfl
   refine c_if S rfl (fun h6 => ?_) (fun h6 => ?_)
   ·have h6p := h6; try simp only [DL] at h6p
    have hE := sellE_arg (next := next) (ts := ts) (show argB old.length place serial = true from h6)
    refine gsr ?_
    refine ga S fun a S => ?_
    refine gnt ?_
    refine g_ret ?_
    refine r_then (ret1 rfl S rfl ?_)
    rw [hE, sellT_err (by rw [hE]; decide)]; exact ⟨rfl, vt, HSat.fold (ls := RTwL b v1 v2 vt (ts)) (H.takeT [Cel b 78 [v1, v2, vt, .bool false], OSl 66 vt 11 Ow.enc (ts), Sl v1 9 Pl.enc old, Sl v2 9 Pl.enc next] l) (by simp [RTwL, OSl, Blk])⟩
   ·have h6p := h6; try simp only [DL] at h6p
    have hA : argB old.length place serial = false := h6
    obtain ⟨hp0, hp1, hs0, hs1⟩ := argB_no hA
    refine g_skip ?_
    refine n_then ?_
    refine g_seq ?_
    refine gsr ?_
    refine ga S fun a S => ?_
    refine gnt ?_
    refine g_block ?_
    have SU := ((S.nil.cons S 2 rfl).cons S 1 rfl).cons S 0 rfl
    refine loopW (X := Nat) SU (fun k => [(7, .int .i64 (k : Int))]) (fun k w => k ≤ ts.length ∧ (∀ y ∈ ts.take k, y.serial ≠ serial) ∧ HSat M u0 (Cel b 78 [v1, v2, vt, .bool false] :: OSl 66 vt 11 Ow.enc (ts) :: Sl v1 9 Pl.enc old :: Sl v2 9 Pl.enc next :: l) w) (fun k => ts.length - k) 0 (S.nil.cons S 7 rfl) (⟨by omega, fun y hy => by simp at hy, H⟩) (fun k a w S hW => ?_)
    simp only [List.cons_append, List.nil_append] at S
    clear H
    obtain ⟨hk, hne, H⟩ := hW
    refine g_seq ?_
    refine gsr ?_
    refine gm S fun a S => ?_
    refine gm S fun a S => ?_
    refine gy rfl rfl rfl S (y_nilCheck rfl S rfl) fun a S => ?_
    refine gy rfl rfl rfl S (y_faddrb rfl Ffo78_2 S rfl) fun a S => ?_
    refine gy rfl rfl rfl S (y_load rfl Fsca23 S H rfl rfl) fun a S => ?_
    refine gy rfl rfl rfl S (y_lens rfl Try.underlying23 S H rfl) fun a S => ?_
    refine gy rfl rfl rfl S (y_bin rfl S rfl rfl rfl) fun a S => ?_
    refine gnt ?_
    have S := ((((S.nil.cons S 2 rfl).cons S 1 rfl).cons S 0 rfl).cons S 7 rfl).cons S 42 rfl
    refine c_if S rfl (fun h7 => ?_) (fun h7 => ?_)
    ·have h7p := h7; try simp only [DL] at h7p
     have hkl : k < ts.length := by omega
     refine g_skip ?_
     refine n_then ?_
     refine g_seq ?_
     refine g_block ?_
     refine gsr ?_
     refine gm S fun a S => ?_
     refine gy rfl rfl rfl S (y_nilCheck rfl S rfl) fun a S => ?_
     refine gy rfl rfl rfl S (y_faddrb rfl Ffo78_2 S rfl) fun a S => ?_
     refine gy rfl rfl rfl S (y_load rfl Fsca23 S H rfl rfl) fun a S => ?_
     refine gm S fun a S => ?_
     refine gy rfl rfl rfl S (y_iaddrn rfl Try.underlying23 Fsiz66 S H rfl rfl (by first | assumption | omega | (simp only [LL]; omega))) fun a S => ?_
     refine gy rfl rfl rfl S (y_faddr rfl Ffo66_0 S rfl) fun a S => ?_
     refine gy rfl rfl rfl S (y_faddr rfl Ffo60_0 S rfl) fun a S => ?_
     refine gy rfl rfl rfl S (y_loadsff _ rfl Fsca3 S H rfl (by first | assumption | omega | (simp only [LL]; omega)) rfl) fun a S => ?_
     refine gm S fun a S => ?_
     refine gy rfl rfl rfl S (y_bin rfl S rfl rfl rfl) fun a S => ?_
     refine gnt ?_
     have S := ((((S.nil.cons S 2 rfl).cons S 1 rfl).cons S 0 rfl).cons S 7 rfl).cons S 55 rfl
     refine c_if S rfl (fun h8 => ?_) (fun h8 => ?_)
     ·have h8p := h8; try simp only [DL] at h8p
      have hE := sellE_used (next := next) hA (used_at hkl (by simpa using h8p))
      refine gsr ?_
      refine ga S fun a S => ?_
      refine gnt ?_
      refine g_ret ?_
      refine r_block (r_then (r_then (r_block (r_then (ret1 rfl S rfl ?_)))))
      rw [hE, sellT_err (by rw [hE]; decide)]; exact ⟨rfl, vt, HSat.fold (ls := RTwL b v1 v2 vt (ts)) (H.takeT [Cel b 78 [v1, v2, vt, .bool false], OSl 66 vt 11 Ow.enc (ts), Sl v1 9 Pl.enc old, Sl v2 9 Pl.enc next] l) (by simp [RTwL, OSl, Blk])⟩
     ·have h8p := h8; try simp only [DL] at h8p
      have hne2 := take_ne hkl hne (by simpa using h8p)
      refine g_skip ?_
      refine n_block ?_
      refine n_then ?_
      refine g_region ?_
      refine gm S fun a S => ?_
      refine gy rfl rfl rfl S (y_add rfl S rfl rfl (by omega)) fun a S => ?_
      refine ga S fun a S => ?_
      refine gnt ?_
      exact ⟨k + 1, S.nil.cons S 7 rfl, ((S.nil.cons S 2 rfl).cons S 1 rfl).cons S 0 rfl, ⟨by omega, hne2, H⟩, by omega⟩
    ·have h7p := h7; try simp only [DL] at h7p
     obtain rfl : k = ts.length := by omega
     rw [List.take_length] at hne
     have hU := used_no hne
     refine g_exit ?_
     refine x_then (x_then (x_eq ?_))
     refine n_then ?_
     refine gsr ?_
     refine gm S fun a S => ?_
     refine gy rfl rfl rfl S (y_nilCheck rfl S rfl) fun a S => ?_
     refine gy rfl rfl rfl S (y_faddrb rfl Ffo78_2 S rfl) fun a S => ?_
     refine gy rfl rfl rfl S (y_load rfl Fsca23 S H rfl rfl) fun a S => ?_
     refine wl_of (op_call (wn rfl) rfl rfl S (co_func rfl Try.call41 S rfl) (moved_spec vt ts _ (H.sl vt) hok (by omega)) fun u60 w hc a S => ?_)
     have H1 := hc
     have H := H.call1 H1 rfl
     refine ga S fun a S => ?_
     refine gnt ?_
     have S := (((S.nil.cons S 2 rfl).cons S 1 rfl).cons S 0 rfl).cons S 8 rfl
     refine g_seq ?_
     refine gsr ?_
     refine ga S fun a S => ?_
     refine gnt ?_
     refine g_block ?_
     have SU := (((S.nil.cons S 2 rfl).cons S 1 rfl).cons S 0 rfl).cons S 8 rfl
     refine loopW (X := Nat) SU (fun j => [(9, .int .i64 (j : Int))]) (fun j w => j ≤ (movedL ts).length ∧ (∀ q (hq : q < (movedL ts).length), q < j → (movedL ts)[q].place ≠ place) ∧ HSat M u0 (OSl 66 u60 11 Ow.enc (movedL ts) :: Cel b 78 [v1, v2, vt, .bool false] :: OSl 66 vt 11 Ow.enc (ts) :: Sl v1 9 Pl.enc old :: Sl v2 9 Pl.enc next :: l) w) (fun j => (movedL ts).length - j) 0 (S.nil.cons S 9 rfl) (⟨by omega, fun q hq h => by omega, H⟩) (fun j a w S hW => ?_)
     simp only [List.cons_append, List.nil_append] at S
     clear H
     obtain ⟨hj, hnp, H⟩ := hW
     refine g_seq ?_
     refine gsr ?_
     refine gm S fun a S => ?_
     refine gm S fun a S => ?_
     refine gy rfl rfl rfl S (y_lens rfl Try.underlying23 S H rfl) fun a S => ?_
     refine gy rfl rfl rfl S (y_bin rfl S rfl rfl rfl) fun a S => ?_
     refine gnt ?_
     refine c_if S rfl (fun h9 => ?_) (fun h9 => ?_)
     ·have h9p := h9; try simp only [DL] at h9p
      have hjl : j < (movedL ts).length := by omega
      refine g_skip ?_
      refine n_then ?_
      have S := ((((S.nil.cons S 2 rfl).cons S 1 rfl).cons S 0 rfl).cons S 8 rfl).cons S 9 rfl
      refine g_seq ?_
      refine g_block ?_
      refine gsr ?_
      refine gm S fun a S => ?_
      refine gm S fun a S => ?_
      refine gy rfl rfl rfl S (y_iaddrn rfl Try.underlying23 Fsiz66 S H rfl rfl (by first | assumption | omega | (simp only [LL]; omega))) fun a S => ?_
      refine gy rfl rfl rfl S (y_faddr rfl Ffo66_0 S rfl) fun a S => ?_
      refine gy rfl rfl rfl S (y_faddr rfl Ffo60_2 S rfl) fun a S => ?_
      refine gy rfl rfl rfl S (y_loadsff _ rfl Fsca3 S H rfl (by first | assumption | omega | (simp only [LL]; omega)) rfl) fun a S => ?_
      refine gm S fun a S => ?_
      refine gy rfl rfl rfl S (y_bin rfl S rfl rfl rfl) fun a S => ?_
      refine gnt ?_
      have S := (((((S.nil.cons S 2 rfl).cons S 1 rfl).cons S 0 rfl).cons S 8 rfl).cons S 9 rfl).cons S 74 rfl
      refine c_if S rfl (fun h10 => ?_) (fun h10 => ?_)
      ·have h10p := h10; try simp only [DL] at h10p
       have hE := sellE_taken (next := next) (ts := ts) hA hU (List.any_eq_true.2 ⟨_, List.getElem_mem hjl, by have := h10p; simpa using this⟩)
       refine gsr ?_
       refine ga S fun a S => ?_
       refine gnt ?_
       refine g_ret ?_
       refine r_block (r_then (r_then (r_block (r_then (ret1 rfl S rfl ?_)))))
       rw [hE, sellT_err (by rw [hE]; decide)]; exact ⟨rfl, vt, HSat.fold (ls := RTwL b v1 v2 vt (ts)) (H.takeT [Cel b 78 [v1, v2, vt, .bool false], OSl 66 vt 11 Ow.enc (ts), Sl v1 9 Pl.enc old, Sl v2 9 Pl.enc next] l) (by simp [RTwL, OSl, Blk])⟩
      ·have h10p := h10; try simp only [DL] at h10p
       have hnp2 : (movedL ts)[j].place ≠ place := by simpa using h10p
       refine g_skip ?_
       refine n_block ?_
       refine n_then ?_
       refine g_region ?_
       refine gm S fun a S => ?_
       refine gy rfl rfl rfl S (y_add rfl S rfl rfl (by omega)) fun a S => ?_
       refine ga S fun a S => ?_
       refine gnt ?_
       exact ⟨j + 1, S.nil.cons S 9 rfl, (((S.nil.cons S 2 rfl).cons S 1 rfl).cons S 0 rfl).cons S 8 rfl, ⟨by omega, fun q hq h => by by_cases e : q < j; exact hnp q hq e; (obtain rfl : q = j := by omega); exact hnp2, H⟩, by omega⟩
     ·have h9p := h9; try simp only [DL] at h9p
      obtain rfl : j = (movedL ts).length := by omega
      have hT : takenB ts place = false := by
        rw [takenB, List.any_eq_false]
        intro x hx
        obtain ⟨q, hq, rfl⟩ := List.getElem_of_mem hx
        simpa using hnp q hq hq
      refine g_exit ?_
      refine x_then (x_then (x_eq ?_))
      refine n_then ?_
      have S := (((S.nil.cons S 2 rfl).cons S 1 rfl).cons S 0 rfl).cons S 8 rfl
      refine g_seq ?_
      refine gsr ?_
      refine gm S fun a S => ?_
      refine gy rfl rfl rfl S (y_lens rfl Try.underlying23 S H rfl) fun a S => ?_
      refine gy rfl rfl rfl S (y_bin rfl S rfl rfl rfl) fun a S => ?_
      refine gnt ?_
      refine c_if S rfl (fun h11 => ?_) (fun h11 => ?_)
      ·have h11p := h11; try simp only [DL] at h11p
       have hE := sellE_full (next := next) hA hU hT (by have := h11p; omega)
       refine gsr ?_
       refine ga S fun a S => ?_
       refine gnt ?_
       have S := (((S.nil.cons S 2 rfl).cons S 1 rfl).cons S 0 rfl).cons S 6 rfl
       refine g_ret ?_
       refine r_then (ret1 rfl S rfl ?_)
       rw [hE, sellT_err (by rw [hE]; decide)]; exact ⟨rfl, vt, HSat.fold (ls := RTwL b v1 v2 vt (ts)) (H.takeT [Cel b 78 [v1, v2, vt, .bool false], OSl 66 vt 11 Ow.enc (ts), Sl v1 9 Pl.enc old, Sl v2 9 Pl.enc next] l) (by simp [RTwL, OSl, Blk])⟩
      ·have h11p := h11; try simp only [DL] at h11p
       have hL : (movedL ts).length < 4000 := by have := h11p; omega
       have hpre : (0 ≤ place ∧ place < old.length) ∧ (∀ x ∈ ts, x.serial ≠ serial) ∧ (∀ x ∈ movedL ts, x.place ≠ place) ∧ (movedL ts).length < 4000 := ⟨⟨hp0, hp1⟩, hne, fun x hx => by obtain ⟨q, hq, rfl⟩ := List.getElem_of_mem hx; exact hnp q hq hq, hL⟩
       have hdl := deny_loss htw hpre
       have hok2 := (sell_new htw hpre).ok
       refine g_skip ?_
       refine n_then ?_
       have S := ((S.nil.cons S 2 rfl).cons S 1 rfl).cons S 0 rfl
       refine gsr ?_
       refine wl_of (op_buildSlice (wn rfl) rfl rfl rfl Try.underlying23 Finf66 S H (idx := []) rfl rfl rfl (z := []) (by kernel_rfl) (cs := []) rfl fun b78 a w S H => ?_)
       have H := H.celO [] Ow.enc 11 (m := 0) rfl (by simp) rfl (by omega)
       refine gm S fun a S => ?_
       refine gy rfl rfl rfl S (y_nilCheck rfl S rfl) fun a S => ?_
       refine gy rfl rfl rfl S (y_faddrb rfl Ffo78_2 S rfl) fun a S => ?_
       refine gy rfl rfl rfl S (y_load rfl Fsca23 S H rfl rfl) fun a S => ?_
       refine wl_of (op_appendT (wn rfl) rfl rfl rfl Try.underlying23 Finf66 rfl rfl S H rfl rfl (by exact fun y hy u hu => List.all_eq_true.1 (Ow.all (hok y hy)) u hu) (by simp only [List.length_nil]; omega) (by simp only [List.length_nil]; omega) fun u83 a w S H => ?_)
       refine gm S fun a S => ?_
       refine gm S fun a S => ?_
       refine gy rfl rfl rfl S (y_buildf rfl Fbld60 S rfl (idx := [0, 2]) rfl (cs := [.int .i64 serial, .int .i64 0, .int .i64 place, .string ⟨#[]⟩, .slice none 0 0]) (by kernel_rfl)) fun a S => ?_
       refine gy rfl rfl rfl S (y_buildf rfl Fbld66 S rfl (idx := [0]) rfl (cs := [.int .i64 (newOw serial place).serial, .int .i64 (newOw serial place).show_, .int .i64 (newOw serial place).place, (newOw serial place).first, (newOw serial place).chain, (newOw serial place).person, (newOw serial place).lines, .int .i64 (newOw serial place).total, (newOw serial place).means, .int .i64 (newOw serial place).gone, (newOw serial place).offers]) (by kernel_rfl)) fun a S => ?_
       refine wl_of (op_buildSlice (wn rfl) rfl rfl rfl Try.underlying23 Finf66 S H (idx := [0]) rfl rfl rfl (z := [.int .i64 0, .int .i64 0, .int .i64 0, .string ⟨#[]⟩, .slice none 0 0, .string ⟨#[]⟩, .slice none 0 0, .int .i64 0, .slice none 0 0, .int .i64 0, .slice none 0 0]) (by kernel_rfl) (cs := [.int .i64 (newOw serial place).serial, .int .i64 (newOw serial place).show_, .int .i64 (newOw serial place).place, (newOw serial place).first, (newOw serial place).chain, (newOw serial place).person, (newOw serial place).lines, .int .i64 (newOw serial place).total, (newOw serial place).means, .int .i64 (newOw serial place).gone, (newOw serial place).offers]) (by kernel_rfl) fun b88 a w S H => ?_)
       refine wl_of (op_append ([newOw serial place]) (wn rfl) rfl rfl rfl Try.underlying23 Finf66 rfl rfl S H rfl rfl rfl rfl (by simp) (by simp [Ow.enc]) (by exact newOw_one serial place) (by simp only [List.length_append, List.length_cons, List.length_nil]; omega) (by simp only [List.length_append, List.length_cons, List.length_nil]; omega) fun u89 a w hn89 S H => ?_)
       refine ga S fun a S => ?_
       refine gnt ?_
       have S := (S.nil.cons S 0 rfl).cons S 10 rfl
       refine g_seq ?_
       refine g_seq ?_
       refine region_st (loud := []) (tails := []) (free := []) [0, 1, 2, 3, 4, 5, 6, 7, 8, 9, 10, 11, 12, 13, 14, 15, 16, 17, 18, 19, 20, 21, 22, 23] [] Fmo (by kernel_rfl) (by kernel_rfl) rfl H ?_
       refine m_w rfl rfl (wn rfl) rfl rfl S (fun w H => y_move rfl S rfl) fun a S => ?_
       refine m_w rfl rfl (wn rfl) rfl rfl S (fun w H => y_nilCheck rfl S rfl) fun a S => ?_
       refine m_w rfl rfl (wn rfl) rfl rfl S (fun w H => y_faddrb rfl Ffo78_0 S rfl) fun a S => ?_
       refine m_w rfl rfl (wn rfl) rfl rfl S (fun w H => y_load rfl Fsca22 S H rfl rfl) fun a S => ?_
       refine m_w rfl rfl (wn rfl) rfl rfl S (fun w H => y_move rfl S rfl) fun a S => ?_
       refine m_w rfl rfl (wn rfl) rfl rfl S (fun w H => y_nilCheck rfl S rfl) fun a S => ?_
       refine m_w rfl rfl (wn rfl) rfl rfl S (fun w H => y_faddrb rfl Ffo78_1 S rfl) fun a S => ?_
       refine m_w rfl rfl (wn rfl) rfl rfl S (fun w H => y_load rfl Fsca22 S H rfl rfl) fun a S => ?_
       refine m_w rfl rfl (wn rfl) rfl rfl S (fun w H => y_move rfl S rfl) fun a S => ?_
       refine m_c rfl rfl (wn rfl) rfl rfl S (fun w => co_func rfl Try.call42 S rfl) (fun w H => loss_spec v1 v2 old next u89 ([] ++ ts ++ [newOw serial place]) _ (H.sl v1) (H.sl v2) (H.sl u89) (by rw [List.nil_append]; exact hok2) (by simp; omega)) fun a S => ?_
       refine m_w rfl rfl (wn rfl) rfl rfl S (fun w H => y_move rfl S rfl) fun a S => ?_
       refine m_w rfl rfl (wn rfl) rfl rfl S (fun w H => y_nilCheck rfl S rfl) fun a S => ?_
       refine m_w rfl rfl (wn rfl) rfl rfl S (fun w H => y_faddrb rfl Ffo78_0 S rfl) fun a S => ?_
       refine m_w rfl rfl (wn rfl) rfl rfl S (fun w H => y_load rfl Fsca22 S H rfl rfl) fun a S => ?_
       refine m_w rfl rfl (wn rfl) rfl rfl S (fun w H => y_move rfl S rfl) fun a S => ?_
       refine m_w rfl rfl (wn rfl) rfl rfl S (fun w H => y_nilCheck rfl S rfl) fun a S => ?_
       refine m_w rfl rfl (wn rfl) rfl rfl S (fun w H => y_faddrb rfl Ffo78_1 S rfl) fun a S => ?_
       refine m_w rfl rfl (wn rfl) rfl rfl S (fun w H => y_load rfl Fsca22 S H rfl rfl) fun a S => ?_
       refine m_w rfl rfl (wn rfl) rfl rfl S (fun w H => y_move rfl S rfl) fun a S => ?_
       refine m_w rfl rfl (wn rfl) rfl rfl S (fun w H => y_nilCheck rfl S rfl) fun a S => ?_
       refine m_w rfl rfl (wn rfl) rfl rfl S (fun w H => y_faddrb rfl Ffo78_2 S rfl) fun a S => ?_
       refine m_w rfl rfl (wn rfl) rfl rfl S (fun w H => y_load rfl Fsca23 S H rfl rfl) fun a S => ?_
       refine m_c rfl rfl (wn rfl) rfl rfl S (fun w => co_func rfl Try.call42 S rfl) (fun w H => loss_spec v1 v2 old next vt (ts) _ (H.sl v1) (H.sl v2) (H.sl vt) (hok) (by omega)) fun a S => ?_
       refine m_w rfl rfl (wn rfl) rfl rfl S (fun w H => y_bin rfl S rfl rfl rfl) fun a S => ?_
       refine m_nil (fun w H => ?_)
       refine n_then ?_
       have S := ((S.nil.cons S 0 rfl).cons S 10 rfl).cons S 113 rfl
       refine c_if S rfl (fun h12 => ?_) (fun h12 => ?_)
       ·have h12p := h12; try simp only [DL] at h12p
        have hE := sellE_deny hA hU hT hL (by rw [hdl]; have := h12p; simp only [List.nil_append] at this; simpa using this)
        refine gsr ?_
        refine ga S fun a S => ?_
        refine gnt ?_
        refine g_ret ?_
        refine r_then (ret1 rfl S rfl ?_)
        rw [hE, sellT_err (by rw [hE]; decide)]; exact ⟨rfl, vt, HSat.fold (ls := RTwL b v1 v2 vt (ts)) (H.takeT [Cel b 78 [v1, v2, vt, .bool false], OSl 66 vt 11 Ow.enc (ts), Sl v1 9 Pl.enc old, Sl v2 9 Pl.enc next] l) (by simp [RTwL, OSl, Blk])⟩
       ·have h12p := h12; try simp only [DL] at h12p
        obtain ⟨hE, hTT⟩ := sellE_ok hA hU hT hL (by rw [hdl]; have := h12p; simp only [List.nil_append] at this; simpa using this)
        refine g_skip ?_
        refine n_then ?_
        refine gsr ?_
        refine gm S fun a S => ?_
        refine gm S fun a S => ?_
        refine gy rfl rfl rfl S (y_nilCheck rfl S rfl) fun a S => ?_
        refine gy rfl rfl rfl S (y_faddrb rfl Ffo78_2 S rfl) fun a S => ?_
        refine wl_of (op_store (wn rfl) rfl rfl S H rfl rfl (H.sl1 _) Fsiz23 rfl fun a w S H => ?_)
        dsimp only [List.set, Nat.zero_add, Nat.reduceAdd] at H
        refine gnt ?_
        have S := S.nil
        refine gsr ?_
        refine ga S fun a S => ?_
        refine gnt ?_
        refine g_ret ?_
        refine ret1 rfl S rfl ?_
        rw [List.nil_append] at H
        rw [hE, hTT]; exact ⟨rfl, u89, HSat.fold (ls := RTwL b v1 v2 u89 (ts ++ [newOw serial place])) (H.takeT [Cel b 78 [v1, v2, u89, .bool false], OSl 66 u89 11 Ow.enc (ts ++ [newOw serial place]), Sl v1 9 Pl.enc old, Sl v2 9 Pl.enc next] l) (by simp [RTwL, OSl, Blk])⟩
set_option maxHeartbeats 1000000 in
/-- (*foyer/foyerref42.Twin).Change -/
theorem rchange_ok {M : Nat → Prop} {u0 : World} {l : List Atom} (b : Nat) (v1 v2 vt : Value) (old next : List Pl) (ts : List Ow) (w0 : World) (h0 : HSat M u0 (RTwA b v1 v2 vt ts :: Sl v1 9 Pl.enc old :: Sl v2 9 Pl.enc next :: l) w0) (hok : ∀ o ∈ ts, o.ok) (hl : ts.length ≤ 100000) :
    Ret Try.prog 16 #[.pointer (some ⟨b, 0, none⟩)] w0 (fun u w => ∃ mv vl vr, ∃ ms : List Mv, u = .tuple #[.agg #[mv, vl, vr], .int .i64 (errP old next ts)] ∧ ms.map Mv.say = sayP old next ts ∧ HSat M u0 (RTwA b v1 v2 vt ts :: OSl 91 mv 3 Mv.enc ms :: RowsA 3 1 encI (rowsOf ms) :: OSl 3 vl 1 encI (clP old next ts) :: OSl 3 vr 1 encI (crP old next ts) :: Sl v1 9 Pl.enc old :: Sl v2 9 Pl.enc next :: l) w) := by
 refine ret_of_wp (nt := 27) Try.func16 rfl rfl rfl (fl := [(0, .pointer (some ⟨b, 0, none⟩))]) rfl (fun a S => ?_)
 have H := h0.unfold
 simp only [RTwL, List.cons_append, List.nil_append] at H
 refine gsr ?_
 refine wl_of (op_alloc (wn rfl) rfl rfl rfl S H Fzer43 fun b2 a w S H => ?_)
 refine ga S fun a S => ?_
 refine gnt ?_
 refine g_seq ?_
 refine gsr ?_
 refine gm S fun a S => ?_
 refine gy rfl rfl rfl S (y_eqp rfl Try.underlying31 S rfl rfl) fun a S => ?_
 refine gnt ?_
 refine c_if S rfl (fun h1 => ?_) (fun h1 => ?_)
 ·have h1p := h1; try simp only [DL] at h1p
  all_goals (
    exact absurd h1 (by simp))
 ·have h1p := h1; try simp only [DL] at h1p
  refine g_skip ?_
  refine n_then ?_
  refine g_seq ?_
  refine gsr ?_
  refine gm S fun a S => ?_
  refine gy rfl rfl rfl S (y_nilCheck rfl S rfl) fun a S => ?_
  refine gy rfl rfl rfl S (y_faddrb rfl Ffo78_3 S rfl) fun a S => ?_
  refine gy rfl rfl rfl S (y_load rfl Fsca4 S H rfl rfl) fun a S => ?_
  refine gnt ?_
  have S := (((S.nil.cons S 0 rfl).cons S 2 rfl).cons S 3 rfl).cons S 10 rfl
  refine c_if S rfl (fun h2 => ?_) (fun h2 => ?_)
  ·have h2p := h2; try simp only [DL] at h2p
   all_goals (
     exact absurd h2 (by simp))
  ·have h2p := h2; try simp only [DL] at h2p
   refine g_skip ?_
   refine n_then ?_
   refine g_seq ?_
   refine region_st (loud := [12, 15]) (tails := [15]) (free := []) [0, 1, 2, 3, 4, 5, 6, 7, 8, 9, 10, 11, 12, 13, 14, 15, 16] [] Fmo (by kernel_rfl) (by kernel_rfl) rfl H ?_
   refine m_w rfl rfl (wn rfl) rfl rfl S (fun w H => y_move rfl S rfl) fun a S => ?_
   refine m_w rfl rfl (wn rfl) rfl rfl S (fun w H => y_nilCheck rfl S rfl) fun a S => ?_
   refine m_w rfl rfl (wn rfl) rfl rfl S (fun w H => y_faddrb rfl Ffo78_0 S rfl) fun a S => ?_
   refine m_w rfl rfl (wn rfl) rfl rfl S (fun w H => y_load rfl Fsca22 S H rfl rfl) fun a S => ?_
   refine m_w rfl rfl (wn rfl) rfl rfl S (fun w H => y_move rfl S rfl) fun a S => ?_
   refine m_w rfl rfl (wn rfl) rfl rfl S (fun w H => y_nilCheck rfl S rfl) fun a S => ?_
   refine m_w rfl rfl (wn rfl) rfl rfl S (fun w H => y_faddrb rfl Ffo78_1 S rfl) fun a S => ?_
   refine m_w rfl rfl (wn rfl) rfl rfl S (fun w H => y_load rfl Fsca22 S H rfl rfl) fun a S => ?_
   refine m_w rfl rfl (wn rfl) rfl rfl S (fun w H => y_move rfl S rfl) fun a S => ?_
   refine m_w rfl rfl (wn rfl) rfl rfl S (fun w H => y_nilCheck rfl S rfl) fun a S => ?_
   refine m_w rfl rfl (wn rfl) rfl rfl S (fun w H => y_faddrb rfl Ffo78_2 S rfl) fun a S => ?_
   refine m_w rfl rfl (wn rfl) rfl rfl S (fun w H => y_load rfl Fsca23 S H rfl rfl) fun a S => ?_
   refine m_l rfl rfl (fun w H => op_call (wn rfl) rfl rfl S (co_func rfl Try.call30 S rfl) (rplan_any v1 v2 old next vt ts _ (H.sl v1) (H.sl v2) (H.sl vt) hok hl) fun u24 w hc a S => ?_)
   obtain ⟨mv, vl, vr, ms, rfl, hms, H1⟩ := hc
   have H := H.call4 H1 rfl rfl rfl rfl
   refine m_next H (by repeat (first | exact List.Sublist.refl _ | apply List.Sublist.cons)) ?_
   refine m_w rfl rfl (wn rfl) rfl rfl S (fun w H => y_extract rfl S rfl rfl) fun a S => ?_
   refine m_w rfl rfl (wn rfl) rfl rfl S (fun w H => y_extract rfl S rfl rfl) fun a S => ?_
   refine m_l rfl rfl (fun w H => op_storea (wn rfl) rfl rfl S H rfl rfl (by rw [List.all_cons, List.all_cons, List.all_cons, H.sl1 mv, H.sl1 vl, H.sl1 vr]; rfl) Fsiz43 rfl (cs' := [_, _, _]) rfl fun a w S H => m_tail H rfl ?_)
   refine m_w rfl rfl (wn rfl) rfl rfl S (fun w H => y_assign rfl S rfl) fun a S => ?_
   refine m_nil (fun w H => ?_)
   refine n_then ?_
   have S := (S.nil.cons S 2 rfl).cons S 3 rfl
   refine g_ret ?_
   refine ret2ct rfl S H rfl rfl (by exact Fagg43) ?_
   exact ⟨mv, vl, vr, ms, rfl, hms, HSat.fold (ls := RTwL b v1 v2 vt ts) (H.takeT [Cel b 78 [v1, v2, vt, .bool false], OSl 66 vt 11 Ow.enc ts, OSl 91 mv 3 Mv.enc ms, RowsA 3 1 encI (rowsOf ms), OSl 3 vl 1 encI (clP old next ts), OSl 3 vr 1 encI (crP old next ts), Sl v1 9 Pl.enc old, Sl v2 9 Pl.enc next] l) (by simp [RTwL, OSl, Blk])⟩
set_option maxHeartbeats 1000000 in
/-- (*foyer/foyerref42.Twin).Finish -/
theorem rfinish_f {M : Nat → Prop} {u0 : World} {l : List Atom} (b : Nat) (v1 v2 vt : Value) (old next : List Pl) (ts : List Ow) (w0 : World) (h0 : HSat M u0 (RTwA b v1 v2 vt ts :: Sl v1 9 Pl.enc old :: Sl v2 9 Pl.enc next :: l) w0) :
    Ret Try.prog 18 #[.pointer (some ⟨b, 0, none⟩), .bool false] w0 (fun u w => u = .tuple #[vt, .int .i64 0] ∧ HSat M u0 (OSl 66 vt 11 Ow.enc ts :: Cel b 78 [v1, v2, vt, .bool true] :: Sl v1 9 Pl.enc old :: Sl v2 9 Pl.enc next :: l) w) := by
 refine ret_of_wp (nt := 96) Try.func18 rfl rfl rfl (fl := [(0, .pointer (some ⟨b, 0, none⟩)), (1, .bool false)]) rfl (fun a S => ?_)
 have H := h0.unfold
 simp only [RTwL, List.cons_append, List.nil_append] at H
 refine gsr ?_
 refine ga S fun a S => ?_
 refine ga S fun a S => ?_
 refine gnt ?_
 refine g_seq ?_
 refine gsr ?_
 refine gm S fun a S => ?_
 refine gy rfl rfl rfl S (y_eqp rfl Try.underlying31 S rfl rfl) fun a S => ?_
 refine gnt ?_
 refine c_if S rfl (fun h1 => ?_) (fun h1 => ?_)
 ·have h1p := h1; try simp only [DL] at h1p
  all_goals (
    exact absurd h1 (by simp))
 ·have h1p := h1; try simp only [DL] at h1p
  refine g_skip ?_
  refine n_then ?_
  refine g_seq ?_
  refine gsr ?_
  refine gm S fun a S => ?_
  refine gy rfl rfl rfl S (y_nilCheck rfl S rfl) fun a S => ?_
  refine gy rfl rfl rfl S (y_faddrb rfl Ffo78_3 S rfl) fun a S => ?_
  refine gy rfl rfl rfl S (y_load rfl Fsca4 S H rfl rfl) fun a S => ?_
  refine gnt ?_
  have S := ((((S.nil.cons S 1 rfl).cons S 0 rfl).cons S 4 rfl).cons S 5 rfl).cons S 17 rfl
  refine c_if S rfl (fun h2 => ?_) (fun h2 => ?_)
  ·have h2p := h2; try simp only [DL] at h2p
   all_goals (
     exact absurd h2 (by simp))
  ·have h2p := h2; try simp only [DL] at h2p
   refine g_skip ?_
   refine n_then ?_
   refine gsr ?_
   refine gm S fun a S => ?_
   refine gy rfl rfl rfl S (y_nilCheck rfl S rfl) fun a S => ?_
   refine gy rfl rfl rfl S (y_faddrb rfl Ffo78_3 S rfl) fun a S => ?_
   refine wl_of (op_store (wn rfl) rfl rfl S H rfl rfl rfl Fsiz4 rfl fun a w S H => ?_)
   dsimp only [List.set, Nat.zero_add, Nat.reduceAdd] at H
   refine gnt ?_
   have S := (((S.nil.cons S 1 rfl).cons S 0 rfl).cons S 4 rfl).cons S 5 rfl
   refine g_seq ?_
   refine gsr ?_
   refine gm S fun a S => ?_
   refine gy rfl rfl rfl S (y_not rfl S rfl) fun a S => ?_
   refine gnt ?_
   refine c_if S rfl (fun h3 => ?_) (fun h3 => ?_)
   ·have h3p := h3; try simp only [DL] at h3p
    refine gsr ?_
    refine gm S fun a S => ?_
    refine gy rfl rfl rfl S (y_nilCheck rfl S rfl) fun a S => ?_
    refine gy rfl rfl rfl S (y_faddrb rfl Ffo78_2 S rfl) fun a S => ?_
    refine gy rfl rfl rfl S (y_load rfl Fsca23 S H rfl rfl) fun a S => ?_
    refine ga S fun a S => ?_
    refine ga S fun a S => ?_
    refine gnt ?_
    have S := ((S.nil.cons S 0 rfl).cons S 4 rfl).cons S 5 rfl
    refine g_ret ?_
    refine r_then (ret2 rfl S rfl rfl ?_)
    exact ⟨rfl, H.takeT [OSl 66 vt 11 Ow.enc ts, Cel b 78 [v1, v2, vt, .bool true], Sl v1 9 Pl.enc old, Sl v2 9 Pl.enc next] l⟩
   ·have h3p := h3; try simp only [DL] at h3p
    all_goals (
      exact absurd h3 (by simp))
set_option maxHeartbeats 4000000 in
/-- (*foyer/foyerref42.Twin).Finish -/
theorem rfinish_t {M : Nat → Prop} {u0 : World} {l : List Atom} (b : Nat) (v1 v2 vt : Value) (old next : List Pl) (ts : List Ow) (w0 : World) (h0 : HSat M u0 (RTwA b v1 v2 vt ts :: Sl v1 9 Pl.enc old :: Sl v2 9 Pl.enc next :: l) w0) (hok : ∀ o ∈ ts, o.ok) (hl : ts.length ≤ 100000) :
    Ret Try.prog 18 #[.pointer (some ⟨b, 0, none⟩), .bool true] w0 (fun u w => ∃ vo, ∃ ms : List Mv, u = .tuple #[vo, .int .i64 0] ∧ ms.map Mv.say = sayP old next ts ∧ HSat M u0 (OSl 66 vo 11 Ow.enc (finT ts ms true) :: RowsA 3 1 encI (rowsOf ms) :: Cel b 78 [v1, v2, vt, .bool true] :: Sl v1 9 Pl.enc old :: Sl v2 9 Pl.enc next :: l) w) := by
 refine ret_of_wp (nt := 96) Try.func18 rfl rfl rfl (fl := [(0, .pointer (some ⟨b, 0, none⟩)), (1, .bool true)]) rfl (fun a S => ?_)
 have H := h0.unfold
 simp only [RTwL, List.cons_append, List.nil_append] at H
 refine gsr ?_
 refine ga S fun a S => ?_
 refine ga S fun a S => ?_
 refine gnt ?_
 refine g_seq ?_
 refine gsr ?_
 refine gm S fun a S => ?_
 refine gy rfl rfl rfl S (y_eqp rfl Try.underlying31 S rfl rfl) fun a S => ?_
 refine gnt ?_
 refine c_if S rfl (fun h1 => ?_) (fun h1 => ?_)
 ·have h1p := h1; try simp only [DL] at h1p
  all_goals (
    exact absurd h1 (by simp))
 ·have h1p := h1; try simp only [DL] at h1p
  refine g_skip ?_
  refine n_then ?_
  refine g_seq ?_
  refine gsr ?_
  refine gm S fun a S => ?_
  refine gy rfl rfl rfl S (y_nilCheck rfl S rfl) fun a S => ?_
  refine gy rfl rfl rfl S (y_faddrb rfl Ffo78_3 S rfl) fun a S => ?_
  refine gy rfl rfl rfl S (y_load rfl Fsca4 S H rfl rfl) fun a S => ?_
  refine gnt ?_
  have S := ((((S.nil.cons S 1 rfl).cons S 0 rfl).cons S 4 rfl).cons S 5 rfl).cons S 17 rfl
  refine c_if S rfl (fun h2 => ?_) (fun h2 => ?_)
  ·have h2p := h2; try simp only [DL] at h2p
   all_goals (
     exact absurd h2 (by simp))
  ·have h2p := h2; try simp only [DL] at h2p
   refine g_skip ?_
   refine n_then ?_
   refine gsr ?_
   refine gm S fun a S => ?_
   refine gy rfl rfl rfl S (y_nilCheck rfl S rfl) fun a S => ?_
   refine gy rfl rfl rfl S (y_faddrb rfl Ffo78_3 S rfl) fun a S => ?_
   refine wl_of (op_store (wn rfl) rfl rfl S H rfl rfl rfl Fsiz4 rfl fun a w S H => ?_)
   dsimp only [List.set, Nat.zero_add, Nat.reduceAdd] at H
   refine gnt ?_
   have S := (((S.nil.cons S 1 rfl).cons S 0 rfl).cons S 4 rfl).cons S 5 rfl
   refine g_seq ?_
   refine gsr ?_
   refine gm S fun a S => ?_
   refine gy rfl rfl rfl S (y_not rfl S rfl) fun a S => ?_
   refine gnt ?_
   refine c_if S rfl (fun h3 => ?_) (fun h3 => ?_)
   ·have h3p := h3; try simp only [DL] at h3p
    all_goals (
      exact absurd h3 (by simp))
   ·have h3p := h3; try simp only [DL] at h3p
    refine g_skip ?_
    refine n_then ?_
    refine g_seq ?_
    refine cut (fun a w => ∃ mv vl vr b6, ∃ ms : List Mv, ms.map Mv.say = sayP old next ts ∧ ms.length ≤ 9223372036854775807 ∧ (∀ k (h : k < ms.length), ms[k].row.1.oneCell' = true) ∧ (∀ (q : Nat) (s : Int) (m : Mv), fnM (ms.take q).reverse s = some m → m.row.1.oneCell' = true) ∧ St 96 [(0, .pointer (some ⟨b, 0, none⟩)), (6, .pointer (some ⟨b6, 0, none⟩))] a ∧ HSat M u0 (Cel b6 43 [mv, vl, vr] :: OSl 91 mv 3 Mv.enc ms :: RowsA 3 1 encI (rowsOf ms) :: OSl 3 vl 1 encI (clP old next ts) :: OSl 3 vr 1 encI (crP old next ts) :: Cel b 78 [v1, v2, vt, .bool true] :: OSl 66 vt 11 Ow.enc ts :: Sl v1 9 Pl.enc old :: Sl v2 9 Pl.enc next :: l) w) ?_ ?_
    ·skip
     refine t_st (tails := [17]) [] Fmo H ?_
     refine t_q 0 rfl (by kernel_rfl) (rem' := [1, 2, 3, 4, 5, 6, 7, 8, 9, 10, 11, 12, 13, 14, 15, 16, 17, 18]) rfl rfl rfl rfl S (fun w H => y_move rfl S rfl) fun a S => ?_
     refine t_q 1 rfl (by kernel_rfl) (rem' := [2, 3, 4, 5, 6, 7, 8, 9, 10, 11, 12, 13, 14, 15, 16, 17, 18]) rfl rfl rfl rfl S (fun w H => y_nilCheck rfl S rfl) fun a S => ?_
     refine t_q 2 rfl (by kernel_rfl) (rem' := [3, 4, 5, 6, 7, 8, 9, 10, 11, 12, 13, 14, 15, 16, 17, 18]) rfl rfl rfl rfl S (fun w H => y_faddrb rfl Ffo78_0 S rfl) fun a S => ?_
     refine t_q 3 rfl (by kernel_rfl) (rem' := [4, 5, 6, 7, 8, 9, 10, 11, 12, 13, 14, 15, 16, 17, 18]) rfl rfl rfl rfl S (fun w H => y_load rfl Fsca22 S H rfl rfl) fun a S => ?_
     refine t_q 4 rfl (by kernel_rfl) (rem' := [5, 6, 7, 8, 9, 10, 11, 12, 13, 14, 15, 16, 17, 18]) rfl rfl rfl rfl S (fun w H => y_move rfl S rfl) fun a S => ?_
     refine t_q 5 rfl (by kernel_rfl) (rem' := [6, 7, 8, 9, 10, 11, 12, 13, 14, 15, 16, 17, 18]) rfl rfl rfl rfl S (fun w H => y_nilCheck rfl S rfl) fun a S => ?_
     refine t_q 6 rfl (by kernel_rfl) (rem' := [7, 8, 9, 10, 11, 12, 13, 14, 15, 16, 17, 18]) rfl rfl rfl rfl S (fun w H => y_faddrb rfl Ffo78_1 S rfl) fun a S => ?_
     refine t_q 7 rfl (by kernel_rfl) (rem' := [8, 9, 10, 11, 12, 13, 14, 15, 16, 17, 18]) rfl rfl rfl rfl S (fun w H => y_load rfl Fsca22 S H rfl rfl) fun a S => ?_
     refine t_q 8 rfl (by kernel_rfl) (rem' := [9, 10, 11, 12, 13, 14, 15, 16, 17, 18]) rfl rfl rfl rfl S (fun w H => y_move rfl S rfl) fun a S => ?_
     refine t_q 9 rfl (by kernel_rfl) (rem' := [10, 11, 12, 13, 14, 15, 16, 17, 18]) rfl rfl rfl rfl S (fun w H => y_nilCheck rfl S rfl) fun a S => ?_
     refine t_q 10 rfl (by kernel_rfl) (rem' := [11, 12, 13, 14, 15, 16, 17, 18]) rfl rfl rfl rfl S (fun w H => y_faddrb rfl Ffo78_2 S rfl) fun a S => ?_
     refine t_q 11 rfl (by kernel_rfl) (rem' := [12, 13, 14, 15, 16, 17, 18]) rfl rfl rfl rfl S (fun w H => y_load rfl Fsca23 S H rfl rfl) fun a S => ?_
     refine t_b [12, 16] (by kernel_rfl) rfl (fa2 ?_ ?_)
     ·refine ⟨_, rfl, fun w H => ?_⟩
      refine op_call (wn rfl) rfl rfl S (co_func rfl Try.call30 S rfl) (rplan_any v1 v2 old next vt ts _ (H.sl v1) (H.sl v2) (H.sl vt) hok hl) fun u40 w hc a S => ?_
      obtain ⟨mv, vl, vr, ms, rfl, hms, H1⟩ := hc
      have H := H.call4 H1 rfl rfl rfl rfl
      have hlm := (H.sl mv).len
      have hrr : ∀ p ∈ rowsOf ms, IsSl w p.1 1 encI p.2 := H.rws 3 (rowsOf ms)
      have hone : ∀ k (h : k < ms.length), ms[k].row.1.oneCell' = true := fun k h => by
        obtain ⟨p, c, e⟩ := (hrr _ (rows_mem h)).shape
        rw [e]; rfl
      have honf : ∀ (q : Nat) (s : Int) (m : Mv), fnM (ms.take q).reverse s = some m → m.row.1.oneCell' = true := fun q s m h => by
        obtain ⟨z, hz, rfl⟩ := List.getElem_of_mem (List.mem_of_mem_take (List.mem_reverse.1 (fnM_mem h)))
        exact hone z hz
      refine t_n H (rem' := [13, 14, 15, 16, 17, 18]) rfl ?_
      refine t_q 13 rfl (by kernel_rfl) (rem' := [14, 15, 16, 17, 18]) rfl rfl rfl rfl S (fun w H => y_move rfl S rfl) fun a S => ?_
      refine t_q 14 rfl (by kernel_rfl) (rem' := [15, 16, 17, 18]) rfl rfl rfl rfl S (fun w H => y_extract rfl S rfl rfl) fun a S => ?_
      refine t_p 15 rfl (by kernel_rfl) (rem' := [16, 17, 18]) rfl rfl rfl rfl S (fun w => y_extract rfl S rfl rfl) fun a S => ?_
      refine t_b1 16 (by kernel_rfl) rfl fun w H => ?_
      refine op_alloc (wn rfl) rfl rfl rfl S H Fzer43 fun b6 a w S H => ?_
      refine t_n H (rem' := [17, 18]) rfl ?_
      refine t_b1 17 (by kernel_rfl) rfl fun w H => ?_
      refine op_storea (wn rfl) rfl rfl S H rfl rfl (by rw [List.all_cons, List.all_cons, List.all_cons, H.sl1 mv, H.sl1 vl, H.sl1 vr]; rfl) Fsiz43 rfl (cs' := [_, _, _]) rfl fun a w S H => ?_
      refine t_tail H rfl (rem' := [18]) rfl ?_
      refine t_q 18 rfl (by kernel_rfl) (rem' := []) rfl rfl rfl rfl S (fun w H => y_assign rfl S rfl) fun a S => ?_
      refine t_nil (fun w H => ?_)
      exact ⟨mv, vl, vr, b6, ms, hms, hlm, hone, honf, (S.nil.cons S 6 rfl).cons S 0 rfl, H.takeT [Cel b6 43 [mv, vl, vr], OSl 91 mv 3 Mv.enc ms, RowsA 3 1 encI (rowsOf ms), OSl 3 vl 1 encI (clP old next ts), OSl 3 vr 1 encI (crP old next ts), Cel b 78 [v1, v2, vt, .bool true], OSl 66 vt 11 Ow.enc ts, Sl v1 9 Pl.enc old, Sl v2 9 Pl.enc next] l⟩
     ·refine ⟨_, rfl, fun w H => ?_⟩
      refine op_alloc (wn rfl) rfl rfl rfl S H Fzer43 fun b6 a w S H => ?_
      refine t_n H (rem' := [12, 13, 14, 15, 17, 18]) rfl ?_
      refine t_b1 12 (by kernel_rfl) rfl fun w H => ?_
      refine op_call (wn rfl) rfl rfl S (co_func rfl Try.call30 S rfl) (rplan_any v1 v2 old next vt ts _ (H.sl v1) (H.sl v2) (H.sl vt) hok hl) fun u40 w hc a S => ?_
      obtain ⟨mv, vl, vr, ms, rfl, hms, H1⟩ := hc
      have H := H.call4 H1 rfl rfl rfl rfl
      have hlm := (H.sl mv).len
      have hrr : ∀ p ∈ rowsOf ms, IsSl w p.1 1 encI p.2 := H.rws 3 (rowsOf ms)
      have hone : ∀ k (h : k < ms.length), ms[k].row.1.oneCell' = true := fun k h => by
        obtain ⟨p, c, e⟩ := (hrr _ (rows_mem h)).shape
        rw [e]; rfl
      have honf : ∀ (q : Nat) (s : Int) (m : Mv), fnM (ms.take q).reverse s = some m → m.row.1.oneCell' = true := fun q s m h => by
        obtain ⟨z, hz, rfl⟩ := List.getElem_of_mem (List.mem_of_mem_take (List.mem_reverse.1 (fnM_mem h)))
        exact hone z hz
      refine t_n H (rem' := [13, 14, 15, 17, 18]) rfl ?_
      refine t_q 13 rfl (by kernel_rfl) (rem' := [14, 15, 17, 18]) rfl rfl rfl rfl S (fun w H => y_move rfl S rfl) fun a S => ?_
      refine t_q 14 rfl (by kernel_rfl) (rem' := [15, 17, 18]) rfl rfl rfl rfl S (fun w H => y_extract rfl S rfl rfl) fun a S => ?_
      refine t_p 15 rfl (by kernel_rfl) (rem' := [17, 18]) rfl rfl rfl rfl S (fun w => y_extract rfl S rfl rfl) fun a S => ?_
      refine t_b1 17 (by kernel_rfl) rfl fun w H => ?_
      refine op_storea (wn rfl) rfl rfl S H rfl rfl (by rw [List.all_cons, List.all_cons, List.all_cons, H.sl1 mv, H.sl1 vl, H.sl1 vr]; rfl) Fsiz43 rfl (cs' := [_, _, _]) rfl fun a w S H => ?_
      refine t_tail H rfl (rem' := [18]) rfl ?_
      refine t_q 18 rfl (by kernel_rfl) (rem' := []) rfl rfl rfl rfl S (fun w H => y_assign rfl S rfl) fun a S => ?_
      refine t_nil (fun w H => ?_)
      exact ⟨mv, vl, vr, b6, ms, hms, hlm, hone, honf, (S.nil.cons S 6 rfl).cons S 0 rfl, H.takeT [Cel b6 43 [mv, vl, vr], OSl 91 mv 3 Mv.enc ms, RowsA 3 1 encI (rowsOf ms), OSl 3 vl 1 encI (clP old next ts), OSl 3 vr 1 encI (crP old next ts), Cel b 78 [v1, v2, vt, .bool true], OSl 66 vt 11 Ow.enc ts, Sl v1 9 Pl.enc old, Sl v2 9 Pl.enc next] l⟩
    rintro a w ⟨mv, vl, vr, b6, ms, hms, hlm, hone, honf, S, H⟩
    refine gsr ?_
    refine ga S fun a S => ?_
    refine gnt ?_
    refine g_seq ?_
    refine gsr ?_
    refine ga S fun a S => ?_
    refine gnt ?_
    refine g_block ?_
    have H := H.nilO 66 11 Ow.enc
    have SU := (S.nil.cons S 6 rfl).cons S 0 rfl
    refine loopW (X := Nat × Value) SU (fun x => [(8, x.2), (9, .int .i64 (x.1 : Int))]) (fun x w => x.1 ≤ ts.length ∧ HSat M u0 (OSl 66 x.2 11 Ow.enc ((ts.take x.1).map (fin1 ms true)) :: Cel b6 43 [mv, vl, vr] :: OSl 91 mv 3 Mv.enc ms :: RowsA 3 1 encI (rowsOf ms) :: OSl 3 vl 1 encI (clP old next ts) :: OSl 3 vr 1 encI (crP old next ts) :: Cel b 78 [v1, v2, vt, .bool true] :: OSl 66 vt 11 Ow.enc ts :: Sl v1 9 Pl.enc old :: Sl v2 9 Pl.enc next :: l) w) (fun x => ts.length - x.1) (0, .slice none 0 0) ((S.nil.cons S 9 rfl).cons S 8 rfl) (⟨by simp, H⟩) (fun x a w S hW => ?_)
    simp only [List.cons_append, List.nil_append] at S
    clear H
    obtain ⟨k, vo⟩ := x
    obtain ⟨hk, H⟩ := hW
    dsimp only at S H hk
    refine g_seq ?_
    refine gsr ?_
    refine gm S fun a S => ?_
    refine gm S fun a S => ?_
    refine gy rfl rfl rfl S (y_nilCheck rfl S rfl) fun a S => ?_
    refine gy rfl rfl rfl S (y_faddrb rfl Ffo78_2 S rfl) fun a S => ?_
    refine gy rfl rfl rfl S (y_load rfl Fsca23 S H rfl rfl) fun a S => ?_
    refine gy rfl rfl rfl S (y_lens rfl Try.underlying23 S H rfl) fun a S => ?_
    refine gy rfl rfl rfl S (y_bin rfl S rfl rfl rfl) fun a S => ?_
    refine gnt ?_
    have S := ((((S.nil.cons S 6 rfl).cons S 0 rfl).cons S 9 rfl).cons S 8 rfl).cons S 49 rfl
    refine c_if S rfl (fun h4 => ?_) (fun h4 => ?_)
    ·have h4p := h4; try simp only [DL] at h4p
     have hkl : k < ts.length := by omega
     refine g_skip ?_
     refine n_then ?_
     refine g_seq ?_
     refine g_block ?_
     refine gsr ?_
     refine gm S fun a S => ?_
     refine gy rfl rfl rfl S (y_nilCheck rfl S rfl) fun a S => ?_
     refine gy rfl rfl rfl S (y_faddrb rfl Ffo78_2 S rfl) fun a S => ?_
     refine gy rfl rfl rfl S (y_load rfl Fsca23 S H rfl rfl) fun a S => ?_
     refine gm S fun a S => ?_
     refine gy rfl rfl rfl S (y_iaddrn rfl Try.underlying23 Fsiz66 S H rfl rfl (by first | assumption | omega | (simp only [LL]; omega))) fun a S => ?_
     refine gy rfl rfl rfl S (y_loadsa _ rfl S H rfl (by exact Fagg66) (by first | assumption | omega | (simp only [LL]; omega))) fun a S => ?_
     refine wl_of (op_alloc (wn rfl) rfl rfl rfl S H Fzer66 fun b10 a w S H => ?_)
     refine wl_of (op_storea (wn rfl) rfl rfl S H rfl rfl (Ow.all (hok _ (List.getElem_mem hkl))) Fsiz66 rfl (cs' := [_, _, _, _, _, _, _, _, _, _, _]) rfl fun a w S H => ?_)
     refine gnt ?_
     have S := ((((S.nil.cons S 6 rfl).cons S 0 rfl).cons S 9 rfl).cons S 8 rfl).cons S 10 rfl
     refine g_seq ?_
     refine gsr ?_
     refine ga S fun a S => ?_
     refine gnt ?_
     refine g_block ?_
     have SU := ((((S.nil.cons S 6 rfl).cons S 0 rfl).cons S 9 rfl).cons S 8 rfl).cons S 10 rfl
     refine loopW (X := Nat) SU (fun j => [(11, .int .i64 (j : Int))]) (fun j w => j ≤ ms.length ∧ ∃ x : Ow, x = setM ts[k] (fnM (ms.take j).reverse ts[k].serial) ∧ HSat M u0 (Cel b10 66 [.int .i64 x.serial, .int .i64 x.show_, .int .i64 x.place, x.first, x.chain, x.person, x.lines, .int .i64 x.total, x.means, .int .i64 x.gone, x.offers] :: OSl 66 vo 11 Ow.enc ((ts.take k).map (fin1 ms true)) :: Cel b6 43 [mv, vl, vr] :: OSl 91 mv 3 Mv.enc ms :: RowsA 3 1 encI (rowsOf ms) :: OSl 3 vl 1 encI (clP old next ts) :: OSl 3 vr 1 encI (crP old next ts) :: Cel b 78 [v1, v2, vt, .bool true] :: OSl 66 vt 11 Ow.enc ts :: Sl v1 9 Pl.enc old :: Sl v2 9 Pl.enc next :: l) w) (fun j => ms.length - j) 0 (S.nil.cons S 11 rfl) (⟨by omega, ts[k], rfl, H⟩) (fun j a w S hW => ?_)
     simp only [List.cons_append, List.nil_append] at S
     clear H
     obtain ⟨hj, x, hx, H⟩ := hW
     refine g_seq ?_
     refine gsr ?_
     refine gm S fun a S => ?_
     refine gy rfl rfl rfl S (y_faddrb rfl Ffo43_0 S rfl) fun a S => ?_
     refine gy rfl rfl rfl S (y_load rfl Fsca38 S H rfl rfl) fun a S => ?_
     refine gy rfl rfl rfl S (y_lens rfl Try.underlying38 S H rfl) fun a S => ?_
     refine gy rfl rfl rfl S (y_bin rfl S rfl rfl rfl) fun a S => ?_
     refine gnt ?_
     have S := ((((((S.nil.cons S 6 rfl).cons S 0 rfl).cons S 9 rfl).cons S 8 rfl).cons S 10 rfl).cons S 11 rfl).cons S 63 rfl
     refine c_if S rfl (fun h5 => ?_) (fun h5 => ?_)
     ·have h5p := h5; try simp only [DL] at h5p
      have hjl : j < ms.length := by omega
      refine g_skip ?_
      refine n_then ?_
      refine g_seq ?_
      refine g_block ?_
      refine g_seq ?_
      refine region_st (loud := []) (tails := []) (free := []) [0, 1, 2, 3, 4, 5, 6, 7, 8, 9] [] Fmo (by kernel_rfl) (by kernel_rfl) rfl H ?_
      refine m_w rfl rfl (wn rfl) rfl rfl S (fun w H => y_faddrb rfl Ffo43_0 S rfl) fun a S => ?_
      refine m_w rfl rfl (wn rfl) rfl rfl S (fun w H => y_load rfl Fsca38 S H rfl rfl) fun a S => ?_
      refine m_w rfl rfl (wn rfl) rfl rfl S (fun w H => y_move rfl S rfl) fun a S => ?_
      refine m_w rfl rfl (wn rfl) rfl rfl S (fun w H => y_iaddrn rfl Try.underlying38 Fsiz91 S H rfl rfl (by first | assumption | omega | (simp only [LL]; omega))) fun a S => ?_
      refine m_w rfl rfl (wn rfl) rfl rfl S (fun w H => y_faddr rfl Ffo91_0 S rfl) fun a S => ?_
      refine m_loadsf _ rfl rfl (wn rfl) rfl rfl S rfl Fsca3 rfl (by first | assumption | omega | (simp only [LL]; omega)) rfl fun a S => ?_
      refine m_w rfl rfl (wn rfl) rfl rfl S (fun w H => y_faddrb rfl Ffo66_0 S rfl) fun a S => ?_
      refine m_w rfl rfl (wn rfl) rfl rfl S (fun w H => y_faddrb rfl Ffo60_0 S rfl) fun a S => ?_
      refine m_w rfl rfl (wn rfl) rfl rfl S (fun w H => y_load rfl Fsca3 S H rfl rfl) fun a S => ?_
      refine m_w rfl rfl (wn rfl) rfl rfl S (fun w H => y_bin rfl S rfl rfl rfl) fun a S => ?_
      refine m_nil (fun w H => ?_)
      refine n_then ?_
      have S := ((((((S.nil.cons S 6 rfl).cons S 0 rfl).cons S 9 rfl).cons S 8 rfl).cons S 10 rfl).cons S 11 rfl).cons S 75 rfl
      refine c_if S rfl (fun h6 => ?_) (fun h6 => ?_)
      ·have h6p := h6; try simp only [DL] at h6p
       have hes : ms[j].serial = ts[k].serial := by have := h6p; rw [this, hx, setM_serial]
       have hfy := fnM_yes hjl hes
       refine gsr ?_
       refine gy rfl rfl rfl S (y_faddrb rfl Ffo43_0 S rfl) fun a S => ?_
       refine gy rfl rfl rfl S (y_load rfl Fsca38 S H rfl rfl) fun a S => ?_
       refine gm S fun a S => ?_
       refine gy rfl rfl rfl S (y_iaddrn rfl Try.underlying38 Fsiz91 S H rfl rfl (by first | assumption | omega | (simp only [LL]; omega))) fun a S => ?_
       refine gy rfl rfl rfl S (y_faddr rfl Ffo91_1 S rfl) fun a S => ?_
       refine gy rfl rfl rfl S (y_loadsf _ rfl Fsca3 S H rfl (by first | assumption | omega | (simp only [LL]; omega)) rfl) fun a S => ?_
       refine gy rfl rfl rfl S (y_faddrb rfl Ffo66_0 S rfl) fun a S => ?_
       refine gy rfl rfl rfl S (y_faddrb rfl Ffo60_2 S rfl) fun a S => ?_
       refine wl_of (op_store (wn rfl) rfl rfl S H rfl rfl rfl Fsiz3 rfl fun a w S H => ?_)
       dsimp only [List.set, Nat.zero_add, Nat.reduceAdd] at H
       refine gnt ?_
       have S := (((((S.nil.cons S 6 rfl).cons S 0 rfl).cons S 9 rfl).cons S 8 rfl).cons S 10 rfl).cons S 11 rfl
       refine g_region ?_
       refine gy rfl rfl rfl S (y_faddrb rfl Ffo43_0 S rfl) fun a S => ?_
       refine gy rfl rfl rfl S (y_load rfl Fsca38 S H rfl rfl) fun a S => ?_
       refine gm S fun a S => ?_
       refine gy rfl rfl rfl S (y_iaddrn rfl Try.underlying38 Fsiz91 S H rfl rfl (by first | assumption | omega | (simp only [LL]; omega))) fun a S => ?_
       refine gy rfl rfl rfl S (y_faddr rfl Ffo91_2 S rfl) fun a S => ?_
       refine gy rfl rfl rfl S (y_loadsf _ rfl Fsca39 S H rfl (by first | assumption | omega | (simp only [LL]; omega)) rfl) fun a S => ?_
       refine gy rfl rfl rfl S (y_faddrb rfl Ffo66_5 S rfl) fun a S => ?_
       refine wl_of (op_store (wn rfl) rfl rfl S H rfl rfl (hone j hjl) Fsiz39 rfl fun a w S H => ?_)
       dsimp only [List.set, Nat.zero_add, Nat.reduceAdd] at H
       refine gl_nil ?_
       refine n_block ?_
       refine n_then ?_
       have S := (((((S.nil.cons S 6 rfl).cons S 0 rfl).cons S 9 rfl).cons S 8 rfl).cons S 10 rfl).cons S 11 rfl
       refine g_region ?_
       refine gm S fun a S => ?_
       refine gy rfl rfl rfl S (y_add rfl S rfl rfl (by omega)) fun a S => ?_
       refine ga S fun a S => ?_
       refine gnt ?_
       first
       | exact ⟨j + 1, S.nil.cons S 11 rfl, ((((S.nil.cons S 6 rfl).cons S 0 rfl).cons S 9 rfl).cons S 8 rfl).cons S 10 rfl, ⟨by omega, { x with place := ms[j].to_, offers := ms[j].row.1 }, by rw [hfy, hx]; exact setM_again _ _ _, H.takeT [Cel b10 66 [.int .i64 x.serial, .int .i64 x.show_, .int .i64 ms[j].to_, x.first, x.chain, x.person, x.lines, .int .i64 x.total, x.means, .int .i64 x.gone, ms[j].row.1], OSl 66 vo 11 Ow.enc ((ts.take k).map (fin1 ms true)), Cel b6 43 [mv, vl, vr], OSl 91 mv 3 Mv.enc ms, RowsA 3 1 encI (rowsOf ms), OSl 3 vl 1 encI (clP old next ts), OSl 3 vr 1 encI (crP old next ts), Cel b 78 [v1, v2, vt, .bool true], OSl 66 vt 11 Ow.enc ts, Sl v1 9 Pl.enc old, Sl v2 9 Pl.enc next] l⟩, by omega⟩
       | exact ⟨j + 1, S.nil.cons S 11 rfl, ((((S.nil.cons S 6 rfl).cons S 0 rfl).cons S 9 rfl).cons S 8 rfl).cons S 10 rfl, ⟨by omega, x, by rw [hfn]; exact hx, H⟩, by omega⟩
      ·have h6p := h6; try simp only [DL] at h6p
       have hes : ms[j].serial ≠ ts[k].serial := by have hh := h6p; rw [hx, setM_serial] at hh; exact hh
       have hfn := fnM_no hjl hes
       refine g_skip ?_
       refine n_block ?_
       refine n_then ?_
       refine g_region ?_
       refine gm S fun a S => ?_
       refine gy rfl rfl rfl S (y_add rfl S rfl rfl (by omega)) fun a S => ?_
       refine ga S fun a S => ?_
       refine gnt ?_
       first
       | exact ⟨j + 1, S.nil.cons S 11 rfl, ((((S.nil.cons S 6 rfl).cons S 0 rfl).cons S 9 rfl).cons S 8 rfl).cons S 10 rfl, ⟨by omega, { x with place := ms[j].to_, offers := ms[j].row.1 }, by rw [hfy, hx]; exact setM_again _ _ _, H.takeT [Cel b10 66 [.int .i64 x.serial, .int .i64 x.show_, .int .i64 ms[j].to_, x.first, x.chain, x.person, x.lines, .int .i64 x.total, x.means, .int .i64 x.gone, ms[j].row.1], OSl 66 vo 11 Ow.enc ((ts.take k).map (fin1 ms true)), Cel b6 43 [mv, vl, vr], OSl 91 mv 3 Mv.enc ms, RowsA 3 1 encI (rowsOf ms), OSl 3 vl 1 encI (clP old next ts), OSl 3 vr 1 encI (crP old next ts), Cel b 78 [v1, v2, vt, .bool true], OSl 66 vt 11 Ow.enc ts, Sl v1 9 Pl.enc old, Sl v2 9 Pl.enc next] l⟩, by omega⟩
       | exact ⟨j + 1, S.nil.cons S 11 rfl, ((((S.nil.cons S 6 rfl).cons S 0 rfl).cons S 9 rfl).cons S 8 rfl).cons S 10 rfl, ⟨by omega, x, by rw [hfn]; exact hx, H⟩, by omega⟩
     ·have h5p := h5; try simp only [DL] at h5p
      obtain rfl : j = ms.length := by omega
      have hxok : x.ok := by rw [hx]; exact setM_ok (hok _ (List.getElem_mem hkl)) (honf _ _)
      rw [List.take_length] at hx
      have hfs := fin_setM (ms := ms) hkl
      rw [← hx] at hfs
      refine g_exit ?_
      refine x_then (x_then (x_eq ?_))
      refine n_then ?_
      refine g_region ?_
      refine gm S fun a S => ?_
      refine gy rfl rfl rfl S (y_load0 rfl S H rfl (by exact Fagg66)) fun a S => ?_
      refine wl_of (op_buildSlice (wn rfl) rfl rfl rfl Try.underlying23 Finf66 S H (idx := [0]) rfl rfl rfl (z := [.int .i64 0, .int .i64 0, .int .i64 0, .string ⟨#[]⟩, .slice none 0 0, .string ⟨#[]⟩, .slice none 0 0, .int .i64 0, .slice none 0 0, .int .i64 0, .slice none 0 0]) (by kernel_rfl) (cs := [.int .i64 x.serial, .int .i64 x.show_, .int .i64 x.place, x.first, x.chain, x.person, x.lines, .int .i64 x.total, x.means, .int .i64 x.gone, x.offers]) (by kernel_rfl) fun b93 a w S H => ?_)
      refine wl_of (op_append ([x]) (wn rfl) rfl rfl rfl Try.underlying23 Finf66 rfl rfl S H rfl rfl rfl rfl (by simp) (by simp [Ow.enc]) (by exact fun y hy u hu => by obtain rfl := List.mem_singleton.1 hy; exact List.all_eq_true.1 (Ow.all hxok) u hu) (by simp only [List.length_map, List.length_take, List.length_cons, List.length_nil]; omega) (by simp only [List.length_map, List.length_take, List.length_cons, List.length_nil]; omega) fun u94 a w hn94 S H => ?_)
      refine ga S fun a S => ?_
      refine gl_nil ?_
      refine n_block ?_
      refine n_then ?_
      have S := (((S.nil.cons S 6 rfl).cons S 0 rfl).cons S 9 rfl).cons S 8 rfl
      refine g_region ?_
      refine gm S fun a S => ?_
      refine gy rfl rfl rfl S (y_add rfl S rfl rfl (by omega)) fun a S => ?_
      refine ga S fun a S => ?_
      refine gnt ?_
      exact ⟨(k + 1, u94), (S.nil.cons S 9 rfl).cons S 8 rfl, (S.nil.cons S 6 rfl).cons S 0 rfl, ⟨by dsimp only; omega, by dsimp only; rw [hfs]; exact H.takeT [OSl 66 u94 11 Ow.enc ((ts.take k).map (fin1 ms true) ++ [x]), Cel b6 43 [mv, vl, vr], OSl 91 mv 3 Mv.enc ms, RowsA 3 1 encI (rowsOf ms), OSl 3 vl 1 encI (clP old next ts), OSl 3 vr 1 encI (crP old next ts), Cel b 78 [v1, v2, vt, .bool true], OSl 66 vt 11 Ow.enc ts, Sl v1 9 Pl.enc old, Sl v2 9 Pl.enc next] l⟩, by dsimp only; omega⟩
    ·have h4p := h4; try simp only [DL] at h4p
     obtain rfl : k = ts.length := by omega
     rw [List.take_length] at H
     refine g_exit ?_
     refine x_then (x_then (x_eq ?_))
     refine n_then ?_
     have S := S.nil.cons S 8 rfl
     refine gsr ?_
     refine gm S fun a S => ?_
     refine ga S fun a S => ?_
     refine ga S fun a S => ?_
     refine gnt ?_
     refine g_ret ?_
     refine ret2 rfl S rfl rfl ?_
     exact ⟨vo, ms, rfl, hms, H.takeT [OSl 66 vo 11 Ow.enc (ts.map (fin1 ms true)), RowsA 3 1 encI (rowsOf ms), Cel b 78 [v1, v2, vt, .bool true], Sl v1 9 Pl.enc old, Sl v2 9 Pl.enc next] l⟩
set_option maxHeartbeats 4000000 in
/-- foyer/foyerref42.Same -/
theorem rsame_spec (va vb : Value) (xs ys : List Ow) (fs : Nat → List Int) (w0 : World) (hva : IsSl w0 va 11 Ow.enc xs) (hvb : IsSl w0 vb 11 Ow.enc ys) (hlen : xs.length = ys.length) (hst : ∀ i (h : i < xs.length) (h2 : i < ys.length), xs[i].serial = ys[i].serial ∧ xs[i].place = ys[i].place ∧ xs[i].gone = ys[i].gone ∧ ∃ s : ByteArray, xs[i].person = .string s ∧ ys[i].person = .string s) (hoa : ∀ i (h : i < xs.length), IsSl w0 xs[i].offers 1 encI (fs i)) (hob : ∀ i (h : i < ys.length), IsSl w0 ys[i].offers 1 encI (fs i)) :
    Ret Try.prog 20 #[va, vb] w0 (fun u w => u = .bool true ∧ Ext w0 w) := by
 refine ret_of_wp (nt := 114) Try.func20 rfl rfl rfl (fl := [(0, va), (1, vb)]) rfl (fun a S => ?_)
 have H := HSat.start w0
 have H := H.ro0 (Sl va 11 Ow.enc xs) rfl (hva)
 have H := H.ro0 (Sl vb 11 Ow.enc ys) rfl (hvb)
 have hl1 := hva.len
 have hl2 := hvb.len
 refine gsr ?_
 refine ga S fun a S => ?_
 refine gnt ?_
 refine g_seq ?_
 refine gsr ?_
 refine gm S fun a S => ?_
 refine gy rfl rfl rfl S (y_lens rfl Try.underlying23 S H rfl) fun a S => ?_
 refine gm S fun a S => ?_
 refine gy rfl rfl rfl S (y_lens rfl Try.underlying23 S H rfl) fun a S => ?_
 refine gy rfl rfl rfl S (y_bin rfl S rfl rfl rfl) fun a S => ?_
 refine gnt ?_
 have S := (((S.nil.cons S 1 rfl).cons S 0 rfl).cons S 4 rfl).cons S 11 rfl
 refine c_if S rfl (fun h1 => ?_) (fun h1 => ?_)
 ·have h1p := h1; try simp only [DL] at h1p
  all_goals (
    have := h1p; omega)
 ·have h1p := h1; try simp only [DL] at h1p
  refine g_skip ?_
  refine n_then ?_
  refine g_seq ?_
  refine gsr ?_
  refine ga S fun a S => ?_
  refine gnt ?_
  refine g_block ?_
  have SU := (S.nil.cons S 1 rfl).cons S 0 rfl
  refine loopW (X := Nat) SU (fun k => [(5, .int .i64 (k : Int))]) (fun k w => k ≤ xs.length ∧ HSat No w0 [Sl vb 11 Ow.enc ys, Sl va 11 Ow.enc xs] w) (fun k => xs.length - k) 0 (S.nil.cons S 5 rfl) (⟨by omega, H⟩) (fun k a w S hW => ?_)
  simp only [List.cons_append, List.nil_append] at S
  clear H
  obtain ⟨hk, H⟩ := hW
  refine g_seq ?_
  refine gsr ?_
  refine gm S fun a S => ?_
  refine gm S fun a S => ?_
  refine gy rfl rfl rfl S (y_lens rfl Try.underlying23 S H rfl) fun a S => ?_
  refine gy rfl rfl rfl S (y_bin rfl S rfl rfl rfl) fun a S => ?_
  refine gnt ?_
  refine c_if S rfl (fun h2 => ?_) (fun h2 => ?_)
  ·have h2p := h2; try simp only [DL] at h2p
   have hka : k < xs.length := by omega
   have hkb : k < ys.length := by omega
   obtain ⟨e1, e2, e3, s, hp1, hp2⟩ := hst k hka hkb
   have hof := (hoa k hka).len
   have H := (H.ro0 (Sl xs[k].offers 1 encI (fs k)) rfl (hoa k hka)).ro0 (Sl ys[k].offers 1 encI (fs k)) rfl (hob k hkb)
   have hq1 : (xs[k].serial != ys[k].serial) = false := by rw [e1]; simp
   have hq2 : ((xs[k].serial != ys[k].serial) || (xs[k].place != ys[k].place)) = false := by rw [hq1, e2]; simp
   have hq3 : ((xs[k].serial != ys[k].serial) || (xs[k].place != ys[k].place) || (xs[k].gone != ys[k].gone)) = false := by rw [hq2, e3]; simp
   have hq4 : ((xs[k].serial != ys[k].serial) || (xs[k].place != ys[k].place) || (xs[k].gone != ys[k].gone) || (!decide (s = s))) = false := by rw [hq3]; simp
   have hq5 : ((xs[k].serial != ys[k].serial) || (xs[k].place != ys[k].place) || (xs[k].gone != ys[k].gone) || (!decide (s = s)) || (((fs k).length : Int) != ((fs k).length : Int))) = false := by rw [hq4]; simp
   refine g_skip ?_
   refine n_then ?_
   have S := ((S.nil.cons S 1 rfl).cons S 0 rfl).cons S 5 rfl
   refine g_seq ?_
   refine g_block ?_
   refine g_seq ?_
   refine g_seq ?_
   refine region_st (loud := []) (tails := []) (free := []) [0, 1, 2, 3, 4, 5, 6, 7, 8, 9, 10, 11, 12, 13, 14, 15, 16, 17, 18, 19, 20, 21, 22, 23, 24, 25, 26, 27, 28, 29, 30, 31, 32, 33, 34, 35, 36, 37, 38, 39, 40, 41, 42, 43, 44, 45, 46, 47, 48, 49, 50, 51, 52, 53, 54, 55, 56, 57, 58, 59, 60, 61, 62, 63, 64, 65, 66, 67, 68] [] Fmo (by kernel_rfl) (by kernel_rfl) rfl H ?_
   refine m_w rfl rfl (wn rfl) rfl rfl S (fun w H => y_move rfl S rfl) fun a S => ?_
   refine m_w rfl rfl (wn rfl) rfl rfl S (fun w H => y_move rfl S rfl) fun a S => ?_
   refine m_w rfl rfl (wn rfl) rfl rfl S (fun w H => y_iaddrn rfl Try.underlying23 Fsiz66 S H rfl rfl (by first | assumption | omega | (simp only [LL]; omega))) fun a S => ?_
   refine m_w rfl rfl (wn rfl) rfl rfl S (fun w H => y_faddr rfl Ffo66_0 S rfl) fun a S => ?_
   refine m_w rfl rfl (wn rfl) rfl rfl S (fun w H => y_faddr rfl Ffo60_0 S rfl) fun a S => ?_
   refine m_loadsff _ rfl rfl (wn rfl) rfl rfl S rfl Fsca3 rfl (by first | assumption | omega | (simp only [LL]; omega)) rfl fun a S => ?_
   refine m_w rfl rfl (wn rfl) rfl rfl S (fun w H => y_move rfl S rfl) fun a S => ?_
   refine m_w rfl rfl (wn rfl) rfl rfl S (fun w H => y_move rfl S rfl) fun a S => ?_
   refine m_w rfl rfl (wn rfl) rfl rfl S (fun w H => y_iaddrn rfl Try.underlying23 Fsiz66 S H rfl rfl (by first | assumption | omega | (simp only [LL]; omega))) fun a S => ?_
   refine m_w rfl rfl (wn rfl) rfl rfl S (fun w H => y_faddr rfl Ffo66_0 S rfl) fun a S => ?_
   refine m_w rfl rfl (wn rfl) rfl rfl S (fun w H => y_faddr rfl Ffo60_0 S rfl) fun a S => ?_
   refine m_loadsff _ rfl rfl (wn rfl) rfl rfl S rfl Fsca3 rfl (by first | assumption | omega | (simp only [LL]; omega)) rfl fun a S => ?_
   refine m_w rfl rfl (wn rfl) rfl rfl S (fun w H => y_bin rfl S rfl rfl rfl) fun a S => ?_
   refine m_w rfl rfl (wn rfl) rfl rfl S (fun w H => y_move rfl S rfl) fun a S => ?_
   refine m_w rfl rfl (wg' 31 rfl rfl S rfl hq1 rfl) rfl rfl S (fun w H => y_move rfl S rfl) fun a S => ?_
   refine m_w rfl rfl (wg' 31 rfl rfl S rfl hq1 rfl) rfl rfl S (fun w H => y_move rfl S rfl) fun a S => ?_
   refine m_w rfl rfl (wg' 31 rfl rfl S rfl hq1 rfl) rfl rfl S (fun w H => y_iaddrn rfl Try.underlying23 Fsiz66 S H rfl rfl (by first | assumption | omega | (simp only [LL]; omega))) fun a S => ?_
   refine m_w rfl rfl (wg' 31 rfl rfl S rfl hq1 rfl) rfl rfl S (fun w H => y_faddr rfl Ffo66_0 S rfl) fun a S => ?_
   refine m_w rfl rfl (wg' 31 rfl rfl S rfl hq1 rfl) rfl rfl S (fun w H => y_faddr rfl Ffo60_2 S rfl) fun a S => ?_
   refine m_loadsff _ rfl rfl (wg' 31 rfl rfl S rfl hq1 rfl) rfl rfl S rfl Fsca3 rfl (by first | assumption | omega | (simp only [LL]; omega)) rfl fun a S => ?_
   refine m_w rfl rfl (wg' 31 rfl rfl S rfl hq1 rfl) rfl rfl S (fun w H => y_move rfl S rfl) fun a S => ?_
   refine m_w rfl rfl (wg' 31 rfl rfl S rfl hq1 rfl) rfl rfl S (fun w H => y_move rfl S rfl) fun a S => ?_
   refine m_w rfl rfl (wg' 31 rfl rfl S rfl hq1 rfl) rfl rfl S (fun w H => y_iaddrn rfl Try.underlying23 Fsiz66 S H rfl rfl (by first | assumption | omega | (simp only [LL]; omega))) fun a S => ?_
   refine m_w rfl rfl (wg' 31 rfl rfl S rfl hq1 rfl) rfl rfl S (fun w H => y_faddr rfl Ffo66_0 S rfl) fun a S => ?_
   refine m_w rfl rfl (wg' 31 rfl rfl S rfl hq1 rfl) rfl rfl S (fun w H => y_faddr rfl Ffo60_2 S rfl) fun a S => ?_
   refine m_loadsff _ rfl rfl (wg' 31 rfl rfl S rfl hq1 rfl) rfl rfl S rfl Fsca3 rfl (by first | assumption | omega | (simp only [LL]; omega)) rfl fun a S => ?_
   refine m_w rfl rfl (wg' 31 rfl rfl S rfl hq1 rfl) rfl rfl S (fun w H => y_bin rfl S rfl rfl rfl) fun a S => ?_
   refine m_w rfl rfl (wn rfl) rfl rfl S (fun w H => y_or' rfl hq1 S rfl rfl) fun a S => ?_
   refine m_w rfl rfl (wn rfl) rfl rfl S (fun w H => y_move rfl S rfl) fun a S => ?_
   refine m_w rfl rfl (wg' 46 rfl rfl S rfl hq2 rfl) rfl rfl S (fun w H => y_move rfl S rfl) fun a S => ?_
   refine m_w rfl rfl (wg' 46 rfl rfl S rfl hq2 rfl) rfl rfl S (fun w H => y_move rfl S rfl) fun a S => ?_
   refine m_w rfl rfl (wg' 46 rfl rfl S rfl hq2 rfl) rfl rfl S (fun w H => y_iaddrn rfl Try.underlying23 Fsiz66 S H rfl rfl (by first | assumption | omega | (simp only [LL]; omega))) fun a S => ?_
   refine m_w rfl rfl (wg' 46 rfl rfl S rfl hq2 rfl) rfl rfl S (fun w H => y_faddr rfl Ffo66_4 S rfl) fun a S => ?_
   refine m_loadsf _ rfl rfl (wg' 46 rfl rfl S rfl hq2 rfl) rfl rfl S rfl Fsca3 rfl (by first | assumption | omega | (simp only [LL]; omega)) rfl fun a S => ?_
   refine m_w rfl rfl (wg' 46 rfl rfl S rfl hq2 rfl) rfl rfl S (fun w H => y_move rfl S rfl) fun a S => ?_
   refine m_w rfl rfl (wg' 46 rfl rfl S rfl hq2 rfl) rfl rfl S (fun w H => y_move rfl S rfl) fun a S => ?_
   refine m_w rfl rfl (wg' 46 rfl rfl S rfl hq2 rfl) rfl rfl S (fun w H => y_iaddrn rfl Try.underlying23 Fsiz66 S H rfl rfl (by first | assumption | omega | (simp only [LL]; omega))) fun a S => ?_
   refine m_w rfl rfl (wg' 46 rfl rfl S rfl hq2 rfl) rfl rfl S (fun w H => y_faddr rfl Ffo66_4 S rfl) fun a S => ?_
   refine m_loadsf _ rfl rfl (wg' 46 rfl rfl S rfl hq2 rfl) rfl rfl S rfl Fsca3 rfl (by first | assumption | omega | (simp only [LL]; omega)) rfl fun a S => ?_
   refine m_w rfl rfl (wg' 46 rfl rfl S rfl hq2 rfl) rfl rfl S (fun w H => y_bin rfl S rfl rfl rfl) fun a S => ?_
   refine m_w rfl rfl (wn rfl) rfl rfl S (fun w H => y_or' rfl hq2 S rfl rfl) fun a S => ?_
   refine m_w rfl rfl (wn rfl) rfl rfl S (fun w H => y_move rfl S rfl) fun a S => ?_
   refine m_w rfl rfl (wg' 59 rfl rfl S rfl hq3 rfl) rfl rfl S (fun w H => y_move rfl S rfl) fun a S => ?_
   refine m_w rfl rfl (wg' 59 rfl rfl S rfl hq3 rfl) rfl rfl S (fun w H => y_move rfl S rfl) fun a S => ?_
   refine m_w rfl rfl (wg' 59 rfl rfl S rfl hq3 rfl) rfl rfl S (fun w H => y_iaddrn rfl Try.underlying23 Fsiz66 S H rfl rfl (by first | assumption | omega | (simp only [LL]; omega))) fun a S => ?_
   refine m_w rfl rfl (wg' 59 rfl rfl S rfl hq3 rfl) rfl rfl S (fun w H => y_faddr rfl Ffo66_1 S rfl) fun a S => ?_
   refine m_loadsf _ rfl rfl (wg' 59 rfl rfl S rfl hq3 rfl) rfl rfl S rfl Fsca9 rfl (by first | assumption | omega | (simp only [LL]; omega)) rfl fun a S => ?_
   rw [hp1] at S
   refine m_w rfl rfl (wg' 59 rfl rfl S rfl hq3 rfl) rfl rfl S (fun w H => y_move rfl S rfl) fun a S => ?_
   refine m_w rfl rfl (wg' 59 rfl rfl S rfl hq3 rfl) rfl rfl S (fun w H => y_move rfl S rfl) fun a S => ?_
   refine m_w rfl rfl (wg' 59 rfl rfl S rfl hq3 rfl) rfl rfl S (fun w H => y_iaddrn rfl Try.underlying23 Fsiz66 S H rfl rfl (by first | assumption | omega | (simp only [LL]; omega))) fun a S => ?_
   refine m_w rfl rfl (wg' 59 rfl rfl S rfl hq3 rfl) rfl rfl S (fun w H => y_faddr rfl Ffo66_1 S rfl) fun a S => ?_
   refine m_loadsf _ rfl rfl (wg' 59 rfl rfl S rfl hq3 rfl) rfl rfl S rfl Fsca9 rfl (by first | assumption | omega | (simp only [LL]; omega)) rfl fun a S => ?_
   rw [hp2] at S
   refine m_w rfl rfl (wg' 59 rfl rfl S rfl hq3 rfl) rfl rfl S (fun w H => y_nes rfl Try.underlying9 S rfl rfl) fun a S => ?_
   refine m_w rfl rfl (wn rfl) rfl rfl S (fun w H => y_or' rfl hq3 S rfl rfl) fun a S => ?_
   refine m_w rfl rfl (wn rfl) rfl rfl S (fun w H => y_move rfl S rfl) fun a S => ?_
   refine m_w rfl rfl (wg' 72 rfl rfl S rfl hq4 rfl) rfl rfl S (fun w H => y_move rfl S rfl) fun a S => ?_
   refine m_w rfl rfl (wg' 72 rfl rfl S rfl hq4 rfl) rfl rfl S (fun w H => y_move rfl S rfl) fun a S => ?_
   refine m_w rfl rfl (wg' 72 rfl rfl S rfl hq4 rfl) rfl rfl S (fun w H => y_iaddrn rfl Try.underlying23 Fsiz66 S H rfl rfl (by first | assumption | omega | (simp only [LL]; omega))) fun a S => ?_
   refine m_w rfl rfl (wg' 72 rfl rfl S rfl hq4 rfl) rfl rfl S (fun w H => y_faddr rfl Ffo66_5 S rfl) fun a S => ?_
   refine m_loadsf _ rfl rfl (wg' 72 rfl rfl S rfl hq4 rfl) rfl rfl S rfl Fsca39 rfl (by first | assumption | omega | (simp only [LL]; omega)) rfl fun a S => ?_
   refine m_w rfl rfl (wg' 72 rfl rfl S rfl hq4 rfl) rfl rfl S (fun w H => y_lens rfl Try.underlying39 S H rfl) fun a S => ?_
   refine m_w rfl rfl (wg' 72 rfl rfl S rfl hq4 rfl) rfl rfl S (fun w H => y_move rfl S rfl) fun a S => ?_
   refine m_w rfl rfl (wg' 72 rfl rfl S rfl hq4 rfl) rfl rfl S (fun w H => y_move rfl S rfl) fun a S => ?_
   refine m_w rfl rfl (wg' 72 rfl rfl S rfl hq4 rfl) rfl rfl S (fun w H => y_iaddrn rfl Try.underlying23 Fsiz66 S H rfl rfl (by first | assumption | omega | (simp only [LL]; omega))) fun a S => ?_
   refine m_w rfl rfl (wg' 72 rfl rfl S rfl hq4 rfl) rfl rfl S (fun w H => y_faddr rfl Ffo66_5 S rfl) fun a S => ?_
   refine m_loadsf _ rfl rfl (wg' 72 rfl rfl S rfl hq4 rfl) rfl rfl S rfl Fsca39 rfl (by first | assumption | omega | (simp only [LL]; omega)) rfl fun a S => ?_
   refine m_w rfl rfl (wg' 72 rfl rfl S rfl hq4 rfl) rfl rfl S (fun w H => y_lens rfl Try.underlying39 S H rfl) fun a S => ?_
   refine m_w rfl rfl (wg' 72 rfl rfl S rfl hq4 rfl) rfl rfl S (fun w H => y_bin rfl S rfl rfl rfl) fun a S => ?_
   refine m_w rfl rfl (wn rfl) rfl rfl S (fun w H => y_or' rfl hq4 S rfl rfl) fun a S => ?_
   refine m_nil (fun w H => ?_)
   refine n_then ?_
   have S := (((S.nil.cons S 1 rfl).cons S 0 rfl).cons S 5 rfl).cons S 86 rfl
   refine c_if S rfl (fun h3 => ?_) (fun h3 => ?_)
   ·have h3p := h3; try simp only [DL] at h3p
    all_goals (
      have hh := h3; rw [hq5] at hh; cases hh)
   ·have h3p := h3; try simp only [DL] at h3p
    refine g_skip ?_
    refine n_then ?_
    refine gsr ?_
    refine ga S fun a S => ?_
    refine gnt ?_
    refine g_block ?_
    have SU := ((S.nil.cons S 1 rfl).cons S 0 rfl).cons S 5 rfl
    refine loop_k (X := Nat) SU (fun j => [(6, .int .i64 (j : Int))]) (fun j => j ≤ (fs k).length) (fun j => (fs k).length - j) 0 (S.nil.cons S 6 rfl) H (by omega) (fun j a w S H hi => ?_)
    simp only [List.cons_append, List.nil_append] at S hi
    refine g_seq ?_
    refine gsr ?_
    refine gm S fun a S => ?_
    refine gm S fun a S => ?_
    refine gm S fun a S => ?_
    refine gy rfl rfl rfl S (y_iaddrn rfl Try.underlying23 Fsiz66 S H rfl rfl (by first | assumption | omega | (simp only [LL]; omega))) fun a S => ?_
    refine gy rfl rfl rfl S (y_faddr rfl Ffo66_5 S rfl) fun a S => ?_
    refine gy rfl rfl rfl S (y_loadsf _ rfl Fsca39 S H rfl (by first | assumption | omega | (simp only [LL]; omega)) rfl) fun a S => ?_
    refine gy rfl rfl rfl S (y_lens rfl Try.underlying39 S H rfl) fun a S => ?_
    refine gy rfl rfl rfl S (y_bin rfl S rfl rfl rfl) fun a S => ?_
    refine gnt ?_
    have S := ((((S.nil.cons S 1 rfl).cons S 0 rfl).cons S 5 rfl).cons S 6 rfl).cons S 94 rfl
    refine c_if S rfl (fun h4 => ?_) (fun h4 => ?_)
    ·have h4p := h4; try simp only [DL] at h4p
     have hjl : j < (fs k).length := by omega
     refine g_skip ?_
     refine n_then ?_
     refine g_seq ?_
     refine g_block ?_
     refine g_seq ?_
     refine region_st (loud := []) (tails := []) (free := []) [0, 1, 2, 3, 4, 5, 6, 7, 8, 9, 10, 11, 12, 13, 14, 15, 16] [] Fmo (by kernel_rfl) (by kernel_rfl) rfl H ?_
     refine m_w rfl rfl (wn rfl) rfl rfl S (fun w H => y_move rfl S rfl) fun a S => ?_
     refine m_w rfl rfl (wn rfl) rfl rfl S (fun w H => y_move rfl S rfl) fun a S => ?_
     refine m_w rfl rfl (wn rfl) rfl rfl S (fun w H => y_iaddrn rfl Try.underlying23 Fsiz66 S H rfl rfl (by first | assumption | omega | (simp only [LL]; omega))) fun a S => ?_
     refine m_w rfl rfl (wn rfl) rfl rfl S (fun w H => y_faddr rfl Ffo66_5 S rfl) fun a S => ?_
     refine m_loadsf _ rfl rfl (wn rfl) rfl rfl S rfl Fsca39 rfl (by first | assumption | omega | (simp only [LL]; omega)) rfl fun a S => ?_
     refine m_w rfl rfl (wn rfl) rfl rfl S (fun w H => y_move rfl S rfl) fun a S => ?_
     refine m_w rfl rfl (wn rfl) rfl rfl S (fun w H => y_iaddrn rfl Try.underlying39 Fsiz3 S H rfl rfl (by first | assumption | omega | (simp only [LL]; omega))) fun a S => ?_
     refine m_loads _ rfl rfl (wn rfl) rfl rfl S rfl Fsca3 rfl (by first | assumption | omega | (simp only [LL]; omega)) rfl fun a S => ?_
     refine m_w rfl rfl (wn rfl) rfl rfl S (fun w H => y_move rfl S rfl) fun a S => ?_
     refine m_w rfl rfl (wn rfl) rfl rfl S (fun w H => y_move rfl S rfl) fun a S => ?_
     refine m_w rfl rfl (wn rfl) rfl rfl S (fun w H => y_iaddrn rfl Try.underlying23 Fsiz66 S H rfl rfl (by first | assumption | omega | (simp only [LL]; omega))) fun a S => ?_
     refine m_w rfl rfl (wn rfl) rfl rfl S (fun w H => y_faddr rfl Ffo66_5 S rfl) fun a S => ?_
     refine m_loadsf _ rfl rfl (wn rfl) rfl rfl S rfl Fsca39 rfl (by first | assumption | omega | (simp only [LL]; omega)) rfl fun a S => ?_
     refine m_w rfl rfl (wn rfl) rfl rfl S (fun w H => y_move rfl S rfl) fun a S => ?_
     refine m_w rfl rfl (wn rfl) rfl rfl S (fun w H => y_iaddrn rfl Try.underlying39 Fsiz3 S H rfl rfl (by first | assumption | omega | (simp only [LL]; omega))) fun a S => ?_
     refine m_loads _ rfl rfl (wn rfl) rfl rfl S rfl Fsca3 rfl (by first | assumption | omega | (simp only [LL]; omega)) rfl fun a S => ?_
     refine m_w rfl rfl (wn rfl) rfl rfl S (fun w H => y_bin rfl S rfl rfl rfl) fun a S => ?_
     refine m_nil (fun w H => ?_)
     refine n_then ?_
     have S := ((((S.nil.cons S 1 rfl).cons S 0 rfl).cons S 5 rfl).cons S 6 rfl).cons S 113 rfl
     refine c_if S rfl (fun h5 => ?_) (fun h5 => ?_)
     ·have h5p := h5; try simp only [DL] at h5p
      all_goals (
        have hh := h5p; exact hh (by simp))
     ·have h5p := h5; try simp only [DL] at h5p
      refine g_skip ?_
      refine n_block ?_
      refine n_then ?_
      refine g_region ?_
      refine gm S fun a S => ?_
      refine gy rfl rfl rfl S (y_add rfl S rfl rfl (by omega)) fun a S => ?_
      refine ga S fun a S => ?_
      refine gnt ?_
      exact ⟨j + 1, S.nil.cons S 6 rfl, ((S.nil.cons S 1 rfl).cons S 0 rfl).cons S 5 rfl, H, by omega, by omega⟩
    ·have h4p := h4; try simp only [DL] at h4p
     refine g_exit ?_
     refine x_then (x_then (x_eq ?_))
     refine n_block ?_
     refine n_then ?_
     refine g_region ?_
     refine gm S fun a S => ?_
     refine gy rfl rfl rfl S (y_add rfl S rfl rfl (by omega)) fun a S => ?_
     refine ga S fun a S => ?_
     refine gnt ?_
     exact ⟨k + 1, S.nil.cons S 5 rfl, (S.nil.cons S 1 rfl).cons S 0 rfl, ⟨by omega, H.take [Sl vb 11 Ow.enc ys, Sl va 11 Ow.enc xs]⟩, by omega⟩
  ·have h2p := h2; try simp only [DL] at h2p
   refine g_exit ?_
   refine x_then (x_then (x_eq ?_))
   refine n_then ?_
   have S := S.nil
   refine gsr ?_
   refine ga S fun a S => ?_
   refine gnt ?_
   refine g_ret ?_
   refine ret1 rfl S rfl ?_
   exact ⟨rfl, H.toExt⟩
end Go.Proofs.Ytnnendajegdnhaa
