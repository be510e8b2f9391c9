/- The walks. No condition. -/
import Derived.Test.YtenaoaegichecaaChecked
import Derived.Test.YtenaoaegichecaaGwBits
import Derived.Test.YtenaoaegichecaaFacts
import Derived.Test.YtenaoaegichecaaPlain
import Derived.Test.YtenaoaegichecaaPlainW
import Derived.Test.YtenaoaegichecaaW16
namespace Go.Proofs.Ytenaoaegichecaa
open Go Go.Gw
set_option linter.unusedVariables false
set_option linter.unusedSimpArgs false
/-- foyer/foyerlaw41.seat -/
theorem seat_spec (x y z : Int) (w0 : World) :
    Ret Try.prog 28 #[.int .i64 x, .int .i64 y, .int .i64 z] w0 (fun u w => u = .agg (Pl.enc (seatH x y z)).toArray ∧ Ext w0 w) := by
 refine ret_of_wp (nt := 11) Try.func28 rfl rfl rfl (fl := [(0, .int .i64 x), (1, .int .i64 y), (2, .int .i64 z)]) rfl (fun a S => ?_)
 have H := HSat.start w0
 refine g_seq ?_
 refine g_region ?_
 refine wl_of (op_alloc (wn rfl) rfl rfl rfl S H Fzer56 fun b6 a w S H => ?_)
 refine gl_nil ?_
 refine n_then ?_
 refine g_seq ?_
 refine g_region ?_
 refine gy rfl rfl rfl S (y_move rfl S rfl) fun a S => ?_
 refine gy rfl rfl rfl S (y_move rfl S rfl) fun a S => ?_
 refine gy rfl rfl rfl S (y_move rfl S rfl) fun a S => ?_
 refine gy rfl rfl rfl S (y_buildf rfl Fbld56 S rfl (idx := [3, 4, 7, 8]) rfl (cs := [.int .i64 (seatH x y z).kind, .int .i64 (seatH x y z).level, .int .i64 (seatH x y z).block, .int .i64 (seatH x y z).row, .int .i64 (seatH x y z).seat, .int .i64 (seatH x y z).x, .int .i64 (seatH x y z).y, .int .i64 (seatH x y z).view, .int .i64 (seatH x y z).with_]) (by kernel_rfl)) fun a S => ?_
 refine wl_of (op_storea (wn rfl) rfl rfl S H rfl rfl rfl Fsiz56 rfl (cs' := [_, _, _, _, _, _, _, _, _]) rfl fun a w S H => ?_)
 refine gl_nil ?_
 refine n_then ?_
 have S := S.nil.cons S 6 rfl
 refine g_ret ?_
 refine retc rfl S H rfl (by exact Fagg56) ?_
 exact ⟨rfl, H.toExt⟩
/-- foyer/foyerlaw41.owned -/
theorem owned_spec (x y : Int) (w0 : World) (ha : 0 ≤ x ∧ x ≤ 1000) :
    Ret Try.prog 19 #[.int .i64 x, .int .i64 y] w0 (fun u w => u = .agg (Ow.enc (owH x y)).toArray ∧ Ext w0 w) := by
 refine ret_of_wp (nt := 10) Try.func19 rfl rfl rfl (fl := [(0, .int .i64 x), (1, .int .i64 y)]) rfl (fun a S => ?_)
 have H := HSat.start w0
 refine g_seq ?_
 refine g_region ?_
 refine wl_of (op_alloc (wn rfl) rfl rfl rfl S H Fzer47 fun b4 a w S H => ?_)
 refine gl_nil ?_
 refine n_then ?_
 refine g_seq ?_
 refine g_region ?_
 refine gy rfl rfl rfl S (y_move rfl S rfl) fun a S => ?_
 refine gy rfl rfl rfl S (y_add rfl S rfl rfl (by omega)) fun a S => ?_
 refine gy rfl rfl rfl S (y_move rfl S rfl) fun a S => ?_
 refine gy rfl rfl rfl S (y_buildf rfl Fbld41 S rfl (idx := [0, 2]) rfl (cs := [.int .i64 (10000 + x), .int .i64 0, .int .i64 y, .string ⟨#[]⟩, .slice none 0 0]) (by kernel_rfl)) fun a S => ?_
 refine gy rfl rfl rfl S (y_buildf rfl Fbld47 S rfl (idx := [0]) rfl (cs := [.int .i64 (owH x y).serial, .int .i64 (owH x y).show_, .int .i64 (owH x y).place, (owH x y).first, (owH x y).chain, (owH x y).person, (owH x y).lines, .int .i64 (owH x y).total, (owH x y).means, .int .i64 (owH x y).gone, (owH x y).offers]) (by kernel_rfl)) fun a S => ?_
 refine wl_of (op_storea (wn rfl) rfl rfl S H rfl rfl (Ow.all (owH_ok x y)) Fsiz47 rfl (cs' := [_, _, _, _, _, _, _, _, _, _, _]) rfl fun a w S H => ?_)
 refine gl_nil ?_
 refine n_then ?_
 have S := S.nil.cons S 4 rfl
 refine g_ret ?_
 refine retc rfl S H rfl (by exact Fagg47) ?_
 exact ⟨rfl, H.toExt⟩
/-- foyer/foyerlaw41.short -/
theorem short_spec (mvv vl vr : Value) (ms : List Mv) (left right : List Int) (w0 : World) (hmv : IsSl w0 mvv 3 Mv.enc ms) (hmr : ∀ p ∈ rowsOf ms, IsSl w0 p.1 1 encI p.2) (hvl : IsSl w0 vl 1 encI left) (hvr : IsSl w0 vr 1 encI right) :
    Ret Try.prog 13 #[.agg #[mvv, vl, vr]] w0 (fun u w => u = .bool (shortB ms left right) ∧ Ext w0 w) := by
 refine ret_of_wp (nt := 37) Try.func13 rfl rfl rfl (fl := [(0, .agg #[mvv, vl, vr])]) rfl (fun a S => ?_)
 have H := HSat.start w0
 have H := H.ro0 (Sl vl 1 encI left) rfl (hvl)
 have H := H.ro0 (Sl vr 1 encI right) rfl (hvr)
 have H := H.ro0 (Sl mvv 3 Mv.enc ms) rfl (hmv)
 have H := H.ro0 (RowsS 1 encI (rowsOf ms)) rfl (hmr)
 have hlm := hmv.len
 refine g_seq ?_
 refine g_region ?_
 refine wl_of (op_boxa (wn rfl) rfl rfl rfl S H rfl fun b1 a w S H => ?_)
 refine gy rfl rfl rfl S (y_assign rfl S rfl) fun a S => ?_
 refine gl_nil ?_
 refine n_then ?_
 refine g_seq ?_
 refine g_seq ?_
 refine g_region ?_
 refine gy rfl rfl rfl S (y_assign rfl S rfl) fun a S => ?_
 refine gl_nil ?_
 refine n_then ?_
 refine g_block ?_
 have SU := S.nil.cons S 1 rfl
 refine loop_k (X := Nat) SU (fun k => [(3, .int .i64 (k : Int))]) (fun k => k ≤ ms.length ∧ ∀ j (hj : j < ms.length), j < k → (ms[j].row.2.length : Int) ≤ 20) (fun k => ms.length - k) 0 (S.nil.cons S 3 rfl) H (⟨by omega, fun j hj h => by omega⟩) (fun k a w S H hi => ?_)
 simp only [List.cons_append, List.nil_append] at S hi
 obtain ⟨hk, hno⟩ := hi
 refine g_seq ?_
 refine g_seq ?_
 refine g_region ?_
 refine gy rfl rfl rfl S (y_move rfl S rfl) fun a S => ?_
 refine gy rfl rfl rfl S (y_faddrb rfl Ffo29_0 S rfl) fun a S => ?_
 refine gy rfl rfl rfl S (y_load rfl Fsca24 S H rfl rfl) fun a S => ?_
 refine gy rfl rfl rfl S (y_lens rfl Try.underlying24 S H rfl) fun a S => ?_
 refine gy rfl rfl rfl S (y_bin rfl S rfl rfl rfl) fun a S => ?_
 refine gl_nil ?_
 refine n_then ?_
 refine c_if S rfl (fun h1 => ?_) (fun h1 => ?_)
 ·have h1p := h1; try simp only [DL] at h1p
  have hkl : k < ms.length := by omega
  refine g_skip ?_
  refine n_then ?_
  refine g_seq ?_
  refine g_block ?_
  refine g_seq ?_
  refine g_region ?_
  refine gy rfl rfl rfl S (y_faddrb rfl Ffo29_0 S rfl) fun a S => ?_
  refine gy rfl rfl rfl S (y_load rfl Fsca24 S H rfl rfl) fun a S => ?_
  refine gy rfl rfl rfl S (y_move rfl S rfl) fun a S => ?_
  refine gy rfl rfl rfl S (y_iaddrn rfl Try.underlying24 Fsiz50 S H rfl rfl (by first | assumption | omega | (simp only [List.length_append, List.length_take, List.length_drop, List.length_replicate, List.length_set, List.length_map, List.length_cons, List.length_nil]; omega))) fun a S => ?_
  refine gy rfl rfl rfl S (y_faddr rfl Ffo50_2 S rfl) fun a S => ?_
  refine gy rfl rfl rfl S (y_loadsf _ rfl Fsca25 S H rfl (by omega) rfl) fun a S => ?_
  refine gy rfl rfl rfl S ((by first | exact y_len rfl Try.underlying25 S rfl | exact y_lens rfl Try.underlying25 S H rfl)) fun a S => ?_
  refine gy rfl rfl rfl S (y_bin rfl S rfl rfl rfl) fun a S => ?_
  refine gl_nil ?_
  refine n_then ?_
  refine c_if S rfl (fun h2 => ?_) (fun h2 => ?_)
  ·have h2p := h2; try simp only [DL] at h2p
   refine g_seq ?_
   refine g_region ?_
   refine gy rfl rfl rfl S (y_assign rfl S rfl) fun a S => ?_
   refine gl_nil ?_
   refine n_then ?_
   refine g_ret ?_
   refine r_block (r_then (r_then (r_block (r_then (ret1 rfl S rfl ?_)))))
   exact ⟨congrArg Value.bool (short_no hkl (by have := h2p; omega)).symm, H.toExt⟩
  ·have h2p := h2; try simp only [DL] at h2p
   refine g_skip ?_
   refine n_block ?_
   refine n_then ?_
   refine g_region ?_
   refine gy rfl rfl rfl S (y_move rfl S rfl) fun a S => ?_
   refine gy rfl rfl rfl S (y_add rfl S rfl rfl (by omega)) fun a S => ?_
   refine gy rfl rfl rfl S (y_assign rfl S rfl) fun a S => ?_
   refine gl_nil ?_
   refine n_then ?_
   refine ⟨k + 1, S.nil.cons S 3 rfl, S.nil.cons S 1 rfl, H, ?_, ?_⟩
   · exact ⟨by omega, fun j hj h => by by_cases e : j < k; exact hno j hj e; (obtain rfl : j = k := by omega); have := h2p; omega⟩
   · omega
 ·have h1p := h1; try simp only [DL] at h1p
  obtain rfl : k = ms.length := by omega
  refine g_exit ?_
  refine x_then (x_then (x_eq ?_))
  refine n_then ?_
  have S := S.nil.cons S 1 rfl
  refine g_seq ?_
  refine g_region ?_
  refine gy rfl rfl rfl S (y_faddrb rfl Ffo29_0 S rfl) fun a S => ?_
  refine gy rfl rfl rfl S (y_load rfl Fsca24 S H rfl rfl) fun a S => ?_
  refine gy rfl rfl rfl S (y_lens rfl Try.underlying24 S H rfl) fun a S => ?_
  refine gy rfl rfl rfl S (y_bin rfl S rfl rfl rfl) fun a S => ?_
  refine gy rfl rfl rfl S (y_move rfl S rfl) fun a S => ?_
  refine' wl_and 5 23 rfl S H rfl rfl rfl rfl rfl rfl rfl (fun _ S => (wn rfl)) (fun h3 kk => ?yh3) (fun a w S H => ?_)
  case yh3 =>
   have h3p := h3; try simp only [DL] at h3p
   refine gz 23 h3 S rfl rfl rfl rfl rfl rfl (y_faddrb rfl Ffo29_1 S rfl) fun a S => ?_
   refine gz 23 h3 S rfl rfl rfl rfl rfl rfl (y_faddrb rfl Ffo27_0 S rfl) fun a S => ?_
   refine gz 23 h3 S rfl rfl rfl rfl rfl rfl (y_load rfl Fsca25 S H rfl rfl) fun a S => ?_
   refine gz 23 h3 S rfl rfl rfl rfl rfl rfl (y_lens rfl Try.underlying25 S H rfl) fun a S => ?_
   refine gz 23 h3 S rfl rfl rfl rfl rfl rfl (y_bin rfl S rfl rfl rfl) fun a S => ?_
   refine gy rfl rfl rfl S (y_and' rfl h3 S rfl rfl) fun a S => ?_
   exact kk _ _ (S.join 6 29 rfl rfl) H
  refine gy rfl rfl rfl S (y_move rfl S rfl) fun a S => ?_
  refine' wl_and 5 30 rfl S H rfl rfl rfl rfl rfl rfl rfl (fun _ S => (wn rfl)) (fun h4 kk => ?yh4) (fun a w S H => ?_)
  case yh4 =>
   have h4p := h4; try simp only [DL] at h4p
   refine gz 30 h4 S rfl rfl rfl rfl rfl rfl (y_faddrb rfl Ffo29_1 S rfl) fun a S => ?_
   refine gz 30 h4 S rfl rfl rfl rfl rfl rfl (y_faddrb rfl Ffo27_1 S rfl) fun a S => ?_
   refine gz 30 h4 S rfl rfl rfl rfl rfl rfl (y_load rfl Fsca25 S H rfl rfl) fun a S => ?_
   refine gz 30 h4 S rfl rfl rfl rfl rfl rfl (y_lens rfl Try.underlying25 S H rfl) fun a S => ?_
   refine gz 30 h4 S rfl rfl rfl rfl rfl rfl (y_bin rfl S rfl rfl rfl) fun a S => ?_
   refine gy rfl rfl rfl S (y_and' rfl h4 S rfl rfl) fun a S => ?_
   exact kk _ _ (S.join 6 36 rfl rfl) H
  refine gy rfl rfl rfl S (y_assign rfl S rfl) fun a S => ?_
  refine gl_nil ?_
  refine n_then ?_
  have S := S.nil.cons S 2 rfl
  refine g_ret ?_
  refine ret1 rfl S rfl ?_
  exact ⟨congrArg Value.bool (short_end (fun j hj => hno j hj hj)).symm, H.toExt⟩

theorem plan_any (v1 v2 : Value) (old next : List Pl) (v3 : Value) (ts : List Ow) (w0 : World) (hv1 : IsSl w0 v1 9 Pl.enc old) (hv2 : IsSl w0 v2 9 Pl.enc next) (hv3 : IsSl w0 v3 11 Ow.enc ts) (hok : ∀ o ∈ ts, o.ok) (hl1 : ts.length ≤ 100000) : Ret Try.prog 14 #[v1, v2, v3] w0 (fun u w => ∃ mv vl vr, ∃ ms : List Mv, u = .tuple #[.agg #[mv, vl, vr], .int .i64 (errP old next ts)] ∧ ms.map Mv.say = sayP old next ts ∧ HSat No w0 [OSl 50 mv 3 Mv.enc ms, RowsA 3 1 encI (rowsOf ms), OSl 3 vl 1 encI (clP old next ts), OSl 3 vr 1 encI (crP old next ts)] w) := by
  by_cases herr : errP old next ts = 0
  · refine Ret.mono (plan_ok v1 v2 old next v3 ts w0 hv1 hv2 hv3 hok hl1 herr) ?_
    rintro _ w ⟨mv, vl, vr, ms, rfl, hms, H⟩
    refine ⟨mv, vl, vr, ms, by rw [herr], by unfold sayP; rw [if_pos herr]; exact hms, ?_⟩
    unfold clP crP
    rw [if_pos herr, if_pos herr]; exact H
  · refine Ret.mono (plan_err v1 v2 old next v3 ts w0 hv1 hv2 hv3 hok hl1 herr) ?_
    rintro _ w ⟨rfl, he⟩
    refine ⟨.slice none 0 0, .slice none 0 0, .slice none 0 0, [], rfl, by unfold sayP; rw [if_neg herr]; rfl, ?_⟩
    unfold clP crP
    rw [if_neg herr, if_neg herr]
    exact ((((HSat.start w0).ext he).nilO 3 1 encI).nilO 3 1 encI |>.rowsZ 3 1 encI).nilO 50 3 Mv.enc

theorem rplan_any (v1 v2 : Value) (old next : List Pl) (v3 : Value) (ts : List Ow) (w0 : World) (hv1 : IsSl w0 v1 9 Pl.enc old) (hv2 : IsSl w0 v2 9 Pl.enc next) (hv3 : IsSl w0 v3 11 Ow.enc ts) (hok : ∀ o ∈ ts, o.ok) (hl1 : ts.length ≤ 100000) : Ret Try.prog 15 #[v1, v2, v3] w0 (fun u w => ∃ mv vl vr, ∃ ms : List Mv, u = .tuple #[.agg #[mv, vl, vr], .int .i64 (errP old next ts)] ∧ ms.map Mv.say = sayP old next ts ∧ HSat No w0 [OSl 50 mv 3 Mv.enc ms, RowsA 3 1 encI (rowsOf ms), OSl 3 vl 1 encI (clP old next ts), OSl 3 vr 1 encI (crP old next ts)] w) := by
  by_cases herr : errP old next ts = 0
  · refine Ret.mono (rplan_ok v1 v2 old next v3 ts w0 hv1 hv2 hv3 hok hl1 herr) ?_
    rintro _ w ⟨mv, vl, vr, ms, rfl, hms, H⟩
    refine ⟨mv, vl, vr, ms, by rw [herr], by unfold sayP; rw [if_pos herr]; exact hms, ?_⟩
    unfold clP crP
    rw [if_pos herr, if_pos herr]; exact H
  · refine Ret.mono (rplan_err v1 v2 old next v3 ts w0 hv1 hv2 hv3 hok hl1 herr) ?_
    rintro _ w ⟨rfl, he⟩
    refine ⟨.slice none 0 0, .slice none 0 0, .slice none 0 0, [], rfl, by unfold sayP; rw [if_neg herr]; rfl, ?_⟩
    unfold clP crP
    rw [if_neg herr, if_neg herr]
    exact ((((HSat.start w0).ext he).nilO 3 1 encI).nilO 3 1 encI |>.rowsZ 3 1 encI).nilO 50 3 Mv.enc

theorem check_any (v1 v2 : Value) (old next : List Pl) (v3 : Value) (ts : List Ow) (w0 : World) (hv1 : IsSl w0 v1 9 Pl.enc old) (hv2 : IsSl w0 v2 9 Pl.enc next) (hv3 : IsSl w0 v3 11 Ow.enc ts) (hok : ∀ o ∈ ts, o.ok) (hl1 : ts.length ≤ 100000) (mvv vl vr : Value) (ms : List Mv) (left right : List Int) (hmv : IsSl w0 mvv 3 Mv.enc ms) (hmr : ∀ p ∈ rowsOf ms, IsSl w0 p.1 1 encI p.2) (hvl : IsSl w0 vl 1 encI left) (hvr : IsSl w0 vr 1 encI right) (hcl : capOK vl) (hll : left.length ≤ 100000) (hlr : right.length ≤ 100000) : Ret Try.prog 17 #[v1, v2, v3, .agg #[mvv, vl, vr]] w0 (fun u w => u = .bool (chkW old next ts (ms.map Mv.say) left right) ∧ Ext w0 w) := by
  by_cases herr : errP old next ts = 0
  · unfold chkW
    rw [if_pos herr]
    exact check41_ok v1 v2 old next v3 ts w0 hv1 hv2 hv3 hok hl1 mvv vl vr ms left right hmv hmr hvl hvr hcl hll hlr herr
  · unfold chkW
    rw [if_neg herr]
    exact check41_err v1 v2 old next v3 ts w0 hv1 hv2 hv3 hok hl1 mvv vl vr ms left right hmv hmr hvl hvr hcl hll hlr herr

theorem rcheck_any (v1 v2 : Value) (old next : List Pl) (v3 : Value) (ts : List Ow) (w0 : World) (hv1 : IsSl w0 v1 9 Pl.enc old) (hv2 : IsSl w0 v2 9 Pl.enc next) (hv3 : IsSl w0 v3 11 Ow.enc ts) (hok : ∀ o ∈ ts, o.ok) (hl1 : ts.length ≤ 100000) (mvv vl vr : Value) (ms : List Mv) (left right : List Int) (hmv : IsSl w0 mvv 3 Mv.enc ms) (hmr : ∀ p ∈ rowsOf ms, IsSl w0 p.1 1 encI p.2) (hvl : IsSl w0 vl 1 encI left) (hvr : IsSl w0 vr 1 encI right) (hcl : capOK vl) (hll : left.length ≤ 100000) (hlr : right.length ≤ 100000) : Ret Try.prog 18 #[v1, v2, v3, .agg #[mvv, vl, vr]] w0 (fun u w => u = .bool (chkW old next ts (ms.map Mv.say) left right) ∧ Ext w0 w) := by
  by_cases herr : errP old next ts = 0
  · unfold chkW
    rw [if_pos herr]
    exact rcheck41_ok v1 v2 old next v3 ts w0 hv1 hv2 hv3 hok hl1 mvv vl vr ms left right hmv hmr hvl hvr hcl hll hlr herr
  · unfold chkW
    rw [if_neg herr]
    exact rcheck41_err v1 v2 old next v3 ts w0 hv1 hv2 hv3 hok hl1 mvv vl vr ms left right hmv hmr hvl hvr hcl hll hlr herr

set_option maxHeartbeats 8000000 in
/-- foyer/foyerlaw41.head -/
theorem head_spec (w0 : World) :
    Ret Try.prog 11 #[] w0 (fun v w => v = .bool true ∧ Ext w0 w) := by
 refine ret_of_wp (nt := 233) Try.func11 rfl rfl rfl (fl := []) rfl (fun a S => ?_)
 have H := HSat.start w0
 refine g_seq ?_
 refine g_region ?_
 refine gy rfl rfl rfl S (y_assign rfl S rfl) fun a S => ?_
 refine gl_nil ?_
 refine n_then ?_
 refine g_seq ?_
 refine g_region ?_
 refine wl_of (op_call (wn rfl) rfl rfl S (co_func rfl Try.call28 S rfl) (seat_spec _ _ _ _) fun v w hc a S => ?_)
 obtain ⟨rfl, he⟩ := hc
 have H := H.ext he
 refine wl_of (op_call (wn rfl) rfl rfl S (co_func rfl Try.call28 S rfl) (seat_spec _ _ _ _) fun v w hc a S => ?_)
 obtain ⟨rfl, he⟩ := hc
 have H := H.ext he
 refine wl_of (op_call (wn rfl) rfl rfl S (co_func rfl Try.call28 S rfl) (seat_spec _ _ _ _) fun v w hc a S => ?_)
 obtain ⟨rfl, he⟩ := hc
 have H := H.ext he
 refine wl_of (op_buildSlice (wn rfl) rfl rfl rfl Try.underlying22 Finf56 S H (idx := [0, 1, 2]) rfl rfl rfl (z := [.int .i64 0, .int .i64 0, .int .i64 0, .int .i64 0, .int .i64 0, .int .i64 0, .int .i64 0, .int .i64 0, .int .i64 0, .int .i64 0, .int .i64 0, .int .i64 0, .int .i64 0, .int .i64 0, .int .i64 0, .int .i64 0, .int .i64 0, .int .i64 0, .int .i64 0, .int .i64 0, .int .i64 0, .int .i64 0, .int .i64 0, .int .i64 0, .int .i64 0, .int .i64 0, .int .i64 0]) (by kernel_rfl) (cs := [.int .i64 (seatH 0 1 0).kind, .int .i64 (seatH 0 1 0).level, .int .i64 (seatH 0 1 0).block, .int .i64 (seatH 0 1 0).row, .int .i64 (seatH 0 1 0).seat, .int .i64 (seatH 0 1 0).x, .int .i64 (seatH 0 1 0).y, .int .i64 (seatH 0 1 0).view, .int .i64 (seatH 0 1 0).with_, .int .i64 (seatH 0 2 0).kind, .int .i64 (seatH 0 2 0).level, .int .i64 (seatH 0 2 0).block, .int .i64 (seatH 0 2 0).row, .int .i64 (seatH 0 2 0).seat, .int .i64 (seatH 0 2 0).x, .int .i64 (seatH 0 2 0).y, .int .i64 (seatH 0 2 0).view, .int .i64 (seatH 0 2 0).with_, .int .i64 (seatH 0 3 1).kind, .int .i64 (seatH 0 3 1).level, .int .i64 (seatH 0 3 1).block, .int .i64 (seatH 0 3 1).row, .int .i64 (seatH 0 3 1).seat, .int .i64 (seatH 0 3 1).x, .int .i64 (seatH 0 3 1).y, .int .i64 (seatH 0 3 1).view, .int .i64 (seatH 0 3 1).with_]) (by kernel_rfl) fun b19 a w S H => ?_)
 have H := H.celO oldH Pl.enc 9 (m := 3) rfl (fun _ _ => rfl) rfl (by omega)
 refine gy rfl rfl rfl S (y_assign rfl S rfl) fun a S => ?_
 refine gl_nil ?_
 refine n_then ?_
 have S := (S.nil.cons S 0 rfl).cons S 1 rfl
 refine g_seq ?_
 refine g_region ?_
 refine wl_of (op_call (wn rfl) rfl rfl S (co_func rfl Try.call19 S rfl) (owned_spec _ _ _ (by omega)) fun v w hc a S => ?_)
 obtain ⟨rfl, he⟩ := hc
 have H := H.ext he
 refine wl_of (op_call (wn rfl) rfl rfl S (co_func rfl Try.call19 S rfl) (owned_spec _ _ _ (by omega)) fun v w hc a S => ?_)
 obtain ⟨rfl, he⟩ := hc
 have H := H.ext he
 refine wl_of (op_call (wn rfl) rfl rfl S (co_func rfl Try.call19 S rfl) (owned_spec _ _ _ (by omega)) fun v w hc a S => ?_)
 obtain ⟨rfl, he⟩ := hc
 have H := H.ext he
 refine wl_of (op_buildSlice (wn rfl) rfl rfl rfl Try.underlying23 Finf47 S H (idx := [0, 1, 2]) rfl rfl rfl (z := [.int .i64 0, .int .i64 0, .int .i64 0, .string ⟨#[]⟩, .slice none 0 0, .string ⟨#[]⟩, .slice none 0 0, .int .i64 0, .slice none 0 0, .int .i64 0, .slice none 0 0, .int .i64 0, .int .i64 0, .int .i64 0, .string ⟨#[]⟩, .slice none 0 0, .string ⟨#[]⟩, .slice none 0 0, .int .i64 0, .slice none 0 0, .int .i64 0, .slice none 0 0, .int .i64 0, .int .i64 0, .int .i64 0, .string ⟨#[]⟩, .slice none 0 0, .string ⟨#[]⟩, .slice none 0 0, .int .i64 0, .slice none 0 0, .int .i64 0, .slice none 0 0]) (by kernel_rfl) (cs := [.int .i64 (owH 1 0).serial, .int .i64 (owH 1 0).show_, .int .i64 (owH 1 0).place, (owH 1 0).first, (owH 1 0).chain, (owH 1 0).person, (owH 1 0).lines, .int .i64 (owH 1 0).total, (owH 1 0).means, .int .i64 (owH 1 0).gone, (owH 1 0).offers, .int .i64 (owH 2 1).serial, .int .i64 (owH 2 1).show_, .int .i64 (owH 2 1).place, (owH 2 1).first, (owH 2 1).chain, (owH 2 1).person, (owH 2 1).lines, .int .i64 (owH 2 1).total, (owH 2 1).means, .int .i64 (owH 2 1).gone, (owH 2 1).offers, .int .i64 (owH 3 2).serial, .int .i64 (owH 3 2).show_, .int .i64 (owH 3 2).place, (owH 3 2).first, (owH 3 2).chain, (owH 3 2).person, (owH 3 2).lines, .int .i64 (owH 3 2).total, (owH 3 2).means, .int .i64 (owH 3 2).gone, (owH 3 2).offers]) (by kernel_rfl) fun b23 a w S H => ?_)
 have H := H.celO tsH Ow.enc 11 (m := 3) rfl (fun _ _ => rfl) rfl (by omega)
 refine gy rfl rfl rfl S (y_assign rfl S rfl) fun a S => ?_
 refine gl_nil ?_
 refine n_then ?_
 have S := ((S.nil.cons S 0 rfl).cons S 1 rfl).cons S 2 rfl
 refine g_seq ?_
 refine g_region ?_
 refine gy rfl rfl rfl S (y_move rfl S rfl) fun a S => ?_
 refine gy rfl rfl rfl S (y_move rfl S rfl) fun a S => ?_
 refine gy rfl rfl rfl S (y_move rfl S rfl) fun a S => ?_
 refine wl_of (op_call (wn rfl) rfl rfl S (co_func rfl Try.call14 S rfl) (plan_any (.slice (some ⟨b19, 0, none⟩) 3 3) (.slice (some ⟨b19, 0, none⟩) 3 3) oldH oldH (.slice (some ⟨b23, 0, none⟩) 3 3) tsH _ (H.sl (.slice (some ⟨b19, 0, none⟩) 3 3)) (H.sl (.slice (some ⟨b19, 0, none⟩) 3 3)) (H.sl (.slice (some ⟨b23, 0, none⟩) 3 3)) tsH_ok (by decide)) fun v w hc a S => ?_)
 obtain ⟨mvA, vlA, vrA, msA, rfl, hmA, H1⟩ := hc
 have H := H.call4 H1 rfl rfl rfl rfl
 obtain ⟨pA, qA, rA, hmsA, hpA, hqA, hrA⟩ := mv3 (hmA.trans sayA)
 subst hmsA
 refine gy rfl rfl rfl S (y_move rfl S rfl) fun a S => ?_
 refine gy rfl rfl rfl S (y_extract rfl S rfl rfl) fun a S => ?_
 refine gy rfl rfl rfl S (y_extract rfl S rfl rfl) fun a S => ?_
 rw [errA] at S
 refine wl_of (op_alloc (wn rfl) rfl rfl rfl S H Fzer29 fun b3 a w S H => ?_)
 refine wl_of (op_storea (wn rfl) rfl rfl S H rfl rfl (by simp only [List.all_cons, List.all_nil, H.sl1 mvA, H.sl1 vlA, H.sl1 vrA, Bool.true_and]) Fsiz29 rfl (cs' := [_, _, _]) rfl fun a w S H => ?_)
 refine gy rfl rfl rfl S (y_assign rfl S rfl) fun a S => ?_
 refine gl_nil ?_
 refine n_then ?_
 have S := ((((S.nil.cons S 0 rfl).cons S 1 rfl).cons S 2 rfl).cons S 3 rfl).cons S 4 rfl
 refine g_seq ?_
 refine g_region ?_
 refine gy rfl rfl rfl S (y_move rfl S rfl) fun a S => ?_
 refine gy rfl rfl rfl S (y_move rfl S rfl) fun a S => ?_
 refine gy rfl rfl rfl S (y_sliceH rfl Try.underlying22 Fsiz56 S H rfl rfl (by first | decide | assumption | exact ⟨by omega, by simp⟩ | (simp; done) | omega)) fun a S => ?_
 refine gy rfl rfl rfl S (y_move rfl S rfl) fun a S => ?_
 refine wl_of (op_call (wn rfl) rfl rfl S (co_func rfl Try.call14 S rfl) (plan_any (.slice (some ⟨b19, 0, none⟩) 3 3) (subV (.slice (some ⟨b19, 0, none⟩) 3 3) 0 2 9) oldH ((oldH.take 2).drop 0) (.slice (some ⟨b23, 0, none⟩) 3 3) tsH _ (H.sl (.slice (some ⟨b19, 0, none⟩) 3 3)) (H.sl (subV (.slice (some ⟨b19, 0, none⟩) 3 3) 0 2 9)) (H.sl (.slice (some ⟨b23, 0, none⟩) 3 3)) tsH_ok (by decide)) fun v w hc a S => ?_)
 obtain ⟨mvB, vlB, vrB, msB, rfl, hmB, H1⟩ := hc
 have H := H.call4 H1 rfl rfl rfl rfl
 obtain ⟨pB, qB, rB, hmsB, hpB, hqB, hrB⟩ := mv3 (hmB.trans sayB)
 subst hmsB
 refine gy rfl rfl rfl S (y_move rfl S rfl) fun a S => ?_
 refine gy rfl rfl rfl S (y_extract rfl S rfl rfl) fun a S => ?_
 refine gy rfl rfl rfl S (y_extract rfl S rfl rfl) fun a S => ?_
 rw [errB] at S
 refine wl_of (op_alloc (wn rfl) rfl rfl rfl S H Fzer29 fun b5 a w S H => ?_)
 refine wl_of (op_storea (wn rfl) rfl rfl S H rfl rfl (by simp only [List.all_cons, List.all_nil, H.sl1 mvB, H.sl1 vlB, H.sl1 vrB, Bool.true_and]) Fsiz29 rfl (cs' := [_, _, _]) rfl fun a w S H => ?_)
 refine gy rfl rfl rfl S (y_assign rfl S rfl) fun a S => ?_
 refine gl_nil ?_
 refine n_then ?_
 have S := ((((((S.nil.cons S 0 rfl).cons S 1 rfl).cons S 2 rfl).cons S 3 rfl).cons S 4 rfl).cons S 5 rfl).cons S 6 rfl
 refine g_seq ?_
 refine g_region ?_
 refine wl_of (op_call (wn rfl) rfl rfl S (co_func rfl Try.call28 S rfl) (seat_spec _ _ _ _) fun v w hc a S => ?_)
 obtain ⟨rfl, he⟩ := hc
 have H := H.ext he
 refine wl_of (op_call (wn rfl) rfl rfl S (co_func rfl Try.call28 S rfl) (seat_spec _ _ _ _) fun v w hc a S => ?_)
 obtain ⟨rfl, he⟩ := hc
 have H := H.ext he
 refine wl_of (op_buildSlice (wn rfl) rfl rfl rfl Try.underlying22 Finf56 S H (idx := [0, 1]) rfl rfl rfl (z := [.int .i64 0, .int .i64 0, .int .i64 0, .int .i64 0, .int .i64 0, .int .i64 0, .int .i64 0, .int .i64 0, .int .i64 0, .int .i64 0, .int .i64 0, .int .i64 0, .int .i64 0, .int .i64 0, .int .i64 0, .int .i64 0, .int .i64 0, .int .i64 0]) (by kernel_rfl) (cs := [.int .i64 (seatH 0 1 1).kind, .int .i64 (seatH 0 1 1).level, .int .i64 (seatH 0 1 1).block, .int .i64 (seatH 0 1 1).row, .int .i64 (seatH 0 1 1).seat, .int .i64 (seatH 0 1 1).x, .int .i64 (seatH 0 1 1).y, .int .i64 (seatH 0 1 1).view, .int .i64 (seatH 0 1 1).with_, .int .i64 (seatH 1 1 0).kind, .int .i64 (seatH 1 1 0).level, .int .i64 (seatH 1 1 0).block, .int .i64 (seatH 1 1 0).row, .int .i64 (seatH 1 1 0).seat, .int .i64 (seatH 1 1 0).x, .int .i64 (seatH 1 1 0).y, .int .i64 (seatH 1 1 0).view, .int .i64 (seatH 1 1 0).with_]) (by kernel_rfl) fun b41 a w S H => ?_)
 have H := H.celO nextH Pl.enc 9 (m := 2) rfl (fun _ _ => rfl) rfl (by omega)
 refine gy rfl rfl rfl S (y_assign rfl S rfl) fun a S => ?_
 refine gl_nil ?_
 refine n_then ?_
 refine g_seq ?_
 refine g_region ?_
 refine gy rfl rfl rfl S (y_move rfl S rfl) fun a S => ?_
 refine gy rfl rfl rfl S (y_move rfl S rfl) fun a S => ?_
 refine gy rfl rfl rfl S (y_move rfl S rfl) fun a S => ?_
 refine wl_of (op_call (wn rfl) rfl rfl S (co_func rfl Try.call14 S rfl) (plan_any (.slice (some ⟨b19, 0, none⟩) 3 3) (.slice (some ⟨b41, 0, none⟩) 2 2) oldH nextH (.slice (some ⟨b23, 0, none⟩) 3 3) tsH _ (H.sl (.slice (some ⟨b19, 0, none⟩) 3 3)) (H.sl (.slice (some ⟨b41, 0, none⟩) 2 2)) (H.sl (.slice (some ⟨b23, 0, none⟩) 3 3)) tsH_ok (by decide)) fun v w hc a S => ?_)
 obtain ⟨mvC, vlC, vrC, msC, rfl, hmC, H1⟩ := hc
 have H := H.call4 H1 rfl rfl rfl rfl
 obtain ⟨pC, qC, rC, hmsC, hpC, hqC, hrC⟩ := mv3 (hmC.trans sayC)
 subst hmsC
 refine gy rfl rfl rfl S (y_move rfl S rfl) fun a S => ?_
 refine gy rfl rfl rfl S (y_extract rfl S rfl rfl) fun a S => ?_
 refine gy rfl rfl rfl S (y_extract rfl S rfl rfl) fun a S => ?_
 rw [errC] at S
 refine wl_of (op_alloc (wn rfl) rfl rfl rfl S H Fzer29 fun b8 a w S H => ?_)
 refine wl_of (op_storea (wn rfl) rfl rfl S H rfl rfl (by simp only [List.all_cons, List.all_nil, H.sl1 mvC, H.sl1 vlC, H.sl1 vrC, Bool.true_and]) Fsiz29 rfl (cs' := [_, _, _]) rfl fun a w S H => ?_)
 refine gy rfl rfl rfl S (y_assign rfl S rfl) fun a S => ?_
 refine gl_nil ?_
 refine n_then ?_
 have S := (((((((((S.nil.cons S 0 rfl).cons S 1 rfl).cons S 2 rfl).cons S 3 rfl).cons S 4 rfl).cons S 5 rfl).cons S 6 rfl).cons S 7 rfl).cons S 8 rfl).cons S 9 rfl
 refine g_seq ?_
 refine g_region ?_
 refine gy rfl rfl rfl S (y_move rfl S rfl) fun a S => ?_
 refine gy rfl rfl rfl S (y_move rfl S rfl) fun a S => ?_
 refine wl_of (op_call (wn rfl) rfl rfl S (co_func rfl Try.call14 S rfl) (plan_any (.slice (some ⟨b19, 0, none⟩) 3 3) (.slice none 0 0) oldH [] (.slice (some ⟨b23, 0, none⟩) 3 3) tsH _ (H.sl (.slice (some ⟨b19, 0, none⟩) 3 3)) (IsSl.nil _ 9 Pl.enc) (H.sl (.slice (some ⟨b23, 0, none⟩) 3 3)) tsH_ok (by decide)) fun v w hc a S => ?_)
 obtain ⟨mvD, vlD, vrD, msD, rfl, hmD, H1⟩ := hc
 have H := H.call4 H1 rfl rfl rfl rfl
 obtain ⟨pD, qD, rD, hmsD, hpD, hqD, hrD⟩ := mv3 (hmD.trans sayD)
 subst hmsD
 refine gy rfl rfl rfl S (y_move rfl S rfl) fun a S => ?_
 refine gy rfl rfl rfl S (y_extract rfl S rfl rfl) fun a S => ?_
 refine gy rfl rfl rfl S (y_extract rfl S rfl rfl) fun a S => ?_
 rw [errD] at S
 refine wl_of (op_alloc (wn rfl) rfl rfl rfl S H Fzer29 fun b10 a w S H => ?_)
 refine wl_of (op_storea (wn rfl) rfl rfl S H rfl rfl (by simp only [List.all_cons, List.all_nil, H.sl1 mvD, H.sl1 vlD, H.sl1 vrD, Bool.true_and]) Fsiz29 rfl (cs' := [_, _, _]) rfl fun a w S H => ?_)
 refine gy rfl rfl rfl S (y_assign rfl S rfl) fun a S => ?_
 refine gl_nil ?_
 refine n_then ?_
 have S := (((((((((((S.nil.cons S 0 rfl).cons S 1 rfl).cons S 2 rfl).cons S 3 rfl).cons S 4 rfl).cons S 5 rfl).cons S 6 rfl).cons S 7 rfl).cons S 8 rfl).cons S 9 rfl).cons S 10 rfl).cons S 11 rfl
 refine g_seq ?_
 refine g_region ?_
 refine gy rfl rfl rfl S (y_move rfl S rfl) fun a S => ?_
 refine gy rfl rfl rfl S (y_move rfl S rfl) fun a S => ?_
 refine gy rfl rfl rfl S (y_move rfl S rfl) fun a S => ?_
 refine wl_of (op_call (wn rfl) rfl rfl S (co_func rfl Try.call19 S rfl) (owned_spec _ _ _ (by omega)) fun v w hc a S => ?_)
 obtain ⟨rfl, he⟩ := hc
 have H := H.ext he
 refine wl_of (op_buildSlice (wn rfl) rfl rfl rfl Try.underlying23 Finf47 S H (idx := [0]) rfl rfl rfl (z := [.int .i64 0, .int .i64 0, .int .i64 0, .string ⟨#[]⟩, .slice none 0 0, .string ⟨#[]⟩, .slice none 0 0, .int .i64 0, .slice none 0 0, .int .i64 0, .slice none 0 0]) (by kernel_rfl) (cs := [.int .i64 (owH 4 0).serial, .int .i64 (owH 4 0).show_, .int .i64 (owH 4 0).place, (owH 4 0).first, (owH 4 0).chain, (owH 4 0).person, (owH 4 0).lines, .int .i64 (owH 4 0).total, (owH 4 0).means, .int .i64 (owH 4 0).gone, (owH 4 0).offers]) (by kernel_rfl) fun b60 a w S H => ?_)
 refine wl_of (op_appendG ([owH 4 0]) (wn rfl) rfl rfl rfl Try.underlying23 Finf47 rfl rfl S H rfl rfl (by decide) rfl rfl (by simp) (by simp [Ow.enc]) (by simp only [List.mem_singleton]; rintro y rfl u hu; exact List.all_eq_true.1 (Ow.all (owH_ok 4 0)) u hu) (by decide) (by decide) fun u61 a w hn61 S H => ?_)
 refine wl_of (op_call (wn rfl) rfl rfl S (co_func rfl Try.call14 S rfl) (plan_any (.slice (some ⟨b19, 0, none⟩) 3 3) (.slice (some ⟨b19, 0, none⟩) 3 3) oldH oldH u61 (tsH ++ [owH 4 0]) _ (H.sl (.slice (some ⟨b19, 0, none⟩) 3 3)) (H.sl (.slice (some ⟨b19, 0, none⟩) 3 3)) (H.sl u61) (fun o ho => (List.mem_append.1 ho).elim (tsH_ok o) (fun h => by rw [List.mem_singleton.1 h]; exact owH_ok 4 0)) (by decide)) fun v w hc a S => ?_)
 obtain ⟨mvE, vlE, vrE, msE, rfl, hmE, H1⟩ := hc
 have H := H.call4 H1 rfl rfl rfl rfl
 refine gy rfl rfl rfl S (y_move rfl S rfl) fun a S => ?_
 refine gy rfl rfl rfl S (y_extract rfl S rfl rfl) fun a S => ?_
 refine gy rfl rfl rfl S (y_extract rfl S rfl rfl) fun a S => ?_
 rw [errE] at S
 refine wl_of (op_alloc (wn rfl) rfl rfl rfl S H Fzer29 fun b12 a w S H => ?_)
 refine wl_of (op_storea (wn rfl) rfl rfl S H rfl rfl (by simp only [List.all_cons, List.all_nil, H.sl1 mvE, H.sl1 vlE, H.sl1 vrE, Bool.true_and]) Fsiz29 rfl (cs' := [_, _, _]) rfl fun a w S H => ?_)
 refine gy rfl rfl rfl S (y_assign rfl S rfl) fun a S => ?_
 refine gl_nil ?_
 refine n_then ?_
 have S := ((((((((((((S.nil.cons S 0 rfl).cons S 1 rfl).cons S 2 rfl).cons S 3 rfl).cons S 4 rfl).cons S 5 rfl).cons S 6 rfl).cons S 7 rfl).cons S 8 rfl).cons S 9 rfl).cons S 10 rfl).cons S 11 rfl).cons S 13 rfl
 refine g_seq ?_
 refine g_seq ?_
 refine g_region ?_
 refine gy rfl rfl rfl S (y_move rfl S rfl) fun a S => ?_
 refine gy rfl rfl rfl S (y_bin rfl S rfl rfl rfl) fun a S => ?_
 refine gy rfl rfl rfl S (y_move rfl S rfl) fun a S => ?_
 refine' wl_or 2 67 rfl S H rfl rfl rfl rfl rfl rfl rfl (fun _ S => (wn rfl)) (fun h1 kk => ?yh1) (fun a w S H => ?_)
 case yh1 =>
  have h1p := h1; try simp only [DL] at h1p
  refine gz 67 h1 S rfl rfl rfl rfl rfl rfl (y_move rfl S rfl) fun a S => ?_
  refine gz 67 h1 S rfl rfl rfl rfl rfl rfl (y_bin rfl S rfl rfl rfl) fun a S => ?_
  refine gy rfl rfl rfl S (y_or' rfl h1 S rfl rfl) fun a S => ?_
  exact kk _ _ (S.join 3 70 rfl rfl) H
 refine gy rfl rfl rfl S (y_move rfl S rfl) fun a S => ?_
 refine' wl_or 2 71 rfl S H rfl rfl rfl rfl rfl rfl rfl (fun _ S => (wn rfl)) (fun h2 kk => ?yh2) (fun a w S H => ?_)
 case yh2 =>
  have h2p := h2; try simp only [DL] at h2p
  refine gz 71 h2 S rfl rfl rfl rfl rfl rfl (y_move rfl S rfl) fun a S => ?_
  refine gz 71 h2 S rfl rfl rfl rfl rfl rfl (y_bin rfl S rfl rfl rfl) fun a S => ?_
  refine gy rfl rfl rfl S (y_or' rfl h2 S rfl rfl) fun a S => ?_
  exact kk _ _ (S.join 3 74 rfl rfl) H
 refine gy rfl rfl rfl S (y_move rfl S rfl) fun a S => ?_
 refine' wl_or 2 75 rfl S H rfl rfl rfl rfl rfl rfl rfl (fun _ S => (wn rfl)) (fun h3 kk => ?yh3) (fun a w S H => ?_)
 case yh3 =>
  have h3p := h3; try simp only [DL] at h3p
  refine gz 75 h3 S rfl rfl rfl rfl rfl rfl (y_move rfl S rfl) fun a S => ?_
  refine gz 75 h3 S rfl rfl rfl rfl rfl rfl (y_bin rfl S rfl rfl rfl) fun a S => ?_
  refine gy rfl rfl rfl S (y_or' rfl h3 S rfl rfl) fun a S => ?_
  exact kk _ _ (S.join 3 78 rfl rfl) H
 refine gy rfl rfl rfl S (y_move rfl S rfl) fun a S => ?_
 refine' wl_or 2 79 rfl S H rfl rfl rfl rfl rfl rfl rfl (fun _ S => (wn rfl)) (fun h4 kk => ?yh4) (fun a w S H => ?_)
 case yh4 =>
  have h4p := h4; try simp only [DL] at h4p
  refine gz 79 h4 S rfl rfl rfl rfl rfl rfl (y_move rfl S rfl) fun a S => ?_
  refine gz 79 h4 S rfl rfl rfl rfl rfl rfl (y_bin rfl S rfl rfl rfl) fun a S => ?_
  refine gy rfl rfl rfl S (y_or' rfl h4 S rfl rfl) fun a S => ?_
  exact kk _ _ (S.join 3 82 rfl rfl) H
 refine gy rfl rfl rfl S (y_move rfl S rfl) fun a S => ?_
 refine' wl_or 4 83 rfl S H rfl rfl rfl rfl rfl rfl rfl (fun _ S => (wn rfl)) (fun h5 kk => ?yh5) (fun a w S H => ?_)
 case yh5 =>
  have h5p := h5; try simp only [DL] at h5p
  refine gz 83 h5 S rfl rfl rfl rfl rfl rfl (y_faddrb rfl Ffo29_0 S rfl) fun a S => ?_
  refine gz 83 h5 S rfl rfl rfl rfl rfl rfl (y_load rfl Fsca24 S H rfl rfl) fun a S => ?_
  refine gz 83 h5 S rfl rfl rfl rfl rfl rfl (y_lens rfl Try.underlying24 S H rfl) fun a S => ?_
  refine gz 83 h5 S rfl rfl rfl rfl rfl rfl (y_bin rfl S rfl rfl rfl) fun a S => ?_
  refine gy rfl rfl rfl S (y_or' rfl h5 S rfl rfl) fun a S => ?_
  exact kk _ _ (S.join 5 88 rfl rfl) H
 refine gy rfl rfl rfl S (y_move rfl S rfl) fun a S => ?_
 refine' wl_or 4 89 rfl S H rfl rfl rfl rfl rfl rfl rfl (fun _ S => (wn rfl)) (fun h6 kk => ?yh6) (fun a w S H => ?_)
 case yh6 =>
  have h6p := h6; try simp only [DL] at h6p
  refine gz 89 h6 S rfl rfl rfl rfl rfl rfl (y_faddrb rfl Ffo29_0 S rfl) fun a S => ?_
  refine gz 89 h6 S rfl rfl rfl rfl rfl rfl (y_load rfl Fsca24 S H rfl rfl) fun a S => ?_
  refine gz 89 h6 S rfl rfl rfl rfl rfl rfl (y_lens rfl Try.underlying24 S H rfl) fun a S => ?_
  refine gz 89 h6 S rfl rfl rfl rfl rfl rfl (y_bin rfl S rfl rfl rfl) fun a S => ?_
  refine gy rfl rfl rfl S (y_or' rfl h6 S rfl rfl) fun a S => ?_
  exact kk _ _ (S.join 5 94 rfl rfl) H
 refine gy rfl rfl rfl S (y_move rfl S rfl) fun a S => ?_
 refine' wl_or 4 95 rfl S H rfl rfl rfl rfl rfl rfl rfl (fun _ S => (wn rfl)) (fun h7 kk => ?yh7) (fun a w S H => ?_)
 case yh7 =>
  have h7p := h7; try simp only [DL] at h7p
  refine gz 95 h7 S rfl rfl rfl rfl rfl rfl (y_faddrb rfl Ffo29_0 S rfl) fun a S => ?_
  refine gz 95 h7 S rfl rfl rfl rfl rfl rfl (y_load rfl Fsca24 S H rfl rfl) fun a S => ?_
  refine gz 95 h7 S rfl rfl rfl rfl rfl rfl (y_lens rfl Try.underlying24 S H rfl) fun a S => ?_
  refine gz 95 h7 S rfl rfl rfl rfl rfl rfl (y_bin rfl S rfl rfl rfl) fun a S => ?_
  refine gy rfl rfl rfl S (y_or' rfl h7 S rfl rfl) fun a S => ?_
  exact kk _ _ (S.join 5 100 rfl rfl) H
 refine gy rfl rfl rfl S (y_move rfl S rfl) fun a S => ?_
 refine' wl_or 4 101 rfl S H rfl rfl rfl rfl rfl rfl rfl (fun _ S => (wn rfl)) (fun h8 kk => ?yh8) (fun a w S H => ?_)
 case yh8 =>
  have h8p := h8; try simp only [DL] at h8p
  refine gz 101 h8 S rfl rfl rfl rfl rfl rfl (y_faddrb rfl Ffo29_0 S rfl) fun a S => ?_
  refine gz 101 h8 S rfl rfl rfl rfl rfl rfl (y_load rfl Fsca24 S H rfl rfl) fun a S => ?_
  refine gz 101 h8 S rfl rfl rfl rfl rfl rfl (y_lens rfl Try.underlying24 S H rfl) fun a S => ?_
  refine gz 101 h8 S rfl rfl rfl rfl rfl rfl (y_bin rfl S rfl rfl rfl) fun a S => ?_
  refine gy rfl rfl rfl S (y_or' rfl h8 S rfl rfl) fun a S => ?_
  exact kk _ _ (S.join 5 106 rfl rfl) H
 refine gl_nil ?_
 refine n_then ?_
 have S := ((((((((S.nil.cons S 0 rfl).cons S 1 rfl).cons S 2 rfl).cons S 3 rfl).cons S 5 rfl).cons S 7 rfl).cons S 8 rfl).cons S 10 rfl).cons S 106 rfl
 refine c_if S rfl (fun h9 => ?_) (fun h9 => ?_)
 ·have h9p := h9; try simp only [DL] at h9p
  all_goals (
    simp at h9)
 ·have h9p := h9; try simp only [DL] at h9p
  skip
  refine g_skip ?_
  refine n_then ?_
  refine g_seq ?_
  refine g_region ?_
  refine gy rfl rfl rfl S (y_faddrb rfl Ffo29_0 S rfl) fun a S => ?_
  refine gy rfl rfl rfl S (y_load rfl Fsca24 S H rfl rfl) fun a S => ?_
  refine gy rfl rfl rfl S (y_iaddrs rfl Try.underlying24 Fsiz50 S H rfl rfl (by first | decide | assumption | exact ⟨by omega, by simp⟩ | (simp; done) | omega)) fun a S => ?_
  refine gy rfl rfl rfl S (y_faddr rfl Ffo50_1 S rfl) fun a S => ?_
  refine gy rfl rfl rfl S (y_loadsf _ rfl Fsca3 S H rfl (by first | decide | assumption | exact ⟨by omega, by simp⟩ | (simp; done) | omega) rfl) fun a S => ?_
  refine gy rfl rfl rfl S (y_bin rfl S rfl rfl rfl) fun a S => ?_
  refine gy rfl rfl rfl S (y_move rfl S rfl) fun a S => ?_
  refine' wl_and 6 113 rfl S H rfl rfl rfl rfl rfl rfl rfl (fun _ S => (wn rfl)) (fun h10 kk => ?yh10) (fun a w S H => ?_)
  case yh10 =>
   have h10p := h10; try simp only [DL] at h10p
   refine gz 113 h10 S rfl rfl rfl rfl rfl rfl (y_faddrb rfl Ffo29_0 S rfl) fun a S => ?_
   refine gz 113 h10 S rfl rfl rfl rfl rfl rfl (y_load rfl Fsca24 S H rfl rfl) fun a S => ?_
   refine gz 113 h10 S rfl rfl rfl rfl rfl rfl (y_iaddrs rfl Try.underlying24 Fsiz50 S H rfl rfl (by first | decide | assumption | exact ⟨by omega, by simp⟩ | (simp; done) | omega)) fun a S => ?_
   refine gz 113 h10 S rfl rfl rfl rfl rfl rfl (y_faddr rfl Ffo50_1 S rfl) fun a S => ?_
   refine gz 113 h10 S rfl rfl rfl rfl rfl rfl (y_loadsf _ rfl Fsca3 S H rfl (by first | decide | assumption | exact ⟨by omega, by simp⟩ | (simp; done) | omega) rfl) fun a S => ?_
   refine gz 113 h10 S rfl rfl rfl rfl rfl rfl (y_bin rfl S rfl rfl rfl) fun a S => ?_
   refine gy rfl rfl rfl S (y_and' rfl h10 S rfl rfl) fun a S => ?_
   exact kk _ _ (S.join 7 120 rfl rfl) H
  refine gy rfl rfl rfl S (y_move rfl S rfl) fun a S => ?_
  refine' wl_and 6 121 rfl S H rfl rfl rfl rfl rfl rfl rfl (fun _ S => (wn rfl)) (fun h11 kk => ?yh11) (fun a w S H => ?_)
  case yh11 =>
   have h11p := h11; try simp only [DL] at h11p
   refine gz 121 h11 S rfl rfl rfl rfl rfl rfl (y_faddrb rfl Ffo29_0 S rfl) fun a S => ?_
   refine gz 121 h11 S rfl rfl rfl rfl rfl rfl (y_load rfl Fsca24 S H rfl rfl) fun a S => ?_
   refine gz 121 h11 S rfl rfl rfl rfl rfl rfl (y_iaddrs rfl Try.underlying24 Fsiz50 S H rfl rfl (by first | decide | assumption | exact ⟨by omega, by simp⟩ | (simp; done) | omega)) fun a S => ?_
   refine gz 121 h11 S rfl rfl rfl rfl rfl rfl (y_faddr rfl Ffo50_1 S rfl) fun a S => ?_
   refine gz 121 h11 S rfl rfl rfl rfl rfl rfl (y_loadsf _ rfl Fsca3 S H rfl (by first | decide | assumption | exact ⟨by omega, by simp⟩ | (simp; done) | omega) rfl) fun a S => ?_
   refine gz 121 h11 S rfl rfl rfl rfl rfl rfl (y_bin rfl S rfl rfl rfl) fun a S => ?_
   refine gy rfl rfl rfl S (y_and' rfl h11 S rfl rfl) fun a S => ?_
   exact kk _ _ (S.join 7 128 rfl rfl) H
  refine gy rfl rfl rfl S (y_move rfl S rfl) fun a S => ?_
  refine' wl_and 6 129 rfl S H rfl rfl rfl rfl rfl rfl rfl (fun _ S => (wn rfl)) (fun h12 kk => ?yh12) (fun a w S H => ?_)
  case yh12 =>
   have h12p := h12; try simp only [DL] at h12p
   refine gz 129 h12 S rfl rfl rfl rfl rfl rfl (y_faddrb rfl Ffo29_0 S rfl) fun a S => ?_
   refine gz 129 h12 S rfl rfl rfl rfl rfl rfl (y_load rfl Fsca24 S H rfl rfl) fun a S => ?_
   refine gz 129 h12 S rfl rfl rfl rfl rfl rfl (y_iaddrs rfl Try.underlying24 Fsiz50 S H rfl rfl (by first | decide | assumption | exact ⟨by omega, by simp⟩ | (simp; done) | omega)) fun a S => ?_
   refine gz 129 h12 S rfl rfl rfl rfl rfl rfl (y_faddr rfl Ffo50_1 S rfl) fun a S => ?_
   refine gz 129 h12 S rfl rfl rfl rfl rfl rfl (y_loadsf _ rfl Fsca3 S H rfl (by first | decide | assumption | exact ⟨by omega, by simp⟩ | (simp; done) | omega) rfl) fun a S => ?_
   refine gz 129 h12 S rfl rfl rfl rfl rfl rfl (y_bin rfl S rfl rfl rfl) fun a S => ?_
   refine gy rfl rfl rfl S (y_and' rfl h12 S rfl rfl) fun a S => ?_
   exact kk _ _ (S.join 7 136 rfl rfl) H
  refine gy rfl rfl rfl S (y_move rfl S rfl) fun a S => ?_
  refine' wl_and 6 137 rfl S H rfl rfl rfl rfl rfl rfl rfl (fun _ S => (wn rfl)) (fun h13 kk => ?yh13) (fun a w S H => ?_)
  case yh13 =>
   have h13p := h13; try simp only [DL] at h13p
   refine gz 137 h13 S rfl rfl rfl rfl rfl rfl (y_faddrb rfl Ffo29_0 S rfl) fun a S => ?_
   refine gz 137 h13 S rfl rfl rfl rfl rfl rfl (y_load rfl Fsca24 S H rfl rfl) fun a S => ?_
   refine gz 137 h13 S rfl rfl rfl rfl rfl rfl (y_iaddrs rfl Try.underlying24 Fsiz50 S H rfl rfl (by first | decide | assumption | exact ⟨by omega, by simp⟩ | (simp; done) | omega)) fun a S => ?_
   refine gz 137 h13 S rfl rfl rfl rfl rfl rfl (y_faddr rfl Ffo50_1 S rfl) fun a S => ?_
   refine gz 137 h13 S rfl rfl rfl rfl rfl rfl (y_loadsf _ rfl Fsca3 S H rfl (by first | decide | assumption | exact ⟨by omega, by simp⟩ | (simp; done) | omega) rfl) fun a S => ?_
   refine gz 137 h13 S rfl rfl rfl rfl rfl rfl (y_bin rfl S rfl rfl rfl) fun a S => ?_
   refine gy rfl rfl rfl S (y_and' rfl h13 S rfl rfl) fun a S => ?_
   exact kk _ _ (S.join 7 144 rfl rfl) H
  refine gy rfl rfl rfl S (y_move rfl S rfl) fun a S => ?_
  refine' wl_and 6 145 rfl S H rfl rfl rfl rfl rfl rfl rfl (fun _ S => (wn rfl)) (fun h14 kk => ?yh14) (fun a w S H => ?_)
  case yh14 =>
   have h14p := h14; try simp only [DL] at h14p
   refine gz 145 h14 S rfl rfl rfl rfl rfl rfl (y_faddrb rfl Ffo29_0 S rfl) fun a S => ?_
   refine gz 145 h14 S rfl rfl rfl rfl rfl rfl (y_load rfl Fsca24 S H rfl rfl) fun a S => ?_
   refine gz 145 h14 S rfl rfl rfl rfl rfl rfl (y_iaddrs rfl Try.underlying24 Fsiz50 S H rfl rfl (by first | decide | assumption | exact ⟨by omega, by simp⟩ | (simp; done) | omega)) fun a S => ?_
   refine gz 145 h14 S rfl rfl rfl rfl rfl rfl (y_faddr rfl Ffo50_1 S rfl) fun a S => ?_
   refine gz 145 h14 S rfl rfl rfl rfl rfl rfl (y_loadsf _ rfl Fsca3 S H rfl (by first | decide | assumption | exact ⟨by omega, by simp⟩ | (simp; done) | omega) rfl) fun a S => ?_
   refine gz 145 h14 S rfl rfl rfl rfl rfl rfl (y_bin rfl S rfl rfl rfl) fun a S => ?_
   refine gy rfl rfl rfl S (y_and' rfl h14 S rfl rfl) fun a S => ?_
   exact kk _ _ (S.join 7 152 rfl rfl) H
  refine gy rfl rfl rfl S (y_move rfl S rfl) fun a S => ?_
  refine' wl_and 7 153 rfl S H rfl rfl rfl rfl rfl rfl rfl (fun _ S => (wn rfl)) (fun h15 kk => ?yh15) (fun a w S H => ?_)
  case yh15 =>
   have h15p := h15; try simp only [DL] at h15p
   refine gz 153 h15 S rfl rfl rfl rfl rfl rfl (y_faddrb rfl Ffo29_0 S rfl) fun a S => ?_
   refine gz 153 h15 S rfl rfl rfl rfl rfl rfl (y_load rfl Fsca24 S H rfl rfl) fun a S => ?_
   refine gz 153 h15 S rfl rfl rfl rfl rfl rfl (y_iaddrs rfl Try.underlying24 Fsiz50 S H rfl rfl (by first | decide | assumption | exact ⟨by omega, by simp⟩ | (simp; done) | omega)) fun a S => ?_
   refine gz 153 h15 S rfl rfl rfl rfl rfl rfl (y_faddr rfl Ffo50_2 S rfl) fun a S => ?_
   refine gz 153 h15 S rfl rfl rfl rfl rfl rfl (y_loadsf _ rfl Fsca25 S H rfl (by simp) rfl) fun a S => ?_
   refine gz 153 h15 S rfl rfl rfl rfl rfl rfl ((by first | exact y_len rfl Try.underlying25 S rfl | exact y_lens rfl Try.underlying25 S H rfl)) fun a S => ?_
   refine gz 153 h15 S rfl rfl rfl rfl rfl rfl (y_bin rfl S rfl rfl rfl) fun a S => ?_
   refine gy rfl rfl rfl S (y_and' rfl h15 S rfl rfl) fun a S => ?_
   exact kk _ _ (S.join 8 161 rfl rfl) H
  refine gy rfl rfl rfl S (y_assign rfl S rfl) fun a S => ?_
  refine gl_nil ?_
  refine n_then ?_
  have S := ((((((S.nil.cons S 0 rfl).cons S 1 rfl).cons S 2 rfl).cons S 7 rfl).cons S 8 rfl).cons S 10 rfl).cons S 14 rfl
  refine g_seq ?_
  refine g_region ?_
  refine gy rfl rfl rfl S (y_faddrb rfl Ffo29_0 S rfl) fun a S => ?_
  refine gy rfl rfl rfl S (y_load rfl Fsca24 S H rfl rfl) fun a S => ?_
  refine gy rfl rfl rfl S (y_iaddrs rfl Try.underlying24 Fsiz50 S H rfl rfl (by first | decide | assumption | exact ⟨by omega, by simp⟩ | (simp; done) | omega)) fun a S => ?_
  refine gy rfl rfl rfl S (y_faddr rfl Ffo50_1 S rfl) fun a S => ?_
  refine gy rfl rfl rfl S (y_loadsf _ rfl Fsca3 S H rfl (by first | decide | assumption | exact ⟨by omega, by simp⟩ | (simp; done) | omega) rfl) fun a S => ?_
  refine gy rfl rfl rfl S (y_bin rfl S rfl rfl rfl) fun a S => ?_
  refine gy rfl rfl rfl S (y_move rfl S rfl) fun a S => ?_
  refine' wl_and 6 168 rfl S H rfl rfl rfl rfl rfl rfl rfl (fun _ S => (wn rfl)) (fun h16 kk => ?yh16) (fun a w S H => ?_)
  case yh16 =>
   have h16p := h16; try simp only [DL] at h16p
   refine gz 168 h16 S rfl rfl rfl rfl rfl rfl (y_faddrb rfl Ffo29_0 S rfl) fun a S => ?_
   refine gz 168 h16 S rfl rfl rfl rfl rfl rfl (y_load rfl Fsca24 S H rfl rfl) fun a S => ?_
   refine gz 168 h16 S rfl rfl rfl rfl rfl rfl (y_iaddrs rfl Try.underlying24 Fsiz50 S H rfl rfl (by first | decide | assumption | exact ⟨by omega, by simp⟩ | (simp; done) | omega)) fun a S => ?_
   refine gz 168 h16 S rfl rfl rfl rfl rfl rfl (y_faddr rfl Ffo50_1 S rfl) fun a S => ?_
   refine gz 168 h16 S rfl rfl rfl rfl rfl rfl (y_loadsf _ rfl Fsca3 S H rfl (by first | decide | assumption | exact ⟨by omega, by simp⟩ | (simp; done) | omega) rfl) fun a S => ?_
   refine gz 168 h16 S rfl rfl rfl rfl rfl rfl (y_bin rfl S rfl rfl rfl) fun a S => ?_
   refine gy rfl rfl rfl S (y_and' rfl h16 S rfl rfl) fun a S => ?_
   exact kk _ _ (S.join 7 175 rfl rfl) H
  refine gy rfl rfl rfl S (y_move rfl S rfl) fun a S => ?_
  refine' wl_and 6 176 rfl S H rfl rfl rfl rfl rfl rfl rfl (fun _ S => (wn rfl)) (fun h17 kk => ?yh17) (fun a w S H => ?_)
  case yh17 =>
   have h17p := h17; try simp only [DL] at h17p
   refine gz 176 h17 S rfl rfl rfl rfl rfl rfl (y_faddrb rfl Ffo29_0 S rfl) fun a S => ?_
   refine gz 176 h17 S rfl rfl rfl rfl rfl rfl (y_load rfl Fsca24 S H rfl rfl) fun a S => ?_
   refine gz 176 h17 S rfl rfl rfl rfl rfl rfl (y_iaddrs rfl Try.underlying24 Fsiz50 S H rfl rfl (by first | decide | assumption | exact ⟨by omega, by simp⟩ | (simp; done) | omega)) fun a S => ?_
   refine gz 176 h17 S rfl rfl rfl rfl rfl rfl (y_faddr rfl Ffo50_1 S rfl) fun a S => ?_
   refine gz 176 h17 S rfl rfl rfl rfl rfl rfl (y_loadsf _ rfl Fsca3 S H rfl (by first | decide | assumption | exact ⟨by omega, by simp⟩ | (simp; done) | omega) rfl) fun a S => ?_
   refine gz 176 h17 S rfl rfl rfl rfl rfl rfl (y_bin rfl S rfl rfl rfl) fun a S => ?_
   refine gy rfl rfl rfl S (y_and' rfl h17 S rfl rfl) fun a S => ?_
   exact kk _ _ (S.join 7 183 rfl rfl) H
  refine gy rfl rfl rfl S (y_move rfl S rfl) fun a S => ?_
  refine' wl_and 6 184 rfl S H rfl rfl rfl rfl rfl rfl rfl (fun _ S => (wn rfl)) (fun h18 kk => ?yh18) (fun a w S H => ?_)
  case yh18 =>
   have h18p := h18; try simp only [DL] at h18p
   refine gz 184 h18 S rfl rfl rfl rfl rfl rfl (y_faddrb rfl Ffo29_0 S rfl) fun a S => ?_
   refine gz 184 h18 S rfl rfl rfl rfl rfl rfl (y_load rfl Fsca24 S H rfl rfl) fun a S => ?_
   refine gz 184 h18 S rfl rfl rfl rfl rfl rfl (y_iaddrs rfl Try.underlying24 Fsiz50 S H rfl rfl (by first | decide | assumption | exact ⟨by omega, by simp⟩ | (simp; done) | omega)) fun a S => ?_
   refine gz 184 h18 S rfl rfl rfl rfl rfl rfl (y_faddr rfl Ffo50_1 S rfl) fun a S => ?_
   refine gz 184 h18 S rfl rfl rfl rfl rfl rfl (y_loadsf _ rfl Fsca3 S H rfl (by first | decide | assumption | exact ⟨by omega, by simp⟩ | (simp; done) | omega) rfl) fun a S => ?_
   refine gz 184 h18 S rfl rfl rfl rfl rfl rfl (y_bin rfl S rfl rfl rfl) fun a S => ?_
   refine gy rfl rfl rfl S (y_and' rfl h18 S rfl rfl) fun a S => ?_
   exact kk _ _ (S.join 7 191 rfl rfl) H
  refine gy rfl rfl rfl S (y_move rfl S rfl) fun a S => ?_
  refine' wl_and 5 192 rfl S H rfl rfl rfl rfl rfl rfl rfl (fun _ S => (wn rfl)) (fun h19 kk => ?yh19) (fun a w S H => ?_)
  case yh19 =>
   have h19p := h19; try simp only [DL] at h19p
   refine gz 192 h19 S rfl rfl rfl rfl rfl rfl (y_faddrb rfl Ffo29_1 S rfl) fun a S => ?_
   refine gz 192 h19 S rfl rfl rfl rfl rfl rfl (y_faddrb rfl Ffo27_0 S rfl) fun a S => ?_
   refine gz 192 h19 S rfl rfl rfl rfl rfl rfl (y_load rfl Fsca25 S H rfl rfl) fun a S => ?_
   refine gz 192 h19 S rfl rfl rfl rfl rfl rfl (y_lens rfl Try.underlying25 S H rfl) fun a S => ?_
   refine gz 192 h19 S rfl rfl rfl rfl rfl rfl (y_bin rfl S rfl rfl rfl) fun a S => ?_
   refine gy rfl rfl rfl S (y_and' rfl h19 S rfl rfl) fun a S => ?_
   exact kk _ _ (S.join 6 198 rfl rfl) H
  refine gy rfl rfl rfl S (y_move rfl S rfl) fun a S => ?_
  refine' wl_and 5 199 rfl S H rfl rfl rfl rfl rfl rfl rfl (fun _ S => (wn rfl)) (fun h20 kk => ?yh20) (fun a w S H => ?_)
  case yh20 =>
   have h20p := h20; try simp only [DL] at h20p
   refine gz 199 h20 S rfl rfl rfl rfl rfl rfl (y_faddrb rfl Ffo29_1 S rfl) fun a S => ?_
   refine gz 199 h20 S rfl rfl rfl rfl rfl rfl (y_faddrb rfl Ffo27_1 S rfl) fun a S => ?_
   refine gz 199 h20 S rfl rfl rfl rfl rfl rfl (y_load rfl Fsca25 S H rfl rfl) fun a S => ?_
   refine gz 199 h20 S rfl rfl rfl rfl rfl rfl (y_lens rfl Try.underlying25 S H rfl) fun a S => ?_
   refine gz 199 h20 S rfl rfl rfl rfl rfl rfl (y_bin rfl S rfl rfl rfl) fun a S => ?_
   refine gy rfl rfl rfl S (y_and' rfl h20 S rfl rfl) fun a S => ?_
   exact kk _ _ (S.join 6 205 rfl rfl) H
  refine gy rfl rfl rfl S (y_assign rfl S rfl) fun a S => ?_
  refine gl_nil ?_
  refine n_then ?_
  have S := (((((((S.nil.cons S 0 rfl).cons S 1 rfl).cons S 2 rfl).cons S 7 rfl).cons S 8 rfl).cons S 10 rfl).cons S 14 rfl).cons S 15 rfl
  refine g_seq ?_
  refine g_region ?_
  refine gy rfl rfl rfl S (y_move rfl S rfl) fun a S => ?_
  refine gy rfl rfl rfl S (y_move rfl S rfl) fun a S => ?_
  refine' wl_and 1 207 rfl S H rfl rfl rfl rfl rfl rfl rfl (fun _ S => (wn rfl)) (fun h21 kk => ?yh21) (fun a w S H => ?_)
  case yh21 =>
   have h21p := h21; try simp only [DL] at h21p
   refine gz 207 h21 S rfl rfl rfl rfl rfl rfl (y_move rfl S rfl) fun a S => ?_
   refine gy rfl rfl rfl S (y_and' rfl h21 S rfl rfl) fun a S => ?_
   exact kk _ _ (S.join 2 209 rfl rfl) H
  refine gy rfl rfl rfl S (y_move rfl S rfl) fun a S => ?_
  refine' wl_and 5 210 rfl S H rfl rfl rfl rfl rfl rfl rfl (fun _ S => (wn rfl)) (fun h22 kk => ?yh22) (fun a w S H => ?_)
  case yh22 =>
   have h22p := h22; try simp only [DL] at h22p
   refine gz 210 h22 S rfl rfl rfl rfl rfl rfl (y_move rfl S rfl) fun a S => ?_
   refine gz 210 h22 S rfl rfl rfl rfl rfl rfl (y_move rfl S rfl) fun a S => ?_
   refine gz 210 h22 S rfl rfl rfl rfl rfl rfl (y_move rfl S rfl) fun a S => ?_
   refine gz 210 h22 S rfl rfl rfl rfl rfl rfl (y_load0 rfl S H rfl (by exact Fagg29)) fun a S => ?_
   refine wl_of (op_call (wg' 210 rfl rfl S rfl h22 rfl) rfl rfl S (co_func rfl Try.call17 S rfl) (check_any (.slice (some ⟨b19, 0, none⟩) 3 3) (.slice (some ⟨b41, 0, none⟩) 2 2) oldH nextH (.slice (some ⟨b23, 0, none⟩) 3 3) tsH _ (H.sl (.slice (some ⟨b19, 0, none⟩) 3 3)) (H.sl (.slice (some ⟨b41, 0, none⟩) 2 2)) (H.sl (.slice (some ⟨b23, 0, none⟩) 3 3)) tsH_ok (by decide) mvC vlC vrC [pC, qC, rC] (clP oldH nextH tsH) (crP oldH nextH tsH) (H.sl mvC) (H.rws 3 (rowsOf [pC, qC, rC])) (H.sl vlC) (H.sl vrC) (H.cap vlC) (clP_len _ _ _ (by decide)) (crP_len _ _ _ (by decide))) fun v w hc a S => ?_)
   obtain ⟨rfl, he⟩ := hc
   have H := H.ext he
   refine gy rfl rfl rfl S (y_and' rfl h22 S rfl rfl) fun a S => ?_
   exact kk _ _ (S.join 6 216 rfl rfl) H
  refine gy rfl rfl rfl S (y_move rfl S rfl) fun a S => ?_
  refine' wl_and 6 217 rfl S H rfl rfl rfl rfl rfl rfl rfl (fun _ S => (wn rfl)) (fun h23 kk => ?yh23) (fun a w S H => ?_)
  case yh23 =>
   have h23p := h23; try simp only [DL] at h23p
   refine gz 217 h23 S rfl rfl rfl rfl rfl rfl (y_move rfl S rfl) fun a S => ?_
   refine gz 217 h23 S rfl rfl rfl rfl rfl rfl (y_move rfl S rfl) fun a S => ?_
   refine gz 217 h23 S rfl rfl rfl rfl rfl rfl (y_move rfl S rfl) fun a S => ?_
   refine gz 217 h23 S rfl rfl rfl rfl rfl rfl (y_load0 rfl S H rfl (by exact Fagg29)) fun a S => ?_
   refine wl_of (op_call (wg' 217 rfl rfl S rfl h23 rfl) rfl rfl S (co_func rfl Try.call17 S rfl) (check_any (.slice (some ⟨b19, 0, none⟩) 3 3) (.slice (some ⟨b41, 0, none⟩) 2 2) oldH nextH (.slice (some ⟨b23, 0, none⟩) 3 3) tsH _ (H.sl (.slice (some ⟨b19, 0, none⟩) 3 3)) (H.sl (.slice (some ⟨b41, 0, none⟩) 2 2)) (H.sl (.slice (some ⟨b23, 0, none⟩) 3 3)) tsH_ok (by decide) mvD vlD vrD [pD, qD, rD] (clP oldH [] tsH) (crP oldH [] tsH) (H.sl mvD) (H.rws 3 (rowsOf [pD, qD, rD])) (H.sl vlD) (H.sl vrD) (H.cap vlD) (clP_len _ _ _ (by decide)) (crP_len _ _ _ (by decide))) fun v w hc a S => ?_)
   obtain ⟨rfl, he⟩ := hc
   have H := H.ext he
   refine gz 217 h23 S rfl rfl rfl rfl rfl rfl (y_not rfl S rfl) fun a S => ?_
   refine gy rfl rfl rfl S (y_and' rfl h23 S rfl rfl) fun a S => ?_
   exact kk _ _ (S.join 7 224 rfl rfl) H
  refine gy rfl rfl rfl S (y_move rfl S rfl) fun a S => ?_
  refine' wl_and 6 225 rfl S H rfl rfl rfl rfl rfl rfl rfl (fun _ S => (wn rfl)) (fun h24 kk => ?yh24) (fun a w S H => ?_)
  case yh24 =>
   have h24p := h24; try simp only [DL] at h24p
   refine gz 225 h24 S rfl rfl rfl rfl rfl rfl (y_move rfl S rfl) fun a S => ?_
   refine gz 225 h24 S rfl rfl rfl rfl rfl rfl (y_move rfl S rfl) fun a S => ?_
   refine gz 225 h24 S rfl rfl rfl rfl rfl rfl (y_move rfl S rfl) fun a S => ?_
   refine gz 225 h24 S rfl rfl rfl rfl rfl rfl (y_buildf rfl Fbld29 S rfl (idx := []) rfl (cs := [.slice none 0 0, .slice none 0 0, .slice none 0 0]) (by kernel_rfl)) fun a S => ?_
   refine wl_of (op_call (wg' 225 rfl rfl S rfl h24 rfl) rfl rfl S (co_func rfl Try.call17 S rfl) (check_any (.slice (some ⟨b19, 0, none⟩) 3 3) (.slice (some ⟨b19, 0, none⟩) 3 3) oldH oldH (.slice (some ⟨b23, 0, none⟩) 3 3) tsH _ (H.sl (.slice (some ⟨b19, 0, none⟩) 3 3)) (H.sl (.slice (some ⟨b19, 0, none⟩) 3 3)) (H.sl (.slice (some ⟨b23, 0, none⟩) 3 3)) tsH_ok (by decide) (.slice none 0 0) (.slice none 0 0) (.slice none 0 0) [] [] [] (IsSl.nil _ 3 Mv.enc) (fun p hp => by cases hp) (IsSl.nil _ 1 encI) (IsSl.nil _ 1 encI) (Nat.le_refl 0) (by decide) (by decide)) fun v w hc a S => ?_)
   obtain ⟨rfl, he⟩ := hc
   have H := H.ext he
   refine gz 225 h24 S rfl rfl rfl rfl rfl rfl (y_not rfl S rfl) fun a S => ?_
   refine gy rfl rfl rfl S (y_and' rfl h24 S rfl rfl) fun a S => ?_
   exact kk _ _ (S.join 7 232 rfl rfl) H
  refine gy rfl rfl rfl S (y_assign rfl S rfl) fun a S => ?_
  refine gl_nil ?_
  refine n_then ?_
  have S := S.nil.cons S 0 rfl
  refine g_ret ?_
  refine ret1 rfl S rfl ?_
  refine ⟨congrArg Value.bool ?_, H.toExt⟩
  rw [hmC, hmD, chkC, chkD, clD, crD]
  have hE : chkW oldH oldH tsH (List.map Mv.say []) [] [] = false := chkE
  rw [hE]
  have tpA : pA.to_ = 0 := congrArg (·.2.1) hpA
  have tqA : qA.to_ = 1 := congrArg (·.2.1) hqA
  have trA : rA.to_ = 2 := congrArg (·.2.1) hrA
  have tpB : pB.to_ = 0 := congrArg (·.2.1) hpB
  have tqB : qB.to_ = 1 := congrArg (·.2.1) hqB
  have trB : rB.to_ = -1 := congrArg (·.2.1) hrB
  have tpC : pC.to_ = 1 := congrArg (·.2.1) hpC
  have tqC : qC.to_ = -1 := congrArg (·.2.1) hqC
  have trC : rC.to_ = 0 := congrArg (·.2.1) hrC
  have tpD : pD.to_ = -1 := congrArg (·.2.1) hpD
  have tqD : qD.to_ = -1 := congrArg (·.2.1) hqD
  have trD : rD.to_ = -1 := congrArg (·.2.1) hrD
  have urB : rB.row.2 = [] := congrArg (·.2.2) hrB
  show (pA.to_ == 0 && qA.to_ == 1 && rA.to_ == 2 && pB.to_ == 0 && qB.to_ == 1 && rB.to_ == -1 && (rB.row.2.length : Int) == 0 && (pC.to_ == 1 && qC.to_ == -1 && rC.to_ == 0 && pD.to_ == -1 && true && true) && true && true && true) = true
  rw [tpA, tqA, trA, tpB, tqB, trB, tpC, tqC, trC, tpD, urB]
  rfl


end Go.Proofs.Ytenaoaegichecaa
