/- The walks. No condition. -/
import Derived.Test.YtenaoaegichecaaChecked
import Derived.Test.YtenaoaegichecaaGwBits
import Derived.Test.YtenaoaegichecaaFacts
import Derived.Test.YtenaoaegichecaaPlain
import Derived.Test.YtenaoaegichecaaPlainY
import Derived.Test.YtenaoaegichecaaW17
namespace Go.Proofs.Ytenaoaegichecaa
open Go Go.Gw
set_option linter.unusedVariables false
set_option linter.unusedSimpArgs false
set_option maxHeartbeats 4000000 in
/-- foyer/foyerlaw41.RebuildMore -/
theorem law8 (v1 v2 : Value) (old next : List Pl) (v3 : Value) (ts : List Ow) (w0 : World) (hv1 : IsSl w0 v1 9 Pl.enc old) (hv2 : IsSl w0 v2 9 Pl.enc next) (hv3 : IsSl w0 v3 11 Ow.enc ts) (hok : ∀ o ∈ ts, o.ok) (q : Pl) :
    Ret Try.prog 9 #[v1, v2, v3, .agg (Pl.enc q).toArray] w0 (fun v w => v = .bool true ∧ Ext w0 w) := by
 refine ret_of_wp (nt := 60) Try.func9 rfl rfl rfl (fl := [(0, v1), (1, v2), (2, v3), (3, .agg (Pl.enc q).toArray)]) rfl (fun a S => ?_)
 have H := HSat.start w0
 have H := H.ro0 (Sl v1 9 Pl.enc old) rfl (hv1)
 have H := H.ro0 (Sl v2 9 Pl.enc next) rfl (hv2)
 have H := H.ro0 (Sl v3 11 Ow.enc ts) rfl (hv3)
 have hl1 := hv1.len
 have hl2 := hv2.len
 have hl3 := hv3.len
 refine g_seq ?_
 refine g_region ?_
 refine wl_of (op_boxa (wn rfl) rfl rfl rfl S H rfl fun b7 a w S H => ?_)
 refine gy rfl rfl rfl S (y_assign rfl S rfl) fun a S => ?_
 refine gl_nil ?_
 refine n_then ?_
 refine g_seq ?_
 refine g_region ?_
 refine wl_of (op_call (wn rfl) rfl rfl S (co_func rfl Try.call11 S rfl) (head_spec _) fun v w hc a S => ?_)
 obtain ⟨rfl, he⟩ := hc
 have H := H.ext he
 refine gy rfl rfl rfl S (y_assign rfl S rfl) fun a S => ?_
 refine gl_nil ?_
 refine n_then ?_
 refine g_seq ?_
 refine g_seq ?_
 refine g_region ?_
 refine gy rfl rfl rfl S (y_move rfl S rfl) fun a S => ?_
 refine gy rfl rfl rfl S (y_move rfl S rfl) fun a S => ?_
 refine gy rfl rfl rfl S (y_move rfl S rfl) fun a S => ?_
 refine wl_of (op_call (wn rfl) rfl rfl S (co_func rfl Try.call12 S rfl) (few_spec v1 v2 old next v3 ts 20 _ (H.sl v1) (H.sl v2) (H.sl v3)) fun v w hc a S => ?_)
 obtain ⟨rfl, he⟩ := hc
 have H := H.ext he
 have H := (H.front (Cel b7 56 (Pl.enc q))).freeze
 refine gy rfl rfl rfl S (y_not rfl S rfl) fun a S => ?_
 refine gl_nil ?_
 refine n_then ?_
 have S := ((((((S.nil.cons S 2 rfl).cons S 1 rfl).cons S 0 rfl).cons S 7 rfl).cons S 8 rfl).cons S 9 rfl).cons S 20 rfl
 refine c_if S rfl (fun h1 => ?_) (fun h1 => ?_)
 ·have h1p := h1; try simp only [DL] at h1p
  refine g_seq ?_
  refine g_region ?_
  refine gy rfl rfl rfl S (y_move rfl S rfl) fun a S => ?_
  refine gy rfl rfl rfl S (y_assign rfl S rfl) fun a S => ?_
  refine gl_nil ?_
  refine n_then ?_
  refine g_ret ?_
  refine r_then (ret1 rfl S rfl ?_)
  exact ⟨rfl, H.toExt⟩
 ·have h1p := h1; try simp only [DL] at h1p
  have hfw : old.length ≤ 20 ∧ next.length ≤ 20 ∧ ts.length ≤ 20 := by have := h1p; omega
  refine g_skip ?_
  refine n_then ?_
  refine g_seq ?_
  refine g_region ?_
  refine gy rfl rfl rfl S (y_move rfl S rfl) fun a S => ?_
  refine gy rfl rfl rfl S (y_move rfl S rfl) fun a S => ?_
  refine gy rfl rfl rfl S (y_move rfl S rfl) fun a S => ?_
  refine wl_of (op_call (wn rfl) rfl rfl S (co_func rfl Try.call14 S rfl) (plan_any v1 v2 old next v3 ts _ (H.sl v1) (H.sl v2) (H.sl v3) hok (by omega)) fun v w hc a S => ?_)
  obtain ⟨mvA, vlA, vrA, msA, rfl, hmA, H1⟩ := hc
  have H := H.call4 H1 rfl rfl rfl rfl
  have hclA := clP_len old next ts (by omega)
  have hcrA := crP_len old next ts (by omega)
  refine gy rfl rfl rfl S (y_move rfl S rfl) fun a S => ?_
  refine gy rfl rfl rfl S (y_extract rfl S rfl rfl) fun a S => ?_
  refine gy rfl rfl rfl S (y_extract rfl S rfl rfl) fun a S => ?_
  refine wl_of (op_alloc (wn rfl) rfl rfl rfl S H Fzer29 fun b10 a w S H => ?_)
  refine wl_of (op_storea (wn rfl) rfl rfl S H rfl rfl (by simp only [List.all_cons, List.all_nil, H.sl1 mvA, H.sl1 vlA, H.sl1 vrA, Bool.true_and]) Fsiz29 rfl (cs' := [_, _, _]) rfl fun a w S H => ?_)
  refine gy rfl rfl rfl S (y_assign rfl S rfl) fun a S => ?_
  refine gl_nil ?_
  refine n_then ?_
  have S := (((((((S.nil.cons S 2 rfl).cons S 1 rfl).cons S 0 rfl).cons S 7 rfl).cons S 8 rfl).cons S 9 rfl).cons S 10 rfl).cons S 11 rfl
  refine g_seq ?_
  refine cut (fun a w => ∃ mvB vlB vrB, ∃ msB : List Mv, ∃ b12, msB.map Mv.say = sayP old (next ++ [q]) ts ∧ St 60 [(9, .bool true), (10, .pointer (some ⟨b10, 0, none⟩)), (11, .int .i64 (errP old next ts)), (12, .pointer (some ⟨b12, 0, none⟩)), (13, .int .i64 (errP old (next ++ [q]) ts))] a ∧ HSat No w0 [Cel b12 29 [mvB, vlB, vrB], OSl 50 mvB 3 Mv.enc msB, Cel b10 29 [mvA, vlA, vrA], OSl 50 mvA 3 Mv.enc msA, Sl v3 11 Ow.enc ts, Sl v2 9 Pl.enc next, Sl v1 9 Pl.enc old] w) ?_ ?_
  ·skip
   refine t_st (tails := [3, 6, 13]) [Atom.ro (Cel b7 56 (Pl.enc q))] Fmo H ?_
   refine t_p 0 rfl (by kernel_rfl) (rem' := [1, 2, 3, 4, 5, 6, 7, 8, 9, 10, 11, 12, 13, 14]) rfl rfl rfl rfl S (fun w => y_move rfl S rfl) fun a S => ?_
   refine t_q 2 rfl (by kernel_rfl) (rem' := [1, 3, 4, 5, 6, 7, 8, 9, 10, 11, 12, 13, 14]) rfl rfl rfl rfl S (fun w H => y_move rfl S rfl) fun a S => ?_
   refine t_f 4 rfl (by kernel_rfl) (rem' := [1, 3, 5, 6, 7, 8, 9, 10, 11, 12, 13, 14]) rfl rfl rfl rfl S (fun w H => y_load0 rfl S H rfl (by exact Fagg56)) fun a S => ?_
   refine t_p 7 rfl (by kernel_rfl) (rem' := [1, 3, 5, 6, 8, 9, 10, 11, 12, 13, 14]) rfl rfl rfl rfl S (fun w => y_move rfl S rfl) fun a S => ?_
   refine t_b [1, 5, 12] (by kernel_rfl) rfl (fa3 ?_ ?_ ?_)
   ·refine ⟨_, rfl, fun w H => ?_⟩
    refine op_buildSlice (wn rfl) rfl rfl rfl Try.underlying22 Finf56 S H (idx := []) rfl rfl rfl (z := []) (by kernel_rfl) (cs := []) rfl fun b31 a w S H => ?_
    have H := H.celO [] Pl.enc 9 (m := 0) rfl (by simp) rfl (by omega)
    refine t_n H (rem' := [3, 5, 6, 8, 9, 10, 11, 12, 13, 14]) rfl ?_
    refine t_b [3, 5, 12] (by kernel_rfl) rfl (fa3 ?_ ?_ ?_)
    ·refine ⟨_, rfl, fun w H => ?_⟩
     refine op_appendT (wn rfl) rfl rfl rfl Try.underlying22 Finf56 rfl rfl S H rfl rfl (by simp [Pl.enc, Value.oneCell']) (by simp; omega) (by simp; omega) fun u33 a w S H => ?_
     refine t_tail H rfl (rem' := [5, 6, 8, 9, 10, 11, 12, 13, 14]) rfl ?_
     refine t_b [5, 12] (by kernel_rfl) rfl (fa2 ?_ ?_)
     ·refine ⟨_, rfl, fun w H => ?_⟩
      refine op_buildSlice (wn rfl) rfl rfl rfl Try.underlying22 Finf56 S H (idx := [0]) rfl rfl rfl (z := [.int .i64 0, .int .i64 0, .int .i64 0, .int .i64 0, .int .i64 0, .int .i64 0, .int .i64 0, .int .i64 0, .int .i64 0]) (by kernel_rfl) (cs := [.int .i64 q.kind, .int .i64 q.level, .int .i64 q.block, .int .i64 q.row, .int .i64 q.seat, .int .i64 q.x, .int .i64 q.y, .int .i64 q.view, .int .i64 q.with_]) (by kernel_rfl) fun b35 a w S H => ?_
      refine t_n H (rem' := [6, 8, 9, 10, 11, 12, 13, 14]) rfl ?_
      refine t_b [6, 12] (by kernel_rfl) rfl (fa2 ?_ ?_)
      ·refine ⟨_, rfl, fun w H => ?_⟩
       refine op_append ([q]) (wn rfl) rfl rfl rfl Try.underlying22 Finf56 rfl rfl S H rfl rfl rfl rfl (by simp) (by simp [Pl.enc]) (by simp [Pl.enc, Value.oneCell']) (by simp; omega) (by simp; omega) fun u36 a w hn36 S H => ?_
       refine t_tail H rfl (rem' := [8, 9, 10, 11, 12, 13, 14]) rfl ?_
       refine t_b [8, 12] (by kernel_rfl) rfl (fa2 ?_ ?_)
       ·refine ⟨_, rfl, fun w H => ?_⟩
        refine op_call (wn rfl) rfl rfl S (co_func rfl Try.call14 S rfl) (plan_any v1 u36 old (next ++ [q]) v3 ts _ (H.sl v1) (H.sl u36) (H.sl v3) hok (by omega)) fun v w hc a S => ?_
        obtain ⟨mvB, vlB, vrB, msB, rfl, hmB, H1⟩ := hc
        have H := H.call4 H1 rfl rfl rfl rfl
        refine t_n H (rem' := [9, 10, 11, 12, 13, 14]) rfl ?_
        refine t_q 9 rfl (by kernel_rfl) (rem' := [10, 11, 12, 13, 14]) rfl rfl rfl rfl S (fun w H => y_move rfl S rfl) fun a S => ?_
        refine t_q 10 rfl (by kernel_rfl) (rem' := [11, 12, 13, 14]) rfl rfl rfl rfl S (fun w H => y_extract rfl S rfl rfl) fun a S => ?_
        refine t_p 11 rfl (by kernel_rfl) (rem' := [12, 13, 14]) rfl rfl rfl rfl S (fun w => y_extract rfl S rfl rfl) fun a S => ?_
        refine t_b1 12 (by kernel_rfl) rfl fun w H => ?_
        refine op_alloc (wn rfl) rfl rfl rfl S H Fzer29 fun b12 a w S H => ?_
        refine t_n H (rem' := [13, 14]) rfl ?_
        refine t_b1 13 (by kernel_rfl) rfl fun w H => ?_
        refine op_storea (wn rfl) rfl rfl S H rfl rfl (by simp only [List.all_cons, List.all_nil, H.sl1 mvB, H.sl1 vlB, H.sl1 vrB, Bool.true_and]) Fsiz29 rfl (cs' := [_, _, _]) rfl fun a w S H => ?_
        refine t_tail H rfl (rem' := [14]) rfl ?_
        refine t_q 14 rfl (by kernel_rfl) (rem' := []) rfl rfl rfl rfl S (fun w H => y_assign rfl S rfl) fun a S => ?_
        refine t_nil (fun w H => ?_)
        exact ⟨mvB, vlB, vrB, msB, b12, hmB, ((((S.nil.cons S 13 rfl).cons S 12 rfl).cons S 11 rfl).cons S 10 rfl).cons S 9 rfl, H.take [Cel b12 29 [mvB, vlB, vrB], OSl 50 mvB 3 Mv.enc msB, Cel b10 29 [mvA, vlA, vrA], OSl 50 mvA 3 Mv.enc msA, Sl v3 11 Ow.enc ts, Sl v2 9 Pl.enc next, Sl v1 9 Pl.enc old]⟩
       ·refine ⟨_, rfl, fun w H => ?_⟩
        refine op_alloc (wn rfl) rfl rfl rfl S H Fzer29 fun b12 a w S H => ?_
        refine t_n H (rem' := [8, 9, 10, 11, 13, 14]) rfl ?_
        refine t_b1 8 (by kernel_rfl) rfl fun w H => ?_
        refine op_call (wn rfl) rfl rfl S (co_func rfl Try.call14 S rfl) (plan_any v1 u36 old (next ++ [q]) v3 ts _ (H.sl v1) (H.sl u36) (H.sl v3) hok (by omega)) fun v w hc a S => ?_
        obtain ⟨mvB, vlB, vrB, msB, rfl, hmB, H1⟩ := hc
        have H := H.call4 H1 rfl rfl rfl rfl
        refine t_n H (rem' := [9, 10, 11, 13, 14]) rfl ?_
        refine t_q 9 rfl (by kernel_rfl) (rem' := [10, 11, 13, 14]) rfl rfl rfl rfl S (fun w H => y_move rfl S rfl) fun a S => ?_
        refine t_q 10 rfl (by kernel_rfl) (rem' := [11, 13, 14]) rfl rfl rfl rfl S (fun w H => y_extract rfl S rfl rfl) fun a S => ?_
        refine t_p 11 rfl (by kernel_rfl) (rem' := [13, 14]) rfl rfl rfl rfl S (fun w => y_extract rfl S rfl rfl) fun a S => ?_
        refine t_b1 13 (by kernel_rfl) rfl fun w H => ?_
        refine op_storea (wn rfl) rfl rfl S H rfl rfl (by simp only [List.all_cons, List.all_nil, H.sl1 mvB, H.sl1 vlB, H.sl1 vrB, Bool.true_and]) Fsiz29 rfl (cs' := [_, _, _]) rfl fun a w S H => ?_
        refine t_tail H rfl (rem' := [14]) rfl ?_
        refine t_q 14 rfl (by kernel_rfl) (rem' := []) rfl rfl rfl rfl S (fun w H => y_assign rfl S rfl) fun a S => ?_
        refine t_nil (fun w H => ?_)
        exact ⟨mvB, vlB, vrB, msB, b12, hmB, ((((S.nil.cons S 13 rfl).cons S 12 rfl).cons S 11 rfl).cons S 10 rfl).cons S 9 rfl, H.take [Cel b12 29 [mvB, vlB, vrB], OSl 50 mvB 3 Mv.enc msB, Cel b10 29 [mvA, vlA, vrA], OSl 50 mvA 3 Mv.enc msA, Sl v3 11 Ow.enc ts, Sl v2 9 Pl.enc next, Sl v1 9 Pl.enc old]⟩
      ·refine ⟨_, rfl, fun w H => ?_⟩
       refine op_alloc (wn rfl) rfl rfl rfl S H Fzer29 fun b12 a w S H => ?_
       refine t_n H (rem' := [6, 8, 9, 10, 11, 13, 14]) rfl ?_
       refine t_b1 6 (by kernel_rfl) rfl fun w H => ?_
       refine op_append ([q]) (wn rfl) rfl rfl rfl Try.underlying22 Finf56 rfl rfl S H rfl rfl rfl rfl (by simp) (by simp [Pl.enc]) (by simp [Pl.enc, Value.oneCell']) (by simp; omega) (by simp; omega) fun u36 a w hn36 S H => ?_
       refine t_tail H rfl (rem' := [8, 9, 10, 11, 13, 14]) rfl ?_
       refine t_b1 8 (by kernel_rfl) rfl fun w H => ?_
       refine op_call (wn rfl) rfl rfl S (co_func rfl Try.call14 S rfl) (plan_any v1 u36 old (next ++ [q]) v3 ts _ (H.sl v1) (H.sl u36) (H.sl v3) hok (by omega)) fun v w hc a S => ?_
       obtain ⟨mvB, vlB, vrB, msB, rfl, hmB, H1⟩ := hc
       have H := H.call4 H1 rfl rfl rfl rfl
       refine t_n H (rem' := [9, 10, 11, 13, 14]) rfl ?_
       refine t_q 9 rfl (by kernel_rfl) (rem' := [10, 11, 13, 14]) rfl rfl rfl rfl S (fun w H => y_move rfl S rfl) fun a S => ?_
       refine t_q 10 rfl (by kernel_rfl) (rem' := [11, 13, 14]) rfl rfl rfl rfl S (fun w H => y_extract rfl S rfl rfl) fun a S => ?_
       refine t_p 11 rfl (by kernel_rfl) (rem' := [13, 14]) rfl rfl rfl rfl S (fun w => y_extract rfl S rfl rfl) fun a S => ?_
       refine t_b1 13 (by kernel_rfl) rfl fun w H => ?_
       refine op_storea (wn rfl) rfl rfl S H rfl rfl (by simp only [List.all_cons, List.all_nil, H.sl1 mvB, H.sl1 vlB, H.sl1 vrB, Bool.true_and]) Fsiz29 rfl (cs' := [_, _, _]) rfl fun a w S H => ?_
       refine t_tail H rfl (rem' := [14]) rfl ?_
       refine t_q 14 rfl (by kernel_rfl) (rem' := []) rfl rfl rfl rfl S (fun w H => y_assign rfl S rfl) fun a S => ?_
       refine t_nil (fun w H => ?_)
       exact ⟨mvB, vlB, vrB, msB, b12, hmB, ((((S.nil.cons S 13 rfl).cons S 12 rfl).cons S 11 rfl).cons S 10 rfl).cons S 9 rfl, H.take [Cel b12 29 [mvB, vlB, vrB], OSl 50 mvB 3 Mv.enc msB, Cel b10 29 [mvA, vlA, vrA], OSl 50 mvA 3 Mv.enc msA, Sl v3 11 Ow.enc ts, Sl v2 9 Pl.enc next, Sl v1 9 Pl.enc old]⟩
     ·refine ⟨_, rfl, fun w H => ?_⟩
      refine op_alloc (wn rfl) rfl rfl rfl S H Fzer29 fun b12 a w S H => ?_
      refine t_n H (rem' := [5, 6, 8, 9, 10, 11, 13, 14]) rfl ?_
      refine t_b1 5 (by kernel_rfl) rfl fun w H => ?_
      refine op_buildSlice (wn rfl) rfl rfl rfl Try.underlying22 Finf56 S H (idx := [0]) rfl rfl rfl (z := [.int .i64 0, .int .i64 0, .int .i64 0, .int .i64 0, .int .i64 0, .int .i64 0, .int .i64 0, .int .i64 0, .int .i64 0]) (by kernel_rfl) (cs := [.int .i64 q.kind, .int .i64 q.level, .int .i64 q.block, .int .i64 q.row, .int .i64 q.seat, .int .i64 q.x, .int .i64 q.y, .int .i64 q.view, .int .i64 q.with_]) (by kernel_rfl) fun b35 a w S H => ?_
      refine t_n H (rem' := [6, 8, 9, 10, 11, 13, 14]) rfl ?_
      refine t_b1 6 (by kernel_rfl) rfl fun w H => ?_
      refine op_append ([q]) (wn rfl) rfl rfl rfl Try.underlying22 Finf56 rfl rfl S H rfl rfl rfl rfl (by simp) (by simp [Pl.enc]) (by simp [Pl.enc, Value.oneCell']) (by simp; omega) (by simp; omega) fun u36 a w hn36 S H => ?_
      refine t_tail H rfl (rem' := [8, 9, 10, 11, 13, 14]) rfl ?_
      refine t_b1 8 (by kernel_rfl) rfl fun w H => ?_
      refine op_call (wn rfl) rfl rfl S (co_func rfl Try.call14 S rfl) (plan_any v1 u36 old (next ++ [q]) v3 ts _ (H.sl v1) (H.sl u36) (H.sl v3) hok (by omega)) fun v w hc a S => ?_
      obtain ⟨mvB, vlB, vrB, msB, rfl, hmB, H1⟩ := hc
      have H := H.call4 H1 rfl rfl rfl rfl
      refine t_n H (rem' := [9, 10, 11, 13, 14]) rfl ?_
      refine t_q 9 rfl (by kernel_rfl) (rem' := [10, 11, 13, 14]) rfl rfl rfl rfl S (fun w H => y_move rfl S rfl) fun a S => ?_
      refine t_q 10 rfl (by kernel_rfl) (rem' := [11, 13, 14]) rfl rfl rfl rfl S (fun w H => y_extract rfl S rfl rfl) fun a S => ?_
      refine t_p 11 rfl (by kernel_rfl) (rem' := [13, 14]) rfl rfl rfl rfl S (fun w => y_extract rfl S rfl rfl) fun a S => ?_
      refine t_b1 13 (by kernel_rfl) rfl fun w H => ?_
      refine op_storea (wn rfl) rfl rfl S H rfl rfl (by simp only [List.all_cons, List.all_nil, H.sl1 mvB, H.sl1 vlB, H.sl1 vrB, Bool.true_and]) Fsiz29 rfl (cs' := [_, _, _]) rfl fun a w S H => ?_
      refine t_tail H rfl (rem' := [14]) rfl ?_
      refine t_q 14 rfl (by kernel_rfl) (rem' := []) rfl rfl rfl rfl S (fun w H => y_assign rfl S rfl) fun a S => ?_
      refine t_nil (fun w H => ?_)
      exact ⟨mvB, vlB, vrB, msB, b12, hmB, ((((S.nil.cons S 13 rfl).cons S 12 rfl).cons S 11 rfl).cons S 10 rfl).cons S 9 rfl, H.take [Cel b12 29 [mvB, vlB, vrB], OSl 50 mvB 3 Mv.enc msB, Cel b10 29 [mvA, vlA, vrA], OSl 50 mvA 3 Mv.enc msA, Sl v3 11 Ow.enc ts, Sl v2 9 Pl.enc next, Sl v1 9 Pl.enc old]⟩
    ·refine ⟨_, rfl, fun w H => ?_⟩
     refine op_buildSlice (wn rfl) rfl rfl rfl Try.underlying22 Finf56 S H (idx := [0]) rfl rfl rfl (z := [.int .i64 0, .int .i64 0, .int .i64 0, .int .i64 0, .int .i64 0, .int .i64 0, .int .i64 0, .int .i64 0, .int .i64 0]) (by kernel_rfl) (cs := [.int .i64 q.kind, .int .i64 q.level, .int .i64 q.block, .int .i64 q.row, .int .i64 q.seat, .int .i64 q.x, .int .i64 q.y, .int .i64 q.view, .int .i64 q.with_]) (by kernel_rfl) fun b35 a w S H => ?_
     refine t_n H (rem' := [3, 6, 8, 9, 10, 11, 12, 13, 14]) rfl ?_
     refine t_b [3, 12] (by kernel_rfl) rfl (fa2 ?_ ?_)
     ·refine ⟨_, rfl, fun w H => ?_⟩
      refine op_appendT (wn rfl) rfl rfl rfl Try.underlying22 Finf56 rfl rfl S H rfl rfl (by simp [Pl.enc, Value.oneCell']) (by simp; omega) (by simp; omega) fun u33 a w S H => ?_
      refine t_tail H rfl (rem' := [6, 8, 9, 10, 11, 12, 13, 14]) rfl ?_
      refine t_b [6, 12] (by kernel_rfl) rfl (fa2 ?_ ?_)
      ·refine ⟨_, rfl, fun w H => ?_⟩
       refine op_append ([q]) (wn rfl) rfl rfl rfl Try.underlying22 Finf56 rfl rfl S H rfl rfl rfl rfl (by simp) (by simp [Pl.enc]) (by simp [Pl.enc, Value.oneCell']) (by simp; omega) (by simp; omega) fun u36 a w hn36 S H => ?_
       refine t_tail H rfl (rem' := [8, 9, 10, 11, 12, 13, 14]) rfl ?_
       refine t_b [8, 12] (by kernel_rfl) rfl (fa2 ?_ ?_)
       ·refine ⟨_, rfl, fun w H => ?_⟩
        refine op_call (wn rfl) rfl rfl S (co_func rfl Try.call14 S rfl) (plan_any v1 u36 old (next ++ [q]) v3 ts _ (H.sl v1) (H.sl u36) (H.sl v3) hok (by omega)) fun v w hc a S => ?_
        obtain ⟨mvB, vlB, vrB, msB, rfl, hmB, H1⟩ := hc
        have H := H.call4 H1 rfl rfl rfl rfl
        refine t_n H (rem' := [9, 10, 11, 12, 13, 14]) rfl ?_
        refine t_q 9 rfl (by kernel_rfl) (rem' := [10, 11, 12, 13, 14]) rfl rfl rfl rfl S (fun w H => y_move rfl S rfl) fun a S => ?_
        refine t_q 10 rfl (by kernel_rfl) (rem' := [11, 12, 13, 14]) rfl rfl rfl rfl S (fun w H => y_extract rfl S rfl rfl) fun a S => ?_
        refine t_p 11 rfl (by kernel_rfl) (rem' := [12, 13, 14]) rfl rfl rfl rfl S (fun w => y_extract rfl S rfl rfl) fun a S => ?_
        refine t_b1 12 (by kernel_rfl) rfl fun w H => ?_
        refine op_alloc (wn rfl) rfl rfl rfl S H Fzer29 fun b12 a w S H => ?_
        refine t_n H (rem' := [13, 14]) rfl ?_
        refine t_b1 13 (by kernel_rfl) rfl fun w H => ?_
        refine op_storea (wn rfl) rfl rfl S H rfl rfl (by simp only [List.all_cons, List.all_nil, H.sl1 mvB, H.sl1 vlB, H.sl1 vrB, Bool.true_and]) Fsiz29 rfl (cs' := [_, _, _]) rfl fun a w S H => ?_
        refine t_tail H rfl (rem' := [14]) rfl ?_
        refine t_q 14 rfl (by kernel_rfl) (rem' := []) rfl rfl rfl rfl S (fun w H => y_assign rfl S rfl) fun a S => ?_
        refine t_nil (fun w H => ?_)
        exact ⟨mvB, vlB, vrB, msB, b12, hmB, ((((S.nil.cons S 13 rfl).cons S 12 rfl).cons S 11 rfl).cons S 10 rfl).cons S 9 rfl, H.take [Cel b12 29 [mvB, vlB, vrB], OSl 50 mvB 3 Mv.enc msB, Cel b10 29 [mvA, vlA, vrA], OSl 50 mvA 3 Mv.enc msA, Sl v3 11 Ow.enc ts, Sl v2 9 Pl.enc next, Sl v1 9 Pl.enc old]⟩
       ·refine ⟨_, rfl, fun w H => ?_⟩
        refine op_alloc (wn rfl) rfl rfl rfl S H Fzer29 fun b12 a w S H => ?_
        refine t_n H (rem' := [8, 9, 10, 11, 13, 14]) rfl ?_
        refine t_b1 8 (by kernel_rfl) rfl fun w H => ?_
        refine op_call (wn rfl) rfl rfl S (co_func rfl Try.call14 S rfl) (plan_any v1 u36 old (next ++ [q]) v3 ts _ (H.sl v1) (H.sl u36) (H.sl v3) hok (by omega)) fun v w hc a S => ?_
        obtain ⟨mvB, vlB, vrB, msB, rfl, hmB, H1⟩ := hc
        have H := H.call4 H1 rfl rfl rfl rfl
        refine t_n H (rem' := [9, 10, 11, 13, 14]) rfl ?_
        refine t_q 9 rfl (by kernel_rfl) (rem' := [10, 11, 13, 14]) rfl rfl rfl rfl S (fun w H => y_move rfl S rfl) fun a S => ?_
        refine t_q 10 rfl (by kernel_rfl) (rem' := [11, 13, 14]) rfl rfl rfl rfl S (fun w H => y_extract rfl S rfl rfl) fun a S => ?_
        refine t_p 11 rfl (by kernel_rfl) (rem' := [13, 14]) rfl rfl rfl rfl S (fun w => y_extract rfl S rfl rfl) fun a S => ?_
        refine t_b1 13 (by kernel_rfl) rfl fun w H => ?_
        refine op_storea (wn rfl) rfl rfl S H rfl rfl (by simp only [List.all_cons, List.all_nil, H.sl1 mvB, H.sl1 vlB, H.sl1 vrB, Bool.true_and]) Fsiz29 rfl (cs' := [_, _, _]) rfl fun a w S H => ?_
        refine t_tail H rfl (rem' := [14]) rfl ?_
        refine t_q 14 rfl (by kernel_rfl) (rem' := []) rfl rfl rfl rfl S (fun w H => y_assign rfl S rfl) fun a S => ?_
        refine t_nil (fun w H => ?_)
        exact ⟨mvB, vlB, vrB, msB, b12, hmB, ((((S.nil.cons S 13 rfl).cons S 12 rfl).cons S 11 rfl).cons S 10 rfl).cons S 9 rfl, H.take [Cel b12 29 [mvB, vlB, vrB], OSl 50 mvB 3 Mv.enc msB, Cel b10 29 [mvA, vlA, vrA], OSl 50 mvA 3 Mv.enc msA, Sl v3 11 Ow.enc ts, Sl v2 9 Pl.enc next, Sl v1 9 Pl.enc old]⟩
      ·refine ⟨_, rfl, fun w H => ?_⟩
       refine op_alloc (wn rfl) rfl rfl rfl S H Fzer29 fun b12 a w S H => ?_
       refine t_n H (rem' := [6, 8, 9, 10, 11, 13, 14]) rfl ?_
       refine t_b1 6 (by kernel_rfl) rfl fun w H => ?_
       refine op_append ([q]) (wn rfl) rfl rfl rfl Try.underlying22 Finf56 rfl rfl S H rfl rfl rfl rfl (by simp) (by simp [Pl.enc]) (by simp [Pl.enc, Value.oneCell']) (by simp; omega) (by simp; omega) fun u36 a w hn36 S H => ?_
       refine t_tail H rfl (rem' := [8, 9, 10, 11, 13, 14]) rfl ?_
       refine t_b1 8 (by kernel_rfl) rfl fun w H => ?_
       refine op_call (wn rfl) rfl rfl S (co_func rfl Try.call14 S rfl) (plan_any v1 u36 old (next ++ [q]) v3 ts _ (H.sl v1) (H.sl u36) (H.sl v3) hok (by omega)) fun v w hc a S => ?_
       obtain ⟨mvB, vlB, vrB, msB, rfl, hmB, H1⟩ := hc
       have H := H.call4 H1 rfl rfl rfl rfl
       refine t_n H (rem' := [9, 10, 11, 13, 14]) rfl ?_
       refine t_q 9 rfl (by kernel_rfl) (rem' := [10, 11, 13, 14]) rfl rfl rfl rfl S (fun w H => y_move rfl S rfl) fun a S => ?_
       refine t_q 10 rfl (by kernel_rfl) (rem' := [11, 13, 14]) rfl rfl rfl rfl S (fun w H => y_extract rfl S rfl rfl) fun a S => ?_
       refine t_p 11 rfl (by kernel_rfl) (rem' := [13, 14]) rfl rfl rfl rfl S (fun w => y_extract rfl S rfl rfl) fun a S => ?_
       refine t_b1 13 (by kernel_rfl) rfl fun w H => ?_
       refine op_storea (wn rfl) rfl rfl S H rfl rfl (by simp only [List.all_cons, List.all_nil, H.sl1 mvB, H.sl1 vlB, H.sl1 vrB, Bool.true_and]) Fsiz29 rfl (cs' := [_, _, _]) rfl fun a w S H => ?_
       refine t_tail H rfl (rem' := [14]) rfl ?_
       refine t_q 14 rfl (by kernel_rfl) (rem' := []) rfl rfl rfl rfl S (fun w H => y_assign rfl S rfl) fun a S => ?_
       refine t_nil (fun w H => ?_)
       exact ⟨mvB, vlB, vrB, msB, b12, hmB, ((((S.nil.cons S 13 rfl).cons S 12 rfl).cons S 11 rfl).cons S 10 rfl).cons S 9 rfl, H.take [Cel b12 29 [mvB, vlB, vrB], OSl 50 mvB 3 Mv.enc msB, Cel b10 29 [mvA, vlA, vrA], OSl 50 mvA 3 Mv.enc msA, Sl v3 11 Ow.enc ts, Sl v2 9 Pl.enc next, Sl v1 9 Pl.enc old]⟩
     ·refine ⟨_, rfl, fun w H => ?_⟩
      refine op_alloc (wn rfl) rfl rfl rfl S H Fzer29 fun b12 a w S H => ?_
      refine t_n H (rem' := [3, 6, 8, 9, 10, 11, 13, 14]) rfl ?_
      refine t_b1 3 (by kernel_rfl) rfl fun w H => ?_
      refine op_appendT (wn rfl) rfl rfl rfl Try.underlying22 Finf56 rfl rfl S H rfl rfl (by simp [Pl.enc, Value.oneCell']) (by simp; omega) (by simp; omega) fun u33 a w S H => ?_
      refine t_tail H rfl (rem' := [6, 8, 9, 10, 11, 13, 14]) rfl ?_
      refine t_b1 6 (by kernel_rfl) rfl fun w H => ?_
      refine op_append ([q]) (wn rfl) rfl rfl rfl Try.underlying22 Finf56 rfl rfl S H rfl rfl rfl rfl (by simp) (by simp [Pl.enc]) (by simp [Pl.enc, Value.oneCell']) (by simp; omega) (by simp; omega) fun u36 a w hn36 S H => ?_
      refine t_tail H rfl (rem' := [8, 9, 10, 11, 13, 14]) rfl ?_
      refine t_b1 8 (by kernel_rfl) rfl fun w H => ?_
      refine op_call (wn rfl) rfl rfl S (co_func rfl Try.call14 S rfl) (plan_any v1 u36 old (next ++ [q]) v3 ts _ (H.sl v1) (H.sl u36) (H.sl v3) hok (by omega)) fun v w hc a S => ?_
      obtain ⟨mvB, vlB, vrB, msB, rfl, hmB, H1⟩ := hc
      have H := H.call4 H1 rfl rfl rfl rfl
      refine t_n H (rem' := [9, 10, 11, 13, 14]) rfl ?_
      refine t_q 9 rfl (by kernel_rfl) (rem' := [10, 11, 13, 14]) rfl rfl rfl rfl S (fun w H => y_move rfl S rfl) fun a S => ?_
      refine t_q 10 rfl (by kernel_rfl) (rem' := [11, 13, 14]) rfl rfl rfl rfl S (fun w H => y_extract rfl S rfl rfl) fun a S => ?_
      refine t_p 11 rfl (by kernel_rfl) (rem' := [13, 14]) rfl rfl rfl rfl S (fun w => y_extract rfl S rfl rfl) fun a S => ?_
      refine t_b1 13 (by kernel_rfl) rfl fun w H => ?_
      refine op_storea (wn rfl) rfl rfl S H rfl rfl (by simp only [List.all_cons, List.all_nil, H.sl1 mvB, H.sl1 vlB, H.sl1 vrB, Bool.true_and]) Fsiz29 rfl (cs' := [_, _, _]) rfl fun a w S H => ?_
      refine t_tail H rfl (rem' := [14]) rfl ?_
      refine t_q 14 rfl (by kernel_rfl) (rem' := []) rfl rfl rfl rfl S (fun w H => y_assign rfl S rfl) fun a S => ?_
      refine t_nil (fun w H => ?_)
      exact ⟨mvB, vlB, vrB, msB, b12, hmB, ((((S.nil.cons S 13 rfl).cons S 12 rfl).cons S 11 rfl).cons S 10 rfl).cons S 9 rfl, H.take [Cel b12 29 [mvB, vlB, vrB], OSl 50 mvB 3 Mv.enc msB, Cel b10 29 [mvA, vlA, vrA], OSl 50 mvA 3 Mv.enc msA, Sl v3 11 Ow.enc ts, Sl v2 9 Pl.enc next, Sl v1 9 Pl.enc old]⟩
    ·refine ⟨_, rfl, fun w H => ?_⟩
     refine op_alloc (wn rfl) rfl rfl rfl S H Fzer29 fun b12 a w S H => ?_
     refine t_n H (rem' := [3, 5, 6, 8, 9, 10, 11, 13, 14]) rfl ?_
     refine t_b [3, 5] (by kernel_rfl) rfl (fa2 ?_ ?_)
     ·refine ⟨_, rfl, fun w H => ?_⟩
      refine op_appendT (wn rfl) rfl rfl rfl Try.underlying22 Finf56 rfl rfl S H rfl rfl (by simp [Pl.enc, Value.oneCell']) (by simp; omega) (by simp; omega) fun u33 a w S H => ?_
      refine t_tail H rfl (rem' := [5, 6, 8, 9, 10, 11, 13, 14]) rfl ?_
      refine t_b1 5 (by kernel_rfl) rfl fun w H => ?_
      refine op_buildSlice (wn rfl) rfl rfl rfl Try.underlying22 Finf56 S H (idx := [0]) rfl rfl rfl (z := [.int .i64 0, .int .i64 0, .int .i64 0, .int .i64 0, .int .i64 0, .int .i64 0, .int .i64 0, .int .i64 0, .int .i64 0]) (by kernel_rfl) (cs := [.int .i64 q.kind, .int .i64 q.level, .int .i64 q.block, .int .i64 q.row, .int .i64 q.seat, .int .i64 q.x, .int .i64 q.y, .int .i64 q.view, .int .i64 q.with_]) (by kernel_rfl) fun b35 a w S H => ?_
      refine t_n H (rem' := [6, 8, 9, 10, 11, 13, 14]) rfl ?_
      refine t_b1 6 (by kernel_rfl) rfl fun w H => ?_
      refine op_append ([q]) (wn rfl) rfl rfl rfl Try.underlying22 Finf56 rfl rfl S H rfl rfl rfl rfl (by simp) (by simp [Pl.enc]) (by simp [Pl.enc, Value.oneCell']) (by simp; omega) (by simp; omega) fun u36 a w hn36 S H => ?_
      refine t_tail H rfl (rem' := [8, 9, 10, 11, 13, 14]) rfl ?_
      refine t_b1 8 (by kernel_rfl) rfl fun w H => ?_
      refine op_call (wn rfl) rfl rfl S (co_func rfl Try.call14 S rfl) (plan_any v1 u36 old (next ++ [q]) v3 ts _ (H.sl v1) (H.sl u36) (H.sl v3) hok (by omega)) fun v w hc a S => ?_
      obtain ⟨mvB, vlB, vrB, msB, rfl, hmB, H1⟩ := hc
      have H := H.call4 H1 rfl rfl rfl rfl
      refine t_n H (rem' := [9, 10, 11, 13, 14]) rfl ?_
      refine t_q 9 rfl (by kernel_rfl) (rem' := [10, 11, 13, 14]) rfl rfl rfl rfl S (fun w H => y_move rfl S rfl) fun a S => ?_
      refine t_q 10 rfl (by kernel_rfl) (rem' := [11, 13, 14]) rfl rfl rfl rfl S (fun w H => y_extract rfl S rfl rfl) fun a S => ?_
      refine t_p 11 rfl (by kernel_rfl) (rem' := [13, 14]) rfl rfl rfl rfl S (fun w => y_extract rfl S rfl rfl) fun a S => ?_
      refine t_b1 13 (by kernel_rfl) rfl fun w H => ?_
      refine op_storea (wn rfl) rfl rfl S H rfl rfl (by simp only [List.all_cons, List.all_nil, H.sl1 mvB, H.sl1 vlB, H.sl1 vrB, Bool.true_and]) Fsiz29 rfl (cs' := [_, _, _]) rfl fun a w S H => ?_
      refine t_tail H rfl (rem' := [14]) rfl ?_
      refine t_q 14 rfl (by kernel_rfl) (rem' := []) rfl rfl rfl rfl S (fun w H => y_assign rfl S rfl) fun a S => ?_
      refine t_nil (fun w H => ?_)
      exact ⟨mvB, vlB, vrB, msB, b12, hmB, ((((S.nil.cons S 13 rfl).cons S 12 rfl).cons S 11 rfl).cons S 10 rfl).cons S 9 rfl, H.take [Cel b12 29 [mvB, vlB, vrB], OSl 50 mvB 3 Mv.enc msB, Cel b10 29 [mvA, vlA, vrA], OSl 50 mvA 3 Mv.enc msA, Sl v3 11 Ow.enc ts, Sl v2 9 Pl.enc next, Sl v1 9 Pl.enc old]⟩
     ·refine ⟨_, rfl, fun w H => ?_⟩
      refine op_buildSlice (wn rfl) rfl rfl rfl Try.underlying22 Finf56 S H (idx := [0]) rfl rfl rfl (z := [.int .i64 0, .int .i64 0, .int .i64 0, .int .i64 0, .int .i64 0, .int .i64 0, .int .i64 0, .int .i64 0, .int .i64 0]) (by kernel_rfl) (cs := [.int .i64 q.kind, .int .i64 q.level, .int .i64 q.block, .int .i64 q.row, .int .i64 q.seat, .int .i64 q.x, .int .i64 q.y, .int .i64 q.view, .int .i64 q.with_]) (by kernel_rfl) fun b35 a w S H => ?_
      refine t_n H (rem' := [3, 6, 8, 9, 10, 11, 13, 14]) rfl ?_
      refine t_b1 3 (by kernel_rfl) rfl fun w H => ?_
      refine op_appendT (wn rfl) rfl rfl rfl Try.underlying22 Finf56 rfl rfl S H rfl rfl (by simp [Pl.enc, Value.oneCell']) (by simp; omega) (by simp; omega) fun u33 a w S H => ?_
      refine t_tail H rfl (rem' := [6, 8, 9, 10, 11, 13, 14]) rfl ?_
      refine t_b1 6 (by kernel_rfl) rfl fun w H => ?_
      refine op_append ([q]) (wn rfl) rfl rfl rfl Try.underlying22 Finf56 rfl rfl S H rfl rfl rfl rfl (by simp) (by simp [Pl.enc]) (by simp [Pl.enc, Value.oneCell']) (by simp; omega) (by simp; omega) fun u36 a w hn36 S H => ?_
      refine t_tail H rfl (rem' := [8, 9, 10, 11, 13, 14]) rfl ?_
      refine t_b1 8 (by kernel_rfl) rfl fun w H => ?_
      refine op_call (wn rfl) rfl rfl S (co_func rfl Try.call14 S rfl) (plan_any v1 u36 old (next ++ [q]) v3 ts _ (H.sl v1) (H.sl u36) (H.sl v3) hok (by omega)) fun v w hc a S => ?_
      obtain ⟨mvB, vlB, vrB, msB, rfl, hmB, H1⟩ := hc
      have H := H.call4 H1 rfl rfl rfl rfl
      refine t_n H (rem' := [9, 10, 11, 13, 14]) rfl ?_
      refine t_q 9 rfl (by kernel_rfl) (rem' := [10, 11, 13, 14]) rfl rfl rfl rfl S (fun w H => y_move rfl S rfl) fun a S => ?_
      refine t_q 10 rfl (by kernel_rfl) (rem' := [11, 13, 14]) rfl rfl rfl rfl S (fun w H => y_extract rfl S rfl rfl) fun a S => ?_
      refine t_p 11 rfl (by kernel_rfl) (rem' := [13, 14]) rfl rfl rfl rfl S (fun w => y_extract rfl S rfl rfl) fun a S => ?_
      refine t_b1 13 (by kernel_rfl) rfl fun w H => ?_
      refine op_storea (wn rfl) rfl rfl S H rfl rfl (by simp only [List.all_cons, List.all_nil, H.sl1 mvB, H.sl1 vlB, H.sl1 vrB, Bool.true_and]) Fsiz29 rfl (cs' := [_, _, _]) rfl fun a w S H => ?_
      refine t_tail H rfl (rem' := [14]) rfl ?_
      refine t_q 14 rfl (by kernel_rfl) (rem' := []) rfl rfl rfl rfl S (fun w H => y_assign rfl S rfl) fun a S => ?_
      refine t_nil (fun w H => ?_)
      exact ⟨mvB, vlB, vrB, msB, b12, hmB, ((((S.nil.cons S 13 rfl).cons S 12 rfl).cons S 11 rfl).cons S 10 rfl).cons S 9 rfl, H.take [Cel b12 29 [mvB, vlB, vrB], OSl 50 mvB 3 Mv.enc msB, Cel b10 29 [mvA, vlA, vrA], OSl 50 mvA 3 Mv.enc msA, Sl v3 11 Ow.enc ts, Sl v2 9 Pl.enc next, Sl v1 9 Pl.enc old]⟩
   ·refine ⟨_, rfl, fun w H => ?_⟩
    refine op_buildSlice (wn rfl) rfl rfl rfl Try.underlying22 Finf56 S H (idx := [0]) rfl rfl rfl (z := [.int .i64 0, .int .i64 0, .int .i64 0, .int .i64 0, .int .i64 0, .int .i64 0, .int .i64 0, .int .i64 0, .int .i64 0]) (by kernel_rfl) (cs := [.int .i64 q.kind, .int .i64 q.level, .int .i64 q.block, .int .i64 q.row, .int .i64 q.seat, .int .i64 q.x, .int .i64 q.y, .int .i64 q.view, .int .i64 q.with_]) (by kernel_rfl) fun b35 a w S H => ?_
    refine t_n H (rem' := [1, 3, 6, 8, 9, 10, 11, 12, 13, 14]) rfl ?_
    refine t_b [1, 12] (by kernel_rfl) rfl (fa2 ?_ ?_)
    ·refine ⟨_, rfl, fun w H => ?_⟩
     refine op_buildSlice (wn rfl) rfl rfl rfl Try.underlying22 Finf56 S H (idx := []) rfl rfl rfl (z := []) (by kernel_rfl) (cs := []) rfl fun b31 a w S H => ?_
     have H := H.celO [] Pl.enc 9 (m := 0) rfl (by simp) rfl (by omega)
     refine t_n H (rem' := [3, 6, 8, 9, 10, 11, 12, 13, 14]) rfl ?_
     refine t_b [3, 12] (by kernel_rfl) rfl (fa2 ?_ ?_)
     ·refine ⟨_, rfl, fun w H => ?_⟩
      refine op_appendT (wn rfl) rfl rfl rfl Try.underlying22 Finf56 rfl rfl S H rfl rfl (by simp [Pl.enc, Value.oneCell']) (by simp; omega) (by simp; omega) fun u33 a w S H => ?_
      refine t_tail H rfl (rem' := [6, 8, 9, 10, 11, 12, 13, 14]) rfl ?_
      refine t_b [6, 12] (by kernel_rfl) rfl (fa2 ?_ ?_)
      ·refine ⟨_, rfl, fun w H => ?_⟩
       refine op_append ([q]) (wn rfl) rfl rfl rfl Try.underlying22 Finf56 rfl rfl S H rfl rfl rfl rfl (by simp) (by simp [Pl.enc]) (by simp [Pl.enc, Value.oneCell']) (by simp; omega) (by simp; omega) fun u36 a w hn36 S H => ?_
       refine t_tail H rfl (rem' := [8, 9, 10, 11, 12, 13, 14]) rfl ?_
       refine t_b [8, 12] (by kernel_rfl) rfl (fa2 ?_ ?_)
       ·refine ⟨_, rfl, fun w H => ?_⟩
        refine op_call (wn rfl) rfl rfl S (co_func rfl Try.call14 S rfl) (plan_any v1 u36 old (next ++ [q]) v3 ts _ (H.sl v1) (H.sl u36) (H.sl v3) hok (by omega)) fun v w hc a S => ?_
        obtain ⟨mvB, vlB, vrB, msB, rfl, hmB, H1⟩ := hc
        have H := H.call4 H1 rfl rfl rfl rfl
        refine t_n H (rem' := [9, 10, 11, 12, 13, 14]) rfl ?_
        refine t_q 9 rfl (by kernel_rfl) (rem' := [10, 11, 12, 13, 14]) rfl rfl rfl rfl S (fun w H => y_move rfl S rfl) fun a S => ?_
        refine t_q 10 rfl (by kernel_rfl) (rem' := [11, 12, 13, 14]) rfl rfl rfl rfl S (fun w H => y_extract rfl S rfl rfl) fun a S => ?_
        refine t_p 11 rfl (by kernel_rfl) (rem' := [12, 13, 14]) rfl rfl rfl rfl S (fun w => y_extract rfl S rfl rfl) fun a S => ?_
        refine t_b1 12 (by kernel_rfl) rfl fun w H => ?_
        refine op_alloc (wn rfl) rfl rfl rfl S H Fzer29 fun b12 a w S H => ?_
        refine t_n H (rem' := [13, 14]) rfl ?_
        refine t_b1 13 (by kernel_rfl) rfl fun w H => ?_
        refine op_storea (wn rfl) rfl rfl S H rfl rfl (by simp only [List.all_cons, List.all_nil, H.sl1 mvB, H.sl1 vlB, H.sl1 vrB, Bool.true_and]) Fsiz29 rfl (cs' := [_, _, _]) rfl fun a w S H => ?_
        refine t_tail H rfl (rem' := [14]) rfl ?_
        refine t_q 14 rfl (by kernel_rfl) (rem' := []) rfl rfl rfl rfl S (fun w H => y_assign rfl S rfl) fun a S => ?_
        refine t_nil (fun w H => ?_)
        exact ⟨mvB, vlB, vrB, msB, b12, hmB, ((((S.nil.cons S 13 rfl).cons S 12 rfl).cons S 11 rfl).cons S 10 rfl).cons S 9 rfl, H.take [Cel b12 29 [mvB, vlB, vrB], OSl 50 mvB 3 Mv.enc msB, Cel b10 29 [mvA, vlA, vrA], OSl 50 mvA 3 Mv.enc msA, Sl v3 11 Ow.enc ts, Sl v2 9 Pl.enc next, Sl v1 9 Pl.enc old]⟩
       ·refine ⟨_, rfl, fun w H => ?_⟩
        refine op_alloc (wn rfl) rfl rfl rfl S H Fzer29 fun b12 a w S H => ?_
        refine t_n H (rem' := [8, 9, 10, 11, 13, 14]) rfl ?_
        refine t_b1 8 (by kernel_rfl) rfl fun w H => ?_
        refine op_call (wn rfl) rfl rfl S (co_func rfl Try.call14 S rfl) (plan_any v1 u36 old (next ++ [q]) v3 ts _ (H.sl v1) (H.sl u36) (H.sl v3) hok (by omega)) fun v w hc a S => ?_
        obtain ⟨mvB, vlB, vrB, msB, rfl, hmB, H1⟩ := hc
        have H := H.call4 H1 rfl rfl rfl rfl
        refine t_n H (rem' := [9, 10, 11, 13, 14]) rfl ?_
        refine t_q 9 rfl (by kernel_rfl) (rem' := [10, 11, 13, 14]) rfl rfl rfl rfl S (fun w H => y_move rfl S rfl) fun a S => ?_
        refine t_q 10 rfl (by kernel_rfl) (rem' := [11, 13, 14]) rfl rfl rfl rfl S (fun w H => y_extract rfl S rfl rfl) fun a S => ?_
        refine t_p 11 rfl (by kernel_rfl) (rem' := [13, 14]) rfl rfl rfl rfl S (fun w => y_extract rfl S rfl rfl) fun a S => ?_
        refine t_b1 13 (by kernel_rfl) rfl fun w H => ?_
        refine op_storea (wn rfl) rfl rfl S H rfl rfl (by simp only [List.all_cons, List.all_nil, H.sl1 mvB, H.sl1 vlB, H.sl1 vrB, Bool.true_and]) Fsiz29 rfl (cs' := [_, _, _]) rfl fun a w S H => ?_
        refine t_tail H rfl (rem' := [14]) rfl ?_
        refine t_q 14 rfl (by kernel_rfl) (rem' := []) rfl rfl rfl rfl S (fun w H => y_assign rfl S rfl) fun a S => ?_
        refine t_nil (fun w H => ?_)
        exact ⟨mvB, vlB, vrB, msB, b12, hmB, ((((S.nil.cons S 13 rfl).cons S 12 rfl).cons S 11 rfl).cons S 10 rfl).cons S 9 rfl, H.take [Cel b12 29 [mvB, vlB, vrB], OSl 50 mvB 3 Mv.enc msB, Cel b10 29 [mvA, vlA, vrA], OSl 50 mvA 3 Mv.enc msA, Sl v3 11 Ow.enc ts, Sl v2 9 Pl.enc next, Sl v1 9 Pl.enc old]⟩
      ·refine ⟨_, rfl, fun w H => ?_⟩
       refine op_alloc (wn rfl) rfl rfl rfl S H Fzer29 fun b12 a w S H => ?_
       refine t_n H (rem' := [6, 8, 9, 10, 11, 13, 14]) rfl ?_
       refine t_b1 6 (by kernel_rfl) rfl fun w H => ?_
       refine op_append ([q]) (wn rfl) rfl rfl rfl Try.underlying22 Finf56 rfl rfl S H rfl rfl rfl rfl (by simp) (by simp [Pl.enc]) (by simp [Pl.enc, Value.oneCell']) (by simp; omega) (by simp; omega) fun u36 a w hn36 S H => ?_
       refine t_tail H rfl (rem' := [8, 9, 10, 11, 13, 14]) rfl ?_
       refine t_b1 8 (by kernel_rfl) rfl fun w H => ?_
       refine op_call (wn rfl) rfl rfl S (co_func rfl Try.call14 S rfl) (plan_any v1 u36 old (next ++ [q]) v3 ts _ (H.sl v1) (H.sl u36) (H.sl v3) hok (by omega)) fun v w hc a S => ?_
       obtain ⟨mvB, vlB, vrB, msB, rfl, hmB, H1⟩ := hc
       have H := H.call4 H1 rfl rfl rfl rfl
       refine t_n H (rem' := [9, 10, 11, 13, 14]) rfl ?_
       refine t_q 9 rfl (by kernel_rfl) (rem' := [10, 11, 13, 14]) rfl rfl rfl rfl S (fun w H => y_move rfl S rfl) fun a S => ?_
       refine t_q 10 rfl (by kernel_rfl) (rem' := [11, 13, 14]) rfl rfl rfl rfl S (fun w H => y_extract rfl S rfl rfl) fun a S => ?_
       refine t_p 11 rfl (by kernel_rfl) (rem' := [13, 14]) rfl rfl rfl rfl S (fun w => y_extract rfl S rfl rfl) fun a S => ?_
       refine t_b1 13 (by kernel_rfl) rfl fun w H => ?_
       refine op_storea (wn rfl) rfl rfl S H rfl rfl (by simp only [List.all_cons, List.all_nil, H.sl1 mvB, H.sl1 vlB, H.sl1 vrB, Bool.true_and]) Fsiz29 rfl (cs' := [_, _, _]) rfl fun a w S H => ?_
       refine t_tail H rfl (rem' := [14]) rfl ?_
       refine t_q 14 rfl (by kernel_rfl) (rem' := []) rfl rfl rfl rfl S (fun w H => y_assign rfl S rfl) fun a S => ?_
       refine t_nil (fun w H => ?_)
       exact ⟨mvB, vlB, vrB, msB, b12, hmB, ((((S.nil.cons S 13 rfl).cons S 12 rfl).cons S 11 rfl).cons S 10 rfl).cons S 9 rfl, H.take [Cel b12 29 [mvB, vlB, vrB], OSl 50 mvB 3 Mv.enc msB, Cel b10 29 [mvA, vlA, vrA], OSl 50 mvA 3 Mv.enc msA, Sl v3 11 Ow.enc ts, Sl v2 9 Pl.enc next, Sl v1 9 Pl.enc old]⟩
     ·refine ⟨_, rfl, fun w H => ?_⟩
      refine op_alloc (wn rfl) rfl rfl rfl S H Fzer29 fun b12 a w S H => ?_
      refine t_n H (rem' := [3, 6, 8, 9, 10, 11, 13, 14]) rfl ?_
      refine t_b1 3 (by kernel_rfl) rfl fun w H => ?_
      refine op_appendT (wn rfl) rfl rfl rfl Try.underlying22 Finf56 rfl rfl S H rfl rfl (by simp [Pl.enc, Value.oneCell']) (by simp; omega) (by simp; omega) fun u33 a w S H => ?_
      refine t_tail H rfl (rem' := [6, 8, 9, 10, 11, 13, 14]) rfl ?_
      refine t_b1 6 (by kernel_rfl) rfl fun w H => ?_
      refine op_append ([q]) (wn rfl) rfl rfl rfl Try.underlying22 Finf56 rfl rfl S H rfl rfl rfl rfl (by simp) (by simp [Pl.enc]) (by simp [Pl.enc, Value.oneCell']) (by simp; omega) (by simp; omega) fun u36 a w hn36 S H => ?_
      refine t_tail H rfl (rem' := [8, 9, 10, 11, 13, 14]) rfl ?_
      refine t_b1 8 (by kernel_rfl) rfl fun w H => ?_
      refine op_call (wn rfl) rfl rfl S (co_func rfl Try.call14 S rfl) (plan_any v1 u36 old (next ++ [q]) v3 ts _ (H.sl v1) (H.sl u36) (H.sl v3) hok (by omega)) fun v w hc a S => ?_
      obtain ⟨mvB, vlB, vrB, msB, rfl, hmB, H1⟩ := hc
      have H := H.call4 H1 rfl rfl rfl rfl
      refine t_n H (rem' := [9, 10, 11, 13, 14]) rfl ?_
      refine t_q 9 rfl (by kernel_rfl) (rem' := [10, 11, 13, 14]) rfl rfl rfl rfl S (fun w H => y_move rfl S rfl) fun a S => ?_
      refine t_q 10 rfl (by kernel_rfl) (rem' := [11, 13, 14]) rfl rfl rfl rfl S (fun w H => y_extract rfl S rfl rfl) fun a S => ?_
      refine t_p 11 rfl (by kernel_rfl) (rem' := [13, 14]) rfl rfl rfl rfl S (fun w => y_extract rfl S rfl rfl) fun a S => ?_
      refine t_b1 13 (by kernel_rfl) rfl fun w H => ?_
      refine op_storea (wn rfl) rfl rfl S H rfl rfl (by simp only [List.all_cons, List.all_nil, H.sl1 mvB, H.sl1 vlB, H.sl1 vrB, Bool.true_and]) Fsiz29 rfl (cs' := [_, _, _]) rfl fun a w S H => ?_
      refine t_tail H rfl (rem' := [14]) rfl ?_
      refine t_q 14 rfl (by kernel_rfl) (rem' := []) rfl rfl rfl rfl S (fun w H => y_assign rfl S rfl) fun a S => ?_
      refine t_nil (fun w H => ?_)
      exact ⟨mvB, vlB, vrB, msB, b12, hmB, ((((S.nil.cons S 13 rfl).cons S 12 rfl).cons S 11 rfl).cons S 10 rfl).cons S 9 rfl, H.take [Cel b12 29 [mvB, vlB, vrB], OSl 50 mvB 3 Mv.enc msB, Cel b10 29 [mvA, vlA, vrA], OSl 50 mvA 3 Mv.enc msA, Sl v3 11 Ow.enc ts, Sl v2 9 Pl.enc next, Sl v1 9 Pl.enc old]⟩
    ·refine ⟨_, rfl, fun w H => ?_⟩
     refine op_alloc (wn rfl) rfl rfl rfl S H Fzer29 fun b12 a w S H => ?_
     refine t_n H (rem' := [1, 3, 6, 8, 9, 10, 11, 13, 14]) rfl ?_
     refine t_b1 1 (by kernel_rfl) rfl fun w H => ?_
     refine op_buildSlice (wn rfl) rfl rfl rfl Try.underlying22 Finf56 S H (idx := []) rfl rfl rfl (z := []) (by kernel_rfl) (cs := []) rfl fun b31 a w S H => ?_
     have H := H.celO [] Pl.enc 9 (m := 0) rfl (by simp) rfl (by omega)
     refine t_n H (rem' := [3, 6, 8, 9, 10, 11, 13, 14]) rfl ?_
     refine t_b1 3 (by kernel_rfl) rfl fun w H => ?_
     refine op_appendT (wn rfl) rfl rfl rfl Try.underlying22 Finf56 rfl rfl S H rfl rfl (by simp [Pl.enc, Value.oneCell']) (by simp; omega) (by simp; omega) fun u33 a w S H => ?_
     refine t_tail H rfl (rem' := [6, 8, 9, 10, 11, 13, 14]) rfl ?_
     refine t_b1 6 (by kernel_rfl) rfl fun w H => ?_
     refine op_append ([q]) (wn rfl) rfl rfl rfl Try.underlying22 Finf56 rfl rfl S H rfl rfl rfl rfl (by simp) (by simp [Pl.enc]) (by simp [Pl.enc, Value.oneCell']) (by simp; omega) (by simp; omega) fun u36 a w hn36 S H => ?_
     refine t_tail H rfl (rem' := [8, 9, 10, 11, 13, 14]) rfl ?_
     refine t_b1 8 (by kernel_rfl) rfl fun w H => ?_
     refine op_call (wn rfl) rfl rfl S (co_func rfl Try.call14 S rfl) (plan_any v1 u36 old (next ++ [q]) v3 ts _ (H.sl v1) (H.sl u36) (H.sl v3) hok (by omega)) fun v w hc a S => ?_
     obtain ⟨mvB, vlB, vrB, msB, rfl, hmB, H1⟩ := hc
     have H := H.call4 H1 rfl rfl rfl rfl
     refine t_n H (rem' := [9, 10, 11, 13, 14]) rfl ?_
     refine t_q 9 rfl (by kernel_rfl) (rem' := [10, 11, 13, 14]) rfl rfl rfl rfl S (fun w H => y_move rfl S rfl) fun a S => ?_
     refine t_q 10 rfl (by kernel_rfl) (rem' := [11, 13, 14]) rfl rfl rfl rfl S (fun w H => y_extract rfl S rfl rfl) fun a S => ?_
     refine t_p 11 rfl (by kernel_rfl) (rem' := [13, 14]) rfl rfl rfl rfl S (fun w => y_extract rfl S rfl rfl) fun a S => ?_
     refine t_b1 13 (by kernel_rfl) rfl fun w H => ?_
     refine op_storea (wn rfl) rfl rfl S H rfl rfl (by simp only [List.all_cons, List.all_nil, H.sl1 mvB, H.sl1 vlB, H.sl1 vrB, Bool.true_and]) Fsiz29 rfl (cs' := [_, _, _]) rfl fun a w S H => ?_
     refine t_tail H rfl (rem' := [14]) rfl ?_
     refine t_q 14 rfl (by kernel_rfl) (rem' := []) rfl rfl rfl rfl S (fun w H => y_assign rfl S rfl) fun a S => ?_
     refine t_nil (fun w H => ?_)
     exact ⟨mvB, vlB, vrB, msB, b12, hmB, ((((S.nil.cons S 13 rfl).cons S 12 rfl).cons S 11 rfl).cons S 10 rfl).cons S 9 rfl, H.take [Cel b12 29 [mvB, vlB, vrB], OSl 50 mvB 3 Mv.enc msB, Cel b10 29 [mvA, vlA, vrA], OSl 50 mvA 3 Mv.enc msA, Sl v3 11 Ow.enc ts, Sl v2 9 Pl.enc next, Sl v1 9 Pl.enc old]⟩
   ·refine ⟨_, rfl, fun w H => ?_⟩
    refine op_alloc (wn rfl) rfl rfl rfl S H Fzer29 fun b12 a w S H => ?_
    refine t_n H (rem' := [1, 3, 5, 6, 8, 9, 10, 11, 13, 14]) rfl ?_
    refine t_b [1, 5] (by kernel_rfl) rfl (fa2 ?_ ?_)
    ·refine ⟨_, rfl, fun w H => ?_⟩
     refine op_buildSlice (wn rfl) rfl rfl rfl Try.underlying22 Finf56 S H (idx := []) rfl rfl rfl (z := []) (by kernel_rfl) (cs := []) rfl fun b31 a w S H => ?_
     have H := H.celO [] Pl.enc 9 (m := 0) rfl (by simp) rfl (by omega)
     refine t_n H (rem' := [3, 5, 6, 8, 9, 10, 11, 13, 14]) rfl ?_
     refine t_b [3, 5] (by kernel_rfl) rfl (fa2 ?_ ?_)
     ·refine ⟨_, rfl, fun w H => ?_⟩
      refine op_appendT (wn rfl) rfl rfl rfl Try.underlying22 Finf56 rfl rfl S H rfl rfl (by simp [Pl.enc, Value.oneCell']) (by simp; omega) (by simp; omega) fun u33 a w S H => ?_
      refine t_tail H rfl (rem' := [5, 6, 8, 9, 10, 11, 13, 14]) rfl ?_
      refine t_b1 5 (by kernel_rfl) rfl fun w H => ?_
      refine op_buildSlice (wn rfl) rfl rfl rfl Try.underlying22 Finf56 S H (idx := [0]) rfl rfl rfl (z := [.int .i64 0, .int .i64 0, .int .i64 0, .int .i64 0, .int .i64 0, .int .i64 0, .int .i64 0, .int .i64 0, .int .i64 0]) (by kernel_rfl) (cs := [.int .i64 q.kind, .int .i64 q.level, .int .i64 q.block, .int .i64 q.row, .int .i64 q.seat, .int .i64 q.x, .int .i64 q.y, .int .i64 q.view, .int .i64 q.with_]) (by kernel_rfl) fun b35 a w S H => ?_
      refine t_n H (rem' := [6, 8, 9, 10, 11, 13, 14]) rfl ?_
      refine t_b1 6 (by kernel_rfl) rfl fun w H => ?_
      refine op_append ([q]) (wn rfl) rfl rfl rfl Try.underlying22 Finf56 rfl rfl S H rfl rfl rfl rfl (by simp) (by simp [Pl.enc]) (by simp [Pl.enc, Value.oneCell']) (by simp; omega) (by simp; omega) fun u36 a w hn36 S H => ?_
      refine t_tail H rfl (rem' := [8, 9, 10, 11, 13, 14]) rfl ?_
      refine t_b1 8 (by kernel_rfl) rfl fun w H => ?_
      refine op_call (wn rfl) rfl rfl S (co_func rfl Try.call14 S rfl) (plan_any v1 u36 old (next ++ [q]) v3 ts _ (H.sl v1) (H.sl u36) (H.sl v3) hok (by omega)) fun v w hc a S => ?_
      obtain ⟨mvB, vlB, vrB, msB, rfl, hmB, H1⟩ := hc
      have H := H.call4 H1 rfl rfl rfl rfl
      refine t_n H (rem' := [9, 10, 11, 13, 14]) rfl ?_
      refine t_q 9 rfl (by kernel_rfl) (rem' := [10, 11, 13, 14]) rfl rfl rfl rfl S (fun w H => y_move rfl S rfl) fun a S => ?_
      refine t_q 10 rfl (by kernel_rfl) (rem' := [11, 13, 14]) rfl rfl rfl rfl S (fun w H => y_extract rfl S rfl rfl) fun a S => ?_
      refine t_p 11 rfl (by kernel_rfl) (rem' := [13, 14]) rfl rfl rfl rfl S (fun w => y_extract rfl S rfl rfl) fun a S => ?_
      refine t_b1 13 (by kernel_rfl) rfl fun w H => ?_
      refine op_storea (wn rfl) rfl rfl S H rfl rfl (by simp only [List.all_cons, List.all_nil, H.sl1 mvB, H.sl1 vlB, H.sl1 vrB, Bool.true_and]) Fsiz29 rfl (cs' := [_, _, _]) rfl fun a w S H => ?_
      refine t_tail H rfl (rem' := [14]) rfl ?_
      refine t_q 14 rfl (by kernel_rfl) (rem' := []) rfl rfl rfl rfl S (fun w H => y_assign rfl S rfl) fun a S => ?_
      refine t_nil (fun w H => ?_)
      exact ⟨mvB, vlB, vrB, msB, b12, hmB, ((((S.nil.cons S 13 rfl).cons S 12 rfl).cons S 11 rfl).cons S 10 rfl).cons S 9 rfl, H.take [Cel b12 29 [mvB, vlB, vrB], OSl 50 mvB 3 Mv.enc msB, Cel b10 29 [mvA, vlA, vrA], OSl 50 mvA 3 Mv.enc msA, Sl v3 11 Ow.enc ts, Sl v2 9 Pl.enc next, Sl v1 9 Pl.enc old]⟩
     ·refine ⟨_, rfl, fun w H => ?_⟩
      refine op_buildSlice (wn rfl) rfl rfl rfl Try.underlying22 Finf56 S H (idx := [0]) rfl rfl rfl (z := [.int .i64 0, .int .i64 0, .int .i64 0, .int .i64 0, .int .i64 0, .int .i64 0, .int .i64 0, .int .i64 0, .int .i64 0]) (by kernel_rfl) (cs := [.int .i64 q.kind, .int .i64 q.level, .int .i64 q.block, .int .i64 q.row, .int .i64 q.seat, .int .i64 q.x, .int .i64 q.y, .int .i64 q.view, .int .i64 q.with_]) (by kernel_rfl) fun b35 a w S H => ?_
      refine t_n H (rem' := [3, 6, 8, 9, 10, 11, 13, 14]) rfl ?_
      refine t_b1 3 (by kernel_rfl) rfl fun w H => ?_
      refine op_appendT (wn rfl) rfl rfl rfl Try.underlying22 Finf56 rfl rfl S H rfl rfl (by simp [Pl.enc, Value.oneCell']) (by simp; omega) (by simp; omega) fun u33 a w S H => ?_
      refine t_tail H rfl (rem' := [6, 8, 9, 10, 11, 13, 14]) rfl ?_
      refine t_b1 6 (by kernel_rfl) rfl fun w H => ?_
      refine op_append ([q]) (wn rfl) rfl rfl rfl Try.underlying22 Finf56 rfl rfl S H rfl rfl rfl rfl (by simp) (by simp [Pl.enc]) (by simp [Pl.enc, Value.oneCell']) (by simp; omega) (by simp; omega) fun u36 a w hn36 S H => ?_
      refine t_tail H rfl (rem' := [8, 9, 10, 11, 13, 14]) rfl ?_
      refine t_b1 8 (by kernel_rfl) rfl fun w H => ?_
      refine op_call (wn rfl) rfl rfl S (co_func rfl Try.call14 S rfl) (plan_any v1 u36 old (next ++ [q]) v3 ts _ (H.sl v1) (H.sl u36) (H.sl v3) hok (by omega)) fun v w hc a S => ?_
      obtain ⟨mvB, vlB, vrB, msB, rfl, hmB, H1⟩ := hc
      have H := H.call4 H1 rfl rfl rfl rfl
      refine t_n H (rem' := [9, 10, 11, 13, 14]) rfl ?_
      refine t_q 9 rfl (by kernel_rfl) (rem' := [10, 11, 13, 14]) rfl rfl rfl rfl S (fun w H => y_move rfl S rfl) fun a S => ?_
      refine t_q 10 rfl (by kernel_rfl) (rem' := [11, 13, 14]) rfl rfl rfl rfl S (fun w H => y_extract rfl S rfl rfl) fun a S => ?_
      refine t_p 11 rfl (by kernel_rfl) (rem' := [13, 14]) rfl rfl rfl rfl S (fun w => y_extract rfl S rfl rfl) fun a S => ?_
      refine t_b1 13 (by kernel_rfl) rfl fun w H => ?_
      refine op_storea (wn rfl) rfl rfl S H rfl rfl (by simp only [List.all_cons, List.all_nil, H.sl1 mvB, H.sl1 vlB, H.sl1 vrB, Bool.true_and]) Fsiz29 rfl (cs' := [_, _, _]) rfl fun a w S H => ?_
      refine t_tail H rfl (rem' := [14]) rfl ?_
      refine t_q 14 rfl (by kernel_rfl) (rem' := []) rfl rfl rfl rfl S (fun w H => y_assign rfl S rfl) fun a S => ?_
      refine t_nil (fun w H => ?_)
      exact ⟨mvB, vlB, vrB, msB, b12, hmB, ((((S.nil.cons S 13 rfl).cons S 12 rfl).cons S 11 rfl).cons S 10 rfl).cons S 9 rfl, H.take [Cel b12 29 [mvB, vlB, vrB], OSl 50 mvB 3 Mv.enc msB, Cel b10 29 [mvA, vlA, vrA], OSl 50 mvA 3 Mv.enc msA, Sl v3 11 Ow.enc ts, Sl v2 9 Pl.enc next, Sl v1 9 Pl.enc old]⟩
    ·refine ⟨_, rfl, fun w H => ?_⟩
     refine op_buildSlice (wn rfl) rfl rfl rfl Try.underlying22 Finf56 S H (idx := [0]) rfl rfl rfl (z := [.int .i64 0, .int .i64 0, .int .i64 0, .int .i64 0, .int .i64 0, .int .i64 0, .int .i64 0, .int .i64 0, .int .i64 0]) (by kernel_rfl) (cs := [.int .i64 q.kind, .int .i64 q.level, .int .i64 q.block, .int .i64 q.row, .int .i64 q.seat, .int .i64 q.x, .int .i64 q.y, .int .i64 q.view, .int .i64 q.with_]) (by kernel_rfl) fun b35 a w S H => ?_
     refine t_n H (rem' := [1, 3, 6, 8, 9, 10, 11, 13, 14]) rfl ?_
     refine t_b1 1 (by kernel_rfl) rfl fun w H => ?_
     refine op_buildSlice (wn rfl) rfl rfl rfl Try.underlying22 Finf56 S H (idx := []) rfl rfl rfl (z := []) (by kernel_rfl) (cs := []) rfl fun b31 a w S H => ?_
     have H := H.celO [] Pl.enc 9 (m := 0) rfl (by simp) rfl (by omega)
     refine t_n H (rem' := [3, 6, 8, 9, 10, 11, 13, 14]) rfl ?_
     refine t_b1 3 (by kernel_rfl) rfl fun w H => ?_
     refine op_appendT (wn rfl) rfl rfl rfl Try.underlying22 Finf56 rfl rfl S H rfl rfl (by simp [Pl.enc, Value.oneCell']) (by simp; omega) (by simp; omega) fun u33 a w S H => ?_
     refine t_tail H rfl (rem' := [6, 8, 9, 10, 11, 13, 14]) rfl ?_
     refine t_b1 6 (by kernel_rfl) rfl fun w H => ?_
     refine op_append ([q]) (wn rfl) rfl rfl rfl Try.underlying22 Finf56 rfl rfl S H rfl rfl rfl rfl (by simp) (by simp [Pl.enc]) (by simp [Pl.enc, Value.oneCell']) (by simp; omega) (by simp; omega) fun u36 a w hn36 S H => ?_
     refine t_tail H rfl (rem' := [8, 9, 10, 11, 13, 14]) rfl ?_
     refine t_b1 8 (by kernel_rfl) rfl fun w H => ?_
     refine op_call (wn rfl) rfl rfl S (co_func rfl Try.call14 S rfl) (plan_any v1 u36 old (next ++ [q]) v3 ts _ (H.sl v1) (H.sl u36) (H.sl v3) hok (by omega)) fun v w hc a S => ?_
     obtain ⟨mvB, vlB, vrB, msB, rfl, hmB, H1⟩ := hc
     have H := H.call4 H1 rfl rfl rfl rfl
     refine t_n H (rem' := [9, 10, 11, 13, 14]) rfl ?_
     refine t_q 9 rfl (by kernel_rfl) (rem' := [10, 11, 13, 14]) rfl rfl rfl rfl S (fun w H => y_move rfl S rfl) fun a S => ?_
     refine t_q 10 rfl (by kernel_rfl) (rem' := [11, 13, 14]) rfl rfl rfl rfl S (fun w H => y_extract rfl S rfl rfl) fun a S => ?_
     refine t_p 11 rfl (by kernel_rfl) (rem' := [13, 14]) rfl rfl rfl rfl S (fun w => y_extract rfl S rfl rfl) fun a S => ?_
     refine t_b1 13 (by kernel_rfl) rfl fun w H => ?_
     refine op_storea (wn rfl) rfl rfl S H rfl rfl (by simp only [List.all_cons, List.all_nil, H.sl1 mvB, H.sl1 vlB, H.sl1 vrB, Bool.true_and]) Fsiz29 rfl (cs' := [_, _, _]) rfl fun a w S H => ?_
     refine t_tail H rfl (rem' := [14]) rfl ?_
     refine t_q 14 rfl (by kernel_rfl) (rem' := []) rfl rfl rfl rfl S (fun w H => y_assign rfl S rfl) fun a S => ?_
     refine t_nil (fun w H => ?_)
     exact ⟨mvB, vlB, vrB, msB, b12, hmB, ((((S.nil.cons S 13 rfl).cons S 12 rfl).cons S 11 rfl).cons S 10 rfl).cons S 9 rfl, H.take [Cel b12 29 [mvB, vlB, vrB], OSl 50 mvB 3 Mv.enc msB, Cel b10 29 [mvA, vlA, vrA], OSl 50 mvA 3 Mv.enc msA, Sl v3 11 Ow.enc ts, Sl v2 9 Pl.enc next, Sl v1 9 Pl.enc old]⟩
  rintro a w ⟨mvB, vlB, vrB, msB, b12, hmB, S, H⟩
  have hlA := (H.sl mvA).len
  have hlB := (H.sl mvB).len
  have hcA := cntG_le (tosS (msA.map Mv.say)) msA.length
  have hcB := cntG_le (tosS (msB.map Mv.say)) msB.length
  refine g_seq ?_
  refine region_st (loud := []) (tails := []) (free := []) [0, 1, 2, 3, 4, 5] [] Fmo (by kernel_rfl) (by kernel_rfl) rfl H ?_
  refine m_w rfl rfl (wn rfl) rfl rfl S (fun w H => y_load0 rfl S H rfl (by exact Fagg29)) fun a S => ?_
  refine m_c rfl rfl (wn rfl) rfl rfl S (fun w => co_func rfl Try.call22 S rfl) (fun w H => placed_spec mvB vlB vrB msB _ (H.sl mvB)) fun a S => ?_
  refine m_w rfl rfl (wn rfl) rfl rfl S (fun w H => y_load0 rfl S H rfl (by exact Fagg29)) fun a S => ?_
  refine m_c rfl rfl (wn rfl) rfl rfl S (fun w => co_func rfl Try.call22 S rfl) (fun w H => placed_spec mvA vlA vrA msA _ (H.sl mvA)) fun a S => ?_
  refine m_w rfl rfl (wn rfl) rfl rfl S (fun w H => y_sub rfl S rfl rfl (by omega)) fun a S => ?_
  refine m_w rfl rfl (wn rfl) rfl rfl S (fun w H => y_assign rfl S rfl) fun a S => ?_
  refine m_nil (fun w H => ?_)
  refine n_then ?_
  have S := (((S.nil.cons S 13 rfl).cons S 11 rfl).cons S 9 rfl).cons S 14 rfl
  refine g_seq ?_
  refine g_region ?_
  refine gy rfl rfl rfl S (y_move rfl S rfl) fun a S => ?_
  refine gy rfl rfl rfl S (y_move rfl S rfl) fun a S => ?_
  refine' wl_and 3 47 rfl S H rfl rfl rfl rfl rfl rfl rfl (fun _ S => (wn rfl)) (fun h2 kk => ?yh2) (fun a w S H => ?_)
  case yh2 =>
   have h2p := h2; try simp only [DL] at h2p
   refine gz 47 h2 S rfl rfl rfl rfl rfl rfl (y_move rfl S rfl) fun a S => ?_
   refine gz 47 h2 S rfl rfl rfl rfl rfl rfl (y_move rfl S rfl) fun a S => ?_
   refine gz 47 h2 S rfl rfl rfl rfl rfl rfl (y_bin rfl S rfl rfl rfl) fun a S => ?_
   refine gy rfl rfl rfl S (y_and' rfl h2 S rfl rfl) fun a S => ?_
   exact kk _ _ (S.join 4 51 rfl rfl) H
  refine gy rfl rfl rfl S (y_move rfl S rfl) fun a S => ?_
  refine' wl_and 6 52 rfl S H rfl rfl rfl rfl rfl rfl rfl (fun _ S => (wn rfl)) (fun h3 kk => ?yh3) (fun a w S H => ?_)
  case yh3 =>
   have h3p := h3; try simp only [DL] at h3p
   refine gz 52 h3 S rfl rfl rfl rfl rfl rfl (y_move rfl S rfl) fun a S => ?_
   refine gz 52 h3 S rfl rfl rfl rfl rfl rfl (y_bin rfl S rfl rfl rfl) fun a S => ?_
   refine gz 52 h3 S rfl rfl rfl rfl rfl rfl (y_move rfl S rfl) fun a S => ?_
   refine' wl_or 2 55 rfl S H rfl rfl rfl rfl rfl rfl rfl (fun _ S => (wg' 52 rfl rfl S rfl h3 rfl)) (fun h4 kk => ?yh4) (fun a w S H => ?_)
   case yh4 =>
    have h4p := h4; try simp only [DL] at h4p
    refine gz 55 h4 S rfl rfl rfl rfl rfl rfl (y_move rfl S rfl) fun a S => ?_
    refine gz 55 h4 S rfl rfl rfl rfl rfl rfl (y_bin rfl S rfl rfl rfl) fun a S => ?_
    refine gz 52 h3 S rfl rfl rfl rfl rfl rfl (y_or' rfl h4 S rfl rfl) fun a S => ?_
    exact kk _ _ (S.join 3 58 rfl rfl) H
   refine gy rfl rfl rfl S (y_and' rfl h3 S rfl rfl) fun a S => ?_
   exact kk _ _ (S.join 5 59 rfl rfl) H
  refine gy rfl rfl rfl S (y_assign rfl S rfl) fun a S => ?_
  refine gl_nil ?_
  refine n_then ?_
  have S := S.nil.cons S 8 rfl
  refine g_ret ?_
  refine ret1 rfl S rfl ?_
  exact ⟨congrArg Value.bool (by rw [more_err (by omega)]; have hml := more_law (q := q) (show next.length ≤ 20 by omega) hmA hmB; rw [show (errP old next ts == errP old next ts) = true by simp]; simp only [Bool.true_and, Bool.or_eq_true, beq_iff_eq]; omega), H.toExt⟩

end Go.Proofs.Ytenaoaegichecaa
