/- The walks. No condition. -/
import Derived.Test.YtenaoaegichecaaChecked
import Derived.Test.YtenaoaegichecaaGwBits
import Derived.Test.YtenaoaegichecaaFacts
import Derived.Test.YtenaoaegichecaaPlain
import Derived.Test.YtenaoaegichecaaPlainY
import Derived.Test.YtenaoaegichecaaW17
namespace Go.Proofs.Ytenaoaegichecaa
open Go Go.Gw
set_option linter.unusedVariables false
set_option linter.unusedSimpArgs false
set_option maxHeartbeats 8000000 in
/-- foyer/foyerlaw41.RebuildStays -/
theorem law6 (v1 v2 : Value) (old next : List Pl) (v3 : Value) (ts : List Ow) (w0 : World) (hv1 : IsSl w0 v1 9 Pl.enc old) (hv2 : IsSl w0 v2 9 Pl.enc next) (hv3 : IsSl w0 v3 11 Ow.enc ts) (hok : ∀ o ∈ ts, o.ok) :
    Ret Try.prog 7 #[v1, v2, v3] w0 (fun v w => v = .bool true ∧ Ext w0 w) := by
 refine ret_of_wp (nt := 164) Try.func7 rfl rfl rfl (fl := [(0, v1), (1, v2), (2, v3)]) rfl (fun a S => ?_)
 have H := HSat.start w0
 have H := H.ro0 (Sl v1 9 Pl.enc old) rfl (hv1)
 have H := H.ro0 (Sl v2 9 Pl.enc next) rfl (hv2)
 have H := H.ro0 (Sl v3 11 Ow.enc ts) rfl (hv3)
 have hl1 := hv1.len
 have hl2 := hv2.len
 have hl3 := hv3.len
 refine g_seq ?_
 refine g_region ?_
 refine gy rfl rfl rfl S (y_assign rfl S rfl) fun a S => ?_
 refine gl_nil ?_
 refine n_then ?_
 refine g_seq ?_
 refine g_region ?_
 refine wl_of (op_call (wn rfl) rfl rfl S (co_func rfl Try.call11 S rfl) (head_spec _) fun v w hc a S => ?_)
 obtain ⟨rfl, he⟩ := hc
 have H := H.ext he
 refine gy rfl rfl rfl S (y_assign rfl S rfl) fun a S => ?_
 refine gl_nil ?_
 refine n_then ?_
 refine g_seq ?_
 refine g_seq ?_
 refine g_region ?_
 refine gy rfl rfl rfl S (y_move rfl S rfl) fun a S => ?_
 refine gy rfl rfl rfl S (y_move rfl S rfl) fun a S => ?_
 refine gy rfl rfl rfl S (y_move rfl S rfl) fun a S => ?_
 refine wl_of (op_call (wn rfl) rfl rfl S (co_func rfl Try.call12 S rfl) (few_spec v1 v2 old next v3 ts 20 _ (H.sl v1) (H.sl v2) (H.sl v3)) fun v w hc a S => ?_)
 obtain ⟨rfl, he⟩ := hc
 have H := H.ext he
 refine gy rfl rfl rfl S (y_not rfl S rfl) fun a S => ?_
 refine gl_nil ?_
 refine n_then ?_
 have S := (((((S.nil.cons S 2 rfl).cons S 1 rfl).cons S 0 rfl).cons S 6 rfl).cons S 7 rfl).cons S 26 rfl
 refine c_if S rfl (fun h1 => ?_) (fun h1 => ?_)
 ·have h1p := h1; try simp only [DL] at h1p
  refine g_seq ?_
  refine g_region ?_
  refine gy rfl rfl rfl S (y_move rfl S rfl) fun a S => ?_
  refine gy rfl rfl rfl S (y_assign rfl S rfl) fun a S => ?_
  refine gl_nil ?_
  refine n_then ?_
  refine g_ret ?_
  refine r_then (ret1 rfl S rfl ?_)
  exact ⟨rfl, H.toExt⟩
 ·have h1p := h1; try simp only [DL] at h1p
  have hfw : old.length ≤ 20 ∧ next.length ≤ 20 ∧ ts.length ≤ 20 := by have := h1p; omega
  refine g_skip ?_
  refine n_then ?_
  refine g_seq ?_
  refine g_region ?_
  refine gy rfl rfl rfl S (y_move rfl S rfl) fun a S => ?_
  refine gy rfl rfl rfl S (y_move rfl S rfl) fun a S => ?_
  refine gy rfl rfl rfl S (y_move rfl S rfl) fun a S => ?_
  refine wl_of (op_call (wn rfl) rfl rfl S (co_func rfl Try.call14 S rfl) (plan_any v1 v2 old next v3 ts _ (H.sl v1) (H.sl v2) (H.sl v3) hok (by omega)) fun v w hc a S => ?_)
  obtain ⟨mvA, vlA, vrA, msA, rfl, hmA, H1⟩ := hc
  have H := H.call4 H1 rfl rfl rfl rfl
  have hclA := clP_len old next ts (by omega)
  have hcrA := crP_len old next ts (by omega)
  refine gy rfl rfl rfl S (y_move rfl S rfl) fun a S => ?_
  refine gy rfl rfl rfl S (y_extract rfl S rfl rfl) fun a S => ?_
  refine gy rfl rfl rfl S (y_extract rfl S rfl rfl) fun a S => ?_
  refine wl_of (op_alloc (wn rfl) rfl rfl rfl S H Fzer29 fun b8 a w S H => ?_)
  refine wl_of (op_storea (wn rfl) rfl rfl S H rfl rfl (by simp only [List.all_cons, List.all_nil, H.sl1 mvA, H.sl1 vlA, H.sl1 vrA, Bool.true_and]) Fsiz29 rfl (cs' := [_, _, _]) rfl fun a w S H => ?_)
  refine gy rfl rfl rfl S (y_assign rfl S rfl) fun a S => ?_
  refine gl_nil ?_
  refine n_then ?_
  have S := ((((((S.nil.cons S 2 rfl).cons S 1 rfl).cons S 0 rfl).cons S 6 rfl).cons S 7 rfl).cons S 8 rfl).cons S 9 rfl
  refine g_seq ?_
  refine g_region ?_
  refine gy rfl rfl rfl S (y_move rfl S rfl) fun a S => ?_
  refine wl_of (op_call (wn rfl) rfl rfl S (co_func rfl Try.call20 S rfl) (moved_spec v3 ts _ (H.sl v3) hok (by omega)) fun u36 w hc a S => ?_)
  have H1 := hc
  have H := H.call1 H1 rfl
  have hmle := moved_len ts
  refine gy rfl rfl rfl S (y_assign rfl S rfl) fun a S => ?_
  refine gl_nil ?_
  refine n_then ?_
  refine g_seq ?_
  refine g_region ?_
  refine gy rfl rfl rfl S (y_move rfl S rfl) fun a S => ?_
  refine gy rfl rfl rfl S (y_move rfl S rfl) fun a S => ?_
  refine gy rfl rfl rfl S (y_move rfl S rfl) fun a S => ?_
  refine wl_of (op_call (wn rfl) rfl rfl S (co_func rfl Try.call14 S rfl) (plan_any v1 v2 old next u36 (movedL ts) _ (H.sl v1) (H.sl v2) (H.sl u36) (fun o ho => hok o (List.mem_filter.1 ho).1) (by omega)) fun v w hc a S => ?_)
  obtain ⟨mvB, vlB, vrB, msB, rfl, hmB, H1⟩ := hc
  have H := H.call4 H1 rfl rfl rfl rfl
  have hclB := clP_len old next (movedL ts) (by omega)
  have hcrB := crP_len old next (movedL ts) (by omega)
  refine gy rfl rfl rfl S (y_move rfl S rfl) fun a S => ?_
  refine gy rfl rfl rfl S (y_extract rfl S rfl rfl) fun a S => ?_
  refine gy rfl rfl rfl S (y_extract rfl S rfl rfl) fun a S => ?_
  refine wl_of (op_alloc (wn rfl) rfl rfl rfl S H Fzer29 fun b11 a w S H => ?_)
  refine wl_of (op_storea (wn rfl) rfl rfl S H rfl rfl (by simp only [List.all_cons, List.all_nil, H.sl1 mvB, H.sl1 vlB, H.sl1 vrB, Bool.true_and]) Fsiz29 rfl (cs' := [_, _, _]) rfl fun a w S H => ?_)
  refine gy rfl rfl rfl S (y_assign rfl S rfl) fun a S => ?_
  refine gl_nil ?_
  refine n_then ?_
  have S := (((((((((S.nil.cons S 2 rfl).cons S 1 rfl).cons S 0 rfl).cons S 6 rfl).cons S 7 rfl).cons S 8 rfl).cons S 9 rfl).cons S 10 rfl).cons S 11 rfl).cons S 12 rfl
  refine g_seq ?_
  refine g_seq ?_
  refine g_region ?_
  refine gy rfl rfl rfl S (y_move rfl S rfl) fun a S => ?_
  refine gy rfl rfl rfl S (y_move rfl S rfl) fun a S => ?_
  refine gy rfl rfl rfl S (y_bin rfl S rfl rfl rfl) fun a S => ?_
  refine gy rfl rfl rfl S (y_move rfl S rfl) fun a S => ?_
  refine' wl_or 4 47 rfl S H rfl rfl rfl rfl rfl rfl rfl (fun _ S => (wn rfl)) (fun h2 kk => ?yh2) (fun a w S H => ?_)
  case yh2 =>
   have h2p := h2; try simp only [DL] at h2p
   refine gz 47 h2 S rfl rfl rfl rfl rfl rfl (y_load0 rfl S H rfl (by exact Fagg29)) fun a S => ?_
   refine gz 47 h2 S rfl rfl rfl rfl rfl rfl (y_load0 rfl S H rfl (by exact Fagg29)) fun a S => ?_
   refine wl_of (op_call (wg' 47 rfl rfl S rfl h2 rfl) rfl rfl S (co_func rfl Try.call16 S rfl) (same_spec mvA vlA vrA msA (clP old next ts) (crP old next ts) mvB vlB vrB msB (clP old next (movedL ts)) (crP old next (movedL ts)) _ (H.sl mvA) (H.rws 3 (rowsOf msA)) (H.sl vlA) (H.sl vrA) (H.sl mvB) (H.rws 3 (rowsOf msB)) (H.sl vlB) (H.sl vrB)) fun v w hc a S => ?_)
   obtain ⟨rfl, he⟩ := hc
   have H := H.ext he
   refine gz 47 h2 S rfl rfl rfl rfl rfl rfl (y_not rfl S rfl) fun a S => ?_
   refine gy rfl rfl rfl S (y_or' rfl h2 S rfl rfl) fun a S => ?_
   exact kk _ _ (S.join 5 52 rfl rfl) H
  refine gl_nil ?_
  refine n_then ?_
  have S := ((((((((S.nil.cons S 2 rfl).cons S 1 rfl).cons S 0 rfl).cons S 6 rfl).cons S 7 rfl).cons S 8 rfl).cons S 9 rfl).cons S 10 rfl).cons S 52 rfl
  refine c_if S rfl (fun h3 => ?_) (fun h3 => ?_)
  ·have h3p := h3; try simp only [DL] at h3p
   all_goals (
     exfalso
     have hx2 := h3
     rw [err_idem, hmA, hmB, (say_idem old next ts).1, (say_idem old next ts).2.1, (say_idem old next ts).2.2] at hx2
     simp at hx2)
  ·have h3p := h3; try simp only [DL] at h3p
   refine g_skip ?_
   refine n_then ?_
   refine g_seq ?_
   refine g_seq ?_
   refine g_region ?_
   refine gy rfl rfl rfl S (y_assign rfl S rfl) fun a S => ?_
   refine gl_nil ?_
   refine n_then ?_
   refine g_block ?_
   have SU := ((((((S.nil.cons S 2 rfl).cons S 1 rfl).cons S 0 rfl).cons S 7 rfl).cons S 8 rfl).cons S 9 rfl).cons S 10 rfl
   refine loop_k (X := Nat) SU (fun k => [(13, .int .i64 (k : Int))]) (fun k => k ≤ old.length ∧ ∀ i (hi : i < old.length) j (hj : j < i), i < k → sameN old[i] (old[j]'(by omega)) = false) (fun k => old.length - k) 0 (S.nil.cons S 13 rfl) H (⟨by omega, fun i hi j hj h => by omega⟩) (fun k a w S H hi => ?_)
   simp only [List.cons_append, List.nil_append] at S hi
   obtain ⟨hk, hno⟩ := hi
   refine g_seq ?_
   refine g_seq ?_
   refine g_region ?_
   refine gy rfl rfl rfl S (y_move rfl S rfl) fun a S => ?_
   refine gy rfl rfl rfl S (y_move rfl S rfl) fun a S => ?_
   refine gy rfl rfl rfl S (y_lens rfl Try.underlying22 S H rfl) fun a S => ?_
   refine gy rfl rfl rfl S (y_bin rfl S rfl rfl rfl) fun a S => ?_
   refine gl_nil ?_
   refine n_then ?_
   refine c_if S rfl (fun h4 => ?_) (fun h4 => ?_)
   ·have h4p := h4; try simp only [DL] at h4p
    have hkl : k < old.length := by omega
    refine g_skip ?_
    refine n_then ?_
    refine g_seq ?_
    refine g_block ?_
    refine g_seq ?_
    refine g_region ?_
    refine gy rfl rfl rfl S (y_assign rfl S rfl) fun a S => ?_
    refine gl_nil ?_
    refine n_then ?_
    refine g_block ?_
    have SU := (((((((((((S.nil.cons S 2 rfl).cons S 1 rfl).cons S 0 rfl).cons S 7 rfl).cons S 8 rfl).cons S 9 rfl).cons S 10 rfl).cons S 13 rfl).cons S 53 rfl).cons S 54 rfl).cons S 55 rfl).cons S 56 rfl
    refine loop_k (X := Nat) SU (fun q => [(14, .int .i64 (q : Int))]) (fun q => q ≤ k ∧ ∀ j (hj : j < old.length), j < q → sameN old[k] old[j] = false) (fun q => k - q) 0 (S.nil.cons S 14 rfl) H (⟨by omega, fun j hj h => by omega⟩) (fun q a w S H hi => ?_)
    simp only [List.cons_append, List.nil_append] at S hi
    obtain ⟨hq, hnq⟩ := hi
    refine g_seq ?_
    refine g_seq ?_
    refine g_region ?_
    refine gy rfl rfl rfl S (y_move rfl S rfl) fun a S => ?_
    refine gy rfl rfl rfl S (y_move rfl S rfl) fun a S => ?_
    refine gy rfl rfl rfl S (y_bin rfl S rfl rfl rfl) fun a S => ?_
    refine gl_nil ?_
    refine n_then ?_
    refine c_if S rfl (fun h5 => ?_) (fun h5 => ?_)
    ·have h5p := h5; try simp only [DL] at h5p
     have hqk : q < k := by omega
     have hql : q < old.length := by omega
     refine g_skip ?_
     refine n_then ?_
     refine g_seq ?_
     refine g_block ?_
     refine g_seq ?_
     refine region_st (loud := []) (tails := []) (free := []) [0, 1, 2, 3, 4, 5, 6, 7, 8] [] Fmo (by kernel_rfl) (by kernel_rfl) rfl H ?_
     refine m_w rfl rfl (wn rfl) rfl rfl S (fun w H => y_move rfl S rfl) fun a S => ?_
     refine m_w rfl rfl (wn rfl) rfl rfl S (fun w H => y_move rfl S rfl) fun a S => ?_
     refine m_w rfl rfl (wn rfl) rfl rfl S (fun w H => y_iaddrn rfl Try.underlying22 Fsiz56 S H rfl rfl (by first | assumption | omega | (simp only [List.length_append, List.length_take, List.length_drop, List.length_replicate, List.length_set, List.length_map, List.length_cons, List.length_nil]; omega))) fun a S => ?_
     refine m_loadsa _ rfl rfl (wn rfl) rfl rfl S rfl rfl (by exact Fagg56) (by first | assumption | omega | (simp only [List.length_append, List.length_take, List.length_drop, List.length_replicate, List.length_set, List.length_map, List.length_cons, List.length_nil]; omega)) fun a S => ?_
     refine m_w rfl rfl (wn rfl) rfl rfl S (fun w H => y_move rfl S rfl) fun a S => ?_
     refine m_w rfl rfl (wn rfl) rfl rfl S (fun w H => y_move rfl S rfl) fun a S => ?_
     refine m_w rfl rfl (wn rfl) rfl rfl S (fun w H => y_iaddrn rfl Try.underlying22 Fsiz56 S H rfl rfl (by first | assumption | omega | (simp only [List.length_append, List.length_take, List.length_drop, List.length_replicate, List.length_set, List.length_map, List.length_cons, List.length_nil]; omega))) fun a S => ?_
     refine m_loadsa _ rfl rfl (wn rfl) rfl rfl S rfl rfl (by exact Fagg56) (by first | assumption | omega | (simp only [List.length_append, List.length_take, List.length_drop, List.length_replicate, List.length_set, List.length_map, List.length_cons, List.length_nil]; omega)) fun a S => ?_
     refine m_c rfl rfl (wn rfl) rfl rfl S (fun w => co_func rfl Try.call23 S rfl) (fun w H => lnumbers_spec _ _ _) fun a S => ?_
     refine m_nil (fun w H => ?_)
     refine n_then ?_
     refine c_if S rfl (fun h6 => ?_) (fun h6 => ?_)
     ·have h6p := h6; try simp only [DL] at h6p
      refine g_seq ?_
      refine g_region ?_
      refine gy rfl rfl rfl S (y_move rfl S rfl) fun a S => ?_
      refine gy rfl rfl rfl S (y_assign rfl S rfl) fun a S => ?_
      refine gl_nil ?_
      refine n_then ?_
      refine g_ret ?_
      refine r_block (r_then (r_then (r_block (r_block (r_then (r_then (r_block (r_then (ret1 rfl S rfl ?_)))))))))
      exact ⟨rfl, H.toExt⟩
     ·have h6p := h6; try simp only [DL] at h6p
      have hne := h6
      refine g_skip ?_
      refine n_block ?_
      refine n_then ?_
      refine g_region ?_
      refine gy rfl rfl rfl S (y_move rfl S rfl) fun a S => ?_
      refine gy rfl rfl rfl S (y_add rfl S rfl rfl (by omega)) fun a S => ?_
      refine gy rfl rfl rfl S (y_assign rfl S rfl) fun a S => ?_
      refine gl_nil ?_
      refine n_then ?_
      refine ⟨q + 1, S.nil.cons S 14 rfl, (((((((((((S.nil.cons S 2 rfl).cons S 1 rfl).cons S 0 rfl).cons S 7 rfl).cons S 8 rfl).cons S 9 rfl).cons S 10 rfl).cons S 13 rfl).cons S 53 rfl).cons S 54 rfl).cons S 55 rfl).cons S 56 rfl, H, ?_, ?_⟩
      · exact ⟨by omega, fun j hj h => by
          by_cases e : j < q
          · exact hnq j hj e
          · obtain rfl : q = j := by omega
            exact hne⟩
      · omega
    ·have h5p := h5; try simp only [DL] at h5p
     obtain rfl : k = q := by omega
     refine g_exit ?_
     refine x_then (x_then (x_eq ?_))
     refine n_block ?_
     refine n_then ?_
     refine g_region ?_
     refine gy rfl rfl rfl S (y_move rfl S rfl) fun a S => ?_
     refine gy rfl rfl rfl S (y_add rfl S rfl rfl (by omega)) fun a S => ?_
     refine gy rfl rfl rfl S (y_assign rfl S rfl) fun a S => ?_
     refine gl_nil ?_
     refine n_then ?_
     refine ⟨k + 1, S.nil.cons S 13 rfl, ((((((S.nil.cons S 2 rfl).cons S 1 rfl).cons S 0 rfl).cons S 7 rfl).cons S 8 rfl).cons S 9 rfl).cons S 10 rfl, H, ?_, ?_⟩
     · exact ⟨by omega, fun i hi2 j hj h => by
         by_cases e : i < k
         · exact hno i hi2 j hj e
         · obtain rfl : k = i := by omega
           exact hnq j (by omega) hj⟩
     · omega
   ·have h4p := h4; try simp only [DL] at h4p
    have hD : Diff old := fun i hi j hj => hno i hi j hj (by omega)
    refine g_exit ?_
    refine x_then (x_then (x_eq ?_))
    refine n_then ?_
    have S := ((((((S.nil.cons S 2 rfl).cons S 1 rfl).cons S 0 rfl).cons S 7 rfl).cons S 8 rfl).cons S 9 rfl).cons S 10 rfl
    refine g_seq ?_
    refine g_seq ?_
    refine g_region ?_
    refine gy rfl rfl rfl S (y_move rfl S rfl) fun a S => ?_
    refine gy rfl rfl rfl S (y_bin rfl S rfl rfl rfl) fun a S => ?_
    refine gl_nil ?_
    refine n_then ?_
    refine c_if S rfl (fun h7 => ?_) (fun h7 => ?_)
    ·have h7p := h7; try simp only [DL] at h7p
     refine g_seq ?_
     refine g_region ?_
     refine gy rfl rfl rfl S (y_move rfl S rfl) fun a S => ?_
     refine gy rfl rfl rfl S (y_assign rfl S rfl) fun a S => ?_
     refine gl_nil ?_
     refine n_then ?_
     have S := ((((((S.nil.cons S 2 rfl).cons S 1 rfl).cons S 0 rfl).cons S 7 rfl).cons S 8 rfl).cons S 10 rfl).cons S 6 rfl
     refine g_ret ?_
     refine r_then (ret1 rfl S rfl ?_)
     exact ⟨rfl, H.toExt⟩
    ·have h7p := h7; try simp only [DL] at h7p
     have herr : errP old next ts = 0 := by have := h7p; simpa using this
     have hM := planM herr hmA
     have hlen := hM.len
     have herr2 := stay_err herr (by omega)
     refine g_skip ?_
     refine n_then ?_
     refine g_seq ?_
     refine g_region ?_
     refine gy rfl rfl rfl S (y_move rfl S rfl) fun a S => ?_
     refine gy rfl rfl rfl S (y_move rfl S rfl) fun a S => ?_
     refine gy rfl rfl rfl S (y_move rfl S rfl) fun a S => ?_
     refine wl_of (op_call (wn rfl) rfl rfl S (co_func rfl Try.call14 S rfl) (plan_any v1 v1 old old v3 ts _ (H.sl v1) (H.sl v1) (H.sl v3) hok (by omega)) fun v w hc a S => ?_)
     obtain ⟨mvC, vlC, vrC, msC, rfl, hmC, H1⟩ := hc
     have H := H.call4 H1 rfl rfl rfl rfl
     have hclC := clP_len old old ts (by omega)
     have hcrC := crP_len old old ts (by omega)
     have hMC := planM herr2 hmC
     have hlenC := hMC.len
     refine gy rfl rfl rfl S (y_move rfl S rfl) fun a S => ?_
     refine gy rfl rfl rfl S (y_extract rfl S rfl rfl) fun a S => ?_
     refine gy rfl rfl rfl S (y_extract rfl S rfl rfl) fun a S => ?_
     refine wl_of (op_alloc (wn rfl) rfl rfl rfl S H Fzer29 fun b15 a w S H => ?_)
     refine wl_of (op_storea (wn rfl) rfl rfl S H rfl rfl (by simp only [List.all_cons, List.all_nil, H.sl1 mvC, H.sl1 vlC, H.sl1 vrC, Bool.true_and]) Fsiz29 rfl (cs' := [_, _, _]) rfl fun a w S H => ?_)
     refine gy rfl rfl rfl S (y_assign rfl S rfl) fun a S => ?_
     refine gl_nil ?_
     refine n_then ?_
     have S := ((((((S.nil.cons S 1 rfl).cons S 0 rfl).cons S 7 rfl).cons S 8 rfl).cons S 10 rfl).cons S 15 rfl).cons S 16 rfl
     refine g_seq ?_
     refine g_seq ?_
     refine g_region ?_
     refine gy rfl rfl rfl S (y_move rfl S rfl) fun a S => ?_
     refine gy rfl rfl rfl S (y_bin rfl S rfl rfl rfl) fun a S => ?_
     refine gy rfl rfl rfl S (y_move rfl S rfl) fun a S => ?_
     refine' wl_or 6 86 rfl S H rfl rfl rfl rfl rfl rfl rfl (fun _ S => (wn rfl)) (fun h8 kk => ?yh8) (fun a w S H => ?_)
     case yh8 =>
      have h8p := h8; try simp only [DL] at h8p
      refine gz 86 h8 S rfl rfl rfl rfl rfl rfl (y_faddrb rfl Ffo29_0 S rfl) fun a S => ?_
      refine gz 86 h8 S rfl rfl rfl rfl rfl rfl (y_load rfl Fsca24 S H rfl rfl) fun a S => ?_
      refine gz 86 h8 S rfl rfl rfl rfl rfl rfl (y_lens rfl Try.underlying24 S H rfl) fun a S => ?_
      refine gz 86 h8 S rfl rfl rfl rfl rfl rfl (y_move rfl S rfl) fun a S => ?_
      refine gz 86 h8 S rfl rfl rfl rfl rfl rfl (y_lens rfl Try.underlying23 S H rfl) fun a S => ?_
      refine gz 86 h8 S rfl rfl rfl rfl rfl rfl (y_bin rfl S rfl rfl rfl) fun a S => ?_
      refine gy rfl rfl rfl S (y_or' rfl h8 S rfl rfl) fun a S => ?_
      exact kk _ _ (S.join 7 93 rfl rfl) H
     refine gy rfl rfl rfl S (y_move rfl S rfl) fun a S => ?_
     refine' wl_or 6 94 rfl S H rfl rfl rfl rfl rfl rfl rfl (fun _ S => (wn rfl)) (fun h9 kk => ?yh9) (fun a w S H => ?_)
     case yh9 =>
      have h9p := h9; try simp only [DL] at h9p
      refine gz 94 h9 S rfl rfl rfl rfl rfl rfl (y_faddrb rfl Ffo29_0 S rfl) fun a S => ?_
      refine gz 94 h9 S rfl rfl rfl rfl rfl rfl (y_load rfl Fsca24 S H rfl rfl) fun a S => ?_
      refine gz 94 h9 S rfl rfl rfl rfl rfl rfl (y_lens rfl Try.underlying24 S H rfl) fun a S => ?_
      refine gz 94 h9 S rfl rfl rfl rfl rfl rfl (y_move rfl S rfl) fun a S => ?_
      refine gz 94 h9 S rfl rfl rfl rfl rfl rfl (y_lens rfl Try.underlying23 S H rfl) fun a S => ?_
      refine gz 94 h9 S rfl rfl rfl rfl rfl rfl (y_bin rfl S rfl rfl rfl) fun a S => ?_
      refine gy rfl rfl rfl S (y_or' rfl h9 S rfl rfl) fun a S => ?_
      exact kk _ _ (S.join 7 101 rfl rfl) H
     refine gl_nil ?_
     refine n_then ?_
     have S := ((((((S.nil.cons S 1 rfl).cons S 0 rfl).cons S 7 rfl).cons S 8 rfl).cons S 10 rfl).cons S 15 rfl).cons S 101 rfl
     refine c_if S rfl (fun h10 => ?_) (fun h10 => ?_)
     ·have h10p := h10; try simp only [DL] at h10p
      all_goals (
        exfalso
        have hx7 := h10
        simp only [Bool.or_eq_true, bne_iff_ne, ne_eq] at hx7
        rcases hx7 with (hx7 | hx7) | hx7
        · exact hx7 herr2
        · exact hx7 (by rw [hlenC])
        · exact hx7 (by rw [hlen]))
     ·have h10p := h10; try simp only [DL] at h10p
      refine g_skip ?_
      refine n_then ?_
      refine g_seq ?_
      refine g_seq ?_
      refine g_region ?_
      refine gy rfl rfl rfl S (y_assign rfl S rfl) fun a S => ?_
      refine gl_nil ?_
      refine n_then ?_
      refine g_block ?_
      have SU := (((((S.nil.cons S 1 rfl).cons S 0 rfl).cons S 7 rfl).cons S 8 rfl).cons S 10 rfl).cons S 15 rfl
      refine loop_k (X := Nat) SU (fun k => [(17, .int .i64 (k : Int))]) (fun k => k ≤ (movedL ts).length) (fun k => (movedL ts).length - k) 0 (S.nil.cons S 17 rfl) H (by omega) (fun k a w S H hi => ?_)
      simp only [List.cons_append, List.nil_append] at S hi
      refine g_seq ?_
      refine g_seq ?_
      refine g_region ?_
      refine gy rfl rfl rfl S (y_move rfl S rfl) fun a S => ?_
      refine gy rfl rfl rfl S (y_move rfl S rfl) fun a S => ?_
      refine gy rfl rfl rfl S (y_lens rfl Try.underlying23 S H rfl) fun a S => ?_
      refine gy rfl rfl rfl S (y_bin rfl S rfl rfl rfl) fun a S => ?_
      refine gl_nil ?_
      refine n_then ?_
      refine c_if S rfl (fun h11 => ?_) (fun h11 => ?_)
      ·have h11p := h11; try simp only [DL] at h11p
       have hkt : k < (movedL ts).length := by omega
       have hkm : k < msA.length := by omega
       have hkC : k < msC.length := by omega
       obtain ⟨x, hx⟩ : ∃ x : Nat, (movedL ts)[k].place = x := ⟨(movedL ts)[k].place.toNat, by have := hM.place hkt; omega⟩
       have hxn : x < old.length := by have := hM.place hkt; omega
       refine g_skip ?_
       refine n_then ?_
       refine g_seq ?_
       refine g_block ?_
       refine g_seq ?_
       refine g_region ?_
       refine gy rfl rfl rfl S (y_move rfl S rfl) fun a S => ?_
       refine gy rfl rfl rfl S (y_move rfl S rfl) fun a S => ?_
       refine gy rfl rfl rfl S (y_iaddrn rfl Try.underlying23 Fsiz47 S H rfl rfl (by first | assumption | omega | (simp only [List.length_append, List.length_take, List.length_drop, List.length_replicate, List.length_set, List.length_map, List.length_cons, List.length_nil]; omega))) fun a S => ?_
       refine gy rfl rfl rfl S (y_faddr rfl Ffo47_0 S rfl) fun a S => ?_
       refine gy rfl rfl rfl S (y_faddr rfl Ffo41_2 S rfl) fun a S => ?_
       refine gy rfl rfl rfl S (y_loadsff _ rfl Fsca3 S H rfl (by first | assumption | omega | (simp only [List.length_append, List.length_take, List.length_drop, List.length_replicate, List.length_set, List.length_map, List.length_cons, List.length_nil]; omega)) rfl) fun a S => ?_
       rw [hx] at S
       refine gy rfl rfl rfl S (y_assign rfl S rfl) fun a S => ?_
       refine gl_nil ?_
       refine n_then ?_
       refine g_seq ?_
       refine g_region ?_
       refine gy rfl rfl rfl S (y_assign rfl S rfl) fun a S => ?_
       refine gl_nil ?_
       refine n_then ?_
       refine g_seq ?_
       refine g_seq ?_
       refine g_region ?_
       refine gy rfl rfl rfl S (y_assign rfl S rfl) fun a S => ?_
       refine gl_nil ?_
       refine n_then ?_
       refine g_block ?_
       have SU := (((((((((((((((((S.nil.cons S 1 rfl).cons S 0 rfl).cons S 7 rfl).cons S 8 rfl).cons S 10 rfl).cons S 15 rfl).cons S 17 rfl).cons S 102 rfl).cons S 103 rfl).cons S 104 rfl).cons S 105 rfl).cons S 108 rfl).cons S 109 rfl).cons S 110 rfl).cons S 111 rfl).cons S 112 rfl).cons S 113 rfl).cons S 18 rfl
       refine loop_k (X := Nat) SU (fun q => [(19, .bool (standsK old[x] next q)), (20, .int .i64 (q : Int))]) (fun q => q ≤ next.length) (fun q => next.length - q) 0 ((S.nil.cons S 20 rfl).cons S 19 rfl) H (by omega) (fun q a w S H hi => ?_)
       simp only [List.cons_append, List.nil_append] at S hi
       refine g_seq ?_
       refine g_seq ?_
       refine g_region ?_
       refine gy rfl rfl rfl S (y_move rfl S rfl) fun a S => ?_
       refine gy rfl rfl rfl S (y_move rfl S rfl) fun a S => ?_
       refine gy rfl rfl rfl S (y_lens rfl Try.underlying22 S H rfl) fun a S => ?_
       refine gy rfl rfl rfl S (y_bin rfl S rfl rfl rfl) fun a S => ?_
       refine gl_nil ?_
       refine n_then ?_
       refine c_if S rfl (fun h12 => ?_) (fun h12 => ?_)
       ·have h12p := h12; try simp only [DL] at h12p
        have hqn : q < next.length := by omega
        have hst := stands_succ (o := old[x]) hqn
        refine g_skip ?_
        refine n_then ?_
        refine g_seq ?_
        refine g_block ?_
        refine region_st (loud := []) (tails := []) (free := []) [0, 1, 2, 3, 4, 5, 6, 7, 8, 9, 10, 11, 12, 13, 14, 15, 16, 17, 18, 19, 20, 21, 22, 23] [] Fmo (by kernel_rfl) (by kernel_rfl) rfl H ?_
        refine m_w rfl rfl (wn rfl) rfl rfl S (fun w H => y_move rfl S rfl) fun a S => ?_
        refine m_w rfl rfl (wn rfl) rfl rfl S (fun w H => y_move rfl S rfl) fun a S => ?_
        refine' m_orq [2, 3, 4, 5, 6, 7, 8, 9, 10, 11, 12, 13, 14, 15, 16, 17, 18, 19, 20, 21] 121 S rfl rfl rfl rfl rfl rfl rfl rfl rfl (fun _ S => (wn rfl)) (fun h13 kk => ?yh13) (fun a S => ?_)
        case yh13 =>
         have h13p := h13; try simp only [DL] at h13p
         refine m_w rfl rfl (wg' 121 rfl rfl S rfl h13 rfl) rfl rfl S (fun w H => y_move rfl S rfl) fun a S => ?_
         refine m_w rfl rfl (wg' 121 rfl rfl S rfl h13 rfl) rfl rfl S (fun w H => y_move rfl S rfl) fun a S => ?_
         refine m_w rfl rfl (wg' 121 rfl rfl S rfl h13 rfl) rfl rfl S (fun w H => y_iaddrn rfl Try.underlying22 Fsiz56 S H rfl rfl (by first | assumption | omega | (simp only [List.length_append, List.length_take, List.length_drop, List.length_replicate, List.length_set, List.length_map, List.length_cons, List.length_nil]; omega))) fun a S => ?_
         refine m_loadsa _ rfl rfl (wg' 121 rfl rfl S rfl h13 rfl) rfl rfl S rfl rfl (by exact Fagg56) (by first | assumption | omega | (simp only [List.length_append, List.length_take, List.length_drop, List.length_replicate, List.length_set, List.length_map, List.length_cons, List.length_nil]; omega)) fun a S => ?_
         refine m_w rfl rfl (wg' 121 rfl rfl S rfl h13 rfl) rfl rfl S (fun w H => y_move rfl S rfl) fun a S => ?_
         refine m_w rfl rfl (wg' 121 rfl rfl S rfl h13 rfl) rfl rfl S (fun w H => y_move rfl S rfl) fun a S => ?_
         refine m_w rfl rfl (wg' 121 rfl rfl S rfl h13 rfl) rfl rfl S (fun w H => y_iaddrn rfl Try.underlying22 Fsiz56 S H rfl rfl (by first | assumption | omega | (simp only [List.length_append, List.length_take, List.length_drop, List.length_replicate, List.length_set, List.length_map, List.length_cons, List.length_nil]; omega))) fun a S => ?_
         refine m_loadsa _ rfl rfl (wg' 121 rfl rfl S rfl h13 rfl) rfl rfl S rfl rfl (by exact Fagg56) (by first | assumption | omega | (simp only [List.length_append, List.length_take, List.length_drop, List.length_replicate, List.length_set, List.length_map, List.length_cons, List.length_nil]; omega)) fun a S => ?_
         refine m_c rfl rfl (wg' 121 rfl rfl S rfl h13 rfl) rfl rfl S (fun w => co_func rfl Try.call23 S rfl) (fun w H => lnumbers_spec _ _ _) fun a S => ?_
         refine m_w rfl rfl (wg' 121 rfl rfl S rfl h13 rfl) rfl rfl S (fun w H => y_move rfl S rfl) fun a S => ?_
         refine' m_andq [12, 13, 14, 15, 16, 17, 18, 19, 20] 131 S rfl rfl rfl rfl rfl rfl rfl rfl rfl (fun _ S => (wg' 121 rfl rfl S rfl h13 rfl)) (fun h14 kk => ?yh14) (fun a S => ?_)
         case yh14 =>
          have h14p := h14; try simp only [DL] at h14p
          refine m_w rfl rfl (wg' 131 rfl rfl S rfl h14 rfl) rfl rfl S (fun w H => y_move rfl S rfl) fun a S => ?_
          refine m_w rfl rfl (wg' 131 rfl rfl S rfl h14 rfl) rfl rfl S (fun w H => y_move rfl S rfl) fun a S => ?_
          refine m_w rfl rfl (wg' 131 rfl rfl S rfl h14 rfl) rfl rfl S (fun w H => y_iaddrn rfl Try.underlying22 Fsiz56 S H rfl rfl (by first | assumption | omega | (simp only [List.length_append, List.length_take, List.length_drop, List.length_replicate, List.length_set, List.length_map, List.length_cons, List.length_nil]; omega))) fun a S => ?_
          refine m_loadsa _ rfl rfl (wg' 131 rfl rfl S rfl h14 rfl) rfl rfl S rfl rfl (by exact Fagg56) (by first | assumption | omega | (simp only [List.length_append, List.length_take, List.length_drop, List.length_replicate, List.length_set, List.length_map, List.length_cons, List.length_nil]; omega)) fun a S => ?_
          refine m_w rfl rfl (wg' 131 rfl rfl S rfl h14 rfl) rfl rfl S (fun w H => y_move rfl S rfl) fun a S => ?_
          refine m_w rfl rfl (wg' 131 rfl rfl S rfl h14 rfl) rfl rfl S (fun w H => y_move rfl S rfl) fun a S => ?_
          refine m_w rfl rfl (wg' 131 rfl rfl S rfl h14 rfl) rfl rfl S (fun w H => y_iaddrn rfl Try.underlying22 Fsiz56 S H rfl rfl (by first | assumption | omega | (simp only [List.length_append, List.length_take, List.length_drop, List.length_replicate, List.length_set, List.length_map, List.length_cons, List.length_nil]; omega))) fun a S => ?_
          refine m_loadsa _ rfl rfl (wg' 131 rfl rfl S rfl h14 rfl) rfl rfl S rfl rfl (by exact Fagg56) (by first | assumption | omega | (simp only [List.length_append, List.length_take, List.length_drop, List.length_replicate, List.length_set, List.length_map, List.length_cons, List.length_nil]; omega)) fun a S => ?_
          refine m_c rfl rfl (wg' 131 rfl rfl S rfl h14 rfl) rfl rfl S (fun w => co_func rfl Try.call21 S rfl) (fun w H => atLeast_spec _ _ _) fun a S => ?_
          refine m_w rfl rfl (wg' 121 rfl rfl S rfl h13 rfl) rfl rfl S (fun w H => y_and' rfl h14 S rfl rfl) fun a S => ?_
          exact kk _ (S.join 10 141 rfl rfl)
         refine m_w rfl rfl (wn rfl) rfl rfl S (fun w H => y_or' rfl h13 S rfl rfl) fun a S => ?_
         exact kk _ (S.join 12 142 rfl rfl)
        refine m_w rfl rfl (wn rfl) rfl rfl S (fun w H => y_assign rfl S rfl) fun a S => ?_
        refine m_nil (fun w H => ?_)
        refine n_block ?_
        refine n_then ?_
        refine g_region ?_
        refine gy rfl rfl rfl S (y_move rfl S rfl) fun a S => ?_
        refine gy rfl rfl rfl S (y_add rfl S rfl rfl (by omega)) fun a S => ?_
        refine gy rfl rfl rfl S (y_assign rfl S rfl) fun a S => ?_
        refine gl_nil ?_
        refine n_then ?_
        exact ⟨q + 1, (S.nil.cons S 20 rfl).cons S 19 (by rw [hst]; rfl), (((((((((((((((((S.nil.cons S 1 rfl).cons S 0 rfl).cons S 7 rfl).cons S 8 rfl).cons S 10 rfl).cons S 15 rfl).cons S 17 rfl).cons S 102 rfl).cons S 103 rfl).cons S 104 rfl).cons S 105 rfl).cons S 108 rfl).cons S 109 rfl).cons S 110 rfl).cons S 111 rfl).cons S 112 rfl).cons S 113 rfl).cons S 18 rfl, H, by omega, by omega⟩
       ·have h12p := h12; try simp only [DL] at h12p
        obtain rfl : q = next.length := by omega
        refine g_exit ?_
        refine x_then (x_then (x_eq ?_))
        refine n_then ?_
        refine g_seq ?_
        refine g_region ?_
        refine gy rfl rfl rfl S (y_faddrb rfl Ffo29_0 S rfl) fun a S => ?_
        refine gy rfl rfl rfl S (y_load rfl Fsca24 S H rfl rfl) fun a S => ?_
        refine gy rfl rfl rfl S (y_move rfl S rfl) fun a S => ?_
        refine gy rfl rfl rfl S (y_iaddrn rfl Try.underlying24 Fsiz50 S H rfl rfl (by first | assumption | omega | (simp only [List.length_append, List.length_take, List.length_drop, List.length_replicate, List.length_set, List.length_map, List.length_cons, List.length_nil]; omega))) fun a S => ?_
        refine gy rfl rfl rfl S (y_faddr rfl Ffo50_1 S rfl) fun a S => ?_
        refine gy rfl rfl rfl S (y_loadsf _ rfl Fsca3 S H rfl (by first | assumption | omega | (simp only [List.length_append, List.length_take, List.length_drop, List.length_replicate, List.length_set, List.length_map, List.length_cons, List.length_nil]; omega)) rfl) fun a S => ?_
        refine gy rfl rfl rfl S (y_move rfl S rfl) fun a S => ?_
        refine gy rfl rfl rfl S (y_bin rfl S rfl rfl rfl) fun a S => ?_
        refine gy rfl rfl rfl S (y_move rfl S rfl) fun a S => ?_
        refine' wl_or 10 151 rfl S H rfl rfl rfl rfl rfl rfl rfl (fun _ S => (wn rfl)) (fun h15 kk => ?yh15) (fun a w S H => ?_)
        case yh15 =>
         have h15p := h15; try simp only [DL] at h15p
         refine gz 151 h15 S rfl rfl rfl rfl rfl rfl (y_move rfl S rfl) fun a S => ?_
         refine gz 151 h15 S rfl rfl rfl rfl rfl rfl (y_move rfl S rfl) fun a S => ?_
         refine' wl_and 7 153 rfl S H rfl rfl rfl rfl rfl rfl rfl (fun _ S => (wg' 151 rfl rfl S rfl h15 rfl)) (fun h16 kk => ?yh16) (fun a w S H => ?_)
         case yh16 =>
          have h16p := h16; try simp only [DL] at h16p
          refine gz 153 h16 S rfl rfl rfl rfl rfl rfl (y_faddrb rfl Ffo29_0 S rfl) fun a S => ?_
          refine gz 153 h16 S rfl rfl rfl rfl rfl rfl (y_load rfl Fsca24 S H rfl rfl) fun a S => ?_
          refine gz 153 h16 S rfl rfl rfl rfl rfl rfl (y_move rfl S rfl) fun a S => ?_
          refine gz 153 h16 S rfl rfl rfl rfl rfl rfl (y_iaddrn rfl Try.underlying24 Fsiz50 S H rfl rfl (by first | assumption | omega | (simp only [List.length_append, List.length_take, List.length_drop, List.length_replicate, List.length_set, List.length_map, List.length_cons, List.length_nil]; omega))) fun a S => ?_
          refine gz 153 h16 S rfl rfl rfl rfl rfl rfl (y_faddr rfl Ffo50_1 S rfl) fun a S => ?_
          refine gz 153 h16 S rfl rfl rfl rfl rfl rfl (y_loadsf _ rfl Fsca3 S H rfl (by first | assumption | omega | (simp only [List.length_append, List.length_take, List.length_drop, List.length_replicate, List.length_set, List.length_map, List.length_cons, List.length_nil]; omega)) rfl) fun a S => ?_
          refine gz 153 h16 S rfl rfl rfl rfl rfl rfl (y_bin rfl S rfl rfl rfl) fun a S => ?_
          refine gz 151 h15 S rfl rfl rfl rfl rfl rfl (y_and' rfl h16 S rfl rfl) fun a S => ?_
          exact kk _ _ (S.join 8 161 rfl rfl) H
         refine gy rfl rfl rfl S (y_or' rfl h15 S rfl rfl) fun a S => ?_
         exact kk _ _ (S.join 4 162 rfl rfl) H
        refine gl_nil ?_
        refine n_then ?_
        refine c_if S rfl (fun h17 => ?_) (fun h17 => ?_)
        ·have h17p := h17; try simp only [DL] at h17p
         all_goals (
           exfalso
           have hx10 := h17
           simp only [Bool.or_eq_true, Bool.and_eq_true, bne_iff_ne, ne_eq, decide_eq_true_eq] at hx10
           rcases hx10 with hx10 | hx10
           · exact hx10 (hMC.same hD hkC hkt hx)
           · obtain ⟨n, hn, hs, hg⟩ := stands_ex hx10.1
             have := hM.stands hD hkm hkt hx hxn hn hs hg
             omega)
        ·have h17p := h17; try simp only [DL] at h17p
         refine g_skip ?_
         refine n_block ?_
         refine n_then ?_
         refine g_region ?_
         refine gy rfl rfl rfl S (y_move rfl S rfl) fun a S => ?_
         refine gy rfl rfl rfl S (y_add rfl S rfl rfl (by omega)) fun a S => ?_
         refine gy rfl rfl rfl S (y_assign rfl S rfl) fun a S => ?_
         refine gl_nil ?_
         refine n_then ?_
         refine ⟨k + 1, S.nil.cons S 17 rfl, (((((S.nil.cons S 1 rfl).cons S 0 rfl).cons S 7 rfl).cons S 8 rfl).cons S 10 rfl).cons S 15 rfl, H, ?_, ?_⟩
         · omega
         · omega
      ·have h11p := h11; try simp only [DL] at h11p
       refine g_exit ?_
       refine x_then (x_then (x_eq ?_))
       refine n_then ?_
       have S := S.nil.cons S 7 rfl
       refine g_seq ?_
       refine g_region ?_
       refine gy rfl rfl rfl S (y_move rfl S rfl) fun a S => ?_
       refine gy rfl rfl rfl S (y_assign rfl S rfl) fun a S => ?_
       refine gl_nil ?_
       refine n_then ?_
       refine g_ret ?_
       refine ret1 rfl S rfl ?_
       exact ⟨rfl, H.toExt⟩

end Go.Proofs.Ytenaoaegichecaa
