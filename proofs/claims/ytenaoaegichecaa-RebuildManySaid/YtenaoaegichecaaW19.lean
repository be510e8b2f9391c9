/- The walks. No condition. -/
import Derived.Test.YtenaoaegichecaaChecked
import Derived.Test.YtenaoaegichecaaGwBits
import Derived.Test.YtenaoaegichecaaFacts
import Derived.Test.YtenaoaegichecaaPlain
import Derived.Test.YtenaoaegichecaaPlainW
import Derived.Test.YtenaoaegichecaaW17
namespace Go.Proofs.Ytenaoaegichecaa
open Go Go.Gw
set_option linter.unusedVariables false
set_option linter.unusedSimpArgs false
set_option maxHeartbeats 4000000 in
/-- foyer/foyerlaw41.RebuildMatchesReference -/
theorem law1 (v1 v2 : Value) (old next : List Pl) (v3 : Value) (ts : List Ow) (w0 : World) (hv1 : IsSl w0 v1 9 Pl.enc old) (hv2 : IsSl w0 v2 9 Pl.enc next) (hv3 : IsSl w0 v3 11 Ow.enc ts) (hok : ∀ o ∈ ts, o.ok) (mvv vl vr : Value) (ms : List Mv) (left right : List Int) (hmv : IsSl w0 mvv 3 Mv.enc ms) (hmr : ∀ p ∈ rowsOf ms, IsSl w0 p.1 1 encI p.2) (hvl : IsSl w0 vl 1 encI left) (hvr : IsSl w0 vr 1 encI right) (hcl : capOK vl) :
    Ret Try.prog 3 #[v1, v2, v3, .agg #[mvv, vl, vr]] w0 (fun v w => v = .bool true ∧ Ext w0 w) := by
 refine ret_of_wp (nt := 64) Try.func3 rfl rfl rfl (fl := [(0, v1), (1, v2), (2, v3), (3, .agg #[mvv, vl, vr])]) rfl (fun a S => ?_)
 have H := HSat.start w0
 have H := H.ro0 (Sl v1 9 Pl.enc old) rfl (hv1)
 have H := H.ro0 (Sl v2 9 Pl.enc next) rfl (hv2)
 have H := H.ro0 (Sl v3 11 Ow.enc ts) rfl (hv3)
 have H := H.ro0 (Sl vl 1 encI left) rfl (hvl)
 have H := H.ro0 (Sl vr 1 encI right) rfl (hvr)
 have H := H.ro0 (Sl mvv 3 Mv.enc ms) rfl (hmv)
 have H := H.ro0 (RowsS 1 encI (rowsOf ms)) rfl (hmr)
 have hl1 := hv1.len
 have hl2 := hv2.len
 have hl3 := hv3.len
 have hlm := hmv.len
 refine g_seq ?_
 refine g_region ?_
 refine wl_of (op_boxa (wn rfl) rfl rfl rfl S H rfl fun b7 a w S H => ?_)
 refine gy rfl rfl rfl S (y_assign rfl S rfl) fun a S => ?_
 refine gl_nil ?_
 refine n_then ?_
 refine g_seq ?_
 refine g_region ?_
 refine wl_of (op_call (wn rfl) rfl rfl S (co_func rfl Try.call11 S rfl) (head_spec _) fun v w hc a S => ?_)
 obtain ⟨rfl, he⟩ := hc
 have H := H.ext he
 refine gy rfl rfl rfl S (y_assign rfl S rfl) fun a S => ?_
 refine gl_nil ?_
 refine n_then ?_
 refine g_seq ?_
 refine g_seq ?_
 refine g_region ?_
 refine gy rfl rfl rfl S (y_move rfl S rfl) fun a S => ?_
 refine gy rfl rfl rfl S (y_move rfl S rfl) fun a S => ?_
 refine gy rfl rfl rfl S (y_move rfl S rfl) fun a S => ?_
 refine wl_of (op_call (wn rfl) rfl rfl S (co_func rfl Try.call12 S rfl) (few_spec v1 v2 old next v3 ts 20 _ (H.sl v1) (H.sl v2) (H.sl v3)) fun v w hc a S => ?_)
 obtain ⟨rfl, he⟩ := hc
 have H := H.ext he
 refine gy rfl rfl rfl S (y_not rfl S rfl) fun a S => ?_
 refine gy rfl rfl rfl S (y_move rfl S rfl) fun a S => ?_
 refine' wl_or 3 20 rfl S H rfl rfl rfl rfl rfl rfl rfl (fun _ S => (wn rfl)) (fun h1 kk => ?yh1) (fun a w S H => ?_)
 case yh1 =>
  have h1p := h1; try simp only [DL] at h1p
  refine gz 20 h1 S rfl rfl rfl rfl rfl rfl (y_load0 rfl S H rfl (by exact Fagg29)) fun a S => ?_
  refine wl_of (op_call (wg' 20 rfl rfl S rfl h1 rfl) rfl rfl S (co_func rfl Try.call13 S rfl) (short_spec mvv vl vr ms left right _ (H.sl mvv) (H.rwsS (rowsOf ms)) (H.sl vl) (H.sl vr)) fun v w hc a S => ?_)
  obtain ⟨rfl, he⟩ := hc
  have H := H.ext he
  refine gz 20 h1 S rfl rfl rfl rfl rfl rfl (y_not rfl S rfl) fun a S => ?_
  refine gy rfl rfl rfl S (y_or' rfl h1 S rfl rfl) fun a S => ?_
  exact kk _ _ (S.join 4 24 rfl rfl) H
 refine gl_nil ?_
 refine n_then ?_
 have S := ((((((S.nil.cons S 2 rfl).cons S 1 rfl).cons S 0 rfl).cons S 7 rfl).cons S 8 rfl).cons S 9 rfl).cons S 24 rfl
 refine c_if S rfl (fun h2 => ?_) (fun h2 => ?_)
 ·have h2p := h2; try simp only [DL] at h2p
  refine g_seq ?_
  refine g_region ?_
  refine gy rfl rfl rfl S (y_move rfl S rfl) fun a S => ?_
  refine gy rfl rfl rfl S (y_assign rfl S rfl) fun a S => ?_
  refine gl_nil ?_
  refine n_then ?_
  refine g_ret ?_
  refine r_then (ret1 rfl S rfl ?_)
  exact ⟨rfl, H.toExt⟩
 ·have h2p := h2; try simp only [DL] at h2p
  have hfs := h2
  simp only [Bool.or_eq_false_iff, Bool.not_eq_false', Bool.and_eq_true, decide_eq_true_eq] at hfs
  have hsh := short_parts hfs.2
  have hfw : old.length ≤ 20 ∧ next.length ≤ 20 ∧ ts.length ≤ 20 := by have := hfs.1; omega
  refine g_skip ?_
  refine n_then ?_
  refine g_seq ?_
  refine g_region ?_
  refine gy rfl rfl rfl S (y_move rfl S rfl) fun a S => ?_
  refine gy rfl rfl rfl S (y_move rfl S rfl) fun a S => ?_
  refine gy rfl rfl rfl S (y_move rfl S rfl) fun a S => ?_
  refine wl_of (op_call (wn rfl) rfl rfl S (co_func rfl Try.call14 S rfl) (plan_any v1 v2 old next v3 ts _ (H.sl v1) (H.sl v2) (H.sl v3) hok (by omega)) fun v w hc a S => ?_)
  obtain ⟨mvA, vlA, vrA, msA, rfl, hmA, H1⟩ := hc
  have H := H.call4 H1 rfl rfl rfl rfl
  have hclA := clP_len old next ts (by omega)
  have hcrA := crP_len old next ts (by omega)
  refine gy rfl rfl rfl S (y_move rfl S rfl) fun a S => ?_
  refine gy rfl rfl rfl S (y_extract rfl S rfl rfl) fun a S => ?_
  refine gy rfl rfl rfl S (y_extract rfl S rfl rfl) fun a S => ?_
  refine wl_of (op_alloc (wn rfl) rfl rfl rfl S H Fzer29 fun b10 a w S H => ?_)
  refine wl_of (op_storea (wn rfl) rfl rfl S H rfl rfl (by simp only [List.all_cons, List.all_nil, H.sl1 mvA, H.sl1 vlA, H.sl1 vrA, Bool.true_and]) Fsiz29 rfl (cs' := [_, _, _]) rfl fun a w S H => ?_)
  refine gy rfl rfl rfl S (y_assign rfl S rfl) fun a S => ?_
  refine gl_nil ?_
  refine n_then ?_
  have S := (((((((S.nil.cons S 2 rfl).cons S 1 rfl).cons S 0 rfl).cons S 7 rfl).cons S 8 rfl).cons S 9 rfl).cons S 10 rfl).cons S 11 rfl
  refine g_seq ?_
  refine g_region ?_
  refine gy rfl rfl rfl S (y_move rfl S rfl) fun a S => ?_
  refine gy rfl rfl rfl S (y_move rfl S rfl) fun a S => ?_
  refine gy rfl rfl rfl S (y_move rfl S rfl) fun a S => ?_
  refine wl_of (op_call (wn rfl) rfl rfl S (co_func rfl Try.call15 S rfl) (rplan_any v1 v2 old next v3 ts _ (H.sl v1) (H.sl v2) (H.sl v3) hok (by omega)) fun v w hc a S => ?_)
  obtain ⟨mvB, vlB, vrB, msB, rfl, hmB, H1⟩ := hc
  have H := H.call4 H1 rfl rfl rfl rfl
  have hclB := clP_len old next ts (by omega)
  have hcrB := crP_len old next ts (by omega)
  refine gy rfl rfl rfl S (y_move rfl S rfl) fun a S => ?_
  refine gy rfl rfl rfl S (y_extract rfl S rfl rfl) fun a S => ?_
  refine gy rfl rfl rfl S (y_extract rfl S rfl rfl) fun a S => ?_
  refine wl_of (op_alloc (wn rfl) rfl rfl rfl S H Fzer29 fun b12 a w S H => ?_)
  refine wl_of (op_storea (wn rfl) rfl rfl S H rfl rfl (by simp only [List.all_cons, List.all_nil, H.sl1 mvB, H.sl1 vlB, H.sl1 vrB, Bool.true_and]) Fsiz29 rfl (cs' := [_, _, _]) rfl fun a w S H => ?_)
  refine gy rfl rfl rfl S (y_assign rfl S rfl) fun a S => ?_
  refine gl_nil ?_
  refine n_then ?_
  have S := (((((((((S.nil.cons S 2 rfl).cons S 1 rfl).cons S 0 rfl).cons S 7 rfl).cons S 8 rfl).cons S 9 rfl).cons S 10 rfl).cons S 11 rfl).cons S 12 rfl).cons S 13 rfl
  refine g_seq ?_
  refine region_st (loud := []) (tails := []) (free := []) [0, 1, 2, 3, 4, 5, 6, 7, 8, 9, 10, 11, 12, 13, 14, 15, 16, 17, 18, 19, 20, 21, 22, 23, 24] [] Fmo (by kernel_rfl) (by kernel_rfl) rfl H ?_
  refine m_w rfl rfl (wn rfl) rfl rfl S (fun w H => y_move rfl S rfl) fun a S => ?_
  refine m_w rfl rfl (wn rfl) rfl rfl S (fun w H => y_move rfl S rfl) fun a S => ?_
  refine m_w rfl rfl (wg' 41 rfl rfl S rfl rfl rfl) rfl rfl S (fun w H => y_move rfl S rfl) fun a S => ?_
  refine m_w rfl rfl (wg' 41 rfl rfl S rfl rfl rfl) rfl rfl S (fun w H => y_move rfl S rfl) fun a S => ?_
  refine m_w rfl rfl (wg' 41 rfl rfl S rfl rfl rfl) rfl rfl S (fun w H => y_bin rfl S rfl rfl rfl) fun a S => ?_
  refine m_w rfl rfl (wn rfl) rfl rfl S (fun w H => y_and' rfl rfl S rfl rfl) fun a S => ?_
  refine m_w rfl rfl (wn rfl) rfl rfl S (fun w H => y_move rfl S rfl) fun a S => ?_
  refine m_w rfl rfl (wg' 46 rfl rfl S rfl (by simp) rfl) rfl rfl S (fun w H => y_load0 rfl S H rfl (by exact Fagg29)) fun a S => ?_
  refine m_w rfl rfl (wg' 46 rfl rfl S rfl (by simp) rfl) rfl rfl S (fun w H => y_load0 rfl S H rfl (by exact Fagg29)) fun a S => ?_
  refine m_c rfl rfl (wg' 46 rfl rfl S rfl (by simp) rfl) rfl rfl S (fun w => co_func rfl Try.call16 S rfl) (fun w H => same_spec mvA vlA vrA msA (clP old next ts) (crP old next ts) mvB vlB vrB msB (clP old next ts) (crP old next ts) _ (H.sl mvA) (H.rws 3 (rowsOf msA)) (H.sl vlA) (H.sl vrA) (H.sl mvB) (H.rws 3 (rowsOf msB)) (H.sl vlB) (H.sl vrB)) fun a S => ?_
  refine m_w rfl rfl (wn rfl) rfl rfl S (fun w H => y_and' rfl (by simp) S rfl rfl) fun a S => ?_
  refine m_w rfl rfl (wn rfl) rfl rfl S (fun w H => y_move rfl S rfl) fun a S => ?_
  refine m_w rfl rfl (wg' 51 rfl rfl S rfl (by rw [hmA, hmB]; simp) rfl) rfl rfl S (fun w H => y_move rfl S rfl) fun a S => ?_
  refine m_w rfl rfl (wg' 51 rfl rfl S rfl (by rw [hmA, hmB]; simp) rfl) rfl rfl S (fun w H => y_move rfl S rfl) fun a S => ?_
  refine m_w rfl rfl (wg' 51 rfl rfl S rfl (by rw [hmA, hmB]; simp) rfl) rfl rfl S (fun w H => y_move rfl S rfl) fun a S => ?_
  refine m_w rfl rfl (wg' 51 rfl rfl S rfl (by rw [hmA, hmB]; simp) rfl) rfl rfl S (fun w H => y_load0 rfl S H rfl (by exact Fagg29)) fun a S => ?_
  refine m_c rfl rfl (wg' 51 rfl rfl S rfl (by rw [hmA, hmB]; simp) rfl) rfl rfl S (fun w => co_func rfl Try.call17 S rfl) (fun w H => check_any v1 v2 old next v3 ts _ (H.sl v1) (H.sl v2) (H.sl v3) hok (by omega) mvv vl vr ms left right (H.sl mvv) (H.rwsS (rowsOf ms)) (H.sl vl) (H.sl vr) hcl (by omega) (by omega)) fun a S => ?_
  refine m_w rfl rfl (wg' 51 rfl rfl S rfl (by rw [hmA, hmB]; simp) rfl) rfl rfl S (fun w H => y_move rfl S rfl) fun a S => ?_
  refine m_w rfl rfl (wg' 51 rfl rfl S rfl (by rw [hmA, hmB]; simp) rfl) rfl rfl S (fun w H => y_move rfl S rfl) fun a S => ?_
  refine m_w rfl rfl (wg' 51 rfl rfl S rfl (by rw [hmA, hmB]; simp) rfl) rfl rfl S (fun w H => y_move rfl S rfl) fun a S => ?_
  refine m_w rfl rfl (wg' 51 rfl rfl S rfl (by rw [hmA, hmB]; simp) rfl) rfl rfl S (fun w H => y_load0 rfl S H rfl (by exact Fagg29)) fun a S => ?_
  refine m_c rfl rfl (wg' 51 rfl rfl S rfl (by rw [hmA, hmB]; simp) rfl) rfl rfl S (fun w => co_func rfl Try.call18 S rfl) (fun w H => rcheck_any v1 v2 old next v3 ts _ (H.sl v1) (H.sl v2) (H.sl v3) hok (by omega) mvv vl vr ms left right (H.sl mvv) (H.rwsS (rowsOf ms)) (H.sl vl) (H.sl vr) hcl (by omega) (by omega)) fun a S => ?_
  refine m_w rfl rfl (wg' 51 rfl rfl S rfl (by rw [hmA, hmB]; simp) rfl) rfl rfl S (fun w H => y_eqb rfl Try.underlying4 S rfl rfl) fun a S => ?_
  refine m_w rfl rfl (wn rfl) rfl rfl S (fun w H => y_and' rfl (by rw [hmA, hmB]; simp) S rfl rfl) fun a S => ?_
  refine m_w rfl rfl (wn rfl) rfl rfl S (fun w H => y_assign rfl S rfl) fun a S => ?_
  refine m_nil (fun w H => ?_)
  refine n_then ?_
  have S := S.nil.cons S 8 rfl
  refine g_ret ?_
  refine ret1 rfl S rfl ?_
  exact ⟨congrArg Value.bool (by rw [hmA, hmB]; simp), H.toExt⟩
set_option maxHeartbeats 4000000 in
/-- foyer/foyerlaw41.RebuildMany -/
theorem law2 (p : Int) (both : Bool) (w0 : World) (hp : 0 ≤ p ∧ p ≤ 65535) :
    Ret Try.prog 4 #[.int .u16 p, .bool both] w0 (fun v w => v = .bool true ∧ Ext w0 w) := by
 refine ret_of_wp (nt := 63) Try.func4 rfl rfl rfl (fl := [(0, .int .u16 p), (1, .bool both)]) rfl (fun a S => ?_)
 have H := HSat.start w0
 refine g_seq ?_
 refine g_region ?_
 refine gy rfl rfl rfl S (y_assign rfl S rfl) fun a S => ?_
 refine gl_nil ?_
 refine n_then ?_
 refine g_seq ?_
 refine g_region ?_
 refine wl_of (op_call (wn rfl) rfl rfl S (co_func rfl Try.call11 S rfl) (head_spec _) fun v w hc a S => ?_)
 obtain ⟨rfl, he⟩ := hc
 have H := H.ext he
 refine gy rfl rfl rfl S (y_assign rfl S rfl) fun a S => ?_
 refine gl_nil ?_
 refine n_then ?_
 refine g_seq ?_
 refine g_region ?_
 refine gy rfl rfl rfl S (y_move rfl S rfl) fun a S => ?_
 refine gy rfl rfl rfl S (y_conv rfl Try.underlying38 Try.underlying3 S rfl (by omega)) fun a S => ?_
 skip
 refine gy rfl rfl rfl S (y_remn rfl S rfl rfl (by omega) (by omega)) fun a S => ?_
 refine gy rfl rfl rfl S (y_add rfl S rfl rfl (by omega)) fun a S => ?_
 obtain ⟨n, hn⟩ : ∃ n : Nat, 3900 + p % 201 = n := ⟨(3900 + p % 201).toNat, by omega⟩
 rw [hn] at S
 refine gy rfl rfl rfl S (y_assign rfl S rfl) fun a S => ?_
 refine gl_nil ?_
 refine n_then ?_
 have S := (((S.nil.cons S 1 rfl).cons S 4 rfl).cons S 5 rfl).cons S 6 rfl
 refine g_seq ?_
 refine g_region ?_
 refine gy rfl rfl rfl S (y_move rfl S rfl) fun a S => ?_
 refine wl_of (op_make (Pl.enc) (pl0) (wn rfl) rfl rfl rfl Try.underlying22 Finf56 rfl rfl S H rfl rfl rfl (by omega) (by omega) fun b17 a w S H => ?_)
 refine gy rfl rfl rfl S (y_assign rfl S rfl) fun a S => ?_
 refine gl_nil ?_
 refine n_then ?_
 refine g_seq ?_
 refine g_region ?_
 refine gy rfl rfl rfl S (y_move rfl S rfl) fun a S => ?_
 refine gy rfl rfl rfl S (y_assign rfl S rfl) fun a S => ?_
 refine gl_nil ?_
 refine n_then ?_
 refine g_seq ?_
 refine g_seq ?_
 refine g_region ?_
 refine gy rfl rfl rfl S (y_move rfl S rfl) fun a S => ?_
 refine gy rfl rfl rfl S (y_not rfl S rfl) fun a S => ?_
 refine gl_nil ?_
 refine n_then ?_
 have S := (((((S.nil.cons S 4 rfl).cons S 5 rfl).cons S 6 rfl).cons S 7 rfl).cons S 8 rfl).cons S 20 rfl
 refine cut (fun a w => ∃ v8 one, (∃ r, one = pl0 :: r) ∧ one.length ≤ n ∧ St 63 [(5, .bool true), (6, .int .i64 (n : Int)), (7, (.slice (some ⟨b17, 0, none⟩) n n)), (8, v8)] a ∧ HSat No w0 [Sl v8 9 Pl.enc one, Atom.ro (OSl 56 (.slice (some ⟨b17, 0, none⟩) n n) 9 Pl.enc (List.replicate n pl0))] w) ?_ ?_
 ·skip
  refine c_if S rfl (fun h1 => ?_) (fun h1 => ?_)
  ·have h1p := h1; try simp only [DL] at h1p
   refine g_region ?_
   refine gy rfl rfl rfl S (y_move rfl S rfl) fun a S => ?_
   refine gy rfl rfl rfl S (y_sliceH rfl Try.underlying22 Fsiz56 S H rfl rfl (by first | (simp; done) | (simp only [List.length_replicate]; omega) | assumption | omega)) fun a S => ?_
   refine gy rfl rfl rfl S (y_assign rfl S rfl) fun a S => ?_
   refine gl_nil ?_
   refine n_then ?_
   first
   | exact ⟨_, _, ⟨_, by rw [List.drop_zero, show n = (n - 1) + 1 by omega, List.replicate_succ]; rfl⟩, by simp; omega, (((S.nil.cons S 8 rfl).cons S 7 rfl).cons S 6 rfl).cons S 5 rfl, H.freeze.ro (Sl (subV (.slice (some ⟨b17, 0, none⟩) n n) 0 1 9) 9 Pl.enc (((List.replicate n pl0).take 1).drop 0)) rfl (H.sl (subV (.slice (some ⟨b17, 0, none⟩) n n) 0 1 9)) (by intro y hy ho; simp only [List.mem_singleton] at hy; subst hy; cases ho)⟩
   | exact ⟨_, _, ⟨_, by rw [show n = (n - 1) + 1 by omega, List.replicate_succ]⟩, by simp, (((S.nil.cons S 8 rfl).cons S 7 rfl).cons S 6 rfl).cons S 5 rfl, H.freeze.ro (Sl (.slice (some ⟨b17, 0, none⟩) n n) 9 Pl.enc (List.replicate n pl0)) rfl (H.sl (.slice (some ⟨b17, 0, none⟩) n n)) (by intro y hy ho; simp only [List.mem_singleton] at hy; subst hy; cases ho)⟩
  ·have h1p := h1; try simp only [DL] at h1p
   refine g_skip ?_
   refine n_then ?_
   first
   | exact ⟨_, _, ⟨_, by rw [List.drop_zero, show n = (n - 1) + 1 by omega, List.replicate_succ]; rfl⟩, by simp; omega, (((S.nil.cons S 8 rfl).cons S 7 rfl).cons S 6 rfl).cons S 5 rfl, H.freeze.ro (Sl (subV (.slice (some ⟨b17, 0, none⟩) n n) 0 1 9) 9 Pl.enc (((List.replicate n pl0).take 1).drop 0)) rfl (H.sl (subV (.slice (some ⟨b17, 0, none⟩) n n) 0 1 9)) (by intro y hy ho; simp only [List.mem_singleton] at hy; subst hy; cases ho)⟩
   | exact ⟨_, _, ⟨_, by rw [show n = (n - 1) + 1 by omega, List.replicate_succ]⟩, by simp, (((S.nil.cons S 8 rfl).cons S 7 rfl).cons S 6 rfl).cons S 5 rfl, H.freeze.ro (Sl (.slice (some ⟨b17, 0, none⟩) n n) 9 Pl.enc (List.replicate n pl0)) rfl (H.sl (.slice (some ⟨b17, 0, none⟩) n n)) (by intro y hy ho; simp only [List.mem_singleton] at hy; subst hy; cases ho)⟩
 rintro a w ⟨v8, one, hr, hol, S, H⟩
 refine g_seq ?_
 refine g_region ?_
 refine gy rfl rfl rfl S (y_move rfl S rfl) fun a S => ?_
 refine gy rfl rfl rfl S (y_move rfl S rfl) fun a S => ?_
 refine wl_of (op_call (wn rfl) rfl rfl S (co_func rfl Try.call19 S rfl) (owned_spec _ _ _ (by omega)) fun v w hc a S => ?_)
 obtain ⟨rfl, he⟩ := hc
 have H := H.ext he
 refine wl_of (op_buildSlice (wn rfl) rfl rfl rfl Try.underlying23 Finf47 S H (idx := [0]) rfl rfl rfl (z := [.int .i64 0, .int .i64 0, .int .i64 0, .string ⟨#[]⟩, .slice none 0 0, .string ⟨#[]⟩, .slice none 0 0, .int .i64 0, .slice none 0 0, .int .i64 0, .slice none 0 0]) (by kernel_rfl) (cs := [.int .i64 (owH 1 0).serial, .int .i64 (owH 1 0).show_, .int .i64 (owH 1 0).place, (owH 1 0).first, (owH 1 0).chain, (owH 1 0).person, (owH 1 0).lines, .int .i64 (owH 1 0).total, (owH 1 0).means, .int .i64 (owH 1 0).gone, (owH 1 0).offers]) (by kernel_rfl) fun b27 a w S H => ?_)
 have H := H.celO oneT Ow.enc 11 (m := 1) rfl (fun _ _ => rfl) rfl (by omega)
 refine wl_of (op_call (wn rfl) rfl rfl S (co_func rfl Try.call14 S rfl) (plan_any v8 (.slice (some ⟨b17, 0, none⟩) n n) one (List.replicate n pl0) (.slice (some ⟨b27, 0, none⟩) 1 1) oneT _ (H.sl v8) (H.sl (.slice (some ⟨b17, 0, none⟩) n n)) (H.sl (.slice (some ⟨b27, 0, none⟩) 1 1)) one_ok (by decide)) fun v w hc a S => ?_)
 obtain ⟨mvA, vlA, vrA, msA, rfl, hmA, H1⟩ := hc
 have H := H.call4 H1 rfl rfl rfl rfl
 refine gy rfl rfl rfl S (y_move rfl S rfl) fun a S => ?_
 refine gy rfl rfl rfl S (y_extract rfl S rfl rfl) fun a S => ?_
 refine gy rfl rfl rfl S (y_extract rfl S rfl rfl) fun a S => ?_
 refine wl_of (op_alloc (wn rfl) rfl rfl rfl S H Fzer29 fun b9 a w S H => ?_)
 refine wl_of (op_storea (wn rfl) rfl rfl S H rfl rfl (by simp only [List.all_cons, List.all_nil, H.sl1 mvA, H.sl1 vlA, H.sl1 vrA, Bool.true_and]) Fsiz29 rfl (cs' := [_, _, _]) rfl fun a w S H => ?_)
 refine gy rfl rfl rfl S (y_assign rfl S rfl) fun a S => ?_
 refine gl_nil ?_
 refine n_then ?_
 have S := (((S.nil.cons S 6 rfl).cons S 5 rfl).cons S 9 rfl).cons S 10 rfl
 refine g_seq ?_
 refine g_seq ?_
 refine g_region ?_
 refine gy rfl rfl rfl S (y_move rfl S rfl) fun a S => ?_
 refine gy rfl rfl rfl S (y_bin rfl S rfl rfl rfl) fun a S => ?_
 refine gl_nil ?_
 refine n_then ?_
 refine c_if S rfl (fun h2 => ?_) (fun h2 => ?_)
 ·have h2p := h2; try simp only [DL] at h2p
  have hbig := many_big (n := n) (one := one) (by have := h2p; omega)
  refine g_seq ?_
  refine g_region ?_
  refine gy rfl rfl rfl S (y_move rfl S rfl) fun a S => ?_
  refine gy rfl rfl rfl S (y_move rfl S rfl) fun a S => ?_
  refine' wl_and 2 34 rfl S H rfl rfl rfl rfl rfl rfl rfl (fun _ S => (wn rfl)) (fun h3 kk => ?yh3) (fun a w S H => ?_)
  case yh3 =>
   have h3p := h3; try simp only [DL] at h3p
   refine gz 34 h3 S rfl rfl rfl rfl rfl rfl (y_move rfl S rfl) fun a S => ?_
   refine gz 34 h3 S rfl rfl rfl rfl rfl rfl (y_bin rfl S rfl rfl rfl) fun a S => ?_
   refine gy rfl rfl rfl S (y_and' rfl h3 S rfl rfl) fun a S => ?_
   exact kk _ _ (S.join 3 37 rfl rfl) H
  refine gy rfl rfl rfl S (y_move rfl S rfl) fun a S => ?_
  refine' wl_and 4 38 rfl S H rfl rfl rfl rfl rfl rfl rfl (fun _ S => (wn rfl)) (fun h4 kk => ?yh4) (fun a w S H => ?_)
  case yh4 =>
   have h4p := h4; try simp only [DL] at h4p
   refine gz 38 h4 S rfl rfl rfl rfl rfl rfl (y_faddrb rfl Ffo29_0 S rfl) fun a S => ?_
   refine gz 38 h4 S rfl rfl rfl rfl rfl rfl (y_load rfl Fsca24 S H rfl rfl) fun a S => ?_
   refine gz 38 h4 S rfl rfl rfl rfl rfl rfl (y_lens rfl Try.underlying24 S H rfl) fun a S => ?_
   refine gz 38 h4 S rfl rfl rfl rfl rfl rfl (y_bin rfl S rfl rfl rfl) fun a S => ?_
   refine gy rfl rfl rfl S (y_and' rfl h4 S rfl rfl) fun a S => ?_
   exact kk _ _ (S.join 5 43 rfl rfl) H
  refine gy rfl rfl rfl S (y_assign rfl S rfl) fun a S => ?_
  refine gl_nil ?_
  refine n_then ?_
  have S := (((S.nil.cons S 5 rfl).cons S 9 rfl).cons S 10 rfl).cons S 4 rfl
  refine g_ret ?_
  refine r_then (ret1 rfl S rfl ?_)
  have hms : msA = [] := by have e := hmA; unfold sayP at e; rw [if_neg (by rw [hbig]; omega)] at e; simpa using e
  exact ⟨by rw [hbig, hms]; rfl, H.toExt⟩
 ·have h2p := h2; try simp only [DL] at h2p
  have hlt : n ≤ 4000 := by have := h2p; omega
  obtain ⟨r, hr2⟩ := hr
  have her := many_err (n := n) (one := one) hlt (by rw [hr2]; simp) (by omega)
  have hsy := many_say (n := n) (one := one) (by omega) hlt (by omega) ⟨r, hr2⟩
  obtain ⟨m0, rfl, hm0⟩ := mv1 (hmA.trans hsy)
  refine g_skip ?_
  refine n_then ?_
  refine g_seq ?_
  refine g_region ?_
  refine gy rfl rfl rfl S (y_move rfl S rfl) fun a S => ?_
  refine gy rfl rfl rfl S (y_move rfl S rfl) fun a S => ?_
  refine' wl_and 2 45 rfl S H rfl rfl rfl rfl rfl rfl rfl (fun _ S => (wn rfl)) (fun h5 kk => ?yh5) (fun a w S H => ?_)
  case yh5 =>
   have h5p := h5; try simp only [DL] at h5p
   refine gz 45 h5 S rfl rfl rfl rfl rfl rfl (y_move rfl S rfl) fun a S => ?_
   refine gz 45 h5 S rfl rfl rfl rfl rfl rfl (y_bin rfl S rfl rfl rfl) fun a S => ?_
   refine gy rfl rfl rfl S (y_and' rfl h5 S rfl rfl) fun a S => ?_
   exact kk _ _ (S.join 3 48 rfl rfl) H
  refine gy rfl rfl rfl S (y_move rfl S rfl) fun a S => ?_
  refine' wl_and 4 49 rfl S H rfl rfl rfl rfl rfl rfl rfl (fun _ S => (wn rfl)) (fun h6 kk => ?yh6) (fun a w S H => ?_)
  case yh6 =>
   have h6p := h6; try simp only [DL] at h6p
   refine gz 49 h6 S rfl rfl rfl rfl rfl rfl (y_faddrb rfl Ffo29_0 S rfl) fun a S => ?_
   refine gz 49 h6 S rfl rfl rfl rfl rfl rfl (y_load rfl Fsca24 S H rfl rfl) fun a S => ?_
   refine gz 49 h6 S rfl rfl rfl rfl rfl rfl (y_lens rfl Try.underlying24 S H rfl) fun a S => ?_
   refine gz 49 h6 S rfl rfl rfl rfl rfl rfl (y_bin rfl S rfl rfl rfl) fun a S => ?_
   refine gy rfl rfl rfl S (y_and' rfl h6 S rfl rfl) fun a S => ?_
   exact kk _ _ (S.join 5 54 rfl rfl) H
  refine gy rfl rfl rfl S (y_move rfl S rfl) fun a S => ?_
  refine' wl_and 6 55 rfl S H rfl rfl rfl rfl rfl rfl rfl (fun _ S => (wn rfl)) (fun h7 kk => ?yh7) (fun a w S H => ?_)
  case yh7 =>
   have h7p := h7; try simp only [DL] at h7p
   refine gz 55 h7 S rfl rfl rfl rfl rfl rfl (y_faddrb rfl Ffo29_0 S rfl) fun a S => ?_
   refine gz 55 h7 S rfl rfl rfl rfl rfl rfl (y_load rfl Fsca24 S H rfl rfl) fun a S => ?_
   refine gz 55 h7 S rfl rfl rfl rfl rfl rfl (y_iaddrs rfl Try.underlying24 Fsiz50 S H rfl rfl (by first | (simp; done) | (simp only [List.length_replicate]; omega) | assumption | omega)) fun a S => ?_
   refine gz 55 h7 S rfl rfl rfl rfl rfl rfl (y_faddr rfl Ffo50_1 S rfl) fun a S => ?_
   refine gz 55 h7 S rfl rfl rfl rfl rfl rfl (y_loadsf _ rfl Fsca3 S H rfl (by first | (simp; done) | (simp only [List.length_replicate]; omega) | assumption | omega) rfl) fun a S => ?_
   refine gz 55 h7 S rfl rfl rfl rfl rfl rfl (y_bin rfl S rfl rfl rfl) fun a S => ?_
   refine gy rfl rfl rfl S (y_and' rfl h7 S rfl rfl) fun a S => ?_
   exact kk _ _ (S.join 7 62 rfl rfl) H
  refine gy rfl rfl rfl S (y_assign rfl S rfl) fun a S => ?_
  refine gl_nil ?_
  refine n_then ?_
  have S := S.nil.cons S 4 rfl
  refine g_ret ?_
  refine ret1 rfl S rfl ?_
  have e1 : m0.to_ = 0 := congrArg (·.2.1) hm0
  exact ⟨by rw [her]; show Value.bool (true && true && true && (m0.to_ == 0)) = _; rw [e1]; rfl, H.toExt⟩

end Go.Proofs.Ytenaoaegichecaa
