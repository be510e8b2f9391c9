/- The walks. No condition. -/
import Derived.Test.YtenaoaegichecaaChecked
import Derived.Test.YtenaoaegichecaaGwBits
import Derived.Test.YtenaoaegichecaaFacts
import Derived.Test.YtenaoaegichecaaPlain
import Derived.Test.YtenaoaegichecaaPlainV
import Derived.Test.YtenaoaegichecaaW14
namespace Go.Proofs.Ytenaoaegichecaa
open Go Go.Gw
set_option linter.unusedVariables false
set_option linter.unusedSimpArgs false
set_option maxHeartbeats 4000000 in
/-- foyer/foyerref41.covers -/
theorem rcovers_spec (ve vp vl vr : Value) (ps : List (Value × List Int)) (got left right : List Int) (r : Nat) (w0 : World) (hv : IsSl w0 ve 1 encRow ps) (hr : ∀ p ∈ ps, IsSl w0 p.1 1 encI p.2) (hp : IsSl w0 vp 1 encI got) (hvl : IsSl w0 vl 1 encI left) (hvr : IsSl w0 vr 1 encI right) (hll : left.length ≤ 100000) (hlr : right.length ≤ 100000) (hlg : got.length ≤ 100000) (hlp0 : ps.length ≤ 100000) :
    Ret Try.prog 40 #[ve, vp, .int .i64 (r : Int), .agg #[vl, vr]] w0 (fun u w => u = .bool (covC (gr ps) r got left right) ∧ Ext w0 w) := by
 refine ret_of_wp (nt := 151) Try.func40 rfl rfl rfl (fl := [(0, ve), (1, vp), (2, .int .i64 (r : Int)), (3, .agg #[vl, vr])]) rfl (fun a S => ?_)
 have H := HSat.start w0
 have H := H.ro0 (Sl ve 1 encRow ps) rfl (hv)
 have H := H.ro0 (RowsS 1 encI ps) rfl (hr)
 have H := H.ro0 (Sl vp 1 encI got) rfl (hp)
 have H := H.ro0 (Sl vl 1 encI left) rfl (hvl)
 have H := H.ro0 (Sl vr 1 encI right) rfl (hvr)
 have hlv := hv.len
 have hgn := gr_len ps
 refine g_seq ?_
 refine g_region ?_
 refine wl_of (op_boxa (wn rfl) rfl rfl rfl S H rfl fun b7 a w S H => ?_)
 refine gy rfl rfl rfl S (y_assign rfl S rfl) fun a S => ?_
 refine gl_nil ?_
 refine n_then ?_
 refine g_seq ?_
 refine g_region ?_
 refine gy rfl rfl rfl S (y_assign rfl S rfl) fun a S => ?_
 refine gl_nil ?_
 refine n_then ?_
 refine g_seq ?_
 refine g_seq ?_
 refine g_region ?_
 refine gy rfl rfl rfl S (y_assign rfl S rfl) fun a S => ?_
 refine gl_nil ?_
 refine n_then ?_
 refine g_block ?_
 have SU := ((((S.nil.cons S 2 rfl).cons S 1 rfl).cons S 0 rfl).cons S 7 rfl).cons S 8 rfl
 refine loop_k (X := Nat) SU (fun k => [(9, .int .i64 (cntG got k : Int)), (10, .int .i64 (k : Int))]) (fun k => k ≤ got.length) (fun k => got.length - k) 0 ((S.nil.cons S 10 rfl).cons S 9 rfl) H (by omega) (fun k a w S H hi => ?_)
 simp only [List.cons_append, List.nil_append] at S hi
 refine g_seq ?_
 refine g_seq ?_
 refine g_region ?_
 refine gy rfl rfl rfl S (y_move rfl S rfl) fun a S => ?_
 refine gy rfl rfl rfl S (y_move rfl S rfl) fun a S => ?_
 refine gy rfl rfl rfl S (y_lens rfl Try.underlying25 S H rfl) fun a S => ?_
 refine gy rfl rfl rfl S (y_bin rfl S rfl rfl rfl) fun a S => ?_
 refine gl_nil ?_
 refine n_then ?_
 refine c_if S rfl (fun h1 => ?_) (fun h1 => ?_)
 ·have h1p := h1; try simp only [DL] at h1p
  have hkl : k < got.length := by omega
  have hat := atI_eq hkl
  have hcl := cntG_le got k
  refine g_skip ?_
  refine n_then ?_
  refine g_seq ?_
  refine g_block ?_
  refine g_seq ?_
  refine g_region ?_
  refine gy rfl rfl rfl S (y_move rfl S rfl) fun a S => ?_
  refine gy rfl rfl rfl S (y_move rfl S rfl) fun a S => ?_
  refine gy rfl rfl rfl S (y_iaddrn rfl Try.underlying25 Fsiz3 S H rfl rfl (by first | assumption | omega | (simp only [List.length_append, List.length_take, List.length_drop, List.length_replicate, List.length_set, List.length_map, List.length_cons, List.length_nil]; omega))) fun a S => ?_
  refine gy rfl rfl rfl S (y_loads _ rfl Fsca3 S H rfl (by first | assumption | omega | (simp only [List.length_append, List.length_take, List.length_drop, List.length_replicate, List.length_set, List.length_map, List.length_cons, List.length_nil]; omega)) rfl) fun a S => ?_
  refine gy rfl rfl rfl S (y_bin rfl S rfl rfl rfl) fun a S => ?_
  refine gl_nil ?_
  refine n_then ?_
  refine c_if S rfl (fun h2 => ?_) (fun h2 => ?_)
  ·have h2p := h2; try simp only [DL] at h2p
   have hcs : cntG got (k + 1) = cntG got k + 1 := by rw [cntG, if_pos (by rw [hat]; have := h2p; omega)]
   refine g_region ?_
   refine gy rfl rfl rfl S (y_move rfl S rfl) fun a S => ?_
   refine gy rfl rfl rfl S (y_add rfl S rfl rfl (by omega)) fun a S => ?_
   refine gy rfl rfl rfl S (y_assign rfl S rfl) fun a S => ?_
   refine gl_nil ?_
   refine n_block ?_
   refine n_then ?_
   refine g_region ?_
   refine gy rfl rfl rfl S (y_move rfl S rfl) fun a S => ?_
   refine gy rfl rfl rfl S (y_add rfl S rfl rfl (by omega)) fun a S => ?_
   refine gy rfl rfl rfl S (y_assign rfl S rfl) fun a S => ?_
   refine gl_nil ?_
   refine n_then ?_
   exact ⟨k + 1, (S.nil.cons S 10 rfl).cons S 9 (by rw [hcs]; rfl), ((((S.nil.cons S 2 rfl).cons S 1 rfl).cons S 0 rfl).cons S 7 rfl).cons S 8 rfl, H, by omega, by omega⟩
  ·have h2p := h2; try simp only [DL] at h2p
   have hcs : cntG got (k + 1) = cntG got k := by rw [cntG, if_neg (by rw [hat]; have := h2p; omega)]
   refine g_skip ?_
   refine n_block ?_
   refine n_then ?_
   refine g_region ?_
   refine gy rfl rfl rfl S (y_move rfl S rfl) fun a S => ?_
   refine gy rfl rfl rfl S (y_add rfl S rfl rfl (by omega)) fun a S => ?_
   refine gy rfl rfl rfl S (y_assign rfl S rfl) fun a S => ?_
   refine gl_nil ?_
   refine n_then ?_
   exact ⟨k + 1, (S.nil.cons S 10 rfl).cons S 9 (by rw [hcs]; rfl), ((((S.nil.cons S 2 rfl).cons S 1 rfl).cons S 0 rfl).cons S 7 rfl).cons S 8 rfl, H, by omega, by omega⟩
 ·have h1p := h1; try simp only [DL] at h1p
  obtain rfl : k = got.length := by omega
  refine g_exit ?_
  refine x_then (x_then (x_eq ?_))
  refine n_then ?_
  have S := (((((S.nil.cons S 2 rfl).cons S 1 rfl).cons S 0 rfl).cons S 7 rfl).cons S 8 rfl).cons S 9 rfl
  refine g_seq ?_
  refine g_seq ?_
  refine g_region ?_
  refine gy rfl rfl rfl S (y_assign rfl S rfl) fun a S => ?_
  refine gl_nil ?_
  refine n_then ?_
  refine g_block ?_
  have SU := ((((S.nil.cons S 2 rfl).cons S 1 rfl).cons S 0 rfl).cons S 7 rfl).cons S 9 rfl
  refine loop_k (X := Nat) SU (fun k => [(11, .int .i64 (k : Int))]) (fun k => k ≤ left.length ∧ ∀ j, j < k → 0 ≤ atI left j ∧ atI left j < got.length ∧ (0 < j → atI left (j - 1) < atI left j)) (fun k => left.length - k) 0 (S.nil.cons S 11 rfl) H (⟨by omega, fun j hj => by omega⟩) (fun k a w S H hi => ?_)
  simp only [List.cons_append, List.nil_append] at S hi
  obtain ⟨hk, hno⟩ := hi
  refine g_seq ?_
  refine g_seq ?_
  refine g_region ?_
  refine gy rfl rfl rfl S (y_move rfl S rfl) fun a S => ?_
  refine gy rfl rfl rfl S (y_faddrb rfl Ffo27_0 S rfl) fun a S => ?_
  refine gy rfl rfl rfl S (y_load rfl Fsca25 S H rfl rfl) fun a S => ?_
  refine gy rfl rfl rfl S (y_lens rfl Try.underlying25 S H rfl) fun a S => ?_
  refine gy rfl rfl rfl S (y_bin rfl S rfl rfl rfl) fun a S => ?_
  refine gl_nil ?_
  refine n_then ?_
  refine c_if S rfl (fun h3 => ?_) (fun h3 => ?_)
  ·have h3p := h3; try simp only [DL] at h3p
   have hkl : k < left.length := by omega
   have hat := atI_eq hkl
   have hk1 : ((k : Int) - 1).toNat < left.length := by omega
   have hat1 : atI left (k - 1) = left[((k : Int) - 1).toNat] := by rw [show k - 1 = ((k : Int) - 1).toNat by omega]; exact atI_eq hk1
   refine g_skip ?_
   refine n_then ?_
   refine g_seq ?_
   refine g_block ?_
   refine g_seq ?_
   refine region_st (loud := []) (tails := []) (free := []) [0, 1, 2, 3, 4, 5, 6, 7, 8, 9, 10, 11, 12, 13, 14, 15, 16, 17, 18, 19, 20, 21, 22, 23, 24, 25, 26, 27, 28, 29, 30, 31, 32, 33] [] Fmo (by kernel_rfl) (by kernel_rfl) rfl H ?_
   refine m_w rfl rfl (wn rfl) rfl rfl S (fun w H => y_faddrb rfl Ffo27_0 S rfl) fun a S => ?_
   refine m_w rfl rfl (wn rfl) rfl rfl S (fun w H => y_load rfl Fsca25 S H rfl rfl) fun a S => ?_
   refine m_w rfl rfl (wn rfl) rfl rfl S (fun w H => y_move rfl S rfl) fun a S => ?_
   refine m_w rfl rfl (wn rfl) rfl rfl S (fun w H => y_iaddrn rfl Try.underlying25 Fsiz3 S H rfl rfl (by first | assumption | omega | (simp only [List.length_append, List.length_take, List.length_drop, List.length_replicate, List.length_set, List.length_map, List.length_cons, List.length_nil]; omega))) fun a S => ?_
   refine m_loads _ rfl rfl (wn rfl) rfl rfl S rfl Fsca3 rfl (by first | assumption | omega | (simp only [List.length_append, List.length_take, List.length_drop, List.length_replicate, List.length_set, List.length_map, List.length_cons, List.length_nil]; omega)) rfl fun a S => ?_
   refine m_w rfl rfl (wn rfl) rfl rfl S (fun w H => y_bin rfl S rfl rfl rfl) fun a S => ?_
   refine m_w rfl rfl (wn rfl) rfl rfl S (fun w H => y_move rfl S rfl) fun a S => ?_
   refine' m_orq [7, 8, 9, 10, 11, 12, 13, 14] 41 S rfl rfl rfl rfl rfl rfl rfl rfl rfl (fun _ S => (wn rfl)) (fun h4 kk => ?yh4) (fun a S => ?_)
   case yh4 =>
    have h4p := h4; try simp only [DL] at h4p
    refine m_w rfl rfl (wg' 41 rfl rfl S rfl h4 rfl) rfl rfl S (fun w H => y_faddrb rfl Ffo27_0 S rfl) fun a S => ?_
    refine m_w rfl rfl (wg' 41 rfl rfl S rfl h4 rfl) rfl rfl S (fun w H => y_load rfl Fsca25 S H rfl rfl) fun a S => ?_
    refine m_w rfl rfl (wg' 41 rfl rfl S rfl h4 rfl) rfl rfl S (fun w H => y_move rfl S rfl) fun a S => ?_
    refine m_w rfl rfl (wg' 41 rfl rfl S rfl h4 rfl) rfl rfl S (fun w H => y_iaddrn rfl Try.underlying25 Fsiz3 S H rfl rfl (by first | assumption | omega | (simp only [List.length_append, List.length_take, List.length_drop, List.length_replicate, List.length_set, List.length_map, List.length_cons, List.length_nil]; omega))) fun a S => ?_
    refine m_loads _ rfl rfl (wg' 41 rfl rfl S rfl h4 rfl) rfl rfl S rfl Fsca3 rfl (by first | assumption | omega | (simp only [List.length_append, List.length_take, List.length_drop, List.length_replicate, List.length_set, List.length_map, List.length_cons, List.length_nil]; omega)) rfl fun a S => ?_
    refine m_w rfl rfl (wg' 41 rfl rfl S rfl h4 rfl) rfl rfl S (fun w H => y_move rfl S rfl) fun a S => ?_
    refine m_w rfl rfl (wg' 41 rfl rfl S rfl h4 rfl) rfl rfl S (fun w H => y_lens rfl Try.underlying25 S H rfl) fun a S => ?_
    refine m_w rfl rfl (wg' 41 rfl rfl S rfl h4 rfl) rfl rfl S (fun w H => y_bin rfl S rfl rfl rfl) fun a S => ?_
    refine m_w rfl rfl (wn rfl) rfl rfl S (fun w H => y_or' rfl h4 S rfl rfl) fun a S => ?_
    exact kk _ (S.join 9 50 rfl rfl)
   refine m_w rfl rfl (wn rfl) rfl rfl S (fun w H => y_move rfl S rfl) fun a S => ?_
   refine' m_orq [17, 18, 19, 20, 21, 22, 23, 24, 25, 26, 27, 28, 29, 30, 31, 32] 51 S rfl rfl rfl rfl rfl rfl rfl rfl rfl (fun _ S => (wn rfl)) (fun h5 kk => ?yh5) (fun a S => ?_)
   case yh5 =>
    have h5p := h5; try simp only [DL] at h5p
    refine m_w rfl rfl (wg' 51 rfl rfl S rfl h5 rfl) rfl rfl S (fun w H => y_move rfl S rfl) fun a S => ?_
    refine m_w rfl rfl (wg' 51 rfl rfl S rfl h5 rfl) rfl rfl S (fun w H => y_bin rfl S rfl rfl rfl) fun a S => ?_
    refine m_w rfl rfl (wg' 51 rfl rfl S rfl h5 rfl) rfl rfl S (fun w H => y_move rfl S rfl) fun a S => ?_
    refine' m_andq [20, 21, 22, 23, 24, 25, 26, 27, 28, 29, 30, 31] 54 S rfl rfl rfl rfl rfl rfl rfl rfl rfl (fun _ S => (wg' 51 rfl rfl S rfl h5 rfl)) (fun h6 kk => ?yh6) (fun a S => ?_)
    case yh6 =>
     have h6p := h6; try simp only [DL] at h6p
     refine m_w rfl rfl (wg' 54 rfl rfl S rfl h6 rfl) rfl rfl S (fun w H => y_faddrb rfl Ffo27_0 S rfl) fun a S => ?_
     refine m_w rfl rfl (wg' 54 rfl rfl S rfl h6 rfl) rfl rfl S (fun w H => y_load rfl Fsca25 S H rfl rfl) fun a S => ?_
     refine m_w rfl rfl (wg' 54 rfl rfl S rfl h6 rfl) rfl rfl S (fun w H => y_move rfl S rfl) fun a S => ?_
     refine m_w rfl rfl (wg' 54 rfl rfl S rfl h6 rfl) rfl rfl S (fun w H => y_iaddrn rfl Try.underlying25 Fsiz3 S H rfl rfl (by first | assumption | omega | (simp only [List.length_append, List.length_take, List.length_drop, List.length_replicate, List.length_set, List.length_map, List.length_cons, List.length_nil]; omega))) fun a S => ?_
     refine m_loads _ rfl rfl (wg' 54 rfl rfl S rfl h6 rfl) rfl rfl S rfl Fsca3 rfl (by first | assumption | omega | (simp only [List.length_append, List.length_take, List.length_drop, List.length_replicate, List.length_set, List.length_map, List.length_cons, List.length_nil]; omega)) rfl fun a S => ?_
     refine m_w rfl rfl (wg' 54 rfl rfl S rfl h6 rfl) rfl rfl S (fun w H => y_faddrb rfl Ffo27_0 S rfl) fun a S => ?_
     refine m_w rfl rfl (wg' 54 rfl rfl S rfl h6 rfl) rfl rfl S (fun w H => y_load rfl Fsca25 S H rfl rfl) fun a S => ?_
     refine m_w rfl rfl (wg' 54 rfl rfl S rfl h6 rfl) rfl rfl S (fun w H => y_move rfl S rfl) fun a S => ?_
     refine m_w rfl rfl (wg' 54 rfl rfl S rfl h6 rfl) rfl rfl S (fun w H => y_sub rfl S rfl rfl (by omega)) fun a S => ?_
     refine m_w rfl rfl (wg' 54 rfl rfl S rfl h6 rfl) rfl rfl S (fun w H => y_iaddrs rfl Try.underlying25 Fsiz3 S H rfl rfl (by first | assumption | omega | (simp only [List.length_append, List.length_take, List.length_drop, List.length_replicate, List.length_set, List.length_map, List.length_cons, List.length_nil]; omega))) fun a S => ?_
     refine m_loads _ rfl rfl (wg' 54 rfl rfl S rfl h6 rfl) rfl rfl S rfl Fsca3 rfl (by first | assumption | omega | (simp only [List.length_append, List.length_take, List.length_drop, List.length_replicate, List.length_set, List.length_map, List.length_cons, List.length_nil]; omega)) rfl fun a S => ?_
     refine m_w rfl rfl (wg' 54 rfl rfl S rfl h6 rfl) rfl rfl S (fun w H => y_bin rfl S rfl rfl rfl) fun a S => ?_
     refine m_w rfl rfl (wg' 51 rfl rfl S rfl h5 rfl) rfl rfl S (fun w H => y_and' rfl h6 S rfl rfl) fun a S => ?_
     exact kk _ (S.join 13 67 rfl rfl)
    refine m_w rfl rfl (wn rfl) rfl rfl S (fun w H => y_or' rfl h5 S rfl rfl) fun a S => ?_
    exact kk _ (S.join 5 68 rfl rfl)
   refine m_nil (fun w H => ?_)
   refine n_then ?_
   refine c_if S rfl (fun h7 => ?_) (fun h7 => ?_)
   ·have h7p := h7; try simp only [DL] at h7p
    refine g_seq ?_
    refine g_region ?_
    refine gy rfl rfl rfl S (y_assign rfl S rfl) fun a S => ?_
    refine gl_nil ?_
    refine n_then ?_
    refine g_ret ?_
    refine r_block (r_then (r_then (r_block (r_then (ret1 rfl S rfl ?_)))))
    exact ⟨congrArg Value.bool (by unfold covC; rw [formed_no k hkl hno (by rw [hat, hat1]; omega)]; rfl), H.toExt⟩
   ·have h7p := h7; try simp only [DL] at h7p
    refine g_skip ?_
    refine n_block ?_
    refine n_then ?_
    refine g_region ?_
    refine gy rfl rfl rfl S (y_move rfl S rfl) fun a S => ?_
    refine gy rfl rfl rfl S (y_add rfl S rfl rfl (by omega)) fun a S => ?_
    refine gy rfl rfl rfl S (y_assign rfl S rfl) fun a S => ?_
    refine gl_nil ?_
    refine n_then ?_
    refine ⟨k + 1, S.nil.cons S 11 rfl, ((((S.nil.cons S 2 rfl).cons S 1 rfl).cons S 0 rfl).cons S 7 rfl).cons S 9 rfl, H, ?_, ?_⟩
    · exact ⟨by omega, fun j hj => by by_cases hjk : j < k; exact hno j hjk; (obtain rfl : j = k := by omega); rw [hat, hat1]; omega⟩
    · omega
  ·have h3p := h3; try simp only [DL] at h3p
   obtain rfl : k = left.length := by omega
   have hf1 : formedB left got.length = true := formedB_iff.2 ⟨hno⟩
   refine g_exit ?_
   refine x_then (x_then (x_eq ?_))
   refine n_then ?_
   have S := (((S.nil.cons S 2 rfl).cons S 0 rfl).cons S 7 rfl).cons S 9 rfl
   refine g_seq ?_
   refine g_seq ?_
   refine g_region ?_
   refine gy rfl rfl rfl S (y_assign rfl S rfl) fun a S => ?_
   refine gl_nil ?_
   refine n_then ?_
   refine g_block ?_
   have SU := (((S.nil.cons S 2 rfl).cons S 0 rfl).cons S 7 rfl).cons S 9 rfl
   refine loop_k (X := Nat) SU (fun k => [(12, .int .i64 (k : Int))]) (fun k => k ≤ right.length ∧ ∀ j, j < k → 0 ≤ atI right j ∧ atI right j < r ∧ (0 < j → atI right (j - 1) < atI right j)) (fun k => right.length - k) 0 (S.nil.cons S 12 rfl) H (⟨by omega, fun j hj => by omega⟩) (fun k a w S H hi => ?_)
   simp only [List.cons_append, List.nil_append] at S hi
   obtain ⟨hk, hno⟩ := hi
   refine g_seq ?_
   refine g_seq ?_
   refine g_region ?_
   refine gy rfl rfl rfl S (y_move rfl S rfl) fun a S => ?_
   refine gy rfl rfl rfl S (y_faddrb rfl Ffo27_1 S rfl) fun a S => ?_
   refine gy rfl rfl rfl S (y_load rfl Fsca25 S H rfl rfl) fun a S => ?_
   refine gy rfl rfl rfl S (y_lens rfl Try.underlying25 S H rfl) fun a S => ?_
   refine gy rfl rfl rfl S (y_bin rfl S rfl rfl rfl) fun a S => ?_
   refine gl_nil ?_
   refine n_then ?_
   refine c_if S rfl (fun h8 => ?_) (fun h8 => ?_)
   ·have h8p := h8; try simp only [DL] at h8p
    have hkl : k < right.length := by omega
    have hat := atI_eq hkl
    have hk1 : ((k : Int) - 1).toNat < right.length := by omega
    have hat1 : atI right (k - 1) = right[((k : Int) - 1).toNat] := by rw [show k - 1 = ((k : Int) - 1).toNat by omega]; exact atI_eq hk1
    refine g_skip ?_
    refine n_then ?_
    refine g_seq ?_
    refine g_block ?_
    refine g_seq ?_
    refine region_st (loud := []) (tails := []) (free := []) [0, 1, 2, 3, 4, 5, 6, 7, 8, 9, 10, 11, 12, 13, 14, 15, 16, 17, 18, 19, 20, 21, 22, 23, 24, 25, 26, 27, 28, 29, 30, 31, 32] [] Fmo (by kernel_rfl) (by kernel_rfl) rfl H ?_
    refine m_w rfl rfl (wn rfl) rfl rfl S (fun w H => y_faddrb rfl Ffo27_1 S rfl) fun a S => ?_
    refine m_w rfl rfl (wn rfl) rfl rfl S (fun w H => y_load rfl Fsca25 S H rfl rfl) fun a S => ?_
    refine m_w rfl rfl (wn rfl) rfl rfl S (fun w H => y_move rfl S rfl) fun a S => ?_
    refine m_w rfl rfl (wn rfl) rfl rfl S (fun w H => y_iaddrn rfl Try.underlying25 Fsiz3 S H rfl rfl (by first | assumption | omega | (simp only [List.length_append, List.length_take, List.length_drop, List.length_replicate, List.length_set, List.length_map, List.length_cons, List.length_nil]; omega))) fun a S => ?_
    refine m_loads _ rfl rfl (wn rfl) rfl rfl S rfl Fsca3 rfl (by first | assumption | omega | (simp only [List.length_append, List.length_take, List.length_drop, List.length_replicate, List.length_set, List.length_map, List.length_cons, List.length_nil]; omega)) rfl fun a S => ?_
    refine m_w rfl rfl (wn rfl) rfl rfl S (fun w H => y_bin rfl S rfl rfl rfl) fun a S => ?_
    refine m_w rfl rfl (wn rfl) rfl rfl S (fun w H => y_move rfl S rfl) fun a S => ?_
    refine' m_orq [7, 8, 9, 10, 11, 12, 13] 82 S rfl rfl rfl rfl rfl rfl rfl rfl rfl (fun _ S => (wn rfl)) (fun h9 kk => ?yh9) (fun a S => ?_)
    case yh9 =>
     have h9p := h9; try simp only [DL] at h9p
     refine m_w rfl rfl (wg' 82 rfl rfl S rfl h9 rfl) rfl rfl S (fun w H => y_faddrb rfl Ffo27_1 S rfl) fun a S => ?_
     refine m_w rfl rfl (wg' 82 rfl rfl S rfl h9 rfl) rfl rfl S (fun w H => y_load rfl Fsca25 S H rfl rfl) fun a S => ?_
     refine m_w rfl rfl (wg' 82 rfl rfl S rfl h9 rfl) rfl rfl S (fun w H => y_move rfl S rfl) fun a S => ?_
     refine m_w rfl rfl (wg' 82 rfl rfl S rfl h9 rfl) rfl rfl S (fun w H => y_iaddrn rfl Try.underlying25 Fsiz3 S H rfl rfl (by first | assumption | omega | (simp only [List.length_append, List.length_take, List.length_drop, List.length_replicate, List.length_set, List.length_map, List.length_cons, List.length_nil]; omega))) fun a S => ?_
     refine m_loads _ rfl rfl (wg' 82 rfl rfl S rfl h9 rfl) rfl rfl S rfl Fsca3 rfl (by first | assumption | omega | (simp only [List.length_append, List.length_take, List.length_drop, List.length_replicate, List.length_set, List.length_map, List.length_cons, List.length_nil]; omega)) rfl fun a S => ?_
     refine m_w rfl rfl (wg' 82 rfl rfl S rfl h9 rfl) rfl rfl S (fun w H => y_move rfl S rfl) fun a S => ?_
     refine m_w rfl rfl (wg' 82 rfl rfl S rfl h9 rfl) rfl rfl S (fun w H => y_bin rfl S rfl rfl rfl) fun a S => ?_
     refine m_w rfl rfl (wn rfl) rfl rfl S (fun w H => y_or' rfl h9 S rfl rfl) fun a S => ?_
     exact kk _ (S.join 8 90 rfl rfl)
    refine m_w rfl rfl (wn rfl) rfl rfl S (fun w H => y_move rfl S rfl) fun a S => ?_
    refine' m_orq [16, 17, 18, 19, 20, 21, 22, 23, 24, 25, 26, 27, 28, 29, 30, 31] 91 S rfl rfl rfl rfl rfl rfl rfl rfl rfl (fun _ S => (wn rfl)) (fun h10 kk => ?yh10) (fun a S => ?_)
    case yh10 =>
     have h10p := h10; try simp only [DL] at h10p
     refine m_w rfl rfl (wg' 91 rfl rfl S rfl h10 rfl) rfl rfl S (fun w H => y_move rfl S rfl) fun a S => ?_
     refine m_w rfl rfl (wg' 91 rfl rfl S rfl h10 rfl) rfl rfl S (fun w H => y_bin rfl S rfl rfl rfl) fun a S => ?_
     refine m_w rfl rfl (wg' 91 rfl rfl S rfl h10 rfl) rfl rfl S (fun w H => y_move rfl S rfl) fun a S => ?_
     refine' m_andq [19, 20, 21, 22, 23, 24, 25, 26, 27, 28, 29, 30] 94 S rfl rfl rfl rfl rfl rfl rfl rfl rfl (fun _ S => (wg' 91 rfl rfl S rfl h10 rfl)) (fun h11 kk => ?yh11) (fun a S => ?_)
     case yh11 =>
      have h11p := h11; try simp only [DL] at h11p
      refine m_w rfl rfl (wg' 94 rfl rfl S rfl h11 rfl) rfl rfl S (fun w H => y_faddrb rfl Ffo27_1 S rfl) fun a S => ?_
      refine m_w rfl rfl (wg' 94 rfl rfl S rfl h11 rfl) rfl rfl S (fun w H => y_load rfl Fsca25 S H rfl rfl) fun a S => ?_
      refine m_w rfl rfl (wg' 94 rfl rfl S rfl h11 rfl) rfl rfl S (fun w H => y_move rfl S rfl) fun a S => ?_
      refine m_w rfl rfl (wg' 94 rfl rfl S rfl h11 rfl) rfl rfl S (fun w H => y_iaddrn rfl Try.underlying25 Fsiz3 S H rfl rfl (by first | assumption | omega | (simp only [List.length_append, List.length_take, List.length_drop, List.length_replicate, List.length_set, List.length_map, List.length_cons, List.length_nil]; omega))) fun a S => ?_
      refine m_loads _ rfl rfl (wg' 94 rfl rfl S rfl h11 rfl) rfl rfl S rfl Fsca3 rfl (by first | assumption | omega | (simp only [List.length_append, List.length_take, List.length_drop, List.length_replicate, List.length_set, List.length_map, List.length_cons, List.length_nil]; omega)) rfl fun a S => ?_
      refine m_w rfl rfl (wg' 94 rfl rfl S rfl h11 rfl) rfl rfl S (fun w H => y_faddrb rfl Ffo27_1 S rfl) fun a S => ?_
      refine m_w rfl rfl (wg' 94 rfl rfl S rfl h11 rfl) rfl rfl S (fun w H => y_load rfl Fsca25 S H rfl rfl) fun a S => ?_
      refine m_w rfl rfl (wg' 94 rfl rfl S rfl h11 rfl) rfl rfl S (fun w H => y_move rfl S rfl) fun a S => ?_
      refine m_w rfl rfl (wg' 94 rfl rfl S rfl h11 rfl) rfl rfl S (fun w H => y_sub rfl S rfl rfl (by omega)) fun a S => ?_
      refine m_w rfl rfl (wg' 94 rfl rfl S rfl h11 rfl) rfl rfl S (fun w H => y_iaddrs rfl Try.underlying25 Fsiz3 S H rfl rfl (by first | assumption | omega | (simp only [List.length_append, List.length_take, List.length_drop, List.length_replicate, List.length_set, List.length_map, List.length_cons, List.length_nil]; omega))) fun a S => ?_
      refine m_loads _ rfl rfl (wg' 94 rfl rfl S rfl h11 rfl) rfl rfl S rfl Fsca3 rfl (by first | assumption | omega | (simp only [List.length_append, List.length_take, List.length_drop, List.length_replicate, List.length_set, List.length_map, List.length_cons, List.length_nil]; omega)) rfl fun a S => ?_
      refine m_w rfl rfl (wg' 94 rfl rfl S rfl h11 rfl) rfl rfl S (fun w H => y_bin rfl S rfl rfl rfl) fun a S => ?_
      refine m_w rfl rfl (wg' 91 rfl rfl S rfl h10 rfl) rfl rfl S (fun w H => y_and' rfl h11 S rfl rfl) fun a S => ?_
      exact kk _ (S.join 13 107 rfl rfl)
     refine m_w rfl rfl (wn rfl) rfl rfl S (fun w H => y_or' rfl h10 S rfl rfl) fun a S => ?_
     exact kk _ (S.join 5 108 rfl rfl)
    refine m_nil (fun w H => ?_)
    refine n_then ?_
    refine c_if S rfl (fun h12 => ?_) (fun h12 => ?_)
    ·have h12p := h12; try simp only [DL] at h12p
     refine g_seq ?_
     refine g_region ?_
     refine gy rfl rfl rfl S (y_assign rfl S rfl) fun a S => ?_
     refine gl_nil ?_
     refine n_then ?_
     refine g_ret ?_
     refine r_block (r_then (r_then (r_block (r_then (ret1 rfl S rfl ?_)))))
     exact ⟨congrArg Value.bool (by unfold covC; rw [formed_no k hkl hno (by rw [hat, hat1]; omega), hf1]; rfl), H.toExt⟩
    ·have h12p := h12; try simp only [DL] at h12p
     refine g_skip ?_
     refine n_block ?_
     refine n_then ?_
     refine g_region ?_
     refine gy rfl rfl rfl S (y_move rfl S rfl) fun a S => ?_
     refine gy rfl rfl rfl S (y_add rfl S rfl rfl (by omega)) fun a S => ?_
     refine gy rfl rfl rfl S (y_assign rfl S rfl) fun a S => ?_
     refine gl_nil ?_
     refine n_then ?_
     refine ⟨k + 1, S.nil.cons S 12 rfl, (((S.nil.cons S 2 rfl).cons S 0 rfl).cons S 7 rfl).cons S 9 rfl, H, ?_, ?_⟩
     · exact ⟨by omega, fun j hj => by by_cases hjk : j < k; exact hno j hjk; (obtain rfl : j = k := by omega); rw [hat, hat1]; omega⟩
     · omega
   ·have h8p := h8; try simp only [DL] at h8p
    obtain rfl : k = right.length := by omega
    have hf2 : formedB right r = true := formedB_iff.2 ⟨hno⟩
    refine g_exit ?_
    refine x_then (x_then (x_eq ?_))
    refine n_then ?_
    have S := ((S.nil.cons S 0 rfl).cons S 7 rfl).cons S 9 rfl
    refine g_seq ?_
    refine g_seq ?_
    refine g_region ?_
    refine gy rfl rfl rfl S (y_assign rfl S rfl) fun a S => ?_
    refine gl_nil ?_
    refine n_then ?_
    refine g_block ?_
    have SU := ((S.nil.cons S 0 rfl).cons S 7 rfl).cons S 9 rfl
    refine loop_k (X := Nat) SU (fun i => [(13, .int .i64 (i : Int))]) (fun i => i ≤ ps.length ∧ ∀ j, j < i → covAt (gr ps) left right j) (fun i => ps.length - i) 0 (S.nil.cons S 13 rfl) H (⟨by omega, fun j hj => by omega⟩) (fun i a w S H hi => ?_)
    simp only [List.cons_append, List.nil_append] at S hi
    obtain ⟨hi2, hcv⟩ := hi
    refine g_seq ?_
    refine g_seq ?_
    refine g_region ?_
    refine gy rfl rfl rfl S (y_move rfl S rfl) fun a S => ?_
    refine gy rfl rfl rfl S (y_move rfl S rfl) fun a S => ?_
    refine gy rfl rfl rfl S (y_lens rfl Try.underlying66 S H rfl) fun a S => ?_
    refine gy rfl rfl rfl S (y_bin rfl S rfl rfl rfl) fun a S => ?_
    refine gl_nil ?_
    refine n_then ?_
    refine c_if S rfl (fun h13 => ?_) (fun h13 => ?_)
    ·have h13p := h13; try simp only [DL] at h13p
     have hip : i < ps.length := by omega
     have hrw := gr_row ps hip
     have hrl := (hr _ (List.getElem_mem hip)).len
     refine g_skip ?_
     refine n_then ?_
     refine g_seq ?_
     refine g_block ?_
     refine g_seq ?_
     refine g_region ?_
     refine gy rfl rfl rfl S (y_assign rfl S rfl) fun a S => ?_
     refine gl_nil ?_
     refine n_then ?_
     refine g_block ?_
     have SU := (((((((S.nil.cons S 0 rfl).cons S 7 rfl).cons S 9 rfl).cons S 13 rfl).cons S 109 rfl).cons S 110 rfl).cons S 111 rfl).cons S 112 rfl
     refine loop_k (X := Nat) SU (fun q => [(14, .int .i64 (q : Int))]) (fun q => q ≤ ps[i].2.length ∧ ∀ j (hj : j < ps[i].2.length), j < q → (i : Int) ∈ left ∨ ps[i].2[j] ∈ right) (fun q => ps[i].2.length - q) 0 (S.nil.cons S 14 rfl) H (⟨by omega, fun j h hj => by omega⟩) (fun q a w S H hi => ?_)
     simp only [List.cons_append, List.nil_append] at S hi
     obtain ⟨hq, hrow⟩ := hi
     refine g_seq ?_
     refine g_seq ?_
     refine g_region ?_
     refine gy rfl rfl rfl S (y_move rfl S rfl) fun a S => ?_
     refine gy rfl rfl rfl S (y_move rfl S rfl) fun a S => ?_
     refine gy rfl rfl rfl S (y_move rfl S rfl) fun a S => ?_
     refine gy rfl rfl rfl S (y_iaddrn rfl Try.underlying66 Fsiz25 S H rfl rfl (by first | assumption | omega | (simp only [List.length_append, List.length_take, List.length_drop, List.length_replicate, List.length_set, List.length_map, List.length_cons, List.length_nil]; omega))) fun a S => ?_
     refine gy rfl rfl rfl S (y_loads _ rfl Fsca25 S H rfl (by first | assumption | omega | (simp only [List.length_append, List.length_take, List.length_drop, List.length_replicate, List.length_set, List.length_map, List.length_cons, List.length_nil]; omega)) rfl) fun a S => ?_
     refine gy rfl rfl rfl S (y_lens rfl Try.underlying25 S H rfl) fun a S => ?_
     refine gy rfl rfl rfl S (y_bin rfl S rfl rfl rfl) fun a S => ?_
     refine gl_nil ?_
     refine n_then ?_
     refine c_if S rfl (fun h14 => ?_) (fun h14 => ?_)
     ·have h14p := h14; try simp only [DL] at h14p
      have hql : q < ps[i].2.length := by omega
      refine g_skip ?_
      refine n_then ?_
      refine g_seq ?_
      refine g_block ?_
      refine g_seq ?_
      refine region_st (loud := []) (tails := []) (free := []) [0, 1, 2, 3, 4, 5, 6, 7, 8, 9, 10, 11, 12, 13, 14, 15, 16, 17] [] Fmo (by kernel_rfl) (by kernel_rfl) rfl H ?_
      refine m_w rfl rfl (wn rfl) rfl rfl S (fun w H => y_faddrb rfl Ffo27_0 S rfl) fun a S => ?_
      refine m_w rfl rfl (wn rfl) rfl rfl S (fun w H => y_load rfl Fsca25 S H rfl rfl) fun a S => ?_
      refine m_w rfl rfl (wn rfl) rfl rfl S (fun w H => y_move rfl S rfl) fun a S => ?_
      refine m_c rfl rfl (wn rfl) rfl rfl S (fun w => co_func rfl Try.call25 S rfl) (fun w H => in_spec vl left i _ (H.sl vl)) fun a S => ?_
      refine m_w rfl rfl (wn rfl) rfl rfl S (fun w H => y_not rfl S rfl) fun a S => ?_
      refine m_w rfl rfl (wn rfl) rfl rfl S (fun w H => y_move rfl S rfl) fun a S => ?_
      refine' m_andq [6, 7, 8, 9, 10, 11, 12, 13, 14, 15, 16] 129 S rfl rfl rfl rfl rfl rfl rfl rfl rfl (fun _ S => (wn rfl)) (fun h15 kk => ?yh15) (fun a S => ?_)
      case yh15 =>
       have h15p := h15; try simp only [DL] at h15p
       refine m_w rfl rfl (wg' 129 rfl rfl S rfl h15 rfl) rfl rfl S (fun w H => y_faddrb rfl Ffo27_1 S rfl) fun a S => ?_
       refine m_w rfl rfl (wg' 129 rfl rfl S rfl h15 rfl) rfl rfl S (fun w H => y_load rfl Fsca25 S H rfl rfl) fun a S => ?_
       refine m_w rfl rfl (wg' 129 rfl rfl S rfl h15 rfl) rfl rfl S (fun w H => y_move rfl S rfl) fun a S => ?_
       refine m_w rfl rfl (wg' 129 rfl rfl S rfl h15 rfl) rfl rfl S (fun w H => y_move rfl S rfl) fun a S => ?_
       refine m_w rfl rfl (wg' 129 rfl rfl S rfl h15 rfl) rfl rfl S (fun w H => y_iaddrn rfl Try.underlying66 Fsiz25 S H rfl rfl (by first | assumption | omega | (simp only [List.length_append, List.length_take, List.length_drop, List.length_replicate, List.length_set, List.length_map, List.length_cons, List.length_nil]; omega))) fun a S => ?_
       refine m_loads _ rfl rfl (wg' 129 rfl rfl S rfl h15 rfl) rfl rfl S rfl Fsca25 rfl (by first | assumption | omega | (simp only [List.length_append, List.length_take, List.length_drop, List.length_replicate, List.length_set, List.length_map, List.length_cons, List.length_nil]; omega)) rfl fun a S => ?_
       refine m_w rfl rfl (wg' 129 rfl rfl S rfl h15 rfl) rfl rfl S (fun w H => y_move rfl S rfl) fun a S => ?_
       refine m_w rfl rfl (wg' 129 rfl rfl S rfl h15 rfl) rfl rfl S (fun w H => y_iaddrn rfl Try.underlying25 Fsiz3 S H rfl rfl (by first | assumption | omega | (simp only [List.length_append, List.length_take, List.length_drop, List.length_replicate, List.length_set, List.length_map, List.length_cons, List.length_nil]; omega))) fun a S => ?_
       refine m_loads _ rfl rfl (wg' 129 rfl rfl S rfl h15 rfl) rfl rfl S rfl Fsca3 rfl (by first | assumption | omega | (simp only [List.length_append, List.length_take, List.length_drop, List.length_replicate, List.length_set, List.length_map, List.length_cons, List.length_nil]; omega)) rfl fun a S => ?_
       refine m_c rfl rfl (wg' 129 rfl rfl S rfl h15 rfl) rfl rfl S (fun w => co_func rfl Try.call25 S rfl) (fun w H => in_spec vr right ps[i].2[q] _ (H.sl vr)) fun a S => ?_
       refine m_w rfl rfl (wg' 129 rfl rfl S rfl h15 rfl) rfl rfl S (fun w H => y_not rfl S rfl) fun a S => ?_
       refine m_w rfl rfl (wn rfl) rfl rfl S (fun w H => y_and' rfl h15 S rfl rfl) fun a S => ?_
       exact kk _ (S.join 12 141 rfl rfl)
      refine m_nil (fun w H => ?_)
      refine n_then ?_
      refine c_if S rfl (fun h16 => ?_) (fun h16 => ?_)
      ·have h16p := h16; try simp only [DL] at h16p
       refine g_seq ?_
       refine g_region ?_
       refine gy rfl rfl rfl S (y_assign rfl S rfl) fun a S => ?_
       refine gl_nil ?_
       refine n_then ?_
       refine g_ret ?_
       refine r_block (r_then (r_then (r_block (r_block (r_then (r_then (r_block (r_then (ret1 rfl S rfl ?_)))))))))
       exact ⟨congrArg Value.bool (by unfold covC; rw [hf1, hf2, covers_no i (by omega) (fun h => by
         have hh := h16
         simp only [Bool.and_eq_true, Bool.not_eq_true', decide_eq_false_iff_not] at hh
         exact h.elim hh.1 (fun h => hh.2 (h _ (by rw [hrw]; exact List.getElem_mem _))))]; rfl), H.toExt⟩
      ·have h16p := h16; try simp only [DL] at h16p
       refine g_skip ?_
       refine n_block ?_
       refine n_then ?_
       refine g_region ?_
       refine gy rfl rfl rfl S (y_move rfl S rfl) fun a S => ?_
       refine gy rfl rfl rfl S (y_add rfl S rfl rfl (by omega)) fun a S => ?_
       refine gy rfl rfl rfl S (y_assign rfl S rfl) fun a S => ?_
       refine gl_nil ?_
       refine n_then ?_
       refine ⟨q + 1, S.nil.cons S 14 rfl, (((((((S.nil.cons S 0 rfl).cons S 7 rfl).cons S 9 rfl).cons S 13 rfl).cons S 109 rfl).cons S 110 rfl).cons S 111 rfl).cons S 112 rfl, H, ?_, ?_⟩
       · exact ⟨by omega, fun j hj hjq => by by_cases hj2 : j < q; exact hrow j hj hj2; (obtain rfl : j = q := by omega); have hh := h16; simp only [Bool.and_eq_false_iff, Bool.not_eq_false', decide_eq_true_eq] at hh; exact hh⟩
       · omega
     ·have h14p := h14; try simp only [DL] at h14p
      obtain rfl : q = ps[i].2.length := by omega
      refine g_exit ?_
      refine x_then (x_then (x_eq ?_))
      refine n_block ?_
      refine n_then ?_
      refine g_region ?_
      refine gy rfl rfl rfl S (y_move rfl S rfl) fun a S => ?_
      refine gy rfl rfl rfl S (y_add rfl S rfl rfl (by omega)) fun a S => ?_
      refine gy rfl rfl rfl S (y_assign rfl S rfl) fun a S => ?_
      refine gl_nil ?_
      refine n_then ?_
      refine ⟨i + 1, S.nil.cons S 13 rfl, ((S.nil.cons S 0 rfl).cons S 7 rfl).cons S 9 rfl, H, ?_, ?_⟩
      · exact ⟨by omega, fun j hj => by by_cases hj2 : j < i; exact hcv j hj2; (obtain rfl : j = i := by omega); by_cases hin : (j : Int) ∈ left; exact .inl hin; exact .inr (fun n hn => by rw [hrw] at hn; obtain ⟨m, hm, rfl⟩ := List.getElem_of_mem hn; exact (hrow m hm (by omega)).resolve_left hin)⟩
      · omega
    ·have h13p := h13; try simp only [DL] at h13p
     obtain rfl : i = ps.length := by omega
     refine g_exit ?_
     refine x_then (x_then (x_eq ?_))
     refine n_then ?_
     have S := (S.nil.cons S 7 rfl).cons S 9 rfl
     refine g_seq ?_
     refine g_region ?_
     refine gy rfl rfl rfl S (y_faddrb rfl Ffo27_0 S rfl) fun a S => ?_
     refine gy rfl rfl rfl S (y_load rfl Fsca25 S H rfl rfl) fun a S => ?_
     refine gy rfl rfl rfl S (y_lens rfl Try.underlying25 S H rfl) fun a S => ?_
     refine gy rfl rfl rfl S (y_faddrb rfl Ffo27_1 S rfl) fun a S => ?_
     refine gy rfl rfl rfl S (y_load rfl Fsca25 S H rfl rfl) fun a S => ?_
     refine gy rfl rfl rfl S (y_lens rfl Try.underlying25 S H rfl) fun a S => ?_
     refine gy rfl rfl rfl S (y_add rfl S rfl rfl (by omega)) fun a S => ?_
     refine gy rfl rfl rfl S (y_move rfl S rfl) fun a S => ?_
     refine gy rfl rfl rfl S (y_bin rfl S rfl rfl rfl) fun a S => ?_
     refine gy rfl rfl rfl S (y_assign rfl S rfl) fun a S => ?_
     refine gl_nil ?_
     refine n_then ?_
     have S := S.nil.cons S 8 rfl
     refine g_ret ?_
     refine ret1 rfl S rfl ?_
     exact ⟨congrArg Value.bool (by unfold covC; rw [hf1, hf2, covers_yes (fun j hj => hcv j (by omega))]; rfl), H.toExt⟩

end Go.Proofs.Ytenaoaegichecaa
