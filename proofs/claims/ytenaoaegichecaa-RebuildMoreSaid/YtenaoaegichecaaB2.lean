/- The walks. No condition. -/
import Derived.Test.YtenaoaegichecaaChecked
import Derived.Test.YtenaoaegichecaaGwBits
import Derived.Test.YtenaoaegichecaaFacts
import Derived.Test.YtenaoaegichecaaPlainP
import Derived.Test.YtenaoaegichecaaB1
namespace Go.Proofs.Ytenaoaegichecaa
open Go Go.Gw
set_option linter.unusedVariables false
set_option linter.unusedSimpArgs false
set_option maxHeartbeats 1000000 in
/-- foyer/foyerref39.Edges -/
theorem refEdges_spec (v1 v2 : Value) (old next : List Pl) (w0 : World) (hv1 : IsSl w0 v1 9 Pl.enc old) (hv2 : IsSl w0 v2 9 Pl.enc next) (hl1 : old.length ≤ 100000) (hl2 : next.length ≤ 100000) :
    Ret Try.prog 54 #[v1, v2] w0 (fun u w => ∃ ps : List (Value × List Int), ps.map (·.2) = edgesL old next ∧ HSat No w0 [OSl 25 u 1 encRow ps, RowsA 3 1 encI ps] w) := by
 refine ret_of_wp (nt := 43) Try.func54 rfl rfl rfl (fl := [(0, v1), (1, v2)]) rfl (fun a S => ?_)
 have H := HSat.start w0
 have H := H.ro0 (Sl v1 9 Pl.enc old) rfl (hv1)
 have H := H.ro0 (Sl v2 9 Pl.enc next) rfl (hv2)
 refine g_seq ?_
 refine g_region ?_
 refine gy rfl rfl rfl S (y_assign rfl S rfl) fun a S => ?_
 refine gl_nil ?_
 refine n_then ?_
 refine g_seq ?_
 refine g_region ?_
 refine gy rfl rfl rfl S (y_move rfl S rfl) fun a S => ?_
 refine gy rfl rfl rfl S (y_lens rfl Try.underlying22 S H rfl) fun a S => ?_
 refine wl_of (op_make (encRow (α := Int)) ((Value.slice none 0 0, [])) (wn rfl) rfl rfl rfl Try.underlying66 Finf25 rfl rfl S H rfl rfl rfl (by omega) (by omega) fun b10 a w S H => ?_)
 have H := (H.rowsNil 3 1 encI old.length).take [OSl 25 (.slice (some ⟨b10, 0, none⟩) old.length old.length) 1 encRow (List.replicate old.length (Value.slice none 0 0, ([] : List Int))), RowsA 3 1 encI (List.replicate old.length (Value.slice none 0 0, ([] : List Int))), Sl v2 9 Pl.enc next, Sl v1 9 Pl.enc old]
 refine gy rfl rfl rfl S (y_assign rfl S rfl) fun a S => ?_
 refine gl_nil ?_
 refine n_then ?_
 refine g_seq ?_
 refine g_seq ?_
 refine g_region ?_
 refine gy rfl rfl rfl S (y_assign rfl S rfl) fun a S => ?_
 refine gl_nil ?_
 refine n_then ?_
 refine g_block ?_
 have SU := (((S.nil.cons S 1 rfl).cons S 0 rfl).cons S 4 rfl).cons S 5 rfl
 refine loopW (X := Nat) SU (fun i => [(6, .int .i64 (i : Int))]) (fun i w => i ≤ old.length ∧ ∃ ps : List (Value × List Int), (i < old.length → ps.map (·.2) = rowsAt old next i []) ∧ (i = old.length → ps.map (·.2) = edgesL old next) ∧ ps.length = old.length ∧ HSat No w0 [OSl 25 (.slice (some ⟨b10, 0, none⟩) old.length old.length) 1 encRow ps, RowsA 3 1 encI ps, Sl v2 9 Pl.enc next, Sl v1 9 Pl.enc old] w) (fun i => old.length - i) 0 (S.nil.cons S 6 rfl) (⟨by omega, (List.replicate old.length (Value.slice none 0 0, ([] : List Int))), fun h => by rw [List.map_replicate, rowsAt_start _ _ (List.length_pos_iff.1 h)], fun h => by rw [List.length_eq_zero_iff.1 h.symm]; rfl, by simp, H⟩) (fun i a w S hW => ?_)
 simp only [List.cons_append, List.nil_append] at S
 obtain ⟨hi, ps, hp1, hp2, hpl, H⟩ := hW
 refine g_seq ?_
 refine g_seq ?_
 refine g_region ?_
 refine gy rfl rfl rfl S (y_move rfl S rfl) fun a S => ?_
 refine gy rfl rfl rfl S (y_move rfl S rfl) fun a S => ?_
 refine gy rfl rfl rfl S (y_lens rfl Try.underlying22 S H rfl) fun a S => ?_
 refine gy rfl rfl rfl S (y_bin rfl S rfl rfl rfl) fun a S => ?_
 refine gl_nil ?_
 refine n_then ?_
 refine c_if S rfl (fun h1 => ?_) (fun h1 => ?_)
 ·have h1p := h1; try simp only [DL] at h1p
  have hps0 := hp1 (by omega)
  refine g_skip ?_
  refine n_then ?_
  refine g_seq ?_
  refine g_block ?_
  refine g_seq ?_
  refine g_region ?_
  refine gy rfl rfl rfl S (y_assign rfl S rfl) fun a S => ?_
  refine gl_nil ?_
  refine n_then ?_
  refine g_block ?_
  have SU := ((((((((S.nil.cons S 1 rfl).cons S 0 rfl).cons S 4 rfl).cons S 5 rfl).cons S 6 rfl).cons S 11 rfl).cons S 12 rfl).cons S 13 rfl).cons S 14 rfl
  refine loopW (X := Nat) SU (fun k => [(7, .int .i64 (k : Int))]) (fun k w => k ≤ next.length ∧ ∃ ps : List (Value × List Int), ps.map (·.2) = rowsAt old next i (fits old[i] (next.take k) 0) ∧ ps.length = old.length ∧ HSat No w0 [OSl 25 (.slice (some ⟨b10, 0, none⟩) old.length old.length) 1 encRow ps, RowsA 3 1 encI ps, Sl v2 9 Pl.enc next, Sl v1 9 Pl.enc old] w) (fun k => next.length - k) 0 (S.nil.cons S 7 rfl) (⟨by omega, ps, hps0, hpl, H⟩) (fun k a w S hW => ?_)
  simp only [List.cons_append, List.nil_append] at S
  obtain ⟨hk, ps, hps, hpl, H⟩ := hW
  refine g_seq ?_
  refine g_seq ?_
  refine g_region ?_
  refine gy rfl rfl rfl S (y_move rfl S rfl) fun a S => ?_
  refine gy rfl rfl rfl S (y_move rfl S rfl) fun a S => ?_
  refine gy rfl rfl rfl S (y_lens rfl Try.underlying22 S H rfl) fun a S => ?_
  refine gy rfl rfl rfl S (y_bin rfl S rfl rfl rfl) fun a S => ?_
  refine gl_nil ?_
  refine n_then ?_
  refine c_if S rfl (fun h2 => ?_) (fun h2 => ?_)
  ·have h2p := h2; try simp only [DL] at h2p
   refine g_skip ?_
   refine n_then ?_
   refine g_seq ?_
   refine g_block ?_
   refine g_seq ?_
   refine region_st (loud := []) (tails := []) (free := []) [0, 1, 2, 3, 4, 5, 6, 7, 8] [] Fmo (by kernel_rfl) (by kernel_rfl) rfl H ?_
   refine m_w rfl rfl (wn rfl) rfl rfl S (fun w H => y_move rfl S rfl) fun a S => ?_
   refine m_w rfl rfl (wn rfl) rfl rfl S (fun w H => y_move rfl S rfl) fun a S => ?_
   refine m_w rfl rfl (wn rfl) rfl rfl S (fun w H => y_iaddrn rfl Try.underlying22 Fsiz56 S H rfl rfl (by first | assumption | omega | (simp only [List.length_append, List.length_take, List.length_drop, List.length_replicate, List.length_set, List.length_map, List.length_cons, List.length_nil]; omega))) fun a S => ?_
   refine m_loadsa _ rfl rfl (wn rfl) rfl rfl S rfl rfl (by exact Fagg56) (by first | assumption | omega | (simp only [List.length_append, List.length_take, List.length_drop, List.length_replicate, List.length_set, List.length_map, List.length_cons, List.length_nil]; omega)) fun a S => ?_
   refine m_w rfl rfl (wn rfl) rfl rfl S (fun w H => y_move rfl S rfl) fun a S => ?_
   refine m_w rfl rfl (wn rfl) rfl rfl S (fun w H => y_move rfl S rfl) fun a S => ?_
   refine m_w rfl rfl (wn rfl) rfl rfl S (fun w H => y_iaddrn rfl Try.underlying22 Fsiz56 S H rfl rfl (by first | assumption | omega | (simp only [List.length_append, List.length_take, List.length_drop, List.length_replicate, List.length_set, List.length_map, List.length_cons, List.length_nil]; omega))) fun a S => ?_
   refine m_loadsa _ rfl rfl (wn rfl) rfl rfl S rfl rfl (by exact Fagg56) (by first | assumption | omega | (simp only [List.length_append, List.length_take, List.length_drop, List.length_replicate, List.length_set, List.length_map, List.length_cons, List.length_nil]; omega)) fun a S => ?_
   refine m_c rfl rfl (wn rfl) rfl rfl S (fun w => co_func rfl Try.call65 S rfl) (fun w H => refAtLeast_spec _ _ _) fun a S => ?_
   refine m_nil (fun w H => ?_)
   refine n_then ?_
   refine c_if S rfl (fun h3 => ?_) (fun h3 => ?_)
   ·have h3p := h3; try simp only [DL] at h3p
    have hrl : ps[i].2 = fits old[i] (next.take k) 0 := by
      have e := rowsAt_get old next i (fits old[i] (next.take k) 0) (by omega)
      rw [← e]; simp only [← hps, List.getElem_map]
    have hfl := fits_len old[i] (next.take k) 0
    have htl : (next.take k).length ≤ k := List.length_take_le _ _
    have hrl2 := congrArg List.length hrl
    have hir : i < ps.length := by omega
    have H := (H.front (RowsA 3 1 encI ps)).rowOut i hir
    refine g_region ?_
    refine gy rfl rfl rfl S (y_move rfl S rfl) fun a S => ?_
    refine gy rfl rfl rfl S (y_move rfl S rfl) fun a S => ?_
    refine gy rfl rfl rfl S (y_move rfl S rfl) fun a S => ?_
    refine gy rfl rfl rfl S (y_move rfl S rfl) fun a S => ?_
    refine gy rfl rfl rfl S (y_iaddrn rfl Try.underlying66 Fsiz25 S H rfl rfl (by first | assumption | omega | (simp only [List.length_append, List.length_take, List.length_drop, List.length_replicate, List.length_set, List.length_map, List.length_cons, List.length_nil]; omega))) fun a S => ?_
    refine gy rfl rfl rfl S (y_loads _ rfl Fsca25 S H rfl (by first | assumption | omega | (simp only [List.length_append, List.length_take, List.length_drop, List.length_replicate, List.length_set, List.length_map, List.length_cons, List.length_nil]; omega)) rfl) fun a S => ?_
    refine gy rfl rfl rfl S (y_move rfl S rfl) fun a S => ?_
    refine wl_of (op_buildSlice (wn rfl) rfl rfl rfl Try.underlying25 Finf3 S H (idx := [0]) rfl rfl rfl (z := [.int .i64 0]) (by kernel_rfl) (cs := [_]) rfl fun b39 a w S H => ?_)
    refine wl_of (op_append ([(k : Int)]) (wn rfl) rfl rfl rfl Try.underlying25 Finf3 rfl rfl S H rfl rfl rfl rfl (by simp) (by simp [encI]) (by simp [encI, Value.oneCell']) (by simp only [List.length_cons, List.length_nil]; omega) (by simp only [List.length_cons, List.length_nil]; omega) fun u40 a w hn40 S H => ?_)
    refine gy rfl rfl rfl S (y_iaddrn rfl Try.underlying66 Fsiz25 S H rfl rfl (by first | assumption | omega | (simp only [List.length_append, List.length_take, List.length_drop, List.length_replicate, List.length_set, List.length_map, List.length_cons, List.length_nil]; omega))) fun a S => ?_
    refine wl_of (op_store1 _ ((u40, ps[i].2 ++ [(k : Int)])) (wn rfl) rfl rfl S H rfl rfl (H.slc _) (H.sl1 _) Fsiz25 (by first | assumption | omega | (simp only [List.length_append, List.length_take, List.length_drop, List.length_replicate, List.length_set, List.length_map, List.length_cons, List.length_nil]; omega)) (by exact rfl) fun a w S H => ?_)
    refine gl_nil ?_
    refine n_block ?_
    refine n_then ?_
    refine g_region ?_
    refine gy rfl rfl rfl S (y_move rfl S rfl) fun a S => ?_
    refine gy rfl rfl rfl S (y_add rfl S rfl rfl (by omega)) fun a S => ?_
    refine gy rfl rfl rfl S (y_assign rfl S rfl) fun a S => ?_
    refine gl_nil ?_
    refine n_then ?_
    first
    | exact ⟨k + 1, S.nil.cons S 7 rfl, ((((((((S.nil.cons S 1 rfl).cons S 0 rfl).cons S 4 rfl).cons S 5 rfl).cons S 6 rfl).cons S 11 rfl).cons S 12 rfl).cons S 13 rfl).cons S 14 rfl, ⟨by omega, ps, by rw [hps, fits_step _ _ _ (by omega), if_neg (by rw [h3]; simp), List.append_nil], hpl, H⟩, by omega⟩
    | exact ⟨k + 1, S.nil.cons S 7 rfl, ((((((((S.nil.cons S 1 rfl).cons S 0 rfl).cons S 4 rfl).cons S 5 rfl).cons S 6 rfl).cons S 11 rfl).cons S 12 rfl).cons S 13 rfl).cons S 14 rfl, ⟨by omega, ps.set i (u40, ps[i].2 ++ [(k : Int)]), by rw [List.map_set, hps, hrl, rowsAt_set _ _ _ _ _ (by omega), fits_step _ _ _ (by omega), if_pos h3], by simp [hpl], ((H.front2 (OSl 3 u40 1 encI (ps[i].2 ++ [(k : Int)])) (RowsA 3 1 encI (ps.eraseIdx i))).rowIn hir).take [OSl 25 (.slice (some ⟨b10, 0, none⟩) old.length old.length) 1 encRow (ps.set i (u40, ps[i].2 ++ [(k : Int)])), RowsA 3 1 encI (ps.set i (u40, ps[i].2 ++ [(k : Int)])), Sl v2 9 Pl.enc next, Sl v1 9 Pl.enc old]⟩, by omega⟩
   ·have h3p := h3; try simp only [DL] at h3p
    refine g_skip ?_
    refine n_block ?_
    refine n_then ?_
    refine g_region ?_
    refine gy rfl rfl rfl S (y_move rfl S rfl) fun a S => ?_
    refine gy rfl rfl rfl S (y_add rfl S rfl rfl (by omega)) fun a S => ?_
    refine gy rfl rfl rfl S (y_assign rfl S rfl) fun a S => ?_
    refine gl_nil ?_
    refine n_then ?_
    first
    | exact ⟨k + 1, S.nil.cons S 7 rfl, ((((((((S.nil.cons S 1 rfl).cons S 0 rfl).cons S 4 rfl).cons S 5 rfl).cons S 6 rfl).cons S 11 rfl).cons S 12 rfl).cons S 13 rfl).cons S 14 rfl, ⟨by omega, ps, by rw [hps, fits_step _ _ _ (by omega), if_neg (by rw [h3]; simp), List.append_nil], hpl, H⟩, by omega⟩
    | exact ⟨k + 1, S.nil.cons S 7 rfl, ((((((((S.nil.cons S 1 rfl).cons S 0 rfl).cons S 4 rfl).cons S 5 rfl).cons S 6 rfl).cons S 11 rfl).cons S 12 rfl).cons S 13 rfl).cons S 14 rfl, ⟨by omega, ps.set i (u40, ps[i].2 ++ [(k : Int)]), by rw [List.map_set, hps, hrl, rowsAt_set _ _ _ _ _ (by omega), fits_step _ _ _ (by omega), if_pos h3], by simp [hpl], ((H.front2 (OSl 3 u40 1 encI (ps[i].2 ++ [(k : Int)])) (RowsA 3 1 encI (ps.eraseIdx i))).rowIn hir).take [OSl 25 (.slice (some ⟨b10, 0, none⟩) old.length old.length) 1 encRow (ps.set i (u40, ps[i].2 ++ [(k : Int)])), RowsA 3 1 encI (ps.set i (u40, ps[i].2 ++ [(k : Int)])), Sl v2 9 Pl.enc next, Sl v1 9 Pl.enc old]⟩, by omega⟩
  ·have h2p := h2; try simp only [DL] at h2p
   obtain rfl : k = next.length := by omega
   rw [List.take_length] at hps
   refine g_exit ?_
   refine x_then (x_then (x_eq ?_))
   refine n_block ?_
   refine n_then ?_
   refine g_region ?_
   refine gy rfl rfl rfl S (y_move rfl S rfl) fun a S => ?_
   refine gy rfl rfl rfl S (y_add rfl S rfl rfl (by omega)) fun a S => ?_
   refine gy rfl rfl rfl S (y_assign rfl S rfl) fun a S => ?_
   refine gl_nil ?_
   refine n_then ?_
   exact ⟨i + 1, S.nil.cons S 6 rfl, (((S.nil.cons S 1 rfl).cons S 0 rfl).cons S 4 rfl).cons S 5 rfl, ⟨by omega, ps, fun h => by rw [hps, rowsAt_next _ _ _ h], fun h => by rw [hps, rowsAt_end _ _ _ h], hpl, H⟩, by omega⟩
 ·have h1p := h1; try simp only [DL] at h1p
  obtain rfl : i = old.length := by omega
  have hps := hp2 rfl
  refine g_exit ?_
  refine x_then (x_then (x_eq ?_))
  refine n_then ?_
  have S := (S.nil.cons S 4 rfl).cons S 5 rfl
  refine g_seq ?_
  refine g_region ?_
  refine gy rfl rfl rfl S (y_move rfl S rfl) fun a S => ?_
  refine gy rfl rfl rfl S (y_assign rfl S rfl) fun a S => ?_
  refine gl_nil ?_
  refine n_then ?_
  refine g_ret ?_
  refine ret1 rfl S rfl ?_
  exact ⟨ps, hps, H.take [OSl 25 (.slice (some ⟨b10, 0, none⟩) old.length old.length) 1 encRow ps, RowsA 3 1 encI ps]⟩

end Go.Proofs.Ytenaoaegichecaa
