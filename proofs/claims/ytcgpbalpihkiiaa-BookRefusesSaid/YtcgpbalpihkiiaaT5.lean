/- The walks. No condition. -/
import Derived.Test.YtcgpbalpihkiiaaChecked
import Derived.Test.YtcgpbalpihkiiaaGwIns
import Derived.Test.YtcgpbalpihkiiaaFacts
import Derived.Test.YtcgpbalpihkiiaaPlain
import Derived.Test.YtcgpbalpihkiiaaPlainD
import Derived.Test.YtcgpbalpihkiiaaW4
import Derived.Test.YtcgpbalpihkiiaaW9
namespace Go.Proofs.Ytcgpbalpihkiiaa
open Go Go.Gw
set_option linter.unusedVariables false
set_option linter.unusedSimpArgs false
set_option maxHeartbeats 2000000 in
/-- foyer/foyerlaw33.BookRefuses -/
theorem law5 (v : Value) (ps : List Opn) (o : Ord) (w0 : World) (hv : IsSl w0 v 6 Opn.enc ps) (hok : ∀ p ∈ ps, p.ok) (ho : o.ok) :
    Ret Try.prog 7 #[v, .agg (Ord.enc o).toArray] w0 (fun u w => u = .bool true ∧ Ext w0 w) := by
 refine ret_of_wp (nt := 133) Try.func7 rfl rfl rfl (fl := [(0, v), (1, .agg (Ord.enc o).toArray)]) rfl (fun a S => ?_)
 have H := HSat.start w0
 have H := H.ro0 (Sl v 6 Opn.enc ps) rfl (hv)
 have hlv := hv.len
 refine gsr ?_
 refine wl_of (op_boxa (wn rfl) rfl rfl rfl S H rfl fun b3 a w S H => ?_)
 refine ga S fun a S => ?_
 refine gnt ?_
 refine gsr ?_
 refine wl_of (op_call (wn rfl) rfl rfl S (co_func rfl Try.call8 S rfl) (head_spec _) fun v w hc a S => ?_)
 obtain ⟨rfl, he⟩ := hc
 have H := H.ext he
 refine ga S fun a S => ?_
 refine gnt ?_
 refine g_seq ?_
 refine gsr ?_
 refine gm S fun a S => ?_
 refine gy rfl rfl rfl S (y_lens rfl Try.underlying22 S H rfl) fun a S => ?_
 refine gy rfl rfl rfl S (y_bin rfl S rfl rfl rfl) fun a S => ?_
 refine gnt ?_
 have S := ((((S.nil.cons S 0 rfl).cons S 3 rfl).cons S 4 rfl).cons S 5 rfl).cons S 21 rfl
 refine c_if S rfl (fun h1 => ?_) (fun h1 => ?_)
 ·have h1p := h1; try simp only [DL] at h1p
  refine gsr ?_
  refine gm S fun a S => ?_
  refine ga S fun a S => ?_
  refine gnt ?_
  refine g_ret ?_
  refine r_then (ret1 rfl S rfl ?_)
  exact ⟨rfl, H.toExt⟩
 ·have h1p := h1; try simp only [DL] at h1p
  refine g_skip ?_
  refine n_then ?_
  refine gsr ?_
  refine wl_of (op_call (wn rfl) rfl rfl S (co_func rfl Try.call9 S rfl) (new_at _) fun v w hc a S => ?_)
  obtain ⟨b, mb, rfl, H1⟩ := hc
  obtain ⟨vv0, hvv0⟩ : ∃ vv0, vv0 = ((.slice none 0 0, .slice none 0 0) : Value × Value) := ⟨_, rfl⟩
  rw [← hvv0] at H1
  have H := H.call1 H1 rfl
  refine ga S fun a S => ?_
  refine gnt ?_
  refine gsr ?_
  refine ga S fun a S => ?_
  refine gnt ?_
  refine g_seq ?_
  refine gsr ?_
  refine ga S fun a S => ?_
  refine gnt ?_
  refine g_block ?_
  have SU := ((((S.nil.cons S 0 rfl).cons S 3 rfl).cons S 4 rfl).cons S 5 rfl).cons S 6 rfl
  refine loopW (X := Nat × (Value × Value)) SU (fun x => [(7, .bool (decide (o.id ∈ (runs Bk.z (ps.take x.1)).ids))), (8, .int .i64 (x.1 : Int))]) (fun x w => x.1 ≤ ps.length ∧ HSat No w0 [BookA b mb (runs Bk.z (ps.take x.1)) x.2, Cel b3 29 (Ord.enc o), Sl v 6 Opn.enc ps] w) (fun x => ps.length - x.1) (0, vv0) ((S.nil.cons S 8 rfl).cons S 7 rfl) (⟨Nat.zero_le _, H.take [BookA b mb (Bk.z) vv0, Cel b3 29 (Ord.enc o), Sl v 6 Opn.enc ps]⟩) (fun x a w S hW => ?_)
  simp only [List.cons_append, List.nil_append] at S
  clear H
  obtain ⟨k, vv⟩ := x
  obtain ⟨hk, H⟩ := hW
  dsimp only at S H hk
  refine g_seq ?_
  refine gsr ?_
  refine gm S fun a S => ?_
  refine gm S fun a S => ?_
  refine gy rfl rfl rfl S (y_lens rfl Try.underlying22 S H rfl) fun a S => ?_
  refine gy rfl rfl rfl S (y_bin rfl S rfl rfl rfl) fun a S => ?_
  refine gnt ?_
  refine c_if S rfl (fun h2 => ?_) (fun h2 => ?_)
  ·have h2p := h2; try simp only [DL] at h2p
   have hkl : k < ps.length := by omega
   have hrt := runs_take (s := Bk.z) hkl
   have hik := (inv_runs inv_z (ps.take k)).mono (N' := 500) (by rw [List.length_take]; omega)
   refine g_skip ?_
   refine n_then ?_
   have S := ((((((S.nil.cons S 0 rfl).cons S 3 rfl).cons S 4 rfl).cons S 5 rfl).cons S 6 rfl).cons S 8 rfl).cons S 7 rfl
   refine g_seq ?_
   refine g_block ?_
   refine g_seq ?_
   refine gsr ?_
   refine gm S fun a S => ?_
   refine gm S fun a S => ?_
   refine gy rfl rfl rfl S (y_iaddrn rfl Try.underlying22 Fsiz31 S H rfl rfl (by first | assumption | omega | (simp only [LL]; omega))) fun a S => ?_
   refine gy rfl rfl rfl S (y_faddr rfl Ffo31_0 S rfl) fun a S => ?_
   refine gy rfl rfl rfl S (y_loadsf _ rfl Fsca4 S H rfl (by first | assumption | omega | (simp only [LL]; omega)) rfl) fun a S => ?_
   refine gnt ?_
   have S := (((((((S.nil.cons S 0 rfl).cons S 3 rfl).cons S 4 rfl).cons S 5 rfl).cons S 6 rfl).cons S 8 rfl).cons S 7 rfl).cons S 34 rfl
   refine c_if S rfl (fun h3 => ?_) (fun h3 => ?_)
   ·have h3p := h3; try simp only [DL] at h3p
    have hst : stepB (runs Bk.z (ps.take k)) ps[k] = cancelS (runs Bk.z (ps.take k)) ps[k].ord.id ps[k].ord.person := by rw [stepB, if_pos h3]
    refine g_seq ?_
    refine region_st (loud := [13]) (tails := [13]) (free := []) [0, 1, 2, 3, 4, 5, 6, 7, 8, 9, 10, 11, 12, 13] [] Fmo (by kernel_rfl) (by kernel_rfl) rfl H ?_
    refine m_w rfl rfl (wn rfl) rfl rfl S (fun w H => y_move rfl S rfl) fun a S => ?_
    refine m_w rfl rfl (wn rfl) rfl rfl S (fun w H => y_move rfl S rfl) fun a S => ?_
    refine m_w rfl rfl (wn rfl) rfl rfl S (fun w H => y_move rfl S rfl) fun a S => ?_
    refine m_w rfl rfl (wn rfl) rfl rfl S (fun w H => y_iaddrn rfl Try.underlying22 Fsiz31 S H rfl rfl (by first | assumption | omega | (simp only [LL]; omega))) fun a S => ?_
    refine m_w rfl rfl (wn rfl) rfl rfl S (fun w H => y_faddr rfl Ffo31_1 S rfl) fun a S => ?_
    refine m_w rfl rfl (wn rfl) rfl rfl S (fun w H => y_faddr rfl Ffo29_0 S rfl) fun a S => ?_
    refine m_loadsff _ rfl rfl (wn rfl) rfl rfl S rfl Fsca3 rfl (by first | assumption | omega | (simp only [LL]; omega)) rfl fun a S => ?_
    refine m_w rfl rfl (wn rfl) rfl rfl S (fun w H => y_move rfl S rfl) fun a S => ?_
    refine m_w rfl rfl (wn rfl) rfl rfl S (fun w H => y_move rfl S rfl) fun a S => ?_
    refine m_w rfl rfl (wn rfl) rfl rfl S (fun w H => y_iaddrn rfl Try.underlying22 Fsiz31 S H rfl rfl (by first | assumption | omega | (simp only [LL]; omega))) fun a S => ?_
    refine m_w rfl rfl (wn rfl) rfl rfl S (fun w H => y_faddr rfl Ffo31_1 S rfl) fun a S => ?_
    refine m_w rfl rfl (wn rfl) rfl rfl S (fun w H => y_faddr rfl Ffo29_3 S rfl) fun a S => ?_
    refine m_loadsff _ rfl rfl (wn rfl) rfl rfl S rfl Fsca9 rfl (by first | assumption | omega | (simp only [LL]; omega)) rfl fun a S => ?_
    refine m_l rfl rfl (fun w H => op_call (wn rfl) rfl rfl S (co_func rfl Try.call11 S rfl) (Ret.atE (x := BookA b mb (runs Bk.z (ps.take k)) vv) H (fun H => cancel_at ps[k].ord.id ps[k].ord.person hik (by omega) H)) fun v w hc a S => ?_)
    obtain ⟨rfl, z1, H⟩ := hc
    
    refine m_tail H rfl ?_
    refine m_nil (fun w H => ?_)
    refine n_then ?_
    have S := ((((((S.nil.cons S 0 rfl).cons S 3 rfl).cons S 4 rfl).cons S 5 rfl).cons S 6 rfl).cons S 8 rfl).cons S 7 rfl
    refine g_exit ?_
    refine x_then (x_eq ?_)
    refine n_then ?_
    refine g_region ?_
    refine gm S fun a S => ?_
    refine gy rfl rfl rfl S (y_add rfl S rfl rfl (by omega)) fun a S => ?_
    refine ga S fun a S => ?_
    refine gnt ?_
    rw [← hst] at H
    first
    | exact ⟨(k + 1, z1), (S.nil.cons S 8 rfl).cons S 7 (by dsimp only; rw [hrt, hst, can_ids]; rfl), ((((S.nil.cons S 0 rfl).cons S 3 rfl).cons S 4 rfl).cons S 5 rfl).cons S 6 rfl, ⟨by dsimp only; omega, by dsimp only; rw [hrt]; exact H.take [BookA b mb (stepB (runs Bk.z (ps.take k)) ps[k]) z1, Cel b3 29 (Ord.enc o), Sl v 6 Opn.enc ps]⟩, by dsimp only; omega⟩
    | exact ⟨(k + 1, z1), (S.nil.cons S 8 rfl).cons S 7 (by dsimp only; rw [hrt, hst, ← used_place]; rfl), ((((S.nil.cons S 0 rfl).cons S 3 rfl).cons S 4 rfl).cons S 5 rfl).cons S 6 rfl, ⟨by dsimp only; omega, by dsimp only; rw [hrt]; exact H.take [BookA b mb (stepB (runs Bk.z (ps.take k)) ps[k]) z1, Cel b3 29 (Ord.enc o), Sl v 6 Opn.enc ps]⟩, by dsimp only; omega⟩
   ·have h3p := h3; try simp only [DL] at h3p
    have hst : stepB (runs Bk.z (ps.take k)) ps[k] = placeS (runs Bk.z (ps.take k)) ps[k].ord := by rw [stepB, if_neg (by rw [show ps[k].cancel = false from h3]; simp)]
    refine g_skip ?_
    refine n_then ?_
    refine gsr ?_
    refine gm S fun a S => ?_
    refine gm S fun a S => ?_
    refine gm S fun a S => ?_
    refine gy rfl rfl rfl S (y_iaddrn rfl Try.underlying22 Fsiz31 S H rfl rfl (by first | assumption | omega | (simp only [LL]; omega))) fun a S => ?_
    refine gy rfl rfl rfl S (y_faddr rfl Ffo31_1 S rfl) fun a S => ?_
    refine gy rfl rfl rfl S (y_loadsfa v rfl S H rfl (vs := Ord.enc ps[k].ord) (by exact Fagg29) (by omega) rfl) fun a S => ?_
    refine wl_of (op_call (wn rfl) rfl rfl S (co_func rfl Try.call13 S rfl) (Ret.atE (x := BookA b mb (runs Bk.z (ps.take k)) vv) H (fun H => place_at ps[k].ord hik (by omega) (hok _ (List.getElem_mem hkl)) H)) fun v w hc a S => ?_)
    obtain ⟨rfl, z1, H⟩ := hc
    
    refine gm S fun a S => ?_
    refine gy rfl rfl rfl S (y_extract rfl S rfl rfl) fun a S => ?_
    refine gy rfl rfl rfl S (y_extract rfl S rfl rfl) fun a S => ?_
    refine gy rfl rfl rfl S (y_extract rfl S rfl rfl) fun a S => ?_
    refine wl_of (op_alloc (wn rfl) rfl rfl rfl S H Fzer35 fun b9 a w S H => ?_)
    refine wl_of (op_storea (wn rfl) rfl rfl S H rfl rfl rfl Fsiz35 rfl (cs' := [_, _, _]) rfl fun a w S H => ?_)
    refine ga S fun a S => ?_
    refine ga S fun a S => ?_
    refine gnt ?_
    have S := (((((((S.nil.cons S 0 rfl).cons S 3 rfl).cons S 4 rfl).cons S 5 rfl).cons S 6 rfl).cons S 8 rfl).cons S 7 rfl).cons S 11 rfl
    refine region_st (loud := []) (tails := []) (free := []) [0, 1, 2, 3, 4, 5, 6, 7, 8, 9, 10, 11, 12, 13, 14, 15, 16] [] Fmo (by kernel_rfl) (by kernel_rfl) rfl H ?_
    refine m_w rfl rfl (wn rfl) rfl rfl S (fun w H => y_move rfl S rfl) fun a S => ?_
    refine m_w rfl rfl (wn rfl) rfl rfl S (fun w H => y_move rfl S rfl) fun a S => ?_
    refine' m_orq [2, 3, 4, 5, 6, 7, 8, 9, 10, 11, 12, 13, 14] 61 S rfl rfl rfl rfl rfl rfl rfl rfl rfl (fun _ S => (wn rfl)) (fun h4 kk => ?yh4) (fun a S => ?_)
    case yh4 =>
     have h4p := h4; try simp only [DL] at h4p
     refine m_w rfl rfl (wg' 61 rfl rfl S rfl h4 rfl) rfl rfl S (fun w H => y_move rfl S rfl) fun a S => ?_
     refine m_w rfl rfl (wg' 61 rfl rfl S rfl h4 rfl) rfl rfl S (fun w H => y_bin rfl S rfl rfl rfl) fun a S => ?_
     refine m_w rfl rfl (wg' 61 rfl rfl S rfl h4 rfl) rfl rfl S (fun w H => y_move rfl S rfl) fun a S => ?_
     refine' m_andq [5, 6, 7, 8, 9, 10, 11, 12, 13] 64 S rfl rfl rfl rfl rfl rfl rfl rfl rfl (fun _ S => (wg' 61 rfl rfl S rfl h4 rfl)) (fun h5 kk => ?yh5) (fun a S => ?_)
     case yh5 =>
      have h5p := h5; try simp only [DL] at h5p
      refine m_w rfl rfl (wg' 64 rfl rfl S rfl h5 rfl) rfl rfl S (fun w H => y_move rfl S rfl) fun a S => ?_
      refine m_w rfl rfl (wg' 64 rfl rfl S rfl h5 rfl) rfl rfl S (fun w H => y_move rfl S rfl) fun a S => ?_
      refine m_w rfl rfl (wg' 64 rfl rfl S rfl h5 rfl) rfl rfl S (fun w H => y_iaddrn rfl Try.underlying22 Fsiz31 S H rfl rfl (by first | assumption | omega | (simp only [LL]; omega))) fun a S => ?_
      refine m_w rfl rfl (wg' 64 rfl rfl S rfl h5 rfl) rfl rfl S (fun w H => y_faddr rfl Ffo31_1 S rfl) fun a S => ?_
      refine m_w rfl rfl (wg' 64 rfl rfl S rfl h5 rfl) rfl rfl S (fun w H => y_faddr rfl Ffo29_0 S rfl) fun a S => ?_
      refine m_loadsff _ rfl rfl (wg' 64 rfl rfl S rfl h5 rfl) rfl rfl S rfl Fsca3 rfl (by first | assumption | omega | (simp only [LL]; omega)) rfl fun a S => ?_
      refine m_w rfl rfl (wg' 64 rfl rfl S rfl h5 rfl) rfl rfl S (fun w H => y_faddrb rfl Ffo29_0 S rfl) fun a S => ?_
      refine m_w rfl rfl (wg' 64 rfl rfl S rfl h5 rfl) rfl rfl S (fun w H => y_load rfl Fsca3 S H rfl rfl) fun a S => ?_
      refine m_w rfl rfl (wg' 64 rfl rfl S rfl h5 rfl) rfl rfl S (fun w H => y_bin rfl S rfl rfl rfl) fun a S => ?_
      refine m_w rfl rfl (wg' 61 rfl rfl S rfl h4 rfl) rfl rfl S (fun w H => y_and' rfl h5 S rfl rfl) fun a S => ?_
      exact kk _ (S.join 10 74 rfl rfl)
     refine m_w rfl rfl (wn rfl) rfl rfl S (fun w H => y_or' rfl h4 S rfl rfl) fun a S => ?_
     exact kk _ (S.join 5 75 rfl rfl)
    refine m_w rfl rfl (wn rfl) rfl rfl S (fun w H => y_assign rfl S rfl) fun a S => ?_
    refine m_nil (fun w H => ?_)
    refine n_block ?_
    refine n_then ?_
    have S := ((((((S.nil.cons S 0 rfl).cons S 3 rfl).cons S 4 rfl).cons S 5 rfl).cons S 6 rfl).cons S 8 rfl).cons S 7 rfl
    refine g_region ?_
    refine gm S fun a S => ?_
    refine gy rfl rfl rfl S (y_add rfl S rfl rfl (by omega)) fun a S => ?_
    refine ga S fun a S => ?_
    refine gnt ?_
    rw [← hst] at H
    first
    | exact ⟨(k + 1, z1), (S.nil.cons S 8 rfl).cons S 7 (by dsimp only; rw [hrt, hst, can_ids]; rfl), ((((S.nil.cons S 0 rfl).cons S 3 rfl).cons S 4 rfl).cons S 5 rfl).cons S 6 rfl, ⟨by dsimp only; omega, by dsimp only; rw [hrt]; exact H.take [BookA b mb (stepB (runs Bk.z (ps.take k)) ps[k]) z1, Cel b3 29 (Ord.enc o), Sl v 6 Opn.enc ps]⟩, by dsimp only; omega⟩
    | exact ⟨(k + 1, z1), (S.nil.cons S 8 rfl).cons S 7 (by dsimp only; rw [hrt, hst, ← used_place]; rfl), ((((S.nil.cons S 0 rfl).cons S 3 rfl).cons S 4 rfl).cons S 5 rfl).cons S 6 rfl, ⟨by dsimp only; omega, by dsimp only; rw [hrt]; exact H.take [BookA b mb (stepB (runs Bk.z (ps.take k)) ps[k]) z1, Cel b3 29 (Ord.enc o), Sl v 6 Opn.enc ps]⟩, by dsimp only; omega⟩
  ·have h2p := h2; try simp only [DL] at h2p
   obtain rfl : k = ps.length := by omega
   rw [List.take_length] at H S
   refine g_exit ?_
   refine x_then (x_then (x_eq ?_))
   refine n_then ?_
   have S := ((((S.nil.cons S 3 rfl).cons S 4 rfl).cons S 5 rfl).cons S 6 rfl).cons S 7 rfl
   refine g_seq ?_
   have hI := (inv_runs inv_z ps).mono (N' := 500) (by omega)
   obtain ⟨s, hs⟩ : ∃ s, s = runs Bk.z ps := ⟨_, rfl⟩
   rw [← hs] at H hI
   have hil := hI.len
   ·skip
    refine g_region ?_
    refine gm S fun a S => ?_
    refine wl_of (op_call (wn rfl) rfl rfl S (co_func rfl Try.call16 S rfl) (orders_at hI (by omega) (H.front (BookA b mb (s) vv))) fun u77 w hc a S => ?_)
    have H1 := hc
    have H := H.call1 H1 rfl
    have hle : s.all.length ≤ 500 := by simp only [Bk.all, List.length_append]; omega
    rw [show s.offers ++ s.bids = s.all from rfl] at H
    refine ga S fun a S => ?_
    refine gnt ?_
    refine g_seq ?_
    refine gsr ?_
    refine ga S fun a S => ?_
    refine gnt ?_
    refine g_block ?_
    have SU := ((((S.nil.cons S 3 rfl).cons S 4 rfl).cons S 5 rfl).cons S 6 rfl).cons S 12 rfl
    refine loop_k (X := Nat) SU (fun j => [(7, .bool (decide (o.id ∈ s.ids) || (s.all.take j).any (serR o))), (13, .int .i64 (j : Int))]) (fun j => j ≤ s.all.length) (fun j => s.all.length - j) 0 ((S.nil.cons S 13 rfl).cons S 7 (by rw [List.take_zero, List.any_nil, Bool.or_false, hs]; rfl)) H (Nat.zero_le _) (fun j a w S H hi => ?_)
    simp only [List.cons_append, List.nil_append] at S hi
    refine g_seq ?_
    refine gsr ?_
    refine gm S fun a S => ?_
    refine gm S fun a S => ?_
    refine gy rfl rfl rfl S (y_lens rfl Try.underlying39 S H rfl) fun a S => ?_
    refine gy rfl rfl rfl S (y_bin rfl S rfl rfl rfl) fun a S => ?_
    refine gnt ?_
    refine c_if S rfl (fun h6 => ?_) (fun h6 => ?_)
    ·have h6p := h6; try simp only [DL] at h6p
     have hjl : j < s.all.length := by omega
     have hany := any_take (p := serR o) hjl
     refine g_skip ?_
     refine n_then ?_
     have S := ((((((S.nil.cons S 3 rfl).cons S 4 rfl).cons S 5 rfl).cons S 6 rfl).cons S 12 rfl).cons S 13 rfl).cons S 7 rfl
     refine g_seq ?_
     refine g_block ?_
     refine region_st (loud := []) (tails := []) (free := []) [0, 1, 2, 3, 4, 5, 6, 7, 8, 9, 10, 11, 12, 13, 14, 15, 16, 17, 18, 19, 20, 21, 22] [] Fmo (by kernel_rfl) (by kernel_rfl) rfl H ?_
     refine m_w rfl rfl (wn rfl) rfl rfl S (fun w H => y_move rfl S rfl) fun a S => ?_
     refine m_w rfl rfl (wn rfl) rfl rfl S (fun w H => y_move rfl S rfl) fun a S => ?_
     refine' m_orq [2, 3, 4, 5, 6, 7, 8, 9, 10, 11, 12, 13, 14, 15, 16, 17, 18, 19, 20] 85 S rfl rfl rfl rfl rfl rfl rfl rfl rfl (fun _ S => (wn rfl)) (fun h7 kk => ?yh7) (fun a S => ?_)
     case yh7 =>
      have h7p := h7; try simp only [DL] at h7p
      refine m_w rfl rfl (wg' 85 rfl rfl S rfl h7 rfl) rfl rfl S (fun w H => y_faddrb rfl Ffo29_2 S rfl) fun a S => ?_
      refine m_w rfl rfl (wg' 85 rfl rfl S rfl h7 rfl) rfl rfl S (fun w H => y_load rfl Fsca4 S H rfl rfl) fun a S => ?_
      refine m_w rfl rfl (wg' 85 rfl rfl S rfl h7 rfl) rfl rfl S (fun w H => y_move rfl S rfl) fun a S => ?_
      refine' m_andq [5, 6, 7, 8, 9] 88 S rfl rfl rfl rfl rfl rfl rfl rfl rfl (fun _ S => (wg' 85 rfl rfl S rfl h7 rfl)) (fun h8 kk => ?yh8) (fun a S => ?_)
      case yh8 =>
       have h8p := h8; try simp only [DL] at h8p
       refine m_w rfl rfl (wg' 88 rfl rfl S rfl h8 rfl) rfl rfl S (fun w H => y_move rfl S rfl) fun a S => ?_
       refine m_w rfl rfl (wg' 88 rfl rfl S rfl h8 rfl) rfl rfl S (fun w H => y_move rfl S rfl) fun a S => ?_
       refine m_w rfl rfl (wg' 88 rfl rfl S rfl h8 rfl) rfl rfl S (fun w H => y_iaddrn rfl Try.underlying39 Fsiz29 S H rfl rfl (by first | assumption | omega | (simp only [LL]; omega))) fun a S => ?_
       refine m_w rfl rfl (wg' 88 rfl rfl S rfl h8 rfl) rfl rfl S (fun w H => y_faddr rfl Ffo29_2 S rfl) fun a S => ?_
       refine m_loadsf _ rfl rfl (wg' 88 rfl rfl S rfl h8 rfl) rfl rfl S rfl Fsca4 rfl (by first | assumption | omega | (simp only [LL]; omega)) rfl fun a S => ?_
       refine m_w rfl rfl (wg' 85 rfl rfl S rfl h7 rfl) rfl rfl S (fun w H => y_and' rfl h8 S rfl rfl) fun a S => ?_
       exact kk _ (S.join 6 94 rfl rfl)
      refine m_w rfl rfl (wg' 85 rfl rfl S rfl h7 rfl) rfl rfl S (fun w H => y_move rfl S rfl) fun a S => ?_
      refine' m_andq [12, 13, 14, 15, 16, 17, 18, 19] 95 S rfl rfl rfl rfl rfl rfl rfl rfl rfl (fun _ S => (wg' 85 rfl rfl S rfl h7 rfl)) (fun h9 kk => ?yh9) (fun a S => ?_)
      case yh9 =>
       have h9p := h9; try simp only [DL] at h9p
       refine m_w rfl rfl (wg' 95 rfl rfl S rfl h9 rfl) rfl rfl S (fun w H => y_move rfl S rfl) fun a S => ?_
       refine m_w rfl rfl (wg' 95 rfl rfl S rfl h9 rfl) rfl rfl S (fun w H => y_move rfl S rfl) fun a S => ?_
       refine m_w rfl rfl (wg' 95 rfl rfl S rfl h9 rfl) rfl rfl S (fun w H => y_iaddrn rfl Try.underlying39 Fsiz29 S H rfl rfl (by first | assumption | omega | (simp only [LL]; omega))) fun a S => ?_
       refine m_w rfl rfl (wg' 95 rfl rfl S rfl h9 rfl) rfl rfl S (fun w H => y_faddr rfl Ffo29_4 S rfl) fun a S => ?_
       refine m_loadsf _ rfl rfl (wg' 95 rfl rfl S rfl h9 rfl) rfl rfl S rfl Fsca3 rfl (by first | assumption | omega | (simp only [LL]; omega)) rfl fun a S => ?_
       refine m_w rfl rfl (wg' 95 rfl rfl S rfl h9 rfl) rfl rfl S (fun w H => y_faddrb rfl Ffo29_4 S rfl) fun a S => ?_
       refine m_w rfl rfl (wg' 95 rfl rfl S rfl h9 rfl) rfl rfl S (fun w H => y_load rfl Fsca3 S H rfl rfl) fun a S => ?_
       refine m_w rfl rfl (wg' 95 rfl rfl S rfl h9 rfl) rfl rfl S (fun w H => y_bin rfl S rfl rfl rfl) fun a S => ?_
       refine m_w rfl rfl (wg' 85 rfl rfl S rfl h7 rfl) rfl rfl S (fun w H => y_and' rfl h9 S rfl rfl) fun a S => ?_
       exact kk _ (S.join 9 104 rfl rfl)
      refine m_w rfl rfl (wn rfl) rfl rfl S (fun w H => y_or' rfl h7 S rfl rfl) fun a S => ?_
      exact kk _ (S.join 7 105 rfl rfl)
     refine m_w rfl rfl (wn rfl) rfl rfl S (fun w H => y_assign rfl S rfl) fun a S => ?_
     refine m_nil (fun w H => ?_)
     refine n_block ?_
     refine n_then ?_
     have S := ((((((S.nil.cons S 3 rfl).cons S 4 rfl).cons S 5 rfl).cons S 6 rfl).cons S 12 rfl).cons S 13 rfl).cons S 7 rfl
     refine g_region ?_
     refine gm S fun a S => ?_
     refine gy rfl rfl rfl S (y_add rfl S rfl rfl (by omega)) fun a S => ?_
     refine ga S fun a S => ?_
     refine gnt ?_
     exact ⟨j + 1, (S.nil.cons S 13 rfl).cons S 7 (by rw [hany, ← Bool.or_assoc]; rfl), ((((S.nil.cons S 3 rfl).cons S 4 rfl).cons S 5 rfl).cons S 6 rfl).cons S 12 rfl, H.drop 0, by omega, by omega⟩
    ·have h6p := h6; try simp only [DL] at h6p
     obtain rfl : j = s.all.length := by omega
     have htw := tw_all hI o
     rw [List.take_length] at S
     refine g_exit ?_
     refine x_then (x_then (x_eq ?_))
     refine n_then ?_
     have S := (((((S.nil.cons S 3 rfl).cons S 4 rfl).cons S 5 rfl).cons S 6 rfl).cons S 12 rfl).cons S 7 rfl
     refine gsr ?_
     refine gm S fun a S => ?_
     refine gy rfl rfl rfl S (y_load0 rfl S H rfl (by exact Fagg29)) fun a S => ?_
     refine wl_of (op_call (wn rfl) rfl rfl S (co_func rfl Try.call13 S rfl) (Ret.atE (x := BookA b mb (s) vv) H (fun H => place_at o hI (by omega) ho H)) fun v w hc a S => ?_)
     obtain ⟨rfl, z2, H⟩ := hc
     have herr := pl_err hI (by omega) o
     refine gm S fun a S => ?_
     refine gy rfl rfl rfl S (y_extract rfl S rfl rfl) fun a S => ?_
     refine gy rfl rfl rfl S (y_extract rfl S rfl rfl) fun a S => ?_
     refine gy rfl rfl rfl S (y_extract rfl S rfl rfl) fun a S => ?_
     refine wl_of (op_alloc (wn rfl) rfl rfl rfl S H Fzer35 fun b14 a w S H => ?_)
     refine wl_of (op_storea (wn rfl) rfl rfl S H rfl rfl rfl Fsiz35 rfl (cs' := [_, _, _]) rfl fun a w S H => ?_)
     refine ga S fun a S => ?_
     refine ga S fun a S => ?_
     refine gnt ?_
     have S := ((((((S.nil.cons S 3 rfl).cons S 4 rfl).cons S 5 rfl).cons S 6 rfl).cons S 12 rfl).cons S 7 rfl).cons S 16 rfl
     refine gsr ?_
     refine ga S fun a S => ?_
     refine gnt ?_
     refine g_seq ?_
     refine gsr ?_
     refine gm S fun a S => ?_
     refine gnt ?_
     refine' c_ji (s := 17) S rfl (fun h10 => ?th10) (fun h10 => ?fh10) (fun a w S H => ?_)
     case th10 =>
      have h10p := h10; try simp only [DL] at h10p
      refine g_region ?_
      refine ga S fun a S => ?_
      refine gnt ?_
      exact ⟨S.nil.cons S 17 rfl, (((((S.nil.cons S 3 rfl).cons S 4 rfl).cons S 5 rfl).cons S 6 rfl).cons S 12 rfl).cons S 16 rfl, H⟩
     case fh10 =>
      have h10p := h10; try simp only [DL] at h10p
      refine g_skip ?_
      refine n_then ?_
      exact ⟨S.nil.cons S 17 rfl, (((((S.nil.cons S 3 rfl).cons S 4 rfl).cons S 5 rfl).cons S 6 rfl).cons S 12 rfl).cons S 16 rfl, H⟩
     refine g_seq ?_
     refine gsr ?_
     refine gy rfl rfl rfl S (y_load0 rfl S H rfl (by exact Fagg29)) fun a S => ?_
     refine wl_of (op_call (wn rfl) rfl rfl S (co_func rfl Try.call21 S rfl) (rvalid_spec o _ ho) fun v w hc a S => ?_)
     obtain ⟨rfl, he⟩ := hc
     have H := H.ext he
     refine gy rfl rfl rfl S (y_not rfl S rfl) fun a S => ?_
     refine gnt ?_
     refine' c_ji (s := 17) S rfl (fun h11 => ?th11) (fun h11 => ?fh11) (fun a w S H => ?_)
     case th11 =>
      have h11p := h11; try simp only [DL] at h11p
      refine g_region ?_
      refine ga S fun a S => ?_
      refine gnt ?_
      exact ⟨S.nil.cons S 17 rfl, ((((S.nil.cons S 4 rfl).cons S 5 rfl).cons S 6 rfl).cons S 12 rfl).cons S 16 rfl, H⟩
     case fh11 =>
      have h11p := h11; try simp only [DL] at h11p
      refine g_skip ?_
      refine n_then ?_
      exact ⟨S.nil.cons S 17 rfl, ((((S.nil.cons S 4 rfl).cons S 5 rfl).cons S 6 rfl).cons S 12 rfl).cons S 16 rfl, H⟩
     refine gsr ?_
     refine gm S fun a S => ?_
     refine gm S fun a S => ?_
     refine gz 118 rfl S rfl rfl rfl rfl rfl rfl (y_move rfl S rfl) fun a S => ?_
     refine gz 118 rfl S rfl rfl rfl rfl rfl rfl (y_move rfl S rfl) fun a S => ?_
     refine gz 118 rfl S rfl rfl rfl rfl rfl rfl (y_bin rfl S rfl rfl rfl) fun a S => ?_
     refine gy rfl rfl rfl S (y_and' rfl rfl S rfl rfl) fun a S => ?_
     refine gm S fun a S => ?_
     refine wl_of (op_y (wg' 123 rfl rfl S rfl (by rw [herr, ← htw]; simp) rfl) rfl rfl S (y_move rfl S rfl) fun a S => ?_)
     refine wl_of (op_y (wg' 123 rfl rfl S rfl (by rw [herr, ← htw]; simp) rfl) rfl rfl S (y_bin rfl S rfl rfl rfl) fun a S => ?_)
     refine wl_of (op_y (wg' 123 rfl rfl S rfl (by rw [herr, ← htw]; simp) rfl) rfl rfl S (y_move rfl S rfl) fun a S => ?_)
     refine' wl_or 4 126 rfl S H rfl rfl rfl rfl rfl rfl rfl (fun _ S => (wg' 123 rfl rfl S rfl (by rw [herr, ← htw]; simp) rfl)) (fun h14 kk => ?yh14) (fun a w S H => ?_)
     case yh14 =>
      have h14p := h14; try simp only [DL] at h14p
      refine gz 126 h14 S rfl rfl rfl rfl rfl rfl (y_move rfl S rfl) fun a S => ?_
      refine wl_of (op_call (wg' 126 rfl rfl S rfl h14 rfl) rfl rfl S (co_func rfl Try.call16 S rfl) (orders_at (inv_place hI o) (by omega) (H.front (BookA b mb (placeS s o) z2))) fun u128 w hc a S => ?_)
      have H1 := hc
      have H := H.call1 H1 rfl
      rw [show (placeS s o).offers ++ (placeS s o).bids = (placeS s o).all from rfl] at H
      refine gz 126 h14 S rfl rfl rfl rfl rfl rfl (y_move rfl S rfl) fun a S => ?_
      refine wl_of (op_call (wg' 126 rfl rfl S rfl h14 rfl) rfl rfl S (co_func rfl Try.call15 S rfl) (same_spec u128 u77 (placeS s o).all s.all _ (H.sl u128) (H.sl u77)) fun v w hc a S => ?_)
      obtain ⟨rfl, he⟩ := hc
      have H := H.ext he
      refine wl_of (op_y (wg' 123 rfl rfl S rfl (by rw [herr, ← htw]; simp) rfl) rfl rfl S (y_or' rfl h14 S rfl rfl) fun a S => ?_)
      exact kk _ _ (S.join 5 131 rfl rfl) (H.drop 1)
     refine gy rfl rfl rfl S (y_and' rfl (by rw [herr, ← htw]; simp) S rfl rfl) fun a S => ?_
     refine ga S fun a S => ?_
     refine gnt ?_
     have S := S.nil.cons S 4 rfl
     refine g_ret ?_
     refine ret1 rfl S rfl ?_
     refine ⟨congrArg Value.bool ?_, H.toExt⟩
     rw [htw, ← herr]
     by_cases hz : (placeR s o).2.2 = 0
     · simp [hz]
     · simp [pl_same hz]
end Go.Proofs.Ytcgpbalpihkiiaa
