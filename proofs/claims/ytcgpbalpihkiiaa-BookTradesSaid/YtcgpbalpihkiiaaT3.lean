/- The walks. No condition. -/
import Derived.Test.YtcgpbalpihkiiaaChecked
import Derived.Test.YtcgpbalpihkiiaaGwIns
import Derived.Test.YtcgpbalpihkiiaaFacts
import Derived.Test.YtcgpbalpihkiiaaPlain
import Derived.Test.YtcgpbalpihkiiaaPlainF
import Derived.Test.YtcgpbalpihkiiaaW4
import Derived.Test.YtcgpbalpihkiiaaPlainD
import Derived.Test.YtcgpbalpihkiiaaW9
namespace Go.Proofs.Ytcgpbalpihkiiaa
open Go Go.Gw
set_option linter.unusedVariables false
set_option linter.unusedSimpArgs false
set_option maxHeartbeats 4000000 in
/-- foyer/foyerlaw33.BookTrades -/
theorem law3 (v : Value) (ps : List Opn) (o : Ord) (w0 : World) (hv : IsSl w0 v 6 Opn.enc ps) (hok : ∀ p ∈ ps, p.ok) (ho : o.ok) :
    Ret Try.prog 5 #[v, .agg (Ord.enc o).toArray] w0 (fun u w => u = .bool true ∧ Ext w0 w) := by
 refine ret_of_wp (nt := 233) Try.func5 rfl rfl rfl (fl := [(0, v), (1, .agg (Ord.enc o).toArray)]) rfl (fun a S => ?_)
 have H := HSat.start w0
 have H := H.ro0 (Sl v 6 Opn.enc ps) rfl (hv)
 have hlv := hv.len
 refine gsr ?_
 refine wl_of (op_boxa (wn rfl) rfl rfl rfl S H rfl fun b3 a w S H => ?_)
 refine ga S fun a S => ?_
 refine gnt ?_
 refine gsr ?_
 refine wl_of (op_call (wn rfl) rfl rfl S (co_func rfl Try.call8 S rfl) (head_spec _) fun v w hc a S => ?_)
 obtain ⟨rfl, he⟩ := hc
 have H := H.ext he
 refine ga S fun a S => ?_
 refine gnt ?_
 refine g_seq ?_
 refine gsr ?_
 refine gm S fun a S => ?_
 refine gy rfl rfl rfl S (y_lens rfl Try.underlying22 S H rfl) fun a S => ?_
 refine gy rfl rfl rfl S (y_bin rfl S rfl rfl rfl) fun a S => ?_
 refine gnt ?_
 have S := ((((S.nil.cons S 0 rfl).cons S 3 rfl).cons S 4 rfl).cons S 5 rfl).cons S 22 rfl
 refine c_if S rfl (fun h1 => ?_) (fun h1 => ?_)
 ·have h1p := h1; try simp only [DL] at h1p
  refine gsr ?_
  refine gm S fun a S => ?_
  refine ga S fun a S => ?_
  refine gnt ?_
  refine g_ret ?_
  refine r_then (ret1 rfl S rfl ?_)
  exact ⟨rfl, H.toExt⟩
 ·have h1p := h1; try simp only [DL] at h1p
  refine g_skip ?_
  refine n_then ?_
  refine gsr ?_
  refine wl_of (op_call (wn rfl) rfl rfl S (co_func rfl Try.call9 S rfl) (new_at _) fun v w hc a S => ?_)
  obtain ⟨b, mb, rfl, H1⟩ := hc
  obtain ⟨vv0, hvv0⟩ : ∃ vv0, vv0 = ((.slice none 0 0, .slice none 0 0) : Value × Value) := ⟨_, rfl⟩
  rw [← hvv0] at H1
  have H := H.call1 H1 rfl
  refine ga S fun a S => ?_
  refine gnt ?_
  refine gsr ?_
  refine gm S fun a S => ?_
  refine gm S fun a S => ?_
  refine wl_of (op_call (wn rfl) rfl rfl S (co_func rfl Try.call18 S rfl) (Ret.atE (x := BookA b mb (Bk.z) vv0) H (fun H => do_spec b mb (Bk.z) vv0 v ps 0 _ H hok (inv_z) (by omega))) fun v w hc a S => ?_)
  obtain ⟨_, z27, H⟩ := hc
  
  refine gnt ?_
  have S := (((S.nil.cons S 3 rfl).cons S 4 rfl).cons S 5 rfl).cons S 6 rfl
  refine g_seq ?_
  have hI := (inv_runs inv_z ps).mono (N' := 500) (by omega)
  obtain ⟨s, hs⟩ : ∃ s, s = runs Bk.z ps := ⟨_, rfl⟩
  rw [← hs] at H hI
  have hil := hI.len
  ·skip
   refine g_region ?_
   refine gm S fun a S => ?_
   refine wl_of (op_call (wn rfl) rfl rfl S (co_func rfl Try.call16 S rfl) (orders_at hI (by omega) (H.front (BookA b mb (s) z27))) fun u29 w hc a S => ?_)
   have H1 := hc
   have H := H.call1 H1 rfl
   have hle : s.all.length ≤ 500 := by simp only [Bk.all, List.length_append]; omega
   rw [show s.offers ++ s.bids = s.all from rfl] at H
   refine ga S fun a S => ?_
   refine gnt ?_
   refine gsr ?_
   refine gm S fun a S => ?_
   refine gy rfl rfl rfl S (y_load0 rfl S H rfl (by exact Fagg29)) fun a S => ?_
   refine wl_of (op_call (wn rfl) rfl rfl S (co_func rfl Try.call13 S rfl) (Ret.atE (x := BookA b mb (s) z27) H (fun H => place_at o hI (by omega) ho H)) fun v w hc a S => ?_)
   obtain ⟨rfl, z33, H⟩ := hc
   
   refine gm S fun a S => ?_
   refine gy rfl rfl rfl S (y_extract rfl S rfl rfl) fun a S => ?_
   refine gy rfl rfl rfl S (y_extract rfl S rfl rfl) fun a S => ?_
   refine gy rfl rfl rfl S (y_extract rfl S rfl rfl) fun a S => ?_
   refine wl_of (op_alloc (wn rfl) rfl rfl rfl S H Fzer35 fun b8 a w S H => ?_)
   refine wl_of (op_storea (wn rfl) rfl rfl S H rfl rfl rfl Fsiz35 rfl (cs' := [_, _, _]) rfl fun a w S H => ?_)
   refine ga S fun a S => ?_
   refine ga S fun a S => ?_
   refine gnt ?_
   have S := (((((((S.nil.cons S 3 rfl).cons S 4 rfl).cons S 5 rfl).cons S 6 rfl).cons S 7 rfl).cons S 8 rfl).cons S 9 rfl).cons S 10 rfl
   refine g_seq ?_
   obtain ⟨e, hR, hne, hS⟩ | ⟨hR, hno, hmem, hlen⟩ | ⟨x, hR, hxa, hxm, hx0, hmem, hlen, hbest⟩ := pl_kind hI (by omega) o
   ·rw [hR] at S H
    rw [hS] at H
    refine g_region ?_
    refine gm S fun a S => ?_
    refine wl_of (op_call (wn rfl) rfl rfl S (co_func rfl Try.call16 S rfl) (orders_at hI (by omega) (H.front (BookA b mb (s) z33))) fun u38 w hc a S => ?_)
    have H1 := hc
    have H := H.call1 H1 rfl
    rw [show s.offers ++ s.bids = s.all from rfl] at H
    refine ga S fun a S => ?_
    refine gnt ?_
    refine g_seq ?_
    refine gsr ?_
    refine gm S fun a S => ?_
    refine gy rfl rfl rfl S (y_bin rfl S rfl rfl rfl) fun a S => ?_
    refine gnt ?_
    have S := (((((((S.nil.cons S 3 rfl).cons S 4 rfl).cons S 5 rfl).cons S 7 rfl).cons S 8 rfl).cons S 9 rfl).cons S 11 rfl).cons S 40 rfl
    refine c_if S rfl (fun h2 => ?_) (fun h2 => ?_)
    ·have h2p := h2; try simp only [DL] at h2p
     refine gsr ?_
     refine gm S fun a S => ?_
     refine gm S fun a S => ?_
     refine' wl_and 2 42 rfl S H rfl rfl rfl rfl rfl rfl rfl (fun _ S => (wn rfl)) (fun h3 kk => ?yh3) (fun a w S H => ?_)
     case yh3 =>
      have h3p := h3; try simp only [DL] at h3p
      refine gz 42 h3 S rfl rfl rfl rfl rfl rfl (y_move rfl S rfl) fun a S => ?_
      refine gz 42 h3 S rfl rfl rfl rfl rfl rfl (y_not rfl S rfl) fun a S => ?_
      refine gy rfl rfl rfl S (y_and' rfl h3 S rfl rfl) fun a S => ?_
      exact kk _ _ (S.join 3 45 rfl rfl) H
     refine gm S fun a S => ?_
     refine' wl_and 3 46 rfl S H rfl rfl rfl rfl rfl rfl rfl (fun _ S => (wn rfl)) (fun h4 kk => ?yh4) (fun a w S H => ?_)
     case yh4 =>
      have h4p := h4; try simp only [DL] at h4p
      refine gz 46 h4 S rfl rfl rfl rfl rfl rfl (y_load0 rfl S H rfl (by exact Fagg35)) fun a S => ?_
      refine gz 46 h4 S rfl rfl rfl rfl rfl rfl (y_buildf rfl Fbld35 S rfl (idx := []) rfl (cs := [.int .i64 0, .int .i64 0, .int .i64 0]) (by kernel_rfl)) fun a S => ?_
      refine gz 46 h4 S rfl rfl rfl rfl rfl rfl (y_eqa (trdEq Trd.z Trd.z) rfl Feqg35 S rfl rfl) fun a S => ?_
      refine gy rfl rfl rfl S (y_and' rfl h4 S rfl rfl) fun a S => ?_
      exact kk _ _ (S.join 4 50 rfl rfl) H
     refine gm S fun a S => ?_
     refine' wl_and 3 51 rfl S H rfl rfl rfl rfl rfl rfl rfl (fun _ S => (wn rfl)) (fun h5 kk => ?yh5) (fun a w S H => ?_)
     case yh5 =>
      have h5p := h5; try simp only [DL] at h5p
      refine gz 51 h5 S rfl rfl rfl rfl rfl rfl (y_move rfl S rfl) fun a S => ?_
      refine gz 51 h5 S rfl rfl rfl rfl rfl rfl (y_move rfl S rfl) fun a S => ?_
      refine wl_of (op_call (wg' 51 rfl rfl S rfl h5 rfl) rfl rfl S (co_func rfl Try.call15 S rfl) (same_spec u29 u38 s.all s.all _ (H.sl u29) (H.sl u38)) fun v w hc a S => ?_)
      obtain ⟨rfl, he⟩ := hc
      have H := H.ext he
      refine gy rfl rfl rfl S (y_and' rfl h5 S rfl rfl) fun a S => ?_
      exact kk _ _ (S.join 4 55 rfl rfl) H
     refine ga S fun a S => ?_
     refine gnt ?_
     have S := ((((((S.nil.cons S 3 rfl).cons S 5 rfl).cons S 7 rfl).cons S 8 rfl).cons S 9 rfl).cons S 11 rfl).cons S 4 rfl
     refine g_ret ?_
     refine r_then (ret1 rfl S rfl ?_)
     exact ⟨congrArg Value.bool (by simp), H.toExt⟩
    ·have h2p := h2; try simp only [DL] at h2p
     all_goals (
       exact absurd (by simpa using h2) hne)
   ·rw [hR] at S H
    have hI2 := inv_place hI o
    obtain ⟨s2, hs2⟩ : ∃ s2, s2 = placeS s o := ⟨_, rfl⟩
    rw [← hs2] at H hI2
    rw [← hs2] at hmem hlen
    refine g_region ?_
    refine gm S fun a S => ?_
    refine wl_of (op_call (wn rfl) rfl rfl S (co_func rfl Try.call16 S rfl) (orders_at hI2 (by omega) (H.front (BookA b mb (s2) z33))) fun u38 w hc a S => ?_)
    have H1 := hc
    have H := H.call1 H1 rfl
    rw [show s2.offers ++ s2.bids = s2.all from rfl] at H
    refine ga S fun a S => ?_
    refine gnt ?_
    refine g_seq ?_
    refine gsr ?_
    refine gm S fun a S => ?_
    refine gy rfl rfl rfl S (y_bin rfl S rfl rfl rfl) fun a S => ?_
    refine gnt ?_
    have S := (((((((S.nil.cons S 3 rfl).cons S 4 rfl).cons S 5 rfl).cons S 7 rfl).cons S 8 rfl).cons S 9 rfl).cons S 11 rfl).cons S 40 rfl
    refine c_if S rfl (fun h6 => ?_) (fun h6 => ?_)
    ·have h6p := h6; try simp only [DL] at h6p
     all_goals (
       exact absurd h6 (by decide))
    ·have h6p := h6; try simp only [DL] at h6p
     refine g_skip ?_
     refine n_then ?_
     refine g_seq ?_
     refine gsr ?_
     refine gm S fun a S => ?_
     refine gy rfl rfl rfl S (y_not rfl S rfl) fun a S => ?_
     refine gnt ?_
     refine c_if S rfl (fun h7 => ?_) (fun h7 => ?_)
     ·have h7p := h7; try simp only [DL] at h7p
      refine g_seq ?_
      refine gsr ?_
      refine gy rfl rfl rfl S (y_load0 rfl S H rfl (by exact Fagg35)) fun a S => ?_
      refine gy rfl rfl rfl S (y_buildf rfl Fbld35 S rfl (idx := []) rfl (cs := [.int .i64 0, .int .i64 0, .int .i64 0]) (by kernel_rfl)) fun a S => ?_
      refine gy rfl rfl rfl S (y_nea (trdEq Trd.z Trd.z) rfl Feqg35 S rfl rfl) fun a S => ?_
      refine gm S fun a S => ?_
      refine' wl_or 6 61 rfl S H rfl rfl rfl rfl rfl rfl rfl (fun _ S => (wn rfl)) (fun h8 kk => ?yh8) (fun a w S H => ?_)
      case yh8 =>
       have h8p := h8; try simp only [DL] at h8p
       refine gz 61 h8 S rfl rfl rfl rfl rfl rfl (y_move rfl S rfl) fun a S => ?_
       refine gz 61 h8 S rfl rfl rfl rfl rfl rfl (y_lens rfl Try.underlying39 S H rfl) fun a S => ?_
       refine gz 61 h8 S rfl rfl rfl rfl rfl rfl (y_move rfl S rfl) fun a S => ?_
       refine gz 61 h8 S rfl rfl rfl rfl rfl rfl (y_lens rfl Try.underlying39 S H rfl) fun a S => ?_
       refine gz 61 h8 S rfl rfl rfl rfl rfl rfl (y_add rfl S rfl rfl (by omega)) fun a S => ?_
       refine gz 61 h8 S rfl rfl rfl rfl rfl rfl (y_bin rfl S rfl rfl rfl) fun a S => ?_
       refine gy rfl rfl rfl S (y_or' rfl h8 S rfl rfl) fun a S => ?_
       exact kk _ _ (S.join 7 68 rfl rfl) H
      refine gm S fun a S => ?_
      refine' wl_or 4 69 rfl S H rfl rfl rfl rfl rfl rfl rfl (fun _ S => (wn rfl)) (fun h9 kk => ?yh9) (fun a w S H => ?_)
      case yh9 =>
       have h9p := h9; try simp only [DL] at h9p
       refine gz 69 h9 S rfl rfl rfl rfl rfl rfl (y_move rfl S rfl) fun a S => ?_
       refine gz 69 h9 S rfl rfl rfl rfl rfl rfl (y_load0 rfl S H rfl (by exact Fagg29)) fun a S => ?_
       refine wl_of (op_call (wg' 69 rfl rfl S rfl h9 rfl) rfl rfl S (co_func rfl Try.call20 S rfl) (in_spec u38 s2.all o _ (H.sl u38)) fun v w hc a S => ?_)
       obtain ⟨rfl, he⟩ := hc
       have H := H.ext he
       refine gz 69 h9 S rfl rfl rfl rfl rfl rfl (y_not rfl S rfl) fun a S => ?_
       refine gy rfl rfl rfl S (y_or' rfl h9 S rfl rfl) fun a S => ?_
       exact kk _ _ (S.join 5 74 rfl rfl) H
      refine gnt ?_
      have S := ((((((S.nil.cons S 3 rfl).cons S 4 rfl).cons S 5 rfl).cons S 7 rfl).cons S 8 rfl).cons S 11 rfl).cons S 74 rfl
      refine c_if S rfl (fun h10 => ?_) (fun h10 => ?_)
      ·have h10p := h10; try simp only [DL] at h10p
       all_goals (
         exfalso
         have hd := h10
         simp [hmem, hlen, beqI, bneI] at hd)
      ·have h10p := h10; try simp only [DL] at h10p
       refine g_skip ?_
       refine n_then ?_
       refine g_seq ?_
       refine gsr ?_
       refine ga S fun a S => ?_
       refine gnt ?_
       refine g_block ?_
       have SU := ((((S.nil.cons S 3 rfl).cons S 5 rfl).cons S 7 rfl).cons S 8 rfl).cons S 11 rfl
       refine loop_k (X := Nat) SU (fun j => [(12, .int .i64 (j : Int))]) (fun j => j ≤ s.all.length) (fun j => s.all.length - j) 0 (S.nil.cons S 12 rfl) H (Nat.zero_le _) (fun j a w S H hi => ?_)
       simp only [List.cons_append, List.nil_append] at S hi
       refine g_seq ?_
       refine gsr ?_
       refine gm S fun a S => ?_
       refine gm S fun a S => ?_
       refine gy rfl rfl rfl S (y_lens rfl Try.underlying39 S H rfl) fun a S => ?_
       refine gy rfl rfl rfl S (y_bin rfl S rfl rfl rfl) fun a S => ?_
       refine gnt ?_
       refine c_if S rfl (fun h11 => ?_) (fun h11 => ?_)
       ·have h11p := h11; try simp only [DL] at h11p
        have hjl : j < s.all.length := by omega
        refine g_skip ?_
        refine n_then ?_
        have S := (((((S.nil.cons S 3 rfl).cons S 5 rfl).cons S 7 rfl).cons S 8 rfl).cons S 11 rfl).cons S 12 rfl
        refine g_seq ?_
        refine g_block ?_
        refine g_seq ?_
        refine region_st (loud := [5, 12]) (tails := []) (free := []) [0, 1, 2, 3, 4, 5, 6, 7, 8, 9, 10, 11, 12, 13, 14] [] Fmo (by kernel_rfl) (by kernel_rfl) rfl H ?_
        refine m_w rfl rfl (wn rfl) rfl rfl S (fun w H => y_move rfl S rfl) fun a S => ?_
        refine m_w rfl rfl (wn rfl) rfl rfl S (fun w H => y_move rfl S rfl) fun a S => ?_
        refine m_w rfl rfl (wn rfl) rfl rfl S (fun w H => y_iaddrn rfl Try.underlying39 Fsiz29 S H rfl rfl (by first | assumption | omega | (simp only [LL]; omega))) fun a S => ?_
        refine m_loadsa _ rfl rfl (wn rfl) rfl rfl S rfl rfl (by exact Fagg29) (by first | assumption | omega | (simp only [LL]; omega)) fun a S => ?_
        refine m_w rfl rfl (wn rfl) rfl rfl S (fun w H => y_load0 rfl S H rfl (by exact Fagg29)) fun a S => ?_
        refine m_l rfl rfl (fun w H => op_call (wn rfl) rfl rfl S (co_func rfl Try.call19 S rfl) (match_spec s.all[j] o _) fun v w hc a S => ?_)
        obtain ⟨rfl, he⟩ := hc
        have H := H.ext he
        rw [hno _ (List.getElem_mem hjl)] at S
        refine m_next H (by exact List.Sublist.refl _) ?_
        refine m_w rfl rfl (wn rfl) rfl rfl S (fun w H => y_move rfl S rfl) fun a S => ?_
        refine m_w rfl rfl (wg' 87 rfl rfl S rfl rfl rfl) rfl rfl S (fun w H => y_move rfl S rfl) fun a S => ?_
        refine m_w rfl rfl (wg' 87 rfl rfl S rfl rfl rfl) rfl rfl S (fun w H => y_move rfl S rfl) fun a S => ?_
        refine m_w rfl rfl (wg' 87 rfl rfl S rfl rfl rfl) rfl rfl S (fun w H => y_move rfl S rfl) fun a S => ?_
        refine m_w rfl rfl (wg' 87 rfl rfl S rfl rfl rfl) rfl rfl S (fun w H => y_iaddrn rfl Try.underlying39 Fsiz29 S H rfl rfl (by first | assumption | omega | (simp only [LL]; omega))) fun a S => ?_
        refine m_loadsa _ rfl rfl (wg' 87 rfl rfl S rfl rfl rfl) rfl rfl S rfl rfl (by exact Fagg29) (by first | assumption | omega | (simp only [LL]; omega)) fun a S => ?_
        refine m_l rfl rfl (fun w H => op_call (wg' 87 rfl rfl S rfl rfl rfl) rfl rfl S (co_func rfl Try.call20 S rfl) (in_spec u38 s2.all s.all[j] _ (H.sl u38)) fun v w hc a S => ?_)
        obtain ⟨rfl, he⟩ := hc
        have H := H.ext he
        refine m_next H (by exact List.Sublist.refl _) ?_
        refine m_w rfl rfl (wg' 87 rfl rfl S rfl rfl rfl) rfl rfl S (fun w H => y_not rfl S rfl) fun a S => ?_
        refine m_w rfl rfl (wn rfl) rfl rfl S (fun w H => y_or' rfl rfl S rfl rfl) fun a S => ?_
        refine m_nil (fun w H => ?_)
        refine n_then ?_
        have S := ((((((S.nil.cons S 3 rfl).cons S 5 rfl).cons S 7 rfl).cons S 8 rfl).cons S 11 rfl).cons S 12 rfl).cons S 95 rfl
        refine c_if S rfl (fun h12 => ?_) (fun h12 => ?_)
        ·have h12p := h12; try simp only [DL] at h12p
         all_goals (
           exfalso
           have hd := h12
           simp [hmem, List.getElem_mem] at hd)
        ·have h12p := h12; try simp only [DL] at h12p
         refine g_skip ?_
         refine n_block ?_
         refine n_then ?_
         refine g_region ?_
         refine gm S fun a S => ?_
         refine gy rfl rfl rfl S (y_add rfl S rfl rfl (by omega)) fun a S => ?_
         refine ga S fun a S => ?_
         refine gnt ?_
         exact ⟨j + 1, S.nil.cons S 12 rfl, ((((S.nil.cons S 3 rfl).cons S 5 rfl).cons S 7 rfl).cons S 8 rfl).cons S 11 rfl, H.drop 0, by omega, by omega⟩
       ·have h11p := h11; try simp only [DL] at h11p
        refine g_exit ?_
        refine x_then (x_then (x_eq ?_))
        refine n_then ?_
        have S := ((((S.nil.cons S 3 rfl).cons S 5 rfl).cons S 7 rfl).cons S 8 rfl).cons S 11 rfl
        refine gsr ?_
        refine gm S fun a S => ?_
        refine ga S fun a S => ?_
        refine gnt ?_
        refine g_ret ?_
        refine r_then (ret1 rfl S rfl ?_)
        exact ⟨rfl, H.toExt⟩
     ·have h7p := h7; try simp only [DL] at h7p
      all_goals (
        exact absurd h7 (by decide))
   ·rw [hR] at S H
    have hI2 := inv_place hI o
    obtain ⟨s2, hs2⟩ : ∃ s2, s2 = placeS s o := ⟨_, rfl⟩
    rw [← hs2] at H hI2
    rw [← hs2] at hmem hlen
    refine g_region ?_
    refine gm S fun a S => ?_
    refine wl_of (op_call (wn rfl) rfl rfl S (co_func rfl Try.call16 S rfl) (orders_at hI2 (by omega) (H.front (BookA b mb (s2) z33))) fun u38 w hc a S => ?_)
    have H1 := hc
    have H := H.call1 H1 rfl
    rw [show s2.offers ++ s2.bids = s2.all from rfl] at H
    refine ga S fun a S => ?_
    refine gnt ?_
    refine g_seq ?_
    refine gsr ?_
    refine gm S fun a S => ?_
    refine gy rfl rfl rfl S (y_bin rfl S rfl rfl rfl) fun a S => ?_
    refine gnt ?_
    have S := (((((((S.nil.cons S 3 rfl).cons S 4 rfl).cons S 5 rfl).cons S 7 rfl).cons S 8 rfl).cons S 9 rfl).cons S 11 rfl).cons S 40 rfl
    refine c_if S rfl (fun h13 => ?_) (fun h13 => ?_)
    ·have h13p := h13; try simp only [DL] at h13p
     all_goals (
       exact absurd h13 (by decide))
    ·have h13p := h13; try simp only [DL] at h13p
     refine g_skip ?_
     refine n_then ?_
     refine g_seq ?_
     refine gsr ?_
     refine gm S fun a S => ?_
     refine gy rfl rfl rfl S (y_not rfl S rfl) fun a S => ?_
     refine gnt ?_
     refine c_if S rfl (fun h14 => ?_) (fun h14 => ?_)
     ·have h14p := h14; try simp only [DL] at h14p
      all_goals (
        exact absurd h14 (by decide))
     ·have h14p := h14; try simp only [DL] at h14p
      refine g_skip ?_
      refine n_then ?_
      have S := (((((S.nil.cons S 3 rfl).cons S 4 rfl).cons S 5 rfl).cons S 7 rfl).cons S 8 rfl).cons S 11 rfl
      refine gsr ?_
      refine gy rfl rfl rfl S (y_faddrb rfl Ffo35_0 S rfl) fun a S => ?_
      refine gy rfl rfl rfl S (y_load rfl Fsca3 S H rfl rfl) fun a S => ?_
      refine ga S fun a S => ?_
      refine gnt ?_
      refine g_seq ?_
      refine gsr ?_
      refine gy rfl rfl rfl S (y_faddrb rfl Ffo29_2 S rfl) fun a S => ?_
      refine gy rfl rfl rfl S (y_load rfl Fsca4 S H rfl rfl) fun a S => ?_
      refine gnt ?_
      refine' c_ji (s := 13) S rfl (fun h15 => ?th15) (fun h15 => ?fh15) (fun a w S H => ?_)
      case th15 =>
       have h15p := h15; try simp only [DL] at h15p
       refine g_region ?_
       refine gy rfl rfl rfl S (y_faddrb rfl Ffo35_1 S rfl) fun a S => ?_
       refine gy rfl rfl rfl S (y_load rfl Fsca3 S H rfl rfl) fun a S => ?_
       refine ga S fun a S => ?_
       refine gnt ?_
       exact ⟨S.nil.cons S 13 rfl, (((((S.nil.cons S 3 rfl).cons S 4 rfl).cons S 5 rfl).cons S 7 rfl).cons S 8 rfl).cons S 11 rfl, H⟩
      case fh15 =>
       have h15p := h15; try simp only [DL] at h15p
       refine g_skip ?_
       refine n_then ?_
       exact ⟨S.nil.cons S 13 rfl, (((((S.nil.cons S 3 rfl).cons S 4 rfl).cons S 5 rfl).cons S 7 rfl).cons S 8 rfl).cons S 11 rfl, H⟩
      refine gsr ?_
      refine wl_of (op_alloc (wn rfl) rfl rfl rfl S H Fzer29 fun b14 a w S H => ?_)
      rw [oth_id] at S
      refine gnt ?_
      refine g_seq ?_
      refine gsr ?_
      refine ga S fun a S => ?_
      refine gnt ?_
      refine g_block ?_
      have SU := (((((((S.nil.cons S 3 rfl).cons S 4 rfl).cons S 5 rfl).cons S 7 rfl).cons S 8 rfl).cons S 11 rfl).cons S 13 rfl).cons S 14 rfl
      refine loopW (X := Nat) SU (fun j => [(15, .int .i64 (j : Int))]) (fun j w => j ≤ s.all.length ∧ HSat No w0 [Cel b14 29 (Ord.enc (pickO (s.all.take j) x)), OSl 29 u38 5 Ord.enc s2.all, OSl 29 u29 5 Ord.enc s.all, Cel b8 35 [.int .i64 (tradeOf o x).ask, .int .i64 (tradeOf o x).bid, .int .i64 (tradeOf o x).price], Cel b3 29 (Ord.enc o)] w) (fun j => s.all.length - j) 0 (S.nil.cons S 15 rfl) (⟨Nat.zero_le _, (show HSat No w0 _ _ from H.take [Cel b14 29 [.int .i64 0, .int .i64 0, .bool false, .string ⟨#[]⟩, .int .i64 0], OSl 29 u38 5 Ord.enc s2.all, OSl 29 u29 5 Ord.enc s.all, Cel b8 35 [.int .i64 (tradeOf o x).ask, .int .i64 (tradeOf o x).bid, .int .i64 (tradeOf o x).price], Cel b3 29 (Ord.enc o)])⟩) (fun j a w S hW => ?_)
      simp only [List.cons_append, List.nil_append] at S
      clear H
      obtain ⟨hj, H⟩ := hW
      refine g_seq ?_
      refine gsr ?_
      refine gm S fun a S => ?_
      refine gm S fun a S => ?_
      skip
      refine gy rfl rfl rfl S (y_lens rfl Try.underlying39 S H rfl) fun a S => ?_
      refine gy rfl rfl rfl S (y_bin rfl S rfl rfl rfl) fun a S => ?_
      refine gnt ?_
      refine c_if S rfl (fun h16 => ?_) (fun h16 => ?_)
      ·have h16p := h16; try simp only [DL] at h16p
       have hjl : j < s.all.length := by omega
       refine g_skip ?_
       refine n_then ?_
       have S := ((((((((S.nil.cons S 3 rfl).cons S 4 rfl).cons S 5 rfl).cons S 7 rfl).cons S 8 rfl).cons S 11 rfl).cons S 13 rfl).cons S 14 rfl).cons S 15 rfl
       refine g_seq ?_
       refine g_block ?_
       refine gsr ?_
       refine gm S fun a S => ?_
       refine gm S fun a S => ?_
       refine gy rfl rfl rfl S (y_iaddrn rfl Try.underlying39 Fsiz29 S H rfl rfl (by first | assumption | omega | (simp only [LL]; omega))) fun a S => ?_
       refine gy rfl rfl rfl S (y_faddr rfl Ffo29_0 S rfl) fun a S => ?_
       refine gy rfl rfl rfl S (y_loadsf _ rfl Fsca3 S H rfl (by first | assumption | omega | (simp only [LL]; omega)) rfl) fun a S => ?_
       refine gm S fun a S => ?_
       refine gy rfl rfl rfl S (y_bin rfl S rfl rfl rfl) fun a S => ?_
       refine gnt ?_
       have S := (((((((((S.nil.cons S 3 rfl).cons S 4 rfl).cons S 5 rfl).cons S 7 rfl).cons S 8 rfl).cons S 11 rfl).cons S 13 rfl).cons S 14 rfl).cons S 15 rfl).cons S 115 rfl
       refine c_if S rfl (fun h17 => ?_) (fun h17 => ?_)
       ·have h17p := h17; try simp only [DL] at h17p
        have hjx : s.all[j] = x := hI.ids_ne (List.getElem_mem hjl) hxa (by simpa using h17)
        refine g_region ?_
        refine gm S fun a S => ?_
        refine gm S fun a S => ?_
        refine gy rfl rfl rfl S (y_iaddrn rfl Try.underlying39 Fsiz29 S H rfl rfl (by first | assumption | omega | (simp only [LL]; omega))) fun a S => ?_
        refine gy rfl rfl rfl S (y_loadsa _ rfl S H rfl (by exact Fagg29) (by first | assumption | omega | (simp only [LL]; omega))) fun a S => ?_
        refine wl_of (op_storea (wn rfl) rfl rfl S H rfl rfl rfl Fsiz29 rfl (cs' := [_, _, _, _, _]) rfl fun a w S H => ?_)
        refine gl_nil ?_
        refine n_block ?_
        refine n_then ?_
        have S := ((((((((S.nil.cons S 3 rfl).cons S 4 rfl).cons S 5 rfl).cons S 7 rfl).cons S 8 rfl).cons S 11 rfl).cons S 13 rfl).cons S 14 rfl).cons S 15 rfl
        refine g_region ?_
        refine gm S fun a S => ?_
        refine gy rfl rfl rfl S (y_add rfl S rfl rfl (by omega)) fun a S => ?_
        refine ga S fun a S => ?_
        refine gnt ?_
        first
        | (rw [hjx] at H
           exact ⟨j + 1, S.nil.cons S 15 rfl, (((((((S.nil.cons S 3 rfl).cons S 4 rfl).cons S 5 rfl).cons S 7 rfl).cons S 8 rfl).cons S 11 rfl).cons S 13 rfl).cons S 14 rfl, ⟨by omega, by rw [show pickO (s.all.take (j + 1)) x = x by rw [pickO, if_pos (by rw [List.take_succ_eq_append_getElem hjl, hjx]; simp)]]; exact H⟩, by omega⟩)
        | exact ⟨j + 1, S.nil.cons S 15 rfl, (((((((S.nil.cons S 3 rfl).cons S 4 rfl).cons S 5 rfl).cons S 7 rfl).cons S 8 rfl).cons S 11 rfl).cons S 13 rfl).cons S 14 rfl, ⟨by omega, by rw [show pickO (s.all.take (j + 1)) x = pickO (s.all.take j) x by simp only [pickO, hmj]]; exact H⟩, by omega⟩
       ·have h17p := h17; try simp only [DL] at h17p
        have hjx : s.all[j] ≠ x := fun e => absurd (by rw [e]) (show ¬ s.all[j].id = x.id by simpa using h17)
        have hmj : x ∈ s.all.take (j + 1) ↔ x ∈ s.all.take j := by rw [List.take_succ_eq_append_getElem hjl, List.mem_append, List.mem_singleton]; exact ⟨fun h => h.resolve_right (fun e => hjx e.symm), .inl⟩
        refine g_skip ?_
        refine n_block ?_
        refine n_then ?_
        refine g_region ?_
        refine gm S fun a S => ?_
        refine gy rfl rfl rfl S (y_add rfl S rfl rfl (by omega)) fun a S => ?_
        refine ga S fun a S => ?_
        refine gnt ?_
        first
        | (rw [hjx] at H
           exact ⟨j + 1, S.nil.cons S 15 rfl, (((((((S.nil.cons S 3 rfl).cons S 4 rfl).cons S 5 rfl).cons S 7 rfl).cons S 8 rfl).cons S 11 rfl).cons S 13 rfl).cons S 14 rfl, ⟨by omega, by rw [show pickO (s.all.take (j + 1)) x = x by rw [pickO, if_pos (by rw [List.take_succ_eq_append_getElem hjl, hjx]; simp)]]; exact H⟩, by omega⟩)
        | exact ⟨j + 1, S.nil.cons S 15 rfl, (((((((S.nil.cons S 3 rfl).cons S 4 rfl).cons S 5 rfl).cons S 7 rfl).cons S 8 rfl).cons S 11 rfl).cons S 13 rfl).cons S 14 rfl, ⟨by omega, by rw [show pickO (s.all.take (j + 1)) x = pickO (s.all.take j) x by simp only [pickO, hmj]]; exact H⟩, by omega⟩
      ·have h16p := h16; try simp only [DL] at h16p
       obtain rfl : j = s.all.length := by omega
       rw [List.take_length, pickO, if_pos hxa] at H
       refine g_exit ?_
       refine x_then (x_then (x_eq ?_))
       refine n_then ?_
       have S := ((((((S.nil.cons S 3 rfl).cons S 4 rfl).cons S 5 rfl).cons S 7 rfl).cons S 8 rfl).cons S 11 rfl).cons S 14 rfl
       refine g_seq ?_
       refine gsr ?_
       refine gy rfl rfl rfl S (y_faddrb rfl Ffo29_0 S rfl) fun a S => ?_
       refine gy rfl rfl rfl S (y_load rfl Fsca3 S H rfl rfl) fun a S => ?_
       refine gy rfl rfl rfl S (y_bin rfl S rfl rfl rfl) fun a S => ?_
       refine gm S fun a S => ?_
       refine' wl_or 4 123 rfl S H rfl rfl rfl rfl rfl rfl rfl (fun _ S => (wn rfl)) (fun h18 kk => ?yh18) (fun a w S H => ?_)
       case yh18 =>
        have h18p := h18; try simp only [DL] at h18p
        refine gz 123 h18 S rfl rfl rfl rfl rfl rfl (y_load0 rfl S H rfl (by exact Fagg29)) fun a S => ?_
        refine gz 123 h18 S rfl rfl rfl rfl rfl rfl (y_load0 rfl S H rfl (by exact Fagg29)) fun a S => ?_
        refine wl_of (op_call (wg' 123 rfl rfl S rfl h18 rfl) rfl rfl S (co_func rfl Try.call19 S rfl) (match_spec x o _) fun v w hc a S => ?_)
        obtain ⟨rfl, he⟩ := hc
        have H := H.ext he
        refine gz 123 h18 S rfl rfl rfl rfl rfl rfl (y_not rfl S rfl) fun a S => ?_
        refine gy rfl rfl rfl S (y_or' rfl h18 S rfl rfl) fun a S => ?_
        exact kk _ _ (S.join 5 128 rfl rfl) H
       refine gm S fun a S => ?_
       refine' wl_or 5 129 rfl S H rfl rfl rfl rfl rfl rfl rfl (fun _ S => (wn rfl)) (fun h19 kk => ?yh19) (fun a w S H => ?_)
       case yh19 =>
        have h19p := h19; try simp only [DL] at h19p
        refine gz 129 h19 S rfl rfl rfl rfl rfl rfl (y_faddrb rfl Ffo35_2 S rfl) fun a S => ?_
        refine gz 129 h19 S rfl rfl rfl rfl rfl rfl (y_load rfl Fsca3 S H rfl rfl) fun a S => ?_
        refine gz 129 h19 S rfl rfl rfl rfl rfl rfl (y_faddrb rfl Ffo29_1 S rfl) fun a S => ?_
        refine gz 129 h19 S rfl rfl rfl rfl rfl rfl (y_load rfl Fsca3 S H rfl rfl) fun a S => ?_
        refine gz 129 h19 S rfl rfl rfl rfl rfl rfl (y_bin rfl S rfl rfl rfl) fun a S => ?_
        refine gy rfl rfl rfl S (y_or' rfl h19 S rfl rfl) fun a S => ?_
        exact kk _ _ (S.join 6 135 rfl rfl) H
       refine gm S fun a S => ?_
       refine' wl_or 9 136 rfl S H rfl rfl rfl rfl rfl rfl rfl (fun _ S => (wn rfl)) (fun h20 kk => ?yh20) (fun a w S H => ?_)
       case yh20 =>
        have h20p := h20; try simp only [DL] at h20p
        refine gz 136 h20 S rfl rfl rfl rfl rfl rfl (y_faddrb rfl Ffo29_2 S rfl) fun a S => ?_
        refine gz 136 h20 S rfl rfl rfl rfl rfl rfl (y_load rfl Fsca4 S H rfl rfl) fun a S => ?_
        refine gz 136 h20 S rfl rfl rfl rfl rfl rfl (y_move rfl S rfl) fun a S => ?_
        refine' wl_and 5 139 rfl S H rfl rfl rfl rfl rfl rfl rfl (fun _ S => (wg' 136 rfl rfl S rfl h20 rfl)) (fun h21 kk => ?yh21) (fun a w S H => ?_)
        case yh21 =>
         have h21p := h21; try simp only [DL] at h21p
         refine gz 139 h21 S rfl rfl rfl rfl rfl rfl (y_faddrb rfl Ffo35_0 S rfl) fun a S => ?_
         refine gz 139 h21 S rfl rfl rfl rfl rfl rfl (y_load rfl Fsca3 S H rfl rfl) fun a S => ?_
         refine gz 139 h21 S rfl rfl rfl rfl rfl rfl (y_faddrb rfl Ffo29_0 S rfl) fun a S => ?_
         refine gz 139 h21 S rfl rfl rfl rfl rfl rfl (y_load rfl Fsca3 S H rfl rfl) fun a S => ?_
         refine gz 139 h21 S rfl rfl rfl rfl rfl rfl (y_bin rfl S rfl rfl rfl) fun a S => ?_
         refine gz 136 h20 S rfl rfl rfl rfl rfl rfl (y_and' rfl h21 S rfl rfl) fun a S => ?_
         exact kk _ _ (S.join 6 145 rfl rfl) H
        refine gy rfl rfl rfl S (y_or' rfl h20 S rfl rfl) fun a S => ?_
        exact kk _ _ (S.join 5 146 rfl rfl) H
       refine gm S fun a S => ?_
       refine' wl_or 10 147 rfl S H rfl rfl rfl rfl rfl rfl rfl (fun _ S => (wn rfl)) (fun h22 kk => ?yh22) (fun a w S H => ?_)
       case yh22 =>
        have h22p := h22; try simp only [DL] at h22p
        refine gz 147 h22 S rfl rfl rfl rfl rfl rfl (y_faddrb rfl Ffo29_2 S rfl) fun a S => ?_
        refine gz 147 h22 S rfl rfl rfl rfl rfl rfl (y_load rfl Fsca4 S H rfl rfl) fun a S => ?_
        refine gz 147 h22 S rfl rfl rfl rfl rfl rfl (y_not rfl S rfl) fun a S => ?_
        refine gz 147 h22 S rfl rfl rfl rfl rfl rfl (y_move rfl S rfl) fun a S => ?_
        refine' wl_and 5 151 rfl S H rfl rfl rfl rfl rfl rfl rfl (fun _ S => (wg' 147 rfl rfl S rfl h22 rfl)) (fun h23 kk => ?yh23) (fun a w S H => ?_)
        case yh23 =>
         have h23p := h23; try simp only [DL] at h23p
         refine gz 151 h23 S rfl rfl rfl rfl rfl rfl (y_faddrb rfl Ffo35_1 S rfl) fun a S => ?_
         refine gz 151 h23 S rfl rfl rfl rfl rfl rfl (y_load rfl Fsca3 S H rfl rfl) fun a S => ?_
         refine gz 151 h23 S rfl rfl rfl rfl rfl rfl (y_faddrb rfl Ffo29_0 S rfl) fun a S => ?_
         refine gz 151 h23 S rfl rfl rfl rfl rfl rfl (y_load rfl Fsca3 S H rfl rfl) fun a S => ?_
         refine gz 151 h23 S rfl rfl rfl rfl rfl rfl (y_bin rfl S rfl rfl rfl) fun a S => ?_
         refine gz 147 h22 S rfl rfl rfl rfl rfl rfl (y_and' rfl h23 S rfl rfl) fun a S => ?_
         exact kk _ _ (S.join 6 157 rfl rfl) H
        refine gy rfl rfl rfl S (y_or' rfl h22 S rfl rfl) fun a S => ?_
        exact kk _ _ (S.join 6 158 rfl rfl) H
       refine gm S fun a S => ?_
       refine' wl_or 6 159 rfl S H rfl rfl rfl rfl rfl rfl rfl (fun _ S => (wn rfl)) (fun h24 kk => ?yh24) (fun a w S H => ?_)
       case yh24 =>
        have h24p := h24; try simp only [DL] at h24p
        refine gz 159 h24 S rfl rfl rfl rfl rfl rfl (y_move rfl S rfl) fun a S => ?_
        refine gz 159 h24 S rfl rfl rfl rfl rfl rfl (y_lens rfl Try.underlying39 S H rfl) fun a S => ?_
        refine gz 159 h24 S rfl rfl rfl rfl rfl rfl (y_move rfl S rfl) fun a S => ?_
        refine gz 159 h24 S rfl rfl rfl rfl rfl rfl (y_lens rfl Try.underlying39 S H rfl) fun a S => ?_
        refine gz 159 h24 S rfl rfl rfl rfl rfl rfl (y_sub rfl S rfl rfl (by omega)) fun a S => ?_
        refine gz 159 h24 S rfl rfl rfl rfl rfl rfl (y_bin rfl S rfl rfl rfl) fun a S => ?_
        refine gy rfl rfl rfl S (y_or' rfl h24 S rfl rfl) fun a S => ?_
        exact kk _ _ (S.join 7 166 rfl rfl) H
       refine gm S fun a S => ?_
       refine' wl_or 3 167 rfl S H rfl rfl rfl rfl rfl rfl rfl (fun _ S => (wn rfl)) (fun h25 kk => ?yh25) (fun a w S H => ?_)
       case yh25 =>
        have h25p := h25; try simp only [DL] at h25p
        refine gz 167 h25 S rfl rfl rfl rfl rfl rfl (y_move rfl S rfl) fun a S => ?_
        refine gz 167 h25 S rfl rfl rfl rfl rfl rfl (y_load0 rfl S H rfl (by exact Fagg29)) fun a S => ?_
        refine wl_of (op_call (wg' 167 rfl rfl S rfl h25 rfl) rfl rfl S (co_func rfl Try.call20 S rfl) (in_spec u38 s2.all x _ (H.sl u38)) fun v w hc a S => ?_)
        obtain ⟨rfl, he⟩ := hc
        have H := H.ext he
        refine gy rfl rfl rfl S (y_or' rfl h25 S rfl rfl) fun a S => ?_
        exact kk _ _ (S.join 4 171 rfl rfl) H
       refine gnt ?_
       have S := ((((((S.nil.cons S 3 rfl).cons S 4 rfl).cons S 5 rfl).cons S 7 rfl).cons S 11 rfl).cons S 14 rfl).cons S 171 rfl
       refine c_if S rfl (fun h26 => ?_) (fun h26 => ?_)
       ·have h26p := h26; try simp only [DL] at h26p
        all_goals (
          exfalso
          have hd := h26
          cases hsl : o.sell <;> simp [hxm, hx0, hsl, tradeOf, hmem, beqI, bneI] at hd <;> omega)
       ·have h26p := h26; try simp only [DL] at h26p
        refine g_skip ?_
        refine n_then ?_
        refine g_seq ?_
        refine gsr ?_
        refine ga S fun a S => ?_
        refine gnt ?_
        refine g_block ?_
        have SU := ((((S.nil.cons S 3 rfl).cons S 5 rfl).cons S 7 rfl).cons S 11 rfl).cons S 14 rfl
        refine loop_k (X := Nat) SU (fun i => [(16, .int .i64 (i : Int))]) (fun i => i ≤ s.all.length) (fun i => s.all.length - i) 0 (S.nil.cons S 16 rfl) H (Nat.zero_le _) (fun i a w S H hi => ?_)
        simp only [List.cons_append, List.nil_append] at S hi
        refine g_seq ?_
        refine gsr ?_
        refine gm S fun a S => ?_
        refine gm S fun a S => ?_
        refine gy rfl rfl rfl S (y_lens rfl Try.underlying39 S H rfl) fun a S => ?_
        refine gy rfl rfl rfl S (y_bin rfl S rfl rfl rfl) fun a S => ?_
        refine gnt ?_
        refine c_if S rfl (fun h27 => ?_) (fun h27 => ?_)
        ·have h27p := h27; try simp only [DL] at h27p
         have hil2 : i < s.all.length := by omega
         refine g_skip ?_
         refine n_then ?_
         have S := (((((S.nil.cons S 3 rfl).cons S 5 rfl).cons S 7 rfl).cons S 11 rfl).cons S 14 rfl).cons S 16 rfl
         refine g_seq ?_
         refine g_block ?_
         refine gsr ?_
         refine gm S fun a S => ?_
         refine gm S fun a S => ?_
         refine gy rfl rfl rfl S (y_iaddrn rfl Try.underlying39 Fsiz29 S H rfl rfl (by first | assumption | omega | (simp only [LL]; omega))) fun a S => ?_
         refine gy rfl rfl rfl S (y_loadsa _ rfl S H rfl (by exact Fagg29) (by first | assumption | omega | (simp only [LL]; omega))) fun a S => ?_
         refine wl_of (op_alloc (wn rfl) rfl rfl rfl S H Fzer29 fun b17 a w S H => ?_)
         refine wl_of (op_storea (wn rfl) rfl rfl S H rfl rfl rfl Fsiz29 rfl (cs' := [_, _, _, _, _]) rfl fun a w S H => ?_)
         refine gnt ?_
         have S := ((((((S.nil.cons S 3 rfl).cons S 5 rfl).cons S 7 rfl).cons S 11 rfl).cons S 14 rfl).cons S 16 rfl).cons S 17 rfl
         refine g_seq ?_
         refine gsr ?_
         refine gy rfl rfl rfl S (y_load0 rfl S H rfl (by exact Fagg29)) fun a S => ?_
         refine gy rfl rfl rfl S (y_load0 rfl S H rfl (by exact Fagg29)) fun a S => ?_
         refine gy rfl rfl rfl S (y_nea (ordEq s.all[i] x) rfl Feqg29 S rfl rfl) fun a S => ?_
         refine gm S fun a S => ?_
         refine' wl_and 4 185 rfl S H rfl rfl rfl rfl rfl rfl rfl (fun _ S => (wn rfl)) (fun h28 kk => ?yh28) (fun a w S H => ?_)
         case yh28 =>
          have h28p := h28; try simp only [DL] at h28p
          refine gz 185 h28 S rfl rfl rfl rfl rfl rfl (y_move rfl S rfl) fun a S => ?_
          refine gz 185 h28 S rfl rfl rfl rfl rfl rfl (y_load0 rfl S H rfl (by exact Fagg29)) fun a S => ?_
          refine wl_of (op_call (wg' 185 rfl rfl S rfl h28 rfl) rfl rfl S (co_func rfl Try.call20 S rfl) (in_spec u38 s2.all s.all[i] _ (H.sl u38)) fun v w hc a S => ?_)
          obtain ⟨rfl, he⟩ := hc
          have H := H.ext he
          refine gz 185 h28 S rfl rfl rfl rfl rfl rfl (y_not rfl S rfl) fun a S => ?_
          refine gy rfl rfl rfl S (y_and' rfl h28 S rfl rfl) fun a S => ?_
          exact kk _ _ (S.join 5 190 rfl rfl) H
         refine gnt ?_
         have S := (((((((S.nil.cons S 3 rfl).cons S 5 rfl).cons S 7 rfl).cons S 11 rfl).cons S 14 rfl).cons S 16 rfl).cons S 17 rfl).cons S 190 rfl
         refine c_if S rfl (fun h29 => ?_) (fun h29 => ?_)
         ·have h29p := h29; try simp only [DL] at h29p
          all_goals (
            exfalso
            have hd := h29
            simp [hmem, List.getElem_mem] at hd)
         ·have h29p := h29; try simp only [DL] at h29p
          refine g_skip ?_
          refine n_then ?_
          refine gsr ?_
          refine gy rfl rfl rfl S (y_faddrb rfl Ffo29_2 S rfl) fun a S => ?_
          refine gy rfl rfl rfl S (y_load rfl Fsca4 S H rfl rfl) fun a S => ?_
          refine gm S fun a S => ?_
          refine' wl_and 5 193 rfl S H rfl rfl rfl rfl rfl rfl rfl (fun _ S => (wn rfl)) (fun h30 kk => ?yh30) (fun a w S H => ?_)
          case yh30 =>
           have h30p := h30; try simp only [DL] at h30p
           refine gz 193 h30 S rfl rfl rfl rfl rfl rfl (y_faddrb rfl Ffo29_1 S rfl) fun a S => ?_
           refine gz 193 h30 S rfl rfl rfl rfl rfl rfl (y_load rfl Fsca3 S H rfl rfl) fun a S => ?_
           refine gz 193 h30 S rfl rfl rfl rfl rfl rfl (y_faddrb rfl Ffo29_1 S rfl) fun a S => ?_
           refine gz 193 h30 S rfl rfl rfl rfl rfl rfl (y_load rfl Fsca3 S H rfl rfl) fun a S => ?_
           refine gz 193 h30 S rfl rfl rfl rfl rfl rfl (y_bin rfl S rfl rfl rfl) fun a S => ?_
           refine gy rfl rfl rfl S (y_and' rfl h30 S rfl rfl) fun a S => ?_
           exact kk _ _ (S.join 6 199 rfl rfl) H
          refine gm S fun a S => ?_
          refine' wl_or 10 200 rfl S H rfl rfl rfl rfl rfl rfl rfl (fun _ S => (wn rfl)) (fun h31 kk => ?yh31) (fun a w S H => ?_)
          case yh31 =>
           have h31p := h31; try simp only [DL] at h31p
           refine gz 200 h31 S rfl rfl rfl rfl rfl rfl (y_faddrb rfl Ffo29_2 S rfl) fun a S => ?_
           refine gz 200 h31 S rfl rfl rfl rfl rfl rfl (y_load rfl Fsca4 S H rfl rfl) fun a S => ?_
           refine gz 200 h31 S rfl rfl rfl rfl rfl rfl (y_not rfl S rfl) fun a S => ?_
           refine gz 200 h31 S rfl rfl rfl rfl rfl rfl (y_move rfl S rfl) fun a S => ?_
           refine' wl_and 5 204 rfl S H rfl rfl rfl rfl rfl rfl rfl (fun _ S => (wg' 200 rfl rfl S rfl h31 rfl)) (fun h32 kk => ?yh32) (fun a w S H => ?_)
           case yh32 =>
            have h32p := h32; try simp only [DL] at h32p
            refine gz 204 h32 S rfl rfl rfl rfl rfl rfl (y_faddrb rfl Ffo29_1 S rfl) fun a S => ?_
            refine gz 204 h32 S rfl rfl rfl rfl rfl rfl (y_load rfl Fsca3 S H rfl rfl) fun a S => ?_
            refine gz 204 h32 S rfl rfl rfl rfl rfl rfl (y_faddrb rfl Ffo29_1 S rfl) fun a S => ?_
            refine gz 204 h32 S rfl rfl rfl rfl rfl rfl (y_load rfl Fsca3 S H rfl rfl) fun a S => ?_
            refine gz 204 h32 S rfl rfl rfl rfl rfl rfl (y_bin rfl S rfl rfl rfl) fun a S => ?_
            refine gz 200 h31 S rfl rfl rfl rfl rfl rfl (y_and' rfl h32 S rfl rfl) fun a S => ?_
            exact kk _ _ (S.join 6 210 rfl rfl) H
           refine gy rfl rfl rfl S (y_or' rfl h31 S rfl rfl) fun a S => ?_
           exact kk _ _ (S.join 6 211 rfl rfl) H
          refine gm S fun a S => ?_
          refine' wl_or 12 212 rfl S H rfl rfl rfl rfl rfl rfl rfl (fun _ S => (wn rfl)) (fun h33 kk => ?yh33) (fun a w S H => ?_)
          case yh33 =>
           have h33p := h33; try simp only [DL] at h33p
           refine gz 212 h33 S rfl rfl rfl rfl rfl rfl (y_faddrb rfl Ffo29_1 S rfl) fun a S => ?_
           refine gz 212 h33 S rfl rfl rfl rfl rfl rfl (y_load rfl Fsca3 S H rfl rfl) fun a S => ?_
           refine gz 212 h33 S rfl rfl rfl rfl rfl rfl (y_faddrb rfl Ffo29_1 S rfl) fun a S => ?_
           refine gz 212 h33 S rfl rfl rfl rfl rfl rfl (y_load rfl Fsca3 S H rfl rfl) fun a S => ?_
           refine gz 212 h33 S rfl rfl rfl rfl rfl rfl (y_bin rfl S rfl rfl rfl) fun a S => ?_
           refine gz 212 h33 S rfl rfl rfl rfl rfl rfl (y_move rfl S rfl) fun a S => ?_
           refine' wl_and 5 218 rfl S H rfl rfl rfl rfl rfl rfl rfl (fun _ S => (wg' 212 rfl rfl S rfl h33 rfl)) (fun h34 kk => ?yh34) (fun a w S H => ?_)
           case yh34 =>
            have h34p := h34; try simp only [DL] at h34p
            refine gz 218 h34 S rfl rfl rfl rfl rfl rfl (y_faddrb rfl Ffo29_0 S rfl) fun a S => ?_
            refine gz 218 h34 S rfl rfl rfl rfl rfl rfl (y_load rfl Fsca3 S H rfl rfl) fun a S => ?_
            refine gz 218 h34 S rfl rfl rfl rfl rfl rfl (y_faddrb rfl Ffo29_0 S rfl) fun a S => ?_
            refine gz 218 h34 S rfl rfl rfl rfl rfl rfl (y_load rfl Fsca3 S H rfl rfl) fun a S => ?_
            refine gz 218 h34 S rfl rfl rfl rfl rfl rfl (y_bin rfl S rfl rfl rfl) fun a S => ?_
            refine gz 212 h33 S rfl rfl rfl rfl rfl rfl (y_and' rfl h34 S rfl rfl) fun a S => ?_
            exact kk _ _ (S.join 6 224 rfl rfl) H
           refine gy rfl rfl rfl S (y_or' rfl h33 S rfl rfl) fun a S => ?_
           exact kk _ _ (S.join 8 225 rfl rfl) H
          refine ga S fun a S => ?_
          refine gnt ?_
          have S := (((((((S.nil.cons S 3 rfl).cons S 5 rfl).cons S 7 rfl).cons S 11 rfl).cons S 14 rfl).cons S 16 rfl).cons S 17 rfl).cons S 18 rfl
          refine gsr ?_
          refine gy rfl rfl rfl S (y_load0 rfl S H rfl (by exact Fagg29)) fun a S => ?_
          refine gy rfl rfl rfl S (y_load0 rfl S H rfl (by exact Fagg29)) fun a S => ?_
          refine wl_of (op_call (wn rfl) rfl rfl S (co_func rfl Try.call19 S rfl) (match_spec s.all[i] o _) fun v w hc a S => ?_)
          obtain ⟨rfl, he⟩ := hc
          have H := H.ext he
          refine gm S fun a S => ?_
          refine' wl_and 1 229 rfl S H rfl rfl rfl rfl rfl rfl rfl (fun _ S => (wn rfl)) (fun h35 kk => ?yh35) (fun a w S H => ?_)
          case yh35 =>
           have h35p := h35; try simp only [DL] at h35p
           refine gz 229 h35 S rfl rfl rfl rfl rfl rfl (y_move rfl S rfl) fun a S => ?_
           refine gy rfl rfl rfl S (y_and' rfl h35 S rfl rfl) fun a S => ?_
           exact kk _ _ (S.join 2 231 rfl rfl) H
          refine gnt ?_
          have S := ((((((S.nil.cons S 3 rfl).cons S 5 rfl).cons S 7 rfl).cons S 11 rfl).cons S 14 rfl).cons S 16 rfl).cons S 231 rfl
          refine c_if S rfl (fun h36 => ?_) (fun h36 => ?_)
          ·have h36p := h36; try simp only [DL] at h36p
           all_goals (
             exfalso
             have hd := h36
             simp only [Bool.and_eq_true, Bool.or_eq_true, decide_eq_true_eq, Bool.not_eq_true', beq_iff_eq, gt_iff_lt] at hd
             have hnb := not_better hxm hd.1 (hbest _ (List.getElem_mem hil2) hd.1)
             obtain ⟨_, hd⟩ := hd
             rcases hd with (hd | hd) | hd
             · exact hnb (.inl hd)
             · exact hnb (.inr (.inl hd))
             · exact hnb (.inr (.inr hd)))
          ·have h36p := h36; try simp only [DL] at h36p
           refine g_skip ?_
           refine n_block ?_
           refine n_then ?_
           refine g_region ?_
           refine gm S fun a S => ?_
           refine gy rfl rfl rfl S (y_add rfl S rfl rfl (by omega)) fun a S => ?_
           refine ga S fun a S => ?_
           refine gnt ?_
           exact ⟨i + 1, S.nil.cons S 16 rfl, ((((S.nil.cons S 3 rfl).cons S 5 rfl).cons S 7 rfl).cons S 11 rfl).cons S 14 rfl, H.drop 1, by omega, by omega⟩
        ·have h27p := h27; try simp only [DL] at h27p
         refine g_exit ?_
         refine x_then (x_then (x_eq ?_))
         refine n_then ?_
         have S := S.nil.cons S 5 rfl
         refine gsr ?_
         refine gm S fun a S => ?_
         refine ga S fun a S => ?_
         refine gnt ?_
         refine g_ret ?_
         refine ret1 rfl S rfl ?_
         exact ⟨rfl, H.toExt⟩
end Go.Proofs.Ytcgpbalpihkiiaa
