/- The walks. No condition. -/
import Derived.Test.YtcgpbalpihkiiaaChecked
import Derived.Test.YtcgpbalpihkiiaaGwIns
import Derived.Test.YtcgpbalpihkiiaaFacts
import Derived.Test.YtcgpbalpihkiiaaPlain
import Derived.Test.YtcgpbalpihkiiaaPlainE
import Derived.Test.YtcgpbalpihkiiaaPlainD
import Derived.Test.YtcgpbalpihkiiaaW9
namespace Go.Proofs.Ytcgpbalpihkiiaa
open Go Go.Gw
set_option linter.unusedVariables false
set_option linter.unusedSimpArgs false
set_option maxHeartbeats 2000000 in
/-- foyer/foyerlaw33.BookCancels -/
theorem law4 (v vm : Value) (ps qs : List Opn) (raw : Nat) (w0 : World) (hv : IsSl w0 v 6 Opn.enc ps) (hvm : IsSl w0 vm 6 Opn.enc qs) (hok : ∀ p ∈ ps, p.ok) (hoq : ∀ p ∈ qs, p.ok) (hraw : raw ≤ 255) :
    Ret Try.prog 6 #[v, vm, .int .u8 (raw : Int)] w0 (fun u w => u = .bool true ∧ Ext w0 w) := by
 refine ret_of_wp (nt := 154) Try.func6 rfl rfl rfl (fl := [(0, v), (1, vm), (2, .int .u8 (raw : Int))]) rfl (fun a S => ?_)
 have H := HSat.start w0
 have H := H.ro0 (Sl v 6 Opn.enc ps) rfl (hv)
 have H := H.ro0 (Sl vm 6 Opn.enc qs) rfl (hvm)
 have hlv := hv.len
 have hlm := hvm.len
 refine gsr ?_
 refine ga S fun a S => ?_
 refine gnt ?_
 refine gsr ?_
 refine wl_of (op_call (wn rfl) rfl rfl S (co_func rfl Try.call8 S rfl) (head_spec _) fun v w hc a S => ?_)
 obtain ⟨rfl, he⟩ := hc
 have H := H.ext he
 refine ga S fun a S => ?_
 refine gnt ?_
 refine g_seq ?_
 refine gsr ?_
 refine gm S fun a S => ?_
 refine gy rfl rfl rfl S (y_lens rfl Try.underlying22 S H rfl) fun a S => ?_
 refine gy rfl rfl rfl S (y_bin rfl S rfl rfl rfl) fun a S => ?_
 refine gm S fun a S => ?_
 refine' wl_or 3 22 rfl S H rfl rfl rfl rfl rfl rfl rfl (fun _ S => (wn rfl)) (fun h1 kk => ?yh1) (fun a w S H => ?_)
 case yh1 =>
  have h1p := h1; try simp only [DL] at h1p
  refine gz 22 h1 S rfl rfl rfl rfl rfl rfl (y_move rfl S rfl) fun a S => ?_
  refine gz 22 h1 S rfl rfl rfl rfl rfl rfl (y_lens rfl Try.underlying22 S H rfl) fun a S => ?_
  refine gz 22 h1 S rfl rfl rfl rfl rfl rfl (y_bin rfl S rfl rfl rfl) fun a S => ?_
  refine gy rfl rfl rfl S (y_or' rfl h1 S rfl rfl) fun a S => ?_
  exact kk _ _ (S.join 4 26 rfl rfl) H
 refine gnt ?_
 have S := (((((S.nil.cons S 2 rfl).cons S 1 rfl).cons S 0 rfl).cons S 6 rfl).cons S 7 rfl).cons S 26 rfl
 refine c_if S rfl (fun h2 => ?_) (fun h2 => ?_)
 ·have h2p := h2; try simp only [DL] at h2p
  refine gsr ?_
  refine gm S fun a S => ?_
  refine ga S fun a S => ?_
  refine gnt ?_
  refine g_ret ?_
  refine r_then (ret1 rfl S rfl ?_)
  exact ⟨rfl, H.toExt⟩
 ·have h2p := h2; try simp only [DL] at h2p
  have hl40 : ps.length ≤ 40 ∧ qs.length ≤ 40 := by have := h2p; omega
  refine g_skip ?_
  refine n_then ?_
  refine gsr ?_
  refine wl_of (op_call (wn rfl) rfl rfl S (co_func rfl Try.call9 S rfl) (new_at _) fun v w hc a S => ?_)
  obtain ⟨b, mb, rfl, H1⟩ := hc
  obtain ⟨vv0, hvv0⟩ : ∃ vv0, vv0 = ((.slice none 0 0, .slice none 0 0) : Value × Value) := ⟨_, rfl⟩
  rw [← hvv0] at H1
  have H := H.call1 H1 rfl
  refine ga S fun a S => ?_
  refine gnt ?_
  refine gsr ?_
  refine gm S fun a S => ?_
  refine gm S fun a S => ?_
  refine wl_of (op_call (wn rfl) rfl rfl S (co_func rfl Try.call18 S rfl) (Ret.atE (x := BookA b mb (Bk.z) vv0) H (fun H => do_spec b mb (Bk.z) vv0 v ps 0 _ H hok (inv_z) (by omega))) fun v w hc a S => ?_)
  obtain ⟨_, z31, H⟩ := hc
  
  refine gnt ?_
  have S := ((((S.nil.cons S 2 rfl).cons S 1 rfl).cons S 6 rfl).cons S 7 rfl).cons S 8 rfl
  refine g_seq ?_
  have hI := (inv_runs inv_z ps).mono (N' := 500) (by omega)
  obtain ⟨s, hs⟩ : ∃ s, s = runs Bk.z ps := ⟨_, rfl⟩
  rw [← hs] at H hI
  have hil := hI.len
  ·skip
   refine g_region ?_
   refine gm S fun a S => ?_
   refine wl_of (op_call (wn rfl) rfl rfl S (co_func rfl Try.call16 S rfl) (orders_at hI (by omega) (H.front (BookA b mb (s) z31))) fun u33 w hc a S => ?_)
   have H1 := hc
   have H := H.call1 H1 rfl
   have hle : s.all.length ≤ 500 := by simp only [Bk.all, List.length_append]; omega
   rw [show s.offers ++ s.bids = s.all from rfl] at H
   refine ga S fun a S => ?_
   refine gnt ?_
   refine g_seq ?_
   refine gsr ?_
   refine gm S fun a S => ?_
   refine gy rfl rfl rfl S (y_lens rfl Try.underlying39 S H rfl) fun a S => ?_
   refine gy rfl rfl rfl S (y_bin rfl S rfl rfl rfl) fun a S => ?_
   refine gnt ?_
   have S := ((((((S.nil.cons S 2 rfl).cons S 1 rfl).cons S 6 rfl).cons S 7 rfl).cons S 8 rfl).cons S 9 rfl).cons S 36 rfl
   refine c_if S rfl (fun h3 => ?_) (fun h3 => ?_)
   ·have h3p := h3; try simp only [DL] at h3p
    refine gsr ?_
    refine gm S fun a S => ?_
    refine ga S fun a S => ?_
    refine gnt ?_
    refine g_ret ?_
    refine r_then (ret1 rfl S rfl ?_)
    exact ⟨rfl, H.toExt⟩
   ·have h3p := h3; try simp only [DL] at h3p
    have hne : 0 < s.all.length := by have := h3p; omega
    obtain ⟨m, hm⟩ : ∃ m, m = raw % s.all.length := ⟨_, rfl⟩
    have hml : m < s.all.length := by rw [hm]; exact Nat.mod_lt _ hne
    refine g_skip ?_
    refine n_then ?_
    refine gsr ?_
    refine gm S fun a S => ?_
    refine gm S fun a S => ?_
    refine gy rfl rfl rfl S (y_conv rfl Try.underlying5 Try.underlying3 S rfl (by omega)) fun a S => ?_
    refine gm S fun a S => ?_
    refine gy rfl rfl rfl S (y_lens rfl Try.underlying39 S H rfl) fun a S => ?_
    refine gy rfl rfl rfl S ((y_remN (m := raw) (q := s.all.length) rfl S rfl rfl (by omega))) fun a S => ?_
    rw [← hm] at S
    refine gy rfl rfl rfl S (y_iaddrn rfl Try.underlying39 Fsiz29 S H rfl rfl (by first | assumption | omega | (simp only [LL]; omega))) fun a S => ?_
    refine gy rfl rfl rfl S (y_loadsa _ rfl S H rfl (by exact Fagg29) (by first | assumption | omega | (simp only [LL]; omega))) fun a S => ?_
    obtain ⟨x, hxe⟩ : ∃ x, x = s.all[m] := ⟨_, rfl⟩
    rw [← hxe] at S
    have hxm : x ∈ s.all := by rw [hxe]; exact List.getElem_mem _
    obtain ⟨hx0, hxs⟩ := valid_id (hI.val x hxm)
    obtain ⟨c15, c0, cm, cl, cg⟩ := can_mem hI hxm
    refine wl_of (op_alloc (wn rfl) rfl rfl rfl S H Fzer29 fun b10 a w S H => ?_)
    refine wl_of (op_storea (wn rfl) rfl rfl S H rfl rfl rfl Fsiz29 rfl (cs' := [_, _, _, _, _]) rfl fun a w S H => ?_)
    refine gnt ?_
    have S := (((((S.nil.cons S 1 rfl).cons S 6 rfl).cons S 7 rfl).cons S 8 rfl).cons S 9 rfl).cons S 10 rfl
    refine g_seq ?_
    refine gsr ?_
    refine gm S fun a S => ?_
    refine gy rfl rfl rfl S (y_faddrb rfl Ffo29_0 S rfl) fun a S => ?_
    refine gy rfl rfl rfl S (y_load rfl Fsca3 S H rfl rfl) fun a S => ?_
    refine gy rfl rfl rfl S (y_faddrb rfl Ffo29_3 S rfl) fun a S => ?_
    refine gy rfl rfl rfl S (y_load rfl Fsca9 S H rfl rfl) fun a S => ?_
    refine gy rfl rfl rfl S ((y_adds rfl S rfl rfl (by have e1 : (⟨#[120]⟩ : ByteArray).size = 1 := rfl; omega))) fun a S => ?_
    refine wl_of (op_call (wn rfl) rfl rfl S (co_func rfl Try.call11 S rfl) (Ret.atE (x := BookA b mb (s) z31) H (fun H => cancel_at x.id _ hI (by omega) H)) fun v w hc a S => ?_)
    obtain ⟨rfl, z52, H⟩ := hc
    rw [(c15 _ (str_x _)).1] at S
    rw [(c15 _ (str_x _)).2] at H
    refine gy rfl rfl rfl S (y_bin rfl S rfl rfl rfl) fun a S => ?_
    refine gm S fun a S => ?_
    refine gz 54 rfl S rfl rfl rfl rfl rfl rfl (y_move rfl S rfl) fun a S => ?_
    refine gz 54 rfl S rfl rfl rfl rfl rfl rfl (y_faddrb rfl Ffo29_0 S rfl) fun a S => ?_
    refine gz 54 rfl S rfl rfl rfl rfl rfl rfl (y_load rfl Fsca3 S H rfl rfl) fun a S => ?_
    refine gz 54 rfl S rfl rfl rfl rfl rfl rfl (y_faddrb rfl Ffo29_3 S rfl) fun a S => ?_
    refine gz 54 rfl S rfl rfl rfl rfl rfl rfl (y_load rfl Fsca9 S H rfl rfl) fun a S => ?_
    refine wl_of (op_call (wg' 54 rfl rfl S rfl rfl rfl) rfl rfl S (co_func rfl Try.call11 S rfl) (Ret.atE (x := BookA b mb (s) z52) H (fun H => cancel_at x.id x.person hI (by omega) H)) fun v w hc a S => ?_)
    obtain ⟨rfl, z60, H⟩ := hc
    rw [c0] at S
    obtain ⟨s2, hs2⟩ : ∃ s2, s2 = cancelS s x.id x.person := ⟨_, rfl⟩
    rw [← hs2] at H cm cl cg
    have hI2 : Inv s2 500 := by rw [hs2]; exact inv_cancel hI _ _
    refine gz 54 rfl S rfl rfl rfl rfl rfl rfl (y_bin rfl S rfl rfl rfl) fun a S => ?_
    refine gy rfl rfl rfl S (y_or' rfl rfl S rfl rfl) fun a S => ?_
    refine gm S fun a S => ?_
    refine gz 63 rfl S rfl rfl rfl rfl rfl rfl (y_move rfl S rfl) fun a S => ?_
    refine gz 63 rfl S rfl rfl rfl rfl rfl rfl (y_faddrb rfl Ffo29_0 S rfl) fun a S => ?_
    refine gz 63 rfl S rfl rfl rfl rfl rfl rfl (y_load rfl Fsca3 S H rfl rfl) fun a S => ?_
    refine gz 63 rfl S rfl rfl rfl rfl rfl rfl (y_faddrb rfl Ffo29_3 S rfl) fun a S => ?_
    refine gz 63 rfl S rfl rfl rfl rfl rfl rfl (y_load rfl Fsca9 S H rfl rfl) fun a S => ?_
    refine wl_of (op_call (wg' 63 rfl rfl S rfl rfl rfl) rfl rfl S (co_func rfl Try.call11 S rfl) (Ret.atE (x := BookA b mb (s2) z60) H (fun H => cancel_at x.id x.person hI2 (by omega) H)) fun v w hc a S => ?_)
    obtain ⟨rfl, z69, H⟩ := hc
    rw [(gone_none cg _).1] at S
    rw [(gone_none cg _).2] at H
    refine gz 63 rfl S rfl rfl rfl rfl rfl rfl (y_bin rfl S rfl rfl rfl) fun a S => ?_
    refine gy rfl rfl rfl S (y_or' rfl rfl S rfl rfl) fun a S => ?_
    refine gnt ?_
    have S := ((((((S.nil.cons S 1 rfl).cons S 6 rfl).cons S 7 rfl).cons S 8 rfl).cons S 9 rfl).cons S 10 rfl).cons S 71 rfl
    refine c_if S rfl (fun h6 => ?_) (fun h6 => ?_)
    ·have h6p := h6; try simp only [DL] at h6p
     all_goals (
       exact absurd h6 (by decide))
    ·have h6p := h6; try simp only [DL] at h6p
     refine g_skip ?_
     refine n_then ?_
     refine gsr ?_
     refine gm S fun a S => ?_
     refine wl_of (op_call (wn rfl) rfl rfl S (co_func rfl Try.call16 S rfl) (orders_at hI2 (by omega) (H.front (BookA b mb (s2) z69))) fun u73 w hc a S => ?_)
     have H1 := hc
     have H := H.call1 H1 rfl
     rw [show s2.offers ++ s2.bids = s2.all from rfl] at H
     refine ga S fun a S => ?_
     refine gnt ?_
     refine g_seq ?_
     refine gsr ?_
     refine ga S fun a S => ?_
     refine gnt ?_
     refine g_block ?_
     have SU := (((((S.nil.cons S 1 rfl).cons S 7 rfl).cons S 8 rfl).cons S 9 rfl).cons S 10 rfl).cons S 11 rfl
     refine loop_k (X := Nat) SU (fun j => [(12, .int .i64 (j : Int))]) (fun j => j ≤ s.all.length) (fun j => s.all.length - j) 0 (S.nil.cons S 12 rfl) H (Nat.zero_le _) (fun j a w S H hi => ?_)
     simp only [List.cons_append, List.nil_append] at S hi
     refine g_seq ?_
     refine gsr ?_
     refine gm S fun a S => ?_
     refine gm S fun a S => ?_
     refine gy rfl rfl rfl S (y_lens rfl Try.underlying39 S H rfl) fun a S => ?_
     refine gy rfl rfl rfl S (y_bin rfl S rfl rfl rfl) fun a S => ?_
     refine gnt ?_
     refine c_if S rfl (fun h7 => ?_) (fun h7 => ?_)
     ·have h7p := h7; try simp only [DL] at h7p
      have hjl : j < s.all.length := by omega
      refine g_skip ?_
      refine n_then ?_
      have S := ((((((S.nil.cons S 1 rfl).cons S 7 rfl).cons S 8 rfl).cons S 9 rfl).cons S 10 rfl).cons S 11 rfl).cons S 12 rfl
      refine g_seq ?_
      refine g_block ?_
      refine g_seq ?_
      refine region_st (loud := [5]) (tails := []) (free := []) [0, 1, 2, 3, 4, 6, 7, 8, 9, 10, 11, 5, 12] [] Fmo (by kernel_rfl) (by kernel_rfl) rfl H ?_
      refine m_w rfl rfl (wn rfl) rfl rfl S (fun w H => y_move rfl S rfl) fun a S => ?_
      refine m_w rfl rfl (wn rfl) rfl rfl S (fun w H => y_move rfl S rfl) fun a S => ?_
      refine m_w rfl rfl (wn rfl) rfl rfl S (fun w H => y_move rfl S rfl) fun a S => ?_
      refine m_w rfl rfl (wn rfl) rfl rfl S (fun w H => y_iaddrn rfl Try.underlying39 Fsiz29 S H rfl rfl (by first | assumption | omega | (simp only [LL]; omega))) fun a S => ?_
      refine m_loadsa _ rfl rfl (wn rfl) rfl rfl S rfl rfl (by exact Fagg29) (by first | assumption | omega | (simp only [LL]; omega)) fun a S => ?_
      refine m_w rfl rfl (wn rfl) rfl rfl S (fun w H => y_move rfl S rfl) fun a S => ?_
      refine m_w rfl rfl (wn rfl) rfl rfl S (fun w H => y_move rfl S rfl) fun a S => ?_
      refine m_w rfl rfl (wn rfl) rfl rfl S (fun w H => y_iaddrn rfl Try.underlying39 Fsiz29 S H rfl rfl (by first | assumption | omega | (simp only [LL]; omega))) fun a S => ?_
      refine m_loadsa _ rfl rfl (wn rfl) rfl rfl S rfl rfl (by exact Fagg29) (by first | assumption | omega | (simp only [LL]; omega)) fun a S => ?_
      refine m_w rfl rfl (wn rfl) rfl rfl S (fun w H => y_load0 rfl S H rfl (by exact Fagg29)) fun a S => ?_
      refine m_w rfl rfl (wn rfl) rfl rfl S (fun w H => y_nea (ordEq s.all[j] x) rfl Feqg29 S rfl rfl) fun a S => ?_
      refine m_l rfl rfl (fun w H => op_call (wn rfl) rfl rfl S (co_func rfl Try.call20 S rfl) (in_spec u73 s2.all s.all[j] _ (H.sl u73)) fun v w hc a S => ?_)
      obtain ⟨rfl, he⟩ := hc
      have H := H.ext he
      refine m_next H (by exact List.Sublist.refl _) ?_
      refine m_w rfl rfl (wn rfl) rfl rfl S (fun w H => y_neb rfl Try.underlying4 S rfl rfl) fun a S => ?_
      refine m_nil (fun w H => ?_)
      refine n_then ?_
      have S := (((((((S.nil.cons S 1 rfl).cons S 7 rfl).cons S 8 rfl).cons S 9 rfl).cons S 10 rfl).cons S 11 rfl).cons S 12 rfl).cons S 92 rfl
      refine c_if S rfl (fun h8 => ?_) (fun h8 => ?_)
      ·have h8p := h8; try simp only [DL] at h8p
       all_goals (
         exfalso
         have hd : decide (s.all[j] ∈ s2.all) = !decide (s.all[j] = x) := by rw [Bool.eq_iff_iff]; simp [cm, List.getElem_mem]
         rw [hd] at h8
         simp at h8)
      ·have h8p := h8; try simp only [DL] at h8p
       refine g_skip ?_
       refine n_block ?_
       refine n_then ?_
       refine g_region ?_
       refine gm S fun a S => ?_
       refine gy rfl rfl rfl S (y_add rfl S rfl rfl (by omega)) fun a S => ?_
       refine ga S fun a S => ?_
       refine gnt ?_
       refine ⟨j + 1, S.nil.cons S 12 rfl, (((((S.nil.cons S 1 rfl).cons S 7 rfl).cons S 8 rfl).cons S 9 rfl).cons S 10 rfl).cons S 11 rfl, H, ?_, ?_⟩
       · omega
       · omega
     ·have h7p := h7; try simp only [DL] at h7p
      refine g_exit ?_
      refine x_then (x_then (x_eq ?_))
      refine n_then ?_
      have S := (((((S.nil.cons S 1 rfl).cons S 7 rfl).cons S 8 rfl).cons S 9 rfl).cons S 10 rfl).cons S 11 rfl
      refine g_seq ?_
      refine gsr ?_
      refine ga S fun a S => ?_
      refine gnt ?_
      refine g_block ?_
      have SU := (((((S.nil.cons S 1 rfl).cons S 7 rfl).cons S 8 rfl).cons S 9 rfl).cons S 10 rfl).cons S 11 rfl
      refine loopW (X := Nat × (Value × Value)) SU (fun y => [(13, .int .i64 (y.1 : Int))]) (fun y w => y.1 ≤ qs.length ∧ HSat No w0 [BookA b mb (runs s2 (qs.take y.1)) y.2, Cel b10 29 [.int .i64 x.id, .int .i64 x.price, .bool x.sell, .string x.person, .int .i64 x.serial], OSl 29 u73 5 Ord.enc s2.all, OSl 29 u33 5 Ord.enc s.all, Sl vm 6 Opn.enc qs] w) (fun y => qs.length - y.1) (0, z69) (S.nil.cons S 13 rfl) (⟨Nat.zero_le _, H.take [BookA b mb (s2) z69, Cel b10 29 [.int .i64 x.id, .int .i64 x.price, .bool x.sell, .string x.person, .int .i64 x.serial], OSl 29 u73 5 Ord.enc s2.all, OSl 29 u33 5 Ord.enc s.all, Sl vm 6 Opn.enc qs]⟩) (fun y a w S hW => ?_)
      simp only [List.cons_append, List.nil_append] at S
      clear H
      obtain ⟨k, vv⟩ := y
      obtain ⟨hk, H⟩ := hW
      dsimp only at S H hk
      refine g_seq ?_
      refine gsr ?_
      refine gm S fun a S => ?_
      refine gm S fun a S => ?_
      refine gy rfl rfl rfl S (y_lens rfl Try.underlying22 S H rfl) fun a S => ?_
      refine gy rfl rfl rfl S (y_bin rfl S rfl rfl rfl) fun a S => ?_
      refine gnt ?_
      refine c_if S rfl (fun h9 => ?_) (fun h9 => ?_)
      ·have h9p := h9; try simp only [DL] at h9p
       have hkl : k < qs.length := by omega
       have hrt := runs_take (s := s2) hkl
       have hik := (inv_runs hI2 (qs.take k)).mono (N' := 600) (by rw [List.length_take]; omega)
       have hg := gone_runs cg hx0 (qs.take k)
       refine g_skip ?_
       refine n_then ?_
       have S := ((((((S.nil.cons S 1 rfl).cons S 7 rfl).cons S 8 rfl).cons S 9 rfl).cons S 10 rfl).cons S 11 rfl).cons S 13 rfl
       refine g_seq ?_
       refine g_block ?_
       refine gsr ?_
       refine gm S fun a S => ?_
       refine gm S fun a S => ?_
       refine gy rfl rfl rfl S (y_iaddrn rfl Try.underlying22 Fsiz31 S H rfl rfl (by first | assumption | omega | (simp only [LL]; omega))) fun a S => ?_
       refine gy rfl rfl rfl S (y_faddr rfl Ffo31_1 S rfl) fun a S => ?_
       refine gy rfl rfl rfl S (y_loadsfa vm rfl S H rfl (vs := Ord.enc qs[k].ord) (by exact Fagg29) (by omega) rfl) fun a S => ?_
       obtain ⟨o, hoe⟩ : ∃ o, o = qs[k].ord := ⟨_, rfl⟩
       rw [← hoe] at S
       have hoo : o.ok := by rw [hoe]; exact hoq _ (List.getElem_mem hkl)
       refine wl_of (op_alloc (wn rfl) rfl rfl rfl S H Fzer29 fun b14 a w S H => ?_)
       refine wl_of (op_storea (wn rfl) rfl rfl S H rfl rfl rfl Fsiz29 rfl (cs' := [_, _, _, _, _]) rfl fun a w S H => ?_)
       refine gnt ?_
       have S := (((((((S.nil.cons S 1 rfl).cons S 7 rfl).cons S 8 rfl).cons S 9 rfl).cons S 10 rfl).cons S 11 rfl).cons S 13 rfl).cons S 14 rfl
       refine g_seq ?_
       refine gsr ?_
       refine gm S fun a S => ?_
       refine gm S fun a S => ?_
       refine gy rfl rfl rfl S (y_iaddrn rfl Try.underlying22 Fsiz31 S H rfl rfl (by first | assumption | omega | (simp only [LL]; omega))) fun a S => ?_
       refine gy rfl rfl rfl S (y_faddr rfl Ffo31_0 S rfl) fun a S => ?_
       refine gy rfl rfl rfl S (y_loadsf _ rfl Fsca4 S H rfl (by first | assumption | omega | (simp only [LL]; omega)) rfl) fun a S => ?_
       refine gnt ?_
       have S := ((((((((S.nil.cons S 1 rfl).cons S 7 rfl).cons S 8 rfl).cons S 9 rfl).cons S 10 rfl).cons S 11 rfl).cons S 13 rfl).cons S 14 rfl).cons S 108 rfl
       refine c_if S rfl (fun h10 => ?_) (fun h10 => ?_)
       ·have h10p := h10; try simp only [DL] at h10p
        have hst : stepB (runs s2 (qs.take k)) qs[k] = cancelS (runs s2 (qs.take k)) o.id o.person := by rw [stepB, if_pos h10, hoe]
        refine gsr ?_
        refine gm S fun a S => ?_
        refine gy rfl rfl rfl S (y_faddrb rfl Ffo29_0 S rfl) fun a S => ?_
        refine gy rfl rfl rfl S (y_load rfl Fsca3 S H rfl rfl) fun a S => ?_
        refine gy rfl rfl rfl S (y_faddrb rfl Ffo29_3 S rfl) fun a S => ?_
        refine gy rfl rfl rfl S (y_load rfl Fsca9 S H rfl rfl) fun a S => ?_
        refine wl_of (op_call (wn rfl) rfl rfl S (co_func rfl Try.call11 S rfl) (Ret.atE (x := BookA b mb (runs s2 (qs.take k)) vv) H (fun H => cancel_at o.id o.person hik (by omega) H)) fun v w hc a S => ?_)
        obtain ⟨rfl, z1, H⟩ := hc
        
        refine gnt ?_
        have S := (((((((S.nil.cons S 1 rfl).cons S 7 rfl).cons S 8 rfl).cons S 9 rfl).cons S 10 rfl).cons S 11 rfl).cons S 13 rfl).cons S 14 rfl
        refine g_exit ?_
        refine x_then (x_eq ?_)
        refine n_then ?_
        refine g_region ?_
        refine gm S fun a S => ?_
        refine gy rfl rfl rfl S (y_add rfl S rfl rfl (by omega)) fun a S => ?_
        refine ga S fun a S => ?_
        refine gnt ?_
        rw [← hst] at H
        exact ⟨(k + 1, z1), S.nil.cons S 13 rfl, (((((S.nil.cons S 1 rfl).cons S 7 rfl).cons S 8 rfl).cons S 9 rfl).cons S 10 rfl).cons S 11 rfl, ⟨by dsimp only; omega, by dsimp only; rw [hrt]; exact H.take [BookA b mb (stepB (runs s2 (qs.take k)) qs[k]) z1, Cel b10 29 [.int .i64 x.id, .int .i64 x.price, .bool x.sell, .string x.person, .int .i64 x.serial], OSl 29 u73 5 Ord.enc s2.all, OSl 29 u33 5 Ord.enc s.all, Sl vm 6 Opn.enc qs]⟩, by dsimp only; omega⟩
       ·have h10p := h10; try simp only [DL] at h10p
        have hst : stepB (runs s2 (qs.take k)) qs[k] = placeS (runs s2 (qs.take k)) o := by rw [stepB, if_neg (by rw [show qs[k].cancel = false from h10]; simp), hoe]
        refine g_skip ?_
        refine n_then ?_
        refine gsr ?_
        refine gm S fun a S => ?_
        refine gy rfl rfl rfl S (y_load0 rfl S H rfl (by exact Fagg29)) fun a S => ?_
        refine wl_of (op_call (wn rfl) rfl rfl S (co_func rfl Try.call13 S rfl) (Ret.atE (x := BookA b mb (runs s2 (qs.take k)) vv) H (fun H => place_at o hik (by omega) hoo H)) fun v w hc a S => ?_)
        obtain ⟨rfl, z1, H⟩ := hc
        
        refine gm S fun a S => ?_
        refine gy rfl rfl rfl S (y_extract rfl S rfl rfl) fun a S => ?_
        refine gy rfl rfl rfl S (y_extract rfl S rfl rfl) fun a S => ?_
        refine gy rfl rfl rfl S (y_extract rfl S rfl rfl) fun a S => ?_
        refine wl_of (op_alloc (wn rfl) rfl rfl rfl S H Fzer35 fun b15 a w S H => ?_)
        refine wl_of (op_storea (wn rfl) rfl rfl S H rfl rfl rfl Fsiz35 rfl (cs' := [_, _, _]) rfl fun a w S H => ?_)
        refine ga S fun a S => ?_
        refine ga S fun a S => ?_
        refine gnt ?_
        have S := (((((((((S.nil.cons S 1 rfl).cons S 7 rfl).cons S 8 rfl).cons S 9 rfl).cons S 10 rfl).cons S 11 rfl).cons S 13 rfl).cons S 14 rfl).cons S 15 rfl).cons S 17 rfl
        refine gsr ?_
        refine gy rfl rfl rfl S (y_faddrb rfl Ffo35_0 S rfl) fun a S => ?_
        refine gy rfl rfl rfl S (y_load rfl Fsca3 S H rfl rfl) fun a S => ?_
        refine gy rfl rfl rfl S (y_faddrb rfl Ffo29_0 S rfl) fun a S => ?_
        refine gy rfl rfl rfl S (y_load rfl Fsca3 S H rfl rfl) fun a S => ?_
        refine gy rfl rfl rfl S (y_bin rfl S rfl rfl rfl) fun a S => ?_
        refine gm S fun a S => ?_
        refine' wl_or 5 127 rfl S H rfl rfl rfl rfl rfl rfl rfl (fun _ S => (wn rfl)) (fun h11 kk => ?yh11) (fun a w S H => ?_)
        case yh11 =>
         have h11p := h11; try simp only [DL] at h11p
         refine gz 127 h11 S rfl rfl rfl rfl rfl rfl (y_faddrb rfl Ffo35_1 S rfl) fun a S => ?_
         refine gz 127 h11 S rfl rfl rfl rfl rfl rfl (y_load rfl Fsca3 S H rfl rfl) fun a S => ?_
         refine gz 127 h11 S rfl rfl rfl rfl rfl rfl (y_faddrb rfl Ffo29_0 S rfl) fun a S => ?_
         refine gz 127 h11 S rfl rfl rfl rfl rfl rfl (y_load rfl Fsca3 S H rfl rfl) fun a S => ?_
         refine gz 127 h11 S rfl rfl rfl rfl rfl rfl (y_bin rfl S rfl rfl rfl) fun a S => ?_
         refine gy rfl rfl rfl S (y_or' rfl h11 S rfl rfl) fun a S => ?_
         exact kk _ _ (S.join 6 133 rfl rfl) H
        refine gm S fun a S => ?_
        refine' wl_or 9 134 rfl S H rfl rfl rfl rfl rfl rfl rfl (fun _ S => (wn rfl)) (fun h12 kk => ?yh12) (fun a w S H => ?_)
        case yh12 =>
         have h12p := h12; try simp only [DL] at h12p
         refine gz 134 h12 S rfl rfl rfl rfl rfl rfl (y_faddrb rfl Ffo29_0 S rfl) fun a S => ?_
         refine gz 134 h12 S rfl rfl rfl rfl rfl rfl (y_load rfl Fsca3 S H rfl rfl) fun a S => ?_
         refine gz 134 h12 S rfl rfl rfl rfl rfl rfl (y_faddrb rfl Ffo29_0 S rfl) fun a S => ?_
         refine gz 134 h12 S rfl rfl rfl rfl rfl rfl (y_load rfl Fsca3 S H rfl rfl) fun a S => ?_
         refine gz 134 h12 S rfl rfl rfl rfl rfl rfl (y_bin rfl S rfl rfl rfl) fun a S => ?_
         refine gz 134 h12 S rfl rfl rfl rfl rfl rfl (y_move rfl S rfl) fun a S => ?_
         refine' wl_and 2 140 rfl S H rfl rfl rfl rfl rfl rfl rfl (fun _ S => (wg' 134 rfl rfl S rfl h12 rfl)) (fun h13 kk => ?yh13) (fun a w S H => ?_)
         case yh13 =>
          have h13p := h13; try simp only [DL] at h13p
          refine gz 140 h13 S rfl rfl rfl rfl rfl rfl (y_move rfl S rfl) fun a S => ?_
          refine gz 140 h13 S rfl rfl rfl rfl rfl rfl (y_bin rfl S rfl rfl rfl) fun a S => ?_
          refine gz 134 h12 S rfl rfl rfl rfl rfl rfl (y_and' rfl h13 S rfl rfl) fun a S => ?_
          exact kk _ _ (S.join 3 143 rfl rfl) H
         refine gy rfl rfl rfl S (y_or' rfl h12 S rfl rfl) fun a S => ?_
         exact kk _ _ (S.join 8 144 rfl rfl) H
        refine gnt ?_
        have S := (((((((S.nil.cons S 1 rfl).cons S 7 rfl).cons S 8 rfl).cons S 9 rfl).cons S 10 rfl).cons S 11 rfl).cons S 13 rfl).cons S 144 rfl
        refine c_if S rfl (fun h14 => ?_) (fun h14 => ?_)
        ·have h14p := h14; try simp only [DL] at h14p
         all_goals (
           exfalso
           obtain ⟨g1, g2, g3, _⟩ := gone_place hg hx0 o
           have hd := h14
           simp [g1, g2, beqI] at hd
           exact g3 hd.1 hd.2)
        ·have h14p := h14; try simp only [DL] at h14p
         refine g_skip ?_
         refine n_block ?_
         refine n_then ?_
         refine g_region ?_
         refine gm S fun a S => ?_
         refine gy rfl rfl rfl S (y_add rfl S rfl rfl (by omega)) fun a S => ?_
         refine ga S fun a S => ?_
         refine gnt ?_
         rw [← hst] at H
         exact ⟨(k + 1, z1), S.nil.cons S 13 rfl, (((((S.nil.cons S 1 rfl).cons S 7 rfl).cons S 8 rfl).cons S 9 rfl).cons S 10 rfl).cons S 11 rfl, ⟨by dsimp only; omega, by dsimp only; rw [hrt]; exact H.take [BookA b mb (stepB (runs s2 (qs.take k)) qs[k]) z1, Cel b10 29 [.int .i64 x.id, .int .i64 x.price, .bool x.sell, .string x.person, .int .i64 x.serial], OSl 29 u73 5 Ord.enc s2.all, OSl 29 u33 5 Ord.enc s.all, Sl vm 6 Opn.enc qs]⟩, by dsimp only; omega⟩
      ·have h9p := h9; try simp only [DL] at h9p
       refine g_exit ?_
       refine x_then (x_then (x_eq ?_))
       refine n_then ?_
       have S := ((S.nil.cons S 7 rfl).cons S 9 rfl).cons S 11 rfl
       refine gsr ?_
       refine gm S fun a S => ?_
       refine gm S fun a S => ?_
       refine gz 146 rfl S rfl rfl rfl rfl rfl rfl (y_move rfl S rfl) fun a S => ?_
       refine gz 146 rfl S rfl rfl rfl rfl rfl rfl (y_lens rfl Try.underlying39 S H rfl) fun a S => ?_
       refine gz 146 rfl S rfl rfl rfl rfl rfl rfl (y_move rfl S rfl) fun a S => ?_
       refine gz 146 rfl S rfl rfl rfl rfl rfl rfl (y_lens rfl Try.underlying39 S H rfl) fun a S => ?_
       refine gz 146 rfl S rfl rfl rfl rfl rfl rfl (y_sub rfl S rfl rfl (by omega)) fun a S => ?_
       refine gz 146 rfl S rfl rfl rfl rfl rfl rfl (y_bin rfl S rfl rfl rfl) fun a S => ?_
       refine gy rfl rfl rfl S (y_and' rfl rfl S rfl rfl) fun a S => ?_
       refine ga S fun a S => ?_
       refine gnt ?_
       have S := S.nil.cons S 6 rfl
       refine g_ret ?_
       refine ret1 rfl S rfl ?_
       refine ⟨congrArg Value.bool ?_, H.toExt⟩
       simp
       omega
end Go.Proofs.Ytcgpbalpihkiiaa
