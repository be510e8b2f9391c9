/- The walks. No condition. -/
import Derived.Test.YtnnendajegdnhaaChecked
import Derived.Test.YtnnendajegdnhaaGwDel
import Derived.Test.YtnnendajegdnhaaFacts
import Derived.Test.YtnnendajegdnhaaPlain
import Derived.Test.YtnnendajegdnhaaPlainTi
import Derived.Test.YtnnendajegdnhaaT11
import Derived.Test.YtnnendajegdnhaaGwBits
import Derived.Test.YtnnendajegdnhaaPlainV
import Derived.Test.YtnnendajegdnhaaW5
namespace Go.Proofs.Ytnnendajegdnhaa
open Go Go.Gw
set_option linter.unusedVariables false
set_option linter.unusedSimpArgs false
set_option maxHeartbeats 4000000 in
/-- foyer/foyerlaw42.TwinDrops -/
theorem law3 (v1 v2 : Value) (old next : List Pl) (v3 : Value) (ts : List Ow) (v4 : Value) (ops : List Op) (raw : Nat) (hraw : raw ≤ 255) (w0 : World) (hv1 : IsSl w0 v1 9 Pl.enc old) (hv2 : IsSl w0 v2 9 Pl.enc next) (hv3 : IsSl w0 v3 11 Ow.enc ts) (hok : ∀ o ∈ ts, o.ok) (hv4 : IsSl w0 v4 3 Op.enc ops) :
    Ret Try.prog 5 #[v1, v2, v3, v4, .int .u8 (raw : Int)] w0 (fun u w => u = .bool true ∧ Ext w0 w) := by
 refine ret_of_wp (nt := 181) Try.func5 rfl rfl rfl (fl := [(0, v1), (1, v2), (2, v3), (3, v4), (4, .int .u8 (raw : Int))]) rfl (fun a S => ?_)
 have H := HSat.start w0
 have H := H.ro0 (Sl v1 9 Pl.enc old) rfl (hv1)
 have H := H.ro0 (Sl v2 9 Pl.enc next) rfl (hv2)
 have H := H.ro0 (Sl v3 11 Ow.enc ts) rfl (hv3)
 have H := H.ro0 (Sl v4 3 Op.enc ops) rfl (hv4)
 refine gsr ?_
 refine ga S fun a S => ?_
 refine gnt ?_
 refine gsr ?_
 refine wl_of (op_call (wn rfl) rfl rfl S (co_func rfl Try.call7 S rfl) (head_spec _) fun v w hc a S => ?_)
 obtain ⟨rfl, he⟩ := hc
 have H := H.ext he
 refine ga S fun a S => ?_
 refine gnt ?_
 refine g_seq ?_
 refine gsr ?_
 refine gm S fun a S => ?_
 refine gm S fun a S => ?_
 refine gm S fun a S => ?_
 refine gm S fun a S => ?_
 refine wl_of (op_call (wn rfl) rfl rfl S (co_func rfl Try.call8 S rfl) (few42_spec v1 v2 old next v3 ts v4 ops _ (H.sl v1) (H.sl v2) (H.sl v3) (H.sl v4)) fun v w hc a S => ?_)
 obtain ⟨rfl, he⟩ := hc
 have H := H.ext he
 refine gy rfl rfl rfl S (y_not rfl S rfl) fun a S => ?_
 refine gnt ?_
 have S := (((((((S.nil.cons S 4 rfl).cons S 3 rfl).cons S 2 rfl).cons S 1 rfl).cons S 0 rfl).cons S 10 rfl).cons S 11 rfl).cons S 31 rfl
 refine c_if S rfl (fun h1 => ?_) (fun h1 => ?_)
 ·have h1p := h1; try simp only [DL] at h1p
  refine gsr ?_
  refine gm S fun a S => ?_
  refine ga S fun a S => ?_
  refine gnt ?_
  refine g_ret ?_
  refine r_then (ret1 rfl S rfl ?_)
  exact ⟨rfl, H.toExt⟩
 ·have h1p := h1; try simp only [DL] at h1p
  obtain ⟨hf1, hf2, hf3, hf4⟩ := fewT_yes (by have := h1p; simpa using this)
  refine g_skip ?_
  refine n_then ?_
  refine gsr ?_
  refine gm S fun a S => ?_
  refine gm S fun a S => ?_
  refine gm S fun a S => ?_
  refine gm S fun a S => ?_
  refine wl_of (op_call (wn rfl) rfl rfl S (co_func rfl Try.call21 S rfl) (after_any v1 v2 old next v3 ts v4 ops _ (H.sl v1) (H.sl v2) (H.sl v3) hok (by omega) (H.sl v4) (by omega)) fun ua w hc a S => ?_)
  obtain ⟨vo, ob, rfl, ha⟩ := hc
  skip
  refine gm S fun a S => ?_
  refine gy rfl rfl rfl S (y_extract rfl S rfl rfl) fun a S => ?_
  refine gy rfl rfl rfl S (y_extract rfl S rfl rfl) fun a S => ?_
  refine ga S fun a S => ?_
  refine ga S fun a S => ?_
  refine gnt ?_
  have S := ((((((((S.nil.cons S 4 rfl).cons S 3 rfl).cons S 2 rfl).cons S 1 rfl).cons S 0 rfl).cons S 10 rfl).cons S 11 rfl).cons S 12 rfl).cons S 13 rfl
  refine g_seq ?_
  refine g_seq ?_
  rcases ha with ⟨hne, rfl, he⟩ | ⟨hne, rfl, H1⟩
  ·have H := H.ext he
   refine g_region ?_
   refine gm S fun a S => ?_
   refine gy rfl rfl rfl S (y_not rfl S rfl) fun a S => ?_
   refine gm S fun a S => ?_
   refine' wl_or (B2 := false) 3 43 rfl S H rfl rfl rfl rfl rfl rfl rfl (fun _ S => (wn rfl)) (fun h2 kk => ?yh2) (fun a w S H => ?_)
   case yh2 => exact absurd h2 (by simp)
   refine gnt ?_
   have S := ((((((((S.nil.cons S 4 rfl).cons S 3 rfl).cons S 2 rfl).cons S 1 rfl).cons S 0 rfl).cons S 10 rfl).cons S 11 rfl).cons S 12 rfl).cons S 47 rfl
   refine c_if S rfl (fun h3 => ?_) (fun h3 => ?_)
   ·have h3p := h3; try simp only [DL] at h3p
    refine gsr ?_
    refine gm S fun a S => ?_
    refine ga S fun a S => ?_
    refine gnt ?_
    refine g_ret ?_
    refine r_then (ret1 rfl S rfl ?_)
    exact ⟨rfl, H.toExt⟩
   ·have h3p := h3; try simp only [DL] at h3p
    all_goals (
      simp at h3)
  ·have htw := new_tw (n := 20) hne hf3 hok
   obtain ⟨T, hT⟩ : ∃ T, T = runT old next ts ops := ⟨_, rfl⟩
   have hTw := (htw.run ops).mono (m := 50) (by omega)
   rw [← hT] at H1 hTw
   have hTm := hTw.ml
   have hTl := hTw.len
   have H := H.call1 H1 rfl
   refine g_region ?_
   refine gm S fun a S => ?_
   refine gy rfl rfl rfl S (y_not rfl S rfl) fun a S => ?_
   refine gm S fun a S => ?_
   refine gz 43 rfl S rfl rfl rfl rfl rfl rfl (y_move rfl S rfl) fun a S => ?_
   refine gz 43 rfl S rfl rfl rfl rfl rfl rfl (y_lens rfl Try.underlying23 S H rfl) fun a S => ?_
   refine gz 43 rfl S rfl rfl rfl rfl rfl rfl (y_bin rfl S rfl rfl rfl) fun a S => ?_
   refine gy rfl rfl rfl S (y_or' rfl rfl S rfl rfl) fun a S => ?_
   refine gnt ?_
   have S := ((((((((S.nil.cons S 4 rfl).cons S 3 rfl).cons S 2 rfl).cons S 1 rfl).cons S 0 rfl).cons S 10 rfl).cons S 11 rfl).cons S 12 rfl).cons S 47 rfl
   refine c_if S rfl (fun h5 => ?_) (fun h5 => ?_)
   ·have h5p := h5; try simp only [DL] at h5p
    refine gsr ?_
    refine gm S fun a S => ?_
    refine ga S fun a S => ?_
    refine gnt ?_
    refine g_ret ?_
    refine r_then (ret1 rfl S rfl ?_)
    exact ⟨rfl, H.toExt⟩
   ·have h5p := h5; try simp only [DL] at h5p
    have hT0 : T.length ≠ 0 := by have hh := h5; simp at hh; intro h0; exact hh (by simpa using h0)
    refine g_skip ?_
    refine n_then ?_
    refine gsr ?_
    refine gm S fun a S => ?_
    refine gm S fun a S => ?_
    refine gy rfl rfl rfl S (y_conv rfl Try.underlying5 Try.underlying3 S rfl (by omega)) fun a S => ?_
    refine gm S fun a S => ?_
    refine gy rfl rfl rfl S (y_lens rfl Try.underlying23 S H rfl) fun a S => ?_
    refine gy rfl rfl rfl S (y_remn rfl S rfl rfl (by omega) (by omega)) fun a S => ?_
    obtain ⟨q, hq0⟩ : ∃ n : Nat, (raw : Int) % (T.length : Int) = n := ⟨raw % T.length, rfl⟩
    rw [hq0] at S
    have hq : q < T.length := by have := Int.emod_lt_of_pos (raw : Int) (show (0 : Int) < (T.length : Int) by omega); omega
    refine gy rfl rfl rfl S (y_iaddrn rfl Try.underlying23 Fsiz66 S H rfl rfl (by first | assumption | omega | (simp only [LL]; omega))) fun a S => ?_
    refine gy rfl rfl rfl S (y_loadsa _ rfl S H rfl (by exact Fagg66) (by first | assumption | omega | (simp only [LL]; omega))) fun a S => ?_
    refine wl_of (op_alloc (wn rfl) rfl rfl rfl S H Fzer66 fun b14 a w S H => ?_)
    refine wl_of (op_storea (wn rfl) rfl rfl S H rfl rfl (Ow.all (hTw.ok _ (List.getElem_mem hq))) Fsiz66 rfl (cs' := [_, _, _, _, _, _, _, _, _, _, _]) rfl fun a w S H => ?_)
    refine gnt ?_
    have S := ((((((S.nil.cons S 3 rfl).cons S 2 rfl).cons S 1 rfl).cons S 0 rfl).cons S 10 rfl).cons S 11 rfl).cons S 14 rfl
    refine gsr ?_
    refine gm S fun a S => ?_
    refine gm S fun a S => ?_
    refine gm S fun a S => ?_
    refine wl_of (op_call (wn rfl) rfl rfl S (co_func rfl Try.call9 S rfl) (new_any v1 v2 old next v3 ts _ (H.sl v1) (H.sl v2) (H.sl v3) hok (by omega)) fun un w hc a S => ?_)
    obtain ⟨pp, rfl, hn⟩ := hc
    obtain ⟨_, b, vt, rfl, H1⟩ := hn.resolve_left (fun h => h.1 hne)
    have H := (H.call1 H1 rfl).pick [TwA b v1 v2 vt ts, Sl v1 9 Pl.enc old, Sl v2 9 Pl.enc next, Sl v4 3 Op.enc ops]
    simp only [List.cons_append, List.nil_append] at H
    refine gm S fun a S => ?_
    refine gy rfl rfl rfl S (y_extract rfl S rfl rfl) fun a S => ?_
    refine gy rfl rfl rfl S (y_extract rfl S rfl rfl) fun a S => ?_
    refine ga S fun a S => ?_
    refine ga S fun a S => ?_
    refine gnt ?_
    have S := ((((S.nil.cons S 3 rfl).cons S 10 rfl).cons S 11 rfl).cons S 14 rfl).cons S 15 rfl
    refine gsr ?_
    refine gm S fun a S => ?_
    refine gm S fun a S => ?_
    refine wl_of (op_call (wn rfl) rfl rfl S (co_func rfl Try.call22 S rfl) (do_spec b v1 v2 vt old next ts v4 ops 20 _ H htw (by omega)) fun v w hc a S => ?_)
    obtain ⟨rfl, vt2, H⟩ := hc
    rw [← hT] at H
    refine gnt ?_
    have S := (((S.nil.cons S 10 rfl).cons S 11 rfl).cons S 14 rfl).cons S 15 rfl
    refine gsr ?_
    refine gm S fun a S => ?_
    refine wl_of (op_call (wn rfl) rfl rfl S (co_func rfl Try.call15 S rfl) (change_ok b v1 v2 vt2 old next T _ H hTw.ok (by have := hTw.len; omega)) fun uc w hc a S => ?_)
    obtain ⟨mvA, vlA, vrA, msA, rfl, hmA, H⟩ := hc
    rw [hTw.err] at S
    have H := H.pick [TwA b v1 v2 vt2 T, Sl v1 9 Pl.enc old, Sl v2 9 Pl.enc next]
    simp only [List.cons_append, List.nil_append] at H
    have hlA := (H.sl mvA).len
    refine gm S fun a S => ?_
    refine gy rfl rfl rfl S (y_extract rfl S rfl rfl) fun a S => ?_
    refine gy rfl rfl rfl S (y_extract rfl S rfl rfl) fun a S => ?_
    refine wl_of (op_alloc (wn rfl) rfl rfl rfl S H Fzer43 fun b17 a w S H => ?_)
    refine wl_of (op_storea (wn rfl) rfl rfl S H rfl rfl (by rw [List.all_cons, List.all_cons, List.all_cons, H.sl1 mvA, H.sl1 vlA, H.sl1 vrA]; rfl) Fsiz43 rfl (cs' := [_, _, _]) rfl fun a w S H => ?_)
    refine ga S fun a S => ?_
    refine gnt ?_
    have S := ((((S.nil.cons S 10 rfl).cons S 11 rfl).cons S 14 rfl).cons S 15 rfl).cons S 17 rfl
    refine gsr ?_
    refine gm S fun a S => ?_
    refine gy rfl rfl rfl S (y_faddrb rfl Ffo66_0 S rfl) fun a S => ?_
    refine gy rfl rfl rfl S (y_faddrb rfl Ffo60_0 S rfl) fun a S => ?_
    refine gy rfl rfl rfl S (y_load rfl Fsca3 S H rfl rfl) fun a S => ?_
    have H := H.pick [TwA b v1 v2 vt2 T, Sl v1 9 Pl.enc old, Sl v2 9 Pl.enc next]
    simp only [List.cons_append, List.nil_append] at H
    refine wl_of (op_call (wn rfl) rfl rfl S (co_func rfl Try.call11 S rfl) (drop_ok b v1 v2 vt2 old next T T[q].serial _ H hTw.ok (by omega)) fun v w hc a S => ?_)
    obtain ⟨rfl, vt3, H⟩ := hc
    obtain ⟨T2, hT2⟩ : ∃ T2, T2 = dropT T T[q].serial := ⟨_, rfl⟩
    rw [← hT2] at H
    have hTw2 := hTw.drop T[q].serial
    rw [← hT2] at hTw2
    have hde := dropE_at hTw hq
    refine ga S fun a S => ?_
    refine gnt ?_
    have S := (((((S.nil.cons S 10 rfl).cons S 11 rfl).cons S 14 rfl).cons S 15 rfl).cons S 17 rfl).cons S 19 rfl
    refine g_seq ?_
    refine g_seq ?_
    rcases Bool.eq_false_or_eq_true (movedB T[q]) with hm | hm
    ·rw [hde, if_pos hm] at S
     have hMA := planM hTw.err hmA
     obtain ⟨hd1, hd2⟩ := drop_loss hTw hq hm
     rw [← hT2] at hd1 hd2
     have hLA := hMA.len
     refine g_region ?_
     refine gm S fun a S => ?_
     refine gy rfl rfl rfl S (y_bin rfl S rfl rfl rfl) fun a S => ?_
     refine gy rfl rfl rfl S (y_faddrb rfl Ffo66_4 S rfl) fun a S => ?_
     refine gy rfl rfl rfl S (y_load rfl Fsca3 S H rfl rfl) fun a S => ?_
     refine gy rfl rfl rfl S (y_bin rfl S rfl rfl rfl) fun a S => ?_
     refine gm S fun a S => ?_
     refine' wl_and 4 82 rfl S H rfl rfl rfl rfl rfl rfl rfl (fun _ S => (wn rfl)) (fun h6 kk => ?yh6) (fun a w S H => ?_)
     case yh6 =>
      have h6p := h6; try simp only [DL] at h6p
      refine gz 82 h6 S rfl rfl rfl rfl rfl rfl (y_faddrb rfl Ffo66_0 S rfl) fun a S => ?_
      refine gz 82 h6 S rfl rfl rfl rfl rfl rfl (y_faddrb rfl Ffo60_2 S rfl) fun a S => ?_
      refine gz 82 h6 S rfl rfl rfl rfl rfl rfl (y_load rfl Fsca3 S H rfl rfl) fun a S => ?_
      refine gz 82 h6 S rfl rfl rfl rfl rfl rfl (y_bin rfl S rfl rfl rfl) fun a S => ?_
      refine gy rfl rfl rfl S (y_and' rfl h6 S rfl rfl) fun a S => ?_
      exact kk _ _ (S.join 5 87 rfl rfl) H
     refine gy rfl rfl rfl S (y_neb rfl Try.underlying4 S rfl rfl) fun a S => ?_
     refine gnt ?_
     have S := ((((((S.nil.cons S 10 rfl).cons S 11 rfl).cons S 14 rfl).cons S 15 rfl).cons S 17 rfl).cons S 19 rfl).cons S 88 rfl
     refine c_if S rfl (fun h7 => ?_) (fun h7 => ?_)
     ·have h7p := h7; try simp only [DL] at h7p
      all_goals (
        have hh := h7
        rw [(show (T[q].gone == 0 && decide (T[q].place ≥ 0)) = true from hm)] at hh
        simp at hh)
     ·have h7p := h7; try simp only [DL] at h7p
      refine g_skip ?_
      refine n_then ?_
      refine g_seq ?_
      refine gsr ?_
      refine gm S fun a S => ?_
      refine gy rfl rfl rfl S (y_bin rfl S rfl rfl rfl) fun a S => ?_
      refine gnt ?_
      refine c_if S rfl (fun h8 => ?_) (fun h8 => ?_)
      ·have h8p := h8; try simp only [DL] at h8p
       all_goals (
         simp at h8)
      ·have h8p := h8; try simp only [DL] at h8p
       refine g_skip ?_
       refine n_then ?_
       have S := ((((S.nil.cons S 10 rfl).cons S 11 rfl).cons S 14 rfl).cons S 15 rfl).cons S 17 rfl
       refine gsr ?_
       refine gm S fun a S => ?_
       refine wl_of (op_call (wn rfl) rfl rfl S (co_func rfl Try.call15 S rfl) (change_ok b v1 v2 vt3 old next T2 _ H hTw2.ok (by have := hTw2.len; omega)) fun uc w hc a S => ?_)
       obtain ⟨mvB, vlB, vrB, msB, rfl, hmB, H⟩ := hc
       rw [hTw2.err] at S
       have H := H.pick [TwA b v1 v2 vt3 T2, Sl v1 9 Pl.enc old, Sl v2 9 Pl.enc next]
       simp only [List.cons_append, List.nil_append] at H
       have hlB := (H.sl mvB).len
       refine gm S fun a S => ?_
       refine gy rfl rfl rfl S (y_extract rfl S rfl rfl) fun a S => ?_
       refine gy rfl rfl rfl S (y_extract rfl S rfl rfl) fun a S => ?_
       refine wl_of (op_alloc (wn rfl) rfl rfl rfl S H Fzer43 fun b20 a w S H => ?_)
       refine wl_of (op_storea (wn rfl) rfl rfl S H rfl rfl (by rw [List.all_cons, List.all_cons, List.all_cons, H.sl1 mvB, H.sl1 vlB, H.sl1 vrB]; rfl) Fsiz43 rfl (cs' := [_, _, _]) rfl fun a w S H => ?_)
       refine ga S fun a S => ?_
       refine gnt ?_
       have S := (((((S.nil.cons S 10 rfl).cons S 11 rfl).cons S 14 rfl).cons S 15 rfl).cons S 17 rfl).cons S 20 rfl
       refine g_seq ?_
       refine g_seq ?_
       skip
       ·have hMB := planM hTw2.err hmB
        have hLB := hMB.len
        refine region_st (loud := []) (tails := []) (free := []) [0, 1, 2, 3, 4, 5, 6, 7, 8, 9, 10, 11, 12, 13, 14, 15, 16, 17, 18, 19, 20, 21, 22, 23, 24, 25, 26] [] Fmo (by kernel_rfl) (by kernel_rfl) rfl H ?_
        refine m_w rfl rfl (wn rfl) rfl rfl S (fun w H => y_load0 rfl S H rfl (by exact Fagg43)) fun a S => ?_
        refine m_c rfl rfl (wn rfl) rfl rfl S (fun w => co_func rfl Try.call25 S rfl) (fun w H => lost_spec mvB vlB vrB msB _ (H.sl mvB)) fun a S => ?_
        refine m_w rfl rfl (wn rfl) rfl rfl S (fun w H => y_load0 rfl S H rfl (by exact Fagg43)) fun a S => ?_
        refine m_c rfl rfl (wn rfl) rfl rfl S (fun w => co_func rfl Try.call25 S rfl) (fun w H => lost_spec mvA vlA vrA msA _ (H.sl mvA)) fun a S => ?_
        refine m_w rfl rfl (wn rfl) rfl rfl S (fun w H => y_bin rfl S rfl rfl rfl) fun a S => ?_
        refine m_w rfl rfl (wn rfl) rfl rfl S (fun w H => y_move rfl S rfl) fun a S => ?_
        refine' m_orq [6, 7, 8, 9, 10, 11, 12, 13] 106 S rfl rfl rfl rfl rfl rfl rfl rfl rfl (fun _ S => (wn rfl)) (fun h9 kk => ?yh9) (fun a S => ?_)
        case yh9 =>
         have h9p := h9; try simp only [DL] at h9p
         refine m_w rfl rfl (wg' 106 rfl rfl S rfl h9 rfl) rfl rfl S (fun w H => y_faddrb rfl Ffo43_0 S rfl) fun a S => ?_
         refine m_w rfl rfl (wg' 106 rfl rfl S rfl h9 rfl) rfl rfl S (fun w H => y_load rfl Fsca38 S H rfl rfl) fun a S => ?_
         refine m_w rfl rfl (wg' 106 rfl rfl S rfl h9 rfl) rfl rfl S (fun w H => y_lens rfl Try.underlying38 S H rfl) fun a S => ?_
         refine m_w rfl rfl (wg' 106 rfl rfl S rfl h9 rfl) rfl rfl S (fun w H => y_faddrb rfl Ffo43_0 S rfl) fun a S => ?_
         refine m_w rfl rfl (wg' 106 rfl rfl S rfl h9 rfl) rfl rfl S (fun w H => y_load rfl Fsca38 S H rfl rfl) fun a S => ?_
         refine m_w rfl rfl (wg' 106 rfl rfl S rfl h9 rfl) rfl rfl S (fun w H => y_lens rfl Try.underlying38 S H rfl) fun a S => ?_
         refine m_w rfl rfl (wg' 106 rfl rfl S rfl h9 rfl) rfl rfl S (fun w H => y_sub rfl S rfl rfl (by omega)) fun a S => ?_
         refine m_w rfl rfl (wg' 106 rfl rfl S rfl h9 rfl) rfl rfl S (fun w H => y_bin rfl S rfl rfl rfl) fun a S => ?_
         refine m_w rfl rfl (wn rfl) rfl rfl S (fun w H => y_or' rfl h9 S rfl rfl) fun a S => ?_
         exact kk _ (S.join 9 115 rfl rfl)
        refine m_w rfl rfl (wn rfl) rfl rfl S (fun w H => y_move rfl S rfl) fun a S => ?_
        refine' m_orq [16, 17, 18, 19] 116 S rfl rfl rfl rfl rfl rfl rfl rfl rfl (fun _ S => (wn rfl)) (fun h10 kk => ?yh10) (fun a S => ?_)
        case yh10 =>
         have h10p := h10; try simp only [DL] at h10p
         refine m_w rfl rfl (wg' 116 rfl rfl S rfl h10 rfl) rfl rfl S (fun w H => y_faddrb rfl Ffo66_0 S rfl) fun a S => ?_
         refine m_w rfl rfl (wg' 116 rfl rfl S rfl h10 rfl) rfl rfl S (fun w H => y_faddrb rfl Ffo60_0 S rfl) fun a S => ?_
         refine m_w rfl rfl (wg' 116 rfl rfl S rfl h10 rfl) rfl rfl S (fun w H => y_load rfl Fsca3 S H rfl rfl) fun a S => ?_
         refine m_w rfl rfl (wg' 116 rfl rfl S rfl h10 rfl) rfl rfl S (fun w H => y_bin rfl S rfl rfl rfl) fun a S => ?_
         refine m_w rfl rfl (wn rfl) rfl rfl S (fun w H => y_or' rfl h10 S rfl rfl) fun a S => ?_
         exact kk _ (S.join 5 121 rfl rfl)
        refine m_w rfl rfl (wn rfl) rfl rfl S (fun w H => y_move rfl S rfl) fun a S => ?_
        refine' m_orq [22, 23, 24, 25] 122 S rfl rfl rfl rfl rfl rfl rfl rfl rfl (fun _ S => (wn rfl)) (fun h11 kk => ?yh11) (fun a S => ?_)
        case yh11 =>
         have h11p := h11; try simp only [DL] at h11p
         refine m_w rfl rfl (wg' 122 rfl rfl S rfl h11 rfl) rfl rfl S (fun w H => y_faddrb rfl Ffo66_0 S rfl) fun a S => ?_
         refine m_w rfl rfl (wg' 122 rfl rfl S rfl h11 rfl) rfl rfl S (fun w H => y_faddrb rfl Ffo60_0 S rfl) fun a S => ?_
         refine m_w rfl rfl (wg' 122 rfl rfl S rfl h11 rfl) rfl rfl S (fun w H => y_load rfl Fsca3 S H rfl rfl) fun a S => ?_
         refine m_w rfl rfl (wg' 122 rfl rfl S rfl h11 rfl) rfl rfl S (fun w H => y_bin rfl S rfl rfl rfl) fun a S => ?_
         refine m_w rfl rfl (wn rfl) rfl rfl S (fun w H => y_or' rfl h11 S rfl rfl) fun a S => ?_
         exact kk _ (S.join 5 127 rfl rfl)
        refine m_nil (fun w H => ?_)
        refine n_then ?_
        have S := ((((((S.nil.cons S 10 rfl).cons S 11 rfl).cons S 14 rfl).cons S 15 rfl).cons S 17 rfl).cons S 20 rfl).cons S 127 rfl
        refine c_if S rfl (fun h12 => ?_) (fun h12 => ?_)
        ·have h12p := h12; try simp only [DL] at h12p
         refine g_seq ?_
         refine region_st (loud := []) (tails := []) (free := []) [0, 1, 2, 3, 4, 5, 6, 7, 8, 9, 10, 11, 12, 13, 14, 15, 16, 17, 18] [] Fmo (by kernel_rfl) (by kernel_rfl) rfl H ?_
         refine m_w rfl rfl (wn rfl) rfl rfl S (fun w H => y_move rfl S rfl) fun a S => ?_
         refine m_w rfl rfl (wn rfl) rfl rfl S (fun w H => y_move rfl S rfl) fun a S => ?_
         refine' m_andq [2, 3, 4, 5, 6] 129 S rfl rfl rfl rfl rfl rfl rfl rfl rfl (fun _ S => (wn rfl)) (fun h13 kk => ?yh13) (fun a S => ?_)
         case yh13 =>
          have h13p := h13; try simp only [DL] at h13p
          refine m_w rfl rfl (wg' 129 rfl rfl S rfl h13 rfl) rfl rfl S (fun w H => y_load0 rfl S H rfl (by exact Fagg43)) fun a S => ?_
          refine m_c rfl rfl (wg' 129 rfl rfl S rfl h13 rfl) rfl rfl S (fun w => co_func rfl Try.call25 S rfl) (fun w H => lost_spec mvB vlB vrB msB _ (H.sl mvB)) fun a S => ?_
          refine m_w rfl rfl (wg' 129 rfl rfl S rfl h13 rfl) rfl rfl S (fun w H => y_load0 rfl S H rfl (by exact Fagg43)) fun a S => ?_
          refine m_c rfl rfl (wg' 129 rfl rfl S rfl h13 rfl) rfl rfl S (fun w => co_func rfl Try.call25 S rfl) (fun w H => lost_spec mvA vlA vrA msA _ (H.sl mvA)) fun a S => ?_
          refine m_w rfl rfl (wg' 129 rfl rfl S rfl h13 rfl) rfl rfl S (fun w H => y_bin rfl S rfl rfl rfl) fun a S => ?_
          refine m_w rfl rfl (wn rfl) rfl rfl S (fun w H => y_and' rfl h13 S rfl rfl) fun a S => ?_
          exact kk _ (S.join 6 135 rfl rfl)
         refine m_w rfl rfl (wn rfl) rfl rfl S (fun w H => y_move rfl S rfl) fun a S => ?_
         refine' m_andq [9, 10, 11, 12, 13, 14, 15, 16] 136 S rfl rfl rfl rfl rfl rfl rfl rfl rfl (fun _ S => (wn rfl)) (fun h14 kk => ?yh14) (fun a S => ?_)
         case yh14 =>
          have h14p := h14; try simp only [DL] at h14p
          refine m_w rfl rfl (wg' 136 rfl rfl S rfl h14 rfl) rfl rfl S (fun w H => y_faddrb rfl Ffo43_0 S rfl) fun a S => ?_
          refine m_w rfl rfl (wg' 136 rfl rfl S rfl h14 rfl) rfl rfl S (fun w H => y_load rfl Fsca38 S H rfl rfl) fun a S => ?_
          refine m_w rfl rfl (wg' 136 rfl rfl S rfl h14 rfl) rfl rfl S (fun w H => y_lens rfl Try.underlying38 S H rfl) fun a S => ?_
          refine m_w rfl rfl (wg' 136 rfl rfl S rfl h14 rfl) rfl rfl S (fun w H => y_faddrb rfl Ffo43_0 S rfl) fun a S => ?_
          refine m_w rfl rfl (wg' 136 rfl rfl S rfl h14 rfl) rfl rfl S (fun w H => y_load rfl Fsca38 S H rfl rfl) fun a S => ?_
          refine m_w rfl rfl (wg' 136 rfl rfl S rfl h14 rfl) rfl rfl S (fun w H => y_lens rfl Try.underlying38 S H rfl) fun a S => ?_
          refine m_w rfl rfl (wg' 136 rfl rfl S rfl h14 rfl) rfl rfl S (fun w H => y_sub rfl S rfl rfl (by omega)) fun a S => ?_
          refine m_w rfl rfl (wg' 136 rfl rfl S rfl h14 rfl) rfl rfl S (fun w H => y_bin rfl S rfl rfl rfl) fun a S => ?_
          refine m_w rfl rfl (wn rfl) rfl rfl S (fun w H => y_and' rfl h14 S rfl rfl) fun a S => ?_
          exact kk _ (S.join 9 145 rfl rfl)
         refine m_w rfl rfl (wn rfl) rfl rfl S (fun w H => y_assign rfl S rfl) fun a S => ?_
         refine m_nil (fun w H => ?_)
         refine n_then ?_
         have S := (((((S.nil.cons S 11 rfl).cons S 14 rfl).cons S 15 rfl).cons S 17 rfl).cons S 20 rfl).cons S 10 rfl
         refine g_ret ?_
         refine r_then (ret1 rfl S rfl ?_)
         refine ⟨congrArg Value.bool ?_, H.toExt⟩
         rw [hMA.lost, hMB.lost, hLA, hLB, hd2]
         simp only [Bool.true_and, Bool.and_eq_true, decide_eq_true_eq, beq_iff_eq]
         exact ⟨by omega, by omega⟩
        ·have h12p := h12; try simp only [DL] at h12p
         have hs : 1 ≤ T[q].serial ∧ T[q].serial ≤ 1000000000 := by
           have hh := h12
           simp only [Bool.or_eq_false_iff, decide_eq_false_iff_not] at hh
           omega
         refine g_skip ?_
         refine n_then ?_
         refine gsr ?_
         refine gm S fun a S => ?_
         refine gy rfl rfl rfl S (y_faddrb rfl Ffo66_0 S rfl) fun a S => ?_
         refine gy rfl rfl rfl S (y_faddrb rfl Ffo60_2 S rfl) fun a S => ?_
         refine gy rfl rfl rfl S (y_load rfl Fsca3 S H rfl rfl) fun a S => ?_
         refine gy rfl rfl rfl S (y_faddrb rfl Ffo66_0 S rfl) fun a S => ?_
         refine gy rfl rfl rfl S (y_faddrb rfl Ffo60_0 S rfl) fun a S => ?_
         refine gy rfl rfl rfl S (y_load rfl Fsca3 S H rfl rfl) fun a S => ?_
         have H := H.pick [TwA b v1 v2 vt3 T2, Sl v1 9 Pl.enc old, Sl v2 9 Pl.enc next]
         simp only [List.cons_append, List.nil_append] at H
         refine wl_of (op_call (wn rfl) rfl rfl S (co_func rfl Try.call13 S rfl) (sell_ok b v1 v2 vt3 old next T2 T[q].place T[q].serial 50 _ H hTw2 (by omega)) fun v w hc a S => ?_)
         obtain ⟨rfl, vt4, H⟩ := hc
         obtain ⟨T3, hT3⟩ : ∃ T3, T3 = sellT old next T2 T[q].place T[q].serial := ⟨_, rfl⟩
         rw [← hT3] at H
         have hTw3 := hTw2.sell T[q].place T[q].serial
         rw [← hT3] at hTw3
         obtain ⟨e, hE⟩ : ∃ e, e = sellE old next T2 T[q].place T[q].serial := ⟨_, rfl⟩
         rw [← hE] at S
         refine ga S fun a S => ?_
         refine gnt ?_
         have S := (((((S.nil.cons S 10 rfl).cons S 11 rfl).cons S 15 rfl).cons S 17 rfl).cons S 20 rfl).cons S 22 rfl
         refine gsr ?_
         refine gm S fun a S => ?_
         refine wl_of (op_call (wn rfl) rfl rfl S (co_func rfl Try.call15 S rfl) (change_ok b v1 v2 vt4 old next T3 _ H hTw3.ok (by have := hTw3.len; omega)) fun uc w hc a S => ?_)
         obtain ⟨mvC, vlC, vrC, msC, rfl, hmC, H⟩ := hc
         rw [hTw3.err] at S
         have H := H.pick [TwA b v1 v2 vt4 T3, Sl v1 9 Pl.enc old, Sl v2 9 Pl.enc next]
         simp only [List.cons_append, List.nil_append] at H
         have hlC := (H.sl mvC).len
         refine gm S fun a S => ?_
         refine gy rfl rfl rfl S (y_extract rfl S rfl rfl) fun a S => ?_
         refine gy rfl rfl rfl S (y_extract rfl S rfl rfl) fun a S => ?_
         refine wl_of (op_alloc (wn rfl) rfl rfl rfl S H Fzer43 fun b23 a w S H => ?_)
         refine wl_of (op_storea (wn rfl) rfl rfl S H rfl rfl (by rw [List.all_cons, List.all_cons, List.all_cons, H.sl1 mvC, H.sl1 vlC, H.sl1 vrC]; rfl) Fsiz43 rfl (cs' := [_, _, _]) rfl fun a w S H => ?_)
         refine ga S fun a S => ?_
         refine gnt ?_
         have S := (((((S.nil.cons S 10 rfl).cons S 11 rfl).cons S 17 rfl).cons S 20 rfl).cons S 22 rfl).cons S 23 rfl
         refine g_seq ?_
         refine region_st (loud := []) (tails := []) (free := []) [0, 1, 2, 3, 4, 5, 6, 7, 8, 9, 10, 11, 12, 13, 14, 15, 16, 17, 18, 19, 20, 21, 22] [] Fmo (by kernel_rfl) (by kernel_rfl) rfl H ?_
         refine m_w rfl rfl (wn rfl) rfl rfl S (fun w H => y_move rfl S rfl) fun a S => ?_
         refine m_w rfl rfl (wn rfl) rfl rfl S (fun w H => y_move rfl S rfl) fun a S => ?_
         refine' m_andq [2, 3, 4, 5, 6, 7, 8, 9] 160 S rfl rfl rfl rfl rfl rfl rfl rfl rfl (fun _ S => (wn rfl)) (fun h15 kk => ?yh15) (fun a S => ?_)
         case yh15 =>
          have h15p := h15; try simp only [DL] at h15p
          refine m_w rfl rfl (wg' 160 rfl rfl S rfl h15 rfl) rfl rfl S (fun w H => y_move rfl S rfl) fun a S => ?_
          refine m_w rfl rfl (wg' 160 rfl rfl S rfl h15 rfl) rfl rfl S (fun w H => y_bin rfl S rfl rfl rfl) fun a S => ?_
          refine m_w rfl rfl (wg' 160 rfl rfl S rfl h15 rfl) rfl rfl S (fun w H => y_load0 rfl S H rfl (by exact Fagg43)) fun a S => ?_
          refine m_c rfl rfl (wg' 160 rfl rfl S rfl h15 rfl) rfl rfl S (fun w => co_func rfl Try.call25 S rfl) (fun w H => lost_spec mvB vlB vrB msB _ (H.sl mvB)) fun a S => ?_
          refine m_w rfl rfl (wg' 160 rfl rfl S rfl h15 rfl) rfl rfl S (fun w H => y_load0 rfl S H rfl (by exact Fagg43)) fun a S => ?_
          refine m_c rfl rfl (wg' 160 rfl rfl S rfl h15 rfl) rfl rfl S (fun w => co_func rfl Try.call25 S rfl) (fun w H => lost_spec mvA vlA vrA msA _ (H.sl mvA)) fun a S => ?_
          refine m_w rfl rfl (wg' 160 rfl rfl S rfl h15 rfl) rfl rfl S (fun w H => y_bin rfl S rfl rfl rfl) fun a S => ?_
          refine m_w rfl rfl (wg' 160 rfl rfl S rfl h15 rfl) rfl rfl S (fun w H => y_eqb rfl Try.underlying4 S rfl rfl) fun a S => ?_
          refine m_w rfl rfl (wn rfl) rfl rfl S (fun w H => y_and' rfl h15 S rfl rfl) fun a S => ?_
          exact kk _ (S.join 9 169 rfl rfl)
         refine m_w rfl rfl (wn rfl) rfl rfl S (fun w H => y_move rfl S rfl) fun a S => ?_
         refine' m_andq [12, 13, 14, 15, 16, 17, 18, 19, 20] 170 S rfl rfl rfl rfl rfl rfl rfl rfl rfl (fun _ S => (wn rfl)) (fun h16 kk => ?yh16) (fun a S => ?_)
         case yh16 =>
          have h16p := h16; try simp only [DL] at h16p
          refine m_w rfl rfl (wg' 170 rfl rfl S rfl h16 rfl) rfl rfl S (fun w H => y_move rfl S rfl) fun a S => ?_
          refine m_w rfl rfl (wg' 170 rfl rfl S rfl h16 rfl) rfl rfl S (fun w H => y_bin rfl S rfl rfl rfl) fun a S => ?_
          refine m_w rfl rfl (wg' 170 rfl rfl S rfl h16 rfl) rfl rfl S (fun w H => y_move rfl S rfl) fun a S => ?_
          refine' m_orq [15, 16, 17, 18, 19] 173 S rfl rfl rfl rfl rfl rfl rfl rfl rfl (fun _ S => (wg' 170 rfl rfl S rfl h16 rfl)) (fun h17 kk => ?yh17) (fun a S => ?_)
          case yh17 =>
           have h17p := h17; try simp only [DL] at h17p
           refine m_w rfl rfl (wg' 173 rfl rfl S rfl h17 rfl) rfl rfl S (fun w H => y_load0 rfl S H rfl (by exact Fagg43)) fun a S => ?_
           refine m_c rfl rfl (wg' 173 rfl rfl S rfl h17 rfl) rfl rfl S (fun w => co_func rfl Try.call25 S rfl) (fun w H => lost_spec mvC vlC vrC msC _ (H.sl mvC)) fun a S => ?_
           refine m_w rfl rfl (wg' 173 rfl rfl S rfl h17 rfl) rfl rfl S (fun w H => y_load0 rfl S H rfl (by exact Fagg43)) fun a S => ?_
           refine m_c rfl rfl (wg' 173 rfl rfl S rfl h17 rfl) rfl rfl S (fun w => co_func rfl Try.call25 S rfl) (fun w H => lost_spec mvA vlA vrA msA _ (H.sl mvA)) fun a S => ?_
           refine m_w rfl rfl (wg' 173 rfl rfl S rfl h17 rfl) rfl rfl S (fun w H => y_bin rfl S rfl rfl rfl) fun a S => ?_
           refine m_w rfl rfl (wg' 170 rfl rfl S rfl h16 rfl) rfl rfl S (fun w H => y_or' rfl h17 S rfl rfl) fun a S => ?_
           exact kk _ (S.join 6 179 rfl rfl)
          refine m_w rfl rfl (wn rfl) rfl rfl S (fun w H => y_and' rfl h16 S rfl rfl) fun a S => ?_
          exact kk _ (S.join 5 180 rfl rfl)
         refine m_w rfl rfl (wn rfl) rfl rfl S (fun w H => y_assign rfl S rfl) fun a S => ?_
         refine m_nil (fun w H => ?_)
         refine n_then ?_
         have S := S.nil.cons S 10 rfl
         refine g_ret ?_
         refine ret1 rfl S rfl ?_
         refine ⟨congrArg Value.bool ?_, H.toExt⟩
         have hMC := planM hTw3.err hmC
         obtain ⟨r1, r2⟩ := resell hTw hq hm hs
         rw [← hT2, ← hE] at r1 r2
         rw [← hT3] at r2
         rw [hMA.lost, hMB.lost, hMC.lost, nat_beq, nat_beq]
         by_cases h0 : e = 0
         · rw [r1.1 h0, r2 h0, h0]; simp
         · have h1 : ¬ lossP old next T2 = lossP old next T := fun h => h0 (r1.2 h)
           rw [decide_eq_false h1]; simp [h0]
    ·rw [hde, if_neg (by rw [hm]; simp)] at S
     refine g_region ?_
     refine gm S fun a S => ?_
     refine gy rfl rfl rfl S (y_bin rfl S rfl rfl rfl) fun a S => ?_
     refine gy rfl rfl rfl S (y_faddrb rfl Ffo66_4 S rfl) fun a S => ?_
     refine gy rfl rfl rfl S (y_load rfl Fsca3 S H rfl rfl) fun a S => ?_
     refine gy rfl rfl rfl S (y_bin rfl S rfl rfl rfl) fun a S => ?_
     refine gm S fun a S => ?_
     refine' wl_and 4 82 rfl S H rfl rfl rfl rfl rfl rfl rfl (fun _ S => (wn rfl)) (fun h18 kk => ?yh18) (fun a w S H => ?_)
     case yh18 =>
      have h18p := h18; try simp only [DL] at h18p
      refine gz 82 h18 S rfl rfl rfl rfl rfl rfl (y_faddrb rfl Ffo66_0 S rfl) fun a S => ?_
      refine gz 82 h18 S rfl rfl rfl rfl rfl rfl (y_faddrb rfl Ffo60_2 S rfl) fun a S => ?_
      refine gz 82 h18 S rfl rfl rfl rfl rfl rfl (y_load rfl Fsca3 S H rfl rfl) fun a S => ?_
      refine gz 82 h18 S rfl rfl rfl rfl rfl rfl (y_bin rfl S rfl rfl rfl) fun a S => ?_
      refine gy rfl rfl rfl S (y_and' rfl h18 S rfl rfl) fun a S => ?_
      exact kk _ _ (S.join 5 87 rfl rfl) H
     refine gy rfl rfl rfl S (y_neb rfl Try.underlying4 S rfl rfl) fun a S => ?_
     refine gnt ?_
     have S := ((((((S.nil.cons S 10 rfl).cons S 11 rfl).cons S 14 rfl).cons S 15 rfl).cons S 17 rfl).cons S 19 rfl).cons S 88 rfl
     refine c_if S rfl (fun h19 => ?_) (fun h19 => ?_)
     ·have h19p := h19; try simp only [DL] at h19p
      all_goals (
        have hh := h19
        rw [(show (T[q].gone == 0 && decide (T[q].place ≥ 0)) = false from hm)] at hh
        simp at hh)
     ·have h19p := h19; try simp only [DL] at h19p
      refine g_skip ?_
      refine n_then ?_
      refine g_seq ?_
      refine gsr ?_
      refine gm S fun a S => ?_
      refine gy rfl rfl rfl S (y_bin rfl S rfl rfl rfl) fun a S => ?_
      refine gnt ?_
      refine c_if S rfl (fun h20 => ?_) (fun h20 => ?_)
      ·have h20p := h20; try simp only [DL] at h20p
       refine gsr ?_
       refine gm S fun a S => ?_
       refine gm S fun a S => ?_
       refine' wl_and 2 92 rfl S H rfl rfl rfl rfl rfl rfl rfl (fun _ S => (wn rfl)) (fun h21 kk => ?yh21) (fun a w S H => ?_)
       case yh21 =>
        have h21p := h21; try simp only [DL] at h21p
        refine gz 92 h21 S rfl rfl rfl rfl rfl rfl (y_move rfl S rfl) fun a S => ?_
        refine gz 92 h21 S rfl rfl rfl rfl rfl rfl (y_bin rfl S rfl rfl rfl) fun a S => ?_
        refine gy rfl rfl rfl S (y_and' rfl h21 S rfl rfl) fun a S => ?_
        exact kk _ _ (S.join 3 95 rfl rfl) H
       refine ga S fun a S => ?_
       refine gnt ?_
       have S := ((((S.nil.cons S 11 rfl).cons S 14 rfl).cons S 15 rfl).cons S 17 rfl).cons S 10 rfl
       refine g_ret ?_
       refine r_then (ret1 rfl S rfl ?_)
       exact ⟨rfl, H.toExt⟩
      ·have h20p := h20; try simp only [DL] at h20p
       all_goals (
         simp at h20)
end Go.Proofs.Ytnnendajegdnhaa
