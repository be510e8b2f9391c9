/- The walks. No condition. -/
import Derived.Test.YtnnendajegdnhaaChecked
import Derived.Test.YtnnendajegdnhaaGwDel
import Derived.Test.YtnnendajegdnhaaFacts
import Derived.Test.YtnnendajegdnhaaPlain
import Derived.Test.YtnnendajegdnhaaPlainTi
import Derived.Test.YtnnendajegdnhaaT11
import Derived.Test.YtnnendajegdnhaaW16
namespace Go.Proofs.Ytnnendajegdnhaa
open Go Go.Gw
set_option linter.unusedVariables false
set_option linter.unusedSimpArgs false
set_option maxHeartbeats 4000000 in
/-- foyer/foyerlaw42.TwinPermits -/
theorem law2 (v1 v2 : Value) (old next : List Pl) (v3 : Value) (ts : List Ow) (v4 : Value) (ops : List Op) (place serial : Int) (w0 : World) (hv1 : IsSl w0 v1 9 Pl.enc old) (hv2 : IsSl w0 v2 9 Pl.enc next) (hv3 : IsSl w0 v3 11 Ow.enc ts) (hok : ∀ o ∈ ts, o.ok) (hv4 : IsSl w0 v4 3 Op.enc ops) :
    Ret Try.prog 4 #[v1, v2, v3, v4, .int .i64 place, .int .i64 serial] w0 (fun u w => u = .bool true ∧ Ext w0 w) := by
 refine ret_of_wp (nt := 137) Try.func4 rfl rfl rfl (fl := [(0, v1), (1, v2), (2, v3), (3, v4), (4, .int .i64 place), (5, .int .i64 serial)]) rfl (fun a S => ?_)
 have H := HSat.start w0
 have H := H.ro0 (Sl v1 9 Pl.enc old) rfl (hv1)
 have H := H.ro0 (Sl v2 9 Pl.enc next) rfl (hv2)
 have H := H.ro0 (Sl v3 11 Ow.enc ts) rfl (hv3)
 have H := H.ro0 (Sl v4 3 Op.enc ops) rfl (hv4)
 refine gsr ?_
 refine ga S fun a S => ?_
 refine gnt ?_
 refine gsr ?_
 refine wl_of (op_call (wn rfl) rfl rfl S (co_func rfl Try.call7 S rfl) (head_spec _) fun v w hc a S => ?_)
 obtain ⟨rfl, he⟩ := hc
 have H := H.ext he
 refine ga S fun a S => ?_
 refine gnt ?_
 refine g_seq ?_
 refine gsr ?_
 refine gm S fun a S => ?_
 refine gm S fun a S => ?_
 refine gm S fun a S => ?_
 refine gm S fun a S => ?_
 refine wl_of (op_call (wn rfl) rfl rfl S (co_func rfl Try.call8 S rfl) (few42_spec v1 v2 old next v3 ts v4 ops _ (H.sl v1) (H.sl v2) (H.sl v3) (H.sl v4)) fun v w hc a S => ?_)
 obtain ⟨rfl, he⟩ := hc
 have H := H.ext he
 refine gy rfl rfl rfl S (y_not rfl S rfl) fun a S => ?_
 refine gnt ?_
 have S := ((((((((S.nil.cons S 5 rfl).cons S 4 rfl).cons S 3 rfl).cons S 2 rfl).cons S 1 rfl).cons S 0 rfl).cons S 12 rfl).cons S 13 rfl).cons S 31 rfl
 refine c_if S rfl (fun h1 => ?_) (fun h1 => ?_)
 ·have h1p := h1; try simp only [DL] at h1p
  refine gsr ?_
  refine gm S fun a S => ?_
  refine ga S fun a S => ?_
  refine gnt ?_
  refine g_ret ?_
  refine r_then (ret1 rfl S rfl ?_)
  exact ⟨rfl, H.toExt⟩
 ·have h1p := h1; try simp only [DL] at h1p
  obtain ⟨hf1, hf2, hf3, hf4⟩ := fewT_yes (by have := h1p; simpa using this)
  refine g_skip ?_
  refine n_then ?_
  refine gsr ?_
  refine gm S fun a S => ?_
  refine gm S fun a S => ?_
  refine gm S fun a S => ?_
  refine gm S fun a S => ?_
  refine wl_of (op_call (wn rfl) rfl rfl S (co_func rfl Try.call21 S rfl) (after_any v1 v2 old next v3 ts v4 ops _ (H.sl v1) (H.sl v2) (H.sl v3) hok (by omega) (H.sl v4) (by omega)) fun ua w hc a S => ?_)
  obtain ⟨vo, ob, rfl, ha⟩ := hc
  skip
  refine gm S fun a S => ?_
  refine gy rfl rfl rfl S (y_extract rfl S rfl rfl) fun a S => ?_
  refine gy rfl rfl rfl S (y_extract rfl S rfl rfl) fun a S => ?_
  refine ga S fun a S => ?_
  refine ga S fun a S => ?_
  refine gnt ?_
  have S := (((((((((S.nil.cons S 5 rfl).cons S 4 rfl).cons S 3 rfl).cons S 2 rfl).cons S 1 rfl).cons S 0 rfl).cons S 12 rfl).cons S 13 rfl).cons S 14 rfl).cons S 15 rfl
  refine g_seq ?_
  refine gsr ?_
  refine gm S fun a S => ?_
  refine gy rfl rfl rfl S (y_not rfl S rfl) fun a S => ?_
  refine gnt ?_
  refine c_if S rfl (fun h2 => ?_) (fun h2 => ?_)
  ·have h2p := h2; try simp only [DL] at h2p
   skip
   refine gsr ?_
   refine gm S fun a S => ?_
   refine ga S fun a S => ?_
   refine gnt ?_
   have S := ((((((((S.nil.cons S 5 rfl).cons S 4 rfl).cons S 3 rfl).cons S 2 rfl).cons S 1 rfl).cons S 0 rfl).cons S 13 rfl).cons S 14 rfl).cons S 12 rfl
   refine g_ret ?_
   refine r_then (ret1 rfl S rfl ?_)
   obtain ⟨_, _, he⟩ | ⟨_, rfl, _⟩ := ha
   · exact ⟨rfl, H.toExt.trans he⟩
   · simp at h2
  ·have h2p := h2; try simp only [DL] at h2p
   obtain ⟨hne, rfl, H1⟩ := ha.resolve_left (fun h => by have hh := h2; rw [h.2.1] at hh; simp at hh)
   have htw := new_tw (n := 20) hne hf3 hok
   obtain ⟨T, hT⟩ : ∃ T, T = runT old next ts ops := ⟨_, rfl⟩
   have hTw := (htw.run ops).mono (m := 50) (by omega)
   rw [← hT] at H1 hTw
   have hTm := hTw.ml
   have H := H.call1 H1 rfl
   refine g_skip ?_
   refine n_then ?_
   refine gsr ?_
   refine gm S fun a S => ?_
   refine gm S fun a S => ?_
   refine gm S fun a S => ?_
   refine wl_of (op_call (wn rfl) rfl rfl S (co_func rfl Try.call9 S rfl) (new_any v1 v2 old next v3 ts _ (H.sl v1) (H.sl v2) (H.sl v3) hok (by omega)) fun un w hc a S => ?_)
   obtain ⟨pp, rfl, hn⟩ := hc
   obtain ⟨_, b, vt, rfl, H1⟩ := hn.resolve_left (fun h => h.1 hne)
   have H := (H.call1 H1 rfl).pick [TwA b v1 v2 vt ts, Sl v1 9 Pl.enc old, Sl v2 9 Pl.enc next, Sl v4 3 Op.enc ops]
   simp only [List.cons_append, List.nil_append] at H
   refine gm S fun a S => ?_
   refine gy rfl rfl rfl S (y_extract rfl S rfl rfl) fun a S => ?_
   refine gy rfl rfl rfl S (y_extract rfl S rfl rfl) fun a S => ?_
   refine ga S fun a S => ?_
   refine ga S fun a S => ?_
   refine gnt ?_
   have S := ((((((((S.nil.cons S 5 rfl).cons S 4 rfl).cons S 3 rfl).cons S 1 rfl).cons S 0 rfl).cons S 12 rfl).cons S 13 rfl).cons S 14 rfl).cons S 16 rfl
   refine gsr ?_
   refine gm S fun a S => ?_
   refine gm S fun a S => ?_
   refine wl_of (op_call (wn rfl) rfl rfl S (co_func rfl Try.call22 S rfl) (do_spec b v1 v2 vt old next ts v4 ops 20 _ H htw (by omega)) fun v w hc a S => ?_)
   obtain ⟨rfl, vt2, H⟩ := hc
   rw [← hT] at H
   refine gnt ?_
   have S := (((((((S.nil.cons S 5 rfl).cons S 4 rfl).cons S 1 rfl).cons S 0 rfl).cons S 12 rfl).cons S 13 rfl).cons S 14 rfl).cons S 16 rfl
   refine gsr ?_
   refine gm S fun a S => ?_
   refine wl_of (op_call (wn rfl) rfl rfl S (co_func rfl Try.call15 S rfl) (change_ok b v1 v2 vt2 old next T _ H hTw.ok (by have := hTw.len; omega)) fun uc w hc a S => ?_)
   obtain ⟨mvA, vlA, vrA, msA, rfl, hmA, H⟩ := hc
   rw [hTw.err] at S
   have H := H.pick [TwA b v1 v2 vt2 T, Sl v1 9 Pl.enc old, Sl v2 9 Pl.enc next]
   simp only [List.cons_append, List.nil_append] at H
   have hlA := (H.sl mvA).len
   refine gm S fun a S => ?_
   refine gy rfl rfl rfl S (y_extract rfl S rfl rfl) fun a S => ?_
   refine gy rfl rfl rfl S (y_extract rfl S rfl rfl) fun a S => ?_
   refine wl_of (op_alloc (wn rfl) rfl rfl rfl S H Fzer43 fun b18 a w S H => ?_)
   refine wl_of (op_storea (wn rfl) rfl rfl S H rfl rfl (by rw [List.all_cons, List.all_cons, List.all_cons, H.sl1 mvA, H.sl1 vlA, H.sl1 vrA]; rfl) Fsiz43 rfl (cs' := [_, _, _]) rfl fun a w S H => ?_)
   refine ga S fun a S => ?_
   refine gnt ?_
   have S := ((((((((S.nil.cons S 5 rfl).cons S 4 rfl).cons S 1 rfl).cons S 0 rfl).cons S 12 rfl).cons S 13 rfl).cons S 14 rfl).cons S 16 rfl).cons S 18 rfl
   refine gsr ?_
   refine gm S fun a S => ?_
   refine gm S fun a S => ?_
   refine gm S fun a S => ?_
   have H := H.pick [TwA b v1 v2 vt2 T, Sl v1 9 Pl.enc old, Sl v2 9 Pl.enc next]
   simp only [List.cons_append, List.nil_append] at H
   refine wl_of (op_call (wn rfl) rfl rfl S (co_func rfl Try.call13 S rfl) (sell_ok b v1 v2 vt2 old next T place serial 50 _ H hTw (by omega)) fun v w hc a S => ?_)
   obtain ⟨rfl, vt3, H⟩ := hc
   obtain ⟨T2, hT2⟩ : ∃ T2, T2 = sellT old next T place serial := ⟨_, rfl⟩
   rw [← hT2] at H
   have hTw2 := hTw.sell place serial
   rw [← hT2] at hTw2
   obtain ⟨e, hE⟩ : ∃ e, e = sellE old next T place serial := ⟨_, rfl⟩
   rw [← hE] at S
   refine ga S fun a S => ?_
   refine gnt ?_
   have S := ((((((((S.nil.cons S 4 rfl).cons S 1 rfl).cons S 0 rfl).cons S 12 rfl).cons S 13 rfl).cons S 14 rfl).cons S 16 rfl).cons S 18 rfl).cons S 20 rfl
   refine gsr ?_
   refine gm S fun a S => ?_
   refine wl_of (op_call (wn rfl) rfl rfl S (co_func rfl Try.call15 S rfl) (change_ok b v1 v2 vt3 old next T2 _ H hTw2.ok (by have := hTw2.len; omega)) fun uc w hc a S => ?_)
   obtain ⟨mvB, vlB, vrB, msB, rfl, hmB, H⟩ := hc
   rw [hTw2.err] at S
   have H := H.pick [TwA b v1 v2 vt3 T2, Sl v1 9 Pl.enc old, Sl v2 9 Pl.enc next]
   simp only [List.cons_append, List.nil_append] at H
   have hlB := (H.sl mvB).len
   refine gm S fun a S => ?_
   refine gy rfl rfl rfl S (y_extract rfl S rfl rfl) fun a S => ?_
   refine gy rfl rfl rfl S (y_extract rfl S rfl rfl) fun a S => ?_
   refine wl_of (op_alloc (wn rfl) rfl rfl rfl S H Fzer43 fun b21 a w S H => ?_)
   refine wl_of (op_storea (wn rfl) rfl rfl S H rfl rfl (by rw [List.all_cons, List.all_cons, List.all_cons, H.sl1 mvB, H.sl1 vlB, H.sl1 vrB]; rfl) Fsiz43 rfl (cs' := [_, _, _]) rfl fun a w S H => ?_)
   refine ga S fun a S => ?_
   refine gnt ?_
   have S := (((((((((S.nil.cons S 4 rfl).cons S 1 rfl).cons S 0 rfl).cons S 12 rfl).cons S 13 rfl).cons S 14 rfl).cons S 18 rfl).cons S 20 rfl).cons S 21 rfl).cons S 22 rfl
   refine g_seq ?_
   refine gsr ?_
   refine gm S fun a S => ?_
   refine gy rfl rfl rfl S (y_bin rfl S rfl rfl rfl) fun a S => ?_
   refine gm S fun a S => ?_
   refine' wl_or 6 70 rfl S H rfl rfl rfl rfl rfl rfl rfl (fun _ S => (wn rfl)) (fun h3 kk => ?yh3) (fun a w S H => ?_)
   case yh3 =>
    have h3p := h3; try simp only [DL] at h3p
    refine gz 70 h3 S rfl rfl rfl rfl rfl rfl (y_move rfl S rfl) fun a S => ?_
    refine gz 70 h3 S rfl rfl rfl rfl rfl rfl (y_bin rfl S rfl rfl rfl) fun a S => ?_
    refine gz 70 h3 S rfl rfl rfl rfl rfl rfl (y_move rfl S rfl) fun a S => ?_
    refine' wl_and 2 73 rfl S H rfl rfl rfl rfl rfl rfl rfl (fun _ S => (wg' 70 rfl rfl S rfl h3 rfl)) (fun h4 kk => ?yh4) (fun a w S H => ?_)
    case yh4 =>
     have h4p := h4; try simp only [DL] at h4p
     refine gz 73 h4 S rfl rfl rfl rfl rfl rfl (y_move rfl S rfl) fun a S => ?_
     refine gz 73 h4 S rfl rfl rfl rfl rfl rfl (y_bin rfl S rfl rfl rfl) fun a S => ?_
     refine gz 70 h3 S rfl rfl rfl rfl rfl rfl (y_and' rfl h4 S rfl rfl) fun a S => ?_
     exact kk _ _ (S.join 3 76 rfl rfl) H
    refine gy rfl rfl rfl S (y_or' rfl h3 S rfl rfl) fun a S => ?_
    exact kk _ _ (S.join 5 77 rfl rfl) H
   refine gnt ?_
   refine c_if S rfl (fun h5 => ?_) (fun h5 => ?_)
   ·have h5p := h5; try simp only [DL] at h5p
    have hev : e ≠ 0 ∧ e ≠ 15 := by have := h5p; simpa using this
    have heq : T2 = T := by rw [hT2]; exact sellT_err (by rw [← hE]; exact hev.1)
    refine gsr ?_
    refine gm S fun a S => ?_
    refine gm S fun a S => ?_
    refine' wl_and 2 79 rfl S H rfl rfl rfl rfl rfl rfl rfl (fun _ S => (wn rfl)) (fun h6 kk => ?yh6) (fun a w S H => ?_)
    case yh6 =>
     have h6p := h6; try simp only [DL] at h6p
     refine gz 79 h6 S rfl rfl rfl rfl rfl rfl (y_move rfl S rfl) fun a S => ?_
     refine gz 79 h6 S rfl rfl rfl rfl rfl rfl (y_bin rfl S rfl rfl rfl) fun a S => ?_
     refine gy rfl rfl rfl S (y_and' rfl h6 S rfl rfl) fun a S => ?_
     exact kk _ _ (S.join 3 82 rfl rfl) H
    refine gm S fun a S => ?_
    refine' wl_and 3 83 rfl S H rfl rfl rfl rfl rfl rfl rfl (fun _ S => (wn rfl)) (fun h7 kk => ?yh7) (fun a w S H => ?_)
    case yh7 =>
     have h7p := h7; try simp only [DL] at h7p
     refine gz 83 h7 S rfl rfl rfl rfl rfl rfl (y_load0 rfl S H rfl (by exact Fagg43)) fun a S => ?_
     refine gz 83 h7 S rfl rfl rfl rfl rfl rfl (y_load0 rfl S H rfl (by exact Fagg43)) fun a S => ?_
     refine wl_of (op_call (wg' 83 rfl rfl S rfl h7 rfl) rfl rfl S (co_func rfl Try.call19 S rfl) (same_spec mvA vlA vrA msA (clP old next T) (crP old next T) mvB vlB vrB msB (clP old next T2) (crP old next T2) _ (H.sl mvA) (H.rws 3 (rowsOf msA)) (H.sl vlA) (H.sl vrA) (H.sl mvB) (H.rws 3 (rowsOf msB)) (H.sl vlB) (H.sl vrB)) fun v w hc a S => ?_)
     obtain ⟨rfl, he⟩ := hc
     have H := H.ext he
     refine gy rfl rfl rfl S (y_and' rfl h7 S rfl rfl) fun a S => ?_
     exact kk _ _ (S.join 4 87 rfl rfl) H
    refine ga S fun a S => ?_
    refine gnt ?_
    have S := ((((((((S.nil.cons S 4 rfl).cons S 1 rfl).cons S 0 rfl).cons S 13 rfl).cons S 14 rfl).cons S 18 rfl).cons S 20 rfl).cons S 21 rfl).cons S 12 rfl
    refine g_ret ?_
    refine r_then (ret1 rfl S rfl ?_)
    refine ⟨congrArg Value.bool ?_, H.toExt⟩
    rw [hmA, hmB, heq]; simp
   ·have h5p := h5; try simp only [DL] at h5p
    have hev : e = 0 ∨ e = 15 := by
      have hh := h5
      simp only [bne_self_eq_false, Bool.false_or, Bool.and_eq_false_iff, bne_eq_false_iff_eq] at hh
      exact hh
    have hA : argB old.length place serial = false := by
      rcases hev with h | h
      · have := (sell_parts (hE ▸ h)).1; simp only [argB, Bool.or_eq_false_iff, decide_eq_false_iff_not]; omega
      · exact (sellE_15 (hE ▸ h)).1
    have hpl : 0 ≤ place ∧ place < old.length := ⟨(argB_no hA).1, (argB_no hA).2.1⟩
    refine g_skip ?_
    refine n_then ?_
    have S := ((((((((S.nil.cons S 4 rfl).cons S 1 rfl).cons S 0 rfl).cons S 12 rfl).cons S 13 rfl).cons S 14 rfl).cons S 18 rfl).cons S 20 rfl).cons S 21 rfl
    refine gsr ?_
    refine gm S fun a S => ?_
    refine wl_of (op_call (wn rfl) rfl rfl S (co_func rfl Try.call23 S rfl) (places_spec vo T _ (H.sl vo) (by have := hTw.len; omega)) fun u89 w hc a S => ?_)
    have H1 := hc
    have H := H.call1 H1 rfl
    refine ga S fun a S => ?_
    refine gnt ?_
    refine gsr ?_
    refine gm S fun a S => ?_
    refine gm S fun a S => ?_
    refine wl_of (op_buildSlice (wn rfl) rfl rfl rfl Try.underlying39 Finf3 S H (idx := []) rfl rfl rfl (z := []) (by kernel_rfl) (cs := []) rfl fun b92 a w S H => ?_)
    have H := H.celO [] encI 1 (m := 0) rfl (by simp) rfl (by omega)
    refine gm S fun a S => ?_
    refine wl_of (op_appendT (wn rfl) rfl rfl rfl Try.underlying39 Finf3 rfl rfl S H rfl rfl (by simp [encI, Value.oneCell']) (by simp only [plcs_len, List.length_nil]; omega) (by simp only [plcs_len, List.length_nil]; omega) fun u94 a w S H => ?_)
    refine gm S fun a S => ?_
    refine wl_of (op_buildSlice (wn rfl) rfl rfl rfl Try.underlying39 Finf3 S H (idx := [0]) rfl rfl rfl (z := [.int .i64 0]) (by kernel_rfl) (cs := [_]) rfl fun b96 a w S H => ?_)
    refine wl_of (op_append ([place]) (wn rfl) rfl rfl rfl Try.underlying39 Finf3 rfl rfl S H rfl rfl rfl rfl (by simp) (by simp [encI]) (by simp [encI, Value.oneCell']) (by simp only [List.length_append, plcs_len, List.length_cons, List.length_nil]; omega) (by simp only [List.length_append, plcs_len, List.length_cons, List.length_nil]; omega) fun u97 a w hn97 S H => ?_)
    refine wl_of (op_call (wn rfl) rfl rfl S (co_func rfl Try.call24 S rfl) (size_spec v1 v2 u97 old next (plcs T ++ [place]) _ (H.sl v1) (H.sl v2) (H.sl u97) (plcs_ok2 hTw hpl) (by simp only [List.length_append, plcs_len, List.length_cons, List.length_nil]; omega) (by omega)) fun v w hc a S => ?_)
    obtain ⟨rfl, he⟩ := hc
    have H := H.ext he
    refine gm S fun a S => ?_
    refine gm S fun a S => ?_
    refine gm S fun a S => ?_
    refine wl_of (op_call (wn rfl) rfl rfl S (co_func rfl Try.call24 S rfl) (size_spec v1 v2 u89 old next (plcs T) _ (H.sl v1) (H.sl v2) (H.sl u89) (plcs_ok hTw) (by rw [plcs_len]; omega) (by omega)) fun v w hc a S => ?_)
    obtain ⟨rfl, he⟩ := hc
    have H := H.ext he
    refine gy rfl rfl rfl S (y_bin rfl S rfl rfl rfl) fun a S => ?_
    refine ga S fun a S => ?_
    refine gnt ?_
    have S := (((((S.nil.cons S 12 rfl).cons S 13 rfl).cons S 18 rfl).cons S 20 rfl).cons S 21 rfl).cons S 24 rfl
    refine g_seq ?_
    refine gsr ?_
    refine gm S fun a S => ?_
    refine gy rfl rfl rfl S (y_bin rfl S rfl rfl rfl) fun a S => ?_
    refine gnt ?_
    refine c_if S rfl (fun h8 => ?_) (fun h8 => ?_)
    ·have h8p := h8; try simp only [DL] at h8p
     have he15 : e = 15 := by simpa using h8p
     have heq : T2 = T := by rw [hT2]; exact sellT_err (by rw [← hE, he15]; decide)
     have hdn := (sellE_15 (hE ▸ he15)).2
     refine gsr ?_
     refine gm S fun a S => ?_
     refine gm S fun a S => ?_
     refine' wl_and 2 107 rfl S H rfl rfl rfl rfl rfl rfl rfl (fun _ S => (wn rfl)) (fun h9 kk => ?yh9) (fun a w S H => ?_)
     case yh9 =>
      have h9p := h9; try simp only [DL] at h9p
      refine gz 107 h9 S rfl rfl rfl rfl rfl rfl (y_move rfl S rfl) fun a S => ?_
      refine gz 107 h9 S rfl rfl rfl rfl rfl rfl (y_not rfl S rfl) fun a S => ?_
      refine gy rfl rfl rfl S (y_and' rfl h9 S rfl rfl) fun a S => ?_
      exact kk _ _ (S.join 3 110 rfl rfl) H
     refine gm S fun a S => ?_
     refine' wl_and 3 111 rfl S H rfl rfl rfl rfl rfl rfl rfl (fun _ S => (wn rfl)) (fun h10 kk => ?yh10) (fun a w S H => ?_)
     case yh10 =>
      have h10p := h10; try simp only [DL] at h10p
      refine gz 111 h10 S rfl rfl rfl rfl rfl rfl (y_load0 rfl S H rfl (by exact Fagg43)) fun a S => ?_
      refine gz 111 h10 S rfl rfl rfl rfl rfl rfl (y_load0 rfl S H rfl (by exact Fagg43)) fun a S => ?_
      refine wl_of (op_call (wg' 111 rfl rfl S rfl h10 rfl) rfl rfl S (co_func rfl Try.call19 S rfl) (same_spec mvA vlA vrA msA (clP old next T) (crP old next T) mvB vlB vrB msB (clP old next T2) (crP old next T2) _ (H.sl mvA) (H.rws 3 (rowsOf msA)) (H.sl vlA) (H.sl vrA) (H.sl mvB) (H.rws 3 (rowsOf msB)) (H.sl vlB) (H.sl vrB)) fun v w hc a S => ?_)
      obtain ⟨rfl, he⟩ := hc
      have H := H.ext he
      refine gy rfl rfl rfl S (y_and' rfl h10 S rfl rfl) fun a S => ?_
      exact kk _ _ (S.join 4 115 rfl rfl) H
     refine ga S fun a S => ?_
     refine gnt ?_
     have S := ((((S.nil.cons S 13 rfl).cons S 18 rfl).cons S 21 rfl).cons S 24 rfl).cons S 12 rfl
     refine g_ret ?_
     refine r_then (ret1 rfl S rfl ?_)
     refine ⟨congrArg Value.bool ?_, H.toExt⟩
     rw [hmA, hmB, heq]
     have hg := greater (place := place) hTw (by omega)
     rw [hdn] at hg
     simp only [List.nil_append] at *
     rw [hg]; simp
    ·have h8p := h8; try simp only [DL] at h8p
     have he0 : e = 0 := hev.resolve_right (by simpa using h8p)
     have hdn := (sell_parts (hE ▸ he0)).2.2.2.2
     obtain ⟨hl1, hl2⟩ := loss_sell hTw (hE ▸ he0)
     rw [← hT2] at hl1 hl2
     have hMA := planM hTw.err hmA
     have hMB := planM hTw2.err hmB
     have hLA := hMA.len
     have hLB := hMB.len
     refine g_skip ?_
     refine n_then ?_
     refine g_seq ?_
     refine region_st (loud := []) (tails := []) (free := []) [0, 1, 2, 3, 4, 5, 6, 7, 8, 9, 10, 11, 12, 13, 14, 15, 16, 17, 18, 19, 20, 21] [] Fmo (by kernel_rfl) (by kernel_rfl) rfl H ?_
     refine m_w rfl rfl (wn rfl) rfl rfl S (fun w H => y_move rfl S rfl) fun a S => ?_
     refine m_w rfl rfl (wn rfl) rfl rfl S (fun w H => y_move rfl S rfl) fun a S => ?_
     refine' m_andq [2] 117 S rfl rfl rfl rfl rfl rfl rfl rfl rfl (fun _ S => (wn rfl)) (fun h11 kk => ?yh11) (fun a S => ?_)
     case yh11 =>
      have h11p := h11; try simp only [DL] at h11p
      refine m_w rfl rfl (wg' 117 rfl rfl S rfl h11 rfl) rfl rfl S (fun w H => y_move rfl S rfl) fun a S => ?_
      refine m_w rfl rfl (wn rfl) rfl rfl S (fun w H => y_and' rfl h11 S rfl rfl) fun a S => ?_
      exact kk _ (S.join 2 119 rfl rfl)
     refine m_w rfl rfl (wn rfl) rfl rfl S (fun w H => y_move rfl S rfl) fun a S => ?_
     refine' m_andq [5, 6, 7, 8, 9, 10, 11, 12] 120 S rfl rfl rfl rfl rfl rfl rfl rfl rfl (fun _ S => (wn rfl)) (fun h12 kk => ?yh12) (fun a S => ?_)
     case yh12 =>
      have h12p := h12; try simp only [DL] at h12p
      refine m_w rfl rfl (wg' 120 rfl rfl S rfl h12 rfl) rfl rfl S (fun w H => y_faddrb rfl Ffo43_0 S rfl) fun a S => ?_
      refine m_w rfl rfl (wg' 120 rfl rfl S rfl h12 rfl) rfl rfl S (fun w H => y_load rfl Fsca38 S H rfl rfl) fun a S => ?_
      refine m_w rfl rfl (wg' 120 rfl rfl S rfl h12 rfl) rfl rfl S (fun w H => y_lens rfl Try.underlying38 S H rfl) fun a S => ?_
      refine m_w rfl rfl (wg' 120 rfl rfl S rfl h12 rfl) rfl rfl S (fun w H => y_faddrb rfl Ffo43_0 S rfl) fun a S => ?_
      refine m_w rfl rfl (wg' 120 rfl rfl S rfl h12 rfl) rfl rfl S (fun w H => y_load rfl Fsca38 S H rfl rfl) fun a S => ?_
      refine m_w rfl rfl (wg' 120 rfl rfl S rfl h12 rfl) rfl rfl S (fun w H => y_lens rfl Try.underlying38 S H rfl) fun a S => ?_
      refine m_w rfl rfl (wg' 120 rfl rfl S rfl h12 rfl) rfl rfl S (fun w H => y_add rfl S rfl rfl (by omega)) fun a S => ?_
      refine m_w rfl rfl (wg' 120 rfl rfl S rfl h12 rfl) rfl rfl S (fun w H => y_bin rfl S rfl rfl rfl) fun a S => ?_
      refine m_w rfl rfl (wn rfl) rfl rfl S (fun w H => y_and' rfl h12 S rfl rfl) fun a S => ?_
      exact kk _ (S.join 9 129 rfl rfl)
     refine m_w rfl rfl (wn rfl) rfl rfl S (fun w H => y_move rfl S rfl) fun a S => ?_
     refine' m_andq [15, 16, 17, 18, 19] 130 S rfl rfl rfl rfl rfl rfl rfl rfl rfl (fun _ S => (wn rfl)) (fun h13 kk => ?yh13) (fun a S => ?_)
     case yh13 =>
      have h13p := h13; try simp only [DL] at h13p
      refine m_w rfl rfl (wg' 130 rfl rfl S rfl h13 rfl) rfl rfl S (fun w H => y_load0 rfl S H rfl (by exact Fagg43)) fun a S => ?_
      refine m_c rfl rfl (wg' 130 rfl rfl S rfl h13 rfl) rfl rfl S (fun w => co_func rfl Try.call25 S rfl) (fun w H => lost_spec mvA vlA vrA msA _ (H.sl mvA)) fun a S => ?_
      refine m_w rfl rfl (wg' 130 rfl rfl S rfl h13 rfl) rfl rfl S (fun w H => y_load0 rfl S H rfl (by exact Fagg43)) fun a S => ?_
      refine m_c rfl rfl (wg' 130 rfl rfl S rfl h13 rfl) rfl rfl S (fun w => co_func rfl Try.call25 S rfl) (fun w H => lost_spec mvB vlB vrB msB _ (H.sl mvB)) fun a S => ?_
      refine m_w rfl rfl (wg' 130 rfl rfl S rfl h13 rfl) rfl rfl S (fun w H => y_bin rfl S rfl rfl rfl) fun a S => ?_
      refine m_w rfl rfl (wn rfl) rfl rfl S (fun w H => y_and' rfl h13 S rfl rfl) fun a S => ?_
      exact kk _ (S.join 6 136 rfl rfl)
     refine m_w rfl rfl (wn rfl) rfl rfl S (fun w H => y_assign rfl S rfl) fun a S => ?_
     refine m_nil (fun w H => ?_)
     refine n_then ?_
     have S := S.nil.cons S 12 rfl
     refine g_ret ?_
     refine ret1 rfl S rfl ?_
     refine ⟨congrArg Value.bool ?_, H.toExt⟩
     have hg := greater (place := place) hTw (by omega)
     rw [hdn] at hg
     simp only [List.nil_append] at *
     rw [hg, hMA.lost, hMB.lost, hl1, hLA, hLB, hl2]; simp
end Go.Proofs.Ytnnendajegdnhaa
