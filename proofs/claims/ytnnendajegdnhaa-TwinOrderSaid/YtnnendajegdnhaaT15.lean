/- The walks. No condition. -/
import Derived.Test.YtnnendajegdnhaaChecked
import Derived.Test.YtnnendajegdnhaaGwDel
import Derived.Test.YtnnendajegdnhaaFacts
import Derived.Test.YtnnendajegdnhaaPlain
import Derived.Test.YtnnendajegdnhaaPlainTj
import Derived.Test.YtnnendajegdnhaaT11
namespace Go.Proofs.Ytnnendajegdnhaa
open Go Go.Gw
set_option linter.unusedVariables false
set_option linter.unusedSimpArgs false
set_option maxHeartbeats 4000000 in
/-- foyer/foyerlaw42.TwinOrder -/
theorem law4 (v1 v2 : Value) (old next : List Pl) (v3 : Value) (ts : List Ow) (v4 : Value) (sell : List Int) (by_ : Nat) (hby : by_ ≤ 255) (w0 : World) (hv1 : IsSl w0 v1 9 Pl.enc old) (hv2 : IsSl w0 v2 9 Pl.enc next) (hv3 : IsSl w0 v3 11 Ow.enc ts) (hok : ∀ o ∈ ts, o.ok) (hv4 : IsSl w0 v4 1 encU8 sell) (hsb : ∀ x ∈ sell, 0 ≤ x ∧ x ≤ 255) :
    Ret Try.prog 6 #[v1, v2, v3, v4, .int .u8 (by_ : Int)] w0 (fun u w => u = .bool true ∧ Ext w0 w) := by
 refine ret_of_wp (nt := 129) Try.func6 rfl rfl rfl (fl := [(0, v1), (1, v2), (2, v3), (3, v4), (4, .int .u8 (by_ : Int))]) rfl (fun a S => ?_)
 have H := HSat.start w0
 have H := H.ro0 (Sl v1 9 Pl.enc old) rfl (hv1)
 have H := H.ro0 (Sl v2 9 Pl.enc next) rfl (hv2)
 have H := H.ro0 (Sl v3 11 Ow.enc ts) rfl (hv3)
 have H := H.ro0 (Sl v4 1 encU8 sell) rfl (hv4)
 have hlv := hv4.len
 have hl1 := hv1.len
 refine gsr ?_
 refine ga S fun a S => ?_
 refine gnt ?_
 refine gsr ?_
 refine wl_of (op_call (wn rfl) rfl rfl S (co_func rfl Try.call7 S rfl) (head_spec _) fun v w hc a S => ?_)
 obtain ⟨rfl, he⟩ := hc
 have H := H.ext he
 refine ga S fun a S => ?_
 refine gnt ?_
 refine g_seq ?_
 refine gsr ?_
 refine gm S fun a S => ?_
 refine gm S fun a S => ?_
 refine gm S fun a S => ?_
 refine wl_of (op_call (wn rfl) rfl rfl S (co_func rfl Try.call8 S rfl) (few42_spec v1 v2 old next v3 ts (.slice none 0 0) [] _ (H.sl v1) (H.sl v2) (H.sl v3) (IsSl.nil _ 3 Op.enc)) fun v w hc a S => ?_)
 obtain ⟨rfl, he⟩ := hc
 have H := H.ext he
 refine gy rfl rfl rfl S (y_not rfl S rfl) fun a S => ?_
 refine gm S fun a S => ?_
 refine' wl_or 3 29 rfl S H rfl rfl rfl rfl rfl rfl rfl (fun _ S => (wn rfl)) (fun h1 kk => ?yh1) (fun a w S H => ?_)
 case yh1 =>
  have h1p := h1; try simp only [DL] at h1p
  refine gz 29 h1 S rfl rfl rfl rfl rfl rfl (y_move rfl S rfl) fun a S => ?_
  refine gz 29 h1 S rfl rfl rfl rfl rfl rfl (y_lens rfl Try.underlying68 S H rfl) fun a S => ?_
  refine gz 29 h1 S rfl rfl rfl rfl rfl rfl (y_bin rfl S rfl rfl rfl) fun a S => ?_
  refine gy rfl rfl rfl S (y_or' rfl h1 S rfl rfl) fun a S => ?_
  exact kk _ _ (S.join 4 33 rfl rfl) H
 refine gm S fun a S => ?_
 refine' wl_or 3 34 rfl S H rfl rfl rfl rfl rfl rfl rfl (fun _ S => (wn rfl)) (fun h2 kk => ?yh2) (fun a w S H => ?_)
 case yh2 =>
  have h2p := h2; try simp only [DL] at h2p
  refine gz 34 h2 S rfl rfl rfl rfl rfl rfl (y_move rfl S rfl) fun a S => ?_
  refine gz 34 h2 S rfl rfl rfl rfl rfl rfl (y_lens rfl Try.underlying22 S H rfl) fun a S => ?_
  refine gz 34 h2 S rfl rfl rfl rfl rfl rfl (y_bin rfl S rfl rfl rfl) fun a S => ?_
  refine gy rfl rfl rfl S (y_or' rfl h2 S rfl rfl) fun a S => ?_
  exact kk _ _ (S.join 4 38 rfl rfl) H
 refine gnt ?_
 have S := (((((((S.nil.cons S 4 rfl).cons S 3 rfl).cons S 2 rfl).cons S 1 rfl).cons S 0 rfl).cons S 10 rfl).cons S 11 rfl).cons S 38 rfl
 refine c_if S rfl (fun h3 => ?_) (fun h3 => ?_)
 ·have h3p := h3; try simp only [DL] at h3p
  refine gsr ?_
  refine gm S fun a S => ?_
  refine ga S fun a S => ?_
  refine gnt ?_
  refine g_ret ?_
  refine r_then (ret1 rfl S rfl ?_)
  exact ⟨rfl, H.toExt⟩
 ·have h3p := h3; try simp only [DL] at h3p
  have hh1 := h3
  simp only [Bool.or_eq_false_iff, Bool.not_eq_false', decide_eq_false_iff_not, beq_eq_false_iff_ne] at hh1
  obtain ⟨hf1, hf2, hf3, hf4⟩ := fewT_yes hh1.1.1
  have hsl : sell.length ≤ 20 := by have := hh1.1.2; omega
  have hol : 0 < old.length := by have := hh1.2; omega
  refine g_skip ?_
  refine n_then ?_
  refine gsr ?_
  refine gm S fun a S => ?_
  refine gm S fun a S => ?_
  refine gm S fun a S => ?_
  refine wl_of (op_call (wn rfl) rfl rfl S (co_func rfl Try.call9 S rfl) (new_any v1 v2 old next v3 ts _ (H.sl v1) (H.sl v2) (H.sl v3) hok (by omega)) fun un w hc a S => ?_)
  obtain ⟨pp, rfl, hn⟩ := hc
  skip
  refine gm S fun a S => ?_
  refine gy rfl rfl rfl S (y_extract rfl S rfl rfl) fun a S => ?_
  refine gy rfl rfl rfl S (y_extract rfl S rfl rfl) fun a S => ?_
  refine ga S fun a S => ?_
  refine ga S fun a S => ?_
  refine gnt ?_
  have S := ((((((((S.nil.cons S 4 rfl).cons S 3 rfl).cons S 2 rfl).cons S 1 rfl).cons S 0 rfl).cons S 10 rfl).cons S 11 rfl).cons S 12 rfl).cons S 13 rfl
  refine g_seq ?_
  refine gsr ?_
  refine gm S fun a S => ?_
  refine gy rfl rfl rfl S (y_bin rfl S rfl rfl rfl) fun a S => ?_
  refine gnt ?_
  refine c_if S rfl (fun h4 => ?_) (fun h4 => ?_)
  ·have h4p := h4; try simp only [DL] at h4p
   obtain ⟨hne, rfl, he⟩ := hn.resolve_right (fun h => by have hh := h4p; exact hh h.1)
   have H := H.ext he
   refine gsr ?_
   refine gm S fun a S => ?_
   refine ga S fun a S => ?_
   refine gnt ?_
   have S := (((((((S.nil.cons S 4 rfl).cons S 3 rfl).cons S 2 rfl).cons S 1 rfl).cons S 0 rfl).cons S 11 rfl).cons S 12 rfl).cons S 10 rfl
   refine g_ret ?_
   refine r_then (ret1 rfl S rfl ?_)
   exact ⟨rfl, H.toExt⟩
  ·have h4p := h4; try simp only [DL] at h4p
   obtain ⟨hne, b, vt, rfl, H1⟩ := hn.resolve_left (fun h => by have hh := h4p; exact h.1 hh)
   have htw := new_tw (n := 20) hne (by omega) hok
   have H := (H.call1 H1 rfl).pick [TwA b v1 v2 vt ts, Sl v1 9 Pl.enc old, Sl v2 9 Pl.enc next, Sl v3 11 Ow.enc ts, Sl v4 1 encU8 sell]
   simp only [List.cons_append, List.nil_append] at H
   refine g_skip ?_
   refine n_then ?_
   refine gsr ?_
   refine ga S fun a S => ?_
   refine gnt ?_
   refine g_seq ?_
   refine gsr ?_
   refine ga S fun a S => ?_
   refine gnt ?_
   refine g_block ?_
   have H := H.nilO 3 1 encI
   have SU := (((((((S.nil.cons S 4 rfl).cons S 3 rfl).cons S 2 rfl).cons S 1 rfl).cons S 0 rfl).cons S 10 rfl).cons S 11 rfl).cons S 12 rfl
   refine loopW (X := Nat × Value) SU (fun x => [(14, x.2), (15, .int .i64 (x.1 : Int))]) (fun x w => x.1 ≤ sell.length ∧ ∃ T Z vt2, Sold old next ts T Z x.1 ∧ HSat No w0 [TwA b v1 v2 vt2 T, OSl 3 x.2 1 encI Z, Sl v4 1 encU8 sell, Sl v3 11 Ow.enc ts, Sl v2 9 Pl.enc next, Sl v1 9 Pl.enc old] w) (fun x => sell.length - x.1) (0, .slice none 0 0) ((S.nil.cons S 15 rfl).cons S 14 rfl) (⟨by simp, ts, [], vt, sold_0 htw, H.take [TwA b v1 v2 vt ts, OSl 3 (.slice none 0 0) 1 encI [], Sl v4 1 encU8 sell, Sl v3 11 Ow.enc ts, Sl v2 9 Pl.enc next, Sl v1 9 Pl.enc old]⟩) (fun x a w S hW => ?_)
   simp only [List.cons_append, List.nil_append] at S
   clear H
   obtain ⟨k, vo⟩ := x
   obtain ⟨hk, T, Z, vt2, hS, H⟩ := hW
   dsimp only at S H hk hS
   refine g_seq ?_
   refine gsr ?_
   refine gm S fun a S => ?_
   refine gm S fun a S => ?_
   refine gy rfl rfl rfl S (y_lens rfl Try.underlying68 S H rfl) fun a S => ?_
   refine gy rfl rfl rfl S (y_bin rfl S rfl rfl rfl) fun a S => ?_
   refine gnt ?_
   refine c_if S rfl (fun h5 => ?_) (fun h5 => ?_)
   ·have h5p := h5; try simp only [DL] at h5p
    have hkl : k < sell.length := by omega
    obtain ⟨hb0, hb1⟩ := hsb _ (List.getElem_mem hkl)
    refine g_skip ?_
    refine n_then ?_
    have S := (((((((((S.nil.cons S 4 rfl).cons S 3 rfl).cons S 2 rfl).cons S 1 rfl).cons S 0 rfl).cons S 10 rfl).cons S 11 rfl).cons S 12 rfl).cons S 15 rfl).cons S 14 rfl
    refine g_seq ?_
    refine g_block ?_
    refine gsr ?_
    refine gm S fun a S => ?_
    refine gm S fun a S => ?_
    refine gy rfl rfl rfl S (y_iaddrn rfl Try.underlying68 Fsiz5 S H rfl rfl (by first | assumption | omega | (simp only [LL]; omega))) fun a S => ?_
    refine gy rfl rfl rfl S (y_loads _ rfl Fsca5 S H rfl (by first | assumption | omega | (simp only [LL]; omega)) rfl) fun a S => ?_
    refine gy rfl rfl rfl S (y_conv rfl Try.underlying5 Try.underlying3 S rfl (by omega)) fun a S => ?_
    refine gm S fun a S => ?_
    refine gy rfl rfl rfl S (y_lens rfl Try.underlying22 S H rfl) fun a S => ?_
    refine gy rfl rfl rfl S (y_remn rfl S rfl rfl (by omega) (by omega)) fun a S => ?_
    refine ga S fun a S => ?_
    refine gnt ?_
    have S := ((((((((((S.nil.cons S 4 rfl).cons S 3 rfl).cons S 2 rfl).cons S 1 rfl).cons S 0 rfl).cons S 10 rfl).cons S 11 rfl).cons S 12 rfl).cons S 15 rfl).cons S 14 rfl).cons S 16 rfl
    refine gsr ?_
    refine gm S fun a S => ?_
    refine gm S fun a S => ?_
    refine gm S fun a S => ?_
    refine gy rfl rfl rfl S (y_add rfl S rfl rfl (by omega)) fun a S => ?_
    have H := H.pick [TwA b v1 v2 vt2 T, Sl v1 9 Pl.enc old, Sl v2 9 Pl.enc next]
    simp only [List.cons_append, List.nil_append] at H
    refine wl_of (op_call (wn rfl) rfl rfl S (co_func rfl Try.call13 S rfl) (sell_ok b v1 v2 vt2 old next T (sell[k] % (old.length : Int)) (900000 + (k : Int)) (20 + k) _ H hS.tw (by omega)) fun v w hc a S => ?_)
    obtain ⟨rfl, vt4, H⟩ := hc
    skip
    refine gy rfl rfl rfl S (y_bin rfl S rfl rfl rfl) fun a S => ?_
    refine gnt ?_
    have S := (((((((((((S.nil.cons S 4 rfl).cons S 3 rfl).cons S 2 rfl).cons S 1 rfl).cons S 0 rfl).cons S 10 rfl).cons S 11 rfl).cons S 12 rfl).cons S 15 rfl).cons S 14 rfl).cons S 16 rfl).cons S 69 rfl
    refine c_if S rfl (fun h6 => ?_) (fun h6 => ?_)
    ·have h6p := h6; try simp only [DL] at h6p
     have hse : sellE old next T (sell[k] % (old.length : Int)) (900000 + (k : Int)) = 0 := by simpa using h6p
     have hS2 := sold_yes hS hse
     refine g_region ?_
     refine gm S fun a S => ?_
     refine gm S fun a S => ?_
     refine wl_of (op_buildSlice (wn rfl) rfl rfl rfl Try.underlying39 Finf3 S H (idx := [0]) rfl rfl rfl (z := [.int .i64 0]) (by kernel_rfl) (cs := [_]) rfl fun b72 a w S H => ?_)
     refine wl_of (op_append ([(sell[k] % (old.length : Int))]) (wn rfl) rfl rfl rfl Try.underlying39 Finf3 rfl rfl S H rfl rfl rfl rfl (by simp) (by simp [encI]) (by simp [encI, Value.oneCell']) (by have := hS.len; simp only [List.length_cons, List.length_nil]; omega) (by have := hS.len; simp only [List.length_cons, List.length_nil]; omega) fun u73 a w hn73 S H => ?_)
     refine ga S fun a S => ?_
     refine gl_nil ?_
     refine n_block ?_
     refine n_then ?_
     have S := (((((((((S.nil.cons S 4 rfl).cons S 3 rfl).cons S 2 rfl).cons S 1 rfl).cons S 0 rfl).cons S 10 rfl).cons S 11 rfl).cons S 12 rfl).cons S 15 rfl).cons S 14 rfl
     refine g_region ?_
     refine gm S fun a S => ?_
     refine gy rfl rfl rfl S (y_add rfl S rfl rfl (by omega)) fun a S => ?_
     refine ga S fun a S => ?_
     refine gnt ?_
     first
     | exact ⟨(k + 1, u73), (S.nil.cons S 15 rfl).cons S 14 rfl, (((((((S.nil.cons S 4 rfl).cons S 3 rfl).cons S 2 rfl).cons S 1 rfl).cons S 0 rfl).cons S 10 rfl).cons S 11 rfl).cons S 12 rfl, ⟨by dsimp only; omega, _, _, vt4, hS2, H.take [TwA b v1 v2 vt4 (sellT old next T (sell[k] % (old.length : Int)) (900000 + (k : Int))), OSl 3 u73 1 encI (Z ++ [(sell[k] % (old.length : Int))]), Sl v4 1 encU8 sell, Sl v3 11 Ow.enc ts, Sl v2 9 Pl.enc next, Sl v1 9 Pl.enc old]⟩, by dsimp only; omega⟩
     | exact ⟨(k + 1, vo), (S.nil.cons S 15 rfl).cons S 14 rfl, (((((((S.nil.cons S 4 rfl).cons S 3 rfl).cons S 2 rfl).cons S 1 rfl).cons S 0 rfl).cons S 10 rfl).cons S 11 rfl).cons S 12 rfl, ⟨by dsimp only; omega, _, _, vt4, hS2, H.take [TwA b v1 v2 vt4 (sellT old next T (sell[k] % (old.length : Int)) (900000 + (k : Int))), OSl 3 vo 1 encI Z, Sl v4 1 encU8 sell, Sl v3 11 Ow.enc ts, Sl v2 9 Pl.enc next, Sl v1 9 Pl.enc old]⟩, by dsimp only; omega⟩
    ·have h6p := h6; try simp only [DL] at h6p
     have hse : sellE old next T (sell[k] % (old.length : Int)) (900000 + (k : Int)) ≠ 0 := by simpa using h6p
     have hS2 := sold_no hS hse
     refine g_skip ?_
     refine n_block ?_
     refine n_then ?_
     refine g_region ?_
     refine gm S fun a S => ?_
     refine gy rfl rfl rfl S (y_add rfl S rfl rfl (by omega)) fun a S => ?_
     refine ga S fun a S => ?_
     refine gnt ?_
     first
     | exact ⟨(k + 1, u73), (S.nil.cons S 15 rfl).cons S 14 rfl, (((((((S.nil.cons S 4 rfl).cons S 3 rfl).cons S 2 rfl).cons S 1 rfl).cons S 0 rfl).cons S 10 rfl).cons S 11 rfl).cons S 12 rfl, ⟨by dsimp only; omega, _, _, vt4, hS2, H.take [TwA b v1 v2 vt4 (sellT old next T (sell[k] % (old.length : Int)) (900000 + (k : Int))), OSl 3 u73 1 encI (Z ++ [(sell[k] % (old.length : Int))]), Sl v4 1 encU8 sell, Sl v3 11 Ow.enc ts, Sl v2 9 Pl.enc next, Sl v1 9 Pl.enc old]⟩, by dsimp only; omega⟩
     | exact ⟨(k + 1, vo), (S.nil.cons S 15 rfl).cons S 14 rfl, (((((((S.nil.cons S 4 rfl).cons S 3 rfl).cons S 2 rfl).cons S 1 rfl).cons S 0 rfl).cons S 10 rfl).cons S 11 rfl).cons S 12 rfl, ⟨by dsimp only; omega, _, _, vt4, hS2, H.take [TwA b v1 v2 vt4 (sellT old next T (sell[k] % (old.length : Int)) (900000 + (k : Int))), OSl 3 vo 1 encI Z, Sl v4 1 encU8 sell, Sl v3 11 Ow.enc ts, Sl v2 9 Pl.enc next, Sl v1 9 Pl.enc old]⟩, by dsimp only; omega⟩
   ·have h5p := h5; try simp only [DL] at h5p
    obtain rfl : k = sell.length := by omega
    refine g_exit ?_
    refine x_then (x_then (x_eq ?_))
    refine n_then ?_
    have S := ((((((S.nil.cons S 4 rfl).cons S 2 rfl).cons S 1 rfl).cons S 0 rfl).cons S 10 rfl).cons S 11 rfl).cons S 14 rfl
    refine g_seq ?_
    refine gsr ?_
    refine ga S fun a S => ?_
    refine gnt ?_
    refine g_block ?_
    have SU := (((((S.nil.cons S 4 rfl).cons S 2 rfl).cons S 1 rfl).cons S 0 rfl).cons S 11 rfl).cons S 14 rfl
    refine loopW (X := Nat) SU (fun k => [(17, .int .i64 (k : Int))]) (fun k w => k ≤ ts.length ∧ (∀ q (hq : q < ts.length), q < k → ts[q].serial < 900000) ∧ HSat No w0 [OSl 3 vo 1 encI Z, Sl v4 1 encU8 sell, Sl v3 11 Ow.enc ts, Sl v2 9 Pl.enc next, Sl v1 9 Pl.enc old] w) (fun k => ts.length - k) 0 (S.nil.cons S 17 rfl) (⟨by omega, fun q hq h => by omega, H.take [OSl 3 vo 1 encI Z, Sl v4 1 encU8 sell, Sl v3 11 Ow.enc ts, Sl v2 9 Pl.enc next, Sl v1 9 Pl.enc old]⟩) (fun k a w S hW => ?_)
    simp only [List.cons_append, List.nil_append] at S
    clear H
    obtain ⟨hk, hsr, H⟩ := hW
    refine g_seq ?_
    refine gsr ?_
    refine gm S fun a S => ?_
    refine gm S fun a S => ?_
    refine gy rfl rfl rfl S (y_lens rfl Try.underlying23 S H rfl) fun a S => ?_
    refine gy rfl rfl rfl S (y_bin rfl S rfl rfl rfl) fun a S => ?_
    refine gnt ?_
    refine c_if S rfl (fun h7 => ?_) (fun h7 => ?_)
    ·have h7p := h7; try simp only [DL] at h7p
     have hql : k < ts.length := by omega
     refine g_skip ?_
     refine n_then ?_
     have S := ((((((S.nil.cons S 4 rfl).cons S 2 rfl).cons S 1 rfl).cons S 0 rfl).cons S 11 rfl).cons S 14 rfl).cons S 17 rfl
     refine g_seq ?_
     refine g_block ?_
     refine gsr ?_
     refine gm S fun a S => ?_
     refine gm S fun a S => ?_
     refine gy rfl rfl rfl S (y_iaddrn rfl Try.underlying23 Fsiz66 S H rfl rfl (by first | assumption | omega | (simp only [LL]; omega))) fun a S => ?_
     refine gy rfl rfl rfl S (y_faddr rfl Ffo66_0 S rfl) fun a S => ?_
     refine gy rfl rfl rfl S (y_faddr rfl Ffo60_0 S rfl) fun a S => ?_
     refine gy rfl rfl rfl S (y_loadsff _ rfl Fsca3 S H rfl (by first | assumption | omega | (simp only [LL]; omega)) rfl) fun a S => ?_
     refine gy rfl rfl rfl S (y_bin rfl S rfl rfl rfl) fun a S => ?_
     refine gnt ?_
     have S := (((((((S.nil.cons S 4 rfl).cons S 2 rfl).cons S 1 rfl).cons S 0 rfl).cons S 11 rfl).cons S 14 rfl).cons S 17 rfl).cons S 86 rfl
     refine c_if S rfl (fun h8 => ?_) (fun h8 => ?_)
     ·have h8p := h8; try simp only [DL] at h8p
      refine gsr ?_
      refine gm S fun a S => ?_
      refine ga S fun a S => ?_
      refine gnt ?_
      refine g_ret ?_
      refine r_block (r_then (r_then (r_block (r_then (ret1 rfl S rfl ?_)))))
      exact ⟨rfl, H.toExt⟩
     ·have h8p := h8; try simp only [DL] at h8p
      have hs9 : ts[k].serial < 900000 := by have := h8p; omega
      refine g_skip ?_
      refine n_block ?_
      refine n_then ?_
      refine g_region ?_
      refine gm S fun a S => ?_
      refine gy rfl rfl rfl S (y_add rfl S rfl rfl (by omega)) fun a S => ?_
      refine ga S fun a S => ?_
      refine gnt ?_
      exact ⟨k + 1, S.nil.cons S 17 rfl, (((((S.nil.cons S 4 rfl).cons S 2 rfl).cons S 1 rfl).cons S 0 rfl).cons S 11 rfl).cons S 14 rfl, ⟨by omega, fun q hq h => by by_cases e : q < k; exact hsr q hq e; (obtain rfl : q = k := by omega); exact hs9, H⟩, by omega⟩
    ·have h7p := h7; try simp only [DL] at h7p
     obtain rfl : k = ts.length := by omega
     have hser : ∀ x ∈ ts, x.serial < 900000 := fun x hx => by obtain ⟨q, hq, rfl⟩ := List.getElem_of_mem hx; exact hsr q hq hq
     have hSl := hS.len
     refine g_exit ?_
     refine x_then (x_then (x_eq ?_))
     refine n_then ?_
     have S := (((((S.nil.cons S 4 rfl).cons S 2 rfl).cons S 1 rfl).cons S 0 rfl).cons S 11 rfl).cons S 14 rfl
     refine g_seq ?_
     refine gsr ?_
     refine ga S fun a S => ?_
     refine gnt ?_
     refine g_block ?_
     have SU := (((((S.nil.cons S 4 rfl).cons S 2 rfl).cons S 1 rfl).cons S 0 rfl).cons S 11 rfl).cons S 14 rfl
     refine loopW (X := Nat) SU (fun m => [(18, .int .i64 (m : Int))]) (fun m w => m ≤ 2 ∧ HSat No w0 [OSl 3 vo 1 encI Z, Sl v4 1 encU8 sell, Sl v3 11 Ow.enc ts, Sl v2 9 Pl.enc next, Sl v1 9 Pl.enc old] w) (fun m => 2 - m) 0 (S.nil.cons S 18 rfl) (⟨by omega, H⟩) (fun m a w S hW => ?_)
     simp only [List.cons_append, List.nil_append] at S
     clear H
     obtain ⟨hm, H⟩ := hW
     refine g_seq ?_
     refine gsr ?_
     refine gm S fun a S => ?_
     refine gy rfl rfl rfl S (y_bin rfl S rfl rfl rfl) fun a S => ?_
     refine gnt ?_
     refine c_if S rfl (fun h9 => ?_) (fun h9 => ?_)
     ·have h9p := h9; try simp only [DL] at h9p
      have hord := order_ok hS (by omega) htw hser (o := (ordT m by_ Z.length)) (fun j hj => ordT_lt hj) (fun i j hi hj => ordT_inj i j hi hj)
      refine g_skip ?_
      refine n_then ?_
      refine g_seq ?_
      refine g_block ?_
      refine gsr ?_
      refine gm S fun a S => ?_
      refine gm S fun a S => ?_
      refine gm S fun a S => ?_
      refine wl_of (op_call (wn rfl) rfl rfl S (co_func rfl Try.call9 S rfl) (new_any v1 v2 old next v3 ts _ (H.sl v1) (H.sl v2) (H.sl v3) hok (by omega)) fun un w hc a S => ?_)
      obtain ⟨pp, rfl, hn⟩ := hc
      obtain ⟨_, b2, vt3, rfl, H1⟩ := hn.resolve_left (fun h => h.1 hne)
      have H := H.call1 H1 rfl
      refine gm S fun a S => ?_
      refine gy rfl rfl rfl S (y_extract rfl S rfl rfl) fun a S => ?_
      refine gy rfl rfl rfl S (y_extract rfl S rfl rfl) fun a S => ?_
      refine ga S fun a S => ?_
      refine ga S fun a S => ?_
      refine gnt ?_
      have S := (((((((S.nil.cons S 4 rfl).cons S 2 rfl).cons S 1 rfl).cons S 0 rfl).cons S 11 rfl).cons S 14 rfl).cons S 18 rfl).cons S 19 rfl
      refine gsr ?_
      refine ga S fun a S => ?_
      refine gnt ?_
      refine g_block ?_
      have SU := (((((((S.nil.cons S 4 rfl).cons S 2 rfl).cons S 1 rfl).cons S 0 rfl).cons S 11 rfl).cons S 14 rfl).cons S 18 rfl).cons S 19 rfl
      refine loopW (X := Nat) SU (fun i => [(21, .int .i64 (i : Int))]) (fun i w => i ≤ Z.length ∧ ∃ vt3, HSat No w0 [TwA b2 v1 v2 vt3 (ts ++ newsK Z (ordT m by_ Z.length) i), OSl 3 vo 1 encI Z, Sl v4 1 encU8 sell, Sl v3 11 Ow.enc ts, Sl v2 9 Pl.enc next, Sl v1 9 Pl.enc old] w) (fun i => Z.length - i) 0 (S.nil.cons S 21 rfl) (⟨by omega, vt3, by rw [show ts ++ newsK Z (ordT m by_ Z.length) 0 = ts by simp [newsK]]; exact H.take [TwA b2 v1 v2 vt3 ts, OSl 3 vo 1 encI Z, Sl v4 1 encU8 sell, Sl v3 11 Ow.enc ts, Sl v2 9 Pl.enc next, Sl v1 9 Pl.enc old]⟩) (fun i a w S hW => ?_)
      simp only [List.cons_append, List.nil_append] at S
      clear H
      obtain ⟨hi, vt3, H⟩ := hW
      refine g_seq ?_
      refine gsr ?_
      refine gm S fun a S => ?_
      refine gm S fun a S => ?_
      refine gy rfl rfl rfl S (y_lens rfl Try.underlying39 S H rfl) fun a S => ?_
      refine gy rfl rfl rfl S (y_bin rfl S rfl rfl rfl) fun a S => ?_
      refine gnt ?_
      refine c_if S rfl (fun h10 => ?_) (fun h10 => ?_)
      ·have h10p := h10; try simp only [DL] at h10p
       have hin : i < Z.length := by omega
       obtain ⟨hot, hos⟩ := hord i (by omega)
       have hose := hos hin
       have holt : ordT m by_ Z.length i < Z.length := ordT_lt hin
       have hosT : sellT old next (ts ++ newsK Z (ordT m by_ Z.length) i) (Z.getD (ordT m by_ Z.length i) 0) (900000 + (i : Int)) = ts ++ newsK Z (ordT m by_ Z.length) (i + 1) := by unfold sellT; rw [if_pos hose, newsK_succ, List.append_assoc]
       refine g_skip ?_
       refine n_then ?_
       have S := ((((((((S.nil.cons S 4 rfl).cons S 2 rfl).cons S 1 rfl).cons S 0 rfl).cons S 11 rfl).cons S 14 rfl).cons S 18 rfl).cons S 19 rfl).cons S 21 rfl
       refine g_seq ?_
       refine g_block ?_
       refine gsr ?_
       refine gm S fun a S => ?_
       refine gy rfl rfl rfl S (y_lens rfl Try.underlying39 S H rfl) fun a S => ?_
       refine gy rfl rfl rfl S (y_sub rfl S rfl rfl (by omega)) fun a S => ?_
       refine gm S fun a S => ?_
       refine gy rfl rfl rfl S (y_sub rfl S rfl rfl (by omega)) fun a S => ?_
       rw [show ((Z.length : Int) - 1 - (i : Int)) = ((Z.length - 1 - i : Nat) : Int) by omega] at S
       refine ga S fun a S => ?_
       refine gnt ?_
       have S := (((((((((S.nil.cons S 4 rfl).cons S 2 rfl).cons S 1 rfl).cons S 0 rfl).cons S 11 rfl).cons S 14 rfl).cons S 18 rfl).cons S 19 rfl).cons S 21 rfl).cons S 22 rfl
       refine g_seq ?_
       refine gsr ?_
       refine gm S fun a S => ?_
       refine gy rfl rfl rfl S (y_bin rfl S rfl rfl rfl) fun a S => ?_
       refine gnt ?_
       refine c_if S rfl (fun h11 => ?_) (fun h11 => ?_)
       ·have h11p := h11; try simp only [DL] at h11p
        have hm1 : m = 1 := by have := h11p; omega
        have hoe : ordT m by_ Z.length i = (i + by_) % Z.length := by unfold ordT; rw [if_pos hm1]
        have hxl : (i + by_) % Z.length < Z.length := by rw [← hoe]; exact holt
        have hgd : Z[(i + by_) % Z.length] = Z.getD (ordT m by_ Z.length i) 0 := by rw [hoe, getD_at hxl]
        refine g_region ?_
        refine gm S fun a S => ?_
        refine gm S fun a S => ?_
        refine gy rfl rfl rfl S (y_conv rfl Try.underlying5 Try.underlying3 S rfl (by omega)) fun a S => ?_
        refine gy rfl rfl rfl S (y_add rfl S rfl rfl (by omega)) fun a S => ?_
        refine gm S fun a S => ?_
        refine gy rfl rfl rfl S (y_lens rfl Try.underlying39 S H rfl) fun a S => ?_
        refine gy rfl rfl rfl S (y_remn rfl S rfl rfl (by omega) (by omega)) fun a S => ?_
        rw [show (((i : Int) + (by_ : Int)) % (Z.length : Int)) = (((i + by_) % Z.length : Nat) : Int) from rfl] at S
        refine ga S fun a S => ?_
        refine gnt ?_
        have S := (((((((((S.nil.cons S 4 rfl).cons S 2 rfl).cons S 1 rfl).cons S 0 rfl).cons S 11 rfl).cons S 14 rfl).cons S 18 rfl).cons S 19 rfl).cons S 21 rfl).cons S 22 rfl
        refine gsr ?_
        refine gm S fun a S => ?_
        refine gm S fun a S => ?_
        refine gm S fun a S => ?_
        refine gy rfl rfl rfl S (y_iaddrn rfl Try.underlying39 Fsiz3 S H rfl rfl (by first | assumption | omega | (simp only [LL]; omega))) fun a S => ?_
        refine gy rfl rfl rfl S (y_loads _ rfl Fsca3 S H rfl (by first | assumption | omega | (simp only [LL]; omega)) rfl) fun a S => ?_
        rw [hgd] at S
        refine gm S fun a S => ?_
        refine gy rfl rfl rfl S (y_add rfl S rfl rfl (by omega)) fun a S => ?_
        have H := H.pick [TwA b2 v1 v2 vt3 (ts ++ newsK Z (ordT m by_ Z.length) i), Sl v1 9 Pl.enc old, Sl v2 9 Pl.enc next]
        simp only [List.cons_append, List.nil_append] at H
        refine wl_of (op_call (wn rfl) rfl rfl S (co_func rfl Try.call13 S rfl) (sell_ok b2 v1 v2 vt3 old next (ts ++ newsK Z (ordT m by_ Z.length) i) (Z.getD (ordT m by_ Z.length i) 0) (900000 + (i : Int)) (20 + i) _ H hot (by omega)) fun v w hc a S => ?_)
        obtain ⟨rfl, vt4, H⟩ := hc
        rw [hose] at S
        rw [hosT] at H
        refine gy rfl rfl rfl S (y_bin rfl S rfl rfl rfl) fun a S => ?_
        refine gnt ?_
        have S := (((((((((S.nil.cons S 4 rfl).cons S 2 rfl).cons S 1 rfl).cons S 0 rfl).cons S 11 rfl).cons S 14 rfl).cons S 18 rfl).cons S 19 rfl).cons S 21 rfl).cons S 127 rfl
        refine c_if S rfl (fun h12 => ?_) (fun h12 => ?_)
        ·have h12p := h12; try simp only [DL] at h12p
         all_goals (
           simp at h12)
        ·have h12p := h12; try simp only [DL] at h12p
         refine g_skip ?_
         refine n_block ?_
         refine n_then ?_
         refine g_region ?_
         refine gm S fun a S => ?_
         refine gy rfl rfl rfl S (y_add rfl S rfl rfl (by omega)) fun a S => ?_
         refine ga S fun a S => ?_
         refine gnt ?_
         exact ⟨i + 1, S.nil.cons S 21 rfl, (((((((S.nil.cons S 4 rfl).cons S 2 rfl).cons S 1 rfl).cons S 0 rfl).cons S 11 rfl).cons S 14 rfl).cons S 18 rfl).cons S 19 rfl, ⟨by omega, vt4, H.take [TwA b2 v1 v2 vt4 (ts ++ newsK Z (ordT m by_ Z.length) (i + 1)), OSl 3 vo 1 encI Z, Sl v4 1 encU8 sell, Sl v3 11 Ow.enc ts, Sl v2 9 Pl.enc next, Sl v1 9 Pl.enc old]⟩, by omega⟩
       ·have h11p := h11; try simp only [DL] at h11p
        have hoe : ordT m by_ Z.length i = Z.length - 1 - i := by unfold ordT; rw [if_neg (by have := h11p; omega)]
        have hxl : Z.length - 1 - i < Z.length := by rw [← hoe]; exact holt
        have hgd : Z[Z.length - 1 - i] = Z.getD (ordT m by_ Z.length i) 0 := by rw [hoe, getD_at hxl]
        refine g_skip ?_
        refine n_then ?_
        refine gsr ?_
        refine gm S fun a S => ?_
        refine gm S fun a S => ?_
        refine gm S fun a S => ?_
        refine gy rfl rfl rfl S (y_iaddrn rfl Try.underlying39 Fsiz3 S H rfl rfl (by first | assumption | omega | (simp only [LL]; omega))) fun a S => ?_
        refine gy rfl rfl rfl S (y_loads _ rfl Fsca3 S H rfl (by first | assumption | omega | (simp only [LL]; omega)) rfl) fun a S => ?_
        rw [hgd] at S
        refine gm S fun a S => ?_
        refine gy rfl rfl rfl S (y_add rfl S rfl rfl (by omega)) fun a S => ?_
        have H := H.pick [TwA b2 v1 v2 vt3 (ts ++ newsK Z (ordT m by_ Z.length) i), Sl v1 9 Pl.enc old, Sl v2 9 Pl.enc next]
        simp only [List.cons_append, List.nil_append] at H
        refine wl_of (op_call (wn rfl) rfl rfl S (co_func rfl Try.call13 S rfl) (sell_ok b2 v1 v2 vt3 old next (ts ++ newsK Z (ordT m by_ Z.length) i) (Z.getD (ordT m by_ Z.length i) 0) (900000 + (i : Int)) (20 + i) _ H hot (by omega)) fun v w hc a S => ?_)
        obtain ⟨rfl, vt4, H⟩ := hc
        rw [hose] at S
        rw [hosT] at H
        refine gy rfl rfl rfl S (y_bin rfl S rfl rfl rfl) fun a S => ?_
        refine gnt ?_
        have S := (((((((((S.nil.cons S 4 rfl).cons S 2 rfl).cons S 1 rfl).cons S 0 rfl).cons S 11 rfl).cons S 14 rfl).cons S 18 rfl).cons S 19 rfl).cons S 21 rfl).cons S 127 rfl
        refine c_if S rfl (fun h13 => ?_) (fun h13 => ?_)
        ·have h13p := h13; try simp only [DL] at h13p
         all_goals (
           simp at h13)
        ·have h13p := h13; try simp only [DL] at h13p
         refine g_skip ?_
         refine n_block ?_
         refine n_then ?_
         refine g_region ?_
         refine gm S fun a S => ?_
         refine gy rfl rfl rfl S (y_add rfl S rfl rfl (by omega)) fun a S => ?_
         refine ga S fun a S => ?_
         refine gnt ?_
         exact ⟨i + 1, S.nil.cons S 21 rfl, (((((((S.nil.cons S 4 rfl).cons S 2 rfl).cons S 1 rfl).cons S 0 rfl).cons S 11 rfl).cons S 14 rfl).cons S 18 rfl).cons S 19 rfl, ⟨by omega, vt4, H.take [TwA b2 v1 v2 vt4 (ts ++ newsK Z (ordT m by_ Z.length) (i + 1)), OSl 3 vo 1 encI Z, Sl v4 1 encU8 sell, Sl v3 11 Ow.enc ts, Sl v2 9 Pl.enc next, Sl v1 9 Pl.enc old]⟩, by omega⟩
      ·have h10p := h10; try simp only [DL] at h10p
       obtain rfl : i = Z.length := by omega
       refine g_exit ?_
       refine x_then (x_then (x_eq ?_))
       refine n_block ?_
       refine n_then ?_
       have S := ((((((S.nil.cons S 4 rfl).cons S 2 rfl).cons S 1 rfl).cons S 0 rfl).cons S 11 rfl).cons S 14 rfl).cons S 18 rfl
       refine g_region ?_
       refine gm S fun a S => ?_
       refine gy rfl rfl rfl S (y_add rfl S rfl rfl (by omega)) fun a S => ?_
       refine ga S fun a S => ?_
       refine gnt ?_
       exact ⟨m + 1, S.nil.cons S 18 rfl, (((((S.nil.cons S 4 rfl).cons S 2 rfl).cons S 1 rfl).cons S 0 rfl).cons S 11 rfl).cons S 14 rfl, ⟨by omega, H.take [OSl 3 vo 1 encI Z, Sl v4 1 encU8 sell, Sl v3 11 Ow.enc ts, Sl v2 9 Pl.enc next, Sl v1 9 Pl.enc old]⟩, by omega⟩
     ·have h9p := h9; try simp only [DL] at h9p
      skip
      refine g_exit ?_
      refine x_then (x_then (x_eq ?_))
      refine n_then ?_
      have S := S.nil.cons S 11 rfl
      refine gsr ?_
      refine gm S fun a S => ?_
      refine ga S fun a S => ?_
      refine gnt ?_
      refine g_ret ?_
      refine ret1 rfl S rfl ?_
      exact ⟨rfl, H.toExt⟩
end Go.Proofs.Ytnnendajegdnhaa
