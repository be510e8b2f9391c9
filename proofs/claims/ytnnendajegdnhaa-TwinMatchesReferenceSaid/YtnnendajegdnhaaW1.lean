/- The walks. No condition. -/
import Derived.Test.YtnnendajegdnhaaChecked
import Derived.Test.YtnnendajegdnhaaGwBits
import Derived.Test.YtnnendajegdnhaaFacts
import Derived.Test.YtnnendajegdnhaaPlain
import Derived.Test.YtnnendajegdnhaaPlainS
import Derived.Test.YtnnendajegdnhaaB1
import Derived.Test.YtnnendajegdnhaaM1
import Derived.Test.YtnnendajegdnhaaPlainT
namespace Go.Proofs.Ytnnendajegdnhaa
open Go Go.Gw
set_option linter.unusedVariables false
set_option linter.unusedSimpArgs false
/-- foyer/rebuild.numbers -/
theorem numbers_spec (p : Pl) (w0 : World) :
    Ret Try.prog 64 #[.agg (Pl.enc p).toArray] w0 (fun v w => v = .agg (spotL p).toArray ∧ Ext w0 w) := by
 refine ret_of_wp (nt := 12) Try.func64 rfl rfl rfl (fl := [(0, .agg (Pl.enc p).toArray)]) rfl (fun a S => ?_)
 have H := HSat.start w0
 refine gsr ?_
 refine wl_of (op_boxa (wn rfl) rfl rfl rfl S H rfl fun b1 a w S H => ?_)
 refine wl_of (op_alloc (wn rfl) rfl rfl rfl S H Fzer126 fun b2 a w S H => ?_)
 refine gnt ?_
 refine gsr ?_
 refine gy rfl rfl rfl S (y_faddrb rfl Ffo85_1 S rfl) fun a S => ?_
 refine gy rfl rfl rfl S (y_load rfl Fsca3 S H rfl rfl) fun a S => ?_
 refine gy rfl rfl rfl S (y_faddrb rfl Ffo85_2 S rfl) fun a S => ?_
 refine gy rfl rfl rfl S (y_load rfl Fsca3 S H rfl rfl) fun a S => ?_
 refine gy rfl rfl rfl S (y_faddrb rfl Ffo85_3 S rfl) fun a S => ?_
 refine gy rfl rfl rfl S (y_load rfl Fsca3 S H rfl rfl) fun a S => ?_
 refine gy rfl rfl rfl S (y_faddrb rfl Ffo85_4 S rfl) fun a S => ?_
 refine gy rfl rfl rfl S (y_load rfl Fsca3 S H rfl rfl) fun a S => ?_
 refine gy rfl rfl rfl S (y_buildf rfl Fbld126 S rfl (idx := [0, 1, 2, 3]) rfl (cs := [_, _, _, _]) rfl) fun a S => ?_
 refine wl_of (op_storea (wn rfl) rfl rfl S H rfl rfl rfl Fsiz126 rfl (cs' := [_, _, _, _]) rfl fun a w S H => ?_)
 refine gnt ?_
 have S := S.nil.cons S 2 rfl
 refine g_ret ?_
 refine retc rfl S H rfl (by exact Fagg126) ?_
 exact ⟨rfl, H.toExt⟩
/-- foyer/foyerref41.same -/
theorem sameN_spec (p q : Pl) (w0 : World) :
    Ret Try.prog 67 #[.agg (Pl.enc p).toArray, .agg (Pl.enc q).toArray] w0 (fun v w => v = .bool (sameN p q) ∧ Ext w0 w) := by
 refine ret_of_wp (nt := 31) Try.func67 rfl rfl rfl (fl := [(0, .agg (Pl.enc p).toArray), (1, .agg (Pl.enc q).toArray)]) rfl (fun a S => ?_)
 have H := HSat.start w0
 refine gsr ?_
 refine wl_of (op_boxa (wn rfl) rfl rfl rfl S H rfl fun b2 a w S H => ?_)
 refine wl_of (op_boxa (wn rfl) rfl rfl rfl S H rfl fun b3 a w S H => ?_)
 refine ga S fun a S => ?_
 refine gnt ?_
 refine gsr ?_
 refine gy rfl rfl rfl S (y_faddrb rfl Ffo85_1 S rfl) fun a S => ?_
 refine gy rfl rfl rfl S (y_load rfl Fsca3 S H rfl rfl) fun a S => ?_
 refine gy rfl rfl rfl S (y_faddrb rfl Ffo85_1 S rfl) fun a S => ?_
 refine gy rfl rfl rfl S (y_load rfl Fsca3 S H rfl rfl) fun a S => ?_
 refine gy rfl rfl rfl S (y_bin rfl S rfl rfl rfl) fun a S => ?_
 refine gm S fun a S => ?_
 refine' wl_and 5 10 rfl S H rfl rfl rfl rfl rfl rfl rfl (fun _ S => (wn rfl)) (fun h1 kk => ?yh1) (fun a w S H => ?_)
 case yh1 =>
  have h1p := h1; try simp only [DL] at h1p
  refine gz 10 h1 S rfl rfl rfl rfl rfl rfl (y_faddrb rfl Ffo85_2 S rfl) fun a S => ?_
  refine gz 10 h1 S rfl rfl rfl rfl rfl rfl (y_load rfl Fsca3 S H rfl rfl) fun a S => ?_
  refine gz 10 h1 S rfl rfl rfl rfl rfl rfl (y_faddrb rfl Ffo85_2 S rfl) fun a S => ?_
  refine gz 10 h1 S rfl rfl rfl rfl rfl rfl (y_load rfl Fsca3 S H rfl rfl) fun a S => ?_
  refine gz 10 h1 S rfl rfl rfl rfl rfl rfl (y_bin rfl S rfl rfl rfl) fun a S => ?_
  refine gy rfl rfl rfl S (y_and' rfl h1 S rfl rfl) fun a S => ?_
  exact kk _ _ (S.join 6 16 rfl rfl) H
 refine gm S fun a S => ?_
 refine' wl_and 5 17 rfl S H rfl rfl rfl rfl rfl rfl rfl (fun _ S => (wn rfl)) (fun h2 kk => ?yh2) (fun a w S H => ?_)
 case yh2 =>
  have h2p := h2; try simp only [DL] at h2p
  refine gz 17 h2 S rfl rfl rfl rfl rfl rfl (y_faddrb rfl Ffo85_3 S rfl) fun a S => ?_
  refine gz 17 h2 S rfl rfl rfl rfl rfl rfl (y_load rfl Fsca3 S H rfl rfl) fun a S => ?_
  refine gz 17 h2 S rfl rfl rfl rfl rfl rfl (y_faddrb rfl Ffo85_3 S rfl) fun a S => ?_
  refine gz 17 h2 S rfl rfl rfl rfl rfl rfl (y_load rfl Fsca3 S H rfl rfl) fun a S => ?_
  refine gz 17 h2 S rfl rfl rfl rfl rfl rfl (y_bin rfl S rfl rfl rfl) fun a S => ?_
  refine gy rfl rfl rfl S (y_and' rfl h2 S rfl rfl) fun a S => ?_
  exact kk _ _ (S.join 6 23 rfl rfl) H
 refine gm S fun a S => ?_
 refine' wl_and 5 24 rfl S H rfl rfl rfl rfl rfl rfl rfl (fun _ S => (wn rfl)) (fun h3 kk => ?yh3) (fun a w S H => ?_)
 case yh3 =>
  have h3p := h3; try simp only [DL] at h3p
  refine gz 24 h3 S rfl rfl rfl rfl rfl rfl (y_faddrb rfl Ffo85_4 S rfl) fun a S => ?_
  refine gz 24 h3 S rfl rfl rfl rfl rfl rfl (y_load rfl Fsca3 S H rfl rfl) fun a S => ?_
  refine gz 24 h3 S rfl rfl rfl rfl rfl rfl (y_faddrb rfl Ffo85_4 S rfl) fun a S => ?_
  refine gz 24 h3 S rfl rfl rfl rfl rfl rfl (y_load rfl Fsca3 S H rfl rfl) fun a S => ?_
  refine gz 24 h3 S rfl rfl rfl rfl rfl rfl (y_bin rfl S rfl rfl rfl) fun a S => ?_
  refine gy rfl rfl rfl S (y_and' rfl h3 S rfl rfl) fun a S => ?_
  exact kk _ _ (S.join 6 30 rfl rfl) H
 refine ga S fun a S => ?_
 refine gnt ?_
 have S := S.nil.cons S 4 rfl
 refine g_ret ?_
 refine ret1 rfl S rfl ?_
 exact ⟨congrArg Value.bool (by unfold sameN; rfl), H.toExt⟩
set_option maxHeartbeats 400000 in
/-- foyer/foyerref41.Moved -/
theorem moved_spec (v : Value) (ts : List Ow) (w0 : World) (hv : IsSl w0 v 11 Ow.enc ts) (hok : ∀ o ∈ ts, o.ok) (hl1 : ts.length ≤ 100000) :
    Ret Try.prog 41 #[v] w0 (fun u w => HSat No w0 [OSl 66 u 11 Ow.enc (movedL ts)] w) := by
 refine ret_of_wp (nt := 34) Try.func41 rfl rfl rfl (fl := [(0, v)]) rfl (fun a S => ?_)
 have H := HSat.start w0
 have H := H.ro0 (Sl v 11 Ow.enc ts) rfl (hv)
 have hl := hv.len
 refine gsr ?_
 refine ga S fun a S => ?_
 refine gnt ?_
 refine gsr ?_
 refine ga S fun a S => ?_
 refine gnt ?_
 refine g_seq ?_
 refine gsr ?_
 refine ga S fun a S => ?_
 refine gnt ?_
 refine g_block ?_
 have H := H.nilO 66 11 Ow.enc
 have SU := (S.nil.cons S 0 rfl).cons S 2 rfl
 refine loopW (X := Nat × Value) SU (fun x => [(3, x.2), (4, .int .i64 (x.1 : Int))]) (fun x w => x.1 ≤ ts.length ∧ HSat No w0 [OSl 66 x.2 11 Ow.enc (movedL (ts.take x.1)), Sl v 11 Ow.enc ts] w) (fun x => ts.length - x.1) (0, .slice none 0 0) ((S.nil.cons S 4 rfl).cons S 3 rfl) (⟨by simp, H⟩) (fun x a w S hW => ?_)
 simp only [List.cons_append, List.nil_append] at S
 clear H
 obtain ⟨k, vo⟩ := x
 obtain ⟨hk, H⟩ := hW
 dsimp only at S H hk
 refine g_seq ?_
 refine gsr ?_
 refine gm S fun a S => ?_
 refine gm S fun a S => ?_
 refine gy rfl rfl rfl S (y_lens rfl Try.underlying23 S H rfl) fun a S => ?_
 refine gy rfl rfl rfl S (y_bin rfl S rfl rfl rfl) fun a S => ?_
 refine gnt ?_
 refine c_if S rfl (fun h1 => ?_) (fun h1 => ?_)
 ·have h1p := h1; try simp only [DL] at h1p
  have hkl : k < ts.length := by omega
  have hms := moved_step hkl
  have hok1 := hok _ (List.getElem_mem hkl)
  have hfl : (movedL (ts.take k)).length ≤ k := by unfold movedL; have := List.length_filter_le movedB (ts.take k); rw [List.length_take] at this; omega
  refine g_skip ?_
  refine n_then ?_
  have S := (((S.nil.cons S 0 rfl).cons S 2 rfl).cons S 4 rfl).cons S 3 rfl
  refine g_seq ?_
  refine g_block ?_
  refine gsr ?_
  refine gm S fun a S => ?_
  refine gm S fun a S => ?_
  refine gy rfl rfl rfl S (y_iaddrn rfl Try.underlying23 Fsiz66 S H rfl rfl (by first | assumption | omega | (simp only [LL]; omega))) fun a S => ?_
  refine gy rfl rfl rfl S (y_faddr rfl Ffo66_4 S rfl) fun a S => ?_
  refine gy rfl rfl rfl S (y_loadsf _ rfl Fsca3 S H rfl (by first | assumption | omega | (simp only [LL]; omega)) rfl) fun a S => ?_
  refine gy rfl rfl rfl S (y_bin rfl S rfl rfl rfl) fun a S => ?_
  refine gm S fun a S => ?_
  refine' wl_and 7 17 rfl S H rfl rfl rfl rfl rfl rfl rfl (fun _ S => (wn rfl)) (fun h2 kk => ?yh2) (fun a w S H => ?_)
  case yh2 =>
   have h2p := h2; try simp only [DL] at h2p
   refine gz 17 h2 S rfl rfl rfl rfl rfl rfl (y_move rfl S rfl) fun a S => ?_
   refine gz 17 h2 S rfl rfl rfl rfl rfl rfl (y_move rfl S rfl) fun a S => ?_
   refine gz 17 h2 S rfl rfl rfl rfl rfl rfl (y_iaddrn rfl Try.underlying23 Fsiz66 S H rfl rfl (by first | assumption | omega | (simp only [LL]; omega))) fun a S => ?_
   refine gz 17 h2 S rfl rfl rfl rfl rfl rfl (y_faddr rfl Ffo66_0 S rfl) fun a S => ?_
   refine gz 17 h2 S rfl rfl rfl rfl rfl rfl (y_faddr rfl Ffo60_2 S rfl) fun a S => ?_
   refine gz 17 h2 S rfl rfl rfl rfl rfl rfl (y_loadsff _ rfl Fsca3 S H rfl (by first | assumption | omega | (simp only [LL]; omega)) rfl) fun a S => ?_
   refine gz 17 h2 S rfl rfl rfl rfl rfl rfl (y_bin rfl S rfl rfl rfl) fun a S => ?_
   refine gy rfl rfl rfl S (y_and' rfl h2 S rfl rfl) fun a S => ?_
   exact kk _ _ (S.join 8 25 rfl rfl) H
  refine gnt ?_
  have S := ((((S.nil.cons S 0 rfl).cons S 2 rfl).cons S 4 rfl).cons S 3 rfl).cons S 25 rfl
  refine c_if S rfl (fun h3 => ?_) (fun h3 => ?_)
  ·have h3p := h3; try simp only [DL] at h3p
   refine g_region ?_
   refine gm S fun a S => ?_
   refine gm S fun a S => ?_
   refine gm S fun a S => ?_
   refine gy rfl rfl rfl S (y_iaddrn rfl Try.underlying23 Fsiz66 S H rfl rfl (by first | assumption | omega | (simp only [LL]; omega))) fun a S => ?_
   refine gy rfl rfl rfl S (y_loadsa _ rfl S H rfl (by exact Fagg66) (by first | assumption | omega | (simp only [LL]; omega))) fun a S => ?_
   refine wl_of (op_buildSlice (wn rfl) rfl rfl rfl Try.underlying23 Finf66 S H (idx := [0]) rfl rfl rfl (z := [.int .i64 0, .int .i64 0, .int .i64 0, .string ⟨#[]⟩, .slice none 0 0, .string ⟨#[]⟩, .slice none 0 0, .int .i64 0, .slice none 0 0, .int .i64 0, .slice none 0 0]) (by kernel_rfl) (cs := [.int .i64 ts[k].serial, .int .i64 ts[k].show_, .int .i64 ts[k].place, ts[k].first, ts[k].chain, ts[k].person, ts[k].lines, .int .i64 ts[k].total, ts[k].means, .int .i64 ts[k].gone, ts[k].offers]) (by kernel_rfl) fun b31 a w S H => ?_)
   refine wl_of (op_append ([ts[k]]) (wn rfl) rfl rfl rfl Try.underlying23 Finf66 rfl rfl S H rfl rfl rfl rfl (by simp) (by simp [Ow.enc]) (by simp only [List.mem_singleton]; rintro y rfl u hu; obtain ⟨h1, h2, h3, h4, h5, h6⟩ := hok1; simp only [Ow.enc, List.mem_cons, List.not_mem_nil, or_false] at hu; rcases hu with rfl | rfl | rfl | rfl | rfl | rfl | rfl | rfl | rfl | rfl | rfl <;> first | rfl | assumption) (by simp only [List.length_cons, List.length_nil]; omega) (by simp only [List.length_cons, List.length_nil]; omega) fun u32 a w hn32 S H => ?_)
   refine ga S fun a S => ?_
   refine gl_nil ?_
   refine n_block ?_
   refine n_then ?_
   have S := (((S.nil.cons S 0 rfl).cons S 2 rfl).cons S 4 rfl).cons S 3 rfl
   refine g_region ?_
   refine gm S fun a S => ?_
   refine gy rfl rfl rfl S (y_add rfl S rfl rfl (by omega)) fun a S => ?_
   refine ga S fun a S => ?_
   refine gnt ?_
   first
   | exact ⟨(k + 1, u32), (S.nil.cons S 4 rfl).cons S 3 rfl, (S.nil.cons S 0 rfl).cons S 2 rfl, ⟨by dsimp only; omega, by dsimp only; rw [hms, if_pos (by unfold movedB; simp only [Bool.and_eq_true, decide_eq_true_eq]; exact ⟨by have := h3p.1; omega, by have := h3p.2; omega⟩)]; exact H.take [OSl 66 u32 11 Ow.enc (movedL (ts.take k) ++ [ts[k]]), Sl v 11 Ow.enc ts]⟩, by dsimp only; omega⟩
   | exact ⟨(k + 1, vo), (S.nil.cons S 4 rfl).cons S 3 rfl, (S.nil.cons S 0 rfl).cons S 2 rfl, ⟨by dsimp only; omega, by dsimp only; rw [hms, if_neg (by unfold movedB; have := h3p; simp only [Bool.and_eq_true, decide_eq_true_eq]; omega), List.append_nil]; exact H⟩, by dsimp only; omega⟩
  ·have h3p := h3; try simp only [DL] at h3p
   refine g_skip ?_
   refine n_block ?_
   refine n_then ?_
   refine g_region ?_
   refine gm S fun a S => ?_
   refine gy rfl rfl rfl S (y_add rfl S rfl rfl (by omega)) fun a S => ?_
   refine ga S fun a S => ?_
   refine gnt ?_
   first
   | exact ⟨(k + 1, u32), (S.nil.cons S 4 rfl).cons S 3 rfl, (S.nil.cons S 0 rfl).cons S 2 rfl, ⟨by dsimp only; omega, by dsimp only; rw [hms, if_pos (by unfold movedB; simp only [Bool.and_eq_true, decide_eq_true_eq]; exact ⟨by have := h3p.1; omega, by have := h3p.2; omega⟩)]; exact H.take [OSl 66 u32 11 Ow.enc (movedL (ts.take k) ++ [ts[k]]), Sl v 11 Ow.enc ts]⟩, by dsimp only; omega⟩
   | exact ⟨(k + 1, vo), (S.nil.cons S 4 rfl).cons S 3 rfl, (S.nil.cons S 0 rfl).cons S 2 rfl, ⟨by dsimp only; omega, by dsimp only; rw [hms, if_neg (by unfold movedB; have := h3p; simp only [Bool.and_eq_true, decide_eq_true_eq]; omega), List.append_nil]; exact H⟩, by dsimp only; omega⟩
 ·have h1p := h1; try simp only [DL] at h1p
  obtain rfl : k = ts.length := by omega
  rw [List.take_length] at H
  refine g_exit ?_
  refine x_then (x_then (x_eq ?_))
  refine n_then ?_
  have S := (S.nil.cons S 2 rfl).cons S 3 rfl
  refine gsr ?_
  refine gm S fun a S => ?_
  refine ga S fun a S => ?_
  refine gnt ?_
  refine g_ret ?_
  refine ret1 rfl S rfl ?_
  exact H.take [OSl 66 vo 11 Ow.enc (movedL ts)]
/-- foyer/foyerref41.Few -/
theorem few_spec (v1 v2 : Value) (old next : List Pl) (v3 : Value) (ts : List Ow) (n : Int) (w0 : World) (hv1 : IsSl w0 v1 9 Pl.enc old) (hv2 : IsSl w0 v2 9 Pl.enc next) (hv3 : IsSl w0 v3 11 Ow.enc ts) :
    Ret Try.prog 27 #[v1, v2, v3, .int .i64 n] w0 (fun u w => u = .bool (decide ((old.length : Int) ≤ n) && decide ((next.length : Int) ≤ n) && decide ((ts.length : Int) ≤ n)) ∧ Ext w0 w) := by
 refine ret_of_wp (nt := 25) Try.func27 rfl rfl rfl (fl := [(0, v1), (1, v2), (2, v3), (3, .int .i64 n)]) rfl (fun a S => ?_)
 have H := HSat.start w0
 have H := H.ro0 (Sl v1 9 Pl.enc old) rfl (hv1)
 have H := H.ro0 (Sl v2 9 Pl.enc next) rfl (hv2)
 have H := H.ro0 (Sl v3 11 Ow.enc ts) rfl (hv3)
 have hl1 := hv1.len
 have hl2 := hv2.len
 have hl3 := hv3.len
 refine gsr ?_
 refine ga S fun a S => ?_
 refine gnt ?_
 refine gsr ?_
 refine gm S fun a S => ?_
 refine gy rfl rfl rfl S (y_lens rfl Try.underlying22 S H rfl) fun a S => ?_
 refine gm S fun a S => ?_
 refine gy rfl rfl rfl S (y_bin rfl S rfl rfl rfl) fun a S => ?_
 refine gm S fun a S => ?_
 refine' wl_and 4 13 rfl S H rfl rfl rfl rfl rfl rfl rfl (fun _ S => (wn rfl)) (fun h1 kk => ?yh1) (fun a w S H => ?_)
 case yh1 =>
  have h1p := h1; try simp only [DL] at h1p
  refine gz 13 h1 S rfl rfl rfl rfl rfl rfl (y_move rfl S rfl) fun a S => ?_
  refine gz 13 h1 S rfl rfl rfl rfl rfl rfl (y_lens rfl Try.underlying22 S H rfl) fun a S => ?_
  refine gz 13 h1 S rfl rfl rfl rfl rfl rfl (y_move rfl S rfl) fun a S => ?_
  refine gz 13 h1 S rfl rfl rfl rfl rfl rfl (y_bin rfl S rfl rfl rfl) fun a S => ?_
  refine gy rfl rfl rfl S (y_and' rfl h1 S rfl rfl) fun a S => ?_
  exact kk _ _ (S.join 5 18 rfl rfl) H
 refine gm S fun a S => ?_
 refine' wl_and 4 19 rfl S H rfl rfl rfl rfl rfl rfl rfl (fun _ S => (wn rfl)) (fun h2 kk => ?yh2) (fun a w S H => ?_)
 case yh2 =>
  have h2p := h2; try simp only [DL] at h2p
  refine gz 19 h2 S rfl rfl rfl rfl rfl rfl (y_move rfl S rfl) fun a S => ?_
  refine gz 19 h2 S rfl rfl rfl rfl rfl rfl (y_lens rfl Try.underlying23 S H rfl) fun a S => ?_
  refine gz 19 h2 S rfl rfl rfl rfl rfl rfl (y_move rfl S rfl) fun a S => ?_
  refine gz 19 h2 S rfl rfl rfl rfl rfl rfl (y_bin rfl S rfl rfl rfl) fun a S => ?_
  refine gy rfl rfl rfl S (y_and' rfl h2 S rfl rfl) fun a S => ?_
  exact kk _ _ (S.join 5 24 rfl rfl) H
 refine ga S fun a S => ?_
 refine gnt ?_
 have S := S.nil.cons S 8 rfl
 refine g_ret ?_
 refine ret1 rfl S rfl ?_
 exact ⟨rfl, H.toExt⟩
set_option maxHeartbeats 1000000 in
/-- foyer/foyerref41.right -/
theorem rright_spec (v1 v2 : Value) (old next : List Pl) (v3 : Value) (ts : List Ow) (w0 : World) (hv1 : IsSl w0 v1 9 Pl.enc old) (hv2 : IsSl w0 v2 9 Pl.enc next) (hv3 : IsSl w0 v3 11 Ow.enc ts) (hpl : ∀ o ∈ ts, 0 ≤ o.place) :
    Ret Try.prog 50 #[v1, v2, v3] w0 (fun u w => u = .int .i64 (errW old.length next.length ts) ∧ Ext w0 w) := by
 refine ret_of_wp (nt := 51) Try.func50 rfl rfl rfl (fl := [(0, v1), (1, v2), (2, v3)]) rfl (fun a S => ?_)
 have H := HSat.start w0
 have H := H.ro0 (Sl v1 9 Pl.enc old) rfl (hv1)
 have H := H.ro0 (Sl v2 9 Pl.enc next) rfl (hv2)
 have H := H.ro0 (Sl v3 11 Ow.enc ts) rfl (hv3)
 have hl1 := hv1.len
 have hl2 := hv2.len
 have hl3 := hv3.len
 refine gsr ?_
 refine ga S fun a S => ?_
 refine gnt ?_
 refine g_seq ?_
 refine gsr ?_
 refine gm S fun a S => ?_
 refine gy rfl rfl rfl S (y_lens rfl Try.underlying22 S H rfl) fun a S => ?_
 refine gy rfl rfl rfl S (y_bin rfl S rfl rfl rfl) fun a S => ?_
 refine gm S fun a S => ?_
 refine' wl_or 3 13 rfl S H rfl rfl rfl rfl rfl rfl rfl (fun _ S => (wn rfl)) (fun h1 kk => ?yh1) (fun a w S H => ?_)
 case yh1 =>
  have h1p := h1; try simp only [DL] at h1p
  refine gz 13 h1 S rfl rfl rfl rfl rfl rfl (y_move rfl S rfl) fun a S => ?_
  refine gz 13 h1 S rfl rfl rfl rfl rfl rfl (y_lens rfl Try.underlying22 S H rfl) fun a S => ?_
  refine gz 13 h1 S rfl rfl rfl rfl rfl rfl (y_bin rfl S rfl rfl rfl) fun a S => ?_
  refine gy rfl rfl rfl S (y_or' rfl h1 S rfl rfl) fun a S => ?_
  exact kk _ _ (S.join 4 17 rfl rfl) H
 refine gm S fun a S => ?_
 refine' wl_or 3 18 rfl S H rfl rfl rfl rfl rfl rfl rfl (fun _ S => (wn rfl)) (fun h2 kk => ?yh2) (fun a w S H => ?_)
 case yh2 =>
  have h2p := h2; try simp only [DL] at h2p
  refine gz 18 h2 S rfl rfl rfl rfl rfl rfl (y_move rfl S rfl) fun a S => ?_
  refine gz 18 h2 S rfl rfl rfl rfl rfl rfl (y_lens rfl Try.underlying23 S H rfl) fun a S => ?_
  refine gz 18 h2 S rfl rfl rfl rfl rfl rfl (y_bin rfl S rfl rfl rfl) fun a S => ?_
  refine gy rfl rfl rfl S (y_or' rfl h2 S rfl rfl) fun a S => ?_
  exact kk _ _ (S.join 4 22 rfl rfl) H
 refine gnt ?_
 have S := (((S.nil.cons S 2 rfl).cons S 0 rfl).cons S 6 rfl).cons S 22 rfl
 refine c_if S rfl (fun h3 => ?_) (fun h3 => ?_)
 ·have h3p := h3; try simp only [DL] at h3p
  refine gsr ?_
  refine ga S fun a S => ?_
  refine gnt ?_
  refine g_ret ?_
  refine r_then (ret1 rfl S rfl ?_)
  exact ⟨by unfold errW; rw [if_pos (by have := h3p; omega)], H.toExt⟩
 ·have h3p := h3; try simp only [DL] at h3p
  have hsm : ¬ (old.length > 4000 ∨ next.length > 4000 ∨ ts.length > 4000) := by have := h3p; omega
  refine g_skip ?_
  refine n_then ?_
  refine gsr ?_
  refine gm S fun a S => ?_
  refine gy rfl rfl rfl S (y_lens rfl Try.underlying22 S H rfl) fun a S => ?_
  refine wl_of (op_make (encB) (false) (wn rfl) rfl rfl rfl Try.underlying129 Finf4 rfl rfl S H rfl rfl rfl (by omega) (by omega) fun b25 a w S H => ?_)
  refine ga S fun a S => ?_
  refine gnt ?_
  have S := (((S.nil.cons S 2 rfl).cons S 0 rfl).cons S 6 rfl).cons S 7 rfl
  refine g_seq ?_
  refine gsr ?_
  refine ga S fun a S => ?_
  refine gnt ?_
  refine g_block ?_
  have SU := ((S.nil.cons S 2 rfl).cons S 0 rfl).cons S 7 rfl
  refine loopW (X := Nat) SU (fun k => [(8, .int .i64 (k : Int))]) (fun k w => k ≤ ts.length ∧ (∀ j (hj : j < ts.length), j < k → ts[j].place < old.length ∧ ∀ q (hq : q < j), (ts[q]'(by omega)).place ≠ ts[j].place) ∧ ∃ s, SeenP old.length ts k s ∧ HSat No w0 [OSl 4 (.slice (some ⟨b25, 0, none⟩) old.length old.length) 1 encB s, Sl v3 11 Ow.enc ts, Sl v2 9 Pl.enc next, Sl v1 9 Pl.enc old] w) (fun k => ts.length - k) 0 (S.nil.cons S 8 rfl) (⟨by omega, fun j hj hjk => by omega, _, seen_start _ _, H⟩) (fun k a w S hW => ?_)
  simp only [List.cons_append, List.nil_append] at S
  clear H
  obtain ⟨hk, hno, s, hsn, H⟩ := hW
  refine g_seq ?_
  refine gsr ?_
  refine gm S fun a S => ?_
  refine gm S fun a S => ?_
  refine gy rfl rfl rfl S (y_lens rfl Try.underlying23 S H rfl) fun a S => ?_
  refine gy rfl rfl rfl S (y_bin rfl S rfl rfl rfl) fun a S => ?_
  refine gnt ?_
  refine c_if S rfl (fun h4 => ?_) (fun h4 => ?_)
  ·have h4p := h4; try simp only [DL] at h4p
   have hkl : k < ts.length := by omega
   obtain ⟨x, hx⟩ : ∃ x : Nat, ts[k].place = x := ⟨ts[k].place.toNat, by have := hpl _ (List.getElem_mem hkl); omega⟩
   have hsl := hsn.len
   have hxm := hsn.mem x
   refine g_skip ?_
   refine n_then ?_
   have S := (((S.nil.cons S 2 rfl).cons S 0 rfl).cons S 7 rfl).cons S 8 rfl
   refine g_seq ?_
   refine g_block ?_
   refine gsr ?_
   refine gm S fun a S => ?_
   refine gm S fun a S => ?_
   refine gy rfl rfl rfl S (y_iaddrn rfl Try.underlying23 Fsiz66 S H rfl rfl (by first | assumption | omega | (simp only [LL]; omega))) fun a S => ?_
   refine gy rfl rfl rfl S (y_faddr rfl Ffo66_0 S rfl) fun a S => ?_
   refine gy rfl rfl rfl S (y_faddr rfl Ffo60_2 S rfl) fun a S => ?_
   refine gy rfl rfl rfl S (y_loadsff _ rfl Fsca3 S H rfl (by first | assumption | omega | (simp only [LL]; omega)) rfl) fun a S => ?_
   rw [hx] at S
   refine ga S fun a S => ?_
   refine gnt ?_
   have S := ((((S.nil.cons S 2 rfl).cons S 0 rfl).cons S 7 rfl).cons S 8 rfl).cons S 9 rfl
   refine g_seq ?_
   refine gsr ?_
   refine gm S fun a S => ?_
   refine gm S fun a S => ?_
   refine gy rfl rfl rfl S (y_lens rfl Try.underlying22 S H rfl) fun a S => ?_
   refine gy rfl rfl rfl S (y_bin rfl S rfl rfl rfl) fun a S => ?_
   refine gm S fun a S => ?_
   refine' wl_or 4 42 rfl S H rfl rfl rfl rfl rfl rfl rfl (fun _ S => (wn rfl)) (fun h5 kk => ?yh5) (fun a w S H => ?_)
   case yh5 =>
    have h5p := h5; try simp only [DL] at h5p
    refine gz 42 h5 S rfl rfl rfl rfl rfl rfl (y_move rfl S rfl) fun a S => ?_
    refine gz 42 h5 S rfl rfl rfl rfl rfl rfl (y_move rfl S rfl) fun a S => ?_
    refine gz 42 h5 S rfl rfl rfl rfl rfl rfl (y_iaddrn rfl Try.underlying129 Fsiz4 S H rfl rfl (by first | assumption | omega | (simp only [LL]; omega))) fun a S => ?_
    refine gz 42 h5 S rfl rfl rfl rfl rfl rfl (y_loadsD _ false rfl Fsca4 S H rfl (by rw [hsn.len]; omega) rfl) fun a S => ?_
    refine gy rfl rfl rfl S (y_or' rfl h5 S rfl rfl) fun a S => ?_
    exact kk _ _ (S.join 5 47 rfl rfl) H
   refine gnt ?_
   have S := (((((S.nil.cons S 2 rfl).cons S 0 rfl).cons S 7 rfl).cons S 8 rfl).cons S 9 rfl).cons S 47 rfl
   refine c_if S rfl (fun h6 => ?_) (fun h6 => ?_)
   ·have h6p := h6; try simp only [DL] at h6p
    have hbad : x ≥ old.length ∨ atB s x = true := by
      by_cases hxn : x < old.length
      · right
        have := h6
        unfold atB
        simpa [show ¬ ((x : Int) ≥ old.length) by omega, show ¬ (old.length ≤ x) by omega] using this
      · left; omega
    refine gsr ?_
    refine ga S fun a S => ?_
    refine gnt ?_
    refine g_ret ?_
    refine r_then (r_block (r_then (r_then (r_block (r_then (ret1 rfl S rfl ?_))))))
    exact ⟨by unfold errW; rw [if_neg hsm, plOK_no (fun hp => ?_)]; rfl; exact (by rcases hbad with hb | hb; have := (hp k hkl).1; omega; obtain ⟨q, hq, hqk, e⟩ := hxm.1 hb; exact (hp k hkl).2 q hqk (by rw [e, hx])), H.toExt⟩
   ·have h6p := h6; try simp only [DL] at h6p
    have hxn : x < old.length := by have := h6p.1; omega
    have hfr : atB s x = false := by have := h6p.2; exact this
    refine g_skip ?_
    refine n_then ?_
    refine g_region ?_
    refine gm S fun a S => ?_
    refine gm S fun a S => ?_
    refine gy rfl rfl rfl S (y_iaddrn rfl Try.underlying129 Fsiz4 S H rfl rfl (by first | assumption | omega | (simp only [LL]; omega))) fun a S => ?_
    refine wl_of (op_store1 _ (true) (wn rfl) rfl rfl S H rfl rfl rfl rfl Fsiz4 (by first | assumption | omega | (simp only [LL]; omega)) (by exact rfl) fun a w S H => ?_)
    refine gl_nil ?_
    refine n_block ?_
    refine n_then ?_
    have S := (((S.nil.cons S 2 rfl).cons S 0 rfl).cons S 7 rfl).cons S 8 rfl
    refine g_region ?_
    refine gm S fun a S => ?_
    refine gy rfl rfl rfl S (y_add rfl S rfl rfl (by omega)) fun a S => ?_
    refine ga S fun a S => ?_
    refine gnt ?_
    exact ⟨k + 1, S.nil.cons S 8 rfl, ((S.nil.cons S 2 rfl).cons S 0 rfl).cons S 7 rfl, ⟨by omega, fun j hj hjk => by
      by_cases e : j < k
      · exact hno j hj e
      · obtain rfl : j = k := by omega
        exact ⟨by omega, fun q hq e2 => by have := hxm.2 ⟨q, by omega, hq, by rw [e2, hx]⟩; rw [this] at hfr; cases hfr⟩, _, seen_step hsn hkl hx hxn, H⟩, by omega⟩
  ·have h4p := h4; try simp only [DL] at h4p
   refine g_exit ?_
   refine x_then (x_then (x_eq ?_))
   refine n_then ?_
   have S := S.nil
   refine gsr ?_
   refine ga S fun a S => ?_
   refine gnt ?_
   refine g_ret ?_
   refine ret1 rfl S rfl ?_
   exact ⟨by unfold errW; rw [if_neg hsm, plOK_yes (fun j hj => hno j hj (by omega))]; rfl, H.toExt⟩
set_option maxHeartbeats 1000000 in
/-- foyer/foyerref41.Accepted -/
theorem accepted_spec (v1 v2 : Value) (old next : List Pl) (v3 : Value) (ts : List Ow) (w0 : World) (hv1 : IsSl w0 v1 9 Pl.enc old) (hv2 : IsSl w0 v2 9 Pl.enc next) (hv3 : IsSl w0 v3 11 Ow.enc ts) (hpl : ∀ o ∈ ts, 0 ≤ o.place ∧ o.place < old.length) (hs1 : ts.length ≤ 10000) (hs2 : next.length ≤ 10000) :
    Ret Try.prog 53 #[v1, v2, v3] w0 (fun u w => ∃ ps : List (Value × List Int), ps.map (·.2) = edgesL (oldL old ts) next ∧ HSat No w0 [OSl 39 u 1 encRow ps, RowsA 3 1 encI ps] w) := by
 refine ret_of_wp (nt := 30) Try.func53 rfl rfl rfl (fl := [(0, v1), (1, v2), (2, v3)]) rfl (fun a S => ?_)
 have H := HSat.start w0
 have H := H.ro0 (Sl v1 9 Pl.enc old) rfl (hv1)
 have H := H.ro0 (Sl v2 9 Pl.enc next) rfl (hv2)
 have H := H.ro0 (Sl v3 11 Ow.enc ts) rfl (hv3)
 have hl1 := hv1.len
 have hl2 := hv2.len
 have hl3 := hv3.len
 refine gsr ?_
 refine ga S fun a S => ?_
 refine gnt ?_
 refine gsr ?_
 refine ga S fun a S => ?_
 refine gnt ?_
 refine g_seq ?_
 refine gsr ?_
 refine ga S fun a S => ?_
 refine gnt ?_
 refine g_block ?_
 have H := H.nilO 85 9 Pl.enc
 have SU := (((S.nil.cons S 2 rfl).cons S 1 rfl).cons S 0 rfl).cons S 6 rfl
 refine loopW (X := Nat × Value) SU (fun x => [(7, x.2), (8, .int .i64 (x.1 : Int))]) (fun x w => x.1 ≤ ts.length ∧ HSat No w0 [OSl 85 x.2 9 Pl.enc (oldL old (ts.take x.1)), Sl v3 11 Ow.enc ts, Sl v2 9 Pl.enc next, Sl v1 9 Pl.enc old] w) (fun x => ts.length - x.1) (0, .slice none 0 0) ((S.nil.cons S 8 rfl).cons S 7 rfl) (⟨by simp, H⟩) (fun x a w S hW => ?_)
 simp only [List.cons_append, List.nil_append] at S
 clear H
 obtain ⟨k, vo⟩ := x
 obtain ⟨hk, H⟩ := hW
 dsimp only at S H hk
 refine g_seq ?_
 refine gsr ?_
 refine gm S fun a S => ?_
 refine gm S fun a S => ?_
 refine gy rfl rfl rfl S (y_lens rfl Try.underlying23 S H rfl) fun a S => ?_
 refine gy rfl rfl rfl S (y_bin rfl S rfl rfl rfl) fun a S => ?_
 refine gnt ?_
 refine c_if S rfl (fun h1 => ?_) (fun h1 => ?_)
 ·have h1p := h1; try simp only [DL] at h1p
  have hkl : k < ts.length := by omega
  obtain ⟨x, hx⟩ : ∃ x : Nat, ts[k].place = x := ⟨ts[k].place.toNat, by have := hpl _ (List.getElem_mem hkl); omega⟩
  have hxn : x < old.length := by have := hpl _ (List.getElem_mem hkl); omega
  have hos := old_step hkl hx hxn
  refine g_skip ?_
  refine n_then ?_
  have S := (((((S.nil.cons S 2 rfl).cons S 1 rfl).cons S 0 rfl).cons S 6 rfl).cons S 8 rfl).cons S 7 rfl
  refine g_seq ?_
  refine g_block ?_
  refine g_region ?_
  refine gm S fun a S => ?_
  refine gm S fun a S => ?_
  refine gm S fun a S => ?_
  refine gm S fun a S => ?_
  refine gy rfl rfl rfl S (y_iaddrn rfl Try.underlying23 Fsiz66 S H rfl rfl (by first | assumption | omega | (simp only [LL]; omega))) fun a S => ?_
  refine gy rfl rfl rfl S (y_faddr rfl Ffo66_0 S rfl) fun a S => ?_
  refine gy rfl rfl rfl S (y_faddr rfl Ffo60_2 S rfl) fun a S => ?_
  refine gy rfl rfl rfl S (y_loadsff _ rfl Fsca3 S H rfl (by first | assumption | omega | (simp only [LL]; omega)) rfl) fun a S => ?_
  rw [hx] at S
  refine gy rfl rfl rfl S (y_iaddrn rfl Try.underlying22 Fsiz85 S H rfl rfl (by first | assumption | omega | (simp only [LL]; omega))) fun a S => ?_
  refine gy rfl rfl rfl S (y_loadsa _ rfl S H rfl (by exact Fagg85) (by first | assumption | omega | (simp only [LL]; omega))) fun a S => ?_
  refine wl_of (op_buildSlice (wn rfl) rfl rfl rfl Try.underlying22 Finf85 S H (idx := [0]) rfl rfl rfl (z := [.int .i64 0, .int .i64 0, .int .i64 0, .int .i64 0, .int .i64 0, .int .i64 0, .int .i64 0, .int .i64 0, .int .i64 0]) (by kernel_rfl) (cs := [.int .i64 old[x].kind, .int .i64 old[x].level, .int .i64 old[x].block, .int .i64 old[x].row, .int .i64 old[x].seat, .int .i64 old[x].x, .int .i64 old[x].y, .int .i64 old[x].view, .int .i64 old[x].with_]) (by kernel_rfl) fun b25 a w S H => ?_)
  refine wl_of (op_append ([old[x]]) (wn rfl) rfl rfl rfl Try.underlying22 Finf85 rfl rfl S H rfl rfl rfl rfl (by simp) (by simp [Pl.enc]) (by simp [Pl.enc, Value.oneCell']) (by simp only [List.length_cons, List.length_nil, old_len, List.length_take]; omega) (by simp only [List.length_cons, List.length_nil, old_len, List.length_take]; omega) fun u26 a w hn26 S H => ?_)
  refine ga S fun a S => ?_
  refine gl_nil ?_
  refine n_block ?_
  refine n_then ?_
  have S := (((((S.nil.cons S 2 rfl).cons S 1 rfl).cons S 0 rfl).cons S 6 rfl).cons S 8 rfl).cons S 7 rfl
  refine g_region ?_
  refine gm S fun a S => ?_
  refine gy rfl rfl rfl S (y_add rfl S rfl rfl (by omega)) fun a S => ?_
  refine ga S fun a S => ?_
  refine gnt ?_
  exact ⟨(k + 1, u26), (S.nil.cons S 8 rfl).cons S 7 rfl, (((S.nil.cons S 2 rfl).cons S 1 rfl).cons S 0 rfl).cons S 6 rfl, ⟨by dsimp only; omega, by dsimp only; rw [hos]; exact H.take [OSl 85 u26 9 Pl.enc (oldL old (ts.take k) ++ [old[x]]), Sl v3 11 Ow.enc ts, Sl v2 9 Pl.enc next, Sl v1 9 Pl.enc old]⟩, by dsimp only; omega⟩
 ·have h1p := h1; try simp only [DL] at h1p
  obtain rfl : k = ts.length := by omega
  rw [List.take_length] at H
  have hol := old_len old ts
  refine g_exit ?_
  refine x_then (x_then (x_eq ?_))
  refine n_then ?_
  have S := ((S.nil.cons S 1 rfl).cons S 6 rfl).cons S 7 rfl
  refine gsr ?_
  refine gm S fun a S => ?_
  refine gm S fun a S => ?_
  refine wl_of (op_call (wn rfl) rfl rfl S (co_func rfl Try.call69 S rfl) (refEdges_spec vo v2 (oldL old ts) next _ (H.sl vo) (H.sl v2) (by omega) (by omega)) fun u29 w hc a S => ?_)
  obtain ⟨ps, hps, H1⟩ := hc
  have H := H.call2 H1 rfl rfl
  refine ga S fun a S => ?_
  refine gnt ?_
  have S := S.nil.cons S 6 rfl
  refine g_ret ?_
  refine ret1 rfl S rfl ?_
  exact ⟨ps, hps, H.take [OSl 39 u29 1 encRow ps, RowsA 3 1 encI ps]⟩
/-- foyer/foyerref11.In -/
theorem in_spec (v : Value) (xs : List Int) (n : Int) (w0 : World) (hv : IsSl w0 v 1 encI xs) :
    Ret Try.prog 70 #[v, .int .i64 n] w0 (fun u w => u = .bool (decide (n ∈ xs)) ∧ Ext w0 w) := by
 refine ret_of_wp (nt := 18) Try.func70 rfl rfl rfl (fl := [(0, v), (1, .int .i64 n)]) rfl (fun a S => ?_)
 have H := HSat.start w0
 have H := H.ro0 (Sl v 1 encI xs) rfl (hv)
 have hl := hv.len
 refine gsr ?_
 refine ga S fun a S => ?_
 refine gnt ?_
 refine g_seq ?_
 refine gsr ?_
 refine ga S fun a S => ?_
 refine gnt ?_
 refine g_block ?_
 have SU := (S.nil.cons S 1 rfl).cons S 0 rfl
 refine loop_k (X := Nat) SU (fun k => [(5, .int .i64 (k : Int))]) (fun k => k ≤ xs.length ∧ ∀ j (h : j < xs.length), j < k → xs[j] ≠ n) (fun k => xs.length - k) 0 (S.nil.cons S 5 rfl) H (⟨by omega, fun j h hj => by omega⟩) (fun k a w S H hi => ?_)
 simp only [List.cons_append, List.nil_append] at S hi
 obtain ⟨hk, hno⟩ := hi
 refine g_seq ?_
 refine gsr ?_
 refine gm S fun a S => ?_
 refine gm S fun a S => ?_
 refine gy rfl rfl rfl S (y_lens rfl Try.underlying39 S H rfl) fun a S => ?_
 refine gy rfl rfl rfl S (y_bin rfl S rfl rfl rfl) fun a S => ?_
 refine gnt ?_
 refine c_if S rfl (fun h1 => ?_) (fun h1 => ?_)
 ·have h1p := h1; try simp only [DL] at h1p
  refine g_skip ?_
  refine n_then ?_
  have S := ((S.nil.cons S 1 rfl).cons S 0 rfl).cons S 5 rfl
  refine g_seq ?_
  refine g_block ?_
  refine gsr ?_
  refine gm S fun a S => ?_
  refine gm S fun a S => ?_
  refine gy rfl rfl rfl S (y_iaddrn rfl Try.underlying39 Fsiz3 S H rfl rfl (by first | assumption | omega | (simp only [LL]; omega))) fun a S => ?_
  refine gy rfl rfl rfl S (y_loads _ rfl Fsca3 S H rfl (by first | assumption | omega | (simp only [LL]; omega)) rfl) fun a S => ?_
  refine gm S fun a S => ?_
  refine gy rfl rfl rfl S (y_bin rfl S rfl rfl rfl) fun a S => ?_
  refine gnt ?_
  have S := (((S.nil.cons S 1 rfl).cons S 0 rfl).cons S 5 rfl).cons S 17 rfl
  refine c_if S rfl (fun h2 => ?_) (fun h2 => ?_)
  ·have h2p := h2; try simp only [DL] at h2p
   refine gsr ?_
   refine ga S fun a S => ?_
   refine gnt ?_
   refine g_ret ?_
   refine r_block (r_then (r_then (r_block (r_then (ret1 rfl S rfl ?_)))))
   exact ⟨congrArg Value.bool (decide_eq_true (by rw [← h2p]; exact List.getElem_mem _)).symm, H.toExt⟩
  ·have h2p := h2; try simp only [DL] at h2p
   refine g_skip ?_
   refine n_block ?_
   refine n_then ?_
   refine g_region ?_
   refine gm S fun a S => ?_
   refine gy rfl rfl rfl S (y_add rfl S rfl rfl (by omega)) fun a S => ?_
   refine ga S fun a S => ?_
   refine gnt ?_
   refine ⟨k + 1, S.nil.cons S 5 rfl, (S.nil.cons S 1 rfl).cons S 0 rfl, H, ?_, ?_⟩
   · exact ⟨by omega, fun j h hj => by by_cases hjk : j < k; exact hno j h hjk; (obtain rfl : j = k := by omega); exact h2p⟩
   · omega
 ·have h1p := h1; try simp only [DL] at h1p
  refine g_exit ?_
  refine x_then (x_then (x_eq ?_))
  refine n_then ?_
  have S := S.nil
  refine gsr ?_
  refine ga S fun a S => ?_
  refine gnt ?_
  refine g_ret ?_
  refine ret1 rfl S rfl ?_
  exact ⟨congrArg Value.bool (decide_eq_false (find_no (fun j hj => hno j hj (by omega)))).symm, H.toExt⟩
/-- foyer/foyerref11.Ints -/
theorem ints_spec (v1 v2 : Value) (xs ys : List Int) (w0 : World) (hv1 : IsSl w0 v1 1 encI xs) (hv2 : IsSl w0 v2 1 encI ys) :
    Ret Try.prog 44 #[v1, v2] w0 (fun u w => u = .bool (decide (xs = ys)) ∧ Ext w0 w) := by
 refine ret_of_wp (nt := 26) Try.func44 rfl rfl rfl (fl := [(0, v1), (1, v2)]) rfl (fun a S => ?_)
 have H := HSat.start w0
 have H := H.ro0 (Sl v1 1 encI xs) rfl (hv1)
 have H := H.ro0 (Sl v2 1 encI ys) rfl (hv2)
 have hl1 := hv1.len
 have hl2 := hv2.len
 refine gsr ?_
 refine ga S fun a S => ?_
 refine gnt ?_
 refine g_seq ?_
 refine gsr ?_
 refine gm S fun a S => ?_
 refine gy rfl rfl rfl S (y_lens rfl Try.underlying39 S H rfl) fun a S => ?_
 refine gm S fun a S => ?_
 refine gy rfl rfl rfl S (y_lens rfl Try.underlying39 S H rfl) fun a S => ?_
 refine gy rfl rfl rfl S (y_bin rfl S rfl rfl rfl) fun a S => ?_
 refine gnt ?_
 have S := (((S.nil.cons S 1 rfl).cons S 0 rfl).cons S 4 rfl).cons S 10 rfl
 refine c_if S rfl (fun h1 => ?_) (fun h1 => ?_)
 ·have h1p := h1; try simp only [DL] at h1p
  refine gsr ?_
  refine ga S fun a S => ?_
  refine gnt ?_
  refine g_ret ?_
  refine r_then (ret1 rfl S rfl ?_)
  exact ⟨congrArg Value.bool (decide_eq_false (fun e => by have := h1p; subst e; omega)).symm, H.toExt⟩
 ·have h1p := h1; try simp only [DL] at h1p
  have hll : xs.length = ys.length := by have := h1p; omega
  refine g_skip ?_
  refine n_then ?_
  refine g_seq ?_
  refine gsr ?_
  refine ga S fun a S => ?_
  refine gnt ?_
  refine g_block ?_
  have SU := (S.nil.cons S 1 rfl).cons S 0 rfl
  refine loop_k (X := Nat) SU (fun k => [(5, .int .i64 (k : Int))]) (fun k => k ≤ xs.length ∧ ∀ j (h : j < xs.length) (h2 : j < ys.length), j < k → xs[j] = ys[j]) (fun k => xs.length - k) 0 (S.nil.cons S 5 rfl) H (⟨by omega, fun j h h2 hj => by omega⟩) (fun k a w S H hi => ?_)
  simp only [List.cons_append, List.nil_append] at S hi
  obtain ⟨hk, hno⟩ := hi
  refine g_seq ?_
  refine gsr ?_
  refine gm S fun a S => ?_
  refine gm S fun a S => ?_
  refine gy rfl rfl rfl S (y_lens rfl Try.underlying39 S H rfl) fun a S => ?_
  refine gy rfl rfl rfl S (y_bin rfl S rfl rfl rfl) fun a S => ?_
  refine gnt ?_
  refine c_if S rfl (fun h2 => ?_) (fun h2 => ?_)
  ·have h2p := h2; try simp only [DL] at h2p
   refine g_skip ?_
   refine n_then ?_
   have S := ((S.nil.cons S 1 rfl).cons S 0 rfl).cons S 5 rfl
   refine g_seq ?_
   refine g_block ?_
   refine g_seq ?_
   refine region_st (loud := []) (tails := []) (free := []) [0, 1, 2, 3, 4, 5, 6, 7, 8] [] Fmo (by kernel_rfl) (by kernel_rfl) rfl H ?_
   refine m_w rfl rfl (wn rfl) rfl rfl S (fun w H => y_move rfl S rfl) fun a S => ?_
   refine m_w rfl rfl (wn rfl) rfl rfl S (fun w H => y_move rfl S rfl) fun a S => ?_
   refine m_w rfl rfl (wn rfl) rfl rfl S (fun w H => y_iaddrn rfl Try.underlying39 Fsiz3 S H rfl rfl (by first | assumption | omega | (simp only [LL]; omega))) fun a S => ?_
   refine m_loads _ rfl rfl (wn rfl) rfl rfl S rfl Fsca3 rfl (by first | assumption | omega | (simp only [LL]; omega)) rfl fun a S => ?_
   refine m_w rfl rfl (wn rfl) rfl rfl S (fun w H => y_move rfl S rfl) fun a S => ?_
   refine m_w rfl rfl (wn rfl) rfl rfl S (fun w H => y_move rfl S rfl) fun a S => ?_
   refine m_w rfl rfl (wn rfl) rfl rfl S (fun w H => y_iaddrn rfl Try.underlying39 Fsiz3 S H rfl rfl (by first | assumption | omega | (simp only [LL]; omega))) fun a S => ?_
   refine m_loads _ rfl rfl (wn rfl) rfl rfl S rfl Fsca3 rfl (by first | assumption | omega | (simp only [LL]; omega)) rfl fun a S => ?_
   refine m_w rfl rfl (wn rfl) rfl rfl S (fun w H => y_bin rfl S rfl rfl rfl) fun a S => ?_
   refine m_nil (fun w H => ?_)
   refine n_then ?_
   have S := (((S.nil.cons S 1 rfl).cons S 0 rfl).cons S 5 rfl).cons S 25 rfl
   refine c_if S rfl (fun h3 => ?_) (fun h3 => ?_)
   ·have h3p := h3; try simp only [DL] at h3p
    refine gsr ?_
    refine ga S fun a S => ?_
    refine gnt ?_
    refine g_ret ?_
    refine r_block (r_then (r_then (r_block (r_then (ret1 rfl S rfl ?_)))))
    exact ⟨congrArg Value.bool (decide_eq_false (fun e => h3p (by subst e; rfl))).symm, H.toExt⟩
   ·have h3p := h3; try simp only [DL] at h3p
    refine g_skip ?_
    refine n_block ?_
    refine n_then ?_
    refine g_region ?_
    refine gm S fun a S => ?_
    refine gy rfl rfl rfl S (y_add rfl S rfl rfl (by omega)) fun a S => ?_
    refine ga S fun a S => ?_
    refine gnt ?_
    refine ⟨k + 1, S.nil.cons S 5 rfl, (S.nil.cons S 1 rfl).cons S 0 rfl, H, ?_, ?_⟩
    · exact ⟨by omega, fun j h h2 hj => by by_cases hjk : j < k; exact hno j h h2 hjk; (obtain rfl : j = k := by omega); exact h3p⟩
    · omega
  ·have h2p := h2; try simp only [DL] at h2p
   refine g_exit ?_
   refine x_then (x_then (x_eq ?_))
   refine n_then ?_
   have S := S.nil
   refine gsr ?_
   refine ga S fun a S => ?_
   refine gnt ?_
   refine g_ret ?_
   refine ret1 rfl S rfl ?_
   exact ⟨congrArg Value.bool (decide_eq_true (List.ext_getElem hll (fun j h h2 => hno j h h2 (by omega)))).symm, H.toExt⟩
/-- math/bits.Mul64 -/
theorem mul64_spec (n : Nat) (w0 : World) (hn : n < 4294967296) :
    Ret Try.prog 84 #[.int .u64 (1 : Int), .int .u64 (n : Int)] w0 (fun u w => u = .tuple #[.int .u64 0, .int .u64 (n : Int)] ∧ Ext w0 w) := by
 refine ret_of_wp (nt := 51) Try.func84 rfl rfl rfl (fl := [(0, .int .u64 (1 : Int)), (1, .int .u64 (n : Int))]) rfl (fun a S => ?_)
 have H := HSat.start w0
 refine gsr ?_
 refine ga S fun a S => ?_
 refine ga S fun a S => ?_
 refine gnt ?_
 refine gsr ?_
 refine gm S fun a S => ?_
 refine gy rfl rfl rfl S ((y_andu (m := 1) (q := 4294967295) (r := 1) rfl S rfl rfl (by omega) (by omega) rfl)) fun a S => ?_
 refine ga S fun a S => ?_
 refine gnt ?_
 refine gsr ?_
 refine gm S fun a S => ?_
 refine gy rfl rfl rfl S ((y_shr (r := 0) rfl S rfl rfl (by omega) rfl)) fun a S => ?_
 refine ga S fun a S => ?_
 refine gnt ?_
 have S := (((((S.nil.cons S 1 rfl).cons S 0 rfl).cons S 4 rfl).cons S 5 rfl).cons S 6 rfl).cons S 7 rfl
 refine gsr ?_
 refine gm S fun a S => ?_
 refine gy rfl rfl rfl S ((y_andu (m := n) (q := 4294967295) (r := n) rfl S rfl rfl (by omega) (by omega) (by have := Nat.and_two_pow_sub_one_eq_mod n 32; rw [show (4294967295 : Nat) = 2 ^ 32 - 1 by rfl, this]; omega))) fun a S => ?_
 refine ga S fun a S => ?_
 refine gnt ?_
 refine gsr ?_
 refine gm S fun a S => ?_
 refine gy rfl rfl rfl S ((y_shr (r := 0) rfl S rfl rfl (by omega) (by show Int.fdiv n 4294967296 = 0; rw [Int.fdiv_eq_ediv_of_nonneg _ (by omega)]; omega))) fun a S => ?_
 refine ga S fun a S => ?_
 refine gnt ?_
 have S := (((((((S.nil.cons S 1 rfl).cons S 0 rfl).cons S 4 rfl).cons S 5 rfl).cons S 6 rfl).cons S 7 rfl).cons S 8 rfl).cons S 9 rfl
 refine gsr ?_
 refine gm S fun a S => ?_
 refine gm S fun a S => ?_
 refine gy rfl rfl rfl S ((y_bin (v := .int .u64 ((n : Nat) : Int)) rfl S rfl rfl (by simp only [intOp]; congr 2; rw [IntKind.wrap_u64]; omega))) fun a S => ?_
 refine ga S fun a S => ?_
 refine gnt ?_
 refine gsr ?_
 refine gm S fun a S => ?_
 refine gm S fun a S => ?_
 refine gy rfl rfl rfl S ((y_bin (v := .int .u64 (0 : Int)) rfl S rfl rfl (by simp only [intOp]; simp; rfl))) fun a S => ?_
 refine gm S fun a S => ?_
 refine gy rfl rfl rfl S ((y_shr (r := 0) rfl S rfl rfl (by omega) (by show Int.fdiv n 4294967296 = 0; rw [Int.fdiv_eq_ediv_of_nonneg _ (by omega)]; omega))) fun a S => ?_
 refine gy rfl rfl rfl S ((y_bin (v := .int .u64 (0 : Int)) rfl S rfl rfl (by simp only [intOp]; rfl))) fun a S => ?_
 refine ga S fun a S => ?_
 refine gnt ?_
 have S := (((((((S.nil.cons S 1 rfl).cons S 0 rfl).cons S 4 rfl).cons S 5 rfl).cons S 6 rfl).cons S 7 rfl).cons S 9 rfl).cons S 11 rfl
 refine gsr ?_
 refine gm S fun a S => ?_
 refine gy rfl rfl rfl S ((y_andu (m := 0) (q := 4294967295) (r := 0) rfl S rfl rfl (by omega) (by omega) rfl)) fun a S => ?_
 refine ga S fun a S => ?_
 refine gnt ?_
 refine gsr ?_
 refine gm S fun a S => ?_
 refine gy rfl rfl rfl S ((y_shr (r := 0) rfl S rfl rfl (by omega) rfl)) fun a S => ?_
 refine ga S fun a S => ?_
 refine gnt ?_
 have S := ((((((((S.nil.cons S 1 rfl).cons S 0 rfl).cons S 4 rfl).cons S 5 rfl).cons S 6 rfl).cons S 7 rfl).cons S 9 rfl).cons S 12 rfl).cons S 13 rfl
 refine gsr ?_
 refine gm S fun a S => ?_
 refine gm S fun a S => ?_
 refine gm S fun a S => ?_
 refine gy rfl rfl rfl S ((y_bin (v := .int .u64 (0 : Int)) rfl S rfl rfl (by simp only [intOp]; rfl))) fun a S => ?_
 refine gy rfl rfl rfl S ((y_bin (v := .int .u64 (0 : Int)) rfl S rfl rfl (by simp only [intOp]; rfl))) fun a S => ?_
 refine ga S fun a S => ?_
 refine gnt ?_
 have S := (((((((S.nil.cons S 1 rfl).cons S 0 rfl).cons S 4 rfl).cons S 5 rfl).cons S 7 rfl).cons S 9 rfl).cons S 13 rfl).cons S 12 rfl
 refine gsr ?_
 refine gm S fun a S => ?_
 refine gm S fun a S => ?_
 refine gy rfl rfl rfl S ((y_bin (v := .int .u64 (0 : Int)) rfl S rfl rfl (by simp only [intOp]; rfl))) fun a S => ?_
 refine gm S fun a S => ?_
 refine gy rfl rfl rfl S ((y_bin (v := .int .u64 (0 : Int)) rfl S rfl rfl (by simp only [intOp]; rfl))) fun a S => ?_
 refine gm S fun a S => ?_
 refine gy rfl rfl rfl S ((y_shr (r := 0) rfl S rfl rfl (by omega) rfl)) fun a S => ?_
 refine gy rfl rfl rfl S ((y_bin (v := .int .u64 (0 : Int)) rfl S rfl rfl (by simp only [intOp]; rfl))) fun a S => ?_
 refine ga S fun a S => ?_
 refine gnt ?_
 have S := (((S.nil.cons S 1 rfl).cons S 0 rfl).cons S 5 rfl).cons S 4 rfl
 refine gsr ?_
 refine gm S fun a S => ?_
 refine gm S fun a S => ?_
 refine gy rfl rfl rfl S ((y_bin (v := .int .u64 ((n : Nat) : Int)) rfl S rfl rfl (by simp only [intOp]; congr 2; rw [IntKind.wrap_u64]; omega))) fun a S => ?_
 refine ga S fun a S => ?_
 refine gnt ?_
 have S := (S.nil.cons S 4 rfl).cons S 5 rfl
 refine g_ret ?_
 refine ret2 rfl S rfl rfl ?_
 exact ⟨rfl, H.toExt⟩
/-- math/bits.Mul -/
theorem mul_spec (n : Nat) (w0 : World) (hn : n < 4294967296) :
    Ret Try.prog 78 #[.int .u64 (1 : Int), .int .u64 (n : Int)] w0 (fun u w => u = .tuple #[.int .u64 0, .int .u64 (n : Int)] ∧ Ext w0 w) := by
 refine ret_of_wp (nt := 30) Try.func78 rfl rfl rfl (fl := [(0, .int .u64 (1 : Int)), (1, .int .u64 (n : Int))]) rfl (fun a S => ?_)
 have H := HSat.start w0
 refine gsr ?_
 refine ga S fun a S => ?_
 refine ga S fun a S => ?_
 refine gnt ?_
 refine g_seq ?_
 refine c_if S rfl (fun h1 => ?_) (fun h1 => ?_)
 ·have h1p := h1; try simp only [DL] at h1p
  all_goals (
    exact absurd h1 (by simp))
 ·have h1p := h1; try simp only [DL] at h1p
  refine g_skip ?_
  refine n_then ?_
  refine gsr ?_
  refine gm S fun a S => ?_
  refine gm S fun a S => ?_
  refine wl_of (op_call (wn rfl) rfl rfl S (co_func rfl Try.call84 S rfl) (mul64_spec n _ hn) fun v w hc a S => ?_)
  obtain ⟨rfl, he⟩ := hc
  have H := H.ext he
  refine gm S fun a S => ?_
  refine gy rfl rfl rfl S (y_extract rfl S rfl rfl) fun a S => ?_
  refine gy rfl rfl rfl S (y_extract rfl S rfl rfl) fun a S => ?_
  refine ga S fun a S => ?_
  refine ga S fun a S => ?_
  refine gnt ?_
  have S := (((S.nil.cons S 4 rfl).cons S 5 rfl).cons S 8 rfl).cons S 9 rfl
  refine gsr ?_
  refine gm S fun a S => ?_
  refine gm S fun a S => ?_
  refine ga S fun a S => ?_
  refine ga S fun a S => ?_
  refine gnt ?_
  have S := (S.nil.cons S 4 rfl).cons S 5 rfl
  refine g_ret ?_
  refine ret2 rfl S rfl rfl ?_
  exact ⟨rfl, H.toExt⟩
/-- slices.Repeat[[]int,int] -/
theorem repeat_spec (v : Value) (n : Nat) (w0 : World) (hv : IsSl w0 v 1 encI [-1]) (hn : n ≤ 1000000) :
    Ret Try.prog 61 #[v, .int .i64 (n : Int)] w0 (fun u w => HSat No w0 [OSl 3 u 1 encI (List.replicate n (-1))] w) := by
 refine ret_of_wp (nt := 48) Try.func61 rfl rfl rfl (fl := [(0, v), (1, .int .i64 (n : Int))]) rfl (fun a S => ?_)
 have H := HSat.start w0
 have H := H.ro0 (Sl v 1 encI [-1]) rfl (hv)
 skip
 refine gsr ?_
 refine ga S fun a S => ?_
 refine gnt ?_
 refine g_seq ?_
 refine gsr ?_
 refine gm S fun a S => ?_
 refine gy rfl rfl rfl S (y_bin rfl S rfl rfl rfl) fun a S => ?_
 refine gnt ?_
 refine c_if S rfl (fun h1 => ?_) (fun h1 => ?_)
 ·have h1p := h1; try simp only [DL] at h1p
  all_goals (
    have := h1p; omega)
 ·have h1p := h1; try simp only [DL] at h1p
  refine g_skip ?_
  refine n_then ?_
  refine gsr ?_
  refine gm S fun a S => ?_
  refine gy rfl rfl rfl S (y_lens rfl Try.underlying39 S H rfl) fun a S => ?_
  refine gy rfl rfl rfl S (y_convg (r := (1 : Int)) rfl Try.underlying3 Try.underlying138 S rfl (by rfl)) fun a S => ?_
  refine gm S fun a S => ?_
  refine gy rfl rfl rfl S (y_convg (r := (n : Int)) rfl Try.underlying3 Try.underlying138 S rfl (by rw [IntKind.wrap_u64]; omega)) fun a S => ?_
  refine wl_of (op_call (wn rfl) rfl rfl S (co_func rfl Try.call78 S rfl) (mul_spec n _ (by omega)) fun v w hc a S => ?_)
  obtain ⟨rfl, he⟩ := hc
  have H := H.ext he
  refine gm S fun a S => ?_
  refine gy rfl rfl rfl S (y_extract rfl S rfl rfl) fun a S => ?_
  refine gy rfl rfl rfl S (y_extract rfl S rfl rfl) fun a S => ?_
  refine ga S fun a S => ?_
  refine ga S fun a S => ?_
  refine gnt ?_
  have S := (((S.nil.cons S 0 rfl).cons S 4 rfl).cons S 5 rfl).cons S 6 rfl
  refine g_seq ?_
  refine gsr ?_
  refine gm S fun a S => ?_
  refine gy rfl rfl rfl S (y_bin rfl S rfl rfl rfl) fun a S => ?_
  refine gm S fun a S => ?_
  refine' wl_or 2 23 rfl S H rfl rfl rfl rfl rfl rfl rfl (fun _ S => (wn rfl)) (fun h2 kk => ?yh2) (fun a w S H => ?_)
  case yh2 =>
   have h2p := h2; try simp only [DL] at h2p
   refine gz 23 h2 S rfl rfl rfl rfl rfl rfl (y_move rfl S rfl) fun a S => ?_
   refine gz 23 h2 S rfl rfl rfl rfl rfl rfl (y_bin rfl S rfl rfl rfl) fun a S => ?_
   refine gy rfl rfl rfl S (y_or' rfl h2 S rfl rfl) fun a S => ?_
   exact kk _ _ (S.join 3 26 rfl rfl) H
  refine gnt ?_
  have S := (((S.nil.cons S 0 rfl).cons S 4 rfl).cons S 6 rfl).cons S 26 rfl
  refine c_if S rfl (fun h3 => ?_) (fun h3 => ?_)
  ·have h3p := h3; try simp only [DL] at h3p
   all_goals (
     have := h3p; omega)
  ·have h3p := h3; try simp only [DL] at h3p
   refine g_skip ?_
   refine n_then ?_
   refine gsr ?_
   refine gm S fun a S => ?_
   refine gy rfl rfl rfl S (y_convg (r := (n : Int)) rfl Try.underlying138 Try.underlying3 S rfl (by exact wrap_in (by omega) (by omega))) fun a S => ?_
   refine wl_of (op_make (encI) (0) (wn rfl) rfl rfl rfl Try.underlying39 Finf3 rfl rfl S H rfl rfl rfl (by omega) (by omega) fun b30 a w S H => ?_)
   refine ga S fun a S => ?_
   refine gnt ?_
   have S := ((S.nil.cons S 0 rfl).cons S 4 rfl).cons S 7 rfl
   refine gsr ?_
   refine gm S fun a S => ?_
   refine gm S fun a S => ?_
   refine wl_of (op_copy (i := 0) ((.slice (some ⟨b30, 0, none⟩) n n)) (wn rfl) rfl rfl rfl Try.underlying39 Fsiz3 S H rfl rfl (.inl ⟨rfl, rfl⟩) (by simp [encI, Value.oneCell']) (by omega) rfl fun a w S H => ?_)
   rw [fill_first (by simp)] at H
   have hm1 : min [(-1 : Int)].length ((List.replicate n (0 : Int)).length - 0) = min 1 n := by simp
   rw [hm1] at S H
   obtain ⟨m, hm⟩ : ∃ m, m = min 1 n := ⟨_, rfl⟩
   rw [← hm] at S H
   refine ga S fun a S => ?_
   refine gnt ?_
   have S := ((S.nil.cons S 4 rfl).cons S 7 rfl).cons S 8 rfl
   refine g_seq ?_
   refine g_block ?_
   have SU := (S.nil.cons S 4 rfl).cons S 7 rfl
   refine loopW (X := Nat) SU (fun k => [(8, .int .i64 (k : Int))]) (fun k w => k ≤ n ∧ (0 < n → 0 < k) ∧ HSat No w0 [OSl 3 (.slice (some ⟨b30, 0, none⟩) n n) 1 encI (fillL n k)] w) (fun k => n - k) m (S.nil.cons S 8 rfl) (⟨by omega, by omega, H.take [OSl 3 (.slice (some ⟨b30, 0, none⟩) n n) 1 encI (fillL n m)]⟩) (fun k a w S hW => ?_)
   simp only [List.cons_append, List.nil_append] at S
   clear H
   obtain ⟨hk, hkp, H⟩ := hW
   have hfl := fill_len hk
   refine g_seq ?_
   refine gsr ?_
   refine gm S fun a S => ?_
   refine gm S fun a S => ?_
   refine gy rfl rfl rfl S (y_lens rfl Try.underlying39 S H rfl) fun a S => ?_
   refine gy rfl rfl rfl S (y_bin rfl S rfl rfl rfl) fun a S => ?_
   refine gnt ?_
   refine c_if S rfl (fun h4 => ?_) (fun h4 => ?_)
   ·have h4p := h4; try simp only [DL] at h4p
    have hkn : k < n := by have := h4p; omega
    refine g_skip ?_
    refine n_then ?_
    have S := ((S.nil.cons S 4 rfl).cons S 7 rfl).cons S 8 rfl
    refine g_block ?_
    refine region_st (loud := [7]) (tails := [7]) (free := [0]) [0, 1, 2, 3, 4, 5, 6, 7, 8, 9] [] Fmo (by kernel_rfl) (by kernel_rfl) rfl H ?_
    refine m_f rfl rfl (wn rfl) rfl rfl S (fun w H => y_move rfl S rfl) fun a S => ?_
    refine m_w rfl rfl (wn rfl) rfl rfl S (fun w H => y_move rfl S rfl) fun a S => ?_
    refine m_w rfl rfl (wn rfl) rfl rfl S (fun w H => y_move rfl S rfl) fun a S => ?_
    refine m_w rfl rfl (wn rfl) rfl rfl S (fun w H => y_sliceL rfl Try.underlying39 Fsiz3 S H rfl rfl (by first | assumption | omega | (rw [hfl]; omega))) fun a S => ?_
    refine m_w rfl rfl (wn rfl) rfl rfl S (fun w H => y_move rfl S rfl) fun a S => ?_
    refine m_w rfl rfl (wn rfl) rfl rfl S (fun w H => y_move rfl S rfl) fun a S => ?_
    refine m_w rfl rfl (wn rfl) rfl rfl S (fun w H => y_sliceH rfl Try.underlying39 Fsiz3 S H rfl rfl (by first | assumption | omega | (rw [hfl]; omega))) fun a S => ?_
    refine m_l rfl rfl (fun w H => op_copy (i := k) ((.slice (some ⟨b30, 0, none⟩) n n)) (wn rfl) rfl rfl rfl Try.underlying39 Fsiz3 S H rfl rfl (.inr (by rw [hfl])) (by simp [encI, Value.oneCell']) (by rw [hfl]; omega) rfl fun a w S H => ?_)
    skip
    refine m_tail H rfl ?_
    refine m_w rfl rfl (wn rfl) rfl rfl S (fun w H => y_add rfl S rfl rfl (by omega)) fun a S => ?_
    refine m_w rfl rfl (wn rfl) rfl rfl S (fun w H => y_assign rfl S rfl) fun a S => ?_
    refine m_nil (fun w H => ?_)
    refine n_block ?_
    refine n_then ?_
    have hme : min (((fillL n k).take k).drop 0).length ((fillL n k).length - k) = min k (n - k) := by simp only [List.length_drop, List.length_take, hfl]; omega
    rw [hme, fill_copy hk rfl] at H
    rw [hme] at S
    exact ⟨k + min k (n - k), (S.nil.cons S 8 rfl), (S.nil.cons S 4 rfl).cons S 7 rfl, ⟨by omega, by omega, H⟩, by omega⟩
   ·have h4p := h4; try simp only [DL] at h4p
    obtain rfl : k = n := by have := h4p; omega
    rw [fill_end] at H
    refine g_exit ?_
    refine x_then (x_then (x_eq ?_))
    refine n_then ?_
    have S := (S.nil.cons S 4 rfl).cons S 7 rfl
    refine gsr ?_
    refine gm S fun a S => ?_
    refine ga S fun a S => ?_
    refine gnt ?_
    refine g_ret ?_
    refine ret1 rfl S rfl ?_
    exact H
end Go.Proofs.Ytnnendajegdnhaa
