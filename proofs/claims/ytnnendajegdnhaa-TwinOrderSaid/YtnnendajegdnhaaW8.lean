/- The walks. No condition. -/
import Derived.Test.YtnnendajegdnhaaChecked
import Derived.Test.YtnnendajegdnhaaGwBits
import Derived.Test.YtnnendajegdnhaaFacts
import Derived.Test.YtnnendajegdnhaaPlain
import Derived.Test.YtnnendajegdnhaaPlainU
import Derived.Test.YtnnendajegdnhaaW7
namespace Go.Proofs.Ytnnendajegdnhaa
open Go Go.Gw
set_option linter.unusedVariables false
set_option linter.unusedSimpArgs false
set_option maxHeartbeats 4000000 in
/-- foyer/rebuild.prepare -/
theorem prepare_spec (v1 v2 : Value) (old next : List Pl) (v3 : Value) (ts : List Ow) (w0 : World) (hv1 : IsSl w0 v1 9 Pl.enc old) (hv2 : IsSl w0 v2 9 Pl.enc next) (hv3 : IsSl w0 v3 11 Ow.enc ts) (hok : ∀ o ∈ ts, o.ok) (hl1 : ts.length ≤ 100000) :
    Ret Try.prog 47 #[v1, v2, v3] w0 (fun u w => ∃ va vb vc ve, u = .tuple #[.agg #[va, vb, vc, ve], .int .i64 (errW old.length next.length (movedL ts))] ∧ [va, vb, vc, ve].all (·.oneCell') = true ∧ Ext w0 w ∧ (errW old.length next.length (movedL ts) = 0 → v2 = vc ∧ ∃ ps : List (Value × List Int), ps.map (·.2) = edgesL (oldL old (movedL ts)) next ∧ HSat No w0 [OSl 66 va 11 Ow.enc (movedL ts), OSl 85 vb 9 Pl.enc (oldL old (movedL ts)), OSl 39 ve 1 encRow ps, RowsA 3 1 encI ps] w)) := by
 refine ret_of_wp (nt := 84) Try.func47 rfl rfl rfl (fl := [(0, v1), (1, v2), (2, v3)]) rfl (fun a S => ?_)
 have H := HSat.start w0
 have H := H.ro0 (Sl v1 9 Pl.enc old) rfl (hv1)
 have H := H.ro0 (Sl v2 9 Pl.enc next) rfl (hv2)
 have H := H.ro0 (Sl v3 11 Ow.enc ts) rfl (hv3)
 have hll1 := hv1.len
 have hl2 := hv2.len
 have hl3 := hv3.len
 obtain ⟨pv2, cv2, hpv2⟩ := hv2.shape
 refine gsr ?_
 refine wl_of (op_alloc (wn rfl) rfl rfl rfl S H Fzer99 fun b6 a w S H => ?_)
 refine ga S fun a S => ?_
 refine gnt ?_
 refine gsr ?_
 refine gm S fun a S => ?_
 refine gy rfl rfl rfl S (y_buildf rfl Fbld99 S rfl (idx := [2]) rfl (cs := [.slice none 0 0, .slice none 0 0, v2, .slice none 0 0]) (by rw [hpv2]; rfl)) fun a S => ?_
 refine wl_of (op_alloc (wn rfl) rfl rfl rfl S H Fzer99 fun b8 a w S H => ?_)
 refine wl_of (op_storea (wn rfl) rfl rfl S H rfl rfl (by simp only [List.all_cons, List.all_nil, H.sl1 v2]; rfl) Fsiz99 rfl (cs' := [_, _, _, _]) rfl fun a w S H => ?_)
 refine gnt ?_
 refine gsr ?_
 refine wl_of (op_makeMap (fun n : Int => .int .i64 n) (fun b : Bool => .bool b) (wn rfl) rfl rfl rfl S H fun b16 a w S H => ?_)
 refine ga S fun a S => ?_
 refine gnt ?_
 refine gsr ?_
 refine ga S fun a S => ?_
 refine gnt ?_
 refine g_seq ?_
 refine gsr ?_
 refine gm S fun a S => ?_
 refine gy rfl rfl rfl S (y_lens rfl Try.underlying23 S H rfl) fun a S => ?_
 refine gm S fun a S => ?_
 refine gnt ?_
 have S := (((((((((S.nil.cons S 1 rfl).cons S 0 rfl).cons S 6 rfl).cons S 7 rfl).cons S 8 rfl).cons S 9 rfl).cons S 10 rfl).cons S 17 rfl).cons S 18 rfl).cons S 19 rfl
 refine g_block ?_
 have H := (H.nilO 66 11 Ow.enc).nilO 85 9 Pl.enc
 have SU := (((((((S.nil.cons S 1 rfl).cons S 0 rfl).cons S 6 rfl).cons S 7 rfl).cons S 8 rfl).cons S 9 rfl).cons S 17 rfl).cons S 18 rfl
 refine loopW (X := Nat × Int) SU (fun x => [(10, .int .i64 x.2), (19, .int .i64 (x.1 : Int))]) (fun x w => x.1 ≤ ts.length ∧ ∃ s xs va vb c, PrepI old ts x.1 x.2 s xs ∧ HSat No w0 [OSl 66 va 11 Ow.enc (movedL (ts.take x.1)), OSl 85 vb 9 Pl.enc (xs), MapA b16 (fun n : Int => .int .i64 n) (fun b : Bool => .bool b) (memS (s)) c, Cel b8 99 [va, vb, v2, .slice none 0 0], Cel b6 99 [.slice none 0 0, .slice none 0 0, .slice none 0 0, .slice none 0 0], Sl v3 11 Ow.enc ts, Sl v2 9 Pl.enc next, Sl v1 9 Pl.enc old] w) (fun x => ts.length - x.1) (0, 0) ((S.nil.cons S 19 rfl).cons S 10 rfl) (⟨by simp, [], [], .slice none 0 0, .slice none 0 0, 0, prep_start _ _, by exact H.take [OSl 66 (.slice none 0 0) 11 Ow.enc [], OSl 85 (.slice none 0 0) 9 Pl.enc [], MapA b16 (fun n : Int => .int .i64 n) (fun b : Bool => .bool b) (fun _ => none) 0, Cel b8 99 [.slice none 0 0, .slice none 0 0, v2, .slice none 0 0], Cel b6 99 [.slice none 0 0, .slice none 0 0, .slice none 0 0, .slice none 0 0], Sl v3 11 Ow.enc ts, Sl v2 9 Pl.enc next, Sl v1 9 Pl.enc old]⟩) (fun x a w S hW => ?_)
 simp only [List.cons_append, List.nil_append] at S
 clear H
 obtain ⟨k, e⟩ := x
 obtain ⟨hk, s, xs, va, vb, c, hI, H⟩ := hW
 dsimp only at S H hk hI
 refine gsr ?_
 refine gy rfl rfl rfl S (y_bin rfl S rfl rfl rfl) fun a S => ?_
 refine gnt ?_
 refine g_seq ?_
 refine c_if S rfl (fun h1 => ?_) (fun h1 => ?_)
 ·have h1p := h1; try simp only [DL] at h1p
  have hkl : k < ts.length := by omega
  have hok1 := hok _ (List.getElem_mem hkl)
  have hms := moved_step hkl
  have hml := moved_le ts k
  refine g_skip ?_
  refine n_then ?_
  refine g_seq ?_
  refine g_block ?_
  refine gsr ?_
  refine gy rfl rfl rfl S (y_iaddrn rfl Try.underlying23 Fsiz66 S H rfl rfl (by first | assumption | omega | (simp only [LL]; omega))) fun a S => ?_
  refine gy rfl rfl rfl S (y_loadsa _ rfl S H rfl (by exact Fagg66) (by first | assumption | omega | (simp only [LL]; omega))) fun a S => ?_
  refine wl_of (op_alloc (wn rfl) rfl rfl rfl S H Fzer66 fun b12 a w S H => ?_)
  refine wl_of (op_storea (wn rfl) rfl rfl S H rfl rfl (Ow.all hok1) Fsiz66 rfl (cs' := [_, _, _, _, _, _, _, _, _, _, _]) rfl fun a w S H => ?_)
  refine gnt ?_
  refine gsr ?_
  refine gy rfl rfl rfl S (y_faddrb rfl Ffo66_0 S rfl) fun a S => ?_
  refine gy rfl rfl rfl S (y_faddrb rfl Ffo60_2 S rfl) fun a S => ?_
  refine gy rfl rfl rfl S (y_load rfl Fsca3 S H rfl rfl) fun a S => ?_
  refine ga S fun a S => ?_
  refine gnt ?_
  have S := (((((((((((S.nil.cons S 1 rfl).cons S 0 rfl).cons S 6 rfl).cons S 7 rfl).cons S 8 rfl).cons S 9 rfl).cons S 17 rfl).cons S 18 rfl).cons S 19 rfl).cons S 10 rfl).cons S 12 rfl).cons S 13 rfl
  refine g_seq ?_
  refine gsr ?_
  refine gy rfl rfl rfl S (y_faddrb rfl Ffo66_4 S rfl) fun a S => ?_
  refine gy rfl rfl rfl S (y_load rfl Fsca3 S H rfl rfl) fun a S => ?_
  refine gy rfl rfl rfl S (y_bin rfl S rfl rfl rfl) fun a S => ?_
  refine gm S fun a S => ?_
  refine' wl_or 2 29 rfl S H rfl rfl rfl rfl rfl rfl rfl (fun _ S => (wn rfl)) (fun h2 kk => ?yh2) (fun a w S H => ?_)
  case yh2 =>
   have h2p := h2; try simp only [DL] at h2p
   refine gz 29 h2 S rfl rfl rfl rfl rfl rfl (y_move rfl S rfl) fun a S => ?_
   refine gz 29 h2 S rfl rfl rfl rfl rfl rfl (y_bin rfl S rfl rfl rfl) fun a S => ?_
   refine gy rfl rfl rfl S (y_or' rfl h2 S rfl rfl) fun a S => ?_
   exact kk _ _ (S.join 3 32 rfl rfl) H
  refine gnt ?_
  have S := ((((((((((((S.nil.cons S 1 rfl).cons S 0 rfl).cons S 6 rfl).cons S 7 rfl).cons S 8 rfl).cons S 9 rfl).cons S 17 rfl).cons S 18 rfl).cons S 19 rfl).cons S 10 rfl).cons S 12 rfl).cons S 13 rfl).cons S 32 rfl
  refine c_if S rfl (fun h3 => ?_) (fun h3 => ?_)
  ·have h3p := h3; try simp only [DL] at h3p
   have hnm : ¬ movedB ts[k] = true := by unfold movedB; have := h3p; simp only [Bool.and_eq_true, decide_eq_true_eq]; omega
   refine g_exit ?_
   refine x_then (x_eq ?_)
   refine n_then ?_
   refine g_region ?_
   refine gy rfl rfl rfl S (y_add rfl S rfl rfl (by omega)) fun a S => ?_
   refine gm S fun a S => ?_
   refine gnt ?_
   first
   | exact ⟨(k + 1, e), (S.nil.cons S 19 rfl).cons S 10 rfl, (((((((S.nil.cons S 1 rfl).cons S 0 rfl).cons S 6 rfl).cons S 7 rfl).cons S 8 rfl).cons S 9 rfl).cons S 17 rfl).cons S 18 rfl, ⟨by dsimp only; omega, s, xs, va, vb, c, prep_skip hI hkl hnm, by dsimp only; rw [hms, if_neg hnm, List.append_nil]; exact H.take [OSl 66 va 11 Ow.enc (movedL (ts.take k)), OSl 85 vb 9 Pl.enc (xs), MapA b16 (fun n : Int => .int .i64 n) (fun b : Bool => .bool b) (memS (s)) c, Cel b8 99 [va, vb, v2, .slice none 0 0], Cel b6 99 [.slice none 0 0, .slice none 0 0, .slice none 0 0, .slice none 0 0], Sl v3 11 Ow.enc ts, Sl v2 9 Pl.enc next, Sl v1 9 Pl.enc old]⟩, by dsimp only; omega⟩
   | exact ⟨(k + 1, 1), (S.nil.cons S 19 rfl).cons S 10 rfl, (((((((S.nil.cons S 1 rfl).cons S 0 rfl).cons S 6 rfl).cons S 7 rfl).cons S 8 rfl).cons S 9 rfl).cons S 17 rfl).cons S 18 rfl, ⟨by dsimp only; omega, s, xs, u37, vb, c, prep_bad hI hkl hmv hbd, by dsimp only; rw [hms]; exact H.take [OSl 66 u37 11 Ow.enc (movedL (ts.take k) ++ [ts[k]]), OSl 85 vb 9 Pl.enc (xs), MapA b16 (fun n : Int => .int .i64 n) (fun b : Bool => .bool b) (memS (s)) c, Cel b8 99 [u37, vb, v2, .slice none 0 0], Cel b6 99 [.slice none 0 0, .slice none 0 0, .slice none 0 0, .slice none 0 0], Sl v3 11 Ow.enc ts, Sl v2 9 Pl.enc next, Sl v1 9 Pl.enc old]⟩, by dsimp only; omega⟩
   | (dsimp only [List.set, Nat.zero_add, Nat.reduceAdd] at H
      exact ⟨(k + 1, e), (S.nil.cons S 19 rfl).cons S 10 rfl, (((((((S.nil.cons S 1 rfl).cons S 0 rfl).cons S 6 rfl).cons S 7 rfl).cons S 8 rfl).cons S 9 rfl).cons S 17 rfl).cons S 18 rfl, ⟨by dsimp only; omega, (p : Int) :: s, xs ++ [old[p]], u37, u57, (if (memS s (p : Int)).isSome = true then c else c + 1), prep_good hI hkl hmv hpp hpl hgd.2, by dsimp only; rw [hms]; exact H.take [OSl 66 u37 11 Ow.enc (movedL (ts.take k) ++ [ts[k]]), OSl 85 u57 9 Pl.enc (xs ++ [old[p]]), MapA b16 (fun n : Int => .int .i64 n) (fun b : Bool => .bool b) (upd (memS s) (p : Int) true) (if (memS s (p : Int)).isSome = true then c else c + 1), Cel b8 99 [u37, u57, v2, .slice none 0 0], Cel b6 99 [.slice none 0 0, .slice none 0 0, .slice none 0 0, .slice none 0 0], Sl v3 11 Ow.enc ts, Sl v2 9 Pl.enc next, Sl v1 9 Pl.enc old]⟩, by dsimp only; omega⟩)
  ·have h3p := h3; try simp only [DL] at h3p
   have hmv : movedB ts[k] = true := by unfold movedB; have := h3p; simp only [Bool.and_eq_true, decide_eq_true_eq]; omega
   rw [if_pos hmv] at hms
   obtain ⟨p, hpp⟩ : ∃ p : Nat, ts[k].place = p := ⟨ts[k].place.toNat, by have := h3p; omega⟩
   rw [hpp] at S
   refine g_skip ?_
   refine n_then ?_
   refine gsr ?_
   refine gy rfl rfl rfl S (y_faddrb rfl Ffo99_0 S rfl) fun a S => ?_
   refine gy rfl rfl rfl S (y_load rfl Fsca23 S H rfl rfl) fun a S => ?_
   refine gy rfl rfl rfl S (y_load0 rfl S H rfl (by exact Fagg66)) fun a S => ?_
   refine wl_of (op_buildSlice (wn rfl) rfl rfl rfl Try.underlying23 Finf66 S H (idx := [0]) rfl rfl rfl (z := [.int .i64 0, .int .i64 0, .int .i64 0, .string ⟨#[]⟩, .slice none 0 0, .string ⟨#[]⟩, .slice none 0 0, .int .i64 0, .slice none 0 0, .int .i64 0, .slice none 0 0]) (by kernel_rfl) (cs := [.int .i64 ts[k].serial, .int .i64 ts[k].show_, .int .i64 ts[k].place, ts[k].first, ts[k].chain, ts[k].person, ts[k].lines, .int .i64 ts[k].total, ts[k].means, .int .i64 ts[k].gone, ts[k].offers]) (by kernel_rfl) fun b36 a w S H => ?_)
   refine wl_of (op_append ([ts[k]]) (wn rfl) rfl rfl rfl Try.underlying23 Finf66 rfl rfl S H rfl rfl rfl rfl (by simp) (by simp [Ow.enc]) (by simp only [List.mem_singleton]; rintro y rfl u hu; obtain ⟨h1, h2, h3, h4, h5, h6⟩ := hok1; simp only [Ow.enc, List.mem_cons, List.not_mem_nil, or_false] at hu; rcases hu with rfl | rfl | rfl | rfl | rfl | rfl | rfl | rfl | rfl | rfl | rfl <;> first | rfl | assumption) (by simp only [List.length_cons, List.length_nil]; omega) (by simp only [List.length_cons, List.length_nil]; omega) fun u37 a w hn37 S H => ?_)
   skip
   refine gy rfl rfl rfl S (y_faddrb rfl Ffo99_0 S rfl) fun a S => ?_
   refine wl_of (op_store (wn rfl) rfl rfl S H rfl rfl (H.sl1 _) Fsiz23 rfl fun a w S H => ?_)
   dsimp only [List.set, Nat.zero_add, Nat.reduceAdd] at H
   refine gnt ?_
   have S := ((((((((((S.nil.cons S 1 rfl).cons S 0 rfl).cons S 6 rfl).cons S 7 rfl).cons S 8 rfl).cons S 9 rfl).cons S 17 rfl).cons S 18 rfl).cons S 19 rfl).cons S 10 rfl).cons S 13 rfl
   refine g_seq ?_
   refine gsr ?_
   refine gm S fun a S => ?_
   refine gm S fun a S => ?_
   refine gy rfl rfl rfl S (y_lens rfl Try.underlying22 S H rfl) fun a S => ?_
   refine gy rfl rfl rfl S (y_bin rfl S rfl rfl rfl) fun a S => ?_
   refine gm S fun a S => ?_
   refine' wl_or 3 43 rfl S H rfl rfl rfl rfl rfl rfl rfl (fun _ S => (wn rfl)) (fun h4 kk => ?yh4) (fun a w S H => ?_)
   case yh4 =>
    have h4p := h4; try simp only [DL] at h4p
    refine gz 43 h4 S rfl rfl rfl rfl rfl rfl (y_move rfl S rfl) fun a S => ?_
    refine gz 43 h4 S rfl rfl rfl rfl rfl rfl (y_move rfl S rfl) fun a S => ?_
    refine gz 43 h4 S rfl rfl rfl rfl rfl rfl (y_lookupE ((p : Int)) (false) rfl Try.underlying73 Finf4 S H rfl (keyOK_int Try.underlying3) (by exact rfl) (by exact rfl) rfl) fun a S => ?_
    refine gy rfl rfl rfl S (y_or' rfl h4 S rfl rfl) fun a S => ?_
    exact kk _ _ (S.join 4 47 rfl rfl) H
   refine gnt ?_
   have S := (((((((((((S.nil.cons S 1 rfl).cons S 0 rfl).cons S 6 rfl).cons S 7 rfl).cons S 8 rfl).cons S 9 rfl).cons S 17 rfl).cons S 18 rfl).cons S 19 rfl).cons S 10 rfl).cons S 13 rfl).cons S 47 rfl
   refine c_if S rfl (fun h5 => ?_) (fun h5 => ?_)
   ·have h5p := h5; try simp only [DL] at h5p
    have hbd : ts[k].place ≥ old.length ∨ ts[k].place ∈ s := by
      have hh := h5
      rw [memS_get] at hh
      simp only [Bool.or_eq_true, decide_eq_true_eq] at hh
      rw [hpp]; exact hh
    refine gsr ?_
    refine ga S fun a S => ?_
    refine gnt ?_
    refine g_exit ?_
    refine x_then (x_eq ?_)
    refine n_then ?_
    refine g_region ?_
    refine gy rfl rfl rfl S (y_add rfl S rfl rfl (by omega)) fun a S => ?_
    refine gm S fun a S => ?_
    refine gnt ?_
    first
    | exact ⟨(k + 1, e), (S.nil.cons S 19 rfl).cons S 10 rfl, (((((((S.nil.cons S 1 rfl).cons S 0 rfl).cons S 6 rfl).cons S 7 rfl).cons S 8 rfl).cons S 9 rfl).cons S 17 rfl).cons S 18 rfl, ⟨by dsimp only; omega, s, xs, va, vb, c, prep_skip hI hkl hnm, by dsimp only; rw [hms, if_neg hnm, List.append_nil]; exact H.take [OSl 66 va 11 Ow.enc (movedL (ts.take k)), OSl 85 vb 9 Pl.enc (xs), MapA b16 (fun n : Int => .int .i64 n) (fun b : Bool => .bool b) (memS (s)) c, Cel b8 99 [va, vb, v2, .slice none 0 0], Cel b6 99 [.slice none 0 0, .slice none 0 0, .slice none 0 0, .slice none 0 0], Sl v3 11 Ow.enc ts, Sl v2 9 Pl.enc next, Sl v1 9 Pl.enc old]⟩, by dsimp only; omega⟩
    | exact ⟨(k + 1, 1), (S.nil.cons S 19 rfl).cons S 10 rfl, (((((((S.nil.cons S 1 rfl).cons S 0 rfl).cons S 6 rfl).cons S 7 rfl).cons S 8 rfl).cons S 9 rfl).cons S 17 rfl).cons S 18 rfl, ⟨by dsimp only; omega, s, xs, u37, vb, c, prep_bad hI hkl hmv hbd, by dsimp only; rw [hms]; exact H.take [OSl 66 u37 11 Ow.enc (movedL (ts.take k) ++ [ts[k]]), OSl 85 vb 9 Pl.enc (xs), MapA b16 (fun n : Int => .int .i64 n) (fun b : Bool => .bool b) (memS (s)) c, Cel b8 99 [u37, vb, v2, .slice none 0 0], Cel b6 99 [.slice none 0 0, .slice none 0 0, .slice none 0 0, .slice none 0 0], Sl v3 11 Ow.enc ts, Sl v2 9 Pl.enc next, Sl v1 9 Pl.enc old]⟩, by dsimp only; omega⟩
    | (dsimp only [List.set, Nat.zero_add, Nat.reduceAdd] at H
       exact ⟨(k + 1, e), (S.nil.cons S 19 rfl).cons S 10 rfl, (((((((S.nil.cons S 1 rfl).cons S 0 rfl).cons S 6 rfl).cons S 7 rfl).cons S 8 rfl).cons S 9 rfl).cons S 17 rfl).cons S 18 rfl, ⟨by dsimp only; omega, (p : Int) :: s, xs ++ [old[p]], u37, u57, (if (memS s (p : Int)).isSome = true then c else c + 1), prep_good hI hkl hmv hpp hpl hgd.2, by dsimp only; rw [hms]; exact H.take [OSl 66 u37 11 Ow.enc (movedL (ts.take k) ++ [ts[k]]), OSl 85 u57 9 Pl.enc (xs ++ [old[p]]), MapA b16 (fun n : Int => .int .i64 n) (fun b : Bool => .bool b) (upd (memS s) (p : Int) true) (if (memS s (p : Int)).isSome = true then c else c + 1), Cel b8 99 [u37, u57, v2, .slice none 0 0], Cel b6 99 [.slice none 0 0, .slice none 0 0, .slice none 0 0, .slice none 0 0], Sl v3 11 Ow.enc ts, Sl v2 9 Pl.enc next, Sl v1 9 Pl.enc old]⟩, by dsimp only; omega⟩)
   ·have h5p := h5; try simp only [DL] at h5p
    have hgd : p < old.length ∧ (p : Int) ∉ s := by
      have hh := h5
      rw [memS_get] at hh
      simp only [Bool.or_eq_false_iff, decide_eq_false_iff_not] at hh
      exact ⟨by omega, hh.2⟩
    have hpl : p < old.length := hgd.1
    refine g_skip ?_
    refine n_then ?_
    refine gsr ?_
    refine gm S fun a S => ?_
    refine gm S fun a S => ?_
    refine wl_of (op_mapUpdate ((p : Int)) (true) (wn rfl) rfl rfl Try.underlying73 S H rfl (keyOK_int Try.underlying3) (by exact rfl) (by exact rfl) fun a w S H => ?_)
    refine gnt ?_
    refine region_st (loud := [6, 7, 9]) (tails := [7, 9]) (free := []) [0, 1, 2, 3, 4, 5, 6, 7, 8, 9] [] Fmo (by kernel_rfl) (by kernel_rfl) rfl H ?_
    refine m_w rfl rfl (wn rfl) rfl rfl S (fun w H => y_faddrb rfl Ffo99_1 S rfl) fun a S => ?_
    refine m_w rfl rfl (wn rfl) rfl rfl S (fun w H => y_load rfl Fsca22 S H rfl rfl) fun a S => ?_
    refine m_w rfl rfl (wn rfl) rfl rfl S (fun w H => y_move rfl S rfl) fun a S => ?_
    refine m_w rfl rfl (wn rfl) rfl rfl S (fun w H => y_move rfl S rfl) fun a S => ?_
    refine m_w rfl rfl (wn rfl) rfl rfl S (fun w H => y_iaddrn rfl Try.underlying22 Fsiz85 S H rfl rfl (by first | assumption | omega | (simp only [LL]; omega))) fun a S => ?_
    refine m_loadsa _ rfl rfl (wn rfl) rfl rfl S rfl rfl (by exact Fagg85) (by first | assumption | omega | (simp only [LL]; omega)) fun a S => ?_
    refine m_l rfl rfl (fun w H => op_buildSlice (wn rfl) rfl rfl rfl Try.underlying22 Finf85 S H (idx := [0]) rfl rfl rfl (z := [.int .i64 0, .int .i64 0, .int .i64 0, .int .i64 0, .int .i64 0, .int .i64 0, .int .i64 0, .int .i64 0, .int .i64 0]) (by kernel_rfl) (cs := [.int .i64 old[p].kind, .int .i64 old[p].level, .int .i64 old[p].block, .int .i64 old[p].row, .int .i64 old[p].seat, .int .i64 old[p].x, .int .i64 old[p].y, .int .i64 old[p].view, .int .i64 old[p].with_]) (by kernel_rfl) fun b56 a w S H => m_next H (List.sublist_cons_self _ _) ?_)
    refine m_l rfl rfl (fun w H => op_append ([old[p]]) (wn rfl) rfl rfl rfl Try.underlying22 Finf85 rfl rfl S H rfl rfl rfl rfl (by simp) (by simp [Pl.enc]) (by simp [Pl.enc, Value.oneCell']) (by have := hI.len; simp only [List.length_cons, List.length_nil]; omega) (by have := hI.len; simp only [List.length_cons, List.length_nil]; omega) fun u57 a w hn57 S H => m_tail H rfl ?_)
    refine m_w rfl rfl (wn rfl) rfl rfl S (fun w H => y_faddrb rfl Ffo99_1 S rfl) fun a S => ?_
    refine m_l rfl rfl (fun w H => op_store (wn rfl) rfl rfl S H rfl rfl (H.sl1 _) Fsiz22 rfl fun a w S H => m_tail H rfl ?_)
    dsimp only [List.set, Nat.zero_add, Nat.reduceAdd] at H
    refine m_nil (fun w H => ?_)
    refine n_block ?_
    refine n_then ?_
    have S := (((((((((S.nil.cons S 1 rfl).cons S 0 rfl).cons S 6 rfl).cons S 7 rfl).cons S 8 rfl).cons S 9 rfl).cons S 17 rfl).cons S 18 rfl).cons S 19 rfl).cons S 10 rfl
    refine g_region ?_
    refine gy rfl rfl rfl S (y_add rfl S rfl rfl (by omega)) fun a S => ?_
    refine gm S fun a S => ?_
    refine gnt ?_
    first
    | exact ⟨(k + 1, e), (S.nil.cons S 19 rfl).cons S 10 rfl, (((((((S.nil.cons S 1 rfl).cons S 0 rfl).cons S 6 rfl).cons S 7 rfl).cons S 8 rfl).cons S 9 rfl).cons S 17 rfl).cons S 18 rfl, ⟨by dsimp only; omega, s, xs, va, vb, c, prep_skip hI hkl hnm, by dsimp only; rw [hms, if_neg hnm, List.append_nil]; exact H.take [OSl 66 va 11 Ow.enc (movedL (ts.take k)), OSl 85 vb 9 Pl.enc (xs), MapA b16 (fun n : Int => .int .i64 n) (fun b : Bool => .bool b) (memS (s)) c, Cel b8 99 [va, vb, v2, .slice none 0 0], Cel b6 99 [.slice none 0 0, .slice none 0 0, .slice none 0 0, .slice none 0 0], Sl v3 11 Ow.enc ts, Sl v2 9 Pl.enc next, Sl v1 9 Pl.enc old]⟩, by dsimp only; omega⟩
    | exact ⟨(k + 1, 1), (S.nil.cons S 19 rfl).cons S 10 rfl, (((((((S.nil.cons S 1 rfl).cons S 0 rfl).cons S 6 rfl).cons S 7 rfl).cons S 8 rfl).cons S 9 rfl).cons S 17 rfl).cons S 18 rfl, ⟨by dsimp only; omega, s, xs, u37, vb, c, prep_bad hI hkl hmv hbd, by dsimp only; rw [hms]; exact H.take [OSl 66 u37 11 Ow.enc (movedL (ts.take k) ++ [ts[k]]), OSl 85 vb 9 Pl.enc (xs), MapA b16 (fun n : Int => .int .i64 n) (fun b : Bool => .bool b) (memS (s)) c, Cel b8 99 [u37, vb, v2, .slice none 0 0], Cel b6 99 [.slice none 0 0, .slice none 0 0, .slice none 0 0, .slice none 0 0], Sl v3 11 Ow.enc ts, Sl v2 9 Pl.enc next, Sl v1 9 Pl.enc old]⟩, by dsimp only; omega⟩
    | (dsimp only [List.set, Nat.zero_add, Nat.reduceAdd] at H
       exact ⟨(k + 1, e), (S.nil.cons S 19 rfl).cons S 10 rfl, (((((((S.nil.cons S 1 rfl).cons S 0 rfl).cons S 6 rfl).cons S 7 rfl).cons S 8 rfl).cons S 9 rfl).cons S 17 rfl).cons S 18 rfl, ⟨by dsimp only; omega, (p : Int) :: s, xs ++ [old[p]], u37, u57, (if (memS s (p : Int)).isSome = true then c else c + 1), prep_good hI hkl hmv hpp hpl hgd.2, by dsimp only; rw [hms]; exact H.take [OSl 66 u37 11 Ow.enc (movedL (ts.take k) ++ [ts[k]]), OSl 85 u57 9 Pl.enc (xs ++ [old[p]]), MapA b16 (fun n : Int => .int .i64 n) (fun b : Bool => .bool b) (upd (memS s) (p : Int) true) (if (memS s (p : Int)).isSome = true then c else c + 1), Cel b8 99 [u37, u57, v2, .slice none 0 0], Cel b6 99 [.slice none 0 0, .slice none 0 0, .slice none 0 0, .slice none 0 0], Sl v3 11 Ow.enc ts, Sl v2 9 Pl.enc next, Sl v1 9 Pl.enc old]⟩, by dsimp only; omega⟩)
 ·have h1p := h1; try simp only [DL] at h1p
  obtain rfl : k = ts.length := by omega
  have hml := moved_le ts ts.length
  rw [List.take_length] at H hml
  have hIt := hI.ok
  have hIb := hI.bad
  rw [List.take_length] at hIt hIb
  refine g_exit ?_
  refine x_then (x_then (x_eq ?_))
  refine n_then ?_
  have S := (((((S.nil.cons S 1 rfl).cons S 0 rfl).cons S 6 rfl).cons S 7 rfl).cons S 8 rfl).cons S 10 rfl
  refine g_seq ?_
  refine gsr ?_
  refine gm S fun a S => ?_
  refine gy rfl rfl rfl S (y_lens rfl Try.underlying22 S H rfl) fun a S => ?_
  refine gy rfl rfl rfl S (y_bin rfl S rfl rfl rfl) fun a S => ?_
  refine gm S fun a S => ?_
  refine' wl_or 3 63 rfl S H rfl rfl rfl rfl rfl rfl rfl (fun _ S => (wn rfl)) (fun h6 kk => ?yh6) (fun a w S H => ?_)
  case yh6 =>
   have h6p := h6; try simp only [DL] at h6p
   refine gz 63 h6 S rfl rfl rfl rfl rfl rfl (y_move rfl S rfl) fun a S => ?_
   refine gz 63 h6 S rfl rfl rfl rfl rfl rfl (y_lens rfl Try.underlying22 S H rfl) fun a S => ?_
   refine gz 63 h6 S rfl rfl rfl rfl rfl rfl (y_bin rfl S rfl rfl rfl) fun a S => ?_
   refine gy rfl rfl rfl S (y_or' rfl h6 S rfl rfl) fun a S => ?_
   exact kk _ _ (S.join 4 67 rfl rfl) H
  refine gm S fun a S => ?_
  refine' wl_or 4 68 rfl S H rfl rfl rfl rfl rfl rfl rfl (fun _ S => (wn rfl)) (fun h7 kk => ?yh7) (fun a w S H => ?_)
  case yh7 =>
   have h7p := h7; try simp only [DL] at h7p
   refine gz 68 h7 S rfl rfl rfl rfl rfl rfl (y_faddrb rfl Ffo99_0 S rfl) fun a S => ?_
   refine gz 68 h7 S rfl rfl rfl rfl rfl rfl (y_load rfl Fsca23 S H rfl rfl) fun a S => ?_
   refine gz 68 h7 S rfl rfl rfl rfl rfl rfl (y_lens rfl Try.underlying23 S H rfl) fun a S => ?_
   refine gz 68 h7 S rfl rfl rfl rfl rfl rfl (y_bin rfl S rfl rfl rfl) fun a S => ?_
   refine gy rfl rfl rfl S (y_or' rfl h7 S rfl rfl) fun a S => ?_
   exact kk _ _ (S.join 5 73 rfl rfl) H
  refine gnt ?_
  have S := (((((S.nil.cons S 1 rfl).cons S 6 rfl).cons S 7 rfl).cons S 8 rfl).cons S 10 rfl).cons S 73 rfl
  refine c_if S rfl (fun h8 => ?_) (fun h8 => ?_)
  ·have h8p := h8; try simp only [DL] at h8p
   have hbig : old.length > 4000 ∨ next.length > 4000 ∨ (movedL ts).length > 4000 := by have := h8p; omega
   refine gsr ?_
   refine gy rfl rfl rfl S (y_buildf rfl Fbld99 S rfl (idx := []) rfl (cs := [_, _, _, _]) rfl) fun a S => ?_
   refine wl_of (op_storea (wn rfl) rfl rfl S H rfl rfl (by simp only [List.all_cons, List.all_nil, H.sl1 va, H.sl1 vb, H.sl1 v2, Bool.true_and, Bool.and_true]; first | rfl | exact H.sl1 u80) Fsiz99 rfl (cs' := [_, _, _, _]) rfl fun a w S H => ?_)
   refine ga S fun a S => ?_
   refine gnt ?_
   refine g_ret ?_
   refine r_then (ret2ct rfl S H rfl rfl (by exact Fagg99) ?_)
   exact ⟨_, _, _, _, by rw [errW_3 hbig], rfl, H.toExt, fun h => by rw [errW_3 hbig] at h; cases h⟩
  ·have h8p := h8; try simp only [DL] at h8p
   have hsm : ¬ (old.length > 4000 ∨ next.length > 4000 ∨ (movedL ts).length > 4000) := by have := h8p; omega
   refine g_skip ?_
   refine n_then ?_
   refine g_seq ?_
   refine gsr ?_
   refine gm S fun a S => ?_
   refine gy rfl rfl rfl S (y_bin rfl S rfl rfl rfl) fun a S => ?_
   refine gnt ?_
   refine c_if S rfl (fun h9 => ?_) (fun h9 => ?_)
   ·have h9p := h9; try simp only [DL] at h9p
    have he0 : e = 0 := h9p
    obtain ⟨hk1, hk2, _⟩ := hIt he0
    have hxl : xs.length ≤ 4000 := by rw [hk2, old_len]; omega
    refine g_region ?_
    refine gy rfl rfl rfl S (y_faddrb rfl Ffo99_1 S rfl) fun a S => ?_
    refine gy rfl rfl rfl S (y_load rfl Fsca22 S H rfl rfl) fun a S => ?_
    refine gm S fun a S => ?_
    refine wl_of (op_call (wn rfl) rfl rfl S (co_func rfl Try.call46 S rfl) (edges_spec vb v2 xs next _ (H.sl vb) (H.sl v2) (by omega) (by omega)) fun u80 w hc a S => ?_)
    obtain ⟨ps, hps, H1⟩ := hc
    have H := H.call2 H1 rfl rfl
    refine gy rfl rfl rfl S (y_faddrb rfl Ffo99_3 S rfl) fun a S => ?_
    refine wl_of (op_store (wn rfl) rfl rfl S H rfl rfl (H.sl1 _) Fsiz96 rfl fun a w S H => ?_)
    dsimp only [List.set, Nat.zero_add, Nat.reduceAdd] at H
    refine gnt ?_
    have S := (((S.nil.cons S 6 rfl).cons S 7 rfl).cons S 8 rfl).cons S 10 rfl
    refine gsr ?_
    refine gy rfl rfl rfl S (y_load0 rfl S H rfl (by exact Fagg99)) fun a S => ?_
    refine gm S fun a S => ?_
    refine wl_of (op_storea (wn rfl) rfl rfl S H rfl rfl (by simp only [List.all_cons, List.all_nil, H.sl1 va, H.sl1 vb, H.sl1 v2, Bool.true_and, Bool.and_true]; first | rfl | exact H.sl1 u80) Fsiz99 rfl (cs' := [_, _, _, _]) rfl fun a w S H => ?_)
    refine ga S fun a S => ?_
    refine gnt ?_
    have S := (S.nil.cons S 6 rfl).cons S 7 rfl
    refine g_ret ?_
    refine ret2ct rfl S H rfl rfl (by exact Fagg99) ?_
    subst hk2
    exact ⟨va, vb, v2, u80, by rw [errW_0 hsm hk1, he0], (by simp only [List.all_cons, List.all_nil, H.sl1 va, H.sl1 vb, H.sl1 v2, H.sl1 u80, Bool.true_and]), H.toExt, fun _ => ⟨rfl, ps, hps, H.take [OSl 66 va 11 Ow.enc (movedL ts), OSl 85 vb 9 Pl.enc (oldL old (movedL ts)), OSl 39 u80 1 encRow ps, RowsA 3 1 encI ps]⟩⟩
   ·have h9p := h9; try simp only [DL] at h9p
    have he1 : e = 1 := by rcases hI.e01 with h | h; exact absurd h h9p; exact h
    refine g_skip ?_
    refine n_then ?_
    have S := (((S.nil.cons S 6 rfl).cons S 7 rfl).cons S 8 rfl).cons S 10 rfl
    refine gsr ?_
    refine gy rfl rfl rfl S (y_load0 rfl S H rfl (by exact Fagg99)) fun a S => ?_
    refine gm S fun a S => ?_
    refine wl_of (op_storea (wn rfl) rfl rfl S H rfl rfl (by simp only [List.all_cons, List.all_nil, H.sl1 va, H.sl1 vb, H.sl1 v2, Bool.true_and, Bool.and_true]; first | rfl | exact H.sl1 u80) Fsiz99 rfl (cs' := [_, _, _, _]) rfl fun a w S H => ?_)
    refine ga S fun a S => ?_
    refine gnt ?_
    have S := (S.nil.cons S 6 rfl).cons S 7 rfl
    refine g_ret ?_
    refine ret2ct rfl S H rfl rfl (by exact Fagg99) ?_
    exact ⟨va, vb, v2, _, by rw [errW_1 hsm (hIb he1), he1], (by simp only [List.all_cons, List.all_nil, H.sl1 va, H.sl1 vb, H.sl1 v2, Bool.true_and, Bool.and_true]; rfl), H.toExt, fun h => by rw [errW_1 hsm (hIb he1)] at h; cases h⟩
set_option maxHeartbeats 2000000 in
/-- (foyer/rebuild.work).offers -/
theorem offers_spec (vt vo vn ve : Value) (olds next : List Pl) (i bm : Nat) (s : List Int) (c : Nat) (w0 : World) (hvo : IsSl w0 vo 9 Pl.enc olds) (hvn : IsSl w0 vn 9 Pl.enc next) (hm : IsMap w0 bm (fun n : Int => .int .i64 n) (fun b : Bool => .bool b) (memS s) c) (hi0 : i < olds.length) (hl1 : next.length ≤ 100000) :
    Ret Try.prog 49 #[.agg #[vt, vo, vn, ve], .int .i64 (i : Int), .map (some bm)] w0 (fun u w => HSat No w0 [OSl 3 u 1 encI (offL olds[i].kind next s)] w) := by
 refine ret_of_wp (nt := 44) Try.func49 rfl rfl rfl (fl := [(0, .agg #[vt, vo, vn, ve]), (1, .int .i64 (i : Int)), (2, .map (some bm))]) rfl (fun a S => ?_)
 have H := HSat.start w0
 have H := H.ro0 (Sl vo 9 Pl.enc olds) rfl (hvo)
 have H := H.ro0 (Sl vn 9 Pl.enc next) rfl (hvn)
 have H := H.ro0 (Atom.ro (MapA bm (fun n : Int => .int .i64 n) (fun b : Bool => .bool b) (memS (s)) c)) rfl (hm)
 have hlo := hvo.len
 have hln := hvn.len
 refine gsr ?_
 refine wl_of (op_boxa (wn rfl) rfl rfl rfl S H rfl fun b3 a w S H => ?_)
 refine ga S fun a S => ?_
 refine gnt ?_
 refine gsr ?_
 refine ga S fun a S => ?_
 refine gnt ?_
 refine g_seq ?_
 refine gsr ?_
 refine gy rfl rfl rfl S (y_faddrb rfl Ffo99_2 S rfl) fun a S => ?_
 refine gy rfl rfl rfl S (y_load rfl Fsca22 S H rfl rfl) fun a S => ?_
 refine gy rfl rfl rfl S (y_lens rfl Try.underlying22 S H rfl) fun a S => ?_
 refine gm S fun a S => ?_
 refine gnt ?_
 refine g_block ?_
 have H := H.nilO 3 1 encI
 have SU := (((((S.nil.cons S 2 rfl).cons S 1 rfl).cons S 3 rfl).cons S 6 rfl).cons S 11 rfl).cons S 12 rfl
 refine loopW (X := Nat × Value) SU (fun x => [(7, x.2), (13, .int .i64 (x.1 : Int))]) (fun x w => x.1 ≤ next.length ∧ HSat No w0 [OSl 3 x.2 1 encI (offK olds[i].kind next s x.1), Cel b3 99 [vt, vo, vn, ve], Atom.ro (MapA bm (fun n : Int => .int .i64 n) (fun b : Bool => .bool b) (memS (s)) c), Sl vn 9 Pl.enc next, Sl vo 9 Pl.enc olds] w) (fun x => next.length - x.1) (0, .slice none 0 0) ((S.nil.cons S 13 rfl).cons S 7 rfl) (⟨by simp, H⟩) (fun x a w S hW => ?_)
 simp only [List.cons_append, List.nil_append] at S
 clear H
 obtain ⟨k, vq⟩ := x
 obtain ⟨hk, H⟩ := hW
 dsimp only at S H hk
 refine gsr ?_
 refine gy rfl rfl rfl S (y_bin rfl S rfl rfl rfl) fun a S => ?_
 refine gnt ?_
 refine g_seq ?_
 refine c_if S rfl (fun h1 => ?_) (fun h1 => ?_)
 ·have h1p := h1; try simp only [DL] at h1p
  have hkl : k < next.length := by omega
  have hos := offK_step (kind := olds[i].kind) (taken := s) hkl
  have hol := offK_len olds[i].kind next s k
  refine g_skip ?_
  refine n_then ?_
  refine g_seq ?_
  refine g_block ?_
  refine gsr ?_
  refine gm S fun a S => ?_
  refine gy rfl rfl rfl S (y_iaddrn rfl Try.underlying22 Fsiz85 S H rfl rfl (by first | assumption | omega | (simp only [LL]; omega))) fun a S => ?_
  refine gy rfl rfl rfl S (y_loadsa _ rfl S H rfl (by exact Fagg85) (by first | assumption | omega | (simp only [LL]; omega))) fun a S => ?_
  refine wl_of (op_alloc (wn rfl) rfl rfl rfl S H Fzer85 fun b9 a w S H => ?_)
  refine ga S fun a S => ?_
  refine wl_of (op_storea (wn rfl) rfl rfl S H rfl rfl rfl Fsiz85 rfl (cs' := [_, _, _, _, _, _, _, _, _]) rfl fun a w S H => ?_)
  refine gnt ?_
  have S := (((((((((S.nil.cons S 2 rfl).cons S 1 rfl).cons S 3 rfl).cons S 6 rfl).cons S 11 rfl).cons S 12 rfl).cons S 13 rfl).cons S 7 rfl).cons S 9 rfl).cons S 8 rfl
  refine g_seq ?_
  refine region_st (loud := []) (tails := []) (free := []) [0, 1, 2, 3, 4, 5, 6, 7, 8, 9, 10, 11, 12, 13, 14, 15, 16, 17, 18, 19] [] Fmo (by kernel_rfl) (by kernel_rfl) rfl H ?_
  refine m_w rfl rfl (wn rfl) rfl rfl S (fun w H => y_move rfl S rfl) fun a S => ?_
  refine m_w rfl rfl (wn rfl) rfl rfl S (fun w H => y_lens rfl Try.underlying39 S H rfl) fun a S => ?_
  refine m_w rfl rfl (wn rfl) rfl rfl S (fun w H => y_bin rfl S rfl rfl rfl) fun a S => ?_
  refine m_w rfl rfl (wn rfl) rfl rfl S (fun w H => y_move rfl S rfl) fun a S => ?_
  refine' m_andq [4, 5, 6, 7, 8, 9, 10, 11, 12] 21 S rfl rfl rfl rfl rfl rfl rfl rfl rfl (fun _ S => (wn rfl)) (fun h2 kk => ?yh2) (fun a S => ?_)
  case yh2 =>
   have h2p := h2; try simp only [DL] at h2p
   refine m_w rfl rfl (wg' 21 rfl rfl S rfl h2 rfl) rfl rfl S (fun w H => y_faddrb rfl Ffo85_0 S rfl) fun a S => ?_
   refine m_w rfl rfl (wg' 21 rfl rfl S rfl h2 rfl) rfl rfl S (fun w H => y_load rfl Fsca3 S H rfl rfl) fun a S => ?_
   refine m_w rfl rfl (wg' 21 rfl rfl S rfl h2 rfl) rfl rfl S (fun w H => y_faddrb rfl Ffo99_1 S rfl) fun a S => ?_
   refine m_w rfl rfl (wg' 21 rfl rfl S rfl h2 rfl) rfl rfl S (fun w H => y_load rfl Fsca22 S H rfl rfl) fun a S => ?_
   refine m_w rfl rfl (wg' 21 rfl rfl S rfl h2 rfl) rfl rfl S (fun w H => y_move rfl S rfl) fun a S => ?_
   refine m_w rfl rfl (wg' 21 rfl rfl S rfl h2 rfl) rfl rfl S (fun w H => y_iaddrn rfl Try.underlying22 Fsiz85 S H rfl rfl (by first | assumption | omega | (simp only [LL]; omega))) fun a S => ?_
   refine m_w rfl rfl (wg' 21 rfl rfl S rfl h2 rfl) rfl rfl S (fun w H => y_faddr rfl Ffo85_0 S rfl) fun a S => ?_
   refine m_loadsf _ rfl rfl (wg' 21 rfl rfl S rfl h2 rfl) rfl rfl S rfl Fsca3 rfl (by first | assumption | omega | (simp only [LL]; omega)) rfl fun a S => ?_
   refine m_w rfl rfl (wg' 21 rfl rfl S rfl h2 rfl) rfl rfl S (fun w H => y_bin rfl S rfl rfl rfl) fun a S => ?_
   refine m_w rfl rfl (wn rfl) rfl rfl S (fun w H => y_and' rfl h2 S rfl rfl) fun a S => ?_
   exact kk _ (S.join 10 31 rfl rfl)
  refine m_w rfl rfl (wn rfl) rfl rfl S (fun w H => y_move rfl S rfl) fun a S => ?_
  refine' m_andq [15, 16, 17, 18] 32 S rfl rfl rfl rfl rfl rfl rfl rfl rfl (fun _ S => (wn rfl)) (fun h3 kk => ?yh3) (fun a S => ?_)
  case yh3 =>
   have h3p := h3; try simp only [DL] at h3p
   refine m_w rfl rfl (wg' 32 rfl rfl S rfl h3 rfl) rfl rfl S (fun w H => y_move rfl S rfl) fun a S => ?_
   refine m_w rfl rfl (wg' 32 rfl rfl S rfl h3 rfl) rfl rfl S (fun w H => y_move rfl S rfl) fun a S => ?_
   refine m_w rfl rfl (wg' 32 rfl rfl S rfl h3 rfl) rfl rfl S (fun w H => y_lookupE ((k : Int)) (false) rfl Try.underlying73 Finf4 S H rfl (keyOK_int Try.underlying3) (by exact rfl) (by exact rfl) rfl) fun a S => ?_
   refine m_w rfl rfl (wg' 32 rfl rfl S rfl h3 rfl) rfl rfl S (fun w H => y_not rfl S rfl) fun a S => ?_
   refine m_w rfl rfl (wn rfl) rfl rfl S (fun w H => y_and' rfl h3 S rfl rfl) fun a S => ?_
   exact kk _ (S.join 5 37 rfl rfl)
  refine m_nil (fun w H => ?_)
  refine n_then ?_
  have S := (((((((((S.nil.cons S 2 rfl).cons S 1 rfl).cons S 3 rfl).cons S 6 rfl).cons S 11 rfl).cons S 12 rfl).cons S 13 rfl).cons S 7 rfl).cons S 8 rfl).cons S 37 rfl
  refine c_if S rfl (fun h4 => ?_) (fun h4 => ?_)
  ·have h4p := h4; try simp only [DL] at h4p
   have hc : (offK olds[i].kind next s k).length < 5 ∧ next[k].kind = olds[i].kind ∧ (k : Int) ∉ s := by
     have hh := h4
     rw [memS_get] at hh
     simp only [Bool.and_eq_true, decide_eq_true_eq, beq_iff_eq, Bool.not_eq_true', decide_eq_false_iff_not] at hh
     exact ⟨by omega, hh.1.2, hh.2⟩
   rw [if_pos hc] at hos
   refine g_region ?_
   refine gm S fun a S => ?_
   refine gm S fun a S => ?_
   refine wl_of (op_buildSlice (wn rfl) rfl rfl rfl Try.underlying39 Finf3 S H (idx := [0]) rfl rfl rfl (z := [.int .i64 0]) (by kernel_rfl) (cs := [_]) rfl fun b40 a w S H => ?_)
   refine wl_of (op_append ([(k : Int)]) (wn rfl) rfl rfl rfl Try.underlying39 Finf3 rfl rfl S H rfl rfl rfl rfl (by simp) (by simp [encI]) (by simp [encI, Value.oneCell']) (by simp only [List.length_cons, List.length_nil]; omega) (by simp only [List.length_cons, List.length_nil]; omega) fun u41 a w hn41 S H => ?_)
   refine ga S fun a S => ?_
   refine gl_nil ?_
   refine n_block ?_
   refine n_then ?_
   have S := (((((((S.nil.cons S 2 rfl).cons S 1 rfl).cons S 3 rfl).cons S 6 rfl).cons S 11 rfl).cons S 12 rfl).cons S 13 rfl).cons S 7 rfl
   refine g_region ?_
   refine gy rfl rfl rfl S (y_add rfl S rfl rfl (by omega)) fun a S => ?_
   refine gm S fun a S => ?_
   refine gnt ?_
   first
   | exact ⟨(k + 1, u41), (S.nil.cons S 13 rfl).cons S 7 rfl, (((((S.nil.cons S 2 rfl).cons S 1 rfl).cons S 3 rfl).cons S 6 rfl).cons S 11 rfl).cons S 12 rfl, ⟨by dsimp only; omega, by dsimp only; rw [hos]; exact H.take [OSl 3 u41 1 encI (offK olds[i].kind next s k ++ [(k : Int)]), Cel b3 99 [vt, vo, vn, ve], Atom.ro (MapA bm (fun n : Int => .int .i64 n) (fun b : Bool => .bool b) (memS (s)) c), Sl vn 9 Pl.enc next, Sl vo 9 Pl.enc olds]⟩, by dsimp only; omega⟩
   | exact ⟨(k + 1, vq), (S.nil.cons S 13 rfl).cons S 7 rfl, (((((S.nil.cons S 2 rfl).cons S 1 rfl).cons S 3 rfl).cons S 6 rfl).cons S 11 rfl).cons S 12 rfl, ⟨by dsimp only; omega, by dsimp only; rw [hos]; exact H.take [OSl 3 vq 1 encI (offK olds[i].kind next s k), Cel b3 99 [vt, vo, vn, ve], Atom.ro (MapA bm (fun n : Int => .int .i64 n) (fun b : Bool => .bool b) (memS (s)) c), Sl vn 9 Pl.enc next, Sl vo 9 Pl.enc olds]⟩, by dsimp only; omega⟩
  ·have h4p := h4; try simp only [DL] at h4p
   have hc : ¬ ((offK olds[i].kind next s k).length < 5 ∧ next[k].kind = olds[i].kind ∧ (k : Int) ∉ s) := by
     intro hc
     have hh := h4
     rw [memS_get, decide_eq_true (show ((offK olds[i].kind next s k).length : Int) < 5 by omega), beq_iff_eq.2 hc.2.1, decide_eq_false hc.2.2] at hh
     cases hh
   rw [if_neg hc] at hos
   refine g_skip ?_
   refine n_block ?_
   refine n_then ?_
   refine g_region ?_
   refine gy rfl rfl rfl S (y_add rfl S rfl rfl (by omega)) fun a S => ?_
   refine gm S fun a S => ?_
   refine gnt ?_
   first
   | exact ⟨(k + 1, u41), (S.nil.cons S 13 rfl).cons S 7 rfl, (((((S.nil.cons S 2 rfl).cons S 1 rfl).cons S 3 rfl).cons S 6 rfl).cons S 11 rfl).cons S 12 rfl, ⟨by dsimp only; omega, by dsimp only; rw [hos]; exact H.take [OSl 3 u41 1 encI (offK olds[i].kind next s k ++ [(k : Int)]), Cel b3 99 [vt, vo, vn, ve], Atom.ro (MapA bm (fun n : Int => .int .i64 n) (fun b : Bool => .bool b) (memS (s)) c), Sl vn 9 Pl.enc next, Sl vo 9 Pl.enc olds]⟩, by dsimp only; omega⟩
   | exact ⟨(k + 1, vq), (S.nil.cons S 13 rfl).cons S 7 rfl, (((((S.nil.cons S 2 rfl).cons S 1 rfl).cons S 3 rfl).cons S 6 rfl).cons S 11 rfl).cons S 12 rfl, ⟨by dsimp only; omega, by dsimp only; rw [hos]; exact H.take [OSl 3 vq 1 encI (offK olds[i].kind next s k), Cel b3 99 [vt, vo, vn, ve], Atom.ro (MapA bm (fun n : Int => .int .i64 n) (fun b : Bool => .bool b) (memS (s)) c), Sl vn 9 Pl.enc next, Sl vo 9 Pl.enc olds]⟩, by dsimp only; omega⟩
 ·have h1p := h1; try simp only [DL] at h1p
  obtain rfl : k = next.length := by omega
  refine g_exit ?_
  refine x_then (x_then (x_eq ?_))
  refine n_then ?_
  have S := (S.nil.cons S 6 rfl).cons S 7 rfl
  refine gsr ?_
  refine gm S fun a S => ?_
  refine ga S fun a S => ?_
  refine gnt ?_
  refine g_ret ?_
  refine ret1 rfl S rfl ?_
  exact H.take [OSl 3 vq 1 encI (offK olds[i].kind next s next.length)]
/-- foyer/rebuild.Plan -/
theorem plan_err (v1 v2 : Value) (old next : List Pl) (v3 : Value) (ts : List Ow) (w0 : World) (hv1 : IsSl w0 v1 9 Pl.enc old) (hv2 : IsSl w0 v2 9 Pl.enc next) (hv3 : IsSl w0 v3 11 Ow.enc ts) (hok : ∀ o ∈ ts, o.ok) (hl1 : ts.length ≤ 100000) (herr : errW old.length next.length (movedL ts) ≠ 0) :
    Ret Try.prog 28 #[v1, v2, v3] w0 (fun u w => u = .tuple #[.agg #[.slice none 0 0, .slice none 0 0, .slice none 0 0], .int .i64 (errW old.length next.length (movedL ts))] ∧ Ext w0 w) := by
 refine ret_of_wp (nt := 79) Try.func28 rfl rfl rfl (fl := [(0, v1), (1, v2), (2, v3)]) rfl (fun a S => ?_)
 have H := HSat.start w0
 have H := H.ro0 (Sl v1 9 Pl.enc old) rfl (hv1)
 have H := H.ro0 (Sl v2 9 Pl.enc next) rfl (hv2)
 have H := H.ro0 (Sl v3 11 Ow.enc ts) rfl (hv3)
 have hll1 := hv1.len
 have hl2 := hv2.len
 have hl3 := hv3.len
 refine gsr ?_
 refine wl_of (op_alloc (wn rfl) rfl rfl rfl S H Fzer43 fun b6 a w S H => ?_)
 refine ga S fun a S => ?_
 refine gnt ?_
 refine gsr ?_
 refine gm S fun a S => ?_
 refine gm S fun a S => ?_
 refine gm S fun a S => ?_
 refine wl_of (op_call (wn rfl) rfl rfl S (co_func rfl Try.call47 S rfl) (prepare_spec v1 v2 old next v3 ts _ (H.sl v1) (H.sl v2) (H.sl v3) hok hl1) fun v w hc a S => ?_)
 obtain ⟨va, vb, vc, ve, rfl, hoc, he, _⟩ := hc
 have H := H.ext he
 refine gm S fun a S => ?_
 refine gy rfl rfl rfl S (y_extract rfl S rfl rfl) fun a S => ?_
 refine gy rfl rfl rfl S (y_extract rfl S rfl rfl) fun a S => ?_
 refine wl_of (op_alloc (wn rfl) rfl rfl rfl S H Fzer99 fun b8 a w S H => ?_)
 refine wl_of (op_storea (wn rfl) rfl rfl S H rfl rfl hoc Fsiz99 rfl (cs' := [_, _, _, _]) rfl fun a w S H => ?_)
 refine ga S fun a S => ?_
 refine gnt ?_
 have S := (((S.nil.cons S 6 rfl).cons S 7 rfl).cons S 8 rfl).cons S 9 rfl
 refine g_seq ?_
 refine gsr ?_
 refine gm S fun a S => ?_
 refine gy rfl rfl rfl S (y_bin rfl S rfl rfl rfl) fun a S => ?_
 refine gnt ?_
 refine c_if S rfl (fun h1 => ?_) (fun h1 => ?_)
 ·have h1p := h1; try simp only [DL] at h1p
  refine gsr ?_
  refine gy rfl rfl rfl S (y_buildf rfl Fbld43 S rfl (idx := []) rfl (cs := [_, _, _]) rfl) fun a S => ?_
  refine gm S fun a S => ?_
  refine wl_of (op_storea (wn rfl) rfl rfl S H rfl rfl rfl Fsiz43 rfl (cs' := [_, _, _]) rfl fun a w S H => ?_)
  refine ga S fun a S => ?_
  refine gnt ?_
  have S := ((S.nil.cons S 6 rfl).cons S 8 rfl).cons S 7 rfl
  refine g_ret ?_
  refine r_then (ret2ct rfl S H rfl rfl (by exact Fagg43) ?_)
  exact ⟨rfl, H.toExt⟩
 ·have h1p := h1; try simp only [DL] at h1p
  all_goals (
    exact absurd h1p herr)
set_option maxHeartbeats 4000000 in
/-- foyer/rebuild.Plan -/
theorem plan_ok (v1 v2 : Value) (old next : List Pl) (v3 : Value) (ts : List Ow) (w0 : World) (hv1 : IsSl w0 v1 9 Pl.enc old) (hv2 : IsSl w0 v2 9 Pl.enc next) (hv3 : IsSl w0 v3 11 Ow.enc ts) (hok : ∀ o ∈ ts, o.ok) (hl1 : ts.length ≤ 100000) (herr : errW old.length next.length (movedL ts) = 0) :
    Ret Try.prog 28 #[v1, v2, v3] w0 (fun u w => ∃ mv vl vr, ∃ ms : List Mv, u = .tuple #[.agg #[mv, vl, vr], .int .i64 0] ∧ ms.map Mv.say = movesL (movedL ts) (oldL old (movedL ts)) next (plL (oldL old (movedL ts)) next) ∧ HSat No w0 [OSl 91 mv 3 Mv.enc ms, RowsA 3 1 encI (rowsOf ms), OSl 3 vl 1 encI (clL (oldL old (movedL ts)) next), OSl 3 vr 1 encI (crL (oldL old (movedL ts)) next)] w) := by
 refine ret_of_wp (nt := 79) Try.func28 rfl rfl rfl (fl := [(0, v1), (1, v2), (2, v3)]) rfl (fun a S => ?_)
 have H := HSat.start w0
 have H := H.ro0 (Sl v1 9 Pl.enc old) rfl (hv1)
 have H := H.ro0 (Sl v2 9 Pl.enc next) rfl (hv2)
 have H := H.ro0 (Sl v3 11 Ow.enc ts) rfl (hv3)
 have hll1 := hv1.len
 have hl2 := hv2.len
 have hl3 := hv3.len
 refine gsr ?_
 refine wl_of (op_alloc (wn rfl) rfl rfl rfl S H Fzer43 fun b6 a w S H => ?_)
 refine ga S fun a S => ?_
 refine gnt ?_
 refine gsr ?_
 refine gm S fun a S => ?_
 refine gm S fun a S => ?_
 refine gm S fun a S => ?_
 refine wl_of (op_call (wn rfl) rfl rfl S (co_func rfl Try.call47 S rfl) (prepare_spec v1 v2 old next v3 ts _ (H.sl v1) (H.sl v2) (H.sl v3) hok hl1) fun v w hc a S => ?_)
 obtain ⟨va, vb, vc, ve, rfl, hoc, _, hx⟩ := hc
 obtain ⟨rfl, ps, hps, H1⟩ := hx herr
 have H := H.call4 H1 rfl rfl rfl rfl
 have hpo := errW_ok herr
 have hto := (old_len old (movedL ts)).symm
 refine gm S fun a S => ?_
 refine gy rfl rfl rfl S (y_extract rfl S rfl rfl) fun a S => ?_
 refine gy rfl rfl rfl S (y_extract rfl S rfl rfl) fun a S => ?_
 rw [herr] at S
 refine wl_of (op_alloc (wn rfl) rfl rfl rfl S H Fzer99 fun b8 a w S H => ?_)
 refine wl_of (op_storea (wn rfl) rfl rfl S H rfl rfl hoc Fsiz99 rfl (cs' := [_, _, _, _]) rfl fun a w S H => ?_)
 refine ga S fun a S => ?_
 refine gnt ?_
 have S := (((S.nil.cons S 6 rfl).cons S 7 rfl).cons S 8 rfl).cons S 9 rfl
 refine g_seq ?_
 refine gsr ?_
 refine gm S fun a S => ?_
 refine gy rfl rfl rfl S (y_bin rfl S rfl rfl rfl) fun a S => ?_
 refine gnt ?_
 refine c_if S rfl (fun h1 => ?_) (fun h1 => ?_)
 ·have h1p := h1; try simp only [DL] at h1p
  all_goals (
    exact absurd rfl h1p)
 ·have h1p := h1; try simp only [DL] at h1p
  refine g_skip ?_
  refine n_then ?_
  refine gsr ?_
  refine gy rfl rfl rfl S (y_load0 rfl S H rfl (by exact Fagg99)) fun a S => ?_
  refine wl_of (op_call (wn rfl) rfl rfl S (co_func rfl Try.call48 S rfl) (match_spec va vb v2 ve (movedL ts) (oldL old (movedL ts)) next ps _ (H.sl va) (H.sl vb) (H.sl v2) (H.sl ve) (H.rws 3 ps) hps hto (by omega) (by omega)) fun v w hc a S => ?_)
  obtain ⟨vp, vl, vr, rfl, H1⟩ := hc
  have H := H.call3 H1 rfl rfl rfl
  have hpl : (plL (oldL old (movedL ts)) next).length = (movedL ts).length := by have := (pairK_inv (olds := (oldL old (movedL ts))) (next := next) (by omega) (by omega) (oldL old (movedL ts)).length (Nat.le_refl _)).1.wf.lg; rw [edges_len] at this; rw [hto]; exact this
  refine gm S fun a S => ?_
  refine gy rfl rfl rfl S (y_extract rfl S rfl rfl) fun a S => ?_
  refine gy rfl rfl rfl S (y_extract rfl S rfl rfl) fun a S => ?_
  refine wl_of (op_alloc (wn rfl) rfl rfl rfl S H Fzer41 fun b11 a w S H => ?_)
  refine ga S fun a S => ?_
  refine wl_of (op_storea (wn rfl) rfl rfl S H rfl rfl (by simp only [List.all_cons, List.all_nil, H.sl1 vl, H.sl1 vr, Bool.true_and]) Fsiz41 rfl (cs' := [_, _]) rfl fun a w S H => ?_)
  refine gnt ?_
  have S := ((((S.nil.cons S 6 rfl).cons S 7 rfl).cons S 8 rfl).cons S 11 rfl).cons S 10 rfl
  refine gsr ?_
  refine wl_of (op_makeMap (fun n : Int => .int .i64 n) (fun b : Bool => .bool b) (wn rfl) rfl rfl rfl S H fun b35 a w S H => ?_)
  refine ga S fun a S => ?_
  refine gnt ?_
  refine g_seq ?_
  refine gsr ?_
  refine gm S fun a S => ?_
  refine gy rfl rfl rfl S (y_lens rfl Try.underlying39 S H rfl) fun a S => ?_
  rw [hpl] at S
  refine gm S fun a S => ?_
  refine gnt ?_
  refine g_block ?_
  have SU := (((((((S.nil.cons S 6 rfl).cons S 7 rfl).cons S 8 rfl).cons S 11 rfl).cons S 10 rfl).cons S 12 rfl).cons S 36 rfl).cons S 37 rfl
  refine loopW (X := Nat) SU (fun k => [(38, .int .i64 (k : Int))]) (fun k w => k ≤ (movedL ts).length ∧ ∃ c, HSat No w0 [MapA b35 (fun n : Int => .int .i64 n) (fun b : Bool => .bool b) (memS (((plL (oldL old (movedL ts)) next).take k).reverse)) c, Cel b11 41 [vl, vr], Cel b6 43 [.slice none 0 0, .slice none 0 0, .slice none 0 0], Cel b8 99 [va, vb, v2, ve], OSl 3 vp 1 encI (plL (oldL old (movedL ts)) next), OSl 3 vl 1 encI (clL (oldL old (movedL ts)) next), OSl 3 vr 1 encI (crL (oldL old (movedL ts)) next), OSl 66 va 11 Ow.enc (movedL ts), OSl 85 vb 9 Pl.enc (oldL old (movedL ts)), Sl v3 11 Ow.enc ts, Sl v2 9 Pl.enc next, Sl v1 9 Pl.enc old] w) (fun k => (movedL ts).length - k) 0 (S.nil.cons S 38 rfl) (⟨by omega, 0, by exact H.take [MapA b35 (fun n : Int => .int .i64 n) (fun b : Bool => .bool b) (fun _ => none) 0, Cel b11 41 [vl, vr], Cel b6 43 [.slice none 0 0, .slice none 0 0, .slice none 0 0], Cel b8 99 [va, vb, v2, ve], OSl 3 vp 1 encI (plL (oldL old (movedL ts)) next), OSl 3 vl 1 encI (clL (oldL old (movedL ts)) next), OSl 3 vr 1 encI (crL (oldL old (movedL ts)) next), OSl 66 va 11 Ow.enc (movedL ts), OSl 85 vb 9 Pl.enc (oldL old (movedL ts)), Sl v3 11 Ow.enc ts, Sl v2 9 Pl.enc next, Sl v1 9 Pl.enc old]⟩) (fun k a w S hW => ?_)
  simp only [List.cons_append, List.nil_append] at S
  clear H
  obtain ⟨hk, c, H⟩ := hW
  refine gsr ?_
  refine gy rfl rfl rfl S (y_bin rfl S rfl rfl rfl) fun a S => ?_
  refine gnt ?_
  refine g_seq ?_
  refine c_if S rfl (fun h2 => ?_) (fun h2 => ?_)
  ·have h2p := h2; try simp only [DL] at h2p
   have hkp : k < (plL (oldL old (movedL ts)) next).length := by omega
   refine g_skip ?_
   refine n_then ?_
   refine g_seq ?_
   refine g_block ?_
   refine gsr ?_
   refine gy rfl rfl rfl S (y_iaddrn rfl Try.underlying39 Fsiz3 S H rfl rfl (by first | assumption | omega | (rw [hpl]; omega))) fun a S => ?_
   refine gy rfl rfl rfl S (y_loads _ rfl Fsca3 S H rfl (by first | assumption | omega | (rw [hpl]; omega)) rfl) fun a S => ?_
   refine ga S fun a S => ?_
   refine gnt ?_
   refine g_region ?_
   refine gm S fun a S => ?_
   refine gm S fun a S => ?_
   refine wl_of (op_mapUpdate ((plL (oldL old (movedL ts)) next)[k]) (true) (wn rfl) rfl rfl Try.underlying73 S H rfl (keyOK_int Try.underlying3) (by exact rfl) (by exact rfl) fun a w S H => ?_)
   refine gl_nil ?_
   refine n_block ?_
   refine n_then ?_
   have S := ((((((((S.nil.cons S 6 rfl).cons S 7 rfl).cons S 8 rfl).cons S 11 rfl).cons S 10 rfl).cons S 12 rfl).cons S 36 rfl).cons S 37 rfl).cons S 38 rfl
   refine g_region ?_
   refine gy rfl rfl rfl S (y_add rfl S rfl rfl (by omega)) fun a S => ?_
   refine gm S fun a S => ?_
   refine gnt ?_
   have e : ((plL (oldL old (movedL ts)) next).take (k + 1)).reverse = (plL (oldL old (movedL ts)) next)[k] :: ((plL (oldL old (movedL ts)) next).take k).reverse := by rw [List.take_succ_eq_append_getElem hkp]; simp
   refine ⟨k + 1, S.nil.cons S 38 rfl, (((((((S.nil.cons S 6 rfl).cons S 7 rfl).cons S 8 rfl).cons S 11 rfl).cons S 10 rfl).cons S 12 rfl).cons S 36 rfl).cons S 37 rfl, ⟨by omega, ?_⟩, by omega⟩
   rw [e]; exact ⟨_, H⟩
  ·have h2p := h2; try simp only [DL] at h2p
   obtain rfl : k = (movedL ts).length := by omega
   rw [← hpl, List.take_length] at H
   refine g_exit ?_
   refine x_then (x_then (x_eq ?_))
   refine n_then ?_
   have S := (((((S.nil.cons S 6 rfl).cons S 7 rfl).cons S 8 rfl).cons S 11 rfl).cons S 10 rfl).cons S 12 rfl
   refine gsr ?_
   refine gy rfl rfl rfl S (y_load0 rfl S H rfl (by exact Fagg41)) fun a S => ?_
   refine gy rfl rfl rfl S (y_buildf rfl Fbld43 S rfl (idx := [1]) rfl (cs := [.slice none 0 0, vl, vr]) (by kernel_rfl)) fun a S => ?_
   refine wl_of (op_alloc (wn rfl) rfl rfl rfl S H Fzer43 fun b15 a w S H => ?_)
   refine wl_of (op_storea (wn rfl) rfl rfl S H rfl rfl (by simp only [List.all_cons, List.all_nil, H.sl1 vl, H.sl1 vr, Bool.true_and, Bool.and_true]; rfl) Fsiz43 rfl (cs' := [_, _, _]) rfl fun a w S H => ?_)
   refine gnt ?_
   refine g_seq ?_
   refine gsr ?_
   refine gy rfl rfl rfl S (y_faddrb rfl Ffo99_0 S rfl) fun a S => ?_
   refine gy rfl rfl rfl S (y_load rfl Fsca23 S H rfl rfl) fun a S => ?_
   refine gy rfl rfl rfl S (y_lens rfl Try.underlying23 S H rfl) fun a S => ?_
   refine gm S fun a S => ?_
   refine gnt ?_
   have S := ((((((((S.nil.cons S 6 rfl).cons S 7 rfl).cons S 8 rfl).cons S 10 rfl).cons S 12 rfl).cons S 15 rfl).cons S 48 rfl).cons S 49 rfl).cons S 50 rfl
   refine g_block ?_
   have H := (H.nilO 91 3 Mv.enc).rowsZ 3 1 encI
   have SU := (((((((S.nil.cons S 6 rfl).cons S 7 rfl).cons S 8 rfl).cons S 10 rfl).cons S 12 rfl).cons S 15 rfl).cons S 48 rfl).cons S 49 rfl
   refine loopW (X := Nat) SU (fun k => [(50, .int .i64 (k : Int))]) (fun k w => k ≤ (movedL ts).length ∧ ∃ mv ms, ms.map Mv.say = movesK (movedL ts) (oldL old (movedL ts)) next (plL (oldL old (movedL ts)) next) k ∧ HSat No w0 [Cel b15 43 [mv, vl, vr], OSl 91 mv 3 Mv.enc (ms), RowsA 3 1 encI (rowsOf (ms)), MapA b35 (fun n : Int => .int .i64 n) (fun b : Bool => .bool b) (memS ((plL (oldL old (movedL ts)) next).reverse)) c, Cel b6 43 [.slice none 0 0, .slice none 0 0, .slice none 0 0], Cel b8 99 [va, vb, v2, ve], OSl 3 vp 1 encI (plL (oldL old (movedL ts)) next), OSl 3 vl 1 encI (clL (oldL old (movedL ts)) next), OSl 3 vr 1 encI (crL (oldL old (movedL ts)) next), OSl 66 va 11 Ow.enc (movedL ts), OSl 85 vb 9 Pl.enc (oldL old (movedL ts)), Sl v3 11 Ow.enc ts, Sl v2 9 Pl.enc next, Sl v1 9 Pl.enc old] w) (fun k => (movedL ts).length - k) 0 (S.nil.cons S 50 rfl) (⟨by omega, .slice none 0 0, [], rfl, H.take [Cel b15 43 [.slice none 0 0, vl, vr], OSl 91 (.slice none 0 0) 3 Mv.enc [], RowsA 3 1 encI [], MapA b35 (fun n : Int => .int .i64 n) (fun b : Bool => .bool b) (memS ((plL (oldL old (movedL ts)) next).reverse)) c, Cel b6 43 [.slice none 0 0, .slice none 0 0, .slice none 0 0], Cel b8 99 [va, vb, v2, ve], OSl 3 vp 1 encI (plL (oldL old (movedL ts)) next), OSl 3 vl 1 encI (clL (oldL old (movedL ts)) next), OSl 3 vr 1 encI (crL (oldL old (movedL ts)) next), OSl 66 va 11 Ow.enc (movedL ts), OSl 85 vb 9 Pl.enc (oldL old (movedL ts)), Sl v3 11 Ow.enc ts, Sl v2 9 Pl.enc next, Sl v1 9 Pl.enc old]⟩) (fun k a w S hW => ?_)
   simp only [List.cons_append, List.nil_append] at S
   clear H
   obtain ⟨hk, mv, ms, hms, H⟩ := hW
   refine gsr ?_
   refine gy rfl rfl rfl S (y_bin rfl S rfl rfl rfl) fun a S => ?_
   refine gnt ?_
   refine g_seq ?_
   refine c_if S rfl (fun h3 => ?_) (fun h3 => ?_)
   ·have h3p := h3; try simp only [DL] at h3p
    have hkl : k < (movedL ts).length := by omega
    have hok1 : (movedL ts)[k].ok := hok _ (List.mem_filter.1 (List.getElem_mem hkl)).1
    have hko : k < (oldL old (movedL ts)).length := by omega
    have hmk := movesK_succ (next := next) (place := (plL (oldL old (movedL ts)) next)) hkl hko
    have hatk := atI_eq (show k < (plL (oldL old (movedL ts)) next).length by omega)
    have hmsl := congrArg List.length hms
    rw [movesK_len, List.length_map] at hmsl
    refine g_skip ?_
    refine n_then ?_
    refine g_seq ?_
    refine g_block ?_
    refine gsr ?_
    refine gm S fun a S => ?_
    refine gy rfl rfl rfl S (y_iaddrn rfl Try.underlying23 Fsiz66 S H rfl rfl (by first | assumption | omega | (rw [hpl]; omega))) fun a S => ?_
    refine gy rfl rfl rfl S (y_loadsa _ rfl S H rfl (by exact Fagg66) (by first | assumption | omega | (rw [hpl]; omega))) fun a S => ?_
    refine wl_of (op_alloc (wn rfl) rfl rfl rfl S H Fzer66 fun b17 a w S H => ?_)
    refine ga S fun a S => ?_
    refine wl_of (op_storea (wn rfl) rfl rfl S H rfl rfl (Ow.all hok1) Fsiz66 rfl (cs' := [_, _, _, _, _, _, _, _, _, _, _]) rfl fun a w S H => ?_)
    refine gnt ?_
    have S := ((((((((((S.nil.cons S 6 rfl).cons S 7 rfl).cons S 8 rfl).cons S 10 rfl).cons S 12 rfl).cons S 15 rfl).cons S 48 rfl).cons S 49 rfl).cons S 50 rfl).cons S 17 rfl).cons S 16 rfl
    refine g_seq ?_
    refine region_st (loud := [8, 9]) (tails := [9]) (free := []) [0, 1, 2, 3, 4, 5, 6, 7, 8, 9] [] Fmo (by kernel_rfl) (by kernel_rfl) rfl H ?_
    refine m_w rfl rfl (wn rfl) rfl rfl S (fun w H => y_faddrb rfl Ffo66_0 S rfl) fun a S => ?_
    refine m_w rfl rfl (wn rfl) rfl rfl S (fun w H => y_faddrb rfl Ffo60_0 S rfl) fun a S => ?_
    refine m_w rfl rfl (wn rfl) rfl rfl S (fun w H => y_load rfl Fsca3 S H rfl rfl) fun a S => ?_
    refine m_w rfl rfl (wn rfl) rfl rfl S (fun w H => y_move rfl S rfl) fun a S => ?_
    refine m_w rfl rfl (wn rfl) rfl rfl S (fun w H => y_move rfl S rfl) fun a S => ?_
    refine m_w rfl rfl (wn rfl) rfl rfl S (fun w H => y_iaddrn rfl Try.underlying39 Fsiz3 S H rfl rfl (by first | assumption | omega | (rw [hpl]; omega))) fun a S => ?_
    refine m_loads _ rfl rfl (wn rfl) rfl rfl S rfl Fsca3 rfl (by first | assumption | omega | (rw [hpl]; omega)) rfl fun a S => ?_
    refine m_w rfl rfl (wn rfl) rfl rfl S (fun w H => y_buildf rfl Fbld91 S rfl (idx := [0, 1]) rfl (cs := [.int .i64 (movedL ts)[k].serial, .int .i64 (plL (oldL old (movedL ts)) next)[k], .slice none 0 0]) (by kernel_rfl)) fun a S => ?_
    refine m_l rfl rfl (fun w H => op_alloc (wn rfl) rfl rfl rfl S H Fzer91 fun b18 a w S H => m_next H (List.sublist_cons_self _ _) ?_)
    refine m_l rfl rfl (fun w H => op_storea (wn rfl) rfl rfl S H rfl rfl rfl Fsiz91 rfl (cs' := [_, _, _]) rfl fun a w S H => m_tail H rfl ?_)
    refine m_nil (fun w H => ?_)
    refine n_then ?_
    have S := ((((((((((S.nil.cons S 6 rfl).cons S 7 rfl).cons S 8 rfl).cons S 10 rfl).cons S 12 rfl).cons S 15 rfl).cons S 48 rfl).cons S 49 rfl).cons S 50 rfl).cons S 16 rfl).cons S 18 rfl
    refine g_seq ?_
    refine gsr ?_
    refine gy rfl rfl rfl S (y_faddrb rfl Ffo91_1 S rfl) fun a S => ?_
    refine gy rfl rfl rfl S (y_load rfl Fsca3 S H rfl rfl) fun a S => ?_
    refine gy rfl rfl rfl S (y_bin rfl S rfl rfl rfl) fun a S => ?_
    refine gnt ?_
    refine c_if S rfl (fun h4 => ?_) (fun h4 => ?_)
    ·have h4p := h4; try simp only [DL] at h4p
     have hneg : atI (plL (oldL old (movedL ts)) next) k < 0 := by rw [hatk]; exact h4p
     rw [if_pos hneg] at hmk
     refine g_region ?_
     refine gy rfl rfl rfl S (y_load0 rfl S H rfl (by exact Fagg99)) fun a S => ?_
     refine gm S fun a S => ?_
     refine gm S fun a S => ?_
     refine wl_of (op_call (wn rfl) rfl rfl S (co_func rfl Try.call49 S rfl) (offers_spec va vb v2 ve (oldL old (movedL ts)) next k b35 (plL (oldL old (movedL ts)) next).reverse c _ (H.sl vb) (H.sl v2) (H.mp b35) (by omega) (by omega)) fun urow w hc a S => ?_)
     have H1 := hc
     obtain ⟨orow, hor⟩ : ∃ o, o = offL (oldL old (movedL ts))[k].kind next (plL (oldL old (movedL ts)) next) := ⟨_, rfl⟩
     rw [show offL (oldL old (movedL ts))[k].kind next (plL (oldL old (movedL ts)) next).reverse = orow by rw [hor]; exact offK_congr (fun k _ => by simp) _ (Nat.le_refl _)] at H1
     rw [← hor] at hmk
     have H := H.call1 H1 rfl
     obtain ⟨pu, cu, hpu⟩ := (H.sl urow).shape
     have hu1 := H.sl1 urow
     refine gy rfl rfl rfl S (y_faddrb rfl Ffo91_2 S rfl) fun a S => ?_
     refine wl_of (op_store (wn rfl) rfl rfl S H rfl rfl (H.sl1 _) Fsiz39 rfl fun a w S H => ?_)
     dsimp only [List.set, Nat.zero_add, Nat.reduceAdd] at H
     refine gnt ?_
     have S := (((((((((S.nil.cons S 6 rfl).cons S 7 rfl).cons S 8 rfl).cons S 10 rfl).cons S 12 rfl).cons S 15 rfl).cons S 48 rfl).cons S 49 rfl).cons S 50 rfl).cons S 18 rfl
     refine g_region ?_
     refine gy rfl rfl rfl S (y_faddrb rfl Ffo43_0 S rfl) fun a S => ?_
     refine gy rfl rfl rfl S (y_load rfl Fsca38 S H rfl rfl) fun a S => ?_
     refine gy rfl rfl rfl S (y_load0 rfl S H rfl (by exact Fagg91)) fun a S => ?_
     refine wl_of (op_buildSlice (wn rfl) rfl rfl rfl Try.underlying38 Finf91 S H (idx := [0]) rfl rfl rfl (z := [.int .i64 0, .int .i64 0, .slice none 0 0]) (by kernel_rfl) (cs := [.int .i64 (movedL ts)[k].serial, .int .i64 (plL (oldL old (movedL ts)) next)[k], urow]) (by rw [hpu]; rfl) fun b74 a w S H => ?_)
     refine wl_of (op_append ([(Mv.mk (movedL ts)[k].serial (plL (oldL old (movedL ts)) next)[k] (urow, orow))]) (wn rfl) rfl rfl rfl Try.underlying38 Finf91 rfl rfl S H rfl rfl rfl rfl (by simp) (by simp [Mv.enc]) (by simp only [List.mem_singleton]; rintro y rfl u hu; simp only [Mv.enc, List.mem_cons, List.not_mem_nil, or_false] at hu; rcases hu with rfl | rfl | rfl; rfl; rfl; exact hu1) (by simp only [List.length_cons, List.length_nil]; omega) (by simp only [List.length_cons, List.length_nil]; omega) fun u75 a w hn75 S H => ?_)
     refine gy rfl rfl rfl S (y_faddrb rfl Ffo43_0 S rfl) fun a S => ?_
     refine wl_of (op_store (wn rfl) rfl rfl S H rfl rfl (H.sl1 _) Fsiz38 rfl fun a w S H => ?_)
     dsimp only [List.set, Nat.zero_add, Nat.reduceAdd] at H
     refine gl_nil ?_
     refine n_block ?_
     refine n_then ?_
     have S := ((((((((S.nil.cons S 6 rfl).cons S 7 rfl).cons S 8 rfl).cons S 10 rfl).cons S 12 rfl).cons S 15 rfl).cons S 48 rfl).cons S 49 rfl).cons S 50 rfl
     refine g_region ?_
     refine gy rfl rfl rfl S (y_add rfl S rfl rfl (by omega)) fun a S => ?_
     refine gm S fun a S => ?_
     refine gnt ?_
     exact ⟨k + 1, S.nil.cons S 50 rfl, (((((((S.nil.cons S 6 rfl).cons S 7 rfl).cons S 8 rfl).cons S 10 rfl).cons S 12 rfl).cons S 15 rfl).cons S 48 rfl).cons S 49 rfl, ⟨by omega, u75, ms ++ [(Mv.mk (movedL ts)[k].serial (plL (oldL old (movedL ts)) next)[k] (urow, orow))], by rw [List.map_append, hms, hmk, hatk]; rfl, by unfold rowsOf; rw [List.map_append]; exact ((H.front2 (OSl 3 urow 1 encI orow) (RowsA 3 1 encI (rowsOf ms))).rowSnoc).take [Cel b15 43 [u75, vl, vr], OSl 91 u75 3 Mv.enc (ms ++ [(Mv.mk (movedL ts)[k].serial (plL (oldL old (movedL ts)) next)[k] (urow, orow))]), RowsA 3 1 encI (rowsOf ms ++ [(urow, orow)]), MapA b35 (fun n : Int => .int .i64 n) (fun b : Bool => .bool b) (memS ((plL (oldL old (movedL ts)) next).reverse)) c, Cel b6 43 [.slice none 0 0, .slice none 0 0, .slice none 0 0], Cel b8 99 [va, vb, v2, ve], OSl 3 vp 1 encI (plL (oldL old (movedL ts)) next), OSl 3 vl 1 encI (clL (oldL old (movedL ts)) next), OSl 3 vr 1 encI (crL (oldL old (movedL ts)) next), OSl 66 va 11 Ow.enc (movedL ts), OSl 85 vb 9 Pl.enc (oldL old (movedL ts)), Sl v3 11 Ow.enc ts, Sl v2 9 Pl.enc next, Sl v1 9 Pl.enc old]⟩, by omega⟩
    ·have h4p := h4; try simp only [DL] at h4p
     have hneg : ¬ atI (plL (oldL old (movedL ts)) next) k < 0 := by rw [hatk]; have := h4p; omega
     rw [if_neg hneg] at hmk
     obtain ⟨urow, hur⟩ : ∃ u : Value, u = .slice none 0 0 := ⟨_, rfl⟩
     obtain ⟨orow, hor⟩ : ∃ o : List Int, o = [] := ⟨_, rfl⟩
     have H := H.nilO 3 1 encI
     have H : HSat No w0 [OSl 3 urow 1 encI orow, Cel b18 91 [.int .i64 (movedL ts)[k].serial, .int .i64 (plL (oldL old (movedL ts)) next)[k], urow], Cel b15 43 [mv, vl, vr], OSl 91 mv 3 Mv.enc (ms), RowsA 3 1 encI (rowsOf (ms)), MapA b35 (fun n : Int => .int .i64 n) (fun b : Bool => .bool b) (memS ((plL (oldL old (movedL ts)) next).reverse)) c, Cel b6 43 [.slice none 0 0, .slice none 0 0, .slice none 0 0], Cel b8 99 [va, vb, v2, ve], OSl 3 vp 1 encI (plL (oldL old (movedL ts)) next), OSl 3 vl 1 encI (clL (oldL old (movedL ts)) next), OSl 3 vr 1 encI (crL (oldL old (movedL ts)) next), OSl 66 va 11 Ow.enc (movedL ts), OSl 85 vb 9 Pl.enc (oldL old (movedL ts)), Sl v3 11 Ow.enc ts, Sl v2 9 Pl.enc next, Sl v1 9 Pl.enc old] w := by rw [hur, hor]; exact H.take [OSl 3 (.slice none 0 0) 1 encI [], Cel b18 91 [.int .i64 (movedL ts)[k].serial, .int .i64 (plL (oldL old (movedL ts)) next)[k], .slice none 0 0], Cel b15 43 [mv, vl, vr], OSl 91 mv 3 Mv.enc (ms), RowsA 3 1 encI (rowsOf (ms)), MapA b35 (fun n : Int => .int .i64 n) (fun b : Bool => .bool b) (memS ((plL (oldL old (movedL ts)) next).reverse)) c, Cel b6 43 [.slice none 0 0, .slice none 0 0, .slice none 0 0], Cel b8 99 [va, vb, v2, ve], OSl 3 vp 1 encI (plL (oldL old (movedL ts)) next), OSl 3 vl 1 encI (clL (oldL old (movedL ts)) next), OSl 3 vr 1 encI (crL (oldL old (movedL ts)) next), OSl 66 va 11 Ow.enc (movedL ts), OSl 85 vb 9 Pl.enc (oldL old (movedL ts)), Sl v3 11 Ow.enc ts, Sl v2 9 Pl.enc next, Sl v1 9 Pl.enc old]
     rw [← hor] at hmk
     obtain ⟨pu, cu, hpu⟩ := (H.sl urow).shape
     have hu1 := H.sl1 urow
     refine g_skip ?_
     refine n_then ?_
     have S := (((((((((S.nil.cons S 6 rfl).cons S 7 rfl).cons S 8 rfl).cons S 10 rfl).cons S 12 rfl).cons S 15 rfl).cons S 48 rfl).cons S 49 rfl).cons S 50 rfl).cons S 18 rfl
     refine g_region ?_
     refine gy rfl rfl rfl S (y_faddrb rfl Ffo43_0 S rfl) fun a S => ?_
     refine gy rfl rfl rfl S (y_load rfl Fsca38 S H rfl rfl) fun a S => ?_
     refine gy rfl rfl rfl S (y_load0 rfl S H rfl (by exact Fagg91)) fun a S => ?_
     refine wl_of (op_buildSlice (wn rfl) rfl rfl rfl Try.underlying38 Finf91 S H (idx := [0]) rfl rfl rfl (z := [.int .i64 0, .int .i64 0, .slice none 0 0]) (by kernel_rfl) (cs := [.int .i64 (movedL ts)[k].serial, .int .i64 (plL (oldL old (movedL ts)) next)[k], urow]) (by rw [hpu]; rfl) fun b74 a w S H => ?_)
     refine wl_of (op_append ([(Mv.mk (movedL ts)[k].serial (plL (oldL old (movedL ts)) next)[k] (urow, orow))]) (wn rfl) rfl rfl rfl Try.underlying38 Finf91 rfl rfl S H rfl rfl rfl rfl (by simp) (by simp [Mv.enc]) (by simp only [List.mem_singleton]; rintro y rfl u hu; simp only [Mv.enc, List.mem_cons, List.not_mem_nil, or_false] at hu; rcases hu with rfl | rfl | rfl; rfl; rfl; exact hu1) (by simp only [List.length_cons, List.length_nil]; omega) (by simp only [List.length_cons, List.length_nil]; omega) fun u75 a w hn75 S H => ?_)
     refine gy rfl rfl rfl S (y_faddrb rfl Ffo43_0 S rfl) fun a S => ?_
     refine wl_of (op_store (wn rfl) rfl rfl S H rfl rfl (H.sl1 _) Fsiz38 rfl fun a w S H => ?_)
     dsimp only [List.set, Nat.zero_add, Nat.reduceAdd] at H
     refine gl_nil ?_
     refine n_block ?_
     refine n_then ?_
     have S := ((((((((S.nil.cons S 6 rfl).cons S 7 rfl).cons S 8 rfl).cons S 10 rfl).cons S 12 rfl).cons S 15 rfl).cons S 48 rfl).cons S 49 rfl).cons S 50 rfl
     refine g_region ?_
     refine gy rfl rfl rfl S (y_add rfl S rfl rfl (by omega)) fun a S => ?_
     refine gm S fun a S => ?_
     refine gnt ?_
     exact ⟨k + 1, S.nil.cons S 50 rfl, (((((((S.nil.cons S 6 rfl).cons S 7 rfl).cons S 8 rfl).cons S 10 rfl).cons S 12 rfl).cons S 15 rfl).cons S 48 rfl).cons S 49 rfl, ⟨by omega, u75, ms ++ [(Mv.mk (movedL ts)[k].serial (plL (oldL old (movedL ts)) next)[k] (urow, orow))], by rw [List.map_append, hms, hmk, hatk]; rfl, by unfold rowsOf; rw [List.map_append]; exact ((H.front2 (OSl 3 urow 1 encI orow) (RowsA 3 1 encI (rowsOf ms))).rowSnoc).take [Cel b15 43 [u75, vl, vr], OSl 91 u75 3 Mv.enc (ms ++ [(Mv.mk (movedL ts)[k].serial (plL (oldL old (movedL ts)) next)[k] (urow, orow))]), RowsA 3 1 encI (rowsOf ms ++ [(urow, orow)]), MapA b35 (fun n : Int => .int .i64 n) (fun b : Bool => .bool b) (memS ((plL (oldL old (movedL ts)) next).reverse)) c, Cel b6 43 [.slice none 0 0, .slice none 0 0, .slice none 0 0], Cel b8 99 [va, vb, v2, ve], OSl 3 vp 1 encI (plL (oldL old (movedL ts)) next), OSl 3 vl 1 encI (clL (oldL old (movedL ts)) next), OSl 3 vr 1 encI (crL (oldL old (movedL ts)) next), OSl 66 va 11 Ow.enc (movedL ts), OSl 85 vb 9 Pl.enc (oldL old (movedL ts)), Sl v3 11 Ow.enc ts, Sl v2 9 Pl.enc next, Sl v1 9 Pl.enc old]⟩, by omega⟩
   ·have h3p := h3; try simp only [DL] at h3p
    obtain rfl : k = (movedL ts).length := by omega
    refine g_exit ?_
    refine x_then (x_then (x_eq ?_))
    refine n_then ?_
    have S := ((S.nil.cons S 6 rfl).cons S 7 rfl).cons S 15 rfl
    refine gsr ?_
    refine gy rfl rfl rfl S (y_load0 rfl S H rfl (by exact Fagg43)) fun a S => ?_
    refine wl_of (op_storea (wn rfl) rfl rfl S H rfl rfl (by simp only [List.all_cons, List.all_nil, H.sl1 mv, H.sl1 vl, H.sl1 vr, Bool.true_and]) Fsiz43 rfl (cs' := [_, _, _]) rfl fun a w S H => ?_)
    refine ga S fun a S => ?_
    refine gnt ?_
    refine g_ret ?_
    refine ret2ct rfl S H rfl rfl (by exact Fagg43) ?_
    exact ⟨mv, vl, vr, ms, rfl, hms, H.take [OSl 91 mv 3 Mv.enc ms, RowsA 3 1 encI (rowsOf ms), OSl 3 vl 1 encI (clL (oldL old (movedL ts)) next), OSl 3 vr 1 encI (crL (oldL old (movedL ts)) next)]⟩
end Go.Proofs.Ytnnendajegdnhaa
