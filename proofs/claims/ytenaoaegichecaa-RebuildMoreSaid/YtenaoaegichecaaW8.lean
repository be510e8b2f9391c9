/- The walks. No condition. -/
import Derived.Test.YtenaoaegichecaaChecked
import Derived.Test.YtenaoaegichecaaGwBits
import Derived.Test.YtenaoaegichecaaFacts
import Derived.Test.YtenaoaegichecaaPlain
import Derived.Test.YtenaoaegichecaaPlainU
import Derived.Test.YtenaoaegichecaaW7
namespace Go.Proofs.Ytenaoaegichecaa
open Go Go.Gw
set_option linter.unusedVariables false
set_option linter.unusedSimpArgs false
set_option maxHeartbeats 4000000 in
/-- foyer/rebuild.prepare -/
theorem prepare_spec (v1 v2 : Value) (old next : List Pl) (v3 : Value) (ts : List Ow) (w0 : World) (hv1 : IsSl w0 v1 9 Pl.enc old) (hv2 : IsSl w0 v2 9 Pl.enc next) (hv3 : IsSl w0 v3 11 Ow.enc ts) (hok : ∀ o ∈ ts, o.ok) (hl1 : ts.length ≤ 100000) :
    Ret Try.prog 29 #[v1, v2, v3] w0 (fun u w => ∃ va vb vc ve, u = .tuple #[.agg #[va, vb, vc, ve], .int .i64 (errW old.length next.length (movedL ts))] ∧ [va, vb, vc, ve].all (·.oneCell') = true ∧ Ext w0 w ∧ (errW old.length next.length (movedL ts) = 0 → v2 = vc ∧ ∃ ps : List (Value × List Int), ps.map (·.2) = edgesL (oldL old (movedL ts)) next ∧ HSat No w0 [OSl 47 va 11 Ow.enc (movedL ts), OSl 56 vb 9 Pl.enc (oldL old (movedL ts)), OSl 25 ve 1 encRow ps, RowsA 3 1 encI ps] w)) := by
 refine ret_of_wp (nt := 84) Try.func29 rfl rfl rfl (fl := [(0, v1), (1, v2), (2, v3)]) rfl (fun a S => ?_)
 have H := HSat.start w0
 have H := H.ro0 (Sl v1 9 Pl.enc old) rfl (hv1)
 have H := H.ro0 (Sl v2 9 Pl.enc next) rfl (hv2)
 have H := H.ro0 (Sl v3 11 Ow.enc ts) rfl (hv3)
 have hll1 := hv1.len
 have hl2 := hv2.len
 have hl3 := hv3.len
 obtain ⟨pv2, cv2, hpv2⟩ := hv2.shape
 refine g_seq ?_
 refine g_region ?_
 refine wl_of (op_alloc (wn rfl) rfl rfl rfl S H Fzer70 fun b6 a w S H => ?_)
 refine gy rfl rfl rfl S (y_assign rfl S rfl) fun a S => ?_
 refine gl_nil ?_
 refine n_then ?_
 refine g_seq ?_
 refine g_region ?_
 refine gy rfl rfl rfl S (y_move rfl S rfl) fun a S => ?_
 refine gy rfl rfl rfl S (y_buildf rfl Fbld70 S rfl (idx := [2]) rfl (cs := [.slice none 0 0, .slice none 0 0, v2, .slice none 0 0]) (by rw [hpv2]; rfl)) fun a S => ?_
 refine wl_of (op_alloc (wn rfl) rfl rfl rfl S H Fzer70 fun b8 a w S H => ?_)
 refine wl_of (op_storea (wn rfl) rfl rfl S H rfl rfl (by simp only [List.all_cons, List.all_nil, H.sl1 v2]; rfl) Fsiz70 rfl (cs' := [_, _, _, _]) rfl fun a w S H => ?_)
 refine gl_nil ?_
 refine n_then ?_
 refine g_seq ?_
 refine g_region ?_
 refine wl_of (op_makeMap (fun n : Int => .int .i64 n) (fun b : Bool => .bool b) (wn rfl) rfl rfl rfl S H fun b16 a w S H => ?_)
 refine gy rfl rfl rfl S (y_assign rfl S rfl) fun a S => ?_
 refine gl_nil ?_
 refine n_then ?_
 refine g_seq ?_
 refine g_region ?_
 refine gy rfl rfl rfl S (y_assign rfl S rfl) fun a S => ?_
 refine gl_nil ?_
 refine n_then ?_
 refine g_seq ?_
 refine g_seq ?_
 refine g_region ?_
 refine gy rfl rfl rfl S (y_move rfl S rfl) fun a S => ?_
 refine gy rfl rfl rfl S (y_lens rfl Try.underlying23 S H rfl) fun a S => ?_
 refine gy rfl rfl rfl S (y_move rfl S rfl) fun a S => ?_
 refine gl_nil ?_
 refine n_then ?_
 have S := (((((((((S.nil.cons S 1 rfl).cons S 0 rfl).cons S 6 rfl).cons S 7 rfl).cons S 8 rfl).cons S 9 rfl).cons S 10 rfl).cons S 17 rfl).cons S 18 rfl).cons S 19 rfl
 refine g_block ?_
 have H := (H.nilO 47 11 Ow.enc).nilO 56 9 Pl.enc
 have SU := (((((((S.nil.cons S 1 rfl).cons S 0 rfl).cons S 6 rfl).cons S 7 rfl).cons S 8 rfl).cons S 9 rfl).cons S 17 rfl).cons S 18 rfl
 refine loopW (X := Nat × Int) SU (fun x => [(10, .int .i64 x.2), (19, .int .i64 (x.1 : Int))]) (fun x w => x.1 ≤ ts.length ∧ ∃ s xs va vb c, PrepI old ts x.1 x.2 s xs ∧ HSat No w0 [OSl 47 va 11 Ow.enc (movedL (ts.take x.1)), OSl 56 vb 9 Pl.enc (xs), MapA b16 (fun n : Int => .int .i64 n) (fun b : Bool => .bool b) (memS (s)) c, Cel b8 70 [va, vb, v2, .slice none 0 0], Cel b6 70 [.slice none 0 0, .slice none 0 0, .slice none 0 0, .slice none 0 0], Sl v3 11 Ow.enc ts, Sl v2 9 Pl.enc next, Sl v1 9 Pl.enc old] w) (fun x => ts.length - x.1) (0, 0) ((S.nil.cons S 19 rfl).cons S 10 rfl) (⟨by simp, [], [], .slice none 0 0, .slice none 0 0, 0, prep_start _ _, by exact H.take [OSl 47 (.slice none 0 0) 11 Ow.enc [], OSl 56 (.slice none 0 0) 9 Pl.enc [], MapA b16 (fun n : Int => .int .i64 n) (fun b : Bool => .bool b) (fun _ => none) 0, Cel b8 70 [.slice none 0 0, .slice none 0 0, v2, .slice none 0 0], Cel b6 70 [.slice none 0 0, .slice none 0 0, .slice none 0 0, .slice none 0 0], Sl v3 11 Ow.enc ts, Sl v2 9 Pl.enc next, Sl v1 9 Pl.enc old]⟩) (fun x a w S hW => ?_)
 simp only [List.cons_append, List.nil_append] at S
 clear H
 obtain ⟨k, e⟩ := x
 obtain ⟨hk, s, xs, va, vb, c, hI, H⟩ := hW
 dsimp only at S H hk hI
 refine g_seq ?_
 refine g_region ?_
 refine gy rfl rfl rfl S (y_bin rfl S rfl rfl rfl) fun a S => ?_
 refine gl_nil ?_
 refine n_then ?_
 refine g_seq ?_
 refine c_if S rfl (fun h1 => ?_) (fun h1 => ?_)
 ·have h1p := h1; try simp only [DL] at h1p
  have hkl : k < ts.length := by omega
  have hok1 := hok _ (List.getElem_mem hkl)
  have hms := moved_step hkl
  have hml := moved_le ts k
  refine g_skip ?_
  refine n_then ?_
  refine g_seq ?_
  refine g_block ?_
  refine g_seq ?_
  refine g_region ?_
  refine gy rfl rfl rfl S (y_iaddrn rfl Try.underlying23 Fsiz47 S H rfl rfl (by first | assumption | omega | (simp only [List.length_append, List.length_take, List.length_drop, List.length_replicate, List.length_set, List.length_map, List.length_cons, List.length_nil]; omega))) fun a S => ?_
  refine gy rfl rfl rfl S (y_loadsa _ rfl S H rfl (by exact Fagg47) (by first | assumption | omega | (simp only [List.length_append, List.length_take, List.length_drop, List.length_replicate, List.length_set, List.length_map, List.length_cons, List.length_nil]; omega))) fun a S => ?_
  refine wl_of (op_alloc (wn rfl) rfl rfl rfl S H Fzer47 fun b12 a w S H => ?_)
  refine wl_of (op_storea (wn rfl) rfl rfl S H rfl rfl (Ow.all hok1) Fsiz47 rfl (cs' := [_, _, _, _, _, _, _, _, _, _, _]) rfl fun a w S H => ?_)
  refine gl_nil ?_
  refine n_then ?_
  refine g_seq ?_
  refine g_region ?_
  refine gy rfl rfl rfl S (y_faddrb rfl Ffo47_0 S rfl) fun a S => ?_
  refine gy rfl rfl rfl S (y_faddrb rfl Ffo41_2 S rfl) fun a S => ?_
  refine gy rfl rfl rfl S (y_load rfl Fsca3 S H rfl rfl) fun a S => ?_
  refine gy rfl rfl rfl S (y_assign rfl S rfl) fun a S => ?_
  refine gl_nil ?_
  refine n_then ?_
  refine g_seq ?_
  refine g_seq ?_
  refine g_region ?_
  refine gy rfl rfl rfl S (y_faddrb rfl Ffo47_4 S rfl) fun a S => ?_
  refine gy rfl rfl rfl S (y_load rfl Fsca3 S H rfl rfl) fun a S => ?_
  refine gy rfl rfl rfl S (y_bin rfl S rfl rfl rfl) fun a S => ?_
  refine gy rfl rfl rfl S (y_move rfl S rfl) fun a S => ?_
  refine' wl_or 2 29 rfl S H rfl rfl rfl rfl rfl rfl rfl (fun _ S => (wn rfl)) (fun h2 kk => ?yh2) (fun a w S H => ?_)
  case yh2 =>
   have h2p := h2; try simp only [DL] at h2p
   refine gz 29 h2 S rfl rfl rfl rfl rfl rfl (y_move rfl S rfl) fun a S => ?_
   refine gz 29 h2 S rfl rfl rfl rfl rfl rfl (y_bin rfl S rfl rfl rfl) fun a S => ?_
   refine gy rfl rfl rfl S (y_or' rfl h2 S rfl rfl) fun a S => ?_
   exact kk _ _ (S.join 3 32 rfl rfl) H
  refine gl_nil ?_
  refine n_then ?_
  refine c_if S rfl (fun h3 => ?_) (fun h3 => ?_)
  ·have h3p := h3; try simp only [DL] at h3p
   have hnm : ¬ movedB ts[k] = true := by unfold movedB; have := h3p; simp only [Bool.and_eq_true, decide_eq_true_eq]; omega
   refine g_exit ?_
   refine x_then (x_eq ?_)
   refine n_then ?_
   refine g_region ?_
   refine gy rfl rfl rfl S (y_add rfl S rfl rfl (by omega)) fun a S => ?_
   refine gy rfl rfl rfl S (y_move rfl S rfl) fun a S => ?_
   refine gl_nil ?_
   refine n_then ?_
   first
   | exact ⟨(k + 1, e), (S.nil.cons S 19 rfl).cons S 10 rfl, (((((((S.nil.cons S 1 rfl).cons S 0 rfl).cons S 6 rfl).cons S 7 rfl).cons S 8 rfl).cons S 9 rfl).cons S 17 rfl).cons S 18 rfl, ⟨by dsimp only; omega, s, xs, va, vb, c, prep_skip hI hkl hnm, by dsimp only; rw [hms, if_neg hnm, List.append_nil]; exact H.take [OSl 47 va 11 Ow.enc (movedL (ts.take k)), OSl 56 vb 9 Pl.enc (xs), MapA b16 (fun n : Int => .int .i64 n) (fun b : Bool => .bool b) (memS (s)) c, Cel b8 70 [va, vb, v2, .slice none 0 0], Cel b6 70 [.slice none 0 0, .slice none 0 0, .slice none 0 0, .slice none 0 0], Sl v3 11 Ow.enc ts, Sl v2 9 Pl.enc next, Sl v1 9 Pl.enc old]⟩, by dsimp only; omega⟩
   | exact ⟨(k + 1, 1), (S.nil.cons S 19 rfl).cons S 10 rfl, (((((((S.nil.cons S 1 rfl).cons S 0 rfl).cons S 6 rfl).cons S 7 rfl).cons S 8 rfl).cons S 9 rfl).cons S 17 rfl).cons S 18 rfl, ⟨by dsimp only; omega, s, xs, u37, vb, c, prep_bad hI hkl hmv hbd, by dsimp only; rw [hms]; exact H.take [OSl 47 u37 11 Ow.enc (movedL (ts.take k) ++ [ts[k]]), OSl 56 vb 9 Pl.enc (xs), MapA b16 (fun n : Int => .int .i64 n) (fun b : Bool => .bool b) (memS (s)) c, Cel b8 70 [u37, vb, v2, .slice none 0 0], Cel b6 70 [.slice none 0 0, .slice none 0 0, .slice none 0 0, .slice none 0 0], Sl v3 11 Ow.enc ts, Sl v2 9 Pl.enc next, Sl v1 9 Pl.enc old]⟩, by dsimp only; omega⟩
   | (dsimp only [List.set, Nat.zero_add, Nat.reduceAdd] at H
      exact ⟨(k + 1, e), (S.nil.cons S 19 rfl).cons S 10 rfl, (((((((S.nil.cons S 1 rfl).cons S 0 rfl).cons S 6 rfl).cons S 7 rfl).cons S 8 rfl).cons S 9 rfl).cons S 17 rfl).cons S 18 rfl, ⟨by dsimp only; omega, (p : Int) :: s, xs ++ [old[p]], u37, u57, (if (memS s (p : Int)).isSome = true then c else c + 1), prep_good hI hkl hmv hpp hpl hgd.2, by dsimp only; rw [hms]; exact H.take [OSl 47 u37 11 Ow.enc (movedL (ts.take k) ++ [ts[k]]), OSl 56 u57 9 Pl.enc (xs ++ [old[p]]), MapA b16 (fun n : Int => .int .i64 n) (fun b : Bool => .bool b) (upd (memS s) (p : Int) true) (if (memS s (p : Int)).isSome = true then c else c + 1), Cel b8 70 [u37, u57, v2, .slice none 0 0], Cel b6 70 [.slice none 0 0, .slice none 0 0, .slice none 0 0, .slice none 0 0], Sl v3 11 Ow.enc ts, Sl v2 9 Pl.enc next, Sl v1 9 Pl.enc old]⟩, by dsimp only; omega⟩)
  ·have h3p := h3; try simp only [DL] at h3p
   have hmv : movedB ts[k] = true := by unfold movedB; have := h3p; simp only [Bool.and_eq_true, decide_eq_true_eq]; omega
   rw [if_pos hmv] at hms
   obtain ⟨p, hpp⟩ : ∃ p : Nat, ts[k].place = p := ⟨ts[k].place.toNat, by have := h3p; omega⟩
   rw [hpp] at S
   refine g_skip ?_
   refine n_then ?_
   refine g_seq ?_
   refine g_region ?_
   refine gy rfl rfl rfl S (y_faddrb rfl Ffo70_0 S rfl) fun a S => ?_
   refine gy rfl rfl rfl S (y_load rfl Fsca23 S H rfl rfl) fun a S => ?_
   refine gy rfl rfl rfl S (y_load0 rfl S H rfl (by exact Fagg47)) fun a S => ?_
   refine wl_of (op_buildSlice (wn rfl) rfl rfl rfl Try.underlying23 Finf47 S H (idx := [0]) rfl rfl rfl (z := [.int .i64 0, .int .i64 0, .int .i64 0, .string ⟨#[]⟩, .slice none 0 0, .string ⟨#[]⟩, .slice none 0 0, .int .i64 0, .slice none 0 0, .int .i64 0, .slice none 0 0]) (by kernel_rfl) (cs := [.int .i64 ts[k].serial, .int .i64 ts[k].show_, .int .i64 ts[k].place, ts[k].first, ts[k].chain, ts[k].person, ts[k].lines, .int .i64 ts[k].total, ts[k].means, .int .i64 ts[k].gone, ts[k].offers]) (by kernel_rfl) fun b36 a w S H => ?_)
   refine wl_of (op_append ([ts[k]]) (wn rfl) rfl rfl rfl Try.underlying23 Finf47 rfl rfl S H rfl rfl rfl rfl (by simp) (by simp [Ow.enc]) (by simp only [List.mem_singleton]; rintro y rfl u hu; obtain ⟨h1, h2, h3, h4, h5, h6⟩ := hok1; simp only [Ow.enc, List.mem_cons, List.not_mem_nil, or_false] at hu; rcases hu with rfl | rfl | rfl | rfl | rfl | rfl | rfl | rfl | rfl | rfl | rfl <;> first | rfl | assumption) (by simp only [List.length_cons, List.length_nil]; omega) (by simp only [List.length_cons, List.length_nil]; omega) fun u37 a w hn37 S H => ?_)
   skip
   refine gy rfl rfl rfl S (y_faddrb rfl Ffo70_0 S rfl) fun a S => ?_
   refine wl_of (op_store (wn rfl) rfl rfl S H rfl rfl (H.sl1 _) Fsiz23 rfl fun a w S H => ?_)
   dsimp only [List.set, Nat.zero_add, Nat.reduceAdd] at H
   refine gl_nil ?_
   refine n_then ?_
   refine g_seq ?_
   refine g_seq ?_
   refine g_region ?_
   refine gy rfl rfl rfl S (y_move rfl S rfl) fun a S => ?_
   refine gy rfl rfl rfl S (y_move rfl S rfl) fun a S => ?_
   refine gy rfl rfl rfl S (y_lens rfl Try.underlying22 S H rfl) fun a S => ?_
   refine gy rfl rfl rfl S (y_bin rfl S rfl rfl rfl) fun a S => ?_
   refine gy rfl rfl rfl S (y_move rfl S rfl) fun a S => ?_
   refine' wl_or 3 43 rfl S H rfl rfl rfl rfl rfl rfl rfl (fun _ S => (wn rfl)) (fun h4 kk => ?yh4) (fun a w S H => ?_)
   case yh4 =>
    have h4p := h4; try simp only [DL] at h4p
    refine gz 43 h4 S rfl rfl rfl rfl rfl rfl (y_move rfl S rfl) fun a S => ?_
    refine gz 43 h4 S rfl rfl rfl rfl rfl rfl (y_move rfl S rfl) fun a S => ?_
    refine gz 43 h4 S rfl rfl rfl rfl rfl rfl (y_lookupE ((p : Int)) (false) rfl Try.underlying75 Finf4 S H rfl (keyOK_int Try.underlying3) (by exact rfl) (by exact rfl) rfl) fun a S => ?_
    refine gy rfl rfl rfl S (y_or' rfl h4 S rfl rfl) fun a S => ?_
    exact kk _ _ (S.join 4 47 rfl rfl) H
   refine gl_nil ?_
   refine n_then ?_
   refine c_if S rfl (fun h5 => ?_) (fun h5 => ?_)
   ·have h5p := h5; try simp only [DL] at h5p
    have hbd : ts[k].place ≥ old.length ∨ ts[k].place ∈ s := by
      have hh := h5
      rw [memS_get] at hh
      simp only [Bool.or_eq_true, decide_eq_true_eq] at hh
      rw [hpp]; exact hh
    refine g_seq ?_
    refine g_region ?_
    refine gy rfl rfl rfl S (y_assign rfl S rfl) fun a S => ?_
    refine gl_nil ?_
    refine n_then ?_
    refine g_exit ?_
    refine x_then (x_eq ?_)
    refine n_then ?_
    refine g_region ?_
    refine gy rfl rfl rfl S (y_add rfl S rfl rfl (by omega)) fun a S => ?_
    refine gy rfl rfl rfl S (y_move rfl S rfl) fun a S => ?_
    refine gl_nil ?_
    refine n_then ?_
    first
    | exact ⟨(k + 1, e), (S.nil.cons S 19 rfl).cons S 10 rfl, (((((((S.nil.cons S 1 rfl).cons S 0 rfl).cons S 6 rfl).cons S 7 rfl).cons S 8 rfl).cons S 9 rfl).cons S 17 rfl).cons S 18 rfl, ⟨by dsimp only; omega, s, xs, va, vb, c, prep_skip hI hkl hnm, by dsimp only; rw [hms, if_neg hnm, List.append_nil]; exact H.take [OSl 47 va 11 Ow.enc (movedL (ts.take k)), OSl 56 vb 9 Pl.enc (xs), MapA b16 (fun n : Int => .int .i64 n) (fun b : Bool => .bool b) (memS (s)) c, Cel b8 70 [va, vb, v2, .slice none 0 0], Cel b6 70 [.slice none 0 0, .slice none 0 0, .slice none 0 0, .slice none 0 0], Sl v3 11 Ow.enc ts, Sl v2 9 Pl.enc next, Sl v1 9 Pl.enc old]⟩, by dsimp only; omega⟩
    | exact ⟨(k + 1, 1), (S.nil.cons S 19 rfl).cons S 10 rfl, (((((((S.nil.cons S 1 rfl).cons S 0 rfl).cons S 6 rfl).cons S 7 rfl).cons S 8 rfl).cons S 9 rfl).cons S 17 rfl).cons S 18 rfl, ⟨by dsimp only; omega, s, xs, u37, vb, c, prep_bad hI hkl hmv hbd, by dsimp only; rw [hms]; exact H.take [OSl 47 u37 11 Ow.enc (movedL (ts.take k) ++ [ts[k]]), OSl 56 vb 9 Pl.enc (xs), MapA b16 (fun n : Int => .int .i64 n) (fun b : Bool => .bool b) (memS (s)) c, Cel b8 70 [u37, vb, v2, .slice none 0 0], Cel b6 70 [.slice none 0 0, .slice none 0 0, .slice none 0 0, .slice none 0 0], Sl v3 11 Ow.enc ts, Sl v2 9 Pl.enc next, Sl v1 9 Pl.enc old]⟩, by dsimp only; omega⟩
    | (dsimp only [List.set, Nat.zero_add, Nat.reduceAdd] at H
       exact ⟨(k + 1, e), (S.nil.cons S 19 rfl).cons S 10 rfl, (((((((S.nil.cons S 1 rfl).cons S 0 rfl).cons S 6 rfl).cons S 7 rfl).cons S 8 rfl).cons S 9 rfl).cons S 17 rfl).cons S 18 rfl, ⟨by dsimp only; omega, (p : Int) :: s, xs ++ [old[p]], u37, u57, (if (memS s (p : Int)).isSome = true then c else c + 1), prep_good hI hkl hmv hpp hpl hgd.2, by dsimp only; rw [hms]; exact H.take [OSl 47 u37 11 Ow.enc (movedL (ts.take k) ++ [ts[k]]), OSl 56 u57 9 Pl.enc (xs ++ [old[p]]), MapA b16 (fun n : Int => .int .i64 n) (fun b : Bool => .bool b) (upd (memS s) (p : Int) true) (if (memS s (p : Int)).isSome = true then c else c + 1), Cel b8 70 [u37, u57, v2, .slice none 0 0], Cel b6 70 [.slice none 0 0, .slice none 0 0, .slice none 0 0, .slice none 0 0], Sl v3 11 Ow.enc ts, Sl v2 9 Pl.enc next, Sl v1 9 Pl.enc old]⟩, by dsimp only; omega⟩)
   ·have h5p := h5; try simp only [DL] at h5p
    have hgd : p < old.length ∧ (p : Int) ∉ s := by
      have hh := h5
      rw [memS_get] at hh
      simp only [Bool.or_eq_false_iff, decide_eq_false_iff_not] at hh
      exact ⟨by omega, hh.2⟩
    have hpl : p < old.length := hgd.1
    refine g_skip ?_
    refine n_then ?_
    refine g_seq ?_
    refine g_region ?_
    refine gy rfl rfl rfl S (y_move rfl S rfl) fun a S => ?_
    refine gy rfl rfl rfl S (y_move rfl S rfl) fun a S => ?_
    refine wl_of (op_mapUpdate ((p : Int)) (true) (wn rfl) rfl rfl Try.underlying75 S H rfl (keyOK_int Try.underlying3) (by exact rfl) (by exact rfl) fun a w S H => ?_)
    refine gl_nil ?_
    refine n_then ?_
    refine region_st (loud := [6, 7, 9]) (tails := [7, 9]) (free := []) [0, 1, 2, 3, 4, 5, 6, 7, 8, 9] [] Fmo (by kernel_rfl) (by kernel_rfl) rfl H ?_
    refine m_w rfl rfl (wn rfl) rfl rfl S (fun w H => y_faddrb rfl Ffo70_1 S rfl) fun a S => ?_
    refine m_w rfl rfl (wn rfl) rfl rfl S (fun w H => y_load rfl Fsca22 S H rfl rfl) fun a S => ?_
    refine m_w rfl rfl (wn rfl) rfl rfl S (fun w H => y_move rfl S rfl) fun a S => ?_
    refine m_w rfl rfl (wn rfl) rfl rfl S (fun w H => y_move rfl S rfl) fun a S => ?_
    refine m_w rfl rfl (wn rfl) rfl rfl S (fun w H => y_iaddrn rfl Try.underlying22 Fsiz56 S H rfl rfl (by first | assumption | omega | (simp only [List.length_append, List.length_take, List.length_drop, List.length_replicate, List.length_set, List.length_map, List.length_cons, List.length_nil]; omega))) fun a S => ?_
    refine m_loadsa _ rfl rfl (wn rfl) rfl rfl S rfl rfl (by exact Fagg56) (by first | assumption | omega | (simp only [List.length_append, List.length_take, List.length_drop, List.length_replicate, List.length_set, List.length_map, List.length_cons, List.length_nil]; omega)) fun a S => ?_
    refine m_l rfl rfl (fun w H => op_buildSlice (wn rfl) rfl rfl rfl Try.underlying22 Finf56 S H (idx := [0]) rfl rfl rfl (z := [.int .i64 0, .int .i64 0, .int .i64 0, .int .i64 0, .int .i64 0, .int .i64 0, .int .i64 0, .int .i64 0, .int .i64 0]) (by kernel_rfl) (cs := [.int .i64 old[p].kind, .int .i64 old[p].level, .int .i64 old[p].block, .int .i64 old[p].row, .int .i64 old[p].seat, .int .i64 old[p].x, .int .i64 old[p].y, .int .i64 old[p].view, .int .i64 old[p].with_]) (by kernel_rfl) fun b56 a w S H => m_next H (List.sublist_cons_self _ _) ?_)
    refine m_l rfl rfl (fun w H => op_append ([old[p]]) (wn rfl) rfl rfl rfl Try.underlying22 Finf56 rfl rfl S H rfl rfl rfl rfl (by simp) (by simp [Pl.enc]) (by simp [Pl.enc, Value.oneCell']) (by have := hI.len; simp only [List.length_cons, List.length_nil]; omega) (by have := hI.len; simp only [List.length_cons, List.length_nil]; omega) fun u57 a w hn57 S H => m_tail H rfl ?_)
    refine m_w rfl rfl (wn rfl) rfl rfl S (fun w H => y_faddrb rfl Ffo70_1 S rfl) fun a S => ?_
    refine m_l rfl rfl (fun w H => op_store (wn rfl) rfl rfl S H rfl rfl (H.sl1 _) Fsiz22 rfl fun a w S H => m_tail H rfl ?_)
    dsimp only [List.set, Nat.zero_add, Nat.reduceAdd] at H
    refine m_nil (fun w H => ?_)
    refine n_block ?_
    refine n_then ?_
    refine g_region ?_
    refine gy rfl rfl rfl S (y_add rfl S rfl rfl (by omega)) fun a S => ?_
    refine gy rfl rfl rfl S (y_move rfl S rfl) fun a S => ?_
    refine gl_nil ?_
    refine n_then ?_
    first
    | exact ⟨(k + 1, e), (S.nil.cons S 19 rfl).cons S 10 rfl, (((((((S.nil.cons S 1 rfl).cons S 0 rfl).cons S 6 rfl).cons S 7 rfl).cons S 8 rfl).cons S 9 rfl).cons S 17 rfl).cons S 18 rfl, ⟨by dsimp only; omega, s, xs, va, vb, c, prep_skip hI hkl hnm, by dsimp only; rw [hms, if_neg hnm, List.append_nil]; exact H.take [OSl 47 va 11 Ow.enc (movedL (ts.take k)), OSl 56 vb 9 Pl.enc (xs), MapA b16 (fun n : Int => .int .i64 n) (fun b : Bool => .bool b) (memS (s)) c, Cel b8 70 [va, vb, v2, .slice none 0 0], Cel b6 70 [.slice none 0 0, .slice none 0 0, .slice none 0 0, .slice none 0 0], Sl v3 11 Ow.enc ts, Sl v2 9 Pl.enc next, Sl v1 9 Pl.enc old]⟩, by dsimp only; omega⟩
    | exact ⟨(k + 1, 1), (S.nil.cons S 19 rfl).cons S 10 rfl, (((((((S.nil.cons S 1 rfl).cons S 0 rfl).cons S 6 rfl).cons S 7 rfl).cons S 8 rfl).cons S 9 rfl).cons S 17 rfl).cons S 18 rfl, ⟨by dsimp only; omega, s, xs, u37, vb, c, prep_bad hI hkl hmv hbd, by dsimp only; rw [hms]; exact H.take [OSl 47 u37 11 Ow.enc (movedL (ts.take k) ++ [ts[k]]), OSl 56 vb 9 Pl.enc (xs), MapA b16 (fun n : Int => .int .i64 n) (fun b : Bool => .bool b) (memS (s)) c, Cel b8 70 [u37, vb, v2, .slice none 0 0], Cel b6 70 [.slice none 0 0, .slice none 0 0, .slice none 0 0, .slice none 0 0], Sl v3 11 Ow.enc ts, Sl v2 9 Pl.enc next, Sl v1 9 Pl.enc old]⟩, by dsimp only; omega⟩
    | (dsimp only [List.set, Nat.zero_add, Nat.reduceAdd] at H
       exact ⟨(k + 1, e), (S.nil.cons S 19 rfl).cons S 10 rfl, (((((((S.nil.cons S 1 rfl).cons S 0 rfl).cons S 6 rfl).cons S 7 rfl).cons S 8 rfl).cons S 9 rfl).cons S 17 rfl).cons S 18 rfl, ⟨by dsimp only; omega, (p : Int) :: s, xs ++ [old[p]], u37, u57, (if (memS s (p : Int)).isSome = true then c else c + 1), prep_good hI hkl hmv hpp hpl hgd.2, by dsimp only; rw [hms]; exact H.take [OSl 47 u37 11 Ow.enc (movedL (ts.take k) ++ [ts[k]]), OSl 56 u57 9 Pl.enc (xs ++ [old[p]]), MapA b16 (fun n : Int => .int .i64 n) (fun b : Bool => .bool b) (upd (memS s) (p : Int) true) (if (memS s (p : Int)).isSome = true then c else c + 1), Cel b8 70 [u37, u57, v2, .slice none 0 0], Cel b6 70 [.slice none 0 0, .slice none 0 0, .slice none 0 0, .slice none 0 0], Sl v3 11 Ow.enc ts, Sl v2 9 Pl.enc next, Sl v1 9 Pl.enc old]⟩, by dsimp only; omega⟩)
 ·have h1p := h1; try simp only [DL] at h1p
  obtain rfl : k = ts.length := by omega
  have hml := moved_le ts ts.length
  rw [List.take_length] at H hml
  have hIt := hI.ok
  have hIb := hI.bad
  rw [List.take_length] at hIt hIb
  refine g_exit ?_
  refine x_then (x_then (x_eq ?_))
  refine n_then ?_
  have S := (((((S.nil.cons S 1 rfl).cons S 0 rfl).cons S 6 rfl).cons S 7 rfl).cons S 8 rfl).cons S 10 rfl
  refine g_seq ?_
  refine g_seq ?_
  refine g_region ?_
  refine gy rfl rfl rfl S (y_move rfl S rfl) fun a S => ?_
  refine gy rfl rfl rfl S (y_lens rfl Try.underlying22 S H rfl) fun a S => ?_
  refine gy rfl rfl rfl S (y_bin rfl S rfl rfl rfl) fun a S => ?_
  refine gy rfl rfl rfl S (y_move rfl S rfl) fun a S => ?_
  refine' wl_or 3 63 rfl S H rfl rfl rfl rfl rfl rfl rfl (fun _ S => (wn rfl)) (fun h6 kk => ?yh6) (fun a w S H => ?_)
  case yh6 =>
   have h6p := h6; try simp only [DL] at h6p
   refine gz 63 h6 S rfl rfl rfl rfl rfl rfl (y_move rfl S rfl) fun a S => ?_
   refine gz 63 h6 S rfl rfl rfl rfl rfl rfl (y_lens rfl Try.underlying22 S H rfl) fun a S => ?_
   refine gz 63 h6 S rfl rfl rfl rfl rfl rfl (y_bin rfl S rfl rfl rfl) fun a S => ?_
   refine gy rfl rfl rfl S (y_or' rfl h6 S rfl rfl) fun a S => ?_
   exact kk _ _ (S.join 4 67 rfl rfl) H
  refine gy rfl rfl rfl S (y_move rfl S rfl) fun a S => ?_
  refine' wl_or 4 68 rfl S H rfl rfl rfl rfl rfl rfl rfl (fun _ S => (wn rfl)) (fun h7 kk => ?yh7) (fun a w S H => ?_)
  case yh7 =>
   have h7p := h7; try simp only [DL] at h7p
   refine gz 68 h7 S rfl rfl rfl rfl rfl rfl (y_faddrb rfl Ffo70_0 S rfl) fun a S => ?_
   refine gz 68 h7 S rfl rfl rfl rfl rfl rfl (y_load rfl Fsca23 S H rfl rfl) fun a S => ?_
   refine gz 68 h7 S rfl rfl rfl rfl rfl rfl (y_lens rfl Try.underlying23 S H rfl) fun a S => ?_
   refine gz 68 h7 S rfl rfl rfl rfl rfl rfl (y_bin rfl S rfl rfl rfl) fun a S => ?_
   refine gy rfl rfl rfl S (y_or' rfl h7 S rfl rfl) fun a S => ?_
   exact kk _ _ (S.join 5 73 rfl rfl) H
  refine gl_nil ?_
  refine n_then ?_
  have S := (((((S.nil.cons S 1 rfl).cons S 6 rfl).cons S 7 rfl).cons S 8 rfl).cons S 10 rfl).cons S 73 rfl
  refine c_if S rfl (fun h8 => ?_) (fun h8 => ?_)
  ·have h8p := h8; try simp only [DL] at h8p
   have hbig : old.length > 4000 ∨ next.length > 4000 ∨ (movedL ts).length > 4000 := by have := h8p; omega
   refine g_seq ?_
   refine g_region ?_
   refine gy rfl rfl rfl S (y_buildf rfl Fbld70 S rfl (idx := []) rfl (cs := [_, _, _, _]) rfl) fun a S => ?_
   refine wl_of (op_storea (wn rfl) rfl rfl S H rfl rfl (by simp only [List.all_cons, List.all_nil, H.sl1 va, H.sl1 vb, H.sl1 v2, Bool.true_and, Bool.and_true]; first | rfl | exact H.sl1 u80) Fsiz70 rfl (cs' := [_, _, _, _]) rfl fun a w S H => ?_)
   refine gy rfl rfl rfl S (y_assign rfl S rfl) fun a S => ?_
   refine gl_nil ?_
   refine n_then ?_
   refine g_ret ?_
   refine r_then (ret2ct rfl S H rfl rfl (by exact Fagg70) ?_)
   exact ⟨_, _, _, _, by rw [errW_3 hbig], rfl, H.toExt, fun h => by rw [errW_3 hbig] at h; cases h⟩
  ·have h8p := h8; try simp only [DL] at h8p
   have hsm : ¬ (old.length > 4000 ∨ next.length > 4000 ∨ (movedL ts).length > 4000) := by have := h8p; omega
   refine g_skip ?_
   refine n_then ?_
   refine g_seq ?_
   refine g_seq ?_
   refine g_region ?_
   refine gy rfl rfl rfl S (y_move rfl S rfl) fun a S => ?_
   refine gy rfl rfl rfl S (y_bin rfl S rfl rfl rfl) fun a S => ?_
   refine gl_nil ?_
   refine n_then ?_
   refine c_if S rfl (fun h9 => ?_) (fun h9 => ?_)
   ·have h9p := h9; try simp only [DL] at h9p
    have he0 : e = 0 := h9p
    obtain ⟨hk1, hk2, _⟩ := hIt he0
    have hxl : xs.length ≤ 4000 := by rw [hk2, old_len]; omega
    refine g_region ?_
    refine gy rfl rfl rfl S (y_faddrb rfl Ffo70_1 S rfl) fun a S => ?_
    refine gy rfl rfl rfl S (y_load rfl Fsca22 S H rfl rfl) fun a S => ?_
    refine gy rfl rfl rfl S (y_move rfl S rfl) fun a S => ?_
    refine wl_of (op_call (wn rfl) rfl rfl S (co_func rfl Try.call27 S rfl) (edges_spec vb v2 xs next _ (H.sl vb) (H.sl v2) (by omega) (by omega)) fun u80 w hc a S => ?_)
    obtain ⟨ps, hps, H1⟩ := hc
    have H := H.call2 H1 rfl rfl
    refine gy rfl rfl rfl S (y_faddrb rfl Ffo70_3 S rfl) fun a S => ?_
    refine wl_of (op_store (wn rfl) rfl rfl S H rfl rfl (H.sl1 _) Fsiz66 rfl fun a w S H => ?_)
    dsimp only [List.set, Nat.zero_add, Nat.reduceAdd] at H
    refine gl_nil ?_
    refine n_then ?_
    have S := (((S.nil.cons S 6 rfl).cons S 7 rfl).cons S 8 rfl).cons S 10 rfl
    refine g_seq ?_
    refine g_region ?_
    refine gy rfl rfl rfl S (y_load0 rfl S H rfl (by exact Fagg70)) fun a S => ?_
    refine gy rfl rfl rfl S (y_move rfl S rfl) fun a S => ?_
    refine wl_of (op_storea (wn rfl) rfl rfl S H rfl rfl (by simp only [List.all_cons, List.all_nil, H.sl1 va, H.sl1 vb, H.sl1 v2, Bool.true_and, Bool.and_true]; first | rfl | exact H.sl1 u80) Fsiz70 rfl (cs' := [_, _, _, _]) rfl fun a w S H => ?_)
    refine gy rfl rfl rfl S (y_assign rfl S rfl) fun a S => ?_
    refine gl_nil ?_
    refine n_then ?_
    have S := (S.nil.cons S 6 rfl).cons S 7 rfl
    refine g_ret ?_
    refine ret2ct rfl S H rfl rfl (by exact Fagg70) ?_
    subst hk2
    exact ⟨va, vb, v2, u80, by rw [errW_0 hsm hk1, he0], (by simp only [List.all_cons, List.all_nil, H.sl1 va, H.sl1 vb, H.sl1 v2, H.sl1 u80, Bool.true_and]), H.toExt, fun _ => ⟨rfl, ps, hps, H.take [OSl 47 va 11 Ow.enc (movedL ts), OSl 56 vb 9 Pl.enc (oldL old (movedL ts)), OSl 25 u80 1 encRow ps, RowsA 3 1 encI ps]⟩⟩
   ·have h9p := h9; try simp only [DL] at h9p
    have he1 : e = 1 := by rcases hI.e01 with h | h; exact absurd h h9p; exact h
    refine g_skip ?_
    refine n_then ?_
    have S := (((S.nil.cons S 6 rfl).cons S 7 rfl).cons S 8 rfl).cons S 10 rfl
    refine g_seq ?_
    refine g_region ?_
    refine gy rfl rfl rfl S (y_load0 rfl S H rfl (by exact Fagg70)) fun a S => ?_
    refine gy rfl rfl rfl S (y_move rfl S rfl) fun a S => ?_
    refine wl_of (op_storea (wn rfl) rfl rfl S H rfl rfl (by simp only [List.all_cons, List.all_nil, H.sl1 va, H.sl1 vb, H.sl1 v2, Bool.true_and, Bool.and_true]; first | rfl | exact H.sl1 u80) Fsiz70 rfl (cs' := [_, _, _, _]) rfl fun a w S H => ?_)
    refine gy rfl rfl rfl S (y_assign rfl S rfl) fun a S => ?_
    refine gl_nil ?_
    refine n_then ?_
    have S := (S.nil.cons S 6 rfl).cons S 7 rfl
    refine g_ret ?_
    refine ret2ct rfl S H rfl rfl (by exact Fagg70) ?_
    exact ⟨va, vb, v2, _, by rw [errW_1 hsm (hIb he1), he1], (by simp only [List.all_cons, List.all_nil, H.sl1 va, H.sl1 vb, H.sl1 v2, Bool.true_and, Bool.and_true]; rfl), H.toExt, fun h => by rw [errW_1 hsm (hIb he1)] at h; cases h⟩

end Go.Proofs.Ytenaoaegichecaa
