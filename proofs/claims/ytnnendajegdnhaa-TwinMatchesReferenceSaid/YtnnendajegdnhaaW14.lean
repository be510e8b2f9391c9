/- The walks. No condition. -/
import Derived.Test.YtnnendajegdnhaaChecked
import Derived.Test.YtnnendajegdnhaaGwBits
import Derived.Test.YtnnendajegdnhaaFacts
import Derived.Test.YtnnendajegdnhaaPlain
import Derived.Test.YtnnendajegdnhaaPlainV
import Derived.Test.YtnnendajegdnhaaW10
import Derived.Test.YtnnendajegdnhaaPlainW
namespace Go.Proofs.Ytnnendajegdnhaa
open Go Go.Gw
set_option linter.unusedVariables false
set_option linter.unusedSimpArgs false
set_option maxHeartbeats 2000000 in
/-- foyer/foyerref41.Offers -/
theorem roffers_spec (p : Pl) (v2 vt : Value) (next : List Pl) (tk : List Int) (w0 : World) (hv2 : IsSl w0 v2 9 Pl.enc next) (hvt : IsSl w0 vt 1 encI tk) (hl1 : next.length ≤ 100000) :
    Ret Try.prog 54 #[.agg (Pl.enc p).toArray, v2, vt] w0 (fun u w => HSat No w0 [OSl 3 u 1 encI (offL p.kind next tk)] w) := by
 refine ret_of_wp (nt := 39) Try.func54 rfl rfl rfl (fl := [(0, .agg (Pl.enc p).toArray), (1, v2), (2, vt)]) rfl (fun a S => ?_)
 have H := HSat.start w0
 have H := H.ro0 (Sl v2 9 Pl.enc next) rfl (hv2)
 have H := H.ro0 (Sl vt 1 encI tk) rfl (hvt)
 have hln := hv2.len
 refine gsr ?_
 refine wl_of (op_boxa (wn rfl) rfl rfl rfl S H rfl fun b3 a w S H => ?_)
 refine ga S fun a S => ?_
 refine gnt ?_
 refine gsr ?_
 refine ga S fun a S => ?_
 refine gnt ?_
 refine g_seq ?_
 refine gsr ?_
 refine ga S fun a S => ?_
 refine gnt ?_
 refine g_block ?_
 have H := H.nilO 3 1 encI
 have SU := (((S.nil.cons S 2 rfl).cons S 1 rfl).cons S 3 rfl).cons S 6 rfl
 refine loopW (X := Nat × Value) SU (fun x => [(7, x.2), (8, .int .i64 (x.1 : Int))]) (fun x w => x.1 ≤ next.length ∧ HSat No w0 [OSl 3 x.2 1 encI (offK p.kind next tk x.1), Cel b3 85 (Pl.enc p), Sl vt 1 encI tk, Sl v2 9 Pl.enc next] w) (fun x => next.length - x.1) (0, .slice none 0 0) ((S.nil.cons S 8 rfl).cons S 7 rfl) (⟨by simp, H⟩) (fun x a w S hW => ?_)
 simp only [List.cons_append, List.nil_append] at S
 clear H
 obtain ⟨k, vq⟩ := x
 obtain ⟨hk, H⟩ := hW
 dsimp only at S H hk
 refine g_seq ?_
 refine gsr ?_
 refine gm S fun a S => ?_
 refine gm S fun a S => ?_
 refine gy rfl rfl rfl S (y_lens rfl Try.underlying22 S H rfl) fun a S => ?_
 refine gy rfl rfl rfl S (y_bin rfl S rfl rfl rfl) fun a S => ?_
 refine gm S fun a S => ?_
 refine' wl_and 3 13 rfl S H rfl rfl rfl rfl rfl rfl rfl (fun _ S => (wn rfl)) (fun h1 kk => ?yh1) (fun a w S H => ?_)
 case yh1 =>
  have h1p := h1; try simp only [DL] at h1p
  refine gz 13 h1 S rfl rfl rfl rfl rfl rfl (y_move rfl S rfl) fun a S => ?_
  refine gz 13 h1 S rfl rfl rfl rfl rfl rfl (y_lens rfl Try.underlying39 S H rfl) fun a S => ?_
  refine gz 13 h1 S rfl rfl rfl rfl rfl rfl (y_bin rfl S rfl rfl rfl) fun a S => ?_
  refine gy rfl rfl rfl S (y_and' rfl h1 S rfl rfl) fun a S => ?_
  exact kk _ _ (S.join 4 17 rfl rfl) H
 refine gnt ?_
 have S := ((((((S.nil.cons S 2 rfl).cons S 1 rfl).cons S 3 rfl).cons S 6 rfl).cons S 8 rfl).cons S 7 rfl).cons S 17 rfl
 refine c_if S rfl (fun h2 => ?_) (fun h2 => ?_)
 ·have h2p := h2; try simp only [DL] at h2p
  have hc1 := h2
  simp only [Bool.and_eq_true, decide_eq_true_eq] at hc1
  have hkl : k < next.length := by omega
  have hos := offK_step (kind := p.kind) (taken := tk) hkl
  have hol := offK_len p.kind next tk k
  refine g_skip ?_
  refine n_then ?_
  refine g_seq ?_
  refine g_block ?_
  refine g_seq ?_
  refine region_st (loud := []) (tails := []) (free := []) [0, 1, 2, 3, 4, 5, 6, 7, 8, 9, 10, 11, 12, 13] [] Fmo (by kernel_rfl) (by kernel_rfl) rfl H ?_
  refine m_w rfl rfl (wn rfl) rfl rfl S (fun w H => y_move rfl S rfl) fun a S => ?_
  refine m_w rfl rfl (wn rfl) rfl rfl S (fun w H => y_move rfl S rfl) fun a S => ?_
  refine m_w rfl rfl (wn rfl) rfl rfl S (fun w H => y_iaddrn rfl Try.underlying22 Fsiz85 S H rfl rfl (by first | assumption | omega | (simp only [LL]; omega))) fun a S => ?_
  refine m_w rfl rfl (wn rfl) rfl rfl S (fun w H => y_faddr rfl Ffo85_0 S rfl) fun a S => ?_
  refine m_loadsf _ rfl rfl (wn rfl) rfl rfl S rfl Fsca3 rfl (by first | assumption | omega | (simp only [LL]; omega)) rfl fun a S => ?_
  refine m_w rfl rfl (wn rfl) rfl rfl S (fun w H => y_faddrb rfl Ffo85_0 S rfl) fun a S => ?_
  refine m_w rfl rfl (wn rfl) rfl rfl S (fun w H => y_load rfl Fsca3 S H rfl rfl) fun a S => ?_
  refine m_w rfl rfl (wn rfl) rfl rfl S (fun w H => y_bin rfl S rfl rfl rfl) fun a S => ?_
  refine m_w rfl rfl (wn rfl) rfl rfl S (fun w H => y_move rfl S rfl) fun a S => ?_
  refine' m_andq [9, 10, 11, 12] 28 S rfl rfl rfl rfl rfl rfl rfl rfl rfl (fun _ S => (wn rfl)) (fun h3 kk => ?yh3) (fun a S => ?_)
  case yh3 =>
   have h3p := h3; try simp only [DL] at h3p
   refine m_w rfl rfl (wg' 28 rfl rfl S rfl h3 rfl) rfl rfl S (fun w H => y_move rfl S rfl) fun a S => ?_
   refine m_w rfl rfl (wg' 28 rfl rfl S rfl h3 rfl) rfl rfl S (fun w H => y_move rfl S rfl) fun a S => ?_
   refine m_c rfl rfl (wg' 28 rfl rfl S rfl h3 rfl) rfl rfl S (fun w => co_func rfl Try.call70 S rfl) (fun w H => in_spec vt tk k _ (H.sl vt)) fun a S => ?_
   refine m_w rfl rfl (wg' 28 rfl rfl S rfl h3 rfl) rfl rfl S (fun w H => y_not rfl S rfl) fun a S => ?_
   refine m_w rfl rfl (wn rfl) rfl rfl S (fun w H => y_and' rfl h3 S rfl rfl) fun a S => ?_
   exact kk _ (S.join 5 33 rfl rfl)
  refine m_nil (fun w H => ?_)
  refine n_then ?_
  have S := ((((((S.nil.cons S 2 rfl).cons S 1 rfl).cons S 3 rfl).cons S 6 rfl).cons S 8 rfl).cons S 7 rfl).cons S 33 rfl
  refine c_if S rfl (fun h4 => ?_) (fun h4 => ?_)
  ·have h4p := h4; try simp only [DL] at h4p
   have hc : (offK p.kind next tk k).length < 5 ∧ next[k].kind = p.kind ∧ (k : Int) ∉ tk := by
     have hh := h4
     simp only [Bool.and_eq_true, beq_iff_eq, Bool.not_eq_true', decide_eq_false_iff_not] at hh
     exact ⟨by omega, hh.1, hh.2⟩
   rw [if_pos hc] at hos
   refine g_region ?_
   refine gm S fun a S => ?_
   refine gm S fun a S => ?_
   refine wl_of (op_buildSlice (wn rfl) rfl rfl rfl Try.underlying39 Finf3 S H (idx := [0]) rfl rfl rfl (z := [.int .i64 0]) (by kernel_rfl) (cs := [_]) rfl fun b36 a w S H => ?_)
   refine wl_of (op_append ([(k : Int)]) (wn rfl) rfl rfl rfl Try.underlying39 Finf3 rfl rfl S H rfl rfl rfl rfl (by simp) (by simp [encI]) (by simp [encI, Value.oneCell']) (by simp only [List.length_cons, List.length_nil]; omega) (by simp only [List.length_cons, List.length_nil]; omega) fun u37 a w hn37 S H => ?_)
   refine ga S fun a S => ?_
   refine gl_nil ?_
   refine n_block ?_
   refine n_then ?_
   have S := (((((S.nil.cons S 2 rfl).cons S 1 rfl).cons S 3 rfl).cons S 6 rfl).cons S 8 rfl).cons S 7 rfl
   refine g_region ?_
   refine gm S fun a S => ?_
   refine gy rfl rfl rfl S (y_add rfl S rfl rfl (by omega)) fun a S => ?_
   refine ga S fun a S => ?_
   refine gnt ?_
   first
   | exact ⟨(k + 1, u37), (S.nil.cons S 8 rfl).cons S 7 rfl, (((S.nil.cons S 2 rfl).cons S 1 rfl).cons S 3 rfl).cons S 6 rfl, ⟨by dsimp only; omega, by dsimp only; rw [hos]; exact H.take [OSl 3 u37 1 encI (offK p.kind next tk k ++ [(k : Int)]), Cel b3 85 (Pl.enc p), Sl vt 1 encI tk, Sl v2 9 Pl.enc next]⟩, by dsimp only; omega⟩
   | exact ⟨(k + 1, vq), (S.nil.cons S 8 rfl).cons S 7 rfl, (((S.nil.cons S 2 rfl).cons S 1 rfl).cons S 3 rfl).cons S 6 rfl, ⟨by dsimp only; omega, by dsimp only; rw [hos]; exact H.take [OSl 3 vq 1 encI (offK p.kind next tk k), Cel b3 85 (Pl.enc p), Sl vt 1 encI tk, Sl v2 9 Pl.enc next]⟩, by dsimp only; omega⟩
  ·have h4p := h4; try simp only [DL] at h4p
   have hc : ¬ ((offK p.kind next tk k).length < 5 ∧ next[k].kind = p.kind ∧ (k : Int) ∉ tk) := by
     intro hc
     have hh := h4
     rw [beq_iff_eq.2 hc.2.1, decide_eq_false hc.2.2] at hh
     cases hh
   rw [if_neg hc] at hos
   refine g_skip ?_
   refine n_block ?_
   refine n_then ?_
   refine g_region ?_
   refine gm S fun a S => ?_
   refine gy rfl rfl rfl S (y_add rfl S rfl rfl (by omega)) fun a S => ?_
   refine ga S fun a S => ?_
   refine gnt ?_
   first
   | exact ⟨(k + 1, u37), (S.nil.cons S 8 rfl).cons S 7 rfl, (((S.nil.cons S 2 rfl).cons S 1 rfl).cons S 3 rfl).cons S 6 rfl, ⟨by dsimp only; omega, by dsimp only; rw [hos]; exact H.take [OSl 3 u37 1 encI (offK p.kind next tk k ++ [(k : Int)]), Cel b3 85 (Pl.enc p), Sl vt 1 encI tk, Sl v2 9 Pl.enc next]⟩, by dsimp only; omega⟩
   | exact ⟨(k + 1, vq), (S.nil.cons S 8 rfl).cons S 7 rfl, (((S.nil.cons S 2 rfl).cons S 1 rfl).cons S 3 rfl).cons S 6 rfl, ⟨by dsimp only; omega, by dsimp only; rw [hos]; exact H.take [OSl 3 vq 1 encI (offK p.kind next tk k), Cel b3 85 (Pl.enc p), Sl vt 1 encI tk, Sl v2 9 Pl.enc next]⟩, by dsimp only; omega⟩
 ·have h2p := h2; try simp only [DL] at h2p
  have hc1 := h2
  simp only [Bool.and_eq_false_iff, decide_eq_false_iff_not] at hc1
  have hol := offK_len p.kind next tk k
  have hen : offK p.kind next tk k = offL p.kind next tk := by
    unfold offL
    by_cases e : k = next.length
    · rw [e]
    · exact (offK_full (by omega) next.length (by omega)).symm
  refine g_exit ?_
  refine x_then (x_then (x_eq ?_))
  refine n_then ?_
  have S := (S.nil.cons S 6 rfl).cons S 7 rfl
  refine gsr ?_
  refine gm S fun a S => ?_
  refine ga S fun a S => ?_
  refine gnt ?_
  refine g_ret ?_
  refine ret1 rfl S rfl ?_
  rw [← hen]
  exact H.take [OSl 3 vq 1 encI (offK p.kind next tk k)]
/-- foyer/foyerref41.Plan -/
theorem rplan_err (v1 v2 : Value) (old next : List Pl) (v3 : Value) (ts : List Ow) (w0 : World) (hv1 : IsSl w0 v1 9 Pl.enc old) (hv2 : IsSl w0 v2 9 Pl.enc next) (hv3 : IsSl w0 v3 11 Ow.enc ts) (hok : ∀ o ∈ ts, o.ok) (hl1 : ts.length ≤ 100000) (herr : errW old.length next.length (movedL ts) ≠ 0) :
    Ret Try.prog 30 #[v1, v2, v3] w0 (fun u w => u = .tuple #[.agg #[.slice none 0 0, .slice none 0 0, .slice none 0 0], .int .i64 (errW old.length next.length (movedL ts))] ∧ Ext w0 w) := by
 refine ret_of_wp (nt := 79) Try.func30 rfl rfl rfl (fl := [(0, v1), (1, v2), (2, v3)]) rfl (fun a S => ?_)
 have H := HSat.start w0
 have H := H.ro0 (Sl v1 9 Pl.enc old) rfl (hv1)
 have H := H.ro0 (Sl v2 9 Pl.enc next) rfl (hv2)
 have H := H.ro0 (Sl v3 11 Ow.enc ts) rfl (hv3)
 have hll1 := hv1.len
 have hl2 := hv2.len
 have hl3 := hv3.len
 refine gsr ?_
 refine wl_of (op_alloc (wn rfl) rfl rfl rfl S H Fzer43 fun b6 a w S H => ?_)
 refine ga S fun a S => ?_
 refine gnt ?_
 refine gsr ?_
 refine gm S fun a S => ?_
 refine wl_of (op_call (wn rfl) rfl rfl S (co_func rfl Try.call41 S rfl) (moved_spec v3 ts _ (H.sl v3) hok hl1) fun u15 w hc a S => ?_)
 have H1 := hc
 have H := H.call1 H1 rfl
 refine ga S fun a S => ?_
 refine gnt ?_
 refine gsr ?_
 refine gm S fun a S => ?_
 refine gm S fun a S => ?_
 refine gm S fun a S => ?_
 refine wl_of (op_call (wn rfl) rfl rfl S (co_func rfl Try.call50 S rfl) (rright_spec v1 v2 old next u15 (movedL ts) _ (H.sl v1) (H.sl v2) (H.sl u15) (fun o ho => (moved_place ho).1)) fun v w hc a S => ?_)
 obtain ⟨rfl, he⟩ := hc
 have H := H.ext he
 refine ga S fun a S => ?_
 refine gnt ?_
 have S := (((((S.nil.cons S 1 rfl).cons S 0 rfl).cons S 6 rfl).cons S 7 rfl).cons S 8 rfl).cons S 9 rfl
 refine g_seq ?_
 refine gsr ?_
 refine gm S fun a S => ?_
 refine gy rfl rfl rfl S (y_bin rfl S rfl rfl rfl) fun a S => ?_
 refine gnt ?_
 refine c_if S rfl (fun h1 => ?_) (fun h1 => ?_)
 ·have h1p := h1; try simp only [DL] at h1p
  refine gsr ?_
  refine gy rfl rfl rfl S (y_buildf rfl Fbld43 S rfl (idx := []) rfl (cs := [_, _, _]) rfl) fun a S => ?_
  refine gm S fun a S => ?_
  refine wl_of (op_storea (wn rfl) rfl rfl S H rfl rfl rfl Fsiz43 rfl (cs' := [_, _, _]) rfl fun a w S H => ?_)
  refine ga S fun a S => ?_
  refine gnt ?_
  have S := ((((S.nil.cons S 1 rfl).cons S 0 rfl).cons S 6 rfl).cons S 8 rfl).cons S 7 rfl
  refine g_ret ?_
  refine r_then (ret2ct rfl S H rfl rfl (by exact Fagg43) ?_)
  exact ⟨rfl, H.toExt⟩
 ·have h1p := h1; try simp only [DL] at h1p
  all_goals (
    exact absurd h1p herr)
set_option maxHeartbeats 4000000 in
/-- foyer/foyerref41.Plan -/
theorem rplan_ok (v1 v2 : Value) (old next : List Pl) (v3 : Value) (ts : List Ow) (w0 : World) (hv1 : IsSl w0 v1 9 Pl.enc old) (hv2 : IsSl w0 v2 9 Pl.enc next) (hv3 : IsSl w0 v3 11 Ow.enc ts) (hok : ∀ o ∈ ts, o.ok) (hl1 : ts.length ≤ 100000) (herr : errW old.length next.length (movedL ts) = 0) :
    Ret Try.prog 30 #[v1, v2, v3] w0 (fun u w => ∃ mv vl vr, ∃ ms : List Mv, u = .tuple #[.agg #[mv, vl, vr], .int .i64 0] ∧ ms.map Mv.say = movesL (movedL ts) (oldL old (movedL ts)) next (plL (oldL old (movedL ts)) next) ∧ HSat No w0 [OSl 91 mv 3 Mv.enc ms, RowsA 3 1 encI (rowsOf ms), OSl 3 vl 1 encI (clL (oldL old (movedL ts)) next), OSl 3 vr 1 encI (crL (oldL old (movedL ts)) next)] w) := by
 refine ret_of_wp (nt := 79) Try.func30 rfl rfl rfl (fl := [(0, v1), (1, v2), (2, v3)]) rfl (fun a S => ?_)
 have H := HSat.start w0
 have H := H.ro0 (Sl v1 9 Pl.enc old) rfl (hv1)
 have H := H.ro0 (Sl v2 9 Pl.enc next) rfl (hv2)
 have H := H.ro0 (Sl v3 11 Ow.enc ts) rfl (hv3)
 have hll1 := hv1.len
 have hl2 := hv2.len
 have hl3 := hv3.len
 refine gsr ?_
 refine wl_of (op_alloc (wn rfl) rfl rfl rfl S H Fzer43 fun b6 a w S H => ?_)
 refine ga S fun a S => ?_
 refine gnt ?_
 refine gsr ?_
 refine gm S fun a S => ?_
 refine wl_of (op_call (wn rfl) rfl rfl S (co_func rfl Try.call41 S rfl) (moved_spec v3 ts _ (H.sl v3) hok hl1) fun u15 w hc a S => ?_)
 have H1 := hc
 have H := H.call1 H1 rfl
 refine ga S fun a S => ?_
 refine gnt ?_
 refine gsr ?_
 refine gm S fun a S => ?_
 refine gm S fun a S => ?_
 refine gm S fun a S => ?_
 refine wl_of (op_call (wn rfl) rfl rfl S (co_func rfl Try.call50 S rfl) (rright_spec v1 v2 old next u15 (movedL ts) _ (H.sl v1) (H.sl v2) (H.sl u15) (fun o ho => (moved_place ho).1)) fun v w hc a S => ?_)
 obtain ⟨rfl, he⟩ := hc
 have H := H.ext he
 have hpo := errW_ok herr
 have hto := old_len old (movedL ts)
 have hplc : ∀ o ∈ movedL ts, 0 ≤ o.place ∧ o.place < old.length := fun o ho => ⟨(moved_place ho).1, by obtain ⟨j, hj, rfl⟩ := List.getElem_of_mem ho; exact (hpo.2.2.2 j hj).1⟩
 have hin := pairP_own (olds := (oldL old (movedL ts))) (next := next) (by omega) (by omega)
 have hpl : (plL (oldL old (movedL ts)) next).length = (movedL ts).length := by have := hin.wf.lg; rw [edges_len, hto] at this; exact this
 rw [herr] at S
 refine ga S fun a S => ?_
 refine gnt ?_
 have S := (((((S.nil.cons S 1 rfl).cons S 0 rfl).cons S 6 rfl).cons S 7 rfl).cons S 8 rfl).cons S 9 rfl
 refine g_seq ?_
 refine gsr ?_
 refine gm S fun a S => ?_
 refine gy rfl rfl rfl S (y_bin rfl S rfl rfl rfl) fun a S => ?_
 refine gnt ?_
 refine c_if S rfl (fun h1 => ?_) (fun h1 => ?_)
 ·have h1p := h1; try simp only [DL] at h1p
  all_goals (
    exact absurd rfl h1p)
 ·have h1p := h1; try simp only [DL] at h1p
  refine g_skip ?_
  refine n_then ?_
  refine gsr ?_
  refine gm S fun a S => ?_
  refine gm S fun a S => ?_
  refine gm S fun a S => ?_
  refine wl_of (op_call (wn rfl) rfl rfl S (co_func rfl Try.call51 S rfl) (rmatch_spec v1 v2 old next u15 (movedL ts) _ (H.sl v1) (H.sl v2) (H.sl u15) hplc (by omega) (by omega)) fun u27 w hc a S => ?_)
  have H1 := hc
  have H := H.call1 H1 rfl
  refine ga S fun a S => ?_
  refine gnt ?_
  have S := (((((S.nil.cons S 1 rfl).cons S 0 rfl).cons S 6 rfl).cons S 7 rfl).cons S 8 rfl).cons S 10 rfl
  refine gsr ?_
  refine gm S fun a S => ?_
  refine gm S fun a S => ?_
  refine gm S fun a S => ?_
  refine wl_of (op_call (wn rfl) rfl rfl S (co_func rfl Try.call53 S rfl) (accepted_spec v1 v2 old next u15 (movedL ts) _ (H.sl v1) (H.sl v2) (H.sl u15) hplc (by omega) (by omega)) fun u31 w hc a S => ?_)
  obtain ⟨ps, hps, H1⟩ := hc
  have H := H.call2 H1 rfl rfl
  have hps : gr ps = edgesL (oldL old (movedL ts)) next := hps
  have hpl0 : ps.length = (oldL old (movedL ts)).length := by have := congrArg List.length hps; rw [gr_len, edges_len] at this; exact this
  have hvg0 := edges_valid (olds := (oldL old (movedL ts))) (next := next) (by omega) (by omega)
  refine gm S fun a S => ?_
  refine gm S fun a S => ?_
  refine gy rfl rfl rfl S (y_lens rfl Try.underlying22 S H rfl) fun a S => ?_
  refine wl_of (op_call (wn rfl) rfl rfl S (co_func rfl Try.call52 S rfl) (rcover_spec u31 u27 ps (pairP (oldL old (movedL ts)) next).1 (plL (oldL old (movedL ts)) next) next.length _ (H.sl u31) (H.rws 3 ps) (H.sl u27) (by rw [hps]; exact hvg0) (by omega) hin.low (fun j hj => (validG_parts hvg0).2.2.2 _ _ (hin.conv.got j hj).1 |>.2) (by rw [hps]; exact fun n => (hin.wf.own n).2) (fun j hj => (hin.conv.got j hj).2) (fun n hn => hin.conv.own n (by omega) hn)) fun v w hc a S => ?_)
  obtain ⟨vl, vr, s, rfl, hdn, H1⟩ := hc
  rw [hps, hpl0] at H1
  rw [hps] at hdn
  obtain ⟨hcc1, hcc2⟩ := cover_cl (by omega) (by omega) hdn
  rw [hcc1, hcc2] at H1
  have H := H.call2 H1 rfl rfl
  refine gy rfl rfl rfl S (y_buildf rfl Fbld43 S rfl (idx := [1]) rfl (cs := [.slice none 0 0, vl, vr]) (by kernel_rfl)) fun a S => ?_
  refine wl_of (op_alloc (wn rfl) rfl rfl rfl S H Fzer43 fun b11 a w S H => ?_)
  refine wl_of (op_storea (wn rfl) rfl rfl S H rfl rfl (by simp only [List.all_cons, List.all_nil, H.sl1 vl, H.sl1 vr, Bool.true_and, Bool.and_true]; rfl) Fsiz43 rfl (cs' := [_, _, _]) rfl fun a w S H => ?_)
  refine gnt ?_
  have S := ((((((S.nil.cons S 1 rfl).cons S 0 rfl).cons S 6 rfl).cons S 7 rfl).cons S 8 rfl).cons S 10 rfl).cons S 11 rfl
  refine g_seq ?_
  refine gsr ?_
  refine ga S fun a S => ?_
  refine gnt ?_
  refine g_block ?_
  have H := (H.nilO 91 3 Mv.enc).rowsZ 3 1 encI
  have SU := ((((((S.nil.cons S 1 rfl).cons S 0 rfl).cons S 6 rfl).cons S 7 rfl).cons S 8 rfl).cons S 10 rfl).cons S 11 rfl
  refine loopW (X := Nat) SU (fun k => [(12, .int .i64 (k : Int))]) (fun k w => k ≤ (movedL ts).length ∧ ∃ mv ms, ms.map Mv.say = movesK (movedL ts) (oldL old (movedL ts)) next (plL (oldL old (movedL ts)) next) k ∧ HSat No w0 [Cel b11 43 [mv, vl, vr], OSl 91 mv 3 Mv.enc (ms), RowsA 3 1 encI (rowsOf (ms)), Cel b6 43 [.slice none 0 0, .slice none 0 0, .slice none 0 0], OSl 3 u27 1 encI (plL (oldL old (movedL ts)) next), OSl 3 vl 1 encI (clL (oldL old (movedL ts)) next), OSl 3 vr 1 encI (crL (oldL old (movedL ts)) next), OSl 66 u15 11 Ow.enc (movedL ts), Sl v3 11 Ow.enc ts, Sl v2 9 Pl.enc next, Sl v1 9 Pl.enc old] w) (fun k => (movedL ts).length - k) 0 (S.nil.cons S 12 rfl) (⟨by omega, .slice none 0 0, [], rfl, H.take [Cel b11 43 [.slice none 0 0, vl, vr], OSl 91 (.slice none 0 0) 3 Mv.enc [], RowsA 3 1 encI [], Cel b6 43 [.slice none 0 0, .slice none 0 0, .slice none 0 0], OSl 3 u27 1 encI (plL (oldL old (movedL ts)) next), OSl 3 vl 1 encI (clL (oldL old (movedL ts)) next), OSl 3 vr 1 encI (crL (oldL old (movedL ts)) next), OSl 66 u15 11 Ow.enc (movedL ts), Sl v3 11 Ow.enc ts, Sl v2 9 Pl.enc next, Sl v1 9 Pl.enc old]⟩) (fun k a w S hW => ?_)
  simp only [List.cons_append, List.nil_append] at S
  clear H
  obtain ⟨hk, mv, ms, hms, H⟩ := hW
  refine g_seq ?_
  refine gsr ?_
  refine gm S fun a S => ?_
  refine gm S fun a S => ?_
  refine gy rfl rfl rfl S (y_lens rfl Try.underlying23 S H rfl) fun a S => ?_
  refine gy rfl rfl rfl S (y_bin rfl S rfl rfl rfl) fun a S => ?_
  refine gnt ?_
  refine c_if S rfl (fun h2 => ?_) (fun h2 => ?_)
  ·have h2p := h2; try simp only [DL] at h2p
   have hkl : k < (movedL ts).length := by omega
   obtain ⟨x, hx⟩ : ∃ x : Nat, (movedL ts)[k].place = x := ⟨(movedL ts)[k].place.toNat, by have := hplc _ (List.getElem_mem hkl); omega⟩
   have hxn : x < old.length := by have := hplc _ (List.getElem_mem hkl); omega
   have hko : k < (oldL old (movedL ts)).length := by omega
   have hok2 := oldL_at hkl hx hxn hko
   have hmk := movesK_succ (next := next) (place := (plL (oldL old (movedL ts)) next)) hkl hko
   have hatk := atI_eq (show k < (plL (oldL old (movedL ts)) next).length by omega)
   have hmsl := congrArg List.length hms
   rw [movesK_len, List.length_map] at hmsl
   refine g_skip ?_
   refine n_then ?_
   have S := (((((((S.nil.cons S 1 rfl).cons S 0 rfl).cons S 6 rfl).cons S 7 rfl).cons S 8 rfl).cons S 10 rfl).cons S 11 rfl).cons S 12 rfl
   refine g_seq ?_
   refine g_block ?_
   refine g_seq ?_
   refine region_st (loud := [11, 12]) (tails := [12]) (free := []) [0, 1, 2, 3, 4, 5, 6, 7, 8, 9, 10, 11, 12] [] Fmo (by kernel_rfl) (by kernel_rfl) rfl H ?_
   refine m_w rfl rfl (wn rfl) rfl rfl S (fun w H => y_move rfl S rfl) fun a S => ?_
   refine m_w rfl rfl (wn rfl) rfl rfl S (fun w H => y_move rfl S rfl) fun a S => ?_
   refine m_w rfl rfl (wn rfl) rfl rfl S (fun w H => y_iaddrn rfl Try.underlying23 Fsiz66 S H rfl rfl (by first | assumption | omega | (rw [hpl]; omega))) fun a S => ?_
   refine m_w rfl rfl (wn rfl) rfl rfl S (fun w H => y_faddr rfl Ffo66_0 S rfl) fun a S => ?_
   refine m_w rfl rfl (wn rfl) rfl rfl S (fun w H => y_faddr rfl Ffo60_0 S rfl) fun a S => ?_
   refine m_loadsff _ rfl rfl (wn rfl) rfl rfl S rfl Fsca3 rfl (by first | assumption | omega | (rw [hpl]; omega)) rfl fun a S => ?_
   refine m_w rfl rfl (wn rfl) rfl rfl S (fun w H => y_move rfl S rfl) fun a S => ?_
   refine m_w rfl rfl (wn rfl) rfl rfl S (fun w H => y_move rfl S rfl) fun a S => ?_
   refine m_w rfl rfl (wn rfl) rfl rfl S (fun w H => y_iaddrn rfl Try.underlying39 Fsiz3 S H rfl rfl (by first | assumption | omega | (rw [hpl]; omega))) fun a S => ?_
   refine m_loads _ rfl rfl (wn rfl) rfl rfl S rfl Fsca3 rfl (by first | assumption | omega | (rw [hpl]; omega)) rfl fun a S => ?_
   refine m_w rfl rfl (wn rfl) rfl rfl S (fun w H => y_buildf rfl Fbld91 S rfl (idx := [0, 1]) rfl (cs := [.int .i64 (movedL ts)[k].serial, .int .i64 (plL (oldL old (movedL ts)) next)[k], .slice none 0 0]) (by kernel_rfl)) fun a S => ?_
   refine m_l rfl rfl (fun w H => op_alloc (wn rfl) rfl rfl rfl S H Fzer91 fun b13 a w S H => m_next H (List.sublist_cons_self _ _) ?_)
   refine m_l rfl rfl (fun w H => op_storea (wn rfl) rfl rfl S H rfl rfl rfl Fsiz91 rfl (cs' := [_, _, _]) rfl fun a w S H => m_tail H rfl ?_)
   refine m_nil (fun w H => ?_)
   refine n_then ?_
   have S := ((((((((S.nil.cons S 1 rfl).cons S 0 rfl).cons S 6 rfl).cons S 7 rfl).cons S 8 rfl).cons S 10 rfl).cons S 11 rfl).cons S 12 rfl).cons S 13 rfl
   refine g_seq ?_
   refine gsr ?_
   refine gm S fun a S => ?_
   refine gm S fun a S => ?_
   refine gy rfl rfl rfl S (y_iaddrn rfl Try.underlying39 Fsiz3 S H rfl rfl (by first | assumption | omega | (rw [hpl]; omega))) fun a S => ?_
   refine gy rfl rfl rfl S (y_loads _ rfl Fsca3 S H rfl (by first | assumption | omega | (rw [hpl]; omega)) rfl) fun a S => ?_
   refine gy rfl rfl rfl S (y_bin rfl S rfl rfl rfl) fun a S => ?_
   refine gnt ?_
   have S := (((((((((S.nil.cons S 1 rfl).cons S 0 rfl).cons S 6 rfl).cons S 7 rfl).cons S 8 rfl).cons S 10 rfl).cons S 11 rfl).cons S 12 rfl).cons S 13 rfl).cons S 58 rfl
   refine c_if S rfl (fun h3 => ?_) (fun h3 => ?_)
   ·have h3p := h3; try simp only [DL] at h3p
    have hneg : atI (plL (oldL old (movedL ts)) next) k < 0 := by rw [hatk]; exact h3p
    rw [if_pos hneg] at hmk
    refine g_region ?_
    refine gm S fun a S => ?_
    refine gm S fun a S => ?_
    refine gm S fun a S => ?_
    refine gy rfl rfl rfl S (y_iaddrn rfl Try.underlying23 Fsiz66 S H rfl rfl (by first | assumption | omega | (rw [hpl]; omega))) fun a S => ?_
    refine gy rfl rfl rfl S (y_faddr rfl Ffo66_0 S rfl) fun a S => ?_
    refine gy rfl rfl rfl S (y_faddr rfl Ffo60_2 S rfl) fun a S => ?_
    refine gy rfl rfl rfl S (y_loadsff _ rfl Fsca3 S H rfl (by first | assumption | omega | (rw [hpl]; omega)) rfl) fun a S => ?_
    rw [hx] at S
    refine gy rfl rfl rfl S (y_iaddrn rfl Try.underlying22 Fsiz85 S H rfl rfl (by first | assumption | omega | (rw [hpl]; omega))) fun a S => ?_
    refine gy rfl rfl rfl S (y_loadsa _ rfl S H rfl (by exact Fagg85) (by first | assumption | omega | (rw [hpl]; omega))) fun a S => ?_
    refine gm S fun a S => ?_
    refine gm S fun a S => ?_
    refine wl_of (op_call (wn rfl) rfl rfl S (co_func rfl Try.call54 S rfl) (roffers_spec old[x] v2 u27 next (plL (oldL old (movedL ts)) next) _ (H.sl v2) (H.sl u27) (by omega)) fun urow w hc a S => ?_)
    have H1 := hc
    obtain ⟨orow, hor⟩ : ∃ o, o = offL old[x].kind next (plL (oldL old (movedL ts)) next) := ⟨_, rfl⟩
    rw [← hor] at H1
    rw [hok2, ← hor] at hmk
    have H := H.call1 H1 rfl
    obtain ⟨pu, cu, hpu⟩ := (H.sl urow).shape
    have hu1 := H.sl1 urow
    refine gy rfl rfl rfl S (y_faddrb rfl Ffo91_2 S rfl) fun a S => ?_
    refine wl_of (op_store (wn rfl) rfl rfl S H rfl rfl (H.sl1 _) Fsiz39 rfl fun a w S H => ?_)
    dsimp only [List.set, Nat.zero_add, Nat.reduceAdd] at H
    refine gnt ?_
    have S := ((((((((S.nil.cons S 1 rfl).cons S 0 rfl).cons S 6 rfl).cons S 7 rfl).cons S 8 rfl).cons S 10 rfl).cons S 11 rfl).cons S 12 rfl).cons S 13 rfl
    refine g_region ?_
    refine gy rfl rfl rfl S (y_faddrb rfl Ffo43_0 S rfl) fun a S => ?_
    refine gy rfl rfl rfl S (y_load rfl Fsca38 S H rfl rfl) fun a S => ?_
    refine gy rfl rfl rfl S (y_load0 rfl S H rfl (by exact Fagg91)) fun a S => ?_
    refine wl_of (op_buildSlice (wn rfl) rfl rfl rfl Try.underlying38 Finf91 S H (idx := [0]) rfl rfl rfl (z := [.int .i64 0, .int .i64 0, .slice none 0 0]) (by kernel_rfl) (cs := [.int .i64 (movedL ts)[k].serial, .int .i64 (plL (oldL old (movedL ts)) next)[k], urow]) (by rw [hpu]; rfl) fun b75 a w S H => ?_)
    refine wl_of (op_append ([(Mv.mk (movedL ts)[k].serial (plL (oldL old (movedL ts)) next)[k] (urow, orow))]) (wn rfl) rfl rfl rfl Try.underlying38 Finf91 rfl rfl S H rfl rfl rfl rfl (by simp) (by simp [Mv.enc]) (by simp only [List.mem_singleton]; rintro y rfl u hu; simp only [Mv.enc, List.mem_cons, List.not_mem_nil, or_false] at hu; rcases hu with rfl | rfl | rfl; rfl; rfl; exact hu1) (by simp only [List.length_cons, List.length_nil]; omega) (by simp only [List.length_cons, List.length_nil]; omega) fun u76 a w hn76 S H => ?_)
    refine gy rfl rfl rfl S (y_faddrb rfl Ffo43_0 S rfl) fun a S => ?_
    refine wl_of (op_store (wn rfl) rfl rfl S H rfl rfl (H.sl1 _) Fsiz38 rfl fun a w S H => ?_)
    dsimp only [List.set, Nat.zero_add, Nat.reduceAdd] at H
    refine gl_nil ?_
    refine n_block ?_
    refine n_then ?_
    have S := (((((((S.nil.cons S 1 rfl).cons S 0 rfl).cons S 6 rfl).cons S 7 rfl).cons S 8 rfl).cons S 10 rfl).cons S 11 rfl).cons S 12 rfl
    refine g_region ?_
    refine gm S fun a S => ?_
    refine gy rfl rfl rfl S (y_add rfl S rfl rfl (by omega)) fun a S => ?_
    refine ga S fun a S => ?_
    refine gnt ?_
    exact ⟨k + 1, S.nil.cons S 12 rfl, ((((((S.nil.cons S 1 rfl).cons S 0 rfl).cons S 6 rfl).cons S 7 rfl).cons S 8 rfl).cons S 10 rfl).cons S 11 rfl, ⟨by omega, u76, ms ++ [(Mv.mk (movedL ts)[k].serial (plL (oldL old (movedL ts)) next)[k] (urow, orow))], by rw [List.map_append, hms, hmk, hatk]; rfl, by unfold rowsOf; rw [List.map_append]; exact ((H.front2 (OSl 3 urow 1 encI orow) (RowsA 3 1 encI (rowsOf ms))).rowSnoc).take [Cel b11 43 [u76, vl, vr], OSl 91 u76 3 Mv.enc (ms ++ [(Mv.mk (movedL ts)[k].serial (plL (oldL old (movedL ts)) next)[k] (urow, orow))]), RowsA 3 1 encI (rowsOf ms ++ [(urow, orow)]), Cel b6 43 [.slice none 0 0, .slice none 0 0, .slice none 0 0], OSl 3 u27 1 encI (plL (oldL old (movedL ts)) next), OSl 3 vl 1 encI (clL (oldL old (movedL ts)) next), OSl 3 vr 1 encI (crL (oldL old (movedL ts)) next), OSl 66 u15 11 Ow.enc (movedL ts), Sl v3 11 Ow.enc ts, Sl v2 9 Pl.enc next, Sl v1 9 Pl.enc old]⟩, by omega⟩
   ·have h3p := h3; try simp only [DL] at h3p
    have hneg : ¬ atI (plL (oldL old (movedL ts)) next) k < 0 := by rw [hatk]; have := h3p; omega
    rw [if_neg hneg] at hmk
    obtain ⟨urow, hur⟩ : ∃ u : Value, u = .slice none 0 0 := ⟨_, rfl⟩
    obtain ⟨orow, hor⟩ : ∃ o : List Int, o = [] := ⟨_, rfl⟩
    have H := H.nilO 3 1 encI
    have H : HSat No w0 [OSl 3 urow 1 encI orow, Cel b13 91 [.int .i64 (movedL ts)[k].serial, .int .i64 (plL (oldL old (movedL ts)) next)[k], urow], Cel b11 43 [mv, vl, vr], OSl 91 mv 3 Mv.enc (ms), RowsA 3 1 encI (rowsOf (ms)), Cel b6 43 [.slice none 0 0, .slice none 0 0, .slice none 0 0], OSl 3 u27 1 encI (plL (oldL old (movedL ts)) next), OSl 3 vl 1 encI (clL (oldL old (movedL ts)) next), OSl 3 vr 1 encI (crL (oldL old (movedL ts)) next), OSl 66 u15 11 Ow.enc (movedL ts), Sl v3 11 Ow.enc ts, Sl v2 9 Pl.enc next, Sl v1 9 Pl.enc old] w := by rw [hur, hor]; exact H.take [OSl 3 (.slice none 0 0) 1 encI [], Cel b13 91 [.int .i64 (movedL ts)[k].serial, .int .i64 (plL (oldL old (movedL ts)) next)[k], .slice none 0 0], Cel b11 43 [mv, vl, vr], OSl 91 mv 3 Mv.enc (ms), RowsA 3 1 encI (rowsOf (ms)), Cel b6 43 [.slice none 0 0, .slice none 0 0, .slice none 0 0], OSl 3 u27 1 encI (plL (oldL old (movedL ts)) next), OSl 3 vl 1 encI (clL (oldL old (movedL ts)) next), OSl 3 vr 1 encI (crL (oldL old (movedL ts)) next), OSl 66 u15 11 Ow.enc (movedL ts), Sl v3 11 Ow.enc ts, Sl v2 9 Pl.enc next, Sl v1 9 Pl.enc old]
    rw [← hor] at hmk
    obtain ⟨pu, cu, hpu⟩ := (H.sl urow).shape
    have hu1 := H.sl1 urow
    refine g_skip ?_
    refine n_then ?_
    refine g_region ?_
    refine gy rfl rfl rfl S (y_faddrb rfl Ffo43_0 S rfl) fun a S => ?_
    refine gy rfl rfl rfl S (y_load rfl Fsca38 S H rfl rfl) fun a S => ?_
    refine gy rfl rfl rfl S (y_load0 rfl S H rfl (by exact Fagg91)) fun a S => ?_
    refine wl_of (op_buildSlice (wn rfl) rfl rfl rfl Try.underlying38 Finf91 S H (idx := [0]) rfl rfl rfl (z := [.int .i64 0, .int .i64 0, .slice none 0 0]) (by kernel_rfl) (cs := [.int .i64 (movedL ts)[k].serial, .int .i64 (plL (oldL old (movedL ts)) next)[k], urow]) (by rw [hpu]; rfl) fun b75 a w S H => ?_)
    refine wl_of (op_append ([(Mv.mk (movedL ts)[k].serial (plL (oldL old (movedL ts)) next)[k] (urow, orow))]) (wn rfl) rfl rfl rfl Try.underlying38 Finf91 rfl rfl S H rfl rfl rfl rfl (by simp) (by simp [Mv.enc]) (by simp only [List.mem_singleton]; rintro y rfl u hu; simp only [Mv.enc, List.mem_cons, List.not_mem_nil, or_false] at hu; rcases hu with rfl | rfl | rfl; rfl; rfl; exact hu1) (by simp only [List.length_cons, List.length_nil]; omega) (by simp only [List.length_cons, List.length_nil]; omega) fun u76 a w hn76 S H => ?_)
    refine gy rfl rfl rfl S (y_faddrb rfl Ffo43_0 S rfl) fun a S => ?_
    refine wl_of (op_store (wn rfl) rfl rfl S H rfl rfl (H.sl1 _) Fsiz38 rfl fun a w S H => ?_)
    dsimp only [List.set, Nat.zero_add, Nat.reduceAdd] at H
    refine gl_nil ?_
    refine n_block ?_
    refine n_then ?_
    have S := (((((((S.nil.cons S 1 rfl).cons S 0 rfl).cons S 6 rfl).cons S 7 rfl).cons S 8 rfl).cons S 10 rfl).cons S 11 rfl).cons S 12 rfl
    refine g_region ?_
    refine gm S fun a S => ?_
    refine gy rfl rfl rfl S (y_add rfl S rfl rfl (by omega)) fun a S => ?_
    refine ga S fun a S => ?_
    refine gnt ?_
    exact ⟨k + 1, S.nil.cons S 12 rfl, ((((((S.nil.cons S 1 rfl).cons S 0 rfl).cons S 6 rfl).cons S 7 rfl).cons S 8 rfl).cons S 10 rfl).cons S 11 rfl, ⟨by omega, u76, ms ++ [(Mv.mk (movedL ts)[k].serial (plL (oldL old (movedL ts)) next)[k] (urow, orow))], by rw [List.map_append, hms, hmk, hatk]; rfl, by unfold rowsOf; rw [List.map_append]; exact ((H.front2 (OSl 3 urow 1 encI orow) (RowsA 3 1 encI (rowsOf ms))).rowSnoc).take [Cel b11 43 [u76, vl, vr], OSl 91 u76 3 Mv.enc (ms ++ [(Mv.mk (movedL ts)[k].serial (plL (oldL old (movedL ts)) next)[k] (urow, orow))]), RowsA 3 1 encI (rowsOf ms ++ [(urow, orow)]), Cel b6 43 [.slice none 0 0, .slice none 0 0, .slice none 0 0], OSl 3 u27 1 encI (plL (oldL old (movedL ts)) next), OSl 3 vl 1 encI (clL (oldL old (movedL ts)) next), OSl 3 vr 1 encI (crL (oldL old (movedL ts)) next), OSl 66 u15 11 Ow.enc (movedL ts), Sl v3 11 Ow.enc ts, Sl v2 9 Pl.enc next, Sl v1 9 Pl.enc old]⟩, by omega⟩
  ·have h2p := h2; try simp only [DL] at h2p
   obtain rfl : k = (movedL ts).length := by omega
   refine g_exit ?_
   refine x_then (x_then (x_eq ?_))
   refine n_then ?_
   have S := ((S.nil.cons S 6 rfl).cons S 7 rfl).cons S 11 rfl
   refine gsr ?_
   refine gy rfl rfl rfl S (y_load0 rfl S H rfl (by exact Fagg43)) fun a S => ?_
   refine wl_of (op_storea (wn rfl) rfl rfl S H rfl rfl (by simp only [List.all_cons, List.all_nil, H.sl1 mv, H.sl1 vl, H.sl1 vr, Bool.true_and]) Fsiz43 rfl (cs' := [_, _, _]) rfl fun a w S H => ?_)
   refine ga S fun a S => ?_
   refine gnt ?_
   refine g_ret ?_
   refine ret2ct rfl S H rfl rfl (by exact Fagg43) ?_
   exact ⟨mv, vl, vr, ms, rfl, hms, H.take [OSl 91 mv 3 Mv.enc ms, RowsA 3 1 encI (rowsOf ms), OSl 3 vl 1 encI (clL (oldL old (movedL ts)) next), OSl 3 vr 1 encI (crL (oldL old (movedL ts)) next)]⟩
theorem plan_any (v1 v2 : Value) (old next : List Pl) (v3 : Value) (ts : List Ow) (w0 : World) (hv1 : IsSl w0 v1 9 Pl.enc old) (hv2 : IsSl w0 v2 9 Pl.enc next) (hv3 : IsSl w0 v3 11 Ow.enc ts) (hok : ∀ o ∈ ts, o.ok) (hl1 : ts.length ≤ 100000) : Ret Try.prog 28 #[v1, v2, v3] w0 (fun u w => ∃ mv vl vr, ∃ ms : List Mv, u = .tuple #[.agg #[mv, vl, vr], .int .i64 (errP old next ts)] ∧ ms.map Mv.say = sayP old next ts ∧ HSat No w0 [OSl 91 mv 3 Mv.enc ms, RowsA 3 1 encI (rowsOf ms), OSl 3 vl 1 encI (clP old next ts), OSl 3 vr 1 encI (crP old next ts)] w) := by
  by_cases herr : errP old next ts = 0
  · refine Ret.mono (plan_ok v1 v2 old next v3 ts w0 hv1 hv2 hv3 hok hl1 herr) ?_
    rintro _ w ⟨mv, vl, vr, ms, rfl, hms, H⟩
    refine ⟨mv, vl, vr, ms, by rw [herr], by unfold sayP; rw [if_pos herr]; exact hms, ?_⟩
    unfold clP crP
    rw [if_pos herr, if_pos herr]; exact H
  · refine Ret.mono (plan_err v1 v2 old next v3 ts w0 hv1 hv2 hv3 hok hl1 herr) ?_
    rintro _ w ⟨rfl, he⟩
    refine ⟨.slice none 0 0, .slice none 0 0, .slice none 0 0, [], rfl, by unfold sayP; rw [if_neg herr]; rfl, ?_⟩
    unfold clP crP
    rw [if_neg herr, if_neg herr]
    exact ((((HSat.start w0).ext he).nilO 3 1 encI).nilO 3 1 encI |>.rowsZ 3 1 encI).nilO 91 3 Mv.enc
theorem rplan_any (v1 v2 : Value) (old next : List Pl) (v3 : Value) (ts : List Ow) (w0 : World) (hv1 : IsSl w0 v1 9 Pl.enc old) (hv2 : IsSl w0 v2 9 Pl.enc next) (hv3 : IsSl w0 v3 11 Ow.enc ts) (hok : ∀ o ∈ ts, o.ok) (hl1 : ts.length ≤ 100000) : Ret Try.prog 30 #[v1, v2, v3] w0 (fun u w => ∃ mv vl vr, ∃ ms : List Mv, u = .tuple #[.agg #[mv, vl, vr], .int .i64 (errP old next ts)] ∧ ms.map Mv.say = sayP old next ts ∧ HSat No w0 [OSl 91 mv 3 Mv.enc ms, RowsA 3 1 encI (rowsOf ms), OSl 3 vl 1 encI (clP old next ts), OSl 3 vr 1 encI (crP old next ts)] w) := by
  by_cases herr : errP old next ts = 0
  · refine Ret.mono (rplan_ok v1 v2 old next v3 ts w0 hv1 hv2 hv3 hok hl1 herr) ?_
    rintro _ w ⟨mv, vl, vr, ms, rfl, hms, H⟩
    refine ⟨mv, vl, vr, ms, by rw [herr], by unfold sayP; rw [if_pos herr]; exact hms, ?_⟩
    unfold clP crP
    rw [if_pos herr, if_pos herr]; exact H
  · refine Ret.mono (rplan_err v1 v2 old next v3 ts w0 hv1 hv2 hv3 hok hl1 herr) ?_
    rintro _ w ⟨rfl, he⟩
    refine ⟨.slice none 0 0, .slice none 0 0, .slice none 0 0, [], rfl, by unfold sayP; rw [if_neg herr]; rfl, ?_⟩
    unfold clP crP
    rw [if_neg herr, if_neg herr]
    exact ((((HSat.start w0).ext he).nilO 3 1 encI).nilO 3 1 encI |>.rowsZ 3 1 encI).nilO 91 3 Mv.enc
end Go.Proofs.Ytnnendajegdnhaa
