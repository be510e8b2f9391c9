/- The walks. No condition. -/
import Derived.Test.YtcgpbalpihkiiaaChecked
import Derived.Test.YtcgpbalpihkiiaaGwIns
import Derived.Test.YtcgpbalpihkiiaaFacts
import Derived.Test.YtcgpbalpihkiiaaPlain
import Derived.Test.YtcgpbalpihkiiaaW1
namespace Go.Proofs.Ytcgpbalpihkiiaa
open Go Go.Gw
set_option linter.unusedVariables false
set_option linter.unusedSimpArgs false
/-- slices.IndexFunc[[]foyer/api.Order,foyer/api.Order] -/
theorem idx_spec (v : Value) (xs : List Ord) (f : FuncId) (cap : List Value) (he : Enters Try.prog f) (pr : Ord → Bool) (w0 : World) (hv : IsSl w0 v 5 Ord.enc xs)
    (hstep : ∀ x ∈ xs, ∀ w, Ext w0 w → Ret Try.prog f ([Value.agg (Ord.enc x).toArray] ++ cap).toArray w (fun u w' => u = .bool (pr x) ∧ Ext w w')) :
    Ret Try.prog 23 #[v, .func (.func f) #[] cap.toArray] w0 (fun u w => ∃ z : Int, u = .int .i64 z ∧ ((z = -1 ∧ ∀ x ∈ xs, pr x = false) ∨ ∃ j : Nat, ∃ h : j < xs.length, z = j ∧ pr xs[j] = true ∧ ∀ q (hq : q < xs.length), q < j → pr xs[q] = false) ∧ Ext w0 w) := by
 refine ret_of_wp (nt := 19) Try.func23 rfl rfl rfl (fl := [(0, v), (1, .func (.func f) #[] cap.toArray)]) rfl (fun a S => ?_)
 have H := HSat.start w0
 have H := H.ro0 (Sl v 5 Ord.enc xs) rfl (hv)
 have hlen := hv.len
 refine gsr ?_
 refine ga S fun a S => ?_
 refine gnt ?_
 refine g_seq ?_
 refine gsr ?_
 refine gm S fun a S => ?_
 refine gy rfl rfl rfl S (y_lens rfl Try.underlying39 S H rfl) fun a S => ?_
 refine gm S fun a S => ?_
 refine gnt ?_
 refine g_block ?_
 have SU := ((S.nil.cons S 1 rfl).cons S 0 rfl).cons S 7 rfl
 refine loop_k (X := Nat) SU (fun k => [(8, .int .i64 (k : Int))]) (fun k => k ≤ xs.length ∧ (∀ j (h : j < xs.length), j < k → pr xs[j] = false)) (fun k => xs.length - k) 0 (S.nil.cons S 8 rfl) H (⟨by omega, fun j h hj => by omega⟩) (fun k a w S H hi => ?_)
 simp only [List.cons_append, List.nil_append] at S hi
 obtain ⟨hk, hpr⟩ := hi
 refine gsr ?_
 refine gy rfl rfl rfl S (y_bin rfl S rfl rfl rfl) fun a S => ?_
 refine gnt ?_
 refine g_seq ?_
 refine c_if S rfl (fun h1 => ?_) (fun h1 => ?_)
 ·have h1p := h1; try simp only [DL] at h1p
  refine g_skip ?_
  refine n_then ?_
  refine g_seq ?_
  refine g_block ?_
  refine gsr ?_
  refine gm S fun a S => ?_
  refine ga S fun a S => ?_
  refine gnt ?_
  refine gsr ?_
  refine gm S fun a S => ?_
  refine gm S fun a S => ?_
  refine gm S fun a S => ?_
  refine gy rfl rfl rfl S (y_iaddrn rfl Try.underlying39 Fsiz29 S H rfl rfl (by first | assumption | omega | (simp only [LL]; omega))) fun a S => ?_
  refine gy rfl rfl rfl S (y_loadsa _ rfl S H rfl (by exact Fagg29) (by first | assumption | omega | (simp only [LL]; omega))) fun a S => ?_
  refine wl_of (op_call (wn rfl) rfl rfl S (co_value rfl he S rfl rfl) (hstep _ (List.getElem_mem (by omega)) w H.toExt) fun v w hc a S => ?_)
  obtain ⟨rfl, he1⟩ := hc
  have H := H.ext he1
  refine gnt ?_
  have S := (((((S.nil.cons S 1 rfl).cons S 0 rfl).cons S 7 rfl).cons S 8 rfl).cons S 5 rfl).cons S 16 rfl
  refine c_if S rfl (fun h2 => ?_) (fun h2 => ?_)
  ·have h2p := h2; try simp only [DL] at h2p
   refine gsr ?_
   refine gm S fun a S => ?_
   refine ga S fun a S => ?_
   refine gnt ?_
   refine g_ret ?_
   refine r_block (r_then (r_then (r_block (r_then (ret1 rfl S rfl ?_)))))
   exact ⟨_, rfl, .inr ⟨k, by omega, rfl, h2, hpr⟩, H.toExt⟩
  ·have h2p := h2; try simp only [DL] at h2p
   refine g_skip ?_
   refine n_block ?_
   refine n_then ?_
   refine g_region ?_
   refine gy rfl rfl rfl S (y_add rfl S rfl rfl (by omega)) fun a S => ?_
   refine gm S fun a S => ?_
   refine gnt ?_
   refine ⟨k + 1, S.nil.cons S 8 rfl, ((S.nil.cons S 1 rfl).cons S 0 rfl).cons S 7 rfl, H, ?_, ?_⟩
   · exact ⟨by omega, fun j h hj => by by_cases hjk : j < k; exact hpr j h hjk; (obtain rfl : j = k := by omega); exact h2⟩
   · omega
 ·have h1p := h1; try simp only [DL] at h1p
  refine g_exit ?_
  refine x_then (x_then (x_eq ?_))
  refine n_then ?_
  have S := S.nil
  refine gsr ?_
  refine ga S fun a S => ?_
  refine gnt ?_
  refine g_ret ?_
  refine ret1 rfl S rfl ?_
  obtain rfl : k = xs.length := by omega
  exact ⟨_, rfl, .inl ⟨rfl, fun x hx => by obtain ⟨j, hj, rfl⟩ := List.getElem_of_mem hx; exact hpr j hj hj⟩, H.toExt⟩
/-- slices.ContainsFunc[[]foyer/api.Order,foyer/api.Order] -/
theorem has_spec (v : Value) (xs : List Ord) (f : FuncId) (cap : List Value) (he : Enters Try.prog f) (pr : Ord → Bool) (w0 : World) (hv : IsSl w0 v 5 Ord.enc xs)
    (hstep : ∀ x ∈ xs, ∀ w, Ext w0 w → Ret Try.prog f ([Value.agg (Ord.enc x).toArray] ++ cap).toArray w (fun u w' => u = .bool (pr x) ∧ Ext w w')) :
    Ret Try.prog 28 #[v, .func (.func f) #[] cap.toArray] w0 (fun u w => u = .bool (xs.any pr) ∧ Ext w0 w) := by
 refine ret_of_wp (nt := 9) Try.func28 rfl rfl rfl (fl := [(0, v), (1, .func (.func f) #[] cap.toArray)]) rfl (fun a S => ?_)
 have H := HSat.start w0
 refine gsr ?_
 refine ga S fun a S => ?_
 refine gnt ?_
 refine gsr ?_
 refine gm S fun a S => ?_
 refine gm S fun a S => ?_
 refine wl_of (op_call (wn rfl) rfl rfl S (co_func rfl Try.call23 S rfl) (idx_spec v xs f cap he pr w0 hv hstep) fun v w hc a S => ?_)
 obtain ⟨z, rfl, hz, he1⟩ := hc
 have H := H.ext he1
 refine gy rfl rfl rfl S (y_bin rfl S rfl rfl rfl) fun a S => ?_
 refine ga S fun a S => ?_
 refine gnt ?_
 have S := S.nil.cons S 4 rfl
 refine g_ret ?_
 refine ret1 rfl S rfl ?_
 exact ⟨congrArg Value.bool (any_idx hz).symm, H.toExt⟩
/-- slices.Clone[[]foyer/api.Order,foyer/api.Order] -/
theorem clone_spec (v : Value) (xs : List Ord) (w0 : World) (hv : IsSl w0 v 5 Ord.enc xs) (hl : xs.length ≤ 200000) :
    Ret Try.prog 26 #[v] w0 (fun u w => HSat No w0 [OSl 29 u 5 Ord.enc xs] w) := by
 refine ret_of_wp (nt := 8) Try.func26 rfl rfl rfl (fl := [(0, v)]) rfl (fun a S => ?_)
 have H := HSat.start w0
 obtain ⟨pv, cv, rfl⟩ := hv.shape
 have H := H.ro0 (Sl (.slice pv xs.length cv) 5 Ord.enc xs) rfl (hv)
 refine gsr ?_
 refine ga S fun a S => ?_
 refine gnt ?_
 refine g_seq ?_
 refine gsr ?_
 refine gm S fun a S => ?_
 refine gy rfl rfl rfl S (y_eqsl rfl Try.underlying39 S rfl rfl) fun a S => ?_
 refine gnt ?_
 refine c_if S rfl (fun h1 => ?_) (fun h1 => ?_)
 ·have h1p := h1; try simp only [DL] at h1p
  have hxs : xs = [] := by
    match xs, hv with
    | [], _ => rfl
    | x :: r, hv => obtain ⟨b, off, c, he, _⟩ := hv.cells 0 (by simp); simp only [Value.slice.injEq] at he; rw [he.1] at h1; simp at h1
  refine gsr ?_
  refine ga S fun a S => ?_
  refine gnt ?_
  refine g_ret ?_
  refine r_then (ret1 rfl S rfl ?_)
  rw [hxs]; exact (H.nilO 29 5 Ord.enc).take [OSl 29 (.slice none 0 0) 5 Ord.enc []]
 ·have h1p := h1; try simp only [DL] at h1p
  refine g_skip ?_
  refine n_then ?_
  refine gsr ?_
  refine wl_of (op_buildSlice (wn rfl) rfl rfl rfl Try.underlying39 Finf29 S H (idx := []) rfl rfl rfl (z := []) (by kernel_rfl) (cs := []) rfl fun b5 a w S H => ?_)
  have H := H.celO [] Ord.enc 5 (m := 0) rfl (by simp) rfl (by omega)
  refine gm S fun a S => ?_
  refine wl_of (op_appendT (wn rfl) rfl rfl rfl Try.underlying39 Finf29 rfl rfl S H rfl rfl (by simp [Ord.enc, Value.oneCell']) (by first | assumption | omega | (simp only [LL]; omega)) (by first | assumption | omega | (simp only [LL]; omega)) fun u7 a w S H => ?_)
  refine ga S fun a S => ?_
  refine gnt ?_
  have S := S.nil.cons S 2 rfl
  refine g_ret ?_
  refine ret1 rfl S rfl ?_
  exact H.take [OSl 29 u7 5 Ord.enc ([] ++ xs)]
/-- slices.Delete[[]foyer/api.Order,foyer/api.Order] -/
theorem delete_spec {M : Nat → Prop} {u0 : World} {l : List Atom} (v : Value) (xs : List Ord) (i : Nat) (w0 : World) (h0 : HSat M u0 (OSl 29 v 5 Ord.enc xs :: l) w0) (hi : i < xs.length) :
    Ret Try.prog 25 #[v, .int .i64 (i : Int), .int .i64 ((i + 1 : Nat) : Int)] w0 (fun u w => HSat M u0 (OSl 29 u 5 Ord.enc (xs.eraseIdx i) :: l) w) := by
 refine ret_of_wp (nt := 33) Try.func25 rfl rfl rfl (fl := [(0, v), (1, .int .i64 (i : Int)), (2, .int .i64 ((i + 1 : Nat) : Int))]) rfl (fun a S => ?_)
 have H := h0
 have hcap := H.cap v
 have hlv := (H.sl v).len
 refine gsr ?_
 refine ga S fun a S => ?_
 refine gnt ?_
 refine gsr ?_
 refine gm S fun a S => ?_
 refine gm S fun a S => ?_
 refine gm S fun a S => ?_
 refine gm S fun a S => ?_
 refine gy rfl rfl rfl S (y_lens rfl Try.underlying39 S H rfl) fun a S => ?_
 refine gy rfl rfl rfl S (y_slice3 rfl Try.underlying39 Fsiz29 S H rfl rfl rfl rfl (by omega) (by omega) (by omega)) fun a S => ?_
 refine gnt ?_
 have S := (((S.nil.cons S 2 rfl).cons S 1 rfl).cons S 0 rfl).cons S 6 rfl
 refine g_seq ?_
 refine gsr ?_
 refine gm S fun a S => ?_
 refine gm S fun a S => ?_
 refine gy rfl rfl rfl S (y_bin rfl S rfl rfl rfl) fun a S => ?_
 refine gnt ?_
 refine c_if S rfl (fun h1 => ?_) (fun h1 => ?_)
 ·have h1p := h1; try simp only [DL] at h1p
  all_goals (
    have := h1p; omega)
 ·have h1p := h1; try simp only [DL] at h1p
  refine g_skip ?_
  refine n_then ?_
  refine gsr ?_
  refine gm S fun a S => ?_
  refine gy rfl rfl rfl S (y_lens rfl Try.underlying39 S H rfl) fun a S => ?_
  refine ga S fun a S => ?_
  refine gnt ?_
  have S := ((((S.nil.cons S 2 rfl).cons S 1 rfl).cons S 0 rfl).cons S 6 rfl).cons S 7 rfl
  refine g_seq ?_
  refine region_st (loud := [6]) (tails := [6]) (free := []) [0, 1, 2, 3, 4, 5, 6, 7] [] Fmo (by kernel_rfl) (by kernel_rfl) rfl H ?_
  refine m_w rfl rfl (wn rfl) rfl rfl S (fun w H => y_move rfl S rfl) fun a S => ?_
  refine m_w rfl rfl (wn rfl) rfl rfl S (fun w H => y_move rfl S rfl) fun a S => ?_
  refine m_w rfl rfl (wn rfl) rfl rfl S (fun w H => y_sliceH rfl Try.underlying39 Fsiz29 S H rfl rfl (by first | assumption | omega | (simp only [LL]; omega))) fun a S => ?_
  refine m_w rfl rfl (wn rfl) rfl rfl S (fun w H => y_move rfl S rfl) fun a S => ?_
  refine m_w rfl rfl (wn rfl) rfl rfl S (fun w H => y_move rfl S rfl) fun a S => ?_
  refine m_w rfl rfl (wn rfl) rfl rfl S (fun w H => y_sliceL rfl Try.underlying39 Fsiz29 S H rfl rfl (by first | assumption | omega | (simp only [LL]; omega))) fun a S => ?_
  refine m_l rfl rfl (fun w H => op_appendD (v) (i) (i + 1) (wn rfl) rfl rfl rfl Try.underlying39 Fsiz29 S H rfl rfl (by omega) (by omega) (by simp [Ord.enc, Value.oneCell']) fun a w S hc26 H => m_tail H rfl ?_)
  refine m_w rfl rfl (wn rfl) rfl rfl S (fun w H => y_assign rfl S rfl) fun a S => ?_
  refine m_nil (fun w H => ?_)
  refine n_then ?_
  have S := ((S.nil.cons S 6 rfl).cons S 7 rfl).cons S 0 rfl
  refine gsr ?_
  refine gm S fun a S => ?_
  refine gm S fun a S => ?_
  refine gy rfl rfl rfl S (y_lens rfl Try.underlying39 S H rfl) fun a S => ?_
  refine gm S fun a S => ?_
  refine gy rfl rfl rfl S (y_sliceT rfl Try.underlying39 Fsiz29 S H rfl rfl rfl rfl (by first | assumption | omega | (simp only [LL]; omega)) hc26) fun a S => ?_
  refine wl_of (op_clearT (shrV v (i + 1 - i)) (wn rfl) rfl rfl Try.underlying39 Finf29 rfl (by kernel_rfl) S H rfl hc26 fun a w S H => ?_)
  refine gnt ?_
  have S := (S.nil.cons S 6 rfl).cons S 0 rfl
  refine gsr ?_
  refine gm S fun a S => ?_
  refine ga S fun a S => ?_
  refine gnt ?_
  refine g_ret ?_
  refine ret1 rfl S rfl ?_
  rw [List.eraseIdx_eq_take_drop_succ]; exact H
/-- (*foyer/book.Book).Cancel$1 -/
theorem idP_spec (x : Ord) (bi : Nat) (i : Int) (w0 : World) (hb : w0.heap[bi]? = some (.cells [.int .i64 i].toArray 3 (0, 0))) :
    Ret Try.prog 24 #[.agg (Ord.enc x).toArray, .pointer (some ⟨bi, 0, none⟩)] w0 (fun u w => u = .bool (idP i x) ∧ Ext w0 w) := by
 refine ret_of_wp (nt := 8) Try.func24 rfl rfl rfl (fl := [(0, .agg (Ord.enc x).toArray), (1, .pointer (some ⟨bi, 0, none⟩))]) rfl (fun a S => ?_)
 have H := HSat.start w0
 have H := H.ro0 (Atom.ro (Cel bi 3 [.int .i64 i])) rfl (hb)
 refine gsr ?_
 refine wl_of (op_boxa (wn rfl) rfl rfl rfl S H rfl fun b2 a w S H => ?_)
 refine ga S fun a S => ?_
 refine gnt ?_
 refine gsr ?_
 refine gy rfl rfl rfl S (y_faddrb rfl Ffo29_0 S rfl) fun a S => ?_
 refine gy rfl rfl rfl S (y_load rfl Fsca3 S H rfl rfl) fun a S => ?_
 refine gy rfl rfl rfl S (y_load rfl Fsca3 S H rfl rfl) fun a S => ?_
 refine gy rfl rfl rfl S (y_bin rfl S rfl rfl rfl) fun a S => ?_
 refine ga S fun a S => ?_
 refine gnt ?_
 have S := S.nil.cons S 3 rfl
 refine g_ret ?_
 refine ret1 rfl S rfl ?_
 exact ⟨rfl, H.toExt⟩
/-- (*foyer/book.Book).Place$1 -/
theorem serP_spec (x o : Ord) (bo : Nat) (w0 : World) (hb : w0.heap[bo]? = some (.cells (Ord.enc o).toArray 29 (0, 0))) :
    Ret Try.prog 29 #[.agg (Ord.enc x).toArray, .pointer (some ⟨bo, 0, none⟩)] w0 (fun u w => u = .bool (serP o x) ∧ Ext w0 w) := by
 refine ret_of_wp (nt := 9) Try.func29 rfl rfl rfl (fl := [(0, .agg (Ord.enc x).toArray), (1, .pointer (some ⟨bo, 0, none⟩))]) rfl (fun a S => ?_)
 have H := HSat.start w0
 have H := H.ro0 (Atom.ro (Cel bo 29 (Ord.enc o))) rfl (hb)
 refine gsr ?_
 refine wl_of (op_boxa (wn rfl) rfl rfl rfl S H rfl fun b2 a w S H => ?_)
 refine ga S fun a S => ?_
 refine gnt ?_
 refine gsr ?_
 refine gy rfl rfl rfl S (y_faddrb rfl Ffo29_4 S rfl) fun a S => ?_
 refine gy rfl rfl rfl S (y_load rfl Fsca3 S H rfl rfl) fun a S => ?_
 refine gy rfl rfl rfl S (y_faddrb rfl Ffo29_4 S rfl) fun a S => ?_
 refine gy rfl rfl rfl S (y_load rfl Fsca3 S H rfl rfl) fun a S => ?_
 refine gy rfl rfl rfl S (y_bin rfl S rfl rfl rfl) fun a S => ?_
 refine ga S fun a S => ?_
 refine gnt ?_
 have S := S.nil.cons S 3 rfl
 refine g_ret ?_
 refine ret1 rfl S rfl ?_
 exact ⟨rfl, H.toExt⟩
/-- (*foyer/book.Book).Place$2 -/
theorem agreeP_spec (x o : Ord) (bo : Nat) (w0 : World) (hb : w0.heap[bo]? = some (.cells (Ord.enc o).toArray 29 (0, 0))) :
    Ret Try.prog 31 #[.agg (Ord.enc x).toArray, .pointer (some ⟨bo, 0, none⟩)] w0 (fun u w => u = .bool (agreeB o x) ∧ Ext w0 w) := by
 refine ret_of_wp (nt := 25) Try.func31 rfl rfl rfl (fl := [(0, .agg (Ord.enc x).toArray), (1, .pointer (some ⟨bo, 0, none⟩))]) rfl (fun a S => ?_)
 have H := HSat.start w0
 have H := H.ro0 (Atom.ro (Cel bo 29 (Ord.enc o))) rfl (hb)
 refine gsr ?_
 refine wl_of (op_boxa (wn rfl) rfl rfl rfl S H rfl fun b2 a w S H => ?_)
 refine ga S fun a S => ?_
 refine gnt ?_
 refine gsr ?_
 refine gy rfl rfl rfl S (y_faddrb rfl Ffo29_1 S rfl) fun a S => ?_
 refine gy rfl rfl rfl S (y_load rfl Fsca3 S H rfl rfl) fun a S => ?_
 refine gy rfl rfl rfl S (y_faddrb rfl Ffo29_1 S rfl) fun a S => ?_
 refine gy rfl rfl rfl S (y_load rfl Fsca3 S H rfl rfl) fun a S => ?_
 refine gy rfl rfl rfl S (y_bin rfl S rfl rfl rfl) fun a S => ?_
 refine ga S fun a S => ?_
 refine gnt ?_
 have S := (((S.nil.cons S 1 rfl).cons S 2 rfl).cons S 3 rfl).cons S 4 rfl
 refine g_seq ?_
 refine gsr ?_
 refine gy rfl rfl rfl S (y_faddrb rfl Ffo29_2 S rfl) fun a S => ?_
 refine gy rfl rfl rfl S (y_load rfl Fsca4 S H rfl rfl) fun a S => ?_
 refine gnt ?_
 refine' c_jb (s := 4) S rfl (fun h1 => ?th1) (fun h1 => ?fh1) (fun a w S H => ?_)
 case th1 =>
  have h1p := h1; try simp only [DL] at h1p
  refine g_region ?_
  refine gy rfl rfl rfl S (y_faddrb rfl Ffo29_1 S rfl) fun a S => ?_
  refine gy rfl rfl rfl S (y_load rfl Fsca3 S H rfl rfl) fun a S => ?_
  refine gy rfl rfl rfl S (y_faddrb rfl Ffo29_1 S rfl) fun a S => ?_
  refine gy rfl rfl rfl S (y_load rfl Fsca3 S H rfl rfl) fun a S => ?_
  refine gy rfl rfl rfl S (y_bin rfl S rfl rfl rfl) fun a S => ?_
  refine ga S fun a S => ?_
  refine gnt ?_
  exact ⟨S.nil.cons S 4 rfl, ((S.nil.cons S 1 rfl).cons S 2 rfl).cons S 3 rfl, H⟩
 case fh1 =>
  have h1p := h1; try simp only [DL] at h1p
  refine g_skip ?_
  refine n_then ?_
  exact ⟨S.nil.cons S 4 rfl, ((S.nil.cons S 1 rfl).cons S 2 rfl).cons S 3 rfl, H⟩
 refine gsr ?_
 refine gm S fun a S => ?_
 refine gm S fun a S => ?_
 refine' wl_and 5 18 rfl S H rfl rfl rfl rfl rfl rfl rfl (fun _ S => (wn rfl)) (fun h2 kk => ?yh2) (fun a w S H => ?_)
 case yh2 =>
  have h2p := h2; try simp only [DL] at h2p
  refine gz 18 h2 S rfl rfl rfl rfl rfl rfl (y_faddrb rfl Ffo29_3 S rfl) fun a S => ?_
  refine gz 18 h2 S rfl rfl rfl rfl rfl rfl (y_load rfl Fsca9 S H rfl rfl) fun a S => ?_
  refine gz 18 h2 S rfl rfl rfl rfl rfl rfl (y_faddrb rfl Ffo29_3 S rfl) fun a S => ?_
  refine gz 18 h2 S rfl rfl rfl rfl rfl rfl (y_load rfl Fsca9 S H rfl rfl) fun a S => ?_
  refine gz 18 h2 S rfl rfl rfl rfl rfl rfl (y_nes rfl Try.underlying9 S rfl rfl) fun a S => ?_
  refine gy rfl rfl rfl S (y_and' rfl h2 S rfl rfl) fun a S => ?_
  exact kk _ _ (S.join 6 24 rfl rfl) H
 refine ga S fun a S => ?_
 refine gnt ?_
 have S := S.nil.cons S 3 rfl
 refine g_ret ?_
 refine ret1 rfl S rfl ?_
 exact ⟨rfl, H.toExt⟩
/-- slices.BinarySearchFunc[[]foyer/api.Order,foyer/api.Order,foyer/api.Order] -/
theorem bsearch_spec (v : Value) (xs : List Ord) (t : Ord) (w0 : World) (hv : IsSl w0 v 5 Ord.enc xs) (hl : xs.length ≤ 200000) :
    Ret Try.prog 32 #[v, .agg (Ord.enc t).toArray, .func (.func 33) #[] #[]] w0 (fun u w => ∃ j : Nat, ∃ b : Bool, u = .tuple #[.int .i64 (j : Int), .bool b] ∧ j ≤ xs.length ∧ (∀ q (h : q < xs.length), q + 1 = j → betZ xs[q] t < 0) ∧ (∀ h : j < xs.length, 0 ≤ betZ xs[j] t) ∧ Ext w0 w) := by
 refine ret_of_wp (nt := 49) Try.func32 rfl rfl rfl (fl := [(0, v), (1, .agg (Ord.enc t).toArray), (2, .func (.func 33) #[] #[])]) rfl (fun a S => ?_)
 have H := HSat.start w0
 have H := H.ro0 (Sl v 5 Ord.enc xs) rfl (hv)
 refine gsr ?_
 refine wl_of (op_boxa (wn rfl) rfl rfl rfl S H rfl fun b4 a w S H => ?_)
 refine ga S fun a S => ?_
 refine ga S fun a S => ?_
 refine gnt ?_
 refine gsr ?_
 refine gm S fun a S => ?_
 refine gy rfl rfl rfl S (y_lens rfl Try.underlying39 S H rfl) fun a S => ?_
 refine ga S fun a S => ?_
 refine gnt ?_
 refine gsr ?_
 refine gm S fun a S => ?_
 refine ga S fun a S => ?_
 refine ga S fun a S => ?_
 refine gnt ?_
 have S := (((((((S.nil.cons S 2 rfl).cons S 0 rfl).cons S 4 rfl).cons S 6 rfl).cons S 7 rfl).cons S 8 rfl).cons S 9 rfl).cons S 10 rfl
 refine g_seq ?_
 refine g_block ?_
 have SU := (((((S.nil.cons S 2 rfl).cons S 0 rfl).cons S 4 rfl).cons S 6 rfl).cons S 7 rfl).cons S 8 rfl
 refine loop_k (X := Nat × Nat) SU (fun x => [(9, .int .i64 (x.1 : Int)), (10, .int .i64 (x.2 : Int))]) (fun x => x.1 ≤ x.2 ∧ x.2 ≤ xs.length ∧ (∀ q (h : q < xs.length), q + 1 = x.1 → betZ xs[q] t < 0) ∧ (∀ h : x.2 < xs.length, 0 ≤ betZ xs[x.2] t)) (fun x => x.2 - x.1) (0, xs.length) ((S.nil.cons S 10 rfl).cons S 9 rfl) H (⟨Nat.zero_le _, Nat.le_refl _, fun q h e => by dsimp only at e; omega, fun h => by dsimp only at h; omega⟩) (fun x a w S H hi => ?_)
 simp only [List.cons_append, List.nil_append] at S hi
 obtain ⟨i, j⟩ := x
 obtain ⟨hij, hj, hlo, hhi⟩ := hi
 dsimp only at S hij hj hlo hhi
 refine g_seq ?_
 refine gsr ?_
 refine gm S fun a S => ?_
 refine gm S fun a S => ?_
 refine gy rfl rfl rfl S (y_bin rfl S rfl rfl rfl) fun a S => ?_
 refine gnt ?_
 refine c_if S rfl (fun h1 => ?_) (fun h1 => ?_)
 ·have h1p := h1; try simp only [DL] at h1p
  refine g_skip ?_
  refine n_then ?_
  refine g_block ?_
  refine gsr ?_
  refine gm S fun a S => ?_
  refine gm S fun a S => ?_
  refine gy rfl rfl rfl S (y_add rfl S rfl rfl (by omega)) fun a S => ?_
  refine gy rfl rfl rfl S (y_convg (r := ((i + j : Nat) : Int)) rfl Try.underlying3 Try.underlying70 S rfl (by rw [IntKind.wrap_u64]; omega)) fun a S => ?_
  refine gy rfl rfl rfl S ((y_shr (r := (((i + j) / 2 : Nat) : Int)) rfl S rfl rfl (by omega) (by show Int.fdiv ((i + j : Nat) : Int) 2 = _; rw [Int.fdiv_eq_ediv_of_nonneg _ (by omega)]; omega))) fun a S => ?_
  refine gy rfl rfl rfl S (y_convg (r := (((i + j) / 2 : Nat) : Int)) rfl Try.underlying70 Try.underlying3 S rfl (by exact wrap_in (by omega) (by omega))) fun a S => ?_
  obtain ⟨m, hm⟩ : ∃ m, m = (i + j) / 2 := ⟨_, rfl⟩
  rw [← hm] at S
  refine ga S fun a S => ?_
  refine gnt ?_
  have S := ((((((((S.nil.cons S 2 rfl).cons S 0 rfl).cons S 4 rfl).cons S 6 rfl).cons S 7 rfl).cons S 8 rfl).cons S 10 rfl).cons S 9 rfl).cons S 11 rfl
  refine g_seq ?_
  refine region_st (loud := [6]) (tails := []) (free := []) [0, 1, 2, 3, 4, 5, 6, 7] [] Fmo (by kernel_rfl) (by kernel_rfl) rfl H ?_
  refine m_w rfl rfl (wn rfl) rfl rfl S (fun w H => y_move rfl S rfl) fun a S => ?_
  refine m_w rfl rfl (wn rfl) rfl rfl S (fun w H => y_move rfl S rfl) fun a S => ?_
  refine m_w rfl rfl (wn rfl) rfl rfl S (fun w H => y_move rfl S rfl) fun a S => ?_
  refine m_w rfl rfl (wn rfl) rfl rfl S (fun w H => y_iaddrn rfl Try.underlying39 Fsiz29 S H rfl rfl (by first | assumption | omega | (simp only [LL]; omega))) fun a S => ?_
  refine m_loadsa _ rfl rfl (wn rfl) rfl rfl S rfl rfl (by exact Fagg29) (by first | assumption | omega | (simp only [LL]; omega)) fun a S => ?_
  refine m_w rfl rfl (wn rfl) rfl rfl S (fun w H => y_load0 rfl S H rfl (by exact Fagg29)) fun a S => ?_
  refine m_l rfl rfl (fun w H => op_call (wn rfl) rfl rfl S (co_value rfl Try.call33 S rfl rfl) (better_spec _ _ _) fun v w hc a S => ?_)
  obtain ⟨rfl, he⟩ := hc
  have H := H.ext he
  refine m_next H (by exact List.Sublist.refl _) ?_
  refine m_w rfl rfl (wn rfl) rfl rfl S (fun w H => y_bin rfl S rfl rfl rfl) fun a S => ?_
  refine m_nil (fun w H => ?_)
  refine n_then ?_
  have S := (((((((((S.nil.cons S 2 rfl).cons S 0 rfl).cons S 4 rfl).cons S 6 rfl).cons S 7 rfl).cons S 8 rfl).cons S 10 rfl).cons S 9 rfl).cons S 11 rfl).cons S 31 rfl
  refine c_if S rfl (fun h2 => ?_) (fun h2 => ?_)
  ·have h2p := h2; try simp only [DL] at h2p
   refine g_region ?_
   refine gm S fun a S => ?_
   refine gy rfl rfl rfl S (y_add rfl S rfl rfl (by omega)) fun a S => ?_
   refine ga S fun a S => ?_
   refine gl_nil ?_
   refine n_block ?_
   refine n_then ?_
   first
   | exact ⟨(m + 1, j), (S.nil.cons S 10 rfl).cons S 9 rfl, (((((S.nil.cons S 2 rfl).cons S 0 rfl).cons S 4 rfl).cons S 6 rfl).cons S 7 rfl).cons S 8 rfl, H.drop 0, ⟨by dsimp only; omega, hj, fun q h e => by dsimp only at e; (have e2 : q = m := by omega); subst e2; exact h2p, hhi⟩, by dsimp only; omega⟩
   | exact ⟨(i, m), (S.nil.cons S 10 rfl).cons S 9 rfl, (((((S.nil.cons S 2 rfl).cons S 0 rfl).cons S 4 rfl).cons S 6 rfl).cons S 7 rfl).cons S 8 rfl, H.drop 0, ⟨by dsimp only; omega, by dsimp only; omega, hlo, fun h => by have := h2p; dsimp only; omega⟩, by dsimp only; omega⟩
  ·have h2p := h2; try simp only [DL] at h2p
   refine g_region ?_
   refine gm S fun a S => ?_
   refine ga S fun a S => ?_
   refine gl_nil ?_
   refine n_block ?_
   refine n_then ?_
   first
   | exact ⟨(m + 1, j), (S.nil.cons S 10 rfl).cons S 9 rfl, (((((S.nil.cons S 2 rfl).cons S 0 rfl).cons S 4 rfl).cons S 6 rfl).cons S 7 rfl).cons S 8 rfl, H.drop 0, ⟨by dsimp only; omega, hj, fun q h e => by dsimp only at e; (have e2 : q = m := by omega); subst e2; exact h2p, hhi⟩, by dsimp only; omega⟩
   | exact ⟨(i, m), (S.nil.cons S 10 rfl).cons S 9 rfl, (((((S.nil.cons S 2 rfl).cons S 0 rfl).cons S 4 rfl).cons S 6 rfl).cons S 7 rfl).cons S 8 rfl, H.drop 0, ⟨by dsimp only; omega, by dsimp only; omega, hlo, fun h => by have := h2p; dsimp only; omega⟩, by dsimp only; omega⟩
 ·have h1p := h1; try simp only [DL] at h1p
  refine g_exit ?_
  refine x_then (x_then (x_eq ?_))
  refine n_then ?_
  have S := ((((((S.nil.cons S 2 rfl).cons S 0 rfl).cons S 4 rfl).cons S 6 rfl).cons S 7 rfl).cons S 8 rfl).cons S 9 rfl
  refine g_seq ?_
  refine region_st (loud := [11]) (tails := []) (free := []) [0, 1, 2, 3, 4, 5, 6, 7, 8, 9, 10, 11, 12, 13, 14, 15] [] Fmo (by kernel_rfl) (by kernel_rfl) rfl H ?_
  refine m_w rfl rfl (wn rfl) rfl rfl S (fun w H => y_move rfl S rfl) fun a S => ?_
  refine m_w rfl rfl (wn rfl) rfl rfl S (fun w H => y_move rfl S rfl) fun a S => ?_
  refine m_w rfl rfl (wn rfl) rfl rfl S (fun w H => y_move rfl S rfl) fun a S => ?_
  refine m_w rfl rfl (wn rfl) rfl rfl S (fun w H => y_bin rfl S rfl rfl rfl) fun a S => ?_
  refine m_w rfl rfl (wn rfl) rfl rfl S (fun w H => y_move rfl S rfl) fun a S => ?_
  refine' m_and [5, 6, 7, 8, 9, 10, 11, 12] 39 S rfl rfl rfl rfl rfl rfl rfl rfl rfl (fun _ S => (wn rfl)) (fun h3 kk => ?yh3) (fun l1 a S => ?_)
  case yh3 =>
   have h3p := h3; try simp only [DL] at h3p
   refine m_w rfl rfl (wg' 39 rfl rfl S rfl h3 rfl) rfl rfl S (fun w H => y_move rfl S rfl) fun a S => ?_
   refine m_w rfl rfl (wg' 39 rfl rfl S rfl h3 rfl) rfl rfl S (fun w H => y_move rfl S rfl) fun a S => ?_
   refine m_w rfl rfl (wg' 39 rfl rfl S rfl h3 rfl) rfl rfl S (fun w H => y_move rfl S rfl) fun a S => ?_
   refine m_w rfl rfl (wg' 39 rfl rfl S rfl h3 rfl) rfl rfl S (fun w H => y_iaddrn rfl Try.underlying39 Fsiz29 S H rfl rfl (by first | assumption | omega | (simp only [LL]; omega))) fun a S => ?_
   refine m_w rfl rfl (wg' 39 rfl rfl S rfl h3 rfl) rfl rfl S (fun w H => y_loadsaD v Ord.z rfl S H rfl (by exact Fagg29) (by omega) rfl) fun a S => ?_
   refine m_w rfl rfl (wg' 39 rfl rfl S rfl h3 rfl) rfl rfl S (fun w H => y_load0 rfl S H rfl (by exact Fagg29)) fun a S => ?_
   refine m_l rfl rfl (fun w H => op_call (wg' 39 rfl rfl S rfl h3 rfl) rfl rfl S (co_value rfl Try.call33 S rfl rfl) (better_spec _ _ _) fun v w hc a S => ?_)
   obtain ⟨rfl, he⟩ := hc
   have H := H.ext he
   refine m_next H (by exact List.Sublist.refl _) ?_
   refine m_w rfl rfl (wg' 39 rfl rfl S rfl h3 rfl) rfl rfl S (fun w H => y_bin rfl S rfl rfl rfl) fun a S => ?_
   refine m_w rfl rfl (wn rfl) rfl rfl S (fun w H => y_and' rfl h3 S rfl rfl) fun a S => ?_
   exact kk [] _ (S.join 9 48 rfl rfl)
  refine m_w rfl rfl (wn rfl) rfl rfl S (fun w H => y_assign rfl S rfl) fun a S => ?_
  refine m_w rfl rfl (wn rfl) rfl rfl S (fun w H => y_assign rfl S rfl) fun a S => ?_
  refine m_nil (fun w H => ?_)
  have H := H.right
  refine n_then ?_
  have S := (S.nil.cons S 6 rfl).cons S 7 rfl
  refine g_ret ?_
  refine ret2 rfl S rfl rfl ?_
  obtain rfl : i = j := by omega
  exact ⟨i, _, rfl, hj, hlo, hhi, H.toExt⟩
end Go.Proofs.Ytcgpbalpihkiiaa
