/- The walks. No condition. -/
import Derived.Test.YtnnendajegdnhaaChecked
import Derived.Test.YtnnendajegdnhaaGwDel
import Derived.Test.YtnnendajegdnhaaFacts
import Derived.Test.YtnnendajegdnhaaPlain
import Derived.Test.YtnnendajegdnhaaPlainTw
import Derived.Test.YtnnendajegdnhaaW14
import Derived.Test.YtnnendajegdnhaaM1
import Derived.Test.YtnnendajegdnhaaPlainTx
namespace Go.Proofs.Ytnnendajegdnhaa
open Go Go.Gw
set_option linter.unusedVariables false
set_option linter.unusedSimpArgs false
/-- foyer/twin.moved -/
theorem tmoved_spec (o : Ow) (w0 : World) :
    Ret Try.prog 36 #[.agg (Ow.enc o).toArray] w0 (fun v w => v = .bool (movedB o) ∧ Ext w0 w) := by
 refine ret_of_wp (nt := 12) Try.func36 rfl rfl rfl (fl := [(0, .agg (Ow.enc o).toArray)]) rfl (fun a S => ?_)
 have H := HSat.start w0
 refine gsr ?_
 refine wl_of (op_boxa (wn rfl) rfl rfl rfl S H rfl fun b1 a w S H => ?_)
 refine ga S fun a S => ?_
 refine gnt ?_
 refine gsr ?_
 refine gy rfl rfl rfl S (y_faddrb rfl Ffo66_4 S rfl) fun a S => ?_
 refine gy rfl rfl rfl S (y_load rfl Fsca3 S H rfl rfl) fun a S => ?_
 refine gy rfl rfl rfl S (y_bin rfl S rfl rfl rfl) fun a S => ?_
 refine gm S fun a S => ?_
 refine' wl_and 4 6 rfl S H rfl rfl rfl rfl rfl rfl rfl (fun _ S => (wn rfl)) (fun h1 kk => ?yh1) (fun a w S H => ?_)
 case yh1 =>
  have h1p := h1; try simp only [DL] at h1p
  refine gz 6 h1 S rfl rfl rfl rfl rfl rfl (y_faddrb rfl Ffo66_0 S rfl) fun a S => ?_
  refine gz 6 h1 S rfl rfl rfl rfl rfl rfl (y_faddrb rfl Ffo60_2 S rfl) fun a S => ?_
  refine gz 6 h1 S rfl rfl rfl rfl rfl rfl (y_load rfl Fsca3 S H rfl rfl) fun a S => ?_
  refine gz 6 h1 S rfl rfl rfl rfl rfl rfl (y_bin rfl S rfl rfl rfl) fun a S => ?_
  refine gy rfl rfl rfl S (y_and' rfl h1 S rfl rfl) fun a S => ?_
  exact kk _ _ (S.join 5 11 rfl rfl) H
 refine ga S fun a S => ?_
 refine gnt ?_
 have S := S.nil.cons S 2 rfl
 refine g_ret ?_
 refine ret1 rfl S rfl ?_
 exact ⟨rfl, H.toExt⟩
/-- (*foyer/twin.Twin).Drop$1$1 -/
theorem dropP_spec (x : Ow) (bs : Nat) (serial : Int) (w0 : World) (hb : w0.heap[bs]? = some (.cells [.int .i64 serial].toArray 3 (0, 0))) :
    Ret Try.prog 35 #[.agg (Ow.enc x).toArray, .pointer (some ⟨bs, 0, none⟩)] w0 (fun v w => v = .bool (dropP serial x) ∧ Ext w0 w) := by
 refine ret_of_wp (nt := 13) Try.func35 rfl rfl rfl (fl := [(0, .agg (Ow.enc x).toArray), (1, .pointer (some ⟨bs, 0, none⟩))]) rfl (fun a S => ?_)
 have H := HSat.start w0
 have H := H.ro0 (Atom.ro (Cel bs 3 [.int .i64 serial])) rfl (hb)
 refine gsr ?_
 refine wl_of (op_boxa (wn rfl) rfl rfl rfl S H rfl fun b2 a w S H => ?_)
 refine ga S fun a S => ?_
 refine gnt ?_
 refine gsr ?_
 refine gy rfl rfl rfl S (y_faddrb rfl Ffo66_0 S rfl) fun a S => ?_
 refine gy rfl rfl rfl S (y_faddrb rfl Ffo60_0 S rfl) fun a S => ?_
 refine gy rfl rfl rfl S (y_load rfl Fsca3 S H rfl rfl) fun a S => ?_
 refine gy rfl rfl rfl S (y_load rfl Fsca3 S H rfl rfl) fun a S => ?_
 refine gy rfl rfl rfl S (y_bin rfl S rfl rfl rfl) fun a S => ?_
 refine gm S fun a S => ?_
 refine' wl_and 2 9 rfl S H rfl rfl rfl rfl rfl rfl rfl (fun _ S => (wn rfl)) (fun h1 kk => ?yh1) (fun a w S H => ?_)
 case yh1 =>
  have h1p := h1; try simp only [DL] at h1p
  refine gz 9 h1 S rfl rfl rfl rfl rfl rfl (y_load0 rfl S H rfl (by exact Fagg66)) fun a S => ?_
  refine wl_of (op_call (wg' 9 rfl rfl S rfl h1 rfl) rfl rfl S (co_func rfl Try.call36 S rfl) (tmoved_spec x _) fun v w hc a S => ?_)
  obtain ⟨rfl, he⟩ := hc
  have H := H.ext he
  refine gy rfl rfl rfl S (y_and' rfl h1 S rfl rfl) fun a S => ?_
  exact kk _ _ (S.join 3 12 rfl rfl) H
 refine ga S fun a S => ?_
 refine gnt ?_
 have S := S.nil.cons S 3 rfl
 refine g_ret ?_
 refine ret1 rfl S rfl ?_
 exact ⟨rfl, H.toExt⟩
/-- slices.IndexFunc[[]foyer/api.Owned,foyer/api.Owned] -/
theorem idxOw_spec (v : Value) (xs : List Ow) (f : FuncId) (cap : List Value) (he : Enters Try.prog f) (pr : Ow → Bool) (w0 : World) (hv : IsSl w0 v 11 Ow.enc xs)
    (hstep : ∀ x ∈ xs, ∀ w, Ext w0 w → Ret Try.prog f ([Value.agg (Ow.enc x).toArray] ++ cap).toArray w (fun u w' => u = .bool (pr x) ∧ Ext w w')) :
    Ret Try.prog 34 #[v, .func (.func f) #[] cap.toArray] w0 (fun u w => ∃ z : Int, u = .int .i64 z ∧ ((z = -1 ∧ ∀ x ∈ xs, pr x = false) ∨ ∃ j : Nat, ∃ h : j < xs.length, z = j ∧ pr xs[j] = true ∧ ∀ q (hq : q < xs.length), q < j → pr xs[q] = false) ∧ Ext w0 w) := by
 refine ret_of_wp (nt := 19) Try.func34 rfl rfl rfl (fl := [(0, v), (1, .func (.func f) #[] cap.toArray)]) rfl (fun a S => ?_)
 have H := HSat.start w0
 have H := H.ro0 (Sl v 11 Ow.enc xs) rfl (hv)
 have hlen := hv.len
 refine gsr ?_
 refine ga S fun a S => ?_
 refine gnt ?_
 refine g_seq ?_
 refine gsr ?_
 refine gm S fun a S => ?_
 refine gy rfl rfl rfl S (y_lens rfl Try.underlying23 S H rfl) fun a S => ?_
 refine gm S fun a S => ?_
 refine gnt ?_
 refine g_block ?_
 have SU := ((S.nil.cons S 1 rfl).cons S 0 rfl).cons S 7 rfl
 refine loop_k (X := Nat) SU (fun k => [(8, .int .i64 (k : Int))]) (fun k => k ≤ xs.length ∧ (∀ j (h : j < xs.length), j < k → pr xs[j] = false)) (fun k => xs.length - k) 0 (S.nil.cons S 8 rfl) H (⟨by omega, fun j h hj => by omega⟩) (fun k a w S H hi => ?_)
 simp only [List.cons_append, List.nil_append] at S hi
 obtain ⟨hk, hpr⟩ := hi
 refine gsr ?_
 refine gy rfl rfl rfl S (y_bin rfl S rfl rfl rfl) fun a S => ?_
 refine gnt ?_
 refine g_seq ?_
 refine c_if S rfl (fun h1 => ?_) (fun h1 => ?_)
 ·have h1p := h1; try simp only [DL] at h1p
  refine g_skip ?_
  refine n_then ?_
  refine g_seq ?_
  refine g_block ?_
  refine gsr ?_
  refine gm S fun a S => ?_
  refine ga S fun a S => ?_
  refine gnt ?_
  refine gsr ?_
  refine gm S fun a S => ?_
  refine gm S fun a S => ?_
  refine gm S fun a S => ?_
  refine gy rfl rfl rfl S (y_iaddrn rfl Try.underlying23 Fsiz66 S H rfl rfl (by first | assumption | omega | (simp only [LL]; omega))) fun a S => ?_
  refine gy rfl rfl rfl S (y_loadsa _ rfl S H rfl (by exact Fagg66) (by first | assumption | omega | (simp only [LL]; omega))) fun a S => ?_
  refine wl_of (op_call (wn rfl) rfl rfl S (co_value rfl he S rfl rfl) (hstep _ (List.getElem_mem (by omega)) w H.toExt) fun v w hc a S => ?_)
  obtain ⟨rfl, he1⟩ := hc
  have H := H.ext he1
  refine gnt ?_
  have S := (((((S.nil.cons S 1 rfl).cons S 0 rfl).cons S 7 rfl).cons S 8 rfl).cons S 5 rfl).cons S 16 rfl
  refine c_if S rfl (fun h2 => ?_) (fun h2 => ?_)
  ·have h2p := h2; try simp only [DL] at h2p
   refine gsr ?_
   refine gm S fun a S => ?_
   refine ga S fun a S => ?_
   refine gnt ?_
   refine g_ret ?_
   refine r_block (r_then (r_then (r_block (r_then (ret1 rfl S rfl ?_)))))
   exact ⟨_, rfl, .inr ⟨k, by omega, rfl, h2, hpr⟩, H.toExt⟩
  ·have h2p := h2; try simp only [DL] at h2p
   refine g_skip ?_
   refine n_block ?_
   refine n_then ?_
   refine g_region ?_
   refine gy rfl rfl rfl S (y_add rfl S rfl rfl (by omega)) fun a S => ?_
   refine gm S fun a S => ?_
   refine gnt ?_
   refine ⟨k + 1, S.nil.cons S 8 rfl, ((S.nil.cons S 1 rfl).cons S 0 rfl).cons S 7 rfl, H, ?_, ?_⟩
   · exact ⟨by omega, fun j h hj => by by_cases hjk : j < k; exact hpr j h hjk; (obtain rfl : j = k := by omega); exact h2⟩
   · omega
 ·have h1p := h1; try simp only [DL] at h1p
  refine g_exit ?_
  refine x_then (x_then (x_eq ?_))
  refine n_then ?_
  have S := S.nil
  refine gsr ?_
  refine ga S fun a S => ?_
  refine gnt ?_
  refine g_ret ?_
  refine ret1 rfl S rfl ?_
  obtain rfl : k = xs.length := by omega
  exact ⟨_, rfl, .inl ⟨rfl, fun x hx => by obtain ⟨j, hj, rfl⟩ := List.getElem_of_mem hx; exact hpr j hj hj⟩, H.toExt⟩
/-- slices.IndexFunc[[]int,int] -/
theorem idxI_spec (v : Value) (xs : List Int) (f : FuncId) (cap : List Value) (he : Enters Try.prog f) (pr : Int → Bool) (w0 : World) (hv : IsSl w0 v 1 encI xs)
    (hstep : ∀ x ∈ xs, ∀ w, Ext w0 w → Ret Try.prog f ([Value.int .i64 x] ++ cap).toArray w (fun u w' => u = .bool (pr x) ∧ Ext w w')) :
    Ret Try.prog 71 #[v, .func (.func f) #[] cap.toArray] w0 (fun u w => ∃ z : Int, u = .int .i64 z ∧ ((z = -1 ∧ ∀ x ∈ xs, pr x = false) ∨ ∃ j : Nat, ∃ h : j < xs.length, z = j ∧ pr xs[j] = true ∧ ∀ q (hq : q < xs.length), q < j → pr xs[q] = false) ∧ Ext w0 w) := by
 refine ret_of_wp (nt := 19) Try.func71 rfl rfl rfl (fl := [(0, v), (1, .func (.func f) #[] cap.toArray)]) rfl (fun a S => ?_)
 have H := HSat.start w0
 have H := H.ro0 (Sl v 1 encI xs) rfl (hv)
 have hlen := hv.len
 refine gsr ?_
 refine ga S fun a S => ?_
 refine gnt ?_
 refine g_seq ?_
 refine gsr ?_
 refine gm S fun a S => ?_
 refine gy rfl rfl rfl S (y_lens rfl Try.underlying39 S H rfl) fun a S => ?_
 refine gm S fun a S => ?_
 refine gnt ?_
 refine g_block ?_
 have SU := ((S.nil.cons S 1 rfl).cons S 0 rfl).cons S 7 rfl
 refine loop_k (X := Nat) SU (fun k => [(8, .int .i64 (k : Int))]) (fun k => k ≤ xs.length ∧ (∀ j (h : j < xs.length), j < k → pr xs[j] = false)) (fun k => xs.length - k) 0 (S.nil.cons S 8 rfl) H (⟨by omega, fun j h hj => by omega⟩) (fun k a w S H hi => ?_)
 simp only [List.cons_append, List.nil_append] at S hi
 obtain ⟨hk, hpr⟩ := hi
 refine gsr ?_
 refine gy rfl rfl rfl S (y_bin rfl S rfl rfl rfl) fun a S => ?_
 refine gnt ?_
 refine g_seq ?_
 refine c_if S rfl (fun h1 => ?_) (fun h1 => ?_)
 ·have h1p := h1; try simp only [DL] at h1p
  refine g_skip ?_
  refine n_then ?_
  refine g_seq ?_
  refine g_block ?_
  refine gsr ?_
  refine gm S fun a S => ?_
  refine ga S fun a S => ?_
  refine gnt ?_
  refine gsr ?_
  refine gm S fun a S => ?_
  refine gm S fun a S => ?_
  refine gm S fun a S => ?_
  refine gy rfl rfl rfl S (y_iaddrn rfl Try.underlying39 Fsiz3 S H rfl rfl (by first | assumption | omega | (simp only [LL]; omega))) fun a S => ?_
  refine gy rfl rfl rfl S (y_loads _ rfl Fsca3 S H rfl (by first | assumption | omega | (simp only [LL]; omega)) rfl) fun a S => ?_
  refine wl_of (op_call (wn rfl) rfl rfl S (co_value rfl he S rfl rfl) (hstep _ (List.getElem_mem (by omega)) w H.toExt) fun v w hc a S => ?_)
  obtain ⟨rfl, he1⟩ := hc
  have H := H.ext he1
  refine gnt ?_
  have S := (((((S.nil.cons S 1 rfl).cons S 0 rfl).cons S 7 rfl).cons S 8 rfl).cons S 5 rfl).cons S 16 rfl
  refine c_if S rfl (fun h2 => ?_) (fun h2 => ?_)
  ·have h2p := h2; try simp only [DL] at h2p
   refine gsr ?_
   refine gm S fun a S => ?_
   refine ga S fun a S => ?_
   refine gnt ?_
   refine g_ret ?_
   refine r_block (r_then (r_then (r_block (r_then (ret1 rfl S rfl ?_)))))
   exact ⟨_, rfl, .inr ⟨k, by omega, rfl, h2, hpr⟩, H.toExt⟩
  ·have h2p := h2; try simp only [DL] at h2p
   refine g_skip ?_
   refine n_block ?_
   refine n_then ?_
   refine g_region ?_
   refine gy rfl rfl rfl S (y_add rfl S rfl rfl (by omega)) fun a S => ?_
   refine gm S fun a S => ?_
   refine gnt ?_
   refine ⟨k + 1, S.nil.cons S 8 rfl, ((S.nil.cons S 1 rfl).cons S 0 rfl).cons S 7 rfl, H, ?_, ?_⟩
   · exact ⟨by omega, fun j h hj => by by_cases hjk : j < k; exact hpr j h hjk; (obtain rfl : j = k := by omega); exact h2⟩
   · omega
 ·have h1p := h1; try simp only [DL] at h1p
  refine g_exit ?_
  refine x_then (x_then (x_eq ?_))
  refine n_then ?_
  have S := S.nil
  refine gsr ?_
  refine ga S fun a S => ?_
  refine gnt ?_
  refine g_ret ?_
  refine ret1 rfl S rfl ?_
  obtain rfl : k = xs.length := by omega
  exact ⟨_, rfl, .inl ⟨rfl, fun x hx => by obtain ⟨j, hj, rfl⟩ := List.getElem_of_mem hx; exact hpr j hj hj⟩, H.toExt⟩
/-- slices.Clone[[]foyer/api.Owned,foyer/api.Owned] -/
theorem cloneOw_spec (v : Value) (xs : List Ow) (w0 : World) (hv : IsSl w0 v 11 Ow.enc xs) (hok : ∀ o ∈ xs, o.ok) (hl : xs.length ≤ 200000) :
    Ret Try.prog 29 #[v] w0 (fun u w => HSat No w0 [OSl 66 u 11 Ow.enc xs] w) := by
 refine ret_of_wp (nt := 8) Try.func29 rfl rfl rfl (fl := [(0, v)]) rfl (fun a S => ?_)
 have H := HSat.start w0
 obtain ⟨pv, cv, rfl⟩ := hv.shape
 have H := H.ro0 (Sl (.slice pv xs.length cv) 11 Ow.enc xs) rfl (hv)
 refine gsr ?_
 refine ga S fun a S => ?_
 refine gnt ?_
 refine g_seq ?_
 refine gsr ?_
 refine gm S fun a S => ?_
 refine gy rfl rfl rfl S (y_eqsl rfl Try.underlying23 S rfl rfl) fun a S => ?_
 refine gnt ?_
 refine c_if S rfl (fun h1 => ?_) (fun h1 => ?_)
 ·have h1p := h1; try simp only [DL] at h1p
  have hxs : xs = [] := by
    match xs, hv with
    | [], _ => rfl
    | x :: r, hv => obtain ⟨b, off, c, he, _⟩ := hv.cells 0 (by simp); simp only [Value.slice.injEq] at he; rw [he.1] at h1; simp at h1
  refine gsr ?_
  refine ga S fun a S => ?_
  refine gnt ?_
  refine g_ret ?_
  refine r_then (ret1 rfl S rfl ?_)
  rw [hxs]; exact (H.nilO 66 11 Ow.enc).take [OSl 66 (.slice none 0 0) 11 Ow.enc []]
 ·have h1p := h1; try simp only [DL] at h1p
  refine g_skip ?_
  refine n_then ?_
  refine gsr ?_
  refine wl_of (op_buildSlice (wn rfl) rfl rfl rfl Try.underlying23 Finf66 S H (idx := []) rfl rfl rfl (z := []) (by kernel_rfl) (cs := []) rfl fun b5 a w S H => ?_)
  have H := H.celO [] Ow.enc 11 (m := 0) rfl (by simp) rfl (by omega)
  refine gm S fun a S => ?_
  refine wl_of (op_appendT (wn rfl) rfl rfl rfl Try.underlying23 Finf66 rfl rfl S H rfl rfl (by exact fun y hy u hu => List.all_eq_true.1 (Ow.all (hok y hy)) u hu) (by first | assumption | omega | (simp only [LL]; omega)) (by first | assumption | omega | (simp only [LL]; omega)) fun u7 a w S H => ?_)
  refine ga S fun a S => ?_
  refine gnt ?_
  have S := S.nil.cons S 2 rfl
  refine g_ret ?_
  refine ret1 rfl S rfl ?_
  exact H.take [OSl 66 u7 11 Ow.enc ([] ++ xs)]
/-- slices.Clone[[]foyer/api.Place,foyer/api.Place] -/
theorem clonePl_spec (v : Value) (xs : List Pl) (w0 : World) (hv : IsSl w0 v 9 Pl.enc xs) (hl : xs.length ≤ 200000) :
    Ret Try.prog 40 #[v] w0 (fun u w => HSat No w0 [OSl 85 u 9 Pl.enc xs] w) := by
 refine ret_of_wp (nt := 8) Try.func40 rfl rfl rfl (fl := [(0, v)]) rfl (fun a S => ?_)
 have H := HSat.start w0
 obtain ⟨pv, cv, rfl⟩ := hv.shape
 have H := H.ro0 (Sl (.slice pv xs.length cv) 9 Pl.enc xs) rfl (hv)
 refine gsr ?_
 refine ga S fun a S => ?_
 refine gnt ?_
 refine g_seq ?_
 refine gsr ?_
 refine gm S fun a S => ?_
 refine gy rfl rfl rfl S (y_eqsl rfl Try.underlying22 S rfl rfl) fun a S => ?_
 refine gnt ?_
 refine c_if S rfl (fun h1 => ?_) (fun h1 => ?_)
 ·have h1p := h1; try simp only [DL] at h1p
  have hxs : xs = [] := by
    match xs, hv with
    | [], _ => rfl
    | x :: r, hv => obtain ⟨b, off, c, he, _⟩ := hv.cells 0 (by simp); simp only [Value.slice.injEq] at he; rw [he.1] at h1; simp at h1
  refine gsr ?_
  refine ga S fun a S => ?_
  refine gnt ?_
  refine g_ret ?_
  refine r_then (ret1 rfl S rfl ?_)
  rw [hxs]; exact (H.nilO 85 9 Pl.enc).take [OSl 85 (.slice none 0 0) 9 Pl.enc []]
 ·have h1p := h1; try simp only [DL] at h1p
  refine g_skip ?_
  refine n_then ?_
  refine gsr ?_
  refine wl_of (op_buildSlice (wn rfl) rfl rfl rfl Try.underlying22 Finf85 S H (idx := []) rfl rfl rfl (z := []) (by kernel_rfl) (cs := []) rfl fun b5 a w S H => ?_)
  have H := H.celO [] Pl.enc 9 (m := 0) rfl (by simp) rfl (by omega)
  refine gm S fun a S => ?_
  refine wl_of (op_appendT (wn rfl) rfl rfl rfl Try.underlying22 Finf85 rfl rfl S H rfl rfl (by simp [Pl.enc, Value.oneCell']) (by first | assumption | omega | (simp only [LL]; omega)) (by first | assumption | omega | (simp only [LL]; omega)) fun u7 a w S H => ?_)
  refine ga S fun a S => ?_
  refine gnt ?_
  have S := S.nil.cons S 2 rfl
  refine g_ret ?_
  refine ret1 rfl S rfl ?_
  exact H.take [OSl 85 u7 9 Pl.enc ([] ++ xs)]
/-- slices.Delete[[]foyer/api.Owned,foyer/api.Owned] -/
theorem deleteOw_spec {M : Nat → Prop} {u0 : World} {l : List Atom} (v : Value) (xs : List Ow) (i : Nat) (w0 : World) (h0 : HSat M u0 (OSl 66 v 11 Ow.enc xs :: l) w0) (hi : i < xs.length) (hok : ∀ o ∈ xs, o.ok) :
    Ret Try.prog 37 #[v, .int .i64 (i : Int), .int .i64 ((i + 1 : Nat) : Int)] w0 (fun u w => HSat M u0 (OSl 66 u 11 Ow.enc (xs.eraseIdx i) :: l) w) := by
 refine ret_of_wp (nt := 33) Try.func37 rfl rfl rfl (fl := [(0, v), (1, .int .i64 (i : Int)), (2, .int .i64 ((i + 1 : Nat) : Int))]) rfl (fun a S => ?_)
 have H := h0
 have hcap := H.cap v
 have hlv := (H.sl v).len
 refine gsr ?_
 refine ga S fun a S => ?_
 refine gnt ?_
 refine gsr ?_
 refine gm S fun a S => ?_
 refine gm S fun a S => ?_
 refine gm S fun a S => ?_
 refine gm S fun a S => ?_
 refine gy rfl rfl rfl S (y_lens rfl Try.underlying23 S H rfl) fun a S => ?_
 refine gy rfl rfl rfl S (y_slice3 rfl Try.underlying23 Fsiz66 S H rfl rfl rfl rfl (by omega) (by omega) (by omega)) fun a S => ?_
 refine gnt ?_
 have S := (((S.nil.cons S 2 rfl).cons S 1 rfl).cons S 0 rfl).cons S 6 rfl
 refine g_seq ?_
 refine gsr ?_
 refine gm S fun a S => ?_
 refine gm S fun a S => ?_
 refine gy rfl rfl rfl S (y_bin rfl S rfl rfl rfl) fun a S => ?_
 refine gnt ?_
 refine c_if S rfl (fun h1 => ?_) (fun h1 => ?_)
 ·have h1p := h1; try simp only [DL] at h1p
  all_goals (
    have := h1p; omega)
 ·have h1p := h1; try simp only [DL] at h1p
  refine g_skip ?_
  refine n_then ?_
  refine gsr ?_
  refine gm S fun a S => ?_
  refine gy rfl rfl rfl S (y_lens rfl Try.underlying23 S H rfl) fun a S => ?_
  refine ga S fun a S => ?_
  refine gnt ?_
  have S := ((((S.nil.cons S 2 rfl).cons S 1 rfl).cons S 0 rfl).cons S 6 rfl).cons S 7 rfl
  refine g_seq ?_
  refine region_st (loud := [6]) (tails := [6]) (free := []) [0, 1, 2, 3, 4, 5, 6, 7] [] Fmo (by kernel_rfl) (by kernel_rfl) rfl H ?_
  refine m_w rfl rfl (wn rfl) rfl rfl S (fun w H => y_move rfl S rfl) fun a S => ?_
  refine m_w rfl rfl (wn rfl) rfl rfl S (fun w H => y_move rfl S rfl) fun a S => ?_
  refine m_w rfl rfl (wn rfl) rfl rfl S (fun w H => y_sliceH rfl Try.underlying23 Fsiz66 S H rfl rfl (by first | assumption | omega | (simp only [LL]; omega))) fun a S => ?_
  refine m_w rfl rfl (wn rfl) rfl rfl S (fun w H => y_move rfl S rfl) fun a S => ?_
  refine m_w rfl rfl (wn rfl) rfl rfl S (fun w H => y_move rfl S rfl) fun a S => ?_
  refine m_w rfl rfl (wn rfl) rfl rfl S (fun w H => y_sliceL rfl Try.underlying23 Fsiz66 S H rfl rfl (by first | assumption | omega | (simp only [LL]; omega))) fun a S => ?_
  refine m_l rfl rfl (fun w H => op_appendD (v) (i) (i + 1) (wn rfl) rfl rfl rfl Try.underlying23 Fsiz66 S H rfl rfl (by omega) (by omega) (by exact fun y hy u hu => List.all_eq_true.1 (Ow.all (hok y hy)) u hu) fun a w S hc26 H => m_tail H rfl ?_)
  refine m_w rfl rfl (wn rfl) rfl rfl S (fun w H => y_assign rfl S rfl) fun a S => ?_
  refine m_nil (fun w H => ?_)
  refine n_then ?_
  have S := ((S.nil.cons S 6 rfl).cons S 7 rfl).cons S 0 rfl
  refine gsr ?_
  refine gm S fun a S => ?_
  refine gm S fun a S => ?_
  refine gy rfl rfl rfl S (y_lens rfl Try.underlying23 S H rfl) fun a S => ?_
  refine gm S fun a S => ?_
  refine gy rfl rfl rfl S (y_sliceT rfl Try.underlying23 Fsiz66 S H rfl rfl rfl rfl (by first | assumption | omega | (simp only [LL]; omega)) hc26) fun a S => ?_
  refine wl_of (op_clearT (shrV v (i + 1 - i)) (wn rfl) rfl rfl Try.underlying23 Finf66 rfl (by kernel_rfl) S H rfl hc26 fun a w S H => ?_)
  refine gnt ?_
  have S := (S.nil.cons S 6 rfl).cons S 0 rfl
  refine gsr ?_
  refine gm S fun a S => ?_
  refine ga S fun a S => ?_
  refine gnt ?_
  refine g_ret ?_
  refine ret1 rfl S rfl ?_
  rw [List.eraseIdx_eq_take_drop_succ]; exact H
set_option maxHeartbeats 1000000 in
/-- slices.DeleteFunc[[]int,int] -/
theorem delFunc_spec {M : Nat → Prop} {u0 : World} {l : List Atom} (v : Value) (xs : List Int) (f : FuncId) (cap : List Value) (he0 : Enters Try.prog f) (pr : Int → Bool) (w0 : World) (h0 : HSat M u0 (OSl 3 v 1 encI xs :: l) w0)
    (hstep : ∀ x : Int, ∀ w, Ret Try.prog f ([Value.int .i64 x] ++ cap).toArray w (fun u w' => u = .bool (pr x) ∧ Ext w w')) :
    Ret Try.prog 55 #[v, .func (.func f) #[] cap.toArray] w0 (fun u w => HSat M u0 (Sl u 1 encI (KP pr xs) :: l) w) := by
 refine ret_of_wp (nt := 42) Try.func55 rfl rfl rfl (fl := [(0, v), (1, .func (.func f) #[] cap.toArray)]) rfl (fun a S => ?_)
 have H := h0
 have hlen := (H.sl v).len
 refine gsr ?_
 refine ga S fun a S => ?_
 refine gnt ?_
 refine gsr ?_
 refine gm S fun a S => ?_
 refine gm S fun a S => ?_
 refine wl_of (op_call (wn rfl) rfl rfl S (co_func rfl Try.call71 S rfl) (idxI_spec v xs f cap he0 pr _ (H.sl v) (fun x _ w _ => hstep x w)) fun v w hc a S => ?_)
 obtain ⟨z, rfl, hz, he⟩ := hc
 have H := H.ext he
 refine ga S fun a S => ?_
 refine gnt ?_
 refine g_seq ?_
 refine gsr ?_
 refine gm S fun a S => ?_
 refine gy rfl rfl rfl S (y_bin rfl S rfl rfl rfl) fun a S => ?_
 refine gnt ?_
 have S := ((((S.nil.cons S 1 rfl).cons S 0 rfl).cons S 4 rfl).cons S 5 rfl).cons S 12 rfl
 refine c_if S rfl (fun h1 => ?_) (fun h1 => ?_)
 ·have h1p := h1; try simp only [DL] at h1p
  have hall : ∀ x ∈ xs, pr x = false := by rcases hz with ⟨_, h⟩ | ⟨q, hq, e, _⟩; exact h; exfalso; have := h1p; omega
  refine gsr ?_
  refine gm S fun a S => ?_
  refine ga S fun a S => ?_
  refine gnt ?_
  refine g_ret ?_
  refine r_then (ret1 rfl S rfl ?_)
  have H := H.giveSl
  rw [kp_all hall]; exact H
 ·have h1p := h1; try simp only [DL] at h1p
  obtain ⟨rfl, hall⟩ | ⟨q, hq, rfl, hpq, hbq⟩ := hz
  · exfalso; have := h1p; omega
  refine g_skip ?_
  refine n_then ?_
  refine g_seq ?_
  refine gsr ?_
  refine gm S fun a S => ?_
  refine gy rfl rfl rfl S (y_add rfl S rfl rfl (by omega)) fun a S => ?_
  refine ga S fun a S => ?_
  refine gnt ?_
  refine g_block ?_
  have hq0 := kp_start hq hpq hbq
  have hq1 : (xs.take q).length = q := by rw [List.length_take]; omega
  have SU := ((S.nil.cons S 1 rfl).cons S 0 rfl).cons S 4 rfl
  refine loopW (X := Nat × List Int) SU (fun x => [(5, .int .i64 ((KP pr (xs.take x.1)).length : Int)), (6, .int .i64 (x.1 : Int))]) (fun x w => x.1 ≤ xs.length ∧ x.2.length = xs.length ∧ (KP pr (xs.take x.1)).length < x.1 ∧ x.2.take (KP pr (xs.take x.1)).length = KP pr (xs.take x.1) ∧ x.2.drop x.1 = xs.drop x.1 ∧ HSat M u0 (OSl 3 v 1 encI x.2 :: l) w) (fun x => xs.length - x.1) (q + 1, xs) ((S.nil.cons S 6 rfl).cons S 5 (by dsimp only; rw [hq0, hq1]; rfl)) (⟨by dsimp only; omega, rfl, by dsimp only; rw [hq0, hq1]; omega, by dsimp only; rw [hq0, hq1], rfl, H⟩) (fun x a w S hW => ?_)
  simp only [List.cons_append, List.nil_append] at S
  clear H
  obtain ⟨k, ys⟩ := x
  obtain ⟨hk, hlys, hlow, htk, hys, H⟩ := hW
  dsimp only at S H hk hlys hlow htk hys
  obtain ⟨i, hi⟩ : ∃ i, i = (KP pr (xs.take k)).length := ⟨_, rfl⟩
  rw [← hi] at S hlow htk
  refine g_seq ?_
  refine gsr ?_
  refine gm S fun a S => ?_
  refine gm S fun a S => ?_
  refine gy rfl rfl rfl S (y_lens rfl Try.underlying39 S H rfl) fun a S => ?_
  refine gy rfl rfl rfl S (y_bin rfl S rfl rfl rfl) fun a S => ?_
  refine gnt ?_
  refine c_if S rfl (fun h2 => ?_) (fun h2 => ?_)
  ·have h2p := h2; try simp only [DL] at h2p
   have hkl : k < xs.length := by omega
   have hkl2 : k < ys.length := by omega
   have hkd := drop_get hys hkl hkl2
   have hil2 : i < ys.length := by omega
   refine g_skip ?_
   refine n_then ?_
   have S := ((((S.nil.cons S 1 rfl).cons S 0 rfl).cons S 4 rfl).cons S 6 rfl).cons S 5 rfl
   refine g_seq ?_
   refine g_block ?_
   refine gsr ?_
   refine gm S fun a S => ?_
   refine gm S fun a S => ?_
   refine gy rfl rfl rfl S (y_iaddrn rfl Try.underlying39 Fsiz3 S H rfl rfl (by first | assumption | omega | (simp only [List.length_append, List.length_take, List.length_replicate]; omega))) fun a S => ?_
   refine gy rfl rfl rfl S (y_loads _ rfl Fsca3 S H rfl (by first | assumption | omega | (simp only [List.length_append, List.length_take, List.length_replicate]; omega)) rfl) fun a S => ?_
   refine ga S fun a S => ?_
   refine gnt ?_
   have S := (((((S.nil.cons S 1 rfl).cons S 0 rfl).cons S 4 rfl).cons S 6 rfl).cons S 5 rfl).cons S 7 rfl
   refine gsr ?_
   refine gm S fun a S => ?_
   refine gm S fun a S => ?_
   refine wl_of (op_call (wn rfl) rfl rfl S (co_value rfl he0 S rfl rfl) (hstep _ _) fun v w hc a S => ?_)
   obtain ⟨rfl, he⟩ := hc
   have H := H.ext he
   refine gy rfl rfl rfl S (y_not rfl S rfl) fun a S => ?_
   refine gnt ?_
   refine c_if S rfl (fun h3 => ?_) (fun h3 => ?_)
   ·have h3p := h3; try simp only [DL] at h3p
    have hne : pr xs[k] = false := by have := h3p; rw [← hkd]; simpa using this
    have hst := kp_keep hkl hne
    refine gsr ?_
    refine gm S fun a S => ?_
    refine gm S fun a S => ?_
    refine gm S fun a S => ?_
    refine gy rfl rfl rfl S (y_iaddrn rfl Try.underlying39 Fsiz3 S H rfl rfl (by first | assumption | omega | (simp only [List.length_append, List.length_take, List.length_replicate]; omega))) fun a S => ?_
    refine wl_of (op_store1 _ (ys[k]) (wn rfl) rfl rfl S H rfl rfl rfl rfl Fsiz3 (by first | assumption | omega | (simp only [List.length_append, List.length_take, List.length_replicate]; omega)) (by exact rfl) fun a w S H => ?_)
    refine gnt ?_
    have S := ((((S.nil.cons S 1 rfl).cons S 0 rfl).cons S 4 rfl).cons S 6 rfl).cons S 5 rfl
    refine g_region ?_
    refine gm S fun a S => ?_
    refine gy rfl rfl rfl S (y_add rfl S rfl rfl (by omega)) fun a S => ?_
    refine ga S fun a S => ?_
    refine gl_nil ?_
    refine n_block ?_
    refine n_then ?_
    refine g_region ?_
    refine gm S fun a S => ?_
    refine gy rfl rfl rfl S (y_add rfl S rfl rfl (by omega)) fun a S => ?_
    refine ga S fun a S => ?_
    refine gnt ?_
    first
    | exact ⟨(k + 1, ys.set i ys[k]), (S.nil.cons S 6 rfl).cons S 5 (by dsimp only; rw [hst, List.length_append, ← hi]; rfl), ((S.nil.cons S 1 rfl).cons S 0 rfl).cons S 4 rfl, ⟨by dsimp only; omega, by dsimp only; rw [List.length_set]; exact hlys, by dsimp only; rw [hst, List.length_append, ← hi]; simp only [List.length_cons, List.length_nil]; omega, by dsimp only; rw [hst, List.length_append, ← hi]; simp only [List.length_cons, List.length_nil, Nat.zero_add]; rw [set_take hil2, htk, hkd], by dsimp only; rw [set_drop (by omega)]; exact drop_more hys, H⟩, by dsimp only; omega⟩
    | exact ⟨(k + 1, ys), (S.nil.cons S 6 rfl).cons S 5 (by dsimp only; rw [hst, ← hi]; rfl), ((S.nil.cons S 1 rfl).cons S 0 rfl).cons S 4 rfl, ⟨by dsimp only; omega, hlys, by dsimp only; rw [hst, ← hi]; omega, by dsimp only; rw [hst, ← hi]; exact htk, drop_more hys, H⟩, by dsimp only; omega⟩
   ·have h3p := h3; try simp only [DL] at h3p
    have hne : pr xs[k] = true := by have := h3p; rw [← hkd]; simpa using this
    have hst := kp_drop hkl hne
    refine g_skip ?_
    refine n_block ?_
    refine n_then ?_
    have S := ((((S.nil.cons S 1 rfl).cons S 0 rfl).cons S 4 rfl).cons S 6 rfl).cons S 5 rfl
    refine g_region ?_
    refine gm S fun a S => ?_
    refine gy rfl rfl rfl S (y_add rfl S rfl rfl (by omega)) fun a S => ?_
    refine ga S fun a S => ?_
    refine gnt ?_
    first
    | exact ⟨(k + 1, ys.set i ys[k]), (S.nil.cons S 6 rfl).cons S 5 (by dsimp only; rw [hst, List.length_append, ← hi]; rfl), ((S.nil.cons S 1 rfl).cons S 0 rfl).cons S 4 rfl, ⟨by dsimp only; omega, by dsimp only; rw [List.length_set]; exact hlys, by dsimp only; rw [hst, List.length_append, ← hi]; simp only [List.length_cons, List.length_nil]; omega, by dsimp only; rw [hst, List.length_append, ← hi]; simp only [List.length_cons, List.length_nil, Nat.zero_add]; rw [set_take hil2, htk, hkd], by dsimp only; rw [set_drop (by omega)]; exact drop_more hys, H⟩, by dsimp only; omega⟩
    | exact ⟨(k + 1, ys), (S.nil.cons S 6 rfl).cons S 5 (by dsimp only; rw [hst, ← hi]; rfl), ((S.nil.cons S 1 rfl).cons S 0 rfl).cons S 4 rfl, ⟨by dsimp only; omega, hlys, by dsimp only; rw [hst, ← hi]; omega, by dsimp only; rw [hst, ← hi]; exact htk, drop_more hys, H⟩, by dsimp only; omega⟩
  ·have h2p := h2; try simp only [DL] at h2p
   obtain rfl : k = xs.length := by omega
   have hil : i ≤ ys.length := by omega
   refine g_exit ?_
   refine x_then (x_then (x_eq ?_))
   refine n_then ?_
   have S := ((S.nil.cons S 0 rfl).cons S 4 rfl).cons S 5 rfl
   refine gsr ?_
   refine gm S fun a S => ?_
   refine gm S fun a S => ?_
   refine gy rfl rfl rfl S (y_sliceL rfl Try.underlying39 Fsiz3 S H rfl rfl (by first | assumption | omega | (simp only [List.length_append, List.length_take, List.length_replicate]; omega))) fun a S => ?_
   refine wl_of (op_clearL (v) (i) (0) (wn rfl) rfl rfl Try.underlying39 Finf3 rfl rfl (by kernel_rfl) rfl S H rfl (by first | assumption | omega | (simp only [List.length_append, List.length_take, List.length_replicate]; omega)) fun a w S H => ?_)
   refine gnt ?_
   refine gsr ?_
   refine gm S fun a S => ?_
   refine gm S fun a S => ?_
   refine gy rfl rfl rfl S (y_sliceH rfl Try.underlying39 Fsiz3 S H rfl rfl (by first | assumption | omega | (simp only [List.length_append, List.length_take, List.length_replicate]; omega))) fun a S => ?_
   refine ga S fun a S => ?_
   refine gnt ?_
   have S := S.nil.cons S 4 rfl
   refine g_ret ?_
   refine ret1 rfl S rfl ?_
   have H := H.cutSl 0 i
   have hti : (ys.take i).length = i := by rw [List.length_take]; omega
   rw [List.take_append_of_le_length (by omega), List.take_of_length_le (by omega), List.drop_zero, htk, List.take_length] at H
   exact H
/-- (*foyer/twin.Twin).seated$1 -/
theorem seatedP_spec (k : Int) (w0 : World) :
    Ret Try.prog 56 #[.int .i64 k] w0 (fun u w => u = .bool (decide (k < 0)) ∧ Ext w0 w) := by
 refine ret_of_wp (nt := 5) Try.func56 rfl rfl rfl (fl := [(0, .int .i64 k)]) rfl (fun a S => ?_)
 have H := HSat.start w0
 refine gsr ?_
 refine ga S fun a S => ?_
 refine gnt ?_
 refine gsr ?_
 refine gm S fun a S => ?_
 refine gy rfl rfl rfl S (y_bin rfl S rfl rfl rfl) fun a S => ?_
 refine ga S fun a S => ?_
 refine gnt ?_
 have S := S.nil.cons S 2 rfl
 refine g_ret ?_
 refine ret1 rfl S rfl ?_
 exact ⟨rfl, H.toExt⟩
set_option maxHeartbeats 1000000 in
/-- (*foyer/twin.Twin).seated -/
theorem seated_spec (b : Nat) (v1 v2 vt : Value) (c : Bool) (v : Value) (ps next : List Pl) (w0 : World) (hb : w0.heap[b]? = some (.cells [v1, v2, vt, .bool c].toArray 76 (0, 0))) (hv : IsSl w0 v 9 Pl.enc ps) (hv2 : IsSl w0 v2 9 Pl.enc next) (hl1 : ps.length ≤ 4000) (hl2 : next.length ≤ 4000) :
    Ret Try.prog 39 #[.pointer (some ⟨b, 0, none⟩), v] w0 (fun u w => u = .int .i64 (rk ps next : Int) ∧ Ext w0 w) := by
 refine ret_of_wp (nt := 27) Try.func39 rfl rfl rfl (fl := [(0, .pointer (some ⟨b, 0, none⟩)), (1, v)]) rfl (fun a S => ?_)
 have H := HSat.start w0
 have H := H.ro0 (Atom.ro (Cel b 76 [v1, v2, vt, .bool c])) rfl (hb)
 have H := H.ro0 (Sl v 9 Pl.enc ps) rfl (hv)
 have H := H.ro0 (Sl v2 9 Pl.enc next) rfl (hv2)
 refine gsr ?_
 refine ga S fun a S => ?_
 refine gnt ?_
 refine g_seq ?_
 refine cut (fun a w => ∃ vgM, St 27 [(5, vgM)] a ∧ HSat No w0 [OSl 3 vgM 1 encI (gotL (edgesL ps next) (next.length : Int))] w) ?_ ?_
 ·skip
  refine t_st (tails := [18]) [Atom.ro (Cel b 76 [v1, v2, vt, .bool c]), Sl v 9 Pl.enc ps, Sl v2 9 Pl.enc next] Fmo H ?_
  refine t_q 0 rfl (by kernel_rfl) (rem' := [1, 2, 3, 4, 5, 6, 7, 8, 9, 10, 11, 12, 13, 14, 15, 16, 17, 18, 19]) rfl rfl rfl rfl S (fun w H => y_move rfl S rfl) fun a S => ?_
  refine t_q 1 rfl (by kernel_rfl) (rem' := [2, 3, 4, 5, 6, 7, 8, 9, 10, 11, 12, 13, 14, 15, 16, 17, 18, 19]) rfl rfl rfl rfl S (fun w H => y_move rfl S rfl) fun a S => ?_
  refine t_q 2 rfl (by kernel_rfl) (rem' := [3, 4, 5, 6, 7, 8, 9, 10, 11, 12, 13, 14, 15, 16, 17, 18, 19]) rfl rfl rfl rfl S (fun w H => y_nilCheck rfl S rfl) fun a S => ?_
  refine t_q 3 rfl (by kernel_rfl) (rem' := [4, 5, 6, 7, 8, 9, 10, 11, 12, 13, 14, 15, 16, 17, 18, 19]) rfl rfl rfl rfl S (fun w H => y_faddrb rfl Ffo76_1 S rfl) fun a S => ?_
  refine t_q 4 rfl (by kernel_rfl) (rem' := [5, 6, 7, 8, 9, 10, 11, 12, 13, 14, 15, 16, 17, 18, 19]) rfl rfl rfl rfl S (fun w H => y_load rfl Fsca22 S H rfl rfl) fun a S => ?_
  refine t_q 6 rfl (by kernel_rfl) (rem' := [5, 7, 8, 9, 10, 11, 12, 13, 14, 15, 16, 17, 18, 19]) rfl rfl rfl rfl S (fun w H => y_move rfl S rfl) fun a S => ?_
  refine t_q 7 rfl (by kernel_rfl) (rem' := [5, 8, 9, 10, 11, 12, 13, 14, 15, 16, 17, 18, 19]) rfl rfl rfl rfl S (fun w H => y_nilCheck rfl S rfl) fun a S => ?_
  refine t_q 8 rfl (by kernel_rfl) (rem' := [5, 9, 10, 11, 12, 13, 14, 15, 16, 17, 18, 19]) rfl rfl rfl rfl S (fun w H => y_faddrb rfl Ffo76_1 S rfl) fun a S => ?_
  refine t_q 9 rfl (by kernel_rfl) (rem' := [5, 10, 11, 12, 13, 14, 15, 16, 17, 18, 19]) rfl rfl rfl rfl S (fun w H => y_load rfl Fsca22 S H rfl rfl) fun a S => ?_
  refine t_q 10 rfl (by kernel_rfl) (rem' := [5, 11, 12, 13, 14, 15, 16, 17, 18, 19]) rfl rfl rfl rfl S (fun w H => y_lens rfl Try.underlying22 S H rfl) fun a S => ?_
  refine t_b [5, 16] (by kernel_rfl) rfl (fa2 ?_ ?_)
  ·refine ⟨_, rfl, fun w H => ?_⟩
   refine op_call (wn rfl) rfl rfl S (co_func rfl Try.call46 S rfl) (edges_spec v v2 ps next _ (H.sl v) (H.sl v2) (by omega) (by omega)) fun u14 w hc a S => ?_
   obtain ⟨qs, hqs, H1⟩ := hc
   have H := H.call2 H1 rfl rfl
   have hgr : gr qs = edgesL ps next := hqs
   have hvg : validG (gr qs) next.length = true := by rw [hgr]; exact edges_valid hl1 hl2
   refine t_n H (rem' := [11, 12, 13, 14, 15, 16, 17, 18, 19]) rfl ?_
   refine t_b [11, 16] (by kernel_rfl) rfl (fa2 ?_ ?_)
   ·refine ⟨_, rfl, fun w H => ?_⟩
    refine op_call (wn rfl) rfl rfl S (co_func rfl Try.call45 S rfl) (match_ok u14 qs next.length _ (H.sl u14) (H.rws 3 qs) hvg) fun v w hc a S => ?_
    obtain ⟨vgM, vlM, vrM, rfl, H1⟩ := hc
    have H := H.call3 H1 rfl rfl rfl
    refine t_n H (rem' := [12, 13, 14, 15, 16, 17, 18, 19]) rfl ?_
    refine t_q 12 rfl (by kernel_rfl) (rem' := [13, 14, 15, 16, 17, 18, 19]) rfl rfl rfl rfl S (fun w H => y_move rfl S rfl) fun a S => ?_
    refine t_q 13 rfl (by kernel_rfl) (rem' := [14, 15, 16, 17, 18, 19]) rfl rfl rfl rfl S (fun w H => y_extract rfl S rfl rfl) fun a S => ?_
    refine t_q 14 rfl (by kernel_rfl) (rem' := [15, 16, 17, 18, 19]) rfl rfl rfl rfl S (fun w H => y_extract rfl S rfl rfl) fun a S => ?_
    refine t_p 15 rfl (by kernel_rfl) (rem' := [16, 17, 18, 19]) rfl rfl rfl rfl S (fun w => y_extract rfl S rfl rfl) fun a S => ?_
    refine t_b1 16 (by kernel_rfl) rfl fun w H => ?_
    refine op_alloc (wn rfl) rfl rfl rfl S H Fzer41 fun b6 a w S H => ?_
    refine t_n H (rem' := [17, 18, 19]) rfl ?_
    refine t_q 17 rfl (by kernel_rfl) (rem' := [18, 19]) rfl rfl rfl rfl S (fun w H => y_assign rfl S rfl) fun a S => ?_
    refine t_b1 18 (by kernel_rfl) rfl fun w H => ?_
    refine op_storea (wn rfl) rfl rfl S H rfl rfl (by rw [List.all_cons, List.all_cons, H.sl1 vlM, H.sl1 vrM]; rfl) Fsiz41 rfl (cs' := [_, _]) rfl fun a w S H => ?_
    refine t_tail H rfl (rem' := [19]) rfl ?_
    refine t_q 19 rfl (by kernel_rfl) (rem' := []) rfl rfl rfl rfl S (fun w H => y_assign rfl S rfl) fun a S => ?_
    refine t_nil (fun w H => ?_)
    exact ⟨vgM, S.nil.cons S 5 rfl, by rw [← hgr]; exact H.take [OSl 3 vgM 1 encI (gotL (gr qs) (next.length : Int))]⟩
   ·refine ⟨_, rfl, fun w H => ?_⟩
    refine op_alloc (wn rfl) rfl rfl rfl S H Fzer41 fun b6 a w S H => ?_
    refine t_n H (rem' := [11, 12, 13, 14, 15, 17, 18, 19]) rfl ?_
    refine t_b1 11 (by kernel_rfl) rfl fun w H => ?_
    refine op_call (wn rfl) rfl rfl S (co_func rfl Try.call45 S rfl) (match_ok u14 qs next.length _ (H.sl u14) (H.rws 3 qs) hvg) fun v w hc a S => ?_
    obtain ⟨vgM, vlM, vrM, rfl, H1⟩ := hc
    have H := H.call3 H1 rfl rfl rfl
    refine t_n H (rem' := [12, 13, 14, 15, 17, 18, 19]) rfl ?_
    refine t_q 12 rfl (by kernel_rfl) (rem' := [13, 14, 15, 17, 18, 19]) rfl rfl rfl rfl S (fun w H => y_move rfl S rfl) fun a S => ?_
    refine t_q 13 rfl (by kernel_rfl) (rem' := [14, 15, 17, 18, 19]) rfl rfl rfl rfl S (fun w H => y_extract rfl S rfl rfl) fun a S => ?_
    refine t_q 14 rfl (by kernel_rfl) (rem' := [15, 17, 18, 19]) rfl rfl rfl rfl S (fun w H => y_extract rfl S rfl rfl) fun a S => ?_
    refine t_p 15 rfl (by kernel_rfl) (rem' := [17, 18, 19]) rfl rfl rfl rfl S (fun w => y_extract rfl S rfl rfl) fun a S => ?_
    refine t_q 17 rfl (by kernel_rfl) (rem' := [18, 19]) rfl rfl rfl rfl S (fun w H => y_assign rfl S rfl) fun a S => ?_
    refine t_b1 18 (by kernel_rfl) rfl fun w H => ?_
    refine op_storea (wn rfl) rfl rfl S H rfl rfl (by rw [List.all_cons, List.all_cons, H.sl1 vlM, H.sl1 vrM]; rfl) Fsiz41 rfl (cs' := [_, _]) rfl fun a w S H => ?_
    refine t_tail H rfl (rem' := [19]) rfl ?_
    refine t_q 19 rfl (by kernel_rfl) (rem' := []) rfl rfl rfl rfl S (fun w H => y_assign rfl S rfl) fun a S => ?_
    refine t_nil (fun w H => ?_)
    exact ⟨vgM, S.nil.cons S 5 rfl, by rw [← hgr]; exact H.take [OSl 3 vgM 1 encI (gotL (gr qs) (next.length : Int))]⟩
  ·refine ⟨_, rfl, fun w H => ?_⟩
   refine op_alloc (wn rfl) rfl rfl rfl S H Fzer41 fun b6 a w S H => ?_
   refine t_n H (rem' := [5, 11, 12, 13, 14, 15, 17, 18, 19]) rfl ?_
   refine t_b1 5 (by kernel_rfl) rfl fun w H => ?_
   refine op_call (wn rfl) rfl rfl S (co_func rfl Try.call46 S rfl) (edges_spec v v2 ps next _ (H.sl v) (H.sl v2) (by omega) (by omega)) fun u14 w hc a S => ?_
   obtain ⟨qs, hqs, H1⟩ := hc
   have H := H.call2 H1 rfl rfl
   have hgr : gr qs = edgesL ps next := hqs
   have hvg : validG (gr qs) next.length = true := by rw [hgr]; exact edges_valid hl1 hl2
   refine t_n H (rem' := [11, 12, 13, 14, 15, 17, 18, 19]) rfl ?_
   refine t_b1 11 (by kernel_rfl) rfl fun w H => ?_
   refine op_call (wn rfl) rfl rfl S (co_func rfl Try.call45 S rfl) (match_ok u14 qs next.length _ (H.sl u14) (H.rws 3 qs) hvg) fun v w hc a S => ?_
   obtain ⟨vgM, vlM, vrM, rfl, H1⟩ := hc
   have H := H.call3 H1 rfl rfl rfl
   refine t_n H (rem' := [12, 13, 14, 15, 17, 18, 19]) rfl ?_
   refine t_q 12 rfl (by kernel_rfl) (rem' := [13, 14, 15, 17, 18, 19]) rfl rfl rfl rfl S (fun w H => y_move rfl S rfl) fun a S => ?_
   refine t_q 13 rfl (by kernel_rfl) (rem' := [14, 15, 17, 18, 19]) rfl rfl rfl rfl S (fun w H => y_extract rfl S rfl rfl) fun a S => ?_
   refine t_q 14 rfl (by kernel_rfl) (rem' := [15, 17, 18, 19]) rfl rfl rfl rfl S (fun w H => y_extract rfl S rfl rfl) fun a S => ?_
   refine t_p 15 rfl (by kernel_rfl) (rem' := [17, 18, 19]) rfl rfl rfl rfl S (fun w => y_extract rfl S rfl rfl) fun a S => ?_
   refine t_q 17 rfl (by kernel_rfl) (rem' := [18, 19]) rfl rfl rfl rfl S (fun w H => y_assign rfl S rfl) fun a S => ?_
   refine t_b1 18 (by kernel_rfl) rfl fun w H => ?_
   refine op_storea (wn rfl) rfl rfl S H rfl rfl (by rw [List.all_cons, List.all_cons, H.sl1 vlM, H.sl1 vrM]; rfl) Fsiz41 rfl (cs' := [_, _]) rfl fun a w S H => ?_
   refine t_tail H rfl (rem' := [19]) rfl ?_
   refine t_q 19 rfl (by kernel_rfl) (rem' := []) rfl rfl rfl rfl S (fun w H => y_assign rfl S rfl) fun a S => ?_
   refine t_nil (fun w H => ?_)
   exact ⟨vgM, S.nil.cons S 5 rfl, by rw [← hgr]; exact H.take [OSl 3 vgM 1 encI (gotL (gr qs) (next.length : Int))]⟩
 rintro a w ⟨vgM, S, H⟩
 refine gsr ?_
 refine gm S fun a S => ?_
 refine wl_of (op_call (wn rfl) rfl rfl S (co_func rfl Try.call55 S rfl) (delFunc_spec vgM (gotL (edgesL ps next) (next.length : Int)) 56 [] Try.call56 (fun y => decide (y < 0)) _ H (fun x w => seatedP_spec x w)) fun v w hc a S => ?_)
 have H := hc
 
 refine gy rfl rfl rfl S (y_lens rfl Try.underlying39 S H rfl) fun a S => ?_
 refine ga S fun a S => ?_
 refine gnt ?_
 have S := S.nil.cons S 4 rfl
 refine g_ret ?_
 refine ret1 rfl S rfl ?_
 exact ⟨by rw [rk_kp hl1 hl2], H.toExt⟩
end Go.Proofs.Ytnnendajegdnhaa
