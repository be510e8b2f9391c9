/- The walks. No condition. -/
import Derived.Test.YtenaoaegichecaaChecked
import Derived.Test.YtenaoaegichecaaGwBits
import Derived.Test.YtenaoaegichecaaFacts
import Derived.Test.YtenaoaegichecaaPlain
namespace Go.Proofs.Ytenaoaegichecaa
open Go Go.Gw
set_option linter.unusedVariables false
set_option linter.unusedSimpArgs false
/-- slices.Index[[]int,int] -/
theorem index_spec (v : Value) (xs : List Int) (n : Int) (w0 : World) (hv : IsSl w0 v 1 encI xs) :
    Ret Try.prog 55 #[v, .int .i64 n] w0 (fun u w => ∃ i : Int, u = .int .i64 i ∧ decide (n ∈ xs) = decide (i ≥ 0) ∧ Ext w0 w) := by
 refine ret_of_wp (nt := 19) Try.func55 rfl rfl rfl (fl := [(0, v), (1, .int .i64 n)]) rfl (fun a S => ?_)
 have H := HSat.start w0
 have H := H.ro0 (Sl v 1 encI xs) rfl (hv)
 have hl := hv.len
 refine g_seq ?_
 refine g_region ?_
 refine gy rfl rfl rfl S (y_assign rfl S rfl) fun a S => ?_
 refine gl_nil ?_
 refine n_then ?_
 refine g_seq ?_
 refine g_seq ?_
 refine g_region ?_
 refine gy rfl rfl rfl S (y_move rfl S rfl) fun a S => ?_
 refine gy rfl rfl rfl S (y_lens rfl Try.underlying25 S H rfl) fun a S => ?_
 refine gy rfl rfl rfl S (y_move rfl S rfl) fun a S => ?_
 refine gl_nil ?_
 refine n_then ?_
 refine g_block ?_
 have SU := ((S.nil.cons S 1 rfl).cons S 0 rfl).cons S 7 rfl
 refine loop_k (X := Nat) SU (fun k => [(8, .int .i64 (k : Int))]) (fun k => k ≤ xs.length ∧ ∀ j (h : j < xs.length), j < k → xs[j] ≠ n) (fun k => xs.length - k) 0 (S.nil.cons S 8 rfl) H (⟨by omega, fun j h hj => by omega⟩) (fun k a w S H hi => ?_)
 simp only [List.cons_append, List.nil_append] at S hi
 obtain ⟨hk, hno⟩ := hi
 refine g_seq ?_
 refine g_region ?_
 refine gy rfl rfl rfl S (y_bin rfl S rfl rfl rfl) fun a S => ?_
 refine gl_nil ?_
 refine n_then ?_
 refine g_seq ?_
 refine c_if S rfl (fun h1 => ?_) (fun h1 => ?_)
 ·have h1p := h1; try simp only [DL] at h1p
  refine g_skip ?_
  refine n_then ?_
  refine g_seq ?_
  refine g_block ?_
  refine g_seq ?_
  refine g_region ?_
  refine gy rfl rfl rfl S (y_move rfl S rfl) fun a S => ?_
  refine gy rfl rfl rfl S (y_assign rfl S rfl) fun a S => ?_
  refine gl_nil ?_
  refine n_then ?_
  refine g_seq ?_
  refine g_region ?_
  refine gy rfl rfl rfl S (y_move rfl S rfl) fun a S => ?_
  refine gy rfl rfl rfl S (y_move rfl S rfl) fun a S => ?_
  refine gy rfl rfl rfl S (y_move rfl S rfl) fun a S => ?_
  refine gy rfl rfl rfl S (y_iaddrn rfl Try.underlying25 Fsiz3 S H rfl rfl (by first | assumption | omega | (simp only [List.length_append, List.length_take, List.length_drop, List.length_replicate, List.length_set, List.length_map, List.length_cons, List.length_nil]; omega))) fun a S => ?_
  refine gy rfl rfl rfl S (y_loads _ rfl Fsca3 S H rfl (by first | assumption | omega | (simp only [List.length_append, List.length_take, List.length_drop, List.length_replicate, List.length_set, List.length_map, List.length_cons, List.length_nil]; omega)) rfl) fun a S => ?_
  refine gy rfl rfl rfl S (y_bin rfl S rfl rfl rfl) fun a S => ?_
  refine gl_nil ?_
  refine n_then ?_
  refine c_if S rfl (fun h2 => ?_) (fun h2 => ?_)
  ·have h2p := h2; try simp only [DL] at h2p
   refine g_seq ?_
   refine g_region ?_
   refine gy rfl rfl rfl S (y_move rfl S rfl) fun a S => ?_
   refine gy rfl rfl rfl S (y_assign rfl S rfl) fun a S => ?_
   refine gl_nil ?_
   refine n_then ?_
   refine g_ret ?_
   refine r_block (r_then (r_then (r_block (r_then (ret1 rfl S rfl ?_)))))
   exact ⟨k, rfl, by rw [decide_eq_true (show (k : Int) ≥ 0 by omega)]; exact decide_eq_true (by rw [h2p]; exact List.getElem_mem _), H.toExt⟩
  ·have h2p := h2; try simp only [DL] at h2p
   refine g_skip ?_
   refine n_block ?_
   refine n_then ?_
   refine g_region ?_
   refine gy rfl rfl rfl S (y_add rfl S rfl rfl (by omega)) fun a S => ?_
   refine gy rfl rfl rfl S (y_move rfl S rfl) fun a S => ?_
   refine gl_nil ?_
   refine n_then ?_
   refine ⟨k + 1, S.nil.cons S 8 rfl, ((S.nil.cons S 1 rfl).cons S 0 rfl).cons S 7 rfl, H, ?_, ?_⟩
   · exact ⟨by omega, fun j h hj => by by_cases hjk : j < k; exact hno j h hjk; (obtain rfl : j = k := by omega); exact fun e => h2p e.symm⟩
   · omega
 ·have h1p := h1; try simp only [DL] at h1p
  refine g_exit ?_
  refine x_then (x_then (x_eq ?_))
  refine n_then ?_
  have S := S.nil
  refine g_seq ?_
  refine g_region ?_
  refine gy rfl rfl rfl S (y_assign rfl S rfl) fun a S => ?_
  refine gl_nil ?_
  refine n_then ?_
  refine g_ret ?_
  refine ret1 rfl S rfl ?_
  exact ⟨-1, rfl, decide_eq_false (find_no (fun j hj => hno j hj (by omega))), H.toExt⟩
/-- slices.Contains[[]int,int] -/
theorem contains_spec (v : Value) (xs : List Int) (n : Int) (w0 : World) (hv : IsSl w0 v 1 encI xs) :
    Ret Try.prog 37 #[v, .int .i64 n] w0 (fun u w => u = .bool (decide (n ∈ xs)) ∧ Ext w0 w) := by
 refine ret_of_wp (nt := 9) Try.func37 rfl rfl rfl (fl := [(0, v), (1, .int .i64 n)]) rfl (fun a S => ?_)
 have H := HSat.start w0
 refine g_seq ?_
 refine g_region ?_
 refine gy rfl rfl rfl S (y_assign rfl S rfl) fun a S => ?_
 refine gl_nil ?_
 refine n_then ?_
 refine g_seq ?_
 refine g_region ?_
 refine gy rfl rfl rfl S (y_move rfl S rfl) fun a S => ?_
 refine gy rfl rfl rfl S (y_move rfl S rfl) fun a S => ?_
 refine wl_of (op_call (wn rfl) rfl rfl S (co_func rfl Try.call55 S rfl) (index_spec v xs n w0 hv) fun v w hc a S => ?_)
 obtain ⟨i, rfl, hany, he1⟩ := hc
 have H := H.ext he1
 refine gy rfl rfl rfl S (y_bin rfl S rfl rfl rfl) fun a S => ?_
 refine gy rfl rfl rfl S (y_assign rfl S rfl) fun a S => ?_
 refine gl_nil ?_
 refine n_then ?_
 have S := S.nil.cons S 4 rfl
 refine g_ret ?_
 refine ret1 rfl S rfl ?_
 exact ⟨by rw [hany], H.toExt⟩
/-- slices.IndexFunc[[]int,int] -/
theorem indexFunc_spec (v : Value) (xs : List Int) (f : FuncId) (cap : List Value) (he : Enters Try.prog f) (pr : Int → Bool) (w0 : World) (hv : IsSl w0 v 1 encI xs)
    (hstep : ∀ x ∈ xs, ∀ w, Ext w0 w → Ret Try.prog f ([Value.int .i64 x] ++ cap).toArray w (fun u w' => u = .bool (pr x) ∧ Ext w w')) :
    Ret Try.prog 66 #[v, .func (.func f) #[] cap.toArray] w0 (fun u w => (u = .int .i64 (-1) ∧ xs.any pr = false ∧ Ext w0 w) ∨ (∃ j : Nat, u = .int .i64 (j : Int) ∧ xs.any pr = true ∧ Ext w0 w)) := by
 refine ret_of_wp (nt := 19) Try.func66 rfl rfl rfl (fl := [(0, v), (1, .func (.func f) #[] cap.toArray)]) rfl (fun a S => ?_)
 have H := HSat.start w0
 have H := H.ro0 (Sl v 1 encI xs) rfl (hv)
 have hlen := hv.len
 refine g_seq ?_
 refine g_region ?_
 refine gy rfl rfl rfl S (y_assign rfl S rfl) fun a S => ?_
 refine gl_nil ?_
 refine n_then ?_
 refine g_seq ?_
 refine g_seq ?_
 refine g_region ?_
 refine gy rfl rfl rfl S (y_move rfl S rfl) fun a S => ?_
 refine gy rfl rfl rfl S (y_lens rfl Try.underlying25 S H rfl) fun a S => ?_
 refine gy rfl rfl rfl S (y_move rfl S rfl) fun a S => ?_
 refine gl_nil ?_
 refine n_then ?_
 refine g_block ?_
 have SU := ((S.nil.cons S 1 rfl).cons S 0 rfl).cons S 7 rfl
 refine loop_k (X := Nat) SU (fun k => [(8, .int .i64 (k : Int))]) (fun k => k ≤ xs.length ∧ (∀ j (h : j < xs.length), j < k → pr xs[j] = false)) (fun k => xs.length - k) 0 (S.nil.cons S 8 rfl) H (⟨by omega, fun j h hj => by omega⟩) (fun k a w S H hi => ?_)
 simp only [List.cons_append, List.nil_append] at S hi
 obtain ⟨hk, hpr⟩ := hi
 refine g_seq ?_
 refine g_region ?_
 refine gy rfl rfl rfl S (y_bin rfl S rfl rfl rfl) fun a S => ?_
 refine gl_nil ?_
 refine n_then ?_
 refine g_seq ?_
 refine c_if S rfl (fun h1 => ?_) (fun h1 => ?_)
 ·have h1p := h1; try simp only [DL] at h1p
  refine g_skip ?_
  refine n_then ?_
  refine g_seq ?_
  refine g_block ?_
  refine g_seq ?_
  refine g_region ?_
  refine gy rfl rfl rfl S (y_move rfl S rfl) fun a S => ?_
  refine gy rfl rfl rfl S (y_assign rfl S rfl) fun a S => ?_
  refine gl_nil ?_
  refine n_then ?_
  refine g_seq ?_
  refine g_region ?_
  refine gy rfl rfl rfl S (y_move rfl S rfl) fun a S => ?_
  refine gy rfl rfl rfl S (y_move rfl S rfl) fun a S => ?_
  refine gy rfl rfl rfl S (y_move rfl S rfl) fun a S => ?_
  refine gy rfl rfl rfl S (y_iaddrn rfl Try.underlying25 Fsiz3 S H rfl rfl (by first | assumption | omega | (simp only [List.length_append, List.length_take, List.length_drop, List.length_replicate, List.length_set, List.length_map, List.length_cons, List.length_nil]; omega))) fun a S => ?_
  refine gy rfl rfl rfl S (y_loads _ rfl Fsca3 S H rfl (by first | assumption | omega | (simp only [List.length_append, List.length_take, List.length_drop, List.length_replicate, List.length_set, List.length_map, List.length_cons, List.length_nil]; omega)) rfl) fun a S => ?_
  refine wl_of (op_call (wn rfl) rfl rfl S (co_value rfl he S rfl rfl) (hstep _ (List.getElem_mem (by omega)) w H.toExt) fun v w hc a S => ?_)
  obtain ⟨rfl, he1⟩ := hc
  have H := H.ext he1
  refine gl_nil ?_
  refine n_then ?_
  refine c_if S rfl (fun h2 => ?_) (fun h2 => ?_)
  ·have h2p := h2; try simp only [DL] at h2p
   refine g_seq ?_
   refine g_region ?_
   refine gy rfl rfl rfl S (y_move rfl S rfl) fun a S => ?_
   refine gy rfl rfl rfl S (y_assign rfl S rfl) fun a S => ?_
   refine gl_nil ?_
   refine n_then ?_
   refine g_ret ?_
   refine r_block (r_then (r_then (r_block (r_then (ret1 rfl S rfl ?_)))))
   exact .inr ⟨k, rfl, List.any_eq_true.2 ⟨_, List.getElem_mem (by omega), h2⟩, H.toExt⟩
  ·have h2p := h2; try simp only [DL] at h2p
   refine g_skip ?_
   refine n_block ?_
   refine n_then ?_
   refine g_region ?_
   refine gy rfl rfl rfl S (y_add rfl S rfl rfl (by omega)) fun a S => ?_
   refine gy rfl rfl rfl S (y_move rfl S rfl) fun a S => ?_
   refine gl_nil ?_
   refine n_then ?_
   refine ⟨k + 1, S.nil.cons S 8 rfl, ((S.nil.cons S 1 rfl).cons S 0 rfl).cons S 7 rfl, H, ?_, ?_⟩
   · exact ⟨by omega, fun j h hj => by by_cases hjk : j < k; exact hpr j h hjk; (obtain rfl : j = k := by omega); exact h2⟩
   · omega
 ·have h1p := h1; try simp only [DL] at h1p
  refine g_exit ?_
  refine x_then (x_then (x_eq ?_))
  refine n_then ?_
  have S := S.nil
  refine g_seq ?_
  refine g_region ?_
  refine gy rfl rfl rfl S (y_assign rfl S rfl) fun a S => ?_
  refine gl_nil ?_
  refine n_then ?_
  refine g_ret ?_
  refine ret1 rfl S rfl ?_
  obtain rfl : k = xs.length := by omega
  exact .inl ⟨rfl, List.any_eq_false.2 (fun x hx => by obtain ⟨j, hj, rfl⟩ := List.getElem_of_mem hx; simp [hpr j hj hj]), H.toExt⟩
/-- slices.ContainsFunc[[]int,int] -/
theorem containsFunc_spec (v : Value) (xs : List Int) (f : FuncId) (cap : List Value) (he : Enters Try.prog f) (pr : Int → Bool) (w0 : World) (hv : IsSl w0 v 1 encI xs)
    (hstep : ∀ x ∈ xs, ∀ w, Ext w0 w → Ret Try.prog f ([Value.int .i64 x] ++ cap).toArray w (fun u w' => u = .bool (pr x) ∧ Ext w w')) :
    Ret Try.prog 57 #[v, .func (.func f) #[] cap.toArray] w0 (fun u w => u = .bool (xs.any pr) ∧ Ext w0 w) := by
 refine ret_of_wp (nt := 9) Try.func57 rfl rfl rfl (fl := [(0, v), (1, .func (.func f) #[] cap.toArray)]) rfl (fun a S => ?_)
 have H := HSat.start w0
 refine g_seq ?_
 refine g_region ?_
 refine gy rfl rfl rfl S (y_assign rfl S rfl) fun a S => ?_
 refine gl_nil ?_
 refine n_then ?_
 refine g_seq ?_
 refine g_region ?_
 refine gy rfl rfl rfl S (y_move rfl S rfl) fun a S => ?_
 refine gy rfl rfl rfl S (y_move rfl S rfl) fun a S => ?_
 refine wl_of (op_call (wn rfl) rfl rfl S (co_func rfl Try.call66 S rfl) (Ret.mono (indexFunc_spec v xs f cap he pr w0 hv hstep) (fun u w h => (show ∃ i : Int, u = .int .i64 i ∧ xs.any pr = decide (i ≥ 0) ∧ Ext w0 w from by rcases h with ⟨h1, h2, h3⟩ | ⟨j, h1, h2, h3⟩; exact ⟨-1, h1, by rw [h2]; rfl, h3⟩; exact ⟨j, h1, by rw [h2]; simp, h3⟩))) fun v w hc a S => ?_)
 obtain ⟨i, rfl, hany, he1⟩ := hc
 have H := H.ext he1
 refine gy rfl rfl rfl S (y_bin rfl S rfl rfl rfl) fun a S => ?_
 refine gy rfl rfl rfl S (y_assign rfl S rfl) fun a S => ?_
 refine gl_nil ?_
 refine n_then ?_
 have S := S.nil.cons S 4 rfl
 refine g_ret ?_
 refine ret1 rfl S rfl ?_
 exact ⟨by rw [hany], H.toExt⟩
/-- slices.IndexFunc[[][]int,[]int] -/
theorem indexFuncR_spec (v : Value) (xs : List (Value × List Int)) (f : FuncId) (cap : List Value) (he : Enters Try.prog f) (pr : (Value × List Int) → Bool) (w0 : World) (hv : IsSl w0 v 1 encRow xs)
    (hstep : ∀ x ∈ xs, ∀ w, Ext w0 w → Ret Try.prog f ([x.1] ++ cap).toArray w (fun u w' => u = .bool (pr x) ∧ Ext w w')) :
    Ret Try.prog 67 #[v, .func (.func f) #[] cap.toArray] w0 (fun u w => (u = .int .i64 (-1) ∧ xs.any pr = false ∧ Ext w0 w) ∨ (∃ j : Nat, u = .int .i64 (j : Int) ∧ xs.any pr = true ∧ Ext w0 w)) := by
 refine ret_of_wp (nt := 19) Try.func67 rfl rfl rfl (fl := [(0, v), (1, .func (.func f) #[] cap.toArray)]) rfl (fun a S => ?_)
 have H := HSat.start w0
 have H := H.ro0 (Sl v 1 encRow xs) rfl (hv)
 have hlen := hv.len
 refine g_seq ?_
 refine g_region ?_
 refine gy rfl rfl rfl S (y_assign rfl S rfl) fun a S => ?_
 refine gl_nil ?_
 refine n_then ?_
 refine g_seq ?_
 refine g_seq ?_
 refine g_region ?_
 refine gy rfl rfl rfl S (y_move rfl S rfl) fun a S => ?_
 refine gy rfl rfl rfl S (y_lens rfl Try.underlying66 S H rfl) fun a S => ?_
 refine gy rfl rfl rfl S (y_move rfl S rfl) fun a S => ?_
 refine gl_nil ?_
 refine n_then ?_
 refine g_block ?_
 have SU := ((S.nil.cons S 1 rfl).cons S 0 rfl).cons S 7 rfl
 refine loop_k (X := Nat) SU (fun k => [(8, .int .i64 (k : Int))]) (fun k => k ≤ xs.length ∧ (∀ j (h : j < xs.length), j < k → pr xs[j] = false)) (fun k => xs.length - k) 0 (S.nil.cons S 8 rfl) H (⟨by omega, fun j h hj => by omega⟩) (fun k a w S H hi => ?_)
 simp only [List.cons_append, List.nil_append] at S hi
 obtain ⟨hk, hpr⟩ := hi
 refine g_seq ?_
 refine g_region ?_
 refine gy rfl rfl rfl S (y_bin rfl S rfl rfl rfl) fun a S => ?_
 refine gl_nil ?_
 refine n_then ?_
 refine g_seq ?_
 refine c_if S rfl (fun h1 => ?_) (fun h1 => ?_)
 ·have h1p := h1; try simp only [DL] at h1p
  refine g_skip ?_
  refine n_then ?_
  refine g_seq ?_
  refine g_block ?_
  refine g_seq ?_
  refine g_region ?_
  refine gy rfl rfl rfl S (y_move rfl S rfl) fun a S => ?_
  refine gy rfl rfl rfl S (y_assign rfl S rfl) fun a S => ?_
  refine gl_nil ?_
  refine n_then ?_
  refine g_seq ?_
  refine g_region ?_
  refine gy rfl rfl rfl S (y_move rfl S rfl) fun a S => ?_
  refine gy rfl rfl rfl S (y_move rfl S rfl) fun a S => ?_
  refine gy rfl rfl rfl S (y_move rfl S rfl) fun a S => ?_
  refine gy rfl rfl rfl S (y_iaddrn rfl Try.underlying66 Fsiz25 S H rfl rfl (by first | assumption | omega | (simp only [List.length_append, List.length_take, List.length_drop, List.length_replicate, List.length_set, List.length_map, List.length_cons, List.length_nil]; omega))) fun a S => ?_
  refine gy rfl rfl rfl S (y_loads _ rfl Fsca25 S H rfl (by first | assumption | omega | (simp only [List.length_append, List.length_take, List.length_drop, List.length_replicate, List.length_set, List.length_map, List.length_cons, List.length_nil]; omega)) rfl) fun a S => ?_
  refine wl_of (op_call (wn rfl) rfl rfl S (co_value rfl he S rfl rfl) (hstep _ (List.getElem_mem (by omega)) w H.toExt) fun v w hc a S => ?_)
  obtain ⟨rfl, he1⟩ := hc
  have H := H.ext he1
  refine gl_nil ?_
  refine n_then ?_
  refine c_if S rfl (fun h2 => ?_) (fun h2 => ?_)
  ·have h2p := h2; try simp only [DL] at h2p
   refine g_seq ?_
   refine g_region ?_
   refine gy rfl rfl rfl S (y_move rfl S rfl) fun a S => ?_
   refine gy rfl rfl rfl S (y_assign rfl S rfl) fun a S => ?_
   refine gl_nil ?_
   refine n_then ?_
   refine g_ret ?_
   refine r_block (r_then (r_then (r_block (r_then (ret1 rfl S rfl ?_)))))
   exact .inr ⟨k, rfl, List.any_eq_true.2 ⟨_, List.getElem_mem (by omega), h2⟩, H.toExt⟩
  ·have h2p := h2; try simp only [DL] at h2p
   refine g_skip ?_
   refine n_block ?_
   refine n_then ?_
   refine g_region ?_
   refine gy rfl rfl rfl S (y_add rfl S rfl rfl (by omega)) fun a S => ?_
   refine gy rfl rfl rfl S (y_move rfl S rfl) fun a S => ?_
   refine gl_nil ?_
   refine n_then ?_
   refine ⟨k + 1, S.nil.cons S 8 rfl, ((S.nil.cons S 1 rfl).cons S 0 rfl).cons S 7 rfl, H, ?_, ?_⟩
   · exact ⟨by omega, fun j h hj => by by_cases hjk : j < k; exact hpr j h hjk; (obtain rfl : j = k := by omega); exact h2⟩
   · omega
 ·have h1p := h1; try simp only [DL] at h1p
  refine g_exit ?_
  refine x_then (x_then (x_eq ?_))
  refine n_then ?_
  have S := S.nil
  refine g_seq ?_
  refine g_region ?_
  refine gy rfl rfl rfl S (y_assign rfl S rfl) fun a S => ?_
  refine gl_nil ?_
  refine n_then ?_
  refine g_ret ?_
  refine ret1 rfl S rfl ?_
  obtain rfl : k = xs.length := by omega
  exact .inl ⟨rfl, List.any_eq_false.2 (fun x hx => by obtain ⟨j, hj, rfl⟩ := List.getElem_of_mem hx; simp [hpr j hj hj]), H.toExt⟩
/-- slices.ContainsFunc[[][]int,[]int] -/
theorem containsFuncR_spec (v : Value) (xs : List (Value × List Int)) (f : FuncId) (cap : List Value) (he : Enters Try.prog f) (pr : (Value × List Int) → Bool) (w0 : World) (hv : IsSl w0 v 1 encRow xs)
    (hstep : ∀ x ∈ xs, ∀ w, Ext w0 w → Ret Try.prog f ([x.1] ++ cap).toArray w (fun u w' => u = .bool (pr x) ∧ Ext w w')) :
    Ret Try.prog 59 #[v, .func (.func f) #[] cap.toArray] w0 (fun u w => u = .bool (xs.any pr) ∧ Ext w0 w) := by
 refine ret_of_wp (nt := 9) Try.func59 rfl rfl rfl (fl := [(0, v), (1, .func (.func f) #[] cap.toArray)]) rfl (fun a S => ?_)
 have H := HSat.start w0
 refine g_seq ?_
 refine g_region ?_
 refine gy rfl rfl rfl S (y_assign rfl S rfl) fun a S => ?_
 refine gl_nil ?_
 refine n_then ?_
 refine g_seq ?_
 refine g_region ?_
 refine gy rfl rfl rfl S (y_move rfl S rfl) fun a S => ?_
 refine gy rfl rfl rfl S (y_move rfl S rfl) fun a S => ?_
 refine wl_of (op_call (wn rfl) rfl rfl S (co_func rfl Try.call67 S rfl) (Ret.mono (indexFuncR_spec v xs f cap he pr w0 hv hstep) (fun u w h => (show ∃ i : Int, u = .int .i64 i ∧ xs.any pr = decide (i ≥ 0) ∧ Ext w0 w from by rcases h with ⟨h1, h2, h3⟩ | ⟨j, h1, h2, h3⟩; exact ⟨-1, h1, by rw [h2]; rfl, h3⟩; exact ⟨j, h1, by rw [h2]; simp, h3⟩))) fun v w hc a S => ?_)
 obtain ⟨i, rfl, hany, he1⟩ := hc
 have H := H.ext he1
 refine gy rfl rfl rfl S (y_bin rfl S rfl rfl rfl) fun a S => ?_
 refine gy rfl rfl rfl S (y_assign rfl S rfl) fun a S => ?_
 refine gl_nil ?_
 refine n_then ?_
 have S := S.nil.cons S 4 rfl
 refine g_ret ?_
 refine ret1 rfl S rfl ?_
 exact ⟨by rw [hany], H.toExt⟩
/-- foyer/match.increasing -/
theorem increasing_spec (v : Value) (xs : List Int) (n : Int) (w0 : World) (hv : IsSl w0 v 1 encI xs) :
    Ret Try.prog 56 #[v, .int .i64 n] w0 (fun u w => u = .bool (formedB xs n) ∧ Ext w0 w) := by
 refine ret_of_wp (nt := 24) Try.func56 rfl rfl rfl (fl := [(0, v), (1, .int .i64 n)]) rfl (fun a S => ?_)
 have H := HSat.start w0
 have H := H.ro0 (Sl v 1 encI xs) rfl (hv)
 have hl := hv.len
 refine g_seq ?_
 refine g_region ?_
 refine gy rfl rfl rfl S (y_assign rfl S rfl) fun a S => ?_
 refine gl_nil ?_
 refine n_then ?_
 refine g_seq ?_
 refine g_region ?_
 refine gy rfl rfl rfl S (y_assign rfl S rfl) fun a S => ?_
 refine gl_nil ?_
 refine n_then ?_
 refine g_seq ?_
 refine g_seq ?_
 refine g_region ?_
 refine gy rfl rfl rfl S (y_move rfl S rfl) fun a S => ?_
 refine gy rfl rfl rfl S (y_lens rfl Try.underlying25 S H rfl) fun a S => ?_
 refine gy rfl rfl rfl S (y_move rfl S rfl) fun a S => ?_
 refine gl_nil ?_
 refine n_then ?_
 refine g_block ?_
 have SU := ((S.nil.cons S 1 rfl).cons S 8 rfl).cons S 9 rfl
 refine loop_k (X := Nat) SU (fun k => [(5, .int .i64 (if k = 0 then -1 else atI xs (k - 1))), (10, .int .i64 (k : Int))]) (fun k => k ≤ xs.length ∧ ∀ j, j < k → 0 ≤ atI xs j ∧ atI xs j < n ∧ (0 < j → atI xs (j - 1) < atI xs j)) (fun k => xs.length - k) 0 ((S.nil.cons S 10 rfl).cons S 5 rfl) H (⟨by omega, fun j hj => by omega⟩) (fun k a w S H hi => ?_)
 simp only [List.cons_append, List.nil_append] at S hi
 obtain ⟨hk, hno⟩ := hi
 refine g_seq ?_
 refine g_region ?_
 refine gy rfl rfl rfl S (y_bin rfl S rfl rfl rfl) fun a S => ?_
 refine gl_nil ?_
 refine n_then ?_
 refine g_seq ?_
 refine c_if S rfl (fun h1 => ?_) (fun h1 => ?_)
 ·have h1p := h1; try simp only [DL] at h1p
  have hkl : k < xs.length := by omega
  have hat := atI_eq hkl
  have hpr := fun h0 : 0 < k => hno (k - 1) (by omega)
  refine g_skip ?_
  refine n_then ?_
  refine g_seq ?_
  refine g_block ?_
  refine g_seq ?_
  refine g_region ?_
  refine gy rfl rfl rfl S (y_iaddrn rfl Try.underlying25 Fsiz3 S H rfl rfl (by first | assumption | omega | (simp only [List.length_append, List.length_take, List.length_drop, List.length_replicate, List.length_set, List.length_map, List.length_cons, List.length_nil]; omega))) fun a S => ?_
  refine gy rfl rfl rfl S (y_loads _ rfl Fsca3 S H rfl (by first | assumption | omega | (simp only [List.length_append, List.length_take, List.length_drop, List.length_replicate, List.length_set, List.length_map, List.length_cons, List.length_nil]; omega)) rfl) fun a S => ?_
  refine gy rfl rfl rfl S (y_assign rfl S rfl) fun a S => ?_
  refine gl_nil ?_
  refine n_then ?_
  refine g_seq ?_
  refine g_seq ?_
  refine g_region ?_
  refine gy rfl rfl rfl S (y_move rfl S rfl) fun a S => ?_
  refine gy rfl rfl rfl S (y_move rfl S rfl) fun a S => ?_
  refine gy rfl rfl rfl S (y_bin rfl S rfl rfl rfl) fun a S => ?_
  refine gy rfl rfl rfl S (y_move rfl S rfl) fun a S => ?_
  refine' wl_or 3 17 rfl S H rfl rfl rfl rfl rfl rfl rfl (fun _ S => (wn rfl)) (fun h2 kk => ?yh2) (fun a w S H => ?_)
  case yh2 =>
   have h2p := h2; try simp only [DL] at h2p
   refine gz 17 h2 S rfl rfl rfl rfl rfl rfl (y_move rfl S rfl) fun a S => ?_
   refine gz 17 h2 S rfl rfl rfl rfl rfl rfl (y_move rfl S rfl) fun a S => ?_
   refine gz 17 h2 S rfl rfl rfl rfl rfl rfl (y_bin rfl S rfl rfl rfl) fun a S => ?_
   refine gy rfl rfl rfl S (y_or' rfl h2 S rfl rfl) fun a S => ?_
   exact kk _ _ (S.join 4 21 rfl rfl) H
  refine gl_nil ?_
  refine n_then ?_
  refine c_if S rfl (fun h3 => ?_) (fun h3 => ?_)
  ·have h3p := h3; try simp only [DL] at h3p
   refine g_seq ?_
   refine g_region ?_
   refine gy rfl rfl rfl S (y_assign rfl S rfl) fun a S => ?_
   refine gl_nil ?_
   refine n_then ?_
   refine g_ret ?_
   refine r_then (r_block (r_then (r_then (r_block (r_then (ret1 rfl S rfl ?_))))))
   exact ⟨congrArg Value.bool (formed_no k hkl hno (by rw [hat]; split at h3p <;> omega)).symm, H.toExt⟩
  ·have h3p := h3; try simp only [DL] at h3p
   refine g_skip ?_
   refine n_then ?_
   refine g_region ?_
   refine gy rfl rfl rfl S (y_move rfl S rfl) fun a S => ?_
   refine gy rfl rfl rfl S (y_assign rfl S rfl) fun a S => ?_
   refine gl_nil ?_
   refine n_block ?_
   refine n_then ?_
   refine g_region ?_
   refine gy rfl rfl rfl S (y_add rfl S rfl rfl (by omega)) fun a S => ?_
   refine gy rfl rfl rfl S (y_move rfl S rfl) fun a S => ?_
   refine gl_nil ?_
   refine n_then ?_
   refine ⟨k + 1, (S.nil.cons S 10 rfl).cons S 5 (by simp [List.lookup, hat]), ((S.nil.cons S 1 rfl).cons S 8 rfl).cons S 9 rfl, H, ⟨by omega, fun j hj => ?_⟩, by omega⟩
   by_cases hjk : j < k
   · exact hno j hjk
   · obtain rfl : j = k := by omega
     rw [hat]; split at h3p <;> exact ⟨by omega, by omega, fun h0 => by omega⟩
 ·have h1p := h1; try simp only [DL] at h1p
  refine g_exit ?_
  refine x_then (x_then (x_eq ?_))
  refine n_then ?_
  have S := S.nil
  refine g_seq ?_
  refine g_region ?_
  refine gy rfl rfl rfl S (y_assign rfl S rfl) fun a S => ?_
  refine gl_nil ?_
  refine n_then ?_
  refine g_ret ?_
  refine ret1 rfl S rfl ?_
  obtain rfl : k = xs.length := by omega
  exact ⟨congrArg Value.bool (formedB_iff.2 ⟨hno⟩).symm, H.toExt⟩

/-- foyer/match.valid$1$1 -/
theorem valid11_spec (n : Int) (b : Nat) (right : Int) (w0 : World) (hb : w0.heap[b]? = some (.cells [Value.int .i64 right].toArray 3 (0, 0))) :
    Ret Try.prog 61 #[.int .i64 n, .pointer (some ⟨b, 0, none⟩)] w0 (fun u w => u = .bool (!okN right n) ∧ Ext w0 w) := by
 refine ret_of_wp (nt := 11) Try.func61 rfl rfl rfl (fl := [(0, .int .i64 n), (1, .pointer (some ⟨b, 0, none⟩))]) rfl (fun a S => ?_)
 have H := HSat.start w0
 have H := H.ro0 (Atom.ro (Cel b 3 [.int .i64 right])) rfl (hb)
 refine g_seq ?_
 refine g_region ?_
 refine gy rfl rfl rfl S (y_assign rfl S rfl) fun a S => ?_
 refine gl_nil ?_
 refine n_then ?_
 refine g_seq ?_
 refine g_region ?_
 refine gy rfl rfl rfl S (y_move rfl S rfl) fun a S => ?_
 refine gy rfl rfl rfl S (y_bin rfl S rfl rfl rfl) fun a S => ?_
 refine gy rfl rfl rfl S (y_move rfl S rfl) fun a S => ?_
 refine' wl_or 3 6 rfl S H rfl rfl rfl rfl rfl rfl rfl (fun _ S => (wn rfl)) (fun h1 kk => ?yh1) (fun a w S H => ?_)
 case yh1 =>
  have h1p := h1; try simp only [DL] at h1p
  refine gz 6 h1 S rfl rfl rfl rfl rfl rfl (y_move rfl S rfl) fun a S => ?_
  refine gz 6 h1 S rfl rfl rfl rfl rfl rfl (y_load rfl Fsca3 S H rfl rfl) fun a S => ?_
  refine gz 6 h1 S rfl rfl rfl rfl rfl rfl (y_bin rfl S rfl rfl rfl) fun a S => ?_
  refine gy rfl rfl rfl S (y_or' rfl h1 S rfl rfl) fun a S => ?_
  exact kk _ _ (S.join 4 10 rfl rfl) H
 refine gy rfl rfl rfl S (y_assign rfl S rfl) fun a S => ?_
 refine gl_nil ?_
 refine n_then ?_
 have S := S.nil.cons S 3 rfl
 refine g_ret ?_
 refine ret1 rfl S rfl ?_
 exact ⟨congrArg Value.bool (by rw [Bool.eq_iff_iff]; simp only [okN, Bool.or_eq_true, Bool.not_eq_true', Bool.and_eq_false_iff, decide_eq_true_eq, decide_eq_false_iff_not]; omega), H.toExt⟩
/-- foyer/match.valid$1 -/
theorem valid1_spec (v : Value) (xs : List Int) (b : Nat) (right : Int) (w0 : World) (hv : IsSl w0 v 1 encI xs) (hb : w0.heap[b]? = some (.cells [Value.int .i64 right].toArray 3 (0, 0))) :
    Ret Try.prog 60 #[v, .pointer (some ⟨b, 0, none⟩)] w0 (fun u w => u = .bool (xs.any (fun n => !okN right n)) ∧ Ext w0 w) := by
 refine ret_of_wp (nt := 7) Try.func60 rfl rfl rfl (fl := [(0, v), (1, .pointer (some ⟨b, 0, none⟩))]) rfl (fun a S => ?_)
 have H := HSat.start w0
 have H := H.ro0 (Sl v 1 encI xs) rfl (hv)
 have H := H.ro0 (Atom.ro (Cel b 3 [.int .i64 right])) rfl (hb)
 refine g_seq ?_
 refine g_region ?_
 refine gy rfl rfl rfl S (y_assign rfl S rfl) fun a S => ?_
 refine gl_nil ?_
 refine n_then ?_
 refine g_seq ?_
 refine g_region ?_
 refine gy rfl rfl rfl S (y_move rfl S rfl) fun a S => ?_
 refine gy rfl rfl rfl S (y_makeFunc rfl S rfl rfl) fun a S => ?_
 refine wl_of (op_call (wn rfl) rfl rfl S (co_func rfl Try.call57 S rfl) (containsFunc_spec v xs 61 [.pointer (some ⟨b, 0, none⟩)] Try.call61 (fun n => !okN right n) _ (H.sl v) (fun x hx w hw => valid11_spec x b right w ((H.ext hw).rd b))) fun v w hc a S => ?_)
 obtain ⟨rfl, he⟩ := hc
 have H := H.ext he
 refine gy rfl rfl rfl S (y_assign rfl S rfl) fun a S => ?_
 refine gl_nil ?_
 refine n_then ?_
 have S := S.nil.cons S 3 rfl
 refine g_ret ?_
 refine ret1 rfl S rfl ?_
 exact ⟨rfl, H.toExt⟩
/-- foyer/match.valid -/
theorem valid_spec (v : Value) (ps : List (Value × List Int)) (right : Int) (w0 : World) (hv : IsSl w0 v 1 encRow ps) (hr : ∀ p ∈ ps, IsSl w0 p.1 1 encI p.2) :
    Ret Try.prog 42 #[v, .int .i64 right] w0 (fun u w => u = .bool (validG (gr ps) right) ∧ Ext w0 w) := by
 refine ret_of_wp (nt := 20) Try.func42 rfl rfl rfl (fl := [(0, v), (1, .int .i64 right)]) rfl (fun a S => ?_)
 have H := HSat.start w0
 have H := H.ro0 (Sl v 1 encRow ps) rfl (hv)
 have H := H.ro0 (RowsS 1 encI ps) rfl (hr)
 have hl := hv.len
 refine g_seq ?_
 refine g_region ?_
 refine wl_of (op_box1 (wn rfl) rfl rfl rfl S H rfl rfl fun b3 a w S H => ?_)
 refine gy rfl rfl rfl S (y_assign rfl S rfl) fun a S => ?_
 refine gl_nil ?_
 refine n_then ?_
 refine g_seq ?_
 refine g_seq ?_
 refine g_region ?_
 refine gy rfl rfl rfl S (y_move rfl S rfl) fun a S => ?_
 refine gy rfl rfl rfl S (y_lens rfl Try.underlying66 S H rfl) fun a S => ?_
 refine gy rfl rfl rfl S (y_bin rfl S rfl rfl rfl) fun a S => ?_
 refine gy rfl rfl rfl S (y_move rfl S rfl) fun a S => ?_
 refine' wl_or 2 8 rfl S H rfl rfl rfl rfl rfl rfl rfl (fun _ S => (wn rfl)) (fun h1 kk => ?yh1) (fun a w S H => ?_)
 case yh1 =>
  have h1p := h1; try simp only [DL] at h1p
  refine gz 8 h1 S rfl rfl rfl rfl rfl rfl (y_load rfl Fsca3 S H rfl rfl) fun a S => ?_
  refine gz 8 h1 S rfl rfl rfl rfl rfl rfl (y_bin rfl S rfl rfl rfl) fun a S => ?_
  refine gy rfl rfl rfl S (y_or' rfl h1 S rfl rfl) fun a S => ?_
  exact kk _ _ (S.join 3 11 rfl rfl) H
 refine gy rfl rfl rfl S (y_move rfl S rfl) fun a S => ?_
 refine' wl_or 2 12 rfl S H rfl rfl rfl rfl rfl rfl rfl (fun _ S => (wn rfl)) (fun h2 kk => ?yh2) (fun a w S H => ?_)
 case yh2 =>
  have h2p := h2; try simp only [DL] at h2p
  refine gz 12 h2 S rfl rfl rfl rfl rfl rfl (y_load rfl Fsca3 S H rfl rfl) fun a S => ?_
  refine gz 12 h2 S rfl rfl rfl rfl rfl rfl (y_bin rfl S rfl rfl rfl) fun a S => ?_
  refine gy rfl rfl rfl S (y_or' rfl h2 S rfl rfl) fun a S => ?_
  exact kk _ _ (S.join 3 15 rfl rfl) H
 refine gl_nil ?_
 refine n_then ?_
 have S := (((S.nil.cons S 0 rfl).cons S 3 rfl).cons S 4 rfl).cons S 15 rfl
 refine c_if S rfl (fun h3 => ?_) (fun h3 => ?_)
 ·have h3p := h3; try simp only [DL] at h3p
  refine g_seq ?_
  refine g_region ?_
  refine gy rfl rfl rfl S (y_assign rfl S rfl) fun a S => ?_
  refine gl_nil ?_
  refine n_then ?_
  refine g_ret ?_
  refine r_then (ret1 rfl S rfl ?_)
  exact ⟨congrArg Value.bool (valid_no1 (by rw [gr_len]; omega)).symm, H.toExt⟩
 ·have h3p := h3; try simp only [DL] at h3p
  refine g_skip ?_
  refine n_then ?_
  refine g_seq ?_
  refine g_region ?_
  refine gy rfl rfl rfl S (y_move rfl S rfl) fun a S => ?_
  refine gy rfl rfl rfl S (y_makeFunc rfl S rfl rfl) fun a S => ?_
  refine wl_of (op_call (wn rfl) rfl rfl S (co_func rfl Try.call59 S rfl) (containsFuncR_spec v ps 60 [.pointer (some ⟨b3, 0, none⟩)] Try.call60 (fun p => p.2.any (fun n => !okN right n)) _ (H.sl v) (fun x hx w hw => valid1_spec x.1 x.2 b3 right w ((H.ext hw).rwsS ps x hx) ((H.ext hw).rd b3))) fun v w hc a S => ?_)
  obtain ⟨rfl, he⟩ := hc
  have H := H.ext he
  refine gy rfl rfl rfl S (y_not rfl S rfl) fun a S => ?_
  refine gy rfl rfl rfl S (y_assign rfl S rfl) fun a S => ?_
  refine gl_nil ?_
  refine n_then ?_
  have S := S.nil.cons S 4 rfl
  refine g_ret ?_
  refine ret1 rfl S rfl ?_
  exact ⟨congrArg Value.bool (valid_any (by omega) (by omega) (by omega)).symm, H.toExt⟩

/-- foyer/match.Check$1 -/
theorem check1_spec (n : Int) (b m : Nat) (s : List Int) (c : Nat) (w0 : World) (hb : w0.heap[b]? = some (.cells [Value.map (some m)].toArray 75 (0, 0))) (hm : IsMap w0 m (fun n : Int => .int .i64 n) (fun b : Bool => .bool b) (memS s) c) :
    Ret Try.prog 58 #[.int .i64 n, .pointer (some ⟨b, 0, none⟩)] w0 (fun u w => u = .bool (!decide (n ∈ s)) ∧ Ext w0 w) := by
 refine ret_of_wp (nt := 8) Try.func58 rfl rfl rfl (fl := [(0, .int .i64 n), (1, .pointer (some ⟨b, 0, none⟩))]) rfl (fun a S => ?_)
 have H := HSat.start w0
 have H := H.ro0 (Atom.ro (Cel b 75 [.map (some m)])) rfl (hb)
 have H := H.ro0 (Atom.ro (MapA m (fun n : Int => .int .i64 n) (fun b : Bool => .bool b) (memS (s)) c)) rfl (hm)
 refine g_seq ?_
 refine g_region ?_
 refine gy rfl rfl rfl S (y_assign rfl S rfl) fun a S => ?_
 refine gl_nil ?_
 refine n_then ?_
 refine g_seq ?_
 refine g_region ?_
 refine gy rfl rfl rfl S (y_load rfl Fsca75 S H rfl rfl) fun a S => ?_
 refine gy rfl rfl rfl S (y_move rfl S rfl) fun a S => ?_
 refine gy rfl rfl rfl S (y_lookup (_) (false) rfl Try.underlying75 Finf4 S H rfl (keyOK_int Try.underlying3) (by exact rfl) (by exact rfl)) fun a S => ?_
 refine gy rfl rfl rfl S (y_not rfl S rfl) fun a S => ?_
 refine gy rfl rfl rfl S (y_assign rfl S rfl) fun a S => ?_
 refine gl_nil ?_
 refine n_then ?_
 have S := S.nil.cons S 3 rfl
 refine g_ret ?_
 refine ret1 rfl S rfl ?_
 exact ⟨by rw [memS_get], H.toExt⟩
set_option maxHeartbeats 2000000 in
/-- foyer/match.Check -/
theorem check_spec (v : Value) (ps : List (Value × List Int)) (right : Int) (v2 : Value) (got : List Int) (vl vr : Value) (left cover : List Int) (w0 : World) (hv : IsSl w0 v 1 encRow ps) (hr : ∀ p ∈ ps, IsSl w0 p.1 1 encI p.2) (hg : IsSl w0 v2 1 encI got) (hvl : IsSl w0 vl 1 encI left) (hvr : IsSl w0 vr 1 encI cover) (hcl : capOK vl) (hl1 : left.length ≤ 1000000) (hl2 : cover.length ≤ 1000000) :
    Ret Try.prog 39 #[v, .int .i64 right, v2, .agg #[vl, vr]] w0 (fun u w => u = .bool (checkL (gr ps) right got left cover) ∧ Ext w0 w) := by
 refine ret_of_wp (nt := 107) Try.func39 rfl rfl rfl (fl := [(0, v), (1, .int .i64 right), (2, v2), (3, .agg #[vl, vr])]) rfl (fun a S => ?_)
 have H := HSat.start w0
 have H := H.ro0 (Sl v 1 encRow ps) rfl (hv)
 have H := H.ro0 (RowsS 1 encI ps) rfl (hr)
 have H := H.ro0 (Sl vl 1 encI left) rfl (hvl)
 have H := H.ro0 (Sl vr 1 encI cover) rfl (hvr)
 have H := H.ro0 (Sl v2 1 encI got) rfl (hg)
 have hl := hv.len
 have hlen := gr_len ps
 have hlg := hg.len
 refine g_seq ?_
 refine g_region ?_
 refine wl_of (op_boxa (wn rfl) rfl rfl rfl S H rfl fun b7 a w S H => ?_)
 refine gy rfl rfl rfl S (y_assign rfl S rfl) fun a S => ?_
 refine gl_nil ?_
 refine n_then ?_
 refine g_seq ?_
 refine g_seq ?_
 refine g_region ?_
 refine gy rfl rfl rfl S (y_move rfl S rfl) fun a S => ?_
 refine gy rfl rfl rfl S (y_move rfl S rfl) fun a S => ?_
 refine wl_of (op_call (wn rfl) rfl rfl S (co_func rfl Try.call42 S rfl) (valid_spec v ps right _ (H.sl v) (H.rwsS ps)) fun v w hc a S => ?_)
 obtain ⟨rfl, he⟩ := hc
 have H := H.ext he
 refine gy rfl rfl rfl S (y_not rfl S rfl) fun a S => ?_
 refine gy rfl rfl rfl S (y_move rfl S rfl) fun a S => ?_
 refine' wl_or 5 21 rfl S H rfl rfl rfl rfl rfl rfl rfl (fun _ S => (wn rfl)) (fun h1 kk => ?yh1) (fun a w S H => ?_)
 case yh1 =>
  have h1p := h1; try simp only [DL] at h1p
  refine gz 21 h1 S rfl rfl rfl rfl rfl rfl (y_move rfl S rfl) fun a S => ?_
  refine gz 21 h1 S rfl rfl rfl rfl rfl rfl (y_lens rfl Try.underlying25 S H rfl) fun a S => ?_
  refine gz 21 h1 S rfl rfl rfl rfl rfl rfl (y_move rfl S rfl) fun a S => ?_
  refine gz 21 h1 S rfl rfl rfl rfl rfl rfl (y_lens rfl Try.underlying66 S H rfl) fun a S => ?_
  refine gz 21 h1 S rfl rfl rfl rfl rfl rfl (y_bin rfl S rfl rfl rfl) fun a S => ?_
  refine gy rfl rfl rfl S (y_or' rfl h1 S rfl rfl) fun a S => ?_
  exact kk _ _ (S.join 6 27 rfl rfl) H
 refine gy rfl rfl rfl S (y_move rfl S rfl) fun a S => ?_
 refine' wl_or 6 28 rfl S H rfl rfl rfl rfl rfl rfl rfl (fun _ S => (wn rfl)) (fun h2 kk => ?yh2) (fun a w S H => ?_)
 case yh2 =>
  have h2p := h2; try simp only [DL] at h2p
  refine gz 28 h2 S rfl rfl rfl rfl rfl rfl (y_faddrb rfl Ffo27_0 S rfl) fun a S => ?_
  refine gz 28 h2 S rfl rfl rfl rfl rfl rfl (y_load rfl Fsca25 S H rfl rfl) fun a S => ?_
  refine gz 28 h2 S rfl rfl rfl rfl rfl rfl (y_move rfl S rfl) fun a S => ?_
  refine gz 28 h2 S rfl rfl rfl rfl rfl rfl (y_lens rfl Try.underlying66 S H rfl) fun a S => ?_
  refine wl_of (op_call (wg' 28 rfl rfl S rfl h2 rfl) rfl rfl S (co_func rfl Try.call56 S rfl) (increasing_spec vl left _ _ (H.sl _)) fun v w hc a S => ?_)
  obtain ⟨rfl, he⟩ := hc
  have H := H.ext he
  refine gz 28 h2 S rfl rfl rfl rfl rfl rfl (y_not rfl S rfl) fun a S => ?_
  refine gy rfl rfl rfl S (y_or' rfl h2 S rfl rfl) fun a S => ?_
  exact kk _ _ (S.join 7 35 rfl rfl) H
 refine gy rfl rfl rfl S (y_move rfl S rfl) fun a S => ?_
 refine' wl_or 5 36 rfl S H rfl rfl rfl rfl rfl rfl rfl (fun _ S => (wn rfl)) (fun h3 kk => ?yh3) (fun a w S H => ?_)
 case yh3 =>
  have h3p := h3; try simp only [DL] at h3p
  refine gz 36 h3 S rfl rfl rfl rfl rfl rfl (y_faddrb rfl Ffo27_1 S rfl) fun a S => ?_
  refine gz 36 h3 S rfl rfl rfl rfl rfl rfl (y_load rfl Fsca25 S H rfl rfl) fun a S => ?_
  refine gz 36 h3 S rfl rfl rfl rfl rfl rfl (y_move rfl S rfl) fun a S => ?_
  refine wl_of (op_call (wg' 36 rfl rfl S rfl h3 rfl) rfl rfl S (co_func rfl Try.call56 S rfl) (increasing_spec vr cover _ _ (H.sl _)) fun v w hc a S => ?_)
  obtain ⟨rfl, he⟩ := hc
  have H := H.ext he
  refine gz 36 h3 S rfl rfl rfl rfl rfl rfl (y_not rfl S rfl) fun a S => ?_
  refine gy rfl rfl rfl S (y_or' rfl h3 S rfl rfl) fun a S => ?_
  exact kk _ _ (S.join 6 42 rfl rfl) H
 refine gl_nil ?_
 refine n_then ?_
 have S := ((((S.nil.cons S 2 rfl).cons S 0 rfl).cons S 7 rfl).cons S 8 rfl).cons S 42 rfl
 refine c_if S rfl (fun h4 => ?_) (fun h4 => ?_)
 ·have h4p := h4; try simp only [DL] at h4p
  refine g_seq ?_
  refine g_region ?_
  refine gy rfl rfl rfl S (y_assign rfl S rfl) fun a S => ?_
  refine gl_nil ?_
  refine n_then ?_
  refine g_ret ?_
  refine r_then (ret1 rfl S rfl ?_)
  refine ⟨congrArg Value.bool (check_no_pre ?_).symm, H.toExt⟩
  rw [hlen]
  rcases h4p with ((h | h) | h) | h
  · exact .inl h
  · exact .inr (.inl (by omega))
  · exact .inr (.inr (.inl h))
  · exact .inr (.inr (.inr h))
 ·have h4p := h4; try simp only [DL] at h4p
  have hvg : validG (gr ps) right = true := h4p.1.1.1
  have hgl : got.length = (gr ps).length := by have := h4p.1.1.2; omega
  have hf1 : formedB left (gr ps).length = true := by rw [hlen]; exact h4p.1.2
  have hf2 : formedB cover right = true := h4p.2
  refine g_skip ?_
  refine n_then ?_
  refine g_seq ?_
  refine g_region ?_
  refine wl_of (op_makeMap (fun n : Int => .int .i64 n) (fun b : Bool => .bool b) (wn rfl) rfl rfl rfl S H fun b43 a w S H => ?_)
  refine wl_of (op_makeMap (fun n : Int => .int .i64 n) (fun b : Bool => .bool b) (wn rfl) rfl rfl rfl S H fun b44 a w S H => ?_)
  refine wl_of (op_alloc (wn rfl) rfl rfl rfl S H Fzer75 fun b10 a w S H => ?_)
  refine gy rfl rfl rfl S (y_assign rfl S rfl) fun a S => ?_
  refine wl_of (op_store (wn rfl) rfl rfl S H rfl rfl rfl Fsiz75 rfl fun a w S H => ?_)
  dsimp only [List.set, Nat.zero_add, Nat.reduceAdd] at H
  refine gl_nil ?_
  refine n_then ?_
  refine g_seq ?_
  refine g_seq ?_
  refine g_region ?_
  refine gy rfl rfl rfl S (y_faddrb rfl Ffo27_1 S rfl) fun a S => ?_
  refine gy rfl rfl rfl S (y_load rfl Fsca25 S H rfl rfl) fun a S => ?_
  refine gy rfl rfl rfl S (y_lens rfl Try.underlying25 S H rfl) fun a S => ?_
  refine gy rfl rfl rfl S (y_move rfl S rfl) fun a S => ?_
  refine gl_nil ?_
  refine n_then ?_
  have S := ((((((((S.nil.cons S 2 rfl).cons S 0 rfl).cons S 7 rfl).cons S 8 rfl).cons S 10 rfl).cons S 9 rfl).cons S 46 rfl).cons S 47 rfl).cons S 48 rfl
  refine g_block ?_
  have H : HSat No w0 [Cel b10 75 [.map (some b44)], MapA b44 (fun n : Int => .int .i64 n) (fun b : Bool => .bool b) (memS ((cover.take 0).reverse)) 0, MapA b43 (fun n : Int => .int .i64 n) (fun b : Bool => .bool b) (memS ([])) 0, Cel b7 27 [vl, vr], Sl v2 1 encI got, Sl vr 1 encI cover, Sl vl 1 encI left, RowsS 1 encI ps, Sl v 1 encRow ps] _ := H
  have SU := (((((((S.nil.cons S 2 rfl).cons S 0 rfl).cons S 7 rfl).cons S 8 rfl).cons S 10 rfl).cons S 9 rfl).cons S 46 rfl).cons S 47 rfl
  refine loopW (X := Nat) SU (fun k => [(48, .int .i64 (k : Int))]) (fun k w => k ≤ cover.length ∧ ∃ c, HSat No w0 [MapA b44 (fun n : Int => .int .i64 n) (fun b : Bool => .bool b) (memS ((cover.take k).reverse)) c, MapA b43 (fun n : Int => .int .i64 n) (fun b : Bool => .bool b) (memS ([])) 0, Cel b10 75 [.map (some b44)], Cel b7 27 [vl, vr], Sl v2 1 encI got, Sl vr 1 encI cover, Sl vl 1 encI left, RowsS 1 encI ps, Sl v 1 encRow ps] w) (fun k => cover.length - k) 0 (S.nil.cons S 48 rfl) (⟨by omega, 0, H.take [MapA b44 (fun n : Int => .int .i64 n) (fun b : Bool => .bool b) (memS ((cover.take 0).reverse)) 0, MapA b43 (fun n : Int => .int .i64 n) (fun b : Bool => .bool b) (memS ([])) 0, Cel b10 75 [.map (some b44)], Cel b7 27 [vl, vr], Sl v2 1 encI got, Sl vr 1 encI cover, Sl vl 1 encI left, RowsS 1 encI ps, Sl v 1 encRow ps]⟩) (fun k a w S hW => ?_)
  simp only [List.cons_append, List.nil_append] at S
  obtain ⟨hk, c, H⟩ := hW
  refine g_seq ?_
  refine g_region ?_
  refine gy rfl rfl rfl S (y_bin rfl S rfl rfl rfl) fun a S => ?_
  refine gl_nil ?_
  refine n_then ?_
  refine g_seq ?_
  refine c_if S rfl (fun h5 => ?_) (fun h5 => ?_)
  ·have h5p := h5; try simp only [DL] at h5p
   refine g_skip ?_
   refine n_then ?_
   refine g_seq ?_
   refine g_block ?_
   refine g_seq ?_
   refine g_region ?_
   refine gy rfl rfl rfl S (y_iaddrn rfl Try.underlying25 Fsiz3 S H rfl rfl (by first | assumption | omega | (simp only [List.length_append, List.length_take, List.length_drop, List.length_replicate, List.length_set, List.length_map, List.length_cons, List.length_nil]; omega))) fun a S => ?_
   refine gy rfl rfl rfl S (y_loads _ rfl Fsca3 S H rfl (by first | assumption | omega | (simp only [List.length_append, List.length_take, List.length_drop, List.length_replicate, List.length_set, List.length_map, List.length_cons, List.length_nil]; omega)) rfl) fun a S => ?_
   refine gy rfl rfl rfl S (y_assign rfl S rfl) fun a S => ?_
   refine gl_nil ?_
   refine n_then ?_
   refine g_region ?_
   refine gy rfl rfl rfl S (y_load rfl Fsca75 S H rfl rfl) fun a S => ?_
   refine gy rfl rfl rfl S (y_move rfl S rfl) fun a S => ?_
   refine wl_of (op_mapUpdate (_) (_) (wn rfl) rfl rfl Try.underlying75 S H rfl (keyOK_int Try.underlying3) (by exact rfl) (by exact rfl) fun a w S H => ?_)
   refine gl_nil ?_
   refine n_block ?_
   refine n_then ?_
   refine g_region ?_
   refine gy rfl rfl rfl S (y_add rfl S rfl rfl (by omega)) fun a S => ?_
   refine gy rfl rfl rfl S (y_move rfl S rfl) fun a S => ?_
   refine gl_nil ?_
   refine n_then ?_
   have e : (cover.take (k + 1)).reverse = cover[k] :: (cover.take k).reverse := by rw [List.take_succ_eq_append_getElem (by omega)]; simp
   refine ⟨k + 1, S.nil.cons S 48 rfl, (((((((S.nil.cons S 2 rfl).cons S 0 rfl).cons S 7 rfl).cons S 8 rfl).cons S 10 rfl).cons S 9 rfl).cons S 46 rfl).cons S 47 rfl, ⟨by omega, ?_⟩, by omega⟩
   rw [e]; exact ⟨_, H⟩
  ·have h5p := h5; try simp only [DL] at h5p
   obtain rfl : k = cover.length := by omega
   rw [List.take_length] at H
   obtain ⟨c0, hc0⟩ : ∃ c0, c0 = c := ⟨_, rfl⟩
   rw [← hc0] at H
   refine g_exit ?_
   refine x_then (x_then (x_eq ?_))
   refine n_then ?_
   have S := (((((S.nil.cons S 2 rfl).cons S 0 rfl).cons S 7 rfl).cons S 8 rfl).cons S 10 rfl).cons S 9 rfl
   refine g_seq ?_
   refine g_region ?_
   refine gy rfl rfl rfl S (y_faddrb rfl Ffo27_0 S rfl) fun a S => ?_
   refine gy rfl rfl rfl S (y_load rfl Fsca25 S H rfl rfl) fun a S => ?_
   refine gy rfl rfl rfl S (y_assign rfl S rfl) fun a S => ?_
   refine gl_nil ?_
   refine n_then ?_
   refine g_seq ?_
   refine g_seq ?_
   refine g_region ?_
   refine gy rfl rfl rfl S (y_move rfl S rfl) fun a S => ?_
   refine gy rfl rfl rfl S (y_lens rfl Try.underlying66 S H rfl) fun a S => ?_
   refine gy rfl rfl rfl S (y_move rfl S rfl) fun a S => ?_
   refine gl_nil ?_
   refine n_then ?_
   refine g_block ?_
   have H : HSat No w0 [MapA b44 (fun n : Int => .int .i64 n) (fun b : Bool => .bool b) (memS (cover.reverse)) c0, MapA b43 (fun n : Int => .int .i64 n) (fun b : Bool => .bool b) (memS (usedR got 0)) (cntM got 0), Cel b10 75 [.map (some b44)], Cel b7 27 [vl, vr], Sl v2 1 encI got, Sl vr 1 encI cover, Sl vl 1 encI left, RowsS 1 encI ps, Sl v 1 encRow ps] _ := H
   have SU := (((((S.nil.cons S 2 rfl).cons S 7 rfl).cons S 10 rfl).cons S 9 rfl).cons S 57 rfl).cons S 58 rfl
   refine loopW (X := Nat × Value) SU (fun x => [(13, x.2), (59, .int .i64 (x.1 : Int))]) (fun x w => x.1 ≤ ps.length ∧ (∀ i, i < x.1 → goodAt (gr ps) got i) ∧ (∀ i, i < x.1 → covAt (gr ps) left cover i) ∧ (∃ q, RestAt left x.1 q ∧ IsSl w0 x.2 1 encI (left.drop q) ∧ capOK x.2) ∧ HSat No w0 [MapA b43 (fun n : Int => .int .i64 n) (fun b : Bool => .bool b) (memS (usedR got x.1)) (cntM got x.1), MapA b44 (fun n : Int => .int .i64 n) (fun b : Bool => .bool b) (memS (cover.reverse)) c0, Cel b10 75 [.map (some b44)], Cel b7 27 [vl, vr], Sl v2 1 encI got, Sl vr 1 encI cover, Sl vl 1 encI left, RowsS 1 encI ps, Sl v 1 encRow ps] w) (fun x => ps.length - x.1) (0, vl) ((S.nil.cons S 59 rfl).cons S 13 rfl) (⟨by simp, fun i h => by simp at h, fun i h => by simp at h, ⟨0, rest_start (formedB_iff.1 hf1), by simpa using hvl, hcl⟩, H.take [MapA b43 (fun n : Int => .int .i64 n) (fun b : Bool => .bool b) (memS (usedR got 0)) (cntM got 0), MapA b44 (fun n : Int => .int .i64 n) (fun b : Bool => .bool b) (memS (cover.reverse)) c0, Cel b10 75 [.map (some b44)], Cel b7 27 [vl, vr], Sl v2 1 encI got, Sl vr 1 encI cover, Sl vl 1 encI left, RowsS 1 encI ps, Sl v 1 encRow ps]⟩) (fun x a w S hW => ?_)
   simp only [List.cons_append, List.nil_append] at S
   obtain ⟨i, vrest⟩ := x
   obtain ⟨hi, hgood, hcov, ⟨q, hq, hrs, hrc⟩, H⟩ := hW
   dsimp only at S H hi hgood hcov hq hrs hrc
   have H := (H.ro0 (Sl vrest 1 encI (left.drop q)) rfl hrs).ro0 (CapA vrest) rfl hrc
   refine g_seq ?_
   refine g_region ?_
   refine gy rfl rfl rfl S (y_bin rfl S rfl rfl rfl) fun a S => ?_
   refine gl_nil ?_
   refine n_then ?_
   refine g_seq ?_
   refine c_if S rfl (fun h6 => ?_) (fun h6 => ?_)
   ·have h6p := h6; try simp only [DL] at h6p
    have hkp : i < ps.length := by omega
    have hkg : i < got.length := by omega
    have hat := atI_eq hkg
    have hrw := gr_row ps hkp
    have hcs := cntM_succ got i
    have hcml := cntM_le got i
    have hrm := rest_mem hq (formedB_iff.1 hf1)
    have hdl : (left.drop q).length = left.length - q := List.length_drop
    refine g_skip ?_
    refine n_then ?_
    refine g_seq ?_
    refine g_block ?_
    refine g_seq ?_
    refine g_region ?_
    refine gy rfl rfl rfl S (y_move rfl S rfl) fun a S => ?_
    refine gy rfl rfl rfl S (y_iaddrn rfl Try.underlying66 Fsiz25 S H rfl rfl (by first | assumption | omega | (simp only [List.length_append, List.length_take, List.length_drop, List.length_replicate, List.length_set, List.length_map, List.length_cons, List.length_nil]; omega))) fun a S => ?_
    refine gy rfl rfl rfl S (y_loads _ rfl Fsca25 S H rfl (by first | assumption | omega | (simp only [List.length_append, List.length_take, List.length_drop, List.length_replicate, List.length_set, List.length_map, List.length_cons, List.length_nil]; omega)) rfl) fun a S => ?_
    refine gy rfl rfl rfl S (y_assign rfl S rfl) fun a S => ?_
    refine gy rfl rfl rfl S (y_assign rfl S rfl) fun a S => ?_
    refine gl_nil ?_
    refine n_then ?_
    refine g_seq ?_
    refine g_seq ?_
    refine g_region ?_
    refine gy rfl rfl rfl S (y_move rfl S rfl) fun a S => ?_
    refine gy rfl rfl rfl S (y_move rfl S rfl) fun a S => ?_
    refine gy rfl rfl rfl S (y_iaddrn rfl Try.underlying25 Fsiz3 S H rfl rfl (by first | assumption | omega | (simp only [List.length_append, List.length_take, List.length_drop, List.length_replicate, List.length_set, List.length_map, List.length_cons, List.length_nil]; omega))) fun a S => ?_
    refine gy rfl rfl rfl S (y_loads _ rfl Fsca3 S H rfl (by first | assumption | omega | (simp only [List.length_append, List.length_take, List.length_drop, List.length_replicate, List.length_set, List.length_map, List.length_cons, List.length_nil]; omega)) rfl) fun a S => ?_
    refine gy rfl rfl rfl S (y_assign rfl S rfl) fun a S => ?_
    refine gl_nil ?_
    refine n_then ?_
    refine g_seq ?_
    refine g_region ?_
    refine gy rfl rfl rfl S (y_move rfl S rfl) fun a S => ?_
    refine gy rfl rfl rfl S (y_bin rfl S rfl rfl rfl) fun a S => ?_
    refine gl_nil ?_
    refine n_then ?_
    refine cut (fun a w => St 107 [(2, v2), (7, .pointer (some ⟨b7, 0, none⟩)), (9, .map (some b43)), (10, .pointer (some ⟨b10, 0, none⟩)), (13, vrest), (14, .int .i64 (i : Int)), (15, ps[i].1), (57, v), (58, .int .i64 (ps.length : Int)), (59, .int .i64 (i : Int))] a ∧ goodAt (gr ps) got i ∧ HSat No w0 [MapA b43 (fun n : Int => .int .i64 n) (fun b : Bool => .bool b) (memS (usedR got (i + 1))) (cntM got (i + 1)), MapA b44 (fun n : Int => .int .i64 n) (fun b : Bool => .bool b) (memS (cover.reverse)) c0, Cel b10 75 [.map (some b44)], Cel b7 27 [vl, vr], Sl v2 1 encI got, Sl vr 1 encI cover, Sl vl 1 encI left, RowsS 1 encI ps, Sl v 1 encRow ps] w) ?_ ?_
    ·skip
     refine c_if S rfl (fun h7 => ?_) (fun h7 => ?_)
     ·have h7p := h7; try simp only [DL] at h7p
      refine g_seq ?_
      refine g_seq ?_
      refine g_region ?_
      refine gy rfl rfl rfl S (y_move rfl S rfl) fun a S => ?_
      refine gy rfl rfl rfl S (y_move rfl S rfl) fun a S => ?_
      refine gy rfl rfl rfl S (y_lookup (_) (false) rfl Try.underlying75 Finf4 S H rfl (keyOK_int Try.underlying3) (by exact rfl) (by exact rfl)) fun a S => ?_
      refine gy rfl rfl rfl S (y_move rfl S rfl) fun a S => ?_
      refine' wl_or 4 73 rfl S H rfl rfl rfl rfl rfl rfl rfl (fun _ S => (wn rfl)) (fun h8 kk => ?yh8) (fun a w S H => ?_)
      case yh8 =>
       have h8p := h8; try simp only [DL] at h8p
       refine gz 73 h8 S rfl rfl rfl rfl rfl rfl (y_move rfl S rfl) fun a S => ?_
       refine gz 73 h8 S rfl rfl rfl rfl rfl rfl (y_move rfl S rfl) fun a S => ?_
       refine wl_of (op_call (wg' 73 rfl rfl S rfl h8 rfl) rfl rfl S (co_func rfl Try.call37 S rfl) (contains_spec ps[i].1 ps[i].2 got[i] _ (H.sl _)) fun v w hc a S => ?_)
       obtain ⟨rfl, he⟩ := hc
       have H := H.ext he
       refine gz 73 h8 S rfl rfl rfl rfl rfl rfl (y_not rfl S rfl) fun a S => ?_
       refine gy rfl rfl rfl S (y_or' rfl h8 S rfl rfl) fun a S => ?_
       exact kk _ _ (S.join 5 78 rfl rfl) H
      refine gl_nil ?_
      refine n_then ?_
      refine c_if S rfl (fun h9 => ?_) (fun h9 => ?_)
      ·have h9p := h9; try simp only [DL] at h9p
       have hx := h9
       rw [memS_get] at hx
       simp only [Bool.or_eq_true, decide_eq_true_eq, Bool.not_eq_true', decide_eq_false_iff_not] at hx
       refine g_seq ?_
       refine g_region ?_
       refine gy rfl rfl rfl S (y_assign rfl S rfl) fun a S => ?_
       refine gl_nil ?_
       refine n_then ?_
       refine g_ret ?_
       refine r_then (r_then (r_block (r_then (r_then (r_block (r_then (ret1 rfl S rfl ?_)))))))
       exact ⟨congrArg Value.bool (check_no_size i hkg (fun h => h.elim (fun h => h7p (by rw [← hat]; exact h)) (fun h => hx.elim (fun hu => by obtain ⟨j, h1, h2, _⟩ := (usedR_mem got _ i).1 hu; exact h.2 j h1 (by rw [h2, hat])) (fun hu => hu (by rw [← hat, ← hrw]; exact h.1))))).symm, H.toExt⟩
      ·have h9p := h9; try simp only [DL] at h9p
       have hx := h9
       rw [memS_get] at hx
       simp only [Bool.or_eq_false_iff, decide_eq_false_iff_not, Bool.not_eq_false', decide_eq_true_eq] at hx
       refine g_skip ?_
       refine n_then ?_
       refine g_region ?_
       refine gy rfl rfl rfl S (y_move rfl S rfl) fun a S => ?_
       refine gy rfl rfl rfl S (y_move rfl S rfl) fun a S => ?_
       refine wl_of (op_mapUpdate (_) (_) (wn rfl) rfl rfl Try.underlying75 S H rfl (keyOK_int Try.underlying3) (by exact rfl) (by exact rfl) fun a w S H => ?_)
       refine gl_nil ?_
       refine n_then ?_
       first
       | (have hc4 : got[i] = -1 := by simpa using h7p
          have hu : usedR got (i + 1) = usedR got i := by rw [usedR, if_pos (by rw [hat]; exact hc4)]
          rw [hat, if_pos hc4, Nat.add_zero] at hcs
          rw [hu, hcs]
          exact ⟨((((((((((S.nil.cons S 59 rfl).cons S 58 rfl).cons S 57 rfl).cons S 15 rfl).cons S 14 rfl).cons S 13 rfl).cons S 10 rfl).cons S 9 rfl).cons S 7 rfl).cons S 2 rfl), .inl (by rw [hat]; exact hc4), H.take [MapA b43 (fun n : Int => .int .i64 n) (fun b : Bool => .bool b) (memS (usedR got i)) (cntM got i), MapA b44 (fun n : Int => .int .i64 n) (fun b : Bool => .bool b) (memS (cover.reverse)) c0, Cel b10 75 [.map (some b44)], Cel b7 27 [vl, vr], Sl v2 1 encI got, Sl vr 1 encI cover, Sl vl 1 encI left, RowsS 1 encI ps, Sl v 1 encRow ps]⟩)
       | (have hu : usedR got (i + 1) = got[i] :: usedR got i := by rw [usedR, if_neg (by rw [hat]; exact h7p), hat]
          rw [hat, if_neg h7p] at hcs
          rw [hu, hcs]
          have hs : (memS (usedR got i) got[i]).isSome = false := by rw [memS_is]; exact decide_eq_false hx.1
          rw [if_neg (by rw [hs]; simp)] at H
          exact ⟨((((((((((S.nil.cons S 59 rfl).cons S 58 rfl).cons S 57 rfl).cons S 15 rfl).cons S 14 rfl).cons S 13 rfl).cons S 10 rfl).cons S 9 rfl).cons S 7 rfl).cons S 2 rfl), .inr ⟨by rw [hat, hrw]; exact hx.2, fun j hj e => hx.1 ((usedR_mem got _ i).2 ⟨j, hj, by rw [e, hat], h7p⟩)⟩, H.take [MapA b43 (fun n : Int => .int .i64 n) (fun b : Bool => .bool b) (upd (memS (usedR got i)) got[i] true) (cntM got i + 1), MapA b44 (fun n : Int => .int .i64 n) (fun b : Bool => .bool b) (memS (cover.reverse)) c0, Cel b10 75 [.map (some b44)], Cel b7 27 [vl, vr], Sl v2 1 encI got, Sl vr 1 encI cover, Sl vl 1 encI left, RowsS 1 encI ps, Sl v 1 encRow ps]⟩)
     ·have h7p := h7; try simp only [DL] at h7p
      refine g_skip ?_
      refine n_then ?_
      first
      | (have hc4 : got[i] = -1 := by simpa using h7p
         have hu : usedR got (i + 1) = usedR got i := by rw [usedR, if_pos (by rw [hat]; exact hc4)]
         rw [hat, if_pos hc4, Nat.add_zero] at hcs
         rw [hu, hcs]
         exact ⟨((((((((((S.nil.cons S 59 rfl).cons S 58 rfl).cons S 57 rfl).cons S 15 rfl).cons S 14 rfl).cons S 13 rfl).cons S 10 rfl).cons S 9 rfl).cons S 7 rfl).cons S 2 rfl), .inl (by rw [hat]; exact hc4), H.take [MapA b43 (fun n : Int => .int .i64 n) (fun b : Bool => .bool b) (memS (usedR got i)) (cntM got i), MapA b44 (fun n : Int => .int .i64 n) (fun b : Bool => .bool b) (memS (cover.reverse)) c0, Cel b10 75 [.map (some b44)], Cel b7 27 [vl, vr], Sl v2 1 encI got, Sl vr 1 encI cover, Sl vl 1 encI left, RowsS 1 encI ps, Sl v 1 encRow ps]⟩)
      | (have hu : usedR got (i + 1) = got[i] :: usedR got i := by rw [usedR, if_neg (by rw [hat]; exact h7p), hat]
         rw [hat, if_neg h7p] at hcs
         rw [hu, hcs]
         have hs : (memS (usedR got i) got[i]).isSome = false := by rw [memS_is]; exact decide_eq_false hx.1
         rw [if_neg (by rw [hs]; simp)] at H
         exact ⟨((((((((((S.nil.cons S 59 rfl).cons S 58 rfl).cons S 57 rfl).cons S 15 rfl).cons S 14 rfl).cons S 13 rfl).cons S 10 rfl).cons S 9 rfl).cons S 7 rfl).cons S 2 rfl), .inr ⟨by rw [hat, hrw]; exact hx.2, fun j hj e => hx.1 ((usedR_mem got _ i).2 ⟨j, hj, by rw [e, hat], h7p⟩)⟩, H.take [MapA b43 (fun n : Int => .int .i64 n) (fun b : Bool => .bool b) (upd (memS (usedR got i)) got[i] true) (cntM got i + 1), MapA b44 (fun n : Int => .int .i64 n) (fun b : Bool => .bool b) (memS (cover.reverse)) c0, Cel b10 75 [.map (some b44)], Cel b7 27 [vl, vr], Sl v2 1 encI got, Sl vr 1 encI cover, Sl vl 1 encI left, RowsS 1 encI ps, Sl v 1 encRow ps]⟩)
    rintro a w ⟨S, hgd, H⟩
    have H := (H.ro0 (Sl vrest 1 encI (left.drop q)) rfl hrs).ro0 (CapA vrest) rfl hrc
    refine g_seq ?_
    refine g_seq ?_
    refine g_region ?_
    refine gy rfl rfl rfl S (y_move rfl S rfl) fun a S => ?_
    refine gy rfl rfl rfl S (y_lens rfl Try.underlying25 S H rfl) fun a S => ?_
    refine gy rfl rfl rfl S (y_bin rfl S rfl rfl rfl) fun a S => ?_
    refine gy rfl rfl rfl S (y_move rfl S rfl) fun a S => ?_
    refine' wl_and 5 84 rfl S H rfl rfl rfl rfl rfl rfl rfl (fun _ S => (wn rfl)) (fun h10 kk => ?yh10) (fun a w S H => ?_)
    case yh10 =>
     have h10p := h10; try simp only [DL] at h10p
     refine gz 84 h10 S rfl rfl rfl rfl rfl rfl (y_move rfl S rfl) fun a S => ?_
     refine gz 84 h10 S rfl rfl rfl rfl rfl rfl (y_iaddrs rfl Try.underlying25 Fsiz3 S H rfl rfl (by first | assumption | omega | (simp only [List.length_append, List.length_take, List.length_drop, List.length_replicate, List.length_set, List.length_map, List.length_cons, List.length_nil]; omega))) fun a S => ?_
     refine gz 84 h10 S rfl rfl rfl rfl rfl rfl (y_loadsD _ (-1) rfl Fsca3 S H rfl (by first | omega | assumption) rfl) fun a S => ?_
     refine gz 84 h10 S rfl rfl rfl rfl rfl rfl (y_move rfl S rfl) fun a S => ?_
     refine gz 84 h10 S rfl rfl rfl rfl rfl rfl (y_bin rfl S rfl rfl rfl) fun a S => ?_
     refine gy rfl rfl rfl S (y_and' rfl h10 S rfl rfl) fun a S => ?_
     exact kk _ _ (S.join 6 90 rfl rfl) H
    refine gl_nil ?_
    refine n_then ?_
    refine c_if S rfl (fun h11 => ?_) (fun h11 => ?_)
    ·have h11p := h11; try simp only [DL] at h11p
     have hx6 := h11p
     rw [drop_at, hdl] at hx6
     have hq0 : q < left.length := by have := hx6.1; omega
     have hhit : atI left q = i := hx6.2
     refine g_seq ?_
     refine g_region ?_
     refine gy rfl rfl rfl S (y_move rfl S rfl) fun a S => ?_
     refine gy rfl rfl rfl S (y_sliceL rfl Try.underlying25 Fsiz3 S H rfl rfl (by first | assumption | omega | (simp only [List.length_append, List.length_take, List.length_drop, List.length_replicate, List.length_set, List.length_map, List.length_cons, List.length_nil]; omega))) fun a S => ?_
     refine gy rfl rfl rfl S (y_assign rfl S rfl) fun a S => ?_
     refine gl_nil ?_
     refine n_then ?_
     refine g_exit ?_
     refine x_then (x_eq ?_)
     refine n_then ?_
     refine g_region ?_
     refine gy rfl rfl rfl S (y_add rfl S rfl rfl (by omega)) fun a S => ?_
     refine gy rfl rfl rfl S (y_move rfl S rfl) fun a S => ?_
     refine gl_nil ?_
     refine n_then ?_
     first
     | (refine ⟨(i + 1, _), (S.nil.cons S 59 rfl).cons S 13 rfl, (((((S.nil.cons S 2 rfl).cons S 7 rfl).cons S 10 rfl).cons S 9 rfl).cons S 57 rfl).cons S 58 rfl, ⟨by dsimp only; omega, fun j hj => ?_, fun j hj => ?_, ⟨q + 1, rest_hit (formedB_iff.1 hf1) hq hq0 hhit, by have h := hrs.sub hrc 1 (left.drop q).length; rw [List.take_length, List.drop_drop] at h; exact h, capOK_sub hrc _ _ _⟩, H.take [_, _, Cel b10 75 [.map (some b44)], Cel b7 27 [vl, vr], Sl v2 1 encI got, Sl vr 1 encI cover, Sl vl 1 encI left, RowsS 1 encI ps, Sl v 1 encRow ps]⟩, by dsimp only; omega⟩
        · by_cases hji : j < i
          · exact hgood j hji
          · obtain rfl : j = i := by dsimp only at hj; omega
            exact hgd
        · by_cases hji : j < i
          · exact hcov j hji
          · obtain rfl : j = i := by dsimp only at hj; omega
            exact .inl (hrm.2 ⟨hq0, hhit⟩))
     | (refine ⟨(i + 1, vrest), (S.nil.cons S 59 rfl).cons S 13 rfl, (((((S.nil.cons S 2 rfl).cons S 7 rfl).cons S 10 rfl).cons S 9 rfl).cons S 57 rfl).cons S 58 rfl, ⟨by dsimp only; omega, fun j hj => ?_, fun j hj => ?_, ⟨q, rest_miss (formedB_iff.1 hf1) hq hmiss, hrs, hrc⟩, H.take [_, _, Cel b10 75 [.map (some b44)], Cel b7 27 [vl, vr], Sl v2 1 encI got, Sl vr 1 encI cover, Sl vl 1 encI left, RowsS 1 encI ps, Sl v 1 encRow ps]⟩, by dsimp only; omega⟩
        · by_cases hji : j < i
          · exact hgood j hji
          · obtain rfl : j = i := by dsimp only at hj; omega
            exact hgd
        · by_cases hji : j < i
          · exact hcov j hji
          · obtain rfl : j = i := by dsimp only at hj; omega
            exact .inr (by rw [hrw]; exact hall))
    ·have h11p := h11; try simp only [DL] at h11p
     have hmiss : ¬ (q < left.length ∧ atI left q = i) := fun h => by
       have hx6 := h11p
       rw [drop_at, hdl] at hx6
       rcases hx6 with hx6 | hx6
       · omega
       · exact hx6 h.2
     refine g_skip ?_
     refine n_then ?_
     refine g_seq ?_
     refine g_region ?_
     refine gy rfl rfl rfl S (y_move rfl S rfl) fun a S => ?_
     refine gy rfl rfl rfl S (y_makeFunc rfl S rfl rfl) fun a S => ?_
     refine wl_of (op_call (wn rfl) rfl rfl S (co_func rfl Try.call57 S rfl) (containsFunc_spec ps[i].1 ps[i].2 58 [.pointer (some ⟨b10, 0, none⟩)] Try.call58 (fun n => !decide (n ∈ cover.reverse)) _ (H.sl _) (fun x hx w hw => check1_spec x b10 b44 _ _ w ((H.ext hw).rd b10) ((H.ext hw).mp b44))) fun v w hc a S => ?_)
     obtain ⟨rfl, he⟩ := hc
     have H := H.ext he
     refine gl_nil ?_
     refine n_then ?_
     refine c_if S rfl (fun h12 => ?_) (fun h12 => ?_)
     ·have h12p := h12; try simp only [DL] at h12p
      obtain ⟨n, hn, hnc⟩ := List.any_eq_true.1 h12
      simp only [List.mem_reverse, Bool.not_eq_true', decide_eq_false_iff_not] at hnc
      refine g_seq ?_
      refine g_region ?_
      refine gy rfl rfl rfl S (y_assign rfl S rfl) fun a S => ?_
      refine gl_nil ?_
      refine n_then ?_
      refine g_ret ?_
      refine r_block (r_then (r_then (r_block (r_then (ret1 rfl S rfl ?_)))))
      exact ⟨congrArg Value.bool (check_no_cov i (by omega) (fun h => h.elim (fun h => hmiss (hrm.1 h)) (fun h => hnc (h n (by rw [hrw]; exact hn))))).symm, H.toExt⟩
     ·have h12p := h12; try simp only [DL] at h12p
      have hall : ∀ n ∈ ps[i].2, n ∈ cover := fun n hn => by
        have := List.any_eq_false.1 h12 n hn
        simpa using this
      refine g_skip ?_
      refine n_block ?_
      refine n_then ?_
      refine g_region ?_
      refine gy rfl rfl rfl S (y_add rfl S rfl rfl (by omega)) fun a S => ?_
      refine gy rfl rfl rfl S (y_move rfl S rfl) fun a S => ?_
      refine gl_nil ?_
      refine n_then ?_
      first
      | (refine ⟨(i + 1, _), (S.nil.cons S 59 rfl).cons S 13 rfl, (((((S.nil.cons S 2 rfl).cons S 7 rfl).cons S 10 rfl).cons S 9 rfl).cons S 57 rfl).cons S 58 rfl, ⟨by dsimp only; omega, fun j hj => ?_, fun j hj => ?_, ⟨q + 1, rest_hit (formedB_iff.1 hf1) hq hq0 hhit, by have h := hrs.sub hrc 1 (left.drop q).length; rw [List.take_length, List.drop_drop] at h; exact h, capOK_sub hrc _ _ _⟩, H.take [_, _, Cel b10 75 [.map (some b44)], Cel b7 27 [vl, vr], Sl v2 1 encI got, Sl vr 1 encI cover, Sl vl 1 encI left, RowsS 1 encI ps, Sl v 1 encRow ps]⟩, by dsimp only; omega⟩
         · by_cases hji : j < i
           · exact hgood j hji
           · obtain rfl : j = i := by dsimp only at hj; omega
             exact hgd
         · by_cases hji : j < i
           · exact hcov j hji
           · obtain rfl : j = i := by dsimp only at hj; omega
             exact .inl (hrm.2 ⟨hq0, hhit⟩))
      | (refine ⟨(i + 1, vrest), (S.nil.cons S 59 rfl).cons S 13 rfl, (((((S.nil.cons S 2 rfl).cons S 7 rfl).cons S 10 rfl).cons S 9 rfl).cons S 57 rfl).cons S 58 rfl, ⟨by dsimp only; omega, fun j hj => ?_, fun j hj => ?_, ⟨q, rest_miss (formedB_iff.1 hf1) hq hmiss, hrs, hrc⟩, H.take [_, _, Cel b10 75 [.map (some b44)], Cel b7 27 [vl, vr], Sl v2 1 encI got, Sl vr 1 encI cover, Sl vl 1 encI left, RowsS 1 encI ps, Sl v 1 encRow ps]⟩, by dsimp only; omega⟩
         · by_cases hji : j < i
           · exact hgood j hji
           · obtain rfl : j = i := by dsimp only at hj; omega
             exact hgd
         · by_cases hji : j < i
           · exact hcov j hji
           · obtain rfl : j = i := by dsimp only at hj; omega
             exact .inr (by rw [hrw]; exact hall))
   ·have h6p := h6; try simp only [DL] at h6p
    refine g_exit ?_
    refine x_then (x_then (x_eq ?_))
    refine n_then ?_
    have S := (S.nil.cons S 7 rfl).cons S 9 rfl
    refine g_seq ?_
    refine g_region ?_
    refine gy rfl rfl rfl S (y_move rfl S rfl) fun a S => ?_
    refine gy rfl rfl rfl S (y_lenm rfl Try.underlying75 S H rfl) fun a S => ?_
    refine gy rfl rfl rfl S (y_faddrb rfl Ffo27_0 S rfl) fun a S => ?_
    refine gy rfl rfl rfl S (y_load rfl Fsca25 S H rfl rfl) fun a S => ?_
    refine gy rfl rfl rfl S (y_lens rfl Try.underlying25 S H rfl) fun a S => ?_
    refine gy rfl rfl rfl S (y_faddrb rfl Ffo27_1 S rfl) fun a S => ?_
    refine gy rfl rfl rfl S (y_load rfl Fsca25 S H rfl rfl) fun a S => ?_
    refine gy rfl rfl rfl S (y_lens rfl Try.underlying25 S H rfl) fun a S => ?_
    refine gy rfl rfl rfl S (y_add rfl S rfl rfl (by omega)) fun a S => ?_
    refine gy rfl rfl rfl S (y_bin rfl S rfl rfl rfl) fun a S => ?_
    refine gy rfl rfl rfl S (y_assign rfl S rfl) fun a S => ?_
    refine gl_nil ?_
    refine n_then ?_
    have S := S.nil.cons S 8 rfl
    refine g_ret ?_
    refine ret1 rfl S rfl ?_
    obtain rfl : i = ps.length := by omega
    have e : got.length = ps.length := by omega
    refine ⟨?_, H.toExt⟩
    rw [check_yes hvg hgl hf1 hf2 (fun j hj => hgood j (by omega)) (fun j hj => hcov j (by omega)), e]
    rfl


end Go.Proofs.Ytenaoaegichecaa
