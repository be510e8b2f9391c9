/- The walks. No condition. -/
import Derived.Test.YtnnendajegdnhaaChecked
import Derived.Test.YtnnendajegdnhaaGwBits
import Derived.Test.YtnnendajegdnhaaFacts
import Derived.Test.YtnnendajegdnhaaPlain
namespace Go.Proofs.Ytnnendajegdnhaa
open Go Go.Gw
set_option linter.unusedVariables false
set_option linter.unusedSimpArgs false
/-- slices.IndexFunc[[]int,int] -/
theorem indexFunc_spec (v : Value) (xs : List Int) (f : FuncId) (cap : List Value) (he : Enters Try.prog f) (pr : Int → Bool) (w0 : World) (hv : IsSl w0 v 1 encI xs)
    (hstep : ∀ x ∈ xs, ∀ w, Ext w0 w → Ret Try.prog f ([Value.int .i64 x] ++ cap).toArray w (fun u w' => u = .bool (pr x) ∧ Ext w w')) :
    Ret Try.prog 71 #[v, .func (.func f) #[] cap.toArray] w0 (fun u w => (u = .int .i64 (-1) ∧ xs.any pr = false ∧ Ext w0 w) ∨ (∃ j : Nat, u = .int .i64 (j : Int) ∧ xs.any pr = true ∧ Ext w0 w)) := by
 refine ret_of_wp (nt := 19) Try.func71 rfl rfl rfl (fl := [(0, v), (1, .func (.func f) #[] cap.toArray)]) rfl (fun a S => ?_)
 have H := HSat.start w0
 have H := H.ro0 (Sl v 1 encI xs) rfl (hv)
 have hlen := hv.len
 refine gsr ?_
 refine ga S fun a S => ?_
 refine gnt ?_
 refine g_seq ?_
 refine gsr ?_
 refine gm S fun a S => ?_
 refine gy rfl rfl rfl S (y_lens rfl Try.underlying39 S H rfl) fun a S => ?_
 refine gm S fun a S => ?_
 refine gnt ?_
 refine g_block ?_
 have SU := ((S.nil.cons S 1 rfl).cons S 0 rfl).cons S 7 rfl
 refine loop_k (X := Nat) SU (fun k => [(8, .int .i64 (k : Int))]) (fun k => k ≤ xs.length ∧ (∀ j (h : j < xs.length), j < k → pr xs[j] = false)) (fun k => xs.length - k) 0 (S.nil.cons S 8 rfl) H (⟨by omega, fun j h hj => by omega⟩) (fun k a w S H hi => ?_)
 simp only [List.cons_append, List.nil_append] at S hi
 obtain ⟨hk, hpr⟩ := hi
 refine gsr ?_
 refine gy rfl rfl rfl S (y_bin rfl S rfl rfl rfl) fun a S => ?_
 refine gnt ?_
 refine g_seq ?_
 refine c_if S rfl (fun h1 => ?_) (fun h1 => ?_)
 ·have h1p := h1; try simp only [DL] at h1p
  refine g_skip ?_
  refine n_then ?_
  refine g_seq ?_
  refine g_block ?_
  refine gsr ?_
  refine gm S fun a S => ?_
  refine ga S fun a S => ?_
  refine gnt ?_
  refine gsr ?_
  refine gm S fun a S => ?_
  refine gm S fun a S => ?_
  refine gm S fun a S => ?_
  refine gy rfl rfl rfl S (y_iaddrn rfl Try.underlying39 Fsiz3 S H rfl rfl (by first | assumption | omega | (simp only [LL]; omega))) fun a S => ?_
  refine gy rfl rfl rfl S (y_loads _ rfl Fsca3 S H rfl (by first | assumption | omega | (simp only [LL]; omega)) rfl) fun a S => ?_
  refine wl_of (op_call (wn rfl) rfl rfl S (co_value rfl he S rfl rfl) (hstep _ (List.getElem_mem (by omega)) w H.toExt) fun v w hc a S => ?_)
  obtain ⟨rfl, he1⟩ := hc
  have H := H.ext he1
  refine gnt ?_
  have S := (((((S.nil.cons S 1 rfl).cons S 0 rfl).cons S 7 rfl).cons S 8 rfl).cons S 5 rfl).cons S 16 rfl
  refine c_if S rfl (fun h2 => ?_) (fun h2 => ?_)
  ·have h2p := h2; try simp only [DL] at h2p
   refine gsr ?_
   refine gm S fun a S => ?_
   refine ga S fun a S => ?_
   refine gnt ?_
   refine g_ret ?_
   refine r_block (r_then (r_then (r_block (r_then (ret1 rfl S rfl ?_)))))
   exact .inr ⟨k, rfl, List.any_eq_true.2 ⟨_, List.getElem_mem (by omega), h2⟩, H.toExt⟩
  ·have h2p := h2; try simp only [DL] at h2p
   refine g_skip ?_
   refine n_block ?_
   refine n_then ?_
   refine g_region ?_
   refine gy rfl rfl rfl S (y_add rfl S rfl rfl (by omega)) fun a S => ?_
   refine gm S fun a S => ?_
   refine gnt ?_
   refine ⟨k + 1, S.nil.cons S 8 rfl, ((S.nil.cons S 1 rfl).cons S 0 rfl).cons S 7 rfl, H, ?_, ?_⟩
   · exact ⟨by omega, fun j h hj => by by_cases hjk : j < k; exact hpr j h hjk; (obtain rfl : j = k := by omega); exact h2⟩
   · omega
 ·have h1p := h1; try simp only [DL] at h1p
  refine g_exit ?_
  refine x_then (x_then (x_eq ?_))
  refine n_then ?_
  have S := S.nil
  refine gsr ?_
  refine ga S fun a S => ?_
  refine gnt ?_
  refine g_ret ?_
  refine ret1 rfl S rfl ?_
  obtain rfl : k = xs.length := by omega
  exact .inl ⟨rfl, List.any_eq_false.2 (fun x hx => by obtain ⟨j, hj, rfl⟩ := List.getElem_of_mem hx; simp [hpr j hj hj]), H.toExt⟩
/-- slices.ContainsFunc[[]int,int] -/
theorem containsFunc_spec (v : Value) (xs : List Int) (f : FuncId) (cap : List Value) (he : Enters Try.prog f) (pr : Int → Bool) (w0 : World) (hv : IsSl w0 v 1 encI xs)
    (hstep : ∀ x ∈ xs, ∀ w, Ext w0 w → Ret Try.prog f ([Value.int .i64 x] ++ cap).toArray w (fun u w' => u = .bool (pr x) ∧ Ext w w')) :
    Ret Try.prog 74 #[v, .func (.func f) #[] cap.toArray] w0 (fun u w => u = .bool (xs.any pr) ∧ Ext w0 w) := by
 refine ret_of_wp (nt := 9) Try.func74 rfl rfl rfl (fl := [(0, v), (1, .func (.func f) #[] cap.toArray)]) rfl (fun a S => ?_)
 have H := HSat.start w0
 refine gsr ?_
 refine ga S fun a S => ?_
 refine gnt ?_
 refine gsr ?_
 refine gm S fun a S => ?_
 refine gm S fun a S => ?_
 refine wl_of (op_call (wn rfl) rfl rfl S (co_func rfl Try.call71 S rfl) (Ret.mono (indexFunc_spec v xs f cap he pr w0 hv hstep) (fun u w h => (show ∃ i : Int, u = .int .i64 i ∧ xs.any pr = decide (i ≥ 0) ∧ Ext w0 w from by rcases h with ⟨h1, h2, h3⟩ | ⟨j, h1, h2, h3⟩; exact ⟨-1, h1, by rw [h2]; rfl, h3⟩; exact ⟨j, h1, by rw [h2]; simp, h3⟩))) fun v w hc a S => ?_)
 obtain ⟨i, rfl, hany, he1⟩ := hc
 have H := H.ext he1
 refine gy rfl rfl rfl S (y_bin rfl S rfl rfl rfl) fun a S => ?_
 refine ga S fun a S => ?_
 refine gnt ?_
 have S := S.nil.cons S 4 rfl
 refine g_ret ?_
 refine ret1 rfl S rfl ?_
 exact ⟨by rw [hany], H.toExt⟩
/-- slices.IndexFunc[[][]int,[]int] -/
theorem indexFuncR_spec (v : Value) (xs : List (Value × List Int)) (f : FuncId) (cap : List Value) (he : Enters Try.prog f) (pr : (Value × List Int) → Bool) (w0 : World) (hv : IsSl w0 v 1 encRow xs)
    (hstep : ∀ x ∈ xs, ∀ w, Ext w0 w → Ret Try.prog f ([x.1] ++ cap).toArray w (fun u w' => u = .bool (pr x) ∧ Ext w w')) :
    Ret Try.prog 81 #[v, .func (.func f) #[] cap.toArray] w0 (fun u w => (u = .int .i64 (-1) ∧ xs.any pr = false ∧ Ext w0 w) ∨ (∃ j : Nat, u = .int .i64 (j : Int) ∧ xs.any pr = true ∧ Ext w0 w)) := by
 refine ret_of_wp (nt := 19) Try.func81 rfl rfl rfl (fl := [(0, v), (1, .func (.func f) #[] cap.toArray)]) rfl (fun a S => ?_)
 have H := HSat.start w0
 have H := H.ro0 (Sl v 1 encRow xs) rfl (hv)
 have hlen := hv.len
 refine gsr ?_
 refine ga S fun a S => ?_
 refine gnt ?_
 refine g_seq ?_
 refine gsr ?_
 refine gm S fun a S => ?_
 refine gy rfl rfl rfl S (y_lens rfl Try.underlying96 S H rfl) fun a S => ?_
 refine gm S fun a S => ?_
 refine gnt ?_
 refine g_block ?_
 have SU := ((S.nil.cons S 1 rfl).cons S 0 rfl).cons S 7 rfl
 refine loop_k (X := Nat) SU (fun k => [(8, .int .i64 (k : Int))]) (fun k => k ≤ xs.length ∧ (∀ j (h : j < xs.length), j < k → pr xs[j] = false)) (fun k => xs.length - k) 0 (S.nil.cons S 8 rfl) H (⟨by omega, fun j h hj => by omega⟩) (fun k a w S H hi => ?_)
 simp only [List.cons_append, List.nil_append] at S hi
 obtain ⟨hk, hpr⟩ := hi
 refine gsr ?_
 refine gy rfl rfl rfl S (y_bin rfl S rfl rfl rfl) fun a S => ?_
 refine gnt ?_
 refine g_seq ?_
 refine c_if S rfl (fun h1 => ?_) (fun h1 => ?_)
 ·have h1p := h1; try simp only [DL] at h1p
  refine g_skip ?_
  refine n_then ?_
  refine g_seq ?_
  refine g_block ?_
  refine gsr ?_
  refine gm S fun a S => ?_
  refine ga S fun a S => ?_
  refine gnt ?_
  refine gsr ?_
  refine gm S fun a S => ?_
  refine gm S fun a S => ?_
  refine gm S fun a S => ?_
  refine gy rfl rfl rfl S (y_iaddrn rfl Try.underlying96 Fsiz39 S H rfl rfl (by first | assumption | omega | (simp only [LL]; omega))) fun a S => ?_
  refine gy rfl rfl rfl S (y_loads _ rfl Fsca39 S H rfl (by first | assumption | omega | (simp only [LL]; omega)) rfl) fun a S => ?_
  refine wl_of (op_call (wn rfl) rfl rfl S (co_value rfl he S rfl rfl) (hstep _ (List.getElem_mem (by omega)) w H.toExt) fun v w hc a S => ?_)
  obtain ⟨rfl, he1⟩ := hc
  have H := H.ext he1
  refine gnt ?_
  have S := (((((S.nil.cons S 1 rfl).cons S 0 rfl).cons S 7 rfl).cons S 8 rfl).cons S 5 rfl).cons S 16 rfl
  refine c_if S rfl (fun h2 => ?_) (fun h2 => ?_)
  ·have h2p := h2; try simp only [DL] at h2p
   refine gsr ?_
   refine gm S fun a S => ?_
   refine ga S fun a S => ?_
   refine gnt ?_
   refine g_ret ?_
   refine r_block (r_then (r_then (r_block (r_then (ret1 rfl S rfl ?_)))))
   exact .inr ⟨k, rfl, List.any_eq_true.2 ⟨_, List.getElem_mem (by omega), h2⟩, H.toExt⟩
  ·have h2p := h2; try simp only [DL] at h2p
   refine g_skip ?_
   refine n_block ?_
   refine n_then ?_
   refine g_region ?_
   refine gy rfl rfl rfl S (y_add rfl S rfl rfl (by omega)) fun a S => ?_
   refine gm S fun a S => ?_
   refine gnt ?_
   refine ⟨k + 1, S.nil.cons S 8 rfl, ((S.nil.cons S 1 rfl).cons S 0 rfl).cons S 7 rfl, H, ?_, ?_⟩
   · exact ⟨by omega, fun j h hj => by by_cases hjk : j < k; exact hpr j h hjk; (obtain rfl : j = k := by omega); exact h2⟩
   · omega
 ·have h1p := h1; try simp only [DL] at h1p
  refine g_exit ?_
  refine x_then (x_then (x_eq ?_))
  refine n_then ?_
  have S := S.nil
  refine gsr ?_
  refine ga S fun a S => ?_
  refine gnt ?_
  refine g_ret ?_
  refine ret1 rfl S rfl ?_
  obtain rfl : k = xs.length := by omega
  exact .inl ⟨rfl, List.any_eq_false.2 (fun x hx => by obtain ⟨j, hj, rfl⟩ := List.getElem_of_mem hx; simp [hpr j hj hj]), H.toExt⟩
/-- slices.ContainsFunc[[][]int,[]int] -/
theorem containsFuncR_spec (v : Value) (xs : List (Value × List Int)) (f : FuncId) (cap : List Value) (he : Enters Try.prog f) (pr : (Value × List Int) → Bool) (w0 : World) (hv : IsSl w0 v 1 encRow xs)
    (hstep : ∀ x ∈ xs, ∀ w, Ext w0 w → Ret Try.prog f ([x.1] ++ cap).toArray w (fun u w' => u = .bool (pr x) ∧ Ext w w')) :
    Ret Try.prog 72 #[v, .func (.func f) #[] cap.toArray] w0 (fun u w => u = .bool (xs.any pr) ∧ Ext w0 w) := by
 refine ret_of_wp (nt := 9) Try.func72 rfl rfl rfl (fl := [(0, v), (1, .func (.func f) #[] cap.toArray)]) rfl (fun a S => ?_)
 have H := HSat.start w0
 refine gsr ?_
 refine ga S fun a S => ?_
 refine gnt ?_
 refine gsr ?_
 refine gm S fun a S => ?_
 refine gm S fun a S => ?_
 refine wl_of (op_call (wn rfl) rfl rfl S (co_func rfl Try.call81 S rfl) (Ret.mono (indexFuncR_spec v xs f cap he pr w0 hv hstep) (fun u w h => (show ∃ i : Int, u = .int .i64 i ∧ xs.any pr = decide (i ≥ 0) ∧ Ext w0 w from by rcases h with ⟨h1, h2, h3⟩ | ⟨j, h1, h2, h3⟩; exact ⟨-1, h1, by rw [h2]; rfl, h3⟩; exact ⟨j, h1, by rw [h2]; simp, h3⟩))) fun v w hc a S => ?_)
 obtain ⟨i, rfl, hany, he1⟩ := hc
 have H := H.ext he1
 refine gy rfl rfl rfl S (y_bin rfl S rfl rfl rfl) fun a S => ?_
 refine ga S fun a S => ?_
 refine gnt ?_
 have S := S.nil.cons S 4 rfl
 refine g_ret ?_
 refine ret1 rfl S rfl ?_
 exact ⟨by rw [hany], H.toExt⟩
/-- foyer/match.valid$1$1 -/
theorem valid11_spec (n : Int) (b : Nat) (right : Int) (w0 : World) (hb : w0.heap[b]? = some (.cells [Value.int .i64 right].toArray 3 (0, 0))) :
    Ret Try.prog 75 #[.int .i64 n, .pointer (some ⟨b, 0, none⟩)] w0 (fun u w => u = .bool (!okN right n) ∧ Ext w0 w) := by
 refine ret_of_wp (nt := 11) Try.func75 rfl rfl rfl (fl := [(0, .int .i64 n), (1, .pointer (some ⟨b, 0, none⟩))]) rfl (fun a S => ?_)
 have H := HSat.start w0
 have H := H.ro0 (Atom.ro (Cel b 3 [.int .i64 right])) rfl (hb)
 refine gsr ?_
 refine ga S fun a S => ?_
 refine gnt ?_
 refine gsr ?_
 refine gm S fun a S => ?_
 refine gy rfl rfl rfl S (y_bin rfl S rfl rfl rfl) fun a S => ?_
 refine gm S fun a S => ?_
 refine' wl_or 3 6 rfl S H rfl rfl rfl rfl rfl rfl rfl (fun _ S => (wn rfl)) (fun h1 kk => ?yh1) (fun a w S H => ?_)
 case yh1 =>
  have h1p := h1; try simp only [DL] at h1p
  refine gz 6 h1 S rfl rfl rfl rfl rfl rfl (y_move rfl S rfl) fun a S => ?_
  refine gz 6 h1 S rfl rfl rfl rfl rfl rfl (y_load rfl Fsca3 S H rfl rfl) fun a S => ?_
  refine gz 6 h1 S rfl rfl rfl rfl rfl rfl (y_bin rfl S rfl rfl rfl) fun a S => ?_
  refine gy rfl rfl rfl S (y_or' rfl h1 S rfl rfl) fun a S => ?_
  exact kk _ _ (S.join 4 10 rfl rfl) H
 refine ga S fun a S => ?_
 refine gnt ?_
 have S := S.nil.cons S 3 rfl
 refine g_ret ?_
 refine ret1 rfl S rfl ?_
 exact ⟨congrArg Value.bool (by rw [Bool.eq_iff_iff]; simp only [okN, Bool.or_eq_true, Bool.not_eq_true', Bool.and_eq_false_iff, decide_eq_true_eq, decide_eq_false_iff_not]; omega), H.toExt⟩
/-- foyer/match.valid$1 -/
theorem valid1_spec (v : Value) (xs : List Int) (b : Nat) (right : Int) (w0 : World) (hv : IsSl w0 v 1 encI xs) (hb : w0.heap[b]? = some (.cells [Value.int .i64 right].toArray 3 (0, 0))) :
    Ret Try.prog 73 #[v, .pointer (some ⟨b, 0, none⟩)] w0 (fun u w => u = .bool (xs.any (fun n => !okN right n)) ∧ Ext w0 w) := by
 refine ret_of_wp (nt := 7) Try.func73 rfl rfl rfl (fl := [(0, v), (1, .pointer (some ⟨b, 0, none⟩))]) rfl (fun a S => ?_)
 have H := HSat.start w0
 have H := H.ro0 (Sl v 1 encI xs) rfl (hv)
 have H := H.ro0 (Atom.ro (Cel b 3 [.int .i64 right])) rfl (hb)
 refine gsr ?_
 refine ga S fun a S => ?_
 refine gnt ?_
 refine gsr ?_
 refine gm S fun a S => ?_
 refine gy rfl rfl rfl S (y_makeFunc rfl S rfl rfl) fun a S => ?_
 refine wl_of (op_call (wn rfl) rfl rfl S (co_func rfl Try.call74 S rfl) (containsFunc_spec v xs 75 [.pointer (some ⟨b, 0, none⟩)] Try.call75 (fun n => !okN right n) _ (H.sl v) (fun x hx w hw => valid11_spec x b right w ((H.ext hw).rd b))) fun v w hc a S => ?_)
 obtain ⟨rfl, he⟩ := hc
 have H := H.ext he
 refine ga S fun a S => ?_
 refine gnt ?_
 have S := S.nil.cons S 3 rfl
 refine g_ret ?_
 refine ret1 rfl S rfl ?_
 exact ⟨rfl, H.toExt⟩
/-- foyer/match.valid -/
theorem valid_spec (v : Value) (ps : List (Value × List Int)) (right : Int) (w0 : World) (hv : IsSl w0 v 1 encRow ps) (hr : ∀ p ∈ ps, IsSl w0 p.1 1 encI p.2) :
    Ret Try.prog 57 #[v, .int .i64 right] w0 (fun u w => u = .bool (validG (gr ps) right) ∧ Ext w0 w) := by
 refine ret_of_wp (nt := 20) Try.func57 rfl rfl rfl (fl := [(0, v), (1, .int .i64 right)]) rfl (fun a S => ?_)
 have H := HSat.start w0
 have H := H.ro0 (Sl v 1 encRow ps) rfl (hv)
 have H := H.ro0 (RowsS 1 encI ps) rfl (hr)
 have hl := hv.len
 refine gsr ?_
 refine wl_of (op_box1 (wn rfl) rfl rfl rfl S H rfl rfl fun b3 a w S H => ?_)
 refine ga S fun a S => ?_
 refine gnt ?_
 refine g_seq ?_
 refine gsr ?_
 refine gm S fun a S => ?_
 refine gy rfl rfl rfl S (y_lens rfl Try.underlying96 S H rfl) fun a S => ?_
 refine gy rfl rfl rfl S (y_bin rfl S rfl rfl rfl) fun a S => ?_
 refine gm S fun a S => ?_
 refine' wl_or 2 8 rfl S H rfl rfl rfl rfl rfl rfl rfl (fun _ S => (wn rfl)) (fun h1 kk => ?yh1) (fun a w S H => ?_)
 case yh1 =>
  have h1p := h1; try simp only [DL] at h1p
  refine gz 8 h1 S rfl rfl rfl rfl rfl rfl (y_load rfl Fsca3 S H rfl rfl) fun a S => ?_
  refine gz 8 h1 S rfl rfl rfl rfl rfl rfl (y_bin rfl S rfl rfl rfl) fun a S => ?_
  refine gy rfl rfl rfl S (y_or' rfl h1 S rfl rfl) fun a S => ?_
  exact kk _ _ (S.join 3 11 rfl rfl) H
 refine gm S fun a S => ?_
 refine' wl_or 2 12 rfl S H rfl rfl rfl rfl rfl rfl rfl (fun _ S => (wn rfl)) (fun h2 kk => ?yh2) (fun a w S H => ?_)
 case yh2 =>
  have h2p := h2; try simp only [DL] at h2p
  refine gz 12 h2 S rfl rfl rfl rfl rfl rfl (y_load rfl Fsca3 S H rfl rfl) fun a S => ?_
  refine gz 12 h2 S rfl rfl rfl rfl rfl rfl (y_bin rfl S rfl rfl rfl) fun a S => ?_
  refine gy rfl rfl rfl S (y_or' rfl h2 S rfl rfl) fun a S => ?_
  exact kk _ _ (S.join 3 15 rfl rfl) H
 refine gnt ?_
 have S := (((S.nil.cons S 0 rfl).cons S 3 rfl).cons S 4 rfl).cons S 15 rfl
 refine c_if S rfl (fun h3 => ?_) (fun h3 => ?_)
 ·have h3p := h3; try simp only [DL] at h3p
  refine gsr ?_
  refine ga S fun a S => ?_
  refine gnt ?_
  refine g_ret ?_
  refine r_then (ret1 rfl S rfl ?_)
  exact ⟨congrArg Value.bool (valid_no1 (by rw [gr_len]; omega)).symm, H.toExt⟩
 ·have h3p := h3; try simp only [DL] at h3p
  refine g_skip ?_
  refine n_then ?_
  refine gsr ?_
  refine gm S fun a S => ?_
  refine gy rfl rfl rfl S (y_makeFunc rfl S rfl rfl) fun a S => ?_
  refine wl_of (op_call (wn rfl) rfl rfl S (co_func rfl Try.call72 S rfl) (containsFuncR_spec v ps 73 [.pointer (some ⟨b3, 0, none⟩)] Try.call73 (fun p => p.2.any (fun n => !okN right n)) _ (H.sl v) (fun x hx w hw => valid1_spec x.1 x.2 b3 right w ((H.ext hw).rwsS ps x hx) ((H.ext hw).rd b3))) fun v w hc a S => ?_)
  obtain ⟨rfl, he⟩ := hc
  have H := H.ext he
  refine gy rfl rfl rfl S (y_not rfl S rfl) fun a S => ?_
  refine ga S fun a S => ?_
  refine gnt ?_
  have S := S.nil.cons S 4 rfl
  refine g_ret ?_
  refine ret1 rfl S rfl ?_
  exact ⟨congrArg Value.bool (valid_any (by omega) (by omega) (by omega)).symm, H.toExt⟩
/-- what the search for a way does: f rounds deep at most -/
def AugSpec (f : Nat) (right : Int) (v vo vg : Value) (ps : List (Value × List Int)) (be bo ba bg bs : Nat) : Prop := ∀ {M : Nat → Prop} {u0 : World} {l : List Atom} (i : Nat) (s0 : AS) (c0 : Nat) (w0 : World), i < ps.length → AWF (gr ps) right s0 → right.toNat < f + s0.seen.length →
    HSat M u0 (MapA bs (fun n : Int => .int .i64 n) (fun b : Bool => .bool b) (memS (s0.seen)) c0 :: OSl 3 vo 1 encI (s0.owner) :: OSl 3 vg 1 encI (s0.got) :: Atom.ro (Cel bo 39 [vo]) :: Atom.ro (Cel bg 39 [vg]) :: Atom.ro (Cel be 96 [v]) :: Atom.ro (Cel ba 113 [.func (.func 58) #[] #[.pointer (some ⟨be, 0, none⟩), .pointer (some ⟨bo, 0, none⟩), .pointer (some ⟨ba, 0, none⟩), .pointer (some ⟨bg, 0, none⟩)]]) :: RowsS 1 encI ps :: Sl v 1 encRow ps :: l) w0 → Ret Try.prog 58 #[.int .i64 (i : Int), .map (some bs), .pointer (some ⟨be, 0, none⟩), .pointer (some ⟨bo, 0, none⟩), .pointer (some ⟨ba, 0, none⟩), .pointer (some ⟨bg, 0, none⟩)] w0 (fun u w => u = .bool (aug (gr ps) f (i : Int) s0).1 ∧ ∃ c, HSat M u0 (MapA bs (fun n : Int => .int .i64 n) (fun b : Bool => .bool b) (memS ((aug (gr ps) f (i : Int) s0).2.seen)) c :: OSl 3 vo 1 encI ((aug (gr ps) f (i : Int) s0).2.owner) :: OSl 3 vg 1 encI ((aug (gr ps) f (i : Int) s0).2.got) :: Atom.ro (Cel bo 39 [vo]) :: Atom.ro (Cel bg 39 [vg]) :: Atom.ro (Cel be 96 [v]) :: Atom.ro (Cel ba 113 [.func (.func 58) #[] #[.pointer (some ⟨be, 0, none⟩), .pointer (some ⟨bo, 0, none⟩), .pointer (some ⟨ba, 0, none⟩), .pointer (some ⟨bg, 0, none⟩)]]) :: RowsS 1 encI ps :: Sl v 1 encRow ps :: l) w)
set_option maxHeartbeats 2000000 in
/-- foyer/match.Match$1 -/
theorem aug_step {M : Nat → Prop} {u0 : World} {l : List Atom} (f : Nat) (right : Int) (v vo vg : Value) (ps : List (Value × List Int)) (be bo ba bg bs : Nat) (hvg : validG (gr ps) right = true) (ih : AugSpec f right v vo vg ps be bo ba bg bs) (i : Nat) (s0 : AS) (c0 : Nat) (w0 : World) (hi0 : i < ps.length) (hwf0 : AWF (gr ps) right s0) (hf0 : right.toNat < f + 1 + s0.seen.length) (h0 : HSat M u0 (MapA bs (fun n : Int => .int .i64 n) (fun b : Bool => .bool b) (memS (s0.seen)) c0 :: OSl 3 vo 1 encI (s0.owner) :: OSl 3 vg 1 encI (s0.got) :: Atom.ro (Cel bo 39 [vo]) :: Atom.ro (Cel bg 39 [vg]) :: Atom.ro (Cel be 96 [v]) :: Atom.ro (Cel ba 113 [.func (.func 58) #[] #[.pointer (some ⟨be, 0, none⟩), .pointer (some ⟨bo, 0, none⟩), .pointer (some ⟨ba, 0, none⟩), .pointer (some ⟨bg, 0, none⟩)]]) :: RowsS 1 encI ps :: Sl v 1 encRow ps :: l) w0) :
    Ret Try.prog 58 #[.int .i64 (i : Int), .map (some bs), .pointer (some ⟨be, 0, none⟩), .pointer (some ⟨bo, 0, none⟩), .pointer (some ⟨ba, 0, none⟩), .pointer (some ⟨bg, 0, none⟩)] w0 (fun u w => u = .bool (aug (gr ps) (f + 1) (i : Int) s0).1 ∧ ∃ c, HSat M u0 (MapA bs (fun n : Int => .int .i64 n) (fun b : Bool => .bool b) (memS ((aug (gr ps) (f + 1) (i : Int) s0).2.seen)) c :: OSl 3 vo 1 encI ((aug (gr ps) (f + 1) (i : Int) s0).2.owner) :: OSl 3 vg 1 encI ((aug (gr ps) (f + 1) (i : Int) s0).2.got) :: Atom.ro (Cel bo 39 [vo]) :: Atom.ro (Cel bg 39 [vg]) :: Atom.ro (Cel be 96 [v]) :: Atom.ro (Cel ba 113 [.func (.func 58) #[] #[.pointer (some ⟨be, 0, none⟩), .pointer (some ⟨bo, 0, none⟩), .pointer (some ⟨ba, 0, none⟩), .pointer (some ⟨bg, 0, none⟩)]]) :: RowsS 1 encI ps :: Sl v 1 encRow ps :: l) w) := by
 refine ret_of_wp (nt := 48) Try.func58 rfl rfl rfl (fl := [(0, .int .i64 (i : Int)), (1, .map (some bs)), (2, .pointer (some ⟨be, 0, none⟩)), (3, .pointer (some ⟨bo, 0, none⟩)), (4, .pointer (some ⟨ba, 0, none⟩)), (5, .pointer (some ⟨bg, 0, none⟩))]) rfl (fun a S => ?_)
 have H := h0
 have hgl := gr_len ps
 have hrw := gr_row ps hi0
 have hvp := validG_parts hvg
 have hlv := (H.sl v).len
 have hrl := (H.rwsS (sz := 1) (enc := encI) ps _ (List.getElem_mem hi0)).len
 refine gsr ?_
 refine ga S fun a S => ?_
 refine gnt ?_
 refine g_seq ?_
 refine gsr ?_
 refine gy rfl rfl rfl S (y_load rfl Fsca96 S H rfl rfl) fun a S => ?_
 refine gm S fun a S => ?_
 refine gy rfl rfl rfl S (y_iaddrn rfl Try.underlying96 Fsiz39 S H rfl rfl (by first | assumption | omega | (simp only [LL]; omega))) fun a S => ?_
 refine gy rfl rfl rfl S (y_loads _ rfl Fsca39 S H rfl (by first | assumption | omega | (simp only [LL]; omega)) rfl) fun a S => ?_
 refine gy rfl rfl rfl S (y_lens rfl Try.underlying39 S H rfl) fun a S => ?_
 refine gm S fun a S => ?_
 refine gnt ?_
 have S := ((((((((S.nil.cons S 5 rfl).cons S 4 rfl).cons S 3 rfl).cons S 1 rfl).cons S 0 rfl).cons S 8 rfl).cons S 14 rfl).cons S 15 rfl).cons S 16 rfl
 refine g_block ?_
 have SU := ((((((S.nil.cons S 5 rfl).cons S 4 rfl).cons S 3 rfl).cons S 1 rfl).cons S 0 rfl).cons S 14 rfl).cons S 15 rfl
 refine loopW (X := Nat) SU (fun k => [(16, .int .i64 (k : Int))]) (fun k w => k ≤ ps[i].2.length ∧ ∃ s c, augRow (aug (gr ps) f) i ps[i].2 s0 = augRow (aug (gr ps) f) i (ps[i].2.drop k) s ∧ AWF (gr ps) right s ∧ right.toNat < f + 1 + s.seen.length ∧ HSat M u0 (MapA bs (fun n : Int => .int .i64 n) (fun b : Bool => .bool b) (memS (s.seen)) c :: OSl 3 vo 1 encI (s.owner) :: OSl 3 vg 1 encI (s.got) :: Atom.ro (Cel bo 39 [vo]) :: Atom.ro (Cel bg 39 [vg]) :: Atom.ro (Cel be 96 [v]) :: Atom.ro (Cel ba 113 [.func (.func 58) #[] #[.pointer (some ⟨be, 0, none⟩), .pointer (some ⟨bo, 0, none⟩), .pointer (some ⟨ba, 0, none⟩), .pointer (some ⟨bg, 0, none⟩)]]) :: RowsS 1 encI ps :: Sl v 1 encRow ps :: l) w) (fun k => ps[i].2.length - k) 0 (S.nil.cons S 16 rfl) (⟨by omega, s0, c0, rfl, hwf0, hf0, H⟩) (fun k a w S hW => ?_)
 simp only [List.cons_append, List.nil_append] at S
 obtain ⟨hk, s, c, hau, hwf, hfu, H⟩ := hW
 have hlo := hwf.lo
 have hlg := hwf.lg
 refine gsr ?_
 refine gy rfl rfl rfl S (y_bin rfl S rfl rfl rfl) fun a S => ?_
 refine gnt ?_
 refine g_seq ?_
 refine c_if S rfl (fun h1 => ?_) (fun h1 => ?_)
 ·have h1p := h1; try simp only [DL] at h1p
  have hkl : k < ps[i].2.length := by omega
  obtain ⟨n, hn⟩ : ∃ n, n = ps[i].2[k] := ⟨_, rfl⟩
  have hnr : 0 ≤ n ∧ n < right := hvp.2.2.2 i n (by rw [hrw, hn]; exact List.getElem_mem _)
  have hrd : ps[i].2.drop k = n :: ps[i].2.drop (k + 1) := by rw [hn]; exact List.drop_eq_getElem_cons hkl
  refine g_skip ?_
  refine n_then ?_
  refine g_seq ?_
  refine g_block ?_
  refine gsr ?_
  refine gy rfl rfl rfl S (y_iaddrn rfl Try.underlying39 Fsiz3 S H rfl rfl (by first | assumption | omega | (simp only [LL]; omega))) fun a S => ?_
  refine gy rfl rfl rfl S (y_loads _ rfl Fsca3 S H rfl (by first | assumption | omega | (simp only [LL]; omega)) rfl) fun a S => ?_
  rw [← hn] at S
  refine ga S fun a S => ?_
  refine gnt ?_
  refine g_seq ?_
  refine gsr ?_
  refine gm S fun a S => ?_
  refine gm S fun a S => ?_
  refine gy rfl rfl rfl S (y_lookup (_) (false) rfl Try.underlying73 Finf4 S H rfl (keyOK_int Try.underlying3) (by exact rfl) (by exact rfl)) fun a S => ?_
  refine gnt ?_
  have S := (((((((((S.nil.cons S 5 rfl).cons S 4 rfl).cons S 3 rfl).cons S 1 rfl).cons S 0 rfl).cons S 14 rfl).cons S 15 rfl).cons S 16 rfl).cons S 10 rfl).cons S 22 rfl
  refine c_if S rfl (fun h2 => ?_) (fun h2 => ?_)
  ·have h2p := h2; try simp only [DL] at h2p
   have hx : n ∈ s.seen := by have := h2; rw [memS_get] at this; simpa using this
   refine g_exit ?_
   refine x_then (x_eq ?_)
   refine n_then ?_
   refine g_region ?_
   refine gy rfl rfl rfl S (y_add rfl S rfl rfl (by omega)) fun a S => ?_
   refine gm S fun a S => ?_
   refine gnt ?_
   first
   | exact ⟨k + 1, S.nil.cons S 16 rfl, ((((((S.nil.cons S 5 rfl).cons S 4 rfl).cons S 3 rfl).cons S 1 rfl).cons S 0 rfl).cons S 14 rfl).cons S 15 rfl, ⟨by omega, s, c, by rw [hau, hrd, augRow, if_pos hx], hwf, hfu, H⟩, by omega⟩
   | (have hbf : b = false := by simpa using @c3
      subst hbf
      exact ⟨k + 1, S.nil.cons S 16 rfl, ((((((S.nil.cons S 5 rfl).cons S 4 rfl).cons S 3 rfl).cons S 1 rfl).cons S 0 rfl).cons S 14 rfl).cons S 15 rfl, ⟨by omega, s2, c2, by rw [hau, hrd, augRow, if_neg hx, hatn, if_neg hb, ho, hq], hout.wf, by omega, H⟩, by omega⟩)
  ·have h2p := h2; try simp only [DL] at h2p
   have hx : n ∉ s.seen := by have := h2; rw [memS_get] at this; simpa using this
   have hwf1 := hwf.see hnr hx
   have hatn : atI s.owner n.toNat = s.owner[n.toNat] := atI_eq (by omega)
   have hon := hwf.own n.toNat
   refine g_skip ?_
   refine n_then ?_
   refine gsr ?_
   refine gm S fun a S => ?_
   refine gm S fun a S => ?_
   refine wl_of (op_mapUpdate (_) (_) (wn rfl) rfl rfl Try.underlying73 S H rfl (keyOK_int Try.underlying3) (by exact rfl) (by exact rfl) fun a w S H => ?_)
   refine gnt ?_
   refine g_seq ?_
   have H : ∃ c1, HSat M u0 (MapA bs (fun n : Int => .int .i64 n) (fun b : Bool => .bool b) (memS ((s.see n).seen)) c1 :: OSl 3 vo 1 encI (s.owner) :: OSl 3 vg 1 encI (s.got) :: Atom.ro (Cel bo 39 [vo]) :: Atom.ro (Cel bg 39 [vg]) :: Atom.ro (Cel be 96 [v]) :: Atom.ro (Cel ba 113 [.func (.func 58) #[] #[.pointer (some ⟨be, 0, none⟩), .pointer (some ⟨bo, 0, none⟩), .pointer (some ⟨ba, 0, none⟩), .pointer (some ⟨bg, 0, none⟩)]]) :: RowsS 1 encI ps :: Sl v 1 encRow ps :: l) _ := ⟨_, H⟩
   obtain ⟨c1, H⟩ := H
   by_cases hb : s.owner[n.toNat] < 0
   ·skip
    refine region_st (loud := [12]) (tails := [12]) (free := []) [0, 1, 2, 3, 4, 5, 6, 7, 8, 9, 10, 11, 12, 13] [] Fmo (by kernel_rfl) (by kernel_rfl) rfl H ?_
    refine m_w rfl rfl (wn rfl) rfl rfl S (fun w H => y_load rfl Fsca39 S H rfl rfl) fun a S => ?_
    refine m_w rfl rfl (wn rfl) rfl rfl S (fun w H => y_move rfl S rfl) fun a S => ?_
    refine m_w rfl rfl (wn rfl) rfl rfl S (fun w H => y_iaddrs rfl Try.underlying39 Fsiz3 S H rfl rfl (by first | assumption | omega | (simp only [LL]; omega))) fun a S => ?_
    refine m_loads _ rfl rfl (wn rfl) rfl rfl S rfl Fsca3 rfl (by first | assumption | omega | (simp only [LL]; omega)) rfl fun a S => ?_
    refine m_w rfl rfl (wn rfl) rfl rfl S (fun w H => y_bin rfl S rfl rfl rfl) fun a S => ?_
    rw [decide_eq_true hb] at S
    refine m_w rfl rfl (wn rfl) rfl rfl S (fun w H => y_move rfl S rfl) fun a S => ?_
    refine' m_orq (B2 := false) [6, 7, 8, 9, 10, 11, 12] 30 S rfl rfl rfl rfl rfl rfl rfl rfl rfl (fun _ S => (wn rfl)) (fun h kk => absurd h (by simp)) (fun a S => ?_)
    refine m_nil (fun w H => ?_)
    refine n_then ?_
    have S := (((((((((S.nil.cons S 5 rfl).cons S 4 rfl).cons S 3 rfl).cons S 1 rfl).cons S 0 rfl).cons S 14 rfl).cons S 15 rfl).cons S 16 rfl).cons S 10 rfl).cons S 38 rfl
    refine c_if S rfl (fun h3 => ?_) (fun h3 => ?_)
    ·have h3p := h3; try simp only [DL] at h3p
     refine g_seq ?_
     refine region_st (loud := [7, 9]) (tails := [7, 9]) (free := [2, 3, 5]) [0, 1, 2, 3, 4, 5, 6, 7, 8, 9] [Atom.ro (Cel bg 39 [vg])] Fmo (by kernel_rfl) (by kernel_rfl) rfl H ?_
     refine m_w rfl rfl (wn rfl) rfl rfl S (fun w H => y_load rfl Fsca39 S H rfl rfl) fun a S => ?_
     refine m_w rfl rfl (wn rfl) rfl rfl S (fun w H => y_move rfl S rfl) fun a S => ?_
     refine m_f rfl rfl (wn rfl) rfl rfl S (fun w H => y_load rfl Fsca39 S H rfl rfl) fun a S => ?_
     refine m_f rfl rfl (wn rfl) rfl rfl S (fun w H => y_move rfl S rfl) fun a S => ?_
     refine m_w rfl rfl (wn rfl) rfl rfl S (fun w H => y_move rfl S rfl) fun a S => ?_
     refine m_f rfl rfl (wn rfl) rfl rfl S (fun w H => y_move rfl S rfl) fun a S => ?_
     refine m_w rfl rfl (wn rfl) rfl rfl S (fun w H => y_iaddrs rfl Try.underlying39 Fsiz3 S H rfl rfl (by first | assumption | omega | (simp only [LL]; omega))) fun a S => ?_
     refine m_l rfl rfl (fun w H => op_store1 _ (_) (wn rfl) rfl rfl S H rfl rfl rfl rfl Fsiz3 (by first | assumption | omega | (simp only [LL]; omega)) (by exact rfl) fun a w S H => m_tail H rfl ?_)
     refine m_w rfl rfl (wn rfl) rfl rfl S (fun w H => y_iaddrn rfl Try.underlying39 Fsiz3 S H rfl rfl (by first | assumption | omega | (simp only [LL]; omega))) fun a S => ?_
     refine m_l rfl rfl (fun w H => op_store1 _ (_) (wn rfl) rfl rfl S H rfl rfl rfl rfl Fsiz3 (by first | assumption | omega | (simp only [LL]; omega)) (by exact rfl) fun a w S H => m_tail H rfl ?_)
     refine m_nil (fun w H => ?_)
     refine n_then ?_
     have S := (((((((S.nil.cons S 5 rfl).cons S 4 rfl).cons S 3 rfl).cons S 1 rfl).cons S 0 rfl).cons S 14 rfl).cons S 15 rfl).cons S 16 rfl
     refine gsr ?_
     refine ga S fun a S => ?_
     refine gnt ?_
     refine g_ret ?_
     refine r_block (r_then (r_then (r_block (r_then (ret1 rfl S rfl ?_)))))
     first
     | (have e : aug (gr ps) (f + 1) i s0 = (true, (s.see n).pair n i) := by rw [aug_succ ps f i s0 hi0, hau, hrd, augRow, if_neg hx, hatn, if_pos hb]
        rw [e]; exact ⟨rfl, _, H⟩)
     | (have hbt : b = true := by simpa using h3
        subst hbt
        have e : aug (gr ps) (f + 1) i s0 = (true, s2.pair n i) := by rw [aug_succ ps f i s0 hi0, hau, hrd, augRow, if_neg hx, hatn, if_neg hb, ho, hq]
        rw [e]; exact ⟨rfl, _, H⟩)
    ·have h3p := h3; try simp only [DL] at h3p
     all_goals (
       exact absurd h3 (by simp))
   ·obtain ⟨o, ho⟩ : ∃ o : Nat, s.owner[n.toNat] = o := ⟨s.owner[n.toNat].toNat, by omega⟩
    refine region_st (loud := [12]) (tails := [12]) (free := []) [0, 1, 2, 3, 4, 5, 6, 7, 8, 9, 10, 11, 12, 13] [] Fmo (by kernel_rfl) (by kernel_rfl) rfl H ?_
    refine m_w rfl rfl (wn rfl) rfl rfl S (fun w H => y_load rfl Fsca39 S H rfl rfl) fun a S => ?_
    refine m_w rfl rfl (wn rfl) rfl rfl S (fun w H => y_move rfl S rfl) fun a S => ?_
    refine m_w rfl rfl (wn rfl) rfl rfl S (fun w H => y_iaddrs rfl Try.underlying39 Fsiz3 S H rfl rfl (by first | assumption | omega | (simp only [LL]; omega))) fun a S => ?_
    refine m_loads _ rfl rfl (wn rfl) rfl rfl S rfl Fsca3 rfl (by first | assumption | omega | (simp only [LL]; omega)) rfl fun a S => ?_
    refine m_w rfl rfl (wn rfl) rfl rfl S (fun w H => y_bin rfl S rfl rfl rfl) fun a S => ?_
    rw [decide_eq_false hb] at S
    refine m_w rfl rfl (wn rfl) rfl rfl S (fun w H => y_move rfl S rfl) fun a S => ?_
    refine m_w rfl rfl (wg' 30 rfl rfl S rfl rfl rfl) rfl rfl S (fun w H => y_load rfl Fsca113 S H rfl rfl) fun a S => ?_
    refine m_w rfl rfl (wg' 30 rfl rfl S rfl rfl rfl) rfl rfl S (fun w H => y_load rfl Fsca39 S H rfl rfl) fun a S => ?_
    refine m_w rfl rfl (wg' 30 rfl rfl S rfl rfl rfl) rfl rfl S (fun w H => y_move rfl S rfl) fun a S => ?_
    refine m_w rfl rfl (wg' 30 rfl rfl S rfl rfl rfl) rfl rfl S (fun w H => y_iaddrs rfl Try.underlying39 Fsiz3 S H rfl rfl (by first | assumption | omega | (simp only [LL]; omega))) fun a S => ?_
    refine m_loads _ rfl rfl (wg' 30 rfl rfl S rfl rfl rfl) rfl rfl S rfl Fsca3 rfl (by first | assumption | omega | (simp only [LL]; omega)) rfl fun a S => ?_
    rw [ho] at S
    refine m_w rfl rfl (wg' 30 rfl rfl S rfl rfl rfl) rfl rfl S (fun w H => y_move rfl S rfl) fun a S => ?_
    refine m_l rfl rfl (fun w H => op_call (wg' 30 rfl rfl S rfl rfl rfl) rfl rfl S (co_value rfl Try.call58 S rfl rfl) (ih o (s.see n) c1 _ (by omega) hwf1 (by simp [AS.see]; omega) H) fun v w hc a S => ?_)
    obtain ⟨rfl, c2, H⟩ := hc
    have hout := aug_out hvg f o (s.see n) (by omega) hwf1
    obtain ⟨b, s2, hq⟩ : ∃ b s2, aug (gr ps) f o (s.see n) = (b, s2) := ⟨_, _, rfl⟩
    rw [hq] at S H hout
    dsimp only at S H hout
    have hlo2 := hout.wf.lo
    have hlg2 := hout.wf.lg
    have hln2 := hout.len
    simp only [AS.see, List.length_cons] at hln2
    refine m_tail H rfl ?_
    refine m_w rfl rfl (wn rfl) rfl rfl S (fun w H => y_or' rfl rfl S rfl rfl) fun a S => ?_
    refine m_nil (fun w H => ?_)
    refine n_then ?_
    have S := (((((((((S.nil.cons S 5 rfl).cons S 4 rfl).cons S 3 rfl).cons S 1 rfl).cons S 0 rfl).cons S 14 rfl).cons S 15 rfl).cons S 16 rfl).cons S 10 rfl).cons S 38 rfl
    refine c_if S rfl (fun h4 => ?_) (fun h4 => ?_)
    ·have h4p := h4; try simp only [DL] at h4p
     refine g_seq ?_
     refine region_st (loud := [7, 9]) (tails := [7, 9]) (free := [2, 3, 5]) [0, 1, 2, 3, 4, 5, 6, 7, 8, 9] [Atom.ro (Cel bg 39 [vg])] Fmo (by kernel_rfl) (by kernel_rfl) rfl H ?_
     refine m_w rfl rfl (wn rfl) rfl rfl S (fun w H => y_load rfl Fsca39 S H rfl rfl) fun a S => ?_
     refine m_w rfl rfl (wn rfl) rfl rfl S (fun w H => y_move rfl S rfl) fun a S => ?_
     refine m_f rfl rfl (wn rfl) rfl rfl S (fun w H => y_load rfl Fsca39 S H rfl rfl) fun a S => ?_
     refine m_f rfl rfl (wn rfl) rfl rfl S (fun w H => y_move rfl S rfl) fun a S => ?_
     refine m_w rfl rfl (wn rfl) rfl rfl S (fun w H => y_move rfl S rfl) fun a S => ?_
     refine m_f rfl rfl (wn rfl) rfl rfl S (fun w H => y_move rfl S rfl) fun a S => ?_
     refine m_w rfl rfl (wn rfl) rfl rfl S (fun w H => y_iaddrs rfl Try.underlying39 Fsiz3 S H rfl rfl (by first | assumption | omega | (simp only [LL]; omega))) fun a S => ?_
     refine m_l rfl rfl (fun w H => op_store1 _ (_) (wn rfl) rfl rfl S H rfl rfl rfl rfl Fsiz3 (by first | assumption | omega | (simp only [LL]; omega)) (by exact rfl) fun a w S H => m_tail H rfl ?_)
     refine m_w rfl rfl (wn rfl) rfl rfl S (fun w H => y_iaddrn rfl Try.underlying39 Fsiz3 S H rfl rfl (by first | assumption | omega | (simp only [LL]; omega))) fun a S => ?_
     refine m_l rfl rfl (fun w H => op_store1 _ (_) (wn rfl) rfl rfl S H rfl rfl rfl rfl Fsiz3 (by first | assumption | omega | (simp only [LL]; omega)) (by exact rfl) fun a w S H => m_tail H rfl ?_)
     refine m_nil (fun w H => ?_)
     refine n_then ?_
     have S := (((((((S.nil.cons S 5 rfl).cons S 4 rfl).cons S 3 rfl).cons S 1 rfl).cons S 0 rfl).cons S 14 rfl).cons S 15 rfl).cons S 16 rfl
     refine gsr ?_
     refine ga S fun a S => ?_
     refine gnt ?_
     refine g_ret ?_
     refine r_block (r_then (r_then (r_block (r_then (ret1 rfl S rfl ?_)))))
     first
     | (have e : aug (gr ps) (f + 1) i s0 = (true, (s.see n).pair n i) := by rw [aug_succ ps f i s0 hi0, hau, hrd, augRow, if_neg hx, hatn, if_pos hb]
        rw [e]; exact ⟨rfl, _, H⟩)
     | (have hbt : b = true := by simpa using h4
        subst hbt
        have e : aug (gr ps) (f + 1) i s0 = (true, s2.pair n i) := by rw [aug_succ ps f i s0 hi0, hau, hrd, augRow, if_neg hx, hatn, if_neg hb, ho, hq]
        rw [e]; exact ⟨rfl, _, H⟩)
    ·have h4p := h4; try simp only [DL] at h4p
     refine g_skip ?_
     refine n_block ?_
     refine n_then ?_
     refine g_region ?_
     refine gy rfl rfl rfl S (y_add rfl S rfl rfl (by omega)) fun a S => ?_
     refine gm S fun a S => ?_
     refine gnt ?_
     first
     | exact ⟨k + 1, S.nil.cons S 16 rfl, ((((((S.nil.cons S 5 rfl).cons S 4 rfl).cons S 3 rfl).cons S 1 rfl).cons S 0 rfl).cons S 14 rfl).cons S 15 rfl, ⟨by omega, s, c, by rw [hau, hrd, augRow, if_pos hx], hwf, hfu, H⟩, by omega⟩
     | (have hbf : b = false := by simpa using h4
        subst hbf
        exact ⟨k + 1, S.nil.cons S 16 rfl, ((((((S.nil.cons S 5 rfl).cons S 4 rfl).cons S 3 rfl).cons S 1 rfl).cons S 0 rfl).cons S 14 rfl).cons S 15 rfl, ⟨by omega, s2, c2, by rw [hau, hrd, augRow, if_neg hx, hatn, if_neg hb, ho, hq], hout.wf, by omega, H⟩, by omega⟩)
 ·have h1p := h1; try simp only [DL] at h1p
  refine g_exit ?_
  refine x_then (x_then (x_eq ?_))
  refine n_then ?_
  have S := S.nil
  refine gsr ?_
  refine ga S fun a S => ?_
  refine gnt ?_
  refine g_ret ?_
  refine ret1 rfl S rfl ?_
  have e : aug (gr ps) (f + 1) i s0 = (false, s) := by rw [aug_succ ps f i s0 hi0, hau, List.drop_of_length_le (by omega)]; rfl
  rw [e]; exact ⟨rfl, _, H⟩
theorem aug_spec (right : Int) (v vo vg : Value) (ps : List (Value × List Int)) (be bo ba bg bs : Nat) (hvg : validG (gr ps) right = true) : ∀ f, AugSpec f right v vo vg ps be bo ba bg bs
  | 0 => fun i s0 c0 w0 hi hwf hf h => by have := hwf.few; omega
  | f + 1 => fun i s0 c0 w0 hi hwf hf h => aug_step f right v vo vg ps be bo ba bg bs hvg (aug_spec right v vo vg ps be bo ba bg bs hvg f) i s0 c0 w0 hi hwf hf h
/-- what the search for all that can be reached does: f rounds deep at most -/
def ReachSpec (f : Nat) (right : Int) (D : Int → Prop) (v vo : Value) (ps : List (Value × List Int)) (owner : List Int) (bl be bq br bo ml mr : Nat) : Prop := ∀ {M : Nat → Prop} {u0 : World} {l : List Atom} (i : Nat) (s0 : RS) (k1 k2 : Nat) (w0 : World), i < ps.length → (∀ n ∈ rowG (gr ps) i, D n) → RWF (gr ps) right s0 → (∀ n ∈ s0.reached, D n) → right.toNat < f + s0.reached.length →
    HSat M u0 (MapA ml (fun n : Int => .int .i64 n) (fun b : Bool => .bool b) (memS (s0.left)) k1 :: MapA mr (fun n : Int => .int .i64 n) (fun b : Bool => .bool b) (memS (s0.reached)) k2 :: Atom.ro (Cel bl 73 [.map (some ml)]) :: Atom.ro (Cel be 96 [v]) :: Atom.ro (Cel bq 73 [.map (some mr)]) :: Atom.ro (Cel br 114 [.func (.func 59) #[] #[.pointer (some ⟨bl, 0, none⟩), .pointer (some ⟨be, 0, none⟩), .pointer (some ⟨bq, 0, none⟩), .pointer (some ⟨br, 0, none⟩), .pointer (some ⟨bo, 0, none⟩)]]) :: Atom.ro (Cel bo 39 [vo]) :: Atom.ro (OSl 3 vo 1 encI owner) :: RowsS 1 encI ps :: Sl v 1 encRow ps :: l) w0 → Ret Try.prog 59 #[.int .i64 (i : Int), .pointer (some ⟨bl, 0, none⟩), .pointer (some ⟨be, 0, none⟩), .pointer (some ⟨bq, 0, none⟩), .pointer (some ⟨br, 0, none⟩), .pointer (some ⟨bo, 0, none⟩)] w0 (fun u w => u = .tuple #[] ∧ ∃ c1 c2, HSat M u0 (MapA ml (fun n : Int => .int .i64 n) (fun b : Bool => .bool b) (memS ((reach (gr ps) owner f (i : Int) s0).left)) c1 :: MapA mr (fun n : Int => .int .i64 n) (fun b : Bool => .bool b) (memS ((reach (gr ps) owner f (i : Int) s0).reached)) c2 :: Atom.ro (Cel bl 73 [.map (some ml)]) :: Atom.ro (Cel be 96 [v]) :: Atom.ro (Cel bq 73 [.map (some mr)]) :: Atom.ro (Cel br 114 [.func (.func 59) #[] #[.pointer (some ⟨bl, 0, none⟩), .pointer (some ⟨be, 0, none⟩), .pointer (some ⟨bq, 0, none⟩), .pointer (some ⟨br, 0, none⟩), .pointer (some ⟨bo, 0, none⟩)]]) :: Atom.ro (Cel bo 39 [vo]) :: Atom.ro (OSl 3 vo 1 encI owner) :: RowsS 1 encI ps :: Sl v 1 encRow ps :: l) w)
set_option maxHeartbeats 2000000 in
/-- foyer/match.Match$2 -/
theorem reach_step {M : Nat → Prop} {u0 : World} {l : List Atom} (f : Nat) (right : Int) (D : Int → Prop) (v vo : Value) (ps : List (Value × List Int)) (owner : List Int) (bl be bq br bo ml mr : Nat) (hvg : validG (gr ps) right = true) (hol : owner.length = right.toNat) (hD : Closed (gr ps) owner D) (hDr : ∀ n, D n → 0 ≤ n ∧ n < right) (hown : ∀ n : Nat, atI owner n < (gr ps).length) (ih : ReachSpec f right D v vo ps owner bl be bq br bo ml mr) (i : Nat) (s0 : RS) (k1 k2 : Nat) (w0 : World) (hi0 : i < ps.length) (hnD : ∀ n ∈ rowG (gr ps) i, D n) (hwf0 : RWF (gr ps) right s0) (hsD0 : ∀ n ∈ s0.reached, D n) (hf0 : right.toNat < f + 1 + s0.reached.length) (h0 : HSat M u0 (MapA ml (fun n : Int => .int .i64 n) (fun b : Bool => .bool b) (memS (s0.left)) k1 :: MapA mr (fun n : Int => .int .i64 n) (fun b : Bool => .bool b) (memS (s0.reached)) k2 :: Atom.ro (Cel bl 73 [.map (some ml)]) :: Atom.ro (Cel be 96 [v]) :: Atom.ro (Cel bq 73 [.map (some mr)]) :: Atom.ro (Cel br 114 [.func (.func 59) #[] #[.pointer (some ⟨bl, 0, none⟩), .pointer (some ⟨be, 0, none⟩), .pointer (some ⟨bq, 0, none⟩), .pointer (some ⟨br, 0, none⟩), .pointer (some ⟨bo, 0, none⟩)]]) :: Atom.ro (Cel bo 39 [vo]) :: Atom.ro (OSl 3 vo 1 encI owner) :: RowsS 1 encI ps :: Sl v 1 encRow ps :: l) w0) :
    Ret Try.prog 59 #[.int .i64 (i : Int), .pointer (some ⟨bl, 0, none⟩), .pointer (some ⟨be, 0, none⟩), .pointer (some ⟨bq, 0, none⟩), .pointer (some ⟨br, 0, none⟩), .pointer (some ⟨bo, 0, none⟩)] w0 (fun u w => u = .tuple #[] ∧ ∃ c1 c2, HSat M u0 (MapA ml (fun n : Int => .int .i64 n) (fun b : Bool => .bool b) (memS ((reach (gr ps) owner (f + 1) (i : Int) s0).left)) c1 :: MapA mr (fun n : Int => .int .i64 n) (fun b : Bool => .bool b) (memS ((reach (gr ps) owner (f + 1) (i : Int) s0).reached)) c2 :: Atom.ro (Cel bl 73 [.map (some ml)]) :: Atom.ro (Cel be 96 [v]) :: Atom.ro (Cel bq 73 [.map (some mr)]) :: Atom.ro (Cel br 114 [.func (.func 59) #[] #[.pointer (some ⟨bl, 0, none⟩), .pointer (some ⟨be, 0, none⟩), .pointer (some ⟨bq, 0, none⟩), .pointer (some ⟨br, 0, none⟩), .pointer (some ⟨bo, 0, none⟩)]]) :: Atom.ro (Cel bo 39 [vo]) :: Atom.ro (OSl 3 vo 1 encI owner) :: RowsS 1 encI ps :: Sl v 1 encRow ps :: l) w) := by
 refine ret_of_wp (nt := 36) Try.func59 rfl rfl rfl (fl := [(0, .int .i64 (i : Int)), (1, .pointer (some ⟨bl, 0, none⟩)), (2, .pointer (some ⟨be, 0, none⟩)), (3, .pointer (some ⟨bq, 0, none⟩)), (4, .pointer (some ⟨br, 0, none⟩)), (5, .pointer (some ⟨bo, 0, none⟩))]) rfl (fun a S => ?_)
 have H := h0
 have hgl := gr_len ps
 have hrw := gr_row ps hi0
 have hvp := validG_parts hvg
 have hlv := (H.sl v).len
 have hrl := (H.rwsS (sz := 1) (enc := encI) ps _ (List.getElem_mem hi0)).len
 refine g_seq ?_
 refine gsr ?_
 refine gy rfl rfl rfl S (y_load rfl Fsca73 S H rfl rfl) fun a S => ?_
 refine gm S fun a S => ?_
 refine gy rfl rfl rfl S (y_lookup (_) (false) rfl Try.underlying73 Finf4 S H rfl (keyOK_int Try.underlying3) (by exact rfl) (by exact rfl)) fun a S => ?_
 refine gnt ?_
 refine c_if S rfl (fun h1 => ?_) (fun h1 => ?_)
 ·have h1p := h1; try simp only [DL] at h1p
  have hx0 : (i : Int) ∈ s0.left := by have := h1; rw [memS_get] at this; simpa using this
  refine g_ret ?_
  refine r_then (ret0 rfl S ?_)
  rw [reach_in _ _ _ _ _ hx0]; exact ⟨rfl, _, _, H⟩
 ·have h1p := h1; try simp only [DL] at h1p
  have hx0 : (i : Int) ∉ s0.left := by have := h1; rw [memS_get] at this; simpa using this
  have hwf1 : RWF (gr ps) right { s0 with left := (i : Int) :: s0.left } := ⟨hwf0.nd, hwf0.rng, fun j hj => by rcases List.mem_cons.1 hj with rfl | hj; omega; exact hwf0.lft j hj, List.nodup_cons.2 ⟨hx0, hwf0.lnd⟩⟩
  refine g_skip ?_
  refine n_then ?_
  refine gsr ?_
  refine gy rfl rfl rfl S (y_load rfl Fsca73 S H rfl rfl) fun a S => ?_
  refine gm S fun a S => ?_
  refine wl_of (op_mapUpdate (_) (_) (wn rfl) rfl rfl Try.underlying73 S H rfl (keyOK_int Try.underlying3) (by exact rfl) (by exact rfl) fun a w S H => ?_)
  refine gnt ?_
  have S := ((((S.nil.cons S 5 rfl).cons S 4 rfl).cons S 3 rfl).cons S 2 rfl).cons S 0 rfl
  refine gsr ?_
  refine gy rfl rfl rfl S (y_load rfl Fsca96 S H rfl rfl) fun a S => ?_
  refine gm S fun a S => ?_
  refine gy rfl rfl rfl S (y_iaddrn rfl Try.underlying96 Fsiz39 S H rfl rfl (by first | assumption | omega | (simp only [LL]; omega))) fun a S => ?_
  refine gy rfl rfl rfl S (y_loads _ rfl Fsca39 S H rfl (by first | assumption | omega | (simp only [LL]; omega)) rfl) fun a S => ?_
  refine gy rfl rfl rfl S (y_lens rfl Try.underlying39 S H rfl) fun a S => ?_
  refine gm S fun a S => ?_
  refine gnt ?_
  have S := (((((S.nil.cons S 5 rfl).cons S 4 rfl).cons S 3 rfl).cons S 17 rfl).cons S 18 rfl).cons S 19 rfl
  refine g_block ?_
  have SU := ((((S.nil.cons S 5 rfl).cons S 4 rfl).cons S 3 rfl).cons S 17 rfl).cons S 18 rfl
  refine loopW (X := Nat) SU (fun k => [(19, .int .i64 (k : Int))]) (fun k w => k ≤ ps[i].2.length ∧ ∃ s c1 c2, reachRow (reach (gr ps) owner f) owner ps[i].2 { s0 with left := (i : Int) :: s0.left } = reachRow (reach (gr ps) owner f) owner (ps[i].2.drop k) s ∧ RWF (gr ps) right s ∧ (∀ n ∈ s.reached, D n) ∧ right.toNat < f + 1 + s.reached.length ∧ HSat M u0 (MapA ml (fun n : Int => .int .i64 n) (fun b : Bool => .bool b) (memS (s.left)) c1 :: MapA mr (fun n : Int => .int .i64 n) (fun b : Bool => .bool b) (memS (s.reached)) c2 :: Atom.ro (Cel bl 73 [.map (some ml)]) :: Atom.ro (Cel be 96 [v]) :: Atom.ro (Cel bq 73 [.map (some mr)]) :: Atom.ro (Cel br 114 [.func (.func 59) #[] #[.pointer (some ⟨bl, 0, none⟩), .pointer (some ⟨be, 0, none⟩), .pointer (some ⟨bq, 0, none⟩), .pointer (some ⟨br, 0, none⟩), .pointer (some ⟨bo, 0, none⟩)]]) :: Atom.ro (Cel bo 39 [vo]) :: Atom.ro (OSl 3 vo 1 encI owner) :: RowsS 1 encI ps :: Sl v 1 encRow ps :: l) w) (fun k => ps[i].2.length - k) 0 (S.nil.cons S 19 rfl) (⟨by omega, { s0 with left := (i : Int) :: s0.left }, _, _, rfl, hwf1, hsD0, hf0, H⟩) (fun k a w S hW => ?_)
  simp only [List.cons_append, List.nil_append] at S
  obtain ⟨hk, s, c1, c2, hau, hwf, hsD, hfu, H⟩ := hW
  refine gsr ?_
  refine gy rfl rfl rfl S (y_bin rfl S rfl rfl rfl) fun a S => ?_
  refine gnt ?_
  refine g_seq ?_
  refine c_if S rfl (fun h2 => ?_) (fun h2 => ?_)
  ·have h2p := h2; try simp only [DL] at h2p
   have hkl : k < ps[i].2.length := by omega
   obtain ⟨n, hn⟩ : ∃ n, n = ps[i].2[k] := ⟨_, rfl⟩
   have hnm : n ∈ rowG (gr ps) i := by rw [hrw, hn]; exact List.getElem_mem _
   have hnr := hvp.2.2.2 i n hnm
   have hnDn := hnD n hnm
   have hrd : ps[i].2.drop k = n :: ps[i].2.drop (k + 1) := by rw [hn]; exact List.drop_eq_getElem_cons hkl
   have hatn : atI owner n.toNat = owner[n.toNat] := atI_eq (by omega)
   have hon := hown n.toNat
   refine g_skip ?_
   refine n_then ?_
   refine g_seq ?_
   refine g_block ?_
   refine gsr ?_
   refine gy rfl rfl rfl S (y_iaddrn rfl Try.underlying39 Fsiz3 S H rfl rfl (by first | assumption | omega | (simp only [LL]; omega))) fun a S => ?_
   refine gy rfl rfl rfl S (y_loads _ rfl Fsca3 S H rfl (by first | assumption | omega | (simp only [LL]; omega)) rfl) fun a S => ?_
   rw [← hn] at S
   refine ga S fun a S => ?_
   refine gnt ?_
   refine gsr ?_
   refine gy rfl rfl rfl S (y_load rfl Fsca73 S H rfl rfl) fun a S => ?_
   refine gm S fun a S => ?_
   refine gy rfl rfl rfl S (y_lookup (_) (false) rfl Try.underlying73 Finf4 S H rfl (keyOK_int Try.underlying3) (by exact rfl) (by exact rfl)) fun a S => ?_
   refine gy rfl rfl rfl S (y_not rfl S rfl) fun a S => ?_
   refine gnt ?_
   have S := (((((((S.nil.cons S 5 rfl).cons S 4 rfl).cons S 3 rfl).cons S 17 rfl).cons S 18 rfl).cons S 19 rfl).cons S 8 rfl).cons S 26 rfl
   refine c_if S rfl (fun h3 => ?_) (fun h3 => ?_)
   ·have h3p := h3; try simp only [DL] at h3p
    have hx : n ∉ s.reached := by have := h3; rw [memS_get] at this; simpa using this
    have htk := hD.taken n.toNat (by rw [Int.toNat_of_nonneg hnr.1]; exact hnDn)
    have hall := hD.all n.toNat (by rw [Int.toNat_of_nonneg hnr.1]; exact hnDn)
    obtain ⟨o, ho⟩ : ∃ o : Nat, owner[n.toNat] = o := ⟨owner[n.toNat].toNat, by omega⟩
    rw [hatn, ho, Int.toNat_natCast] at hall
    have hwf2 : RWF (gr ps) right { s with reached := n :: s.reached } := ⟨List.nodup_cons.2 ⟨hx, hwf.nd⟩, fun m hm => by rcases List.mem_cons.1 hm with rfl | hm; exact hnr; exact hwf.rng m hm, hwf.lft, hwf.lnd⟩
    have hsD2 : ∀ m ∈ n :: s.reached, D m := fun m hm => by rcases List.mem_cons.1 hm with rfl | hm; exact hnDn; exact hsD m hm
    refine gsr ?_
    refine gy rfl rfl rfl S (y_load rfl Fsca73 S H rfl rfl) fun a S => ?_
    refine gm S fun a S => ?_
    refine wl_of (op_mapUpdate (_) (_) (wn rfl) rfl rfl Try.underlying73 S H rfl (keyOK_int Try.underlying3) (by exact rfl) (by exact rfl) fun a w S H => ?_)
    refine gnt ?_
    refine region_st (loud := [5]) (tails := [5]) (free := []) [0, 1, 2, 3, 4, 5] [] Fmo (by kernel_rfl) (by kernel_rfl) rfl H ?_
    refine m_w rfl rfl (wn rfl) rfl rfl S (fun w H => y_load rfl Fsca114 S H rfl rfl) fun a S => ?_
    refine m_w rfl rfl (wn rfl) rfl rfl S (fun w H => y_load rfl Fsca39 S H rfl rfl) fun a S => ?_
    refine m_w rfl rfl (wn rfl) rfl rfl S (fun w H => y_move rfl S rfl) fun a S => ?_
    refine m_w rfl rfl (wn rfl) rfl rfl S (fun w H => y_iaddrs rfl Try.underlying39 Fsiz3 S H rfl rfl (by first | assumption | omega | (simp only [LL]; omega))) fun a S => ?_
    refine m_loads _ rfl rfl (wn rfl) rfl rfl S rfl Fsca3 rfl (by first | assumption | omega | (simp only [LL]; omega)) rfl fun a S => ?_
    rw [ho] at S
    refine m_l rfl rfl (fun w H => op_call (wn rfl) rfl rfl S (co_value rfl Try.call59 S rfl rfl) (ih o { s with reached := n :: s.reached } _ _ _ (by omega) hall hwf2 hsD2 (by simp only [List.length_cons]; omega) H) fun v w hc a S => ?_)
    obtain ⟨rfl, c3, c4, H⟩ := hc
    obtain ⟨ho1, ho2, ho3, ho4⟩ := reach_law hD hDr hown f o { s with reached := n :: s.reached } (by omega) (by rw [Int.toNat_natCast]; exact hall) hwf2 hsD2 (by simp only [List.length_cons]; omega)
    have hln2 := ho1.len
    simp only [List.length_cons] at hln2
    refine m_tail H rfl ?_
    refine m_nil (fun w H => ?_)
    refine n_block ?_
    refine n_then ?_
    have S := (((((S.nil.cons S 5 rfl).cons S 4 rfl).cons S 3 rfl).cons S 17 rfl).cons S 18 rfl).cons S 19 rfl
    refine g_region ?_
    refine gy rfl rfl rfl S (y_add rfl S rfl rfl (by omega)) fun a S => ?_
    refine gm S fun a S => ?_
    refine gnt ?_
    first
    | exact ⟨k + 1, S.nil.cons S 19 rfl, ((((S.nil.cons S 5 rfl).cons S 4 rfl).cons S 3 rfl).cons S 17 rfl).cons S 18 rfl, ⟨by omega, s, c1, c2, by rw [hau, hrd, reachRow, if_pos hx], hwf, hsD, hfu, H⟩, by omega⟩
    | exact ⟨k + 1, S.nil.cons S 19 rfl, ((((S.nil.cons S 5 rfl).cons S 4 rfl).cons S 3 rfl).cons S 17 rfl).cons S 18 rfl, ⟨by omega, _, c3, c4, by rw [hau, hrd, reachRow, if_neg hx, hatn, ho], ho1.wf, ho4, by omega, H⟩, by omega⟩
   ·have h3p := h3; try simp only [DL] at h3p
    have hx : n ∈ s.reached := by have := h3; rw [memS_get] at this; simpa using this
    refine g_skip ?_
    refine n_block ?_
    refine n_then ?_
    refine g_region ?_
    refine gy rfl rfl rfl S (y_add rfl S rfl rfl (by omega)) fun a S => ?_
    refine gm S fun a S => ?_
    refine gnt ?_
    first
    | exact ⟨k + 1, S.nil.cons S 19 rfl, ((((S.nil.cons S 5 rfl).cons S 4 rfl).cons S 3 rfl).cons S 17 rfl).cons S 18 rfl, ⟨by omega, s, c1, c2, by rw [hau, hrd, reachRow, if_pos hx], hwf, hsD, hfu, H⟩, by omega⟩
    | exact ⟨k + 1, S.nil.cons S 19 rfl, ((((S.nil.cons S 5 rfl).cons S 4 rfl).cons S 3 rfl).cons S 17 rfl).cons S 18 rfl, ⟨by omega, _, c3, c4, by rw [hau, hrd, reachRow, if_neg hx, hatn, ho], ho1.wf, ho4, by omega, H⟩, by omega⟩
  ·have h2p := h2; try simp only [DL] at h2p
   refine g_exit ?_
   refine x_then (x_then (x_eq ?_))
   refine ret0n rfl S ?_
   rw [reach_succ ps owner f i s0 hi0 hx0, hau, List.drop_of_length_le (by omega)]; exact ⟨rfl, _, _, H⟩
theorem reach_spec (right : Int) (D : Int → Prop) (v vo : Value) (ps : List (Value × List Int)) (owner : List Int) (bl be bq br bo ml mr : Nat) (hvg : validG (gr ps) right = true) (hol : owner.length = right.toNat) (hD : Closed (gr ps) owner D) (hDr : ∀ n, D n → 0 ≤ n ∧ n < right) (hown : ∀ n : Nat, atI owner n < (gr ps).length) : ∀ f, ReachSpec f right D v vo ps owner bl be bq br bo ml mr
  | 0 => fun i s0 k1 k2 w0 hi hn hwf hs hf h => by have := hwf.few; omega
  | f + 1 => fun i s0 k1 k2 w0 hi hn hwf hs hf h => reach_step f right D v vo ps owner bl be bq br bo ml mr hvg hol hD hDr hown (reach_spec right D v vo ps owner bl be bq br bo ml mr hvg hol hD hDr hown f) i s0 k1 k2 w0 hi hn hwf hs hf h
set_option maxHeartbeats 4000000 in
/-- foyer/match.Match -/
theorem match_ok (v : Value) (ps : List (Value × List Int)) (r : Nat) (w0 : World) (hv : IsSl w0 v 1 encRow ps) (hr : ∀ p ∈ ps, IsSl w0 p.1 1 encI p.2) (hvg : validG (gr ps) r = true) :
    Ret Try.prog 45 #[v, .int .i64 (r : Int)] w0 (fun u w => ∃ vg vl vr, u = .tuple #[vg, .agg #[vl, vr], .int .i64 0] ∧ HSat No w0 [OSl 3 vg 1 encI (gotL (gr ps) r), OSl 3 vl 1 encI (leftL (gr ps) r), OSl 3 vr 1 encI (rightL (gr ps) r)] w) := by
 refine ret_of_wp (nt := 108) Try.func45 rfl rfl rfl (fl := [(0, v), (1, .int .i64 (r : Int))]) rfl (fun a S => ?_)
 have H := HSat.start w0
 have H := H.ro0 (Sl v 1 encRow ps) rfl (hv)
 have H := H.ro0 (RowsS 1 encI ps) rfl (hr)
 have hl := hv.len
 have hlen := gr_len ps
 have hvp := validG_parts hvg
 have hrl : r ≤ 4000 := by omega
 refine gsr ?_
 refine wl_of (op_box1 (wn rfl) rfl rfl rfl S H rfl (H.slc _) fun b2 a w S H => ?_)
 refine ga S fun a S => ?_
 refine wl_of (op_alloc (wn rfl) rfl rfl rfl S H Fzer41 fun b5 a w S H => ?_)
 refine ga S fun a S => ?_
 refine gnt ?_
 refine g_seq ?_
 refine gsr ?_
 refine gy rfl rfl rfl S (y_load rfl Fsca96 S H rfl rfl) fun a S => ?_
 refine gm S fun a S => ?_
 refine wl_of (op_call (wn rfl) rfl rfl S (co_func rfl Try.call57 S rfl) (valid_spec v ps r _ (H.sl v) (H.rwsS ps)) fun v w hc a S => ?_)
 obtain ⟨rfl, he⟩ := hc
 have H := H.ext he
 refine gy rfl rfl rfl S (y_not rfl S rfl) fun a S => ?_
 refine gnt ?_
 have S := (((((S.nil.cons S 1 rfl).cons S 2 rfl).cons S 4 rfl).cons S 5 rfl).cons S 6 rfl).cons S 24 rfl
 refine c_if S rfl (fun h1 => ?_) (fun h1 => ?_)
 ·have h1p := h1; try simp only [DL] at h1p
  all_goals (
    rw [hvg] at h1; simp at h1)
 ·have h1p := h1; try simp only [DL] at h1p
  refine g_skip ?_
  refine n_then ?_
  refine gsr ?_
  refine gy rfl rfl rfl S (y_load rfl Fsca96 S H rfl rfl) fun a S => ?_
  refine gy rfl rfl rfl S (y_lens rfl Try.underlying96 S H rfl) fun a S => ?_
  refine wl_of (op_make (encI) (0) (wn rfl) rfl rfl rfl Try.underlying39 Finf3 rfl rfl S H rfl rfl rfl (by omega) (by omega) fun b28 a w S H => ?_)
  refine wl_of (op_alloc (wn rfl) rfl rfl rfl S H Fzer39 fun b7 a w S H => ?_)
  refine wl_of (op_store (wn rfl) rfl rfl S H rfl rfl (H.sl1 _) Fsiz39 rfl fun a w S H => ?_)
  dsimp only [List.set, Nat.zero_add, Nat.reduceAdd] at H
  refine gnt ?_
  have S := (((((S.nil.cons S 1 rfl).cons S 2 rfl).cons S 4 rfl).cons S 5 rfl).cons S 6 rfl).cons S 7 rfl
  refine gsr ?_
  refine gm S fun a S => ?_
  refine wl_of (op_make (encI) (0) (wn rfl) rfl rfl rfl Try.underlying39 Finf3 rfl rfl S H rfl rfl rfl (by omega) (by omega) fun b30 a w S H => ?_)
  refine wl_of (op_alloc (wn rfl) rfl rfl rfl S H Fzer39 fun b8 a w S H => ?_)
  refine wl_of (op_store (wn rfl) rfl rfl S H rfl rfl (H.sl1 _) Fsiz39 rfl fun a w S H => ?_)
  dsimp only [List.set, Nat.zero_add, Nat.reduceAdd] at H
  refine gnt ?_
  refine g_seq ?_
  refine gsr ?_
  refine gy rfl rfl rfl S (y_load rfl Fsca39 S H rfl rfl) fun a S => ?_
  refine gy rfl rfl rfl S (y_lens rfl Try.underlying39 S H rfl) fun a S => ?_
  rw [List.length_replicate] at S
  refine gm S fun a S => ?_
  refine gnt ?_
  refine g_block ?_
  have SU := (((((((S.nil.cons S 1 rfl).cons S 2 rfl).cons S 4 rfl).cons S 5 rfl).cons S 6 rfl).cons S 7 rfl).cons S 8 rfl).cons S 32 rfl
  refine loopW (X := Nat) SU (fun k => [(33, .int .i64 (k : Int))]) (fun k w => k ≤ ps.length ∧ HSat No w0 [OSl 3 (.slice (some ⟨b28, 0, none⟩) ps.length ps.length) 1 encI (fillL ps.length k), OSl 3 (.slice (some ⟨b30, 0, none⟩) r r) 1 encI (List.replicate r 0), Cel b8 39 [(.slice (some ⟨b30, 0, none⟩) r r)], Cel b7 39 [(.slice (some ⟨b28, 0, none⟩) ps.length ps.length)], Cel b2 96 [v], Cel b5 41 [.slice none 0 0, .slice none 0 0], RowsS 1 encI ps, Sl v 1 encRow ps] w) (fun k => ps.length - k) 0 (S.nil.cons S 33 rfl) (⟨by omega, by rw [fill_zero]; exact H.take [OSl 3 (.slice (some ⟨b28, 0, none⟩) ps.length ps.length) 1 encI (List.replicate ps.length 0), OSl 3 (.slice (some ⟨b30, 0, none⟩) r r) 1 encI (List.replicate r 0), Cel b8 39 [(.slice (some ⟨b30, 0, none⟩) r r)], Cel b7 39 [(.slice (some ⟨b28, 0, none⟩) ps.length ps.length)], Cel b2 96 [v], Cel b5 41 [.slice none 0 0, .slice none 0 0], RowsS 1 encI ps, Sl v 1 encRow ps]⟩) (fun k a w S hW => ?_)
  simp only [List.cons_append, List.nil_append] at S
  obtain ⟨hk, H⟩ := hW
  have hfl := fill_len hk
  refine gsr ?_
  refine gy rfl rfl rfl S (y_bin rfl S rfl rfl rfl) fun a S => ?_
  refine gnt ?_
  refine g_seq ?_
  refine c_if S rfl (fun h2 => ?_) (fun h2 => ?_)
  ·have h2p := h2; try simp only [DL] at h2p
   refine g_skip ?_
   refine n_then ?_
   refine g_seq ?_
   refine g_block ?_
   refine gsr ?_
   refine gm S fun a S => ?_
   refine ga S fun a S => ?_
   refine gnt ?_
   refine g_region ?_
   refine gy rfl rfl rfl S (y_load rfl Fsca39 S H rfl rfl) fun a S => ?_
   refine gm S fun a S => ?_
   refine gy rfl rfl rfl S (y_iaddrn rfl Try.underlying39 Fsiz3 S H rfl rfl (by first | assumption | omega | (simp only [LL]; omega))) fun a S => ?_
   refine wl_of (op_store1 _ (_) (wn rfl) rfl rfl S H rfl rfl rfl rfl Fsiz3 (by first | assumption | omega | (simp only [LL]; omega)) (by exact rfl) fun a w S H => ?_)
   refine gl_nil ?_
   refine n_block ?_
   refine n_then ?_
   have S := ((((((((S.nil.cons S 1 rfl).cons S 2 rfl).cons S 4 rfl).cons S 5 rfl).cons S 6 rfl).cons S 7 rfl).cons S 8 rfl).cons S 32 rfl).cons S 33 rfl
   refine g_region ?_
   refine gy rfl rfl rfl S (y_add rfl S rfl rfl (by omega)) fun a S => ?_
   refine gm S fun a S => ?_
   refine gnt ?_
   rw [fill_step (by omega)] at H
   exact ⟨k + 1, S.nil.cons S 33 rfl, (((((((S.nil.cons S 1 rfl).cons S 2 rfl).cons S 4 rfl).cons S 5 rfl).cons S 6 rfl).cons S 7 rfl).cons S 8 rfl).cons S 32 rfl, ⟨by omega, H⟩, by omega⟩
  ·have h2p := h2; try simp only [DL] at h2p
   obtain rfl : k = ps.length := by omega
   rw [fill_end] at H
   refine g_exit ?_
   refine x_then (x_then (x_eq ?_))
   refine n_then ?_
   refine g_seq ?_
   refine gsr ?_
   refine gy rfl rfl rfl S (y_load rfl Fsca39 S H rfl rfl) fun a S => ?_
   refine gy rfl rfl rfl S (y_lens rfl Try.underlying39 S H rfl) fun a S => ?_
   rw [List.length_replicate] at S
   refine gm S fun a S => ?_
   refine gnt ?_
   have S := ((((((((S.nil.cons S 1 rfl).cons S 2 rfl).cons S 4 rfl).cons S 5 rfl).cons S 6 rfl).cons S 7 rfl).cons S 8 rfl).cons S 41 rfl).cons S 42 rfl
   refine g_block ?_
   have SU := (((((((S.nil.cons S 1 rfl).cons S 2 rfl).cons S 4 rfl).cons S 5 rfl).cons S 6 rfl).cons S 7 rfl).cons S 8 rfl).cons S 41 rfl
   refine loopW (X := Nat) SU (fun k => [(42, .int .i64 (k : Int))]) (fun k w => k ≤ r ∧ HSat No w0 [OSl 3 (.slice (some ⟨b30, 0, none⟩) r r) 1 encI (fillL r k), OSl 3 (.slice (some ⟨b28, 0, none⟩) ps.length ps.length) 1 encI (List.replicate ps.length (-1)), Cel b8 39 [(.slice (some ⟨b30, 0, none⟩) r r)], Cel b7 39 [(.slice (some ⟨b28, 0, none⟩) ps.length ps.length)], Cel b2 96 [v], Cel b5 41 [.slice none 0 0, .slice none 0 0], RowsS 1 encI ps, Sl v 1 encRow ps] w) (fun k => r - k) 0 (S.nil.cons S 42 rfl) (⟨by omega, by rw [fill_zero]; exact H.take [OSl 3 (.slice (some ⟨b30, 0, none⟩) r r) 1 encI (List.replicate r 0), OSl 3 (.slice (some ⟨b28, 0, none⟩) ps.length ps.length) 1 encI (List.replicate ps.length (-1)), Cel b8 39 [(.slice (some ⟨b30, 0, none⟩) r r)], Cel b7 39 [(.slice (some ⟨b28, 0, none⟩) ps.length ps.length)], Cel b2 96 [v], Cel b5 41 [.slice none 0 0, .slice none 0 0], RowsS 1 encI ps, Sl v 1 encRow ps]⟩) (fun k a w S hW => ?_)
   simp only [List.cons_append, List.nil_append] at S
   obtain ⟨hk, H⟩ := hW
   have hfl := fill_len hk
   refine gsr ?_
   refine gy rfl rfl rfl S (y_bin rfl S rfl rfl rfl) fun a S => ?_
   refine gnt ?_
   refine g_seq ?_
   refine c_if S rfl (fun h3 => ?_) (fun h3 => ?_)
   ·have h3p := h3; try simp only [DL] at h3p
    refine g_skip ?_
    refine n_then ?_
    refine g_seq ?_
    refine g_block ?_
    refine gsr ?_
    refine gm S fun a S => ?_
    refine ga S fun a S => ?_
    refine gnt ?_
    refine g_region ?_
    refine gy rfl rfl rfl S (y_load rfl Fsca39 S H rfl rfl) fun a S => ?_
    refine gm S fun a S => ?_
    refine gy rfl rfl rfl S (y_iaddrn rfl Try.underlying39 Fsiz3 S H rfl rfl (by first | assumption | omega | (simp only [LL]; omega))) fun a S => ?_
    refine wl_of (op_store1 _ (_) (wn rfl) rfl rfl S H rfl rfl rfl rfl Fsiz3 (by first | assumption | omega | (simp only [LL]; omega)) (by exact rfl) fun a w S H => ?_)
    refine gl_nil ?_
    refine n_block ?_
    refine n_then ?_
    have S := ((((((((S.nil.cons S 1 rfl).cons S 2 rfl).cons S 4 rfl).cons S 5 rfl).cons S 6 rfl).cons S 7 rfl).cons S 8 rfl).cons S 41 rfl).cons S 42 rfl
    refine g_region ?_
    refine gy rfl rfl rfl S (y_add rfl S rfl rfl (by omega)) fun a S => ?_
    refine gm S fun a S => ?_
    refine gnt ?_
    rw [fill_step (by omega)] at H
    exact ⟨k + 1, S.nil.cons S 42 rfl, (((((((S.nil.cons S 1 rfl).cons S 2 rfl).cons S 4 rfl).cons S 5 rfl).cons S 6 rfl).cons S 7 rfl).cons S 8 rfl).cons S 41 rfl, ⟨by omega, H⟩, by omega⟩
   ·have h3p := h3; try simp only [DL] at h3p
    obtain rfl : r = k := by omega
    rw [fill_end] at H
    refine g_exit ?_
    refine x_then (x_then (x_eq ?_))
    refine n_then ?_
    refine gsr ?_
    refine wl_of (op_alloc (wn rfl) rfl rfl rfl S H Fzer113 fun b11 a w S H => ?_)
    refine gnt ?_
    refine gsr ?_
    refine gy rfl rfl rfl S (y_makeFunc rfl S rfl rfl) fun a S => ?_
    refine wl_of (op_store (wn rfl) rfl rfl S H rfl rfl rfl Fsiz113 rfl fun a w S H => ?_)
    dsimp only [List.set, Nat.zero_add, Nat.reduceAdd] at H
    refine gnt ?_
    have S := (((((((S.nil.cons S 1 rfl).cons S 2 rfl).cons S 4 rfl).cons S 5 rfl).cons S 6 rfl).cons S 7 rfl).cons S 8 rfl).cons S 11 rfl
    refine g_seq ?_
    refine gsr ?_
    refine gy rfl rfl rfl S (y_load rfl Fsca96 S H rfl rfl) fun a S => ?_
    refine gy rfl rfl rfl S (y_lens rfl Try.underlying96 S H rfl) fun a S => ?_
    refine gm S fun a S => ?_
    refine gnt ?_
    refine g_block ?_
    have H := (H.front (Cel b11 113 [.func (.func 58) #[] #[.pointer (some ⟨b2, 0, none⟩), .pointer (some ⟨b8, 0, none⟩), .pointer (some ⟨b11, 0, none⟩), .pointer (some ⟨b7, 0, none⟩)]])).freeze
    have H := (H.front (Cel b8 39 [(.slice (some ⟨b30, 0, none⟩) r r)])).freeze
    have H := (H.front (Cel b7 39 [(.slice (some ⟨b28, 0, none⟩) ps.length ps.length)])).freeze
    have H := (H.front (Cel b2 96 [v])).freeze
    
    have SU := ((((((((S.nil.cons S 1 rfl).cons S 2 rfl).cons S 4 rfl).cons S 5 rfl).cons S 6 rfl).cons S 7 rfl).cons S 8 rfl).cons S 11 rfl).cons S 51 rfl
    refine loopW (X := Nat) SU (fun k => [(52, .int .i64 (k : Int))]) (fun k w => k ≤ ps.length ∧ HSat No w0 [OSl 3 (.slice (some ⟨b30, 0, none⟩) r r) 1 encI (augAll (gr ps) r k).1, OSl 3 (.slice (some ⟨b28, 0, none⟩) ps.length ps.length) 1 encI (augAll (gr ps) r k).2, Atom.ro (Cel b8 39 [(.slice (some ⟨b30, 0, none⟩) r r)]), Atom.ro (Cel b7 39 [(.slice (some ⟨b28, 0, none⟩) ps.length ps.length)]), Atom.ro (Cel b2 96 [v]), Atom.ro (Cel b11 113 [.func (.func 58) #[] #[.pointer (some ⟨b2, 0, none⟩), .pointer (some ⟨b8, 0, none⟩), .pointer (some ⟨b11, 0, none⟩), .pointer (some ⟨b7, 0, none⟩)]]), RowsS 1 encI ps, Sl v 1 encRow ps, Cel b5 41 [.slice none 0 0, .slice none 0 0]] w) (fun k => ps.length - k) 0 (S.nil.cons S 52 rfl) (⟨by omega, by rw [augAll_zero, gr_len]; exact H.take [OSl 3 (.slice (some ⟨b30, 0, none⟩) r r) 1 encI (List.replicate r (-1)), OSl 3 (.slice (some ⟨b28, 0, none⟩) ps.length ps.length) 1 encI (List.replicate ps.length (-1)), Atom.ro (Cel b8 39 [(.slice (some ⟨b30, 0, none⟩) r r)]), Atom.ro (Cel b7 39 [(.slice (some ⟨b28, 0, none⟩) ps.length ps.length)]), Atom.ro (Cel b2 96 [v]), Atom.ro (Cel b11 113 [.func (.func 58) #[] #[.pointer (some ⟨b2, 0, none⟩), .pointer (some ⟨b8, 0, none⟩), .pointer (some ⟨b11, 0, none⟩), .pointer (some ⟨b7, 0, none⟩)]]), RowsS 1 encI ps, Sl v 1 encRow ps, Cel b5 41 [.slice none 0 0, .slice none 0 0]]⟩) (fun k a w S hW => ?_)
    simp only [List.cons_append, List.nil_append] at S
    obtain ⟨hk, H⟩ := hW
    refine gsr ?_
    refine gy rfl rfl rfl S (y_bin rfl S rfl rfl rfl) fun a S => ?_
    refine gnt ?_
    refine g_seq ?_
    refine c_if S rfl (fun h4 => ?_) (fun h4 => ?_)
    ·have h4p := h4; try simp only [DL] at h4p
     refine g_skip ?_
     refine n_then ?_
     refine g_seq ?_
     refine g_block ?_
     refine gsr ?_
     refine gm S fun a S => ?_
     refine ga S fun a S => ?_
     refine gnt ?_
     refine g_region ?_
     refine gy rfl rfl rfl S (y_load rfl Fsca113 S H rfl rfl) fun a S => ?_
     refine gm S fun a S => ?_
     refine wl_of (op_makeMap (fun n : Int => .int .i64 n) (fun b : Bool => .bool b) (wn rfl) rfl rfl rfl S H fun b57 a w S H => ?_)
     have H : HSat No w0 (MapA b57 (fun n : Int => .int .i64 n) (fun b : Bool => .bool b) (memS ([])) 0 :: _) _ := H
     have hI := allInv hvg k (by omega)
     refine wl_of (op_call (wn rfl) rfl rfl S (co_value rfl Try.call58 S rfl rfl) (aug_spec r v (.slice (some ⟨b30, 0, none⟩) r r) (.slice (some ⟨b28, 0, none⟩) ps.length ps.length) ps b2 b8 b11 b7 b57 hvg (fuelG r) k ⟨[], (augAll (gr ps) r k).1, (augAll (gr ps) r k).2⟩ 0 _ (by omega) hI.wf (by simp [fuelG]) (H.take [MapA b57 (fun n : Int => .int .i64 n) (fun b : Bool => .bool b) (memS ([])) 0, OSl 3 (.slice (some ⟨b30, 0, none⟩) r r) 1 encI ((augAll (gr ps) r k).1), OSl 3 (.slice (some ⟨b28, 0, none⟩) ps.length ps.length) 1 encI ((augAll (gr ps) r k).2), Atom.ro (Cel b8 39 [(.slice (some ⟨b30, 0, none⟩) r r)]), Atom.ro (Cel b7 39 [(.slice (some ⟨b28, 0, none⟩) ps.length ps.length)]), Atom.ro (Cel b2 96 [v]), Atom.ro (Cel b11 113 [.func (.func 58) #[] #[.pointer (some ⟨b2, 0, none⟩), .pointer (some ⟨b8, 0, none⟩), .pointer (some ⟨b11, 0, none⟩), .pointer (some ⟨b7, 0, none⟩)]]), RowsS 1 encI ps, Sl v 1 encRow ps, Cel b5 41 [.slice none 0 0, .slice none 0 0]])) fun v w hc a S => ?_)
     obtain ⟨rfl, c2, H⟩ := hc
     
     refine gl_nil ?_
     refine n_block ?_
     refine n_then ?_
     have S := (((((((((S.nil.cons S 1 rfl).cons S 2 rfl).cons S 4 rfl).cons S 5 rfl).cons S 6 rfl).cons S 7 rfl).cons S 8 rfl).cons S 11 rfl).cons S 51 rfl).cons S 52 rfl
     refine g_region ?_
     refine gy rfl rfl rfl S (y_add rfl S rfl rfl (by omega)) fun a S => ?_
     refine gm S fun a S => ?_
     refine gnt ?_
     exact ⟨k + 1, S.nil.cons S 52 rfl, ((((((((S.nil.cons S 1 rfl).cons S 2 rfl).cons S 4 rfl).cons S 5 rfl).cons S 6 rfl).cons S 7 rfl).cons S 8 rfl).cons S 11 rfl).cons S 51 rfl, ⟨by omega, H.take [OSl 3 (.slice (some ⟨b30, 0, none⟩) r r) 1 encI (aug (gr ps) (fuelG r) k ⟨[], (augAll (gr ps) r k).1, (augAll (gr ps) r k).2⟩).2.owner, OSl 3 (.slice (some ⟨b28, 0, none⟩) ps.length ps.length) 1 encI (aug (gr ps) (fuelG r) k ⟨[], (augAll (gr ps) r k).1, (augAll (gr ps) r k).2⟩).2.got, Atom.ro (Cel b8 39 [(.slice (some ⟨b30, 0, none⟩) r r)]), Atom.ro (Cel b7 39 [(.slice (some ⟨b28, 0, none⟩) ps.length ps.length)]), Atom.ro (Cel b2 96 [v]), Atom.ro (Cel b11 113 [.func (.func 58) #[] #[.pointer (some ⟨b2, 0, none⟩), .pointer (some ⟨b8, 0, none⟩), .pointer (some ⟨b11, 0, none⟩), .pointer (some ⟨b7, 0, none⟩)]]), RowsS 1 encI ps, Sl v 1 encRow ps, Cel b5 41 [.slice none 0 0, .slice none 0 0]]⟩, by omega⟩
    ·have h4p := h4; try simp only [DL] at h4p
     obtain rfl : k = ps.length := by omega
     have e1 : (augAll (gr ps) r ps.length).1 = (ownL (gr ps) r) := by rw [ownL, gr_len]
     have e2 : (augAll (gr ps) r ps.length).2 = (gotL (gr ps) r) := by rw [gotL, gr_len]
     rw [e1, e2] at H
     have hI := allInv hvg (gr ps).length (Nat.le_refl _)
     obtain ⟨D, hD1, hD2, hD3⟩ := hI.dead
     have hol : (ownL (gr ps) r).length = (r : Int).toNat := hI.wf.lo
     have hog : (gotL (gr ps) r).length = (gr ps).length := hI.wf.lg
     have hown : ∀ n : Nat, atI (ownL (gr ps) r) n < (gr ps).length := fun n => (hI.wf.own n).2
     have hlow : ∀ j, -1 ≤ atI (gotL (gr ps) r) j := hI.low
     have hfree : ∀ j, j < (gr ps).length → atI (gotL (gr ps) r) j < 0 → ∀ n ∈ rowG (gr ps) j, D n := fun j hj hg => hD3 j hj (by have := hlow j; have hg : atI (augAll (gr ps) r (gr ps).length).2 j < 0 := hg; have : -1 ≤ atI (augAll (gr ps) r (gr ps).length).2 j := this; omega)
     refine g_exit ?_
     refine x_then (x_then (x_eq ?_))
     refine n_then ?_
     have S := ((((((S.nil.cons S 1 rfl).cons S 2 rfl).cons S 4 rfl).cons S 5 rfl).cons S 6 rfl).cons S 7 rfl).cons S 8 rfl
     refine gsr ?_
     refine wl_of (op_makeMap (fun n : Int => .int .i64 n) (fun b : Bool => .bool b) (wn rfl) rfl rfl rfl S H fun b60 a w S H => ?_)
     refine wl_of (op_makeMap (fun n : Int => .int .i64 n) (fun b : Bool => .bool b) (wn rfl) rfl rfl rfl S H fun b61 a w S H => ?_)
     refine wl_of (op_alloc (wn rfl) rfl rfl rfl S H Fzer73 fun b13 a w S H => ?_)
     refine wl_of (op_alloc (wn rfl) rfl rfl rfl S H Fzer73 fun b14 a w S H => ?_)
     refine wl_of (op_store (wn rfl) rfl rfl S H rfl rfl rfl Fsiz73 rfl fun a w S H => ?_)
     dsimp only [List.set, Nat.zero_add, Nat.reduceAdd] at H
     refine wl_of (op_store (wn rfl) rfl rfl S H rfl rfl rfl Fsiz73 rfl fun a w S H => ?_)
     dsimp only [List.set, Nat.zero_add, Nat.reduceAdd] at H
     refine gnt ?_
     refine gsr ?_
     refine wl_of (op_alloc (wn rfl) rfl rfl rfl S H Fzer114 fun b15 a w S H => ?_)
     refine gnt ?_
     refine gsr ?_
     refine gy rfl rfl rfl S (y_makeFunc rfl S rfl rfl) fun a S => ?_
     refine wl_of (op_store (wn rfl) rfl rfl S H rfl rfl rfl Fsiz114 rfl fun a w S H => ?_)
     dsimp only [List.set, Nat.zero_add, Nat.reduceAdd] at H
     refine gnt ?_
     have S := ((((((((S.nil.cons S 1 rfl).cons S 2 rfl).cons S 4 rfl).cons S 5 rfl).cons S 6 rfl).cons S 7 rfl).cons S 13 rfl).cons S 14 rfl).cons S 15 rfl
     refine g_seq ?_
     refine gsr ?_
     refine gy rfl rfl rfl S (y_load rfl Fsca39 S H rfl rfl) fun a S => ?_
     refine gy rfl rfl rfl S (y_lens rfl Try.underlying39 S H rfl) fun a S => ?_
     refine gm S fun a S => ?_
     refine gnt ?_
     refine g_block ?_
     have H := (H.front (Cel b13 73 [.map (some b60)])).freeze
     have H := (H.front (Cel b14 73 [.map (some b61)])).freeze
     have H := (H.front (Cel b15 114 [.func (.func 59) #[] #[.pointer (some ⟨b13, 0, none⟩), .pointer (some ⟨b2, 0, none⟩), .pointer (some ⟨b14, 0, none⟩), .pointer (some ⟨b15, 0, none⟩), .pointer (some ⟨b8, 0, none⟩)]])).freeze
     have H := (H.front (OSl 3 (.slice (some ⟨b30, 0, none⟩) r r) 1 encI (ownL (gr ps) r))).freeze
     have H := H.take [MapA b60 (fun n : Int => .int .i64 n) (fun b : Bool => .bool b) (fun _ => none) 0, MapA b61 (fun n : Int => .int .i64 n) (fun b : Bool => .bool b) (fun _ => none) 0, Atom.ro (Cel b13 73 [.map (some b60)]), Atom.ro (Cel b2 96 [v]), Atom.ro (Cel b14 73 [.map (some b61)]), Atom.ro (Cel b15 114 [.func (.func 59) #[] #[.pointer (some ⟨b13, 0, none⟩), .pointer (some ⟨b2, 0, none⟩), .pointer (some ⟨b14, 0, none⟩), .pointer (some ⟨b15, 0, none⟩), .pointer (some ⟨b8, 0, none⟩)]]), Atom.ro (Cel b8 39 [(.slice (some ⟨b30, 0, none⟩) r r)]), Atom.ro (OSl 3 (.slice (some ⟨b30, 0, none⟩) r r) 1 encI (ownL (gr ps) r)), RowsS 1 encI ps, Sl v 1 encRow ps, OSl 3 (.slice (some ⟨b28, 0, none⟩) ps.length ps.length) 1 encI (gotL (gr ps) r), Atom.ro (Cel b7 39 [(.slice (some ⟨b28, 0, none⟩) ps.length ps.length)]), Cel b5 41 [.slice none 0 0, .slice none 0 0]]
     have SU := ((((((((((S.nil.cons S 1 rfl).cons S 2 rfl).cons S 4 rfl).cons S 5 rfl).cons S 6 rfl).cons S 7 rfl).cons S 13 rfl).cons S 14 rfl).cons S 15 rfl).cons S 63 rfl).cons S 64 rfl
     refine loopW (X := Nat) SU (fun k => [(65, .int .i64 (k : Int))]) (fun k w => k ≤ ps.length ∧ ∃ c1 c2, HSat No w0 [MapA b60 (fun n : Int => .int .i64 n) (fun b : Bool => .bool b) (memS ((reachAll (gr ps) r (ownL (gr ps) r) (gotL (gr ps) r) k).left)) c1, MapA b61 (fun n : Int => .int .i64 n) (fun b : Bool => .bool b) (memS ((reachAll (gr ps) r (ownL (gr ps) r) (gotL (gr ps) r) k).reached)) c2, Atom.ro (Cel b13 73 [.map (some b60)]), Atom.ro (Cel b2 96 [v]), Atom.ro (Cel b14 73 [.map (some b61)]), Atom.ro (Cel b15 114 [.func (.func 59) #[] #[.pointer (some ⟨b13, 0, none⟩), .pointer (some ⟨b2, 0, none⟩), .pointer (some ⟨b14, 0, none⟩), .pointer (some ⟨b15, 0, none⟩), .pointer (some ⟨b8, 0, none⟩)]]), Atom.ro (Cel b8 39 [(.slice (some ⟨b30, 0, none⟩) r r)]), Atom.ro (OSl 3 (.slice (some ⟨b30, 0, none⟩) r r) 1 encI (ownL (gr ps) r)), RowsS 1 encI ps, Sl v 1 encRow ps, OSl 3 (.slice (some ⟨b28, 0, none⟩) ps.length ps.length) 1 encI (gotL (gr ps) r), Atom.ro (Cel b7 39 [(.slice (some ⟨b28, 0, none⟩) ps.length ps.length)]), Cel b5 41 [.slice none 0 0, .slice none 0 0]] w) (fun k => ps.length - k) 0 (S.nil.cons S 65 rfl) (⟨by omega, 0, 0, H⟩) (fun k a w S hW => ?_)
     simp only [List.cons_append, List.nil_append] at S
     obtain ⟨hk, c1, c2, H⟩ := hW
     refine gsr ?_
     refine gy rfl rfl rfl S (y_bin rfl S rfl rfl rfl) fun a S => ?_
     refine gnt ?_
     refine g_seq ?_
     refine c_if S rfl (fun h5 => ?_) (fun h5 => ?_)
     ·have h5p := h5; try simp only [DL] at h5p
      have hkg : k < (gotL (gr ps) r).length := by omega
      have hatk := atI_eq hkg
      have hRk := reachAll_inv hD1 hD2 hown hfree k (by omega)
      refine g_skip ?_
      refine n_then ?_
      refine g_seq ?_
      refine g_block ?_
      refine gsr ?_
      refine gm S fun a S => ?_
      refine gy rfl rfl rfl S (y_iaddrn rfl Try.underlying39 Fsiz3 S H rfl rfl (by first | assumption | omega | (simp only [LL]; omega))) fun a S => ?_
      refine gy rfl rfl rfl S (y_loads _ rfl Fsca3 S H rfl (by first | assumption | omega | (simp only [LL]; omega)) rfl) fun a S => ?_
      refine ga S fun a S => ?_
      refine ga S fun a S => ?_
      refine gnt ?_
      have S := (((((((((((((S.nil.cons S 1 rfl).cons S 2 rfl).cons S 4 rfl).cons S 5 rfl).cons S 6 rfl).cons S 7 rfl).cons S 13 rfl).cons S 14 rfl).cons S 15 rfl).cons S 63 rfl).cons S 64 rfl).cons S 65 rfl).cons S 16 rfl).cons S 17 rfl
      refine gsr ?_
      refine gm S fun a S => ?_
      refine gy rfl rfl rfl S (y_bin rfl S rfl rfl rfl) fun a S => ?_
      refine gnt ?_
      refine c_if S rfl (fun h6 => ?_) (fun h6 => ?_)
      ·have h6p := h6; try simp only [DL] at h6p
       have hneg : atI (gotL (gr ps) r) k < 0 := by rw [hatk]; exact h6p
       refine g_region ?_
       refine gy rfl rfl rfl S (y_load rfl Fsca114 S H rfl rfl) fun a S => ?_
       refine gm S fun a S => ?_
       refine wl_of (op_call (wn rfl) rfl rfl S (co_value rfl Try.call59 S rfl rfl) (reach_spec r D v (.slice (some ⟨b30, 0, none⟩) r r) ps (ownL (gr ps) r) b13 b2 b14 b15 b8 b60 b61 hvg hol hD1 hD2 hown (fuelG r) k (reachAll (gr ps) r (ownL (gr ps) r) (gotL (gr ps) r) k) c1 c2 _ (by omega) (hfree k (by omega) hneg) hRk.wf hRk.inD (by simp [fuelG]; omega) H) fun v w hc a S => ?_)
       obtain ⟨rfl, c3, c4, H⟩ := hc
       
       refine gl_nil ?_
       refine n_block ?_
       refine n_then ?_
       have S := (((((((((((S.nil.cons S 1 rfl).cons S 2 rfl).cons S 4 rfl).cons S 5 rfl).cons S 6 rfl).cons S 7 rfl).cons S 13 rfl).cons S 14 rfl).cons S 15 rfl).cons S 63 rfl).cons S 64 rfl).cons S 65 rfl
       refine g_region ?_
       refine gy rfl rfl rfl S (y_add rfl S rfl rfl (by omega)) fun a S => ?_
       refine gm S fun a S => ?_
       refine gnt ?_
       first
       | exact ⟨k + 1, S.nil.cons S 65 rfl, ((((((((((S.nil.cons S 1 rfl).cons S 2 rfl).cons S 4 rfl).cons S 5 rfl).cons S 6 rfl).cons S 7 rfl).cons S 13 rfl).cons S 14 rfl).cons S 15 rfl).cons S 63 rfl).cons S 64 rfl, ⟨by omega, c3, c4, by rw [reachAll, if_pos hneg]; exact H⟩, by omega⟩
       | exact ⟨k + 1, S.nil.cons S 65 rfl, ((((((((((S.nil.cons S 1 rfl).cons S 2 rfl).cons S 4 rfl).cons S 5 rfl).cons S 6 rfl).cons S 7 rfl).cons S 13 rfl).cons S 14 rfl).cons S 15 rfl).cons S 63 rfl).cons S 64 rfl, ⟨by omega, c1, c2, by rw [reachAll, if_neg hneg]; exact H⟩, by omega⟩
      ·have h6p := h6; try simp only [DL] at h6p
       have hneg : ¬ atI (gotL (gr ps) r) k < 0 := by rw [hatk]; have := h6p; omega
       refine g_skip ?_
       refine n_block ?_
       refine n_then ?_
       have S := (((((((((((S.nil.cons S 1 rfl).cons S 2 rfl).cons S 4 rfl).cons S 5 rfl).cons S 6 rfl).cons S 7 rfl).cons S 13 rfl).cons S 14 rfl).cons S 15 rfl).cons S 63 rfl).cons S 64 rfl).cons S 65 rfl
       refine g_region ?_
       refine gy rfl rfl rfl S (y_add rfl S rfl rfl (by omega)) fun a S => ?_
       refine gm S fun a S => ?_
       refine gnt ?_
       first
       | exact ⟨k + 1, S.nil.cons S 65 rfl, ((((((((((S.nil.cons S 1 rfl).cons S 2 rfl).cons S 4 rfl).cons S 5 rfl).cons S 6 rfl).cons S 7 rfl).cons S 13 rfl).cons S 14 rfl).cons S 15 rfl).cons S 63 rfl).cons S 64 rfl, ⟨by omega, c3, c4, by rw [reachAll, if_pos hneg]; exact H⟩, by omega⟩
       | exact ⟨k + 1, S.nil.cons S 65 rfl, ((((((((((S.nil.cons S 1 rfl).cons S 2 rfl).cons S 4 rfl).cons S 5 rfl).cons S 6 rfl).cons S 7 rfl).cons S 13 rfl).cons S 14 rfl).cons S 15 rfl).cons S 63 rfl).cons S 64 rfl, ⟨by omega, c1, c2, by rw [reachAll, if_neg hneg]; exact H⟩, by omega⟩
     ·have h5p := h5; try simp only [DL] at h5p
      obtain rfl : k = ps.length := by omega
      obtain ⟨rs, hrs⟩ : ∃ rs, rs = rsL (gr ps) r := ⟨_, rfl⟩
      have e3 : (reachAll (gr ps) r (ownL (gr ps) r) (gotL (gr ps) r) ps.length) = rs := by rw [hrs, rsL, gr_len]
      rw [e3] at H
      refine g_exit ?_
      refine x_then (x_then (x_eq ?_))
      refine n_then ?_
      have S := (((((((S.nil.cons S 1 rfl).cons S 2 rfl).cons S 4 rfl).cons S 5 rfl).cons S 6 rfl).cons S 7 rfl).cons S 13 rfl).cons S 14 rfl
      refine gsr ?_
      refine wl_of (op_alloc (wn rfl) rfl rfl rfl S H Fzer41 fun b18 a w S H => ?_)
      refine gnt ?_
      refine g_seq ?_
      refine gsr ?_
      refine gy rfl rfl rfl S (y_load rfl Fsca96 S H rfl rfl) fun a S => ?_
      refine gy rfl rfl rfl S (y_lens rfl Try.underlying96 S H rfl) fun a S => ?_
      refine gm S fun a S => ?_
      refine gnt ?_
      refine g_block ?_
      have H := H.nilO 3 1 encI
      have SU := ((((((((S.nil.cons S 1 rfl).cons S 4 rfl).cons S 5 rfl).cons S 6 rfl).cons S 7 rfl).cons S 13 rfl).cons S 14 rfl).cons S 18 rfl).cons S 77 rfl
      refine loopW (X := Nat) SU (fun k => [(78, .int .i64 (k : Int))]) (fun k w => k ≤ ps.length ∧ ∃ vl, HSat No w0 [Cel b18 41 [vl, .slice none 0 0], OSl 3 (vl) 1 encI (coverLeft (gr ps) rs k), Atom.ro (Cel b13 73 [.map (some b60)]), Atom.ro (Cel b14 73 [.map (some b61)]), MapA b60 (fun n : Int => .int .i64 n) (fun b : Bool => .bool b) (memS (rs.left)) c1, MapA b61 (fun n : Int => .int .i64 n) (fun b : Bool => .bool b) (memS (rs.reached)) c2, OSl 3 (.slice (some ⟨b28, 0, none⟩) ps.length ps.length) 1 encI (gotL (gr ps) r), Atom.ro (Cel b7 39 [(.slice (some ⟨b28, 0, none⟩) ps.length ps.length)]), Cel b5 41 [.slice none 0 0, .slice none 0 0], Atom.ro (Cel b2 96 [v]), RowsS 1 encI ps, Sl v 1 encRow ps] w) (fun k => ps.length - k) 0 (S.nil.cons S 78 rfl) (⟨by omega, .slice none 0 0, H.take [Cel b18 41 [.slice none 0 0, .slice none 0 0], OSl 3 (.slice none 0 0) 1 encI [], Atom.ro (Cel b13 73 [.map (some b60)]), Atom.ro (Cel b14 73 [.map (some b61)]), MapA b60 (fun n : Int => .int .i64 n) (fun b : Bool => .bool b) (memS (rs.left)) c1, MapA b61 (fun n : Int => .int .i64 n) (fun b : Bool => .bool b) (memS (rs.reached)) c2, OSl 3 (.slice (some ⟨b28, 0, none⟩) ps.length ps.length) 1 encI (gotL (gr ps) r), Atom.ro (Cel b7 39 [(.slice (some ⟨b28, 0, none⟩) ps.length ps.length)]), Cel b5 41 [.slice none 0 0, .slice none 0 0], Atom.ro (Cel b2 96 [v]), RowsS 1 encI ps, Sl v 1 encRow ps]⟩) (fun k a w S hW => ?_)
      simp only [List.cons_append, List.nil_append] at S
      obtain ⟨hk, vl, H⟩ := hW
      have hcl := coverLeft_len (gr ps) rs k
      refine gsr ?_
      refine gy rfl rfl rfl S (y_bin rfl S rfl rfl rfl) fun a S => ?_
      refine gnt ?_
      refine g_seq ?_
      refine c_if S rfl (fun h7 => ?_) (fun h7 => ?_)
      ·have h7p := h7; try simp only [DL] at h7p
       refine g_skip ?_
       refine n_then ?_
       refine g_seq ?_
       refine g_block ?_
       refine gsr ?_
       refine gm S fun a S => ?_
       refine ga S fun a S => ?_
       refine gnt ?_
       refine gsr ?_
       refine gy rfl rfl rfl S (y_load rfl Fsca73 S H rfl rfl) fun a S => ?_
       refine gm S fun a S => ?_
       refine gy rfl rfl rfl S (y_lookup (_) (false) rfl Try.underlying73 Finf4 S H rfl (keyOK_int Try.underlying3) (by exact rfl) (by exact rfl)) fun a S => ?_
       refine gy rfl rfl rfl S (y_not rfl S rfl) fun a S => ?_
       refine gnt ?_
       have S := (((((((((((S.nil.cons S 1 rfl).cons S 4 rfl).cons S 5 rfl).cons S 6 rfl).cons S 7 rfl).cons S 13 rfl).cons S 14 rfl).cons S 18 rfl).cons S 77 rfl).cons S 78 rfl).cons S 19 rfl).cons S 84 rfl
       refine c_if S rfl (fun h8 => ?_) (fun h8 => ?_)
       ·have h8p := h8; try simp only [DL] at h8p
        have hx : (k : Int) ∉ rs.left := by have := h8; rw [memS_get] at this; simpa using this
        refine g_region ?_
        refine gy rfl rfl rfl S (y_faddrb rfl Ffo41_0 S rfl) fun a S => ?_
        refine gy rfl rfl rfl S (y_load rfl Fsca39 S H rfl rfl) fun a S => ?_
        refine gm S fun a S => ?_
        refine wl_of (op_buildSlice (wn rfl) rfl rfl rfl Try.underlying39 Finf3 S H (idx := [0]) rfl rfl rfl (z := [.int .i64 0]) (by kernel_rfl) (cs := [_]) rfl fun b88 a w S H => ?_)
        refine wl_of (op_append ([(k : Int)]) (wn rfl) rfl rfl rfl Try.underlying39 Finf3 rfl rfl S H rfl rfl rfl rfl (by simp) (by simp [encI]) (by simp [encI, Value.oneCell']) (by simp only [List.length_cons, List.length_nil]; omega) (by simp only [List.length_cons, List.length_nil]; omega) fun u89 a w hn89 S H => ?_)
        refine gy rfl rfl rfl S (y_faddrb rfl Ffo41_0 S rfl) fun a S => ?_
        refine wl_of (op_store (wn rfl) rfl rfl S H rfl rfl (H.sl1 _) Fsiz39 rfl fun a w S H => ?_)
        dsimp only [List.set, Nat.zero_add, Nat.reduceAdd] at H
        refine gl_nil ?_
        refine n_block ?_
        refine n_then ?_
        have S := (((((((((S.nil.cons S 1 rfl).cons S 4 rfl).cons S 5 rfl).cons S 6 rfl).cons S 7 rfl).cons S 13 rfl).cons S 14 rfl).cons S 18 rfl).cons S 77 rfl).cons S 78 rfl
        refine g_region ?_
        refine gy rfl rfl rfl S (y_add rfl S rfl rfl (by omega)) fun a S => ?_
        refine gm S fun a S => ?_
        refine gnt ?_
        first
        | exact ⟨k + 1, S.nil.cons S 78 rfl, ((((((((S.nil.cons S 1 rfl).cons S 4 rfl).cons S 5 rfl).cons S 6 rfl).cons S 7 rfl).cons S 13 rfl).cons S 14 rfl).cons S 18 rfl).cons S 77 rfl, ⟨by omega, vl, by rw [coverLeft, if_pos hx]; exact H⟩, by omega⟩
        | exact ⟨k + 1, S.nil.cons S 78 rfl, ((((((((S.nil.cons S 1 rfl).cons S 4 rfl).cons S 5 rfl).cons S 6 rfl).cons S 7 rfl).cons S 13 rfl).cons S 14 rfl).cons S 18 rfl).cons S 77 rfl, ⟨by omega, u89, by rw [coverLeft, if_neg hx]; exact H.take [Cel b18 41 [u89, .slice none 0 0], OSl 3 u89 1 encI (coverLeft (gr ps) rs k ++ [(k : Int)]), Atom.ro (Cel b13 73 [.map (some b60)]), Atom.ro (Cel b14 73 [.map (some b61)]), MapA b60 (fun n : Int => .int .i64 n) (fun b : Bool => .bool b) (memS (rs.left)) c1, MapA b61 (fun n : Int => .int .i64 n) (fun b : Bool => .bool b) (memS (rs.reached)) c2, OSl 3 (.slice (some ⟨b28, 0, none⟩) ps.length ps.length) 1 encI (gotL (gr ps) r), Atom.ro (Cel b7 39 [(.slice (some ⟨b28, 0, none⟩) ps.length ps.length)]), Cel b5 41 [.slice none 0 0, .slice none 0 0], Atom.ro (Cel b2 96 [v]), RowsS 1 encI ps, Sl v 1 encRow ps]⟩, by omega⟩
       ·have h8p := h8; try simp only [DL] at h8p
        have hx : (k : Int) ∈ rs.left := by have := h8; rw [memS_get] at this; simpa using this
        refine g_skip ?_
        refine n_block ?_
        refine n_then ?_
        refine g_region ?_
        refine gy rfl rfl rfl S (y_add rfl S rfl rfl (by omega)) fun a S => ?_
        refine gm S fun a S => ?_
        refine gnt ?_
        first
        | exact ⟨k + 1, S.nil.cons S 78 rfl, ((((((((S.nil.cons S 1 rfl).cons S 4 rfl).cons S 5 rfl).cons S 6 rfl).cons S 7 rfl).cons S 13 rfl).cons S 14 rfl).cons S 18 rfl).cons S 77 rfl, ⟨by omega, vl, by rw [coverLeft, if_pos hx]; exact H⟩, by omega⟩
        | exact ⟨k + 1, S.nil.cons S 78 rfl, ((((((((S.nil.cons S 1 rfl).cons S 4 rfl).cons S 5 rfl).cons S 6 rfl).cons S 7 rfl).cons S 13 rfl).cons S 14 rfl).cons S 18 rfl).cons S 77 rfl, ⟨by omega, u89, by rw [coverLeft, if_neg hx]; exact H.take [Cel b18 41 [u89, .slice none 0 0], OSl 3 u89 1 encI (coverLeft (gr ps) rs k ++ [(k : Int)]), Atom.ro (Cel b13 73 [.map (some b60)]), Atom.ro (Cel b14 73 [.map (some b61)]), MapA b60 (fun n : Int => .int .i64 n) (fun b : Bool => .bool b) (memS (rs.left)) c1, MapA b61 (fun n : Int => .int .i64 n) (fun b : Bool => .bool b) (memS (rs.reached)) c2, OSl 3 (.slice (some ⟨b28, 0, none⟩) ps.length ps.length) 1 encI (gotL (gr ps) r), Atom.ro (Cel b7 39 [(.slice (some ⟨b28, 0, none⟩) ps.length ps.length)]), Cel b5 41 [.slice none 0 0, .slice none 0 0], Atom.ro (Cel b2 96 [v]), RowsS 1 encI ps, Sl v 1 encRow ps]⟩, by omega⟩
      ·have h7p := h7; try simp only [DL] at h7p
       obtain rfl : k = ps.length := by omega
       refine g_exit ?_
       refine x_then (x_then (x_eq ?_))
       refine n_then ?_
       have S := ((((((S.nil.cons S 1 rfl).cons S 4 rfl).cons S 5 rfl).cons S 6 rfl).cons S 7 rfl).cons S 14 rfl).cons S 18 rfl
       refine g_seq ?_
       refine gsr ?_
       refine gm S fun a S => ?_
       refine gm S fun a S => ?_
       refine gnt ?_
       refine g_block ?_
       have H := H.nilO 3 1 encI
       have SU := ((((((S.nil.cons S 4 rfl).cons S 5 rfl).cons S 6 rfl).cons S 7 rfl).cons S 14 rfl).cons S 18 rfl).cons S 92 rfl
       refine loopW (X := Nat) SU (fun k => [(93, .int .i64 (k : Int))]) (fun k w => k ≤ r ∧ ∃ vr, HSat No w0 [Cel b18 41 [vl, vr], OSl 3 (vr) 1 encI (coverRight rs k), OSl 3 vl 1 encI (coverLeft (gr ps) rs ps.length), Atom.ro (Cel b13 73 [.map (some b60)]), Atom.ro (Cel b14 73 [.map (some b61)]), MapA b60 (fun n : Int => .int .i64 n) (fun b : Bool => .bool b) (memS (rs.left)) c1, MapA b61 (fun n : Int => .int .i64 n) (fun b : Bool => .bool b) (memS (rs.reached)) c2, OSl 3 (.slice (some ⟨b28, 0, none⟩) ps.length ps.length) 1 encI (gotL (gr ps) r), Atom.ro (Cel b7 39 [(.slice (some ⟨b28, 0, none⟩) ps.length ps.length)]), Cel b5 41 [.slice none 0 0, .slice none 0 0], Atom.ro (Cel b2 96 [v]), RowsS 1 encI ps, Sl v 1 encRow ps] w) (fun k => r - k) 0 (S.nil.cons S 93 rfl) (⟨by omega, .slice none 0 0, H.take [Cel b18 41 [vl, .slice none 0 0], OSl 3 (.slice none 0 0) 1 encI [], OSl 3 vl 1 encI (coverLeft (gr ps) rs ps.length), Atom.ro (Cel b13 73 [.map (some b60)]), Atom.ro (Cel b14 73 [.map (some b61)]), MapA b60 (fun n : Int => .int .i64 n) (fun b : Bool => .bool b) (memS (rs.left)) c1, MapA b61 (fun n : Int => .int .i64 n) (fun b : Bool => .bool b) (memS (rs.reached)) c2, OSl 3 (.slice (some ⟨b28, 0, none⟩) ps.length ps.length) 1 encI (gotL (gr ps) r), Atom.ro (Cel b7 39 [(.slice (some ⟨b28, 0, none⟩) ps.length ps.length)]), Cel b5 41 [.slice none 0 0, .slice none 0 0], Atom.ro (Cel b2 96 [v]), RowsS 1 encI ps, Sl v 1 encRow ps]⟩) (fun k a w S hW => ?_)
       simp only [List.cons_append, List.nil_append] at S
       obtain ⟨hk, vr, H⟩ := hW
       have hcr := coverRight_len rs k
       refine gsr ?_
       refine gy rfl rfl rfl S (y_bin rfl S rfl rfl rfl) fun a S => ?_
       refine gnt ?_
       refine g_seq ?_
       refine c_if S rfl (fun h9 => ?_) (fun h9 => ?_)
       ·have h9p := h9; try simp only [DL] at h9p
        refine g_skip ?_
        refine n_then ?_
        refine g_seq ?_
        refine g_block ?_
        refine gsr ?_
        refine gm S fun a S => ?_
        refine ga S fun a S => ?_
        refine gnt ?_
        refine gsr ?_
        refine gy rfl rfl rfl S (y_load rfl Fsca73 S H rfl rfl) fun a S => ?_
        refine gm S fun a S => ?_
        refine gy rfl rfl rfl S (y_lookup (_) (false) rfl Try.underlying73 Finf4 S H rfl (keyOK_int Try.underlying3) (by exact rfl) (by exact rfl)) fun a S => ?_
        refine gnt ?_
        have S := (((((((((S.nil.cons S 4 rfl).cons S 5 rfl).cons S 6 rfl).cons S 7 rfl).cons S 14 rfl).cons S 18 rfl).cons S 92 rfl).cons S 93 rfl).cons S 20 rfl).cons S 98 rfl
        refine c_if S rfl (fun h10 => ?_) (fun h10 => ?_)
        ·have h10p := h10; try simp only [DL] at h10p
         have hx : (k : Int) ∈ rs.reached := by have := h10; rw [memS_get] at this; simpa using this
         refine g_region ?_
         refine gy rfl rfl rfl S (y_faddrb rfl Ffo41_1 S rfl) fun a S => ?_
         refine gy rfl rfl rfl S (y_load rfl Fsca39 S H rfl rfl) fun a S => ?_
         refine gm S fun a S => ?_
         refine wl_of (op_buildSlice (wn rfl) rfl rfl rfl Try.underlying39 Finf3 S H (idx := [0]) rfl rfl rfl (z := [.int .i64 0]) (by kernel_rfl) (cs := [_]) rfl fun b102 a w S H => ?_)
         refine wl_of (op_append ([(k : Int)]) (wn rfl) rfl rfl rfl Try.underlying39 Finf3 rfl rfl S H rfl rfl rfl rfl (by simp) (by simp [encI]) (by simp [encI, Value.oneCell']) (by simp only [List.length_cons, List.length_nil]; omega) (by simp only [List.length_cons, List.length_nil]; omega) fun u103 a w hn103 S H => ?_)
         refine gy rfl rfl rfl S (y_faddrb rfl Ffo41_1 S rfl) fun a S => ?_
         refine wl_of (op_store (wn rfl) rfl rfl S H rfl rfl (H.sl1 _) Fsiz39 rfl fun a w S H => ?_)
         dsimp only [List.set, Nat.zero_add, Nat.reduceAdd] at H
         refine gl_nil ?_
         refine n_block ?_
         refine n_then ?_
         have S := (((((((S.nil.cons S 4 rfl).cons S 5 rfl).cons S 6 rfl).cons S 7 rfl).cons S 14 rfl).cons S 18 rfl).cons S 92 rfl).cons S 93 rfl
         refine g_region ?_
         refine gy rfl rfl rfl S (y_add rfl S rfl rfl (by omega)) fun a S => ?_
         refine gm S fun a S => ?_
         refine gnt ?_
         first
         | exact ⟨k + 1, S.nil.cons S 93 rfl, ((((((S.nil.cons S 4 rfl).cons S 5 rfl).cons S 6 rfl).cons S 7 rfl).cons S 14 rfl).cons S 18 rfl).cons S 92 rfl, ⟨by omega, vr, by rw [coverRight, if_neg hx]; exact H⟩, by omega⟩
         | exact ⟨k + 1, S.nil.cons S 93 rfl, ((((((S.nil.cons S 4 rfl).cons S 5 rfl).cons S 6 rfl).cons S 7 rfl).cons S 14 rfl).cons S 18 rfl).cons S 92 rfl, ⟨by omega, u103, by rw [coverRight, if_pos hx]; exact H.take [Cel b18 41 [vl, u103], OSl 3 u103 1 encI (coverRight rs k ++ [(k : Int)]), OSl 3 vl 1 encI (coverLeft (gr ps) rs ps.length), Atom.ro (Cel b13 73 [.map (some b60)]), Atom.ro (Cel b14 73 [.map (some b61)]), MapA b60 (fun n : Int => .int .i64 n) (fun b : Bool => .bool b) (memS (rs.left)) c1, MapA b61 (fun n : Int => .int .i64 n) (fun b : Bool => .bool b) (memS (rs.reached)) c2, OSl 3 (.slice (some ⟨b28, 0, none⟩) ps.length ps.length) 1 encI (gotL (gr ps) r), Atom.ro (Cel b7 39 [(.slice (some ⟨b28, 0, none⟩) ps.length ps.length)]), Cel b5 41 [.slice none 0 0, .slice none 0 0], Atom.ro (Cel b2 96 [v]), RowsS 1 encI ps, Sl v 1 encRow ps]⟩, by omega⟩
        ·have h10p := h10; try simp only [DL] at h10p
         have hx : (k : Int) ∉ rs.reached := by have := h10; rw [memS_get] at this; simpa using this
         refine g_skip ?_
         refine n_block ?_
         refine n_then ?_
         refine g_region ?_
         refine gy rfl rfl rfl S (y_add rfl S rfl rfl (by omega)) fun a S => ?_
         refine gm S fun a S => ?_
         refine gnt ?_
         first
         | exact ⟨k + 1, S.nil.cons S 93 rfl, ((((((S.nil.cons S 4 rfl).cons S 5 rfl).cons S 6 rfl).cons S 7 rfl).cons S 14 rfl).cons S 18 rfl).cons S 92 rfl, ⟨by omega, vr, by rw [coverRight, if_neg hx]; exact H⟩, by omega⟩
         | exact ⟨k + 1, S.nil.cons S 93 rfl, ((((((S.nil.cons S 4 rfl).cons S 5 rfl).cons S 6 rfl).cons S 7 rfl).cons S 14 rfl).cons S 18 rfl).cons S 92 rfl, ⟨by omega, u103, by rw [coverRight, if_pos hx]; exact H.take [Cel b18 41 [vl, u103], OSl 3 u103 1 encI (coverRight rs k ++ [(k : Int)]), OSl 3 vl 1 encI (coverLeft (gr ps) rs ps.length), Atom.ro (Cel b13 73 [.map (some b60)]), Atom.ro (Cel b14 73 [.map (some b61)]), MapA b60 (fun n : Int => .int .i64 n) (fun b : Bool => .bool b) (memS (rs.left)) c1, MapA b61 (fun n : Int => .int .i64 n) (fun b : Bool => .bool b) (memS (rs.reached)) c2, OSl 3 (.slice (some ⟨b28, 0, none⟩) ps.length ps.length) 1 encI (gotL (gr ps) r), Atom.ro (Cel b7 39 [(.slice (some ⟨b28, 0, none⟩) ps.length ps.length)]), Cel b5 41 [.slice none 0 0, .slice none 0 0], Atom.ro (Cel b2 96 [v]), RowsS 1 encI ps, Sl v 1 encRow ps]⟩, by omega⟩
       ·have h9p := h9; try simp only [DL] at h9p
        obtain rfl : r = k := by omega
        refine g_exit ?_
        refine x_then (x_then (x_eq ?_))
        refine n_then ?_
        have S := ((((S.nil.cons S 4 rfl).cons S 5 rfl).cons S 6 rfl).cons S 7 rfl).cons S 18 rfl
        refine g_seq ?_
        refine region_st (loud := [3]) (tails := [3]) (free := []) [0, 1, 2, 3, 4] [] Fmo (by kernel_rfl) (by kernel_rfl) rfl H ?_
        refine m_w rfl rfl (wn rfl) rfl rfl S (fun w H => y_load rfl Fsca39 S H rfl rfl) fun a S => ?_
        refine m_w rfl rfl (wn rfl) rfl rfl S (fun w H => y_load0 rfl S H rfl (by exact Fagg41)) fun a S => ?_
        refine m_w rfl rfl (wn rfl) rfl rfl S (fun w H => y_assign rfl S rfl) fun a S => ?_
        refine m_l rfl rfl (fun w H => op_storea (wn rfl) rfl rfl S H rfl rfl (by rw [List.all_cons, List.all_cons, H.sl1 vl, H.sl1 vr]; rfl) Fsiz41 rfl (cs' := [_, _]) rfl fun a w S H => m_tail H rfl ?_)
        refine m_w rfl rfl (wn rfl) rfl rfl S (fun w H => y_assign rfl S rfl) fun a S => ?_
        refine m_nil (fun w H => ?_)
        refine n_then ?_
        have S := ((S.nil.cons S 5 rfl).cons S 4 rfl).cons S 6 rfl
        refine g_ret ?_
        refine ret3mcm rfl S H rfl rfl rfl (by exact Fagg41) ?_
        exact ⟨_, vl, vr, rfl, by rw [leftL, rightL, gr_len, ← hrs, Int.toNat_natCast]; exact H.take [OSl 3 (.slice (some ⟨b28, 0, none⟩) ps.length ps.length) 1 encI (gotL (gr ps) r), OSl 3 vl 1 encI (coverLeft (gr ps) rs ps.length), OSl 3 vr 1 encI (coverRight rs r)]⟩
end Go.Proofs.Ytnnendajegdnhaa
