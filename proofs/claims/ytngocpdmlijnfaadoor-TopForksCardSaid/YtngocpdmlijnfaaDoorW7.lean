/- The walks. No condition. -/
import Derived.Test.YtngocpdmlijnfaaDoorChecked
import Derived.Test.YtngocpdmlijnfaaDoorGwStrB
import Derived.Test.YtngocpdmlijnfaaDoorShelf
import Derived.Test.YtngocpdmlijnfaaDoorFacts
import Derived.Test.YtngocpdmlijnfaaDoorPlain
import Derived.Test.YtngocpdmlijnfaaDoorW6
namespace Go.Proofs.YtngocpdmlijnfaaDoor
open Go Go.Gw
set_option linter.unusedVariables false
set_option linter.unusedSimpArgs false
/-- foyer/title.formed$1 -/
theorem formed1_spec (s : ByteArray) (w0 : World) (hs : s.size ≤ 9223372036854775807) :
    Ret Tryd.prog 32 #[.string s] w0 (fun u w => u = .bool (!isD s) ∧ Ext w0 w) := by
 refine ret_of_wp (nt := 6) Tryd.func32 rfl rfl rfl (fl := [(0, .string s)]) rfl (fun a S => ?_)
 have H := HSat.start w0
 refine gsr ?_
 refine ga S fun a S => ?_
 refine gnt ?_
 refine gsr ?_
 refine gm S fun a S => ?_
 refine wl_of (op_call (wn rfl) rfl rfl S (co_func rfl Tryd.call30 S rfl) (is_spec _ _ (by first | assumption | omega)) fun v w hc a S => ?_)
 obtain ⟨rfl, he⟩ := hc
 have H := H.ext he
 refine gy rfl rfl rfl S (y_not rfl S rfl) fun a S => ?_
 refine ga S fun a S => ?_
 refine gnt ?_
 have S := S.nil.cons S 2 rfl
 refine g_ret ?_
 refine ret1 rfl S rfl ?_
 exact ⟨rfl, H.toExt⟩
/-- slices.IndexFunc[[]string,string] -/
theorem indexS_spec (v : Value) (xs : List ByteArray) (f : FuncId) (cap : List Value) (he : Enters Tryd.prog f) (pr : ByteArray → Bool) (w0 : World) (hv : IsSl w0 v 1 encS xs)
    (hstep : ∀ x ∈ xs, ∀ w, Ext w0 w → Ret Tryd.prog f ([Value.string x] ++ cap).toArray w (fun u w' => u = .bool (pr x) ∧ Ext w w')) :
    Ret Tryd.prog 49 #[v, .func (.func f) #[] cap.toArray] w0 (fun u w => (u = .int .i64 (-1) ∧ xs.any pr = false ∧ Ext w0 w) ∨ (∃ j : Nat, u = .int .i64 (j : Int) ∧ xs.any pr = true ∧ Ext w0 w)) := by
 refine ret_of_wp (nt := 19) Tryd.func49 rfl rfl rfl (fl := [(0, v), (1, .func (.func f) #[] cap.toArray)]) rfl (fun a S => ?_)
 have H := HSat.start w0
 have H := H.ro0 (Sl v 1 encS xs) rfl (hv)
 have hlen := hv.len
 refine gsr ?_
 refine ga S fun a S => ?_
 refine gnt ?_
 refine g_seq ?_
 refine gsr ?_
 refine gm S fun a S => ?_
 refine gy rfl rfl rfl S (y_lens rfl Tryd.underlying30 S H rfl) fun a S => ?_
 refine gm S fun a S => ?_
 refine gnt ?_
 refine g_block ?_
 have SU := ((S.nil.cons S 1 rfl).cons S 0 rfl).cons S 7 rfl
 refine loop_k (X := Nat) SU (fun k => [(8, .int .i64 (k : Int))]) (fun k => k ≤ xs.length ∧ (∀ j (h : j < xs.length), j < k → pr xs[j] = false)) (fun k => xs.length - k) 0 (S.nil.cons S 8 rfl) H (⟨by omega, fun j h hj => by omega⟩) (fun k a w S H hi => ?_)
 simp only [List.cons_append, List.nil_append] at S hi
 obtain ⟨hk, hpr⟩ := hi
 refine gsr ?_
 refine gy rfl rfl rfl S (y_bin rfl S rfl rfl rfl) fun a S => ?_
 refine gnt ?_
 refine g_seq ?_
 refine c_if S rfl (fun h1 => ?_) (fun h1 => ?_)
 ·have h1p := h1; try simp only [DL] at h1p
  refine g_skip ?_
  refine n_then ?_
  refine g_seq ?_
  refine g_block ?_
  refine gsr ?_
  refine gm S fun a S => ?_
  refine ga S fun a S => ?_
  refine gnt ?_
  refine gsr ?_
  refine gm S fun a S => ?_
  refine gm S fun a S => ?_
  refine gm S fun a S => ?_
  refine gy rfl rfl rfl S (y_iaddrn rfl Tryd.underlying30 Fsiz9 S H rfl rfl (by first | assumption | omega | (simp only [LL]; omega))) fun a S => ?_
  refine gy rfl rfl rfl S (y_loads _ rfl Fsca9 S H rfl (by first | assumption | omega | (simp only [LL]; omega)) rfl) fun a S => ?_
  refine wl_of (op_call (wn rfl) rfl rfl S (co_value rfl he S rfl rfl) (hstep _ (List.getElem_mem (by omega)) w H.toExt) fun v w hc a S => ?_)
  obtain ⟨rfl, he1⟩ := hc
  have H := H.ext he1
  refine gnt ?_
  have S := (((((S.nil.cons S 1 rfl).cons S 0 rfl).cons S 7 rfl).cons S 8 rfl).cons S 5 rfl).cons S 16 rfl
  refine c_if S rfl (fun h2 => ?_) (fun h2 => ?_)
  ·have h2p := h2; try simp only [DL] at h2p
   refine gsr ?_
   refine gm S fun a S => ?_
   refine ga S fun a S => ?_
   refine gnt ?_
   refine g_ret ?_
   refine r_block (r_then (r_then (r_block (r_then (ret1 rfl S rfl ?_)))))
   exact .inr ⟨k, rfl, List.any_eq_true.2 ⟨_, List.getElem_mem (by omega), h2⟩, H.toExt⟩
  ·have h2p := h2; try simp only [DL] at h2p
   refine g_skip ?_
   refine n_block ?_
   refine n_then ?_
   refine g_region ?_
   refine gy rfl rfl rfl S (y_add rfl S rfl rfl (by omega)) fun a S => ?_
   refine gm S fun a S => ?_
   refine gnt ?_
   refine ⟨k + 1, S.nil.cons S 8 rfl, ((S.nil.cons S 1 rfl).cons S 0 rfl).cons S 7 rfl, H, ?_, ?_⟩
   · exact ⟨by omega, fun j h hj => by by_cases hjk : j < k; exact hpr j h hjk; (obtain rfl : j = k := by omega); exact h2⟩
   · omega
 ·have h1p := h1; try simp only [DL] at h1p
  refine g_exit ?_
  refine x_then (x_then (x_eq ?_))
  refine n_then ?_
  have S := S.nil
  refine gsr ?_
  refine ga S fun a S => ?_
  refine gnt ?_
  refine g_ret ?_
  refine ret1 rfl S rfl ?_
  obtain rfl : k = xs.length := by omega
  exact .inl ⟨rfl, List.any_eq_false.2 (fun x hx => by obtain ⟨j, hj, rfl⟩ := List.getElem_of_mem hx; simp [hpr j hj hj]), H.toExt⟩
/-- slices.ContainsFunc[[]string,string] -/
theorem containsS_spec (v : Value) (xs : List ByteArray) (f : FuncId) (cap : List Value) (he : Enters Tryd.prog f) (pr : ByteArray → Bool) (w0 : World) (hv : IsSl w0 v 1 encS xs)
    (hstep : ∀ x ∈ xs, ∀ w, Ext w0 w → Ret Tryd.prog f ([Value.string x] ++ cap).toArray w (fun u w' => u = .bool (pr x) ∧ Ext w w')) :
    Ret Tryd.prog 31 #[v, .func (.func f) #[] cap.toArray] w0 (fun u w => u = .bool (xs.any pr) ∧ Ext w0 w) := by
 refine ret_of_wp (nt := 9) Tryd.func31 rfl rfl rfl (fl := [(0, v), (1, .func (.func f) #[] cap.toArray)]) rfl (fun a S => ?_)
 have H := HSat.start w0
 refine gsr ?_
 refine ga S fun a S => ?_
 refine gnt ?_
 refine gsr ?_
 refine gm S fun a S => ?_
 refine gm S fun a S => ?_
 refine wl_of (op_call (wn rfl) rfl rfl S (co_func rfl Tryd.call49 S rfl) (Ret.mono (indexS_spec v xs f cap he pr w0 hv hstep) (fun u w h => (show ∃ i : Int, u = .int .i64 i ∧ xs.any pr = decide (i ≥ 0) ∧ Ext w0 w from by rcases h with ⟨h1, h2, h3⟩ | ⟨j, h1, h2, h3⟩; exact ⟨-1, h1, by rw [h2]; rfl, h3⟩; exact ⟨j, h1, by rw [h2]; simp, h3⟩))) fun v w hc a S => ?_)
 obtain ⟨i, rfl, hany, he1⟩ := hc
 have H := H.ext he1
 refine gy rfl rfl rfl S (y_bin rfl S rfl rfl rfl) fun a S => ?_
 refine ga S fun a S => ?_
 refine gnt ?_
 have S := S.nil.cons S 4 rfl
 refine g_ret ?_
 refine ret1 rfl S rfl ?_
 exact ⟨by rw [hany], H.toExt⟩
/-- slices.IndexFunc[[]foyer/api.Transfer,foyer/api.Transfer] -/
theorem indexX_spec (v : Value) (xs : List XV) (f : FuncId) (cap : List Value) (he : Enters Tryd.prog f) (pr : XV → Bool) (w0 : World) (hv : IsSl w0 v 2 encX xs)
    (hstep : ∀ x ∈ xs, ∀ w, Ext w0 w → Ret Tryd.prog f ([Value.agg (encX x).toArray] ++ cap).toArray w (fun u w' => u = .bool (pr x) ∧ Ext w w')) :
    Ret Tryd.prog 50 #[v, .func (.func f) #[] cap.toArray] w0 (fun u w => (u = .int .i64 (-1) ∧ xs.any pr = false ∧ Ext w0 w) ∨ (∃ j : Nat, u = .int .i64 (j : Int) ∧ xs.any pr = true ∧ Ext w0 w)) := by
 refine ret_of_wp (nt := 19) Tryd.func50 rfl rfl rfl (fl := [(0, v), (1, .func (.func f) #[] cap.toArray)]) rfl (fun a S => ?_)
 have H := HSat.start w0
 have H := H.ro0 (Sl v 2 encX xs) rfl (hv)
 have hlen := hv.len
 refine gsr ?_
 refine ga S fun a S => ?_
 refine gnt ?_
 refine g_seq ?_
 refine gsr ?_
 refine gm S fun a S => ?_
 refine gy rfl rfl rfl S (y_lens rfl Tryd.underlying22 S H rfl) fun a S => ?_
 refine gm S fun a S => ?_
 refine gnt ?_
 refine g_block ?_
 have SU := ((S.nil.cons S 1 rfl).cons S 0 rfl).cons S 7 rfl
 refine loop_k (X := Nat) SU (fun k => [(8, .int .i64 (k : Int))]) (fun k => k ≤ xs.length ∧ (∀ j (h : j < xs.length), j < k → pr xs[j] = false)) (fun k => xs.length - k) 0 (S.nil.cons S 8 rfl) H (⟨by omega, fun j h hj => by omega⟩) (fun k a w S H hi => ?_)
 simp only [List.cons_append, List.nil_append] at S hi
 obtain ⟨hk, hpr⟩ := hi
 refine gsr ?_
 refine gy rfl rfl rfl S (y_bin rfl S rfl rfl rfl) fun a S => ?_
 refine gnt ?_
 refine g_seq ?_
 refine c_if S rfl (fun h1 => ?_) (fun h1 => ?_)
 ·have h1p := h1; try simp only [DL] at h1p
  refine g_skip ?_
  refine n_then ?_
  refine g_seq ?_
  refine g_block ?_
  refine gsr ?_
  refine gm S fun a S => ?_
  refine ga S fun a S => ?_
  refine gnt ?_
  refine gsr ?_
  refine gm S fun a S => ?_
  refine gm S fun a S => ?_
  refine gm S fun a S => ?_
  refine gy rfl rfl rfl S (y_iaddrn rfl Tryd.underlying22 Fsiz32 S H rfl rfl (by first | assumption | omega | (simp only [LL]; omega))) fun a S => ?_
  refine gy rfl rfl rfl S (y_loadsa _ rfl S H rfl (by exact Fagg32) (by first | assumption | omega | (simp only [LL]; omega))) fun a S => ?_
  refine wl_of (op_call (wn rfl) rfl rfl S (co_value rfl he S rfl rfl) (hstep _ (List.getElem_mem (by omega)) w H.toExt) fun v w hc a S => ?_)
  obtain ⟨rfl, he1⟩ := hc
  have H := H.ext he1
  refine gnt ?_
  have S := (((((S.nil.cons S 1 rfl).cons S 0 rfl).cons S 7 rfl).cons S 8 rfl).cons S 5 rfl).cons S 16 rfl
  refine c_if S rfl (fun h2 => ?_) (fun h2 => ?_)
  ·have h2p := h2; try simp only [DL] at h2p
   refine gsr ?_
   refine gm S fun a S => ?_
   refine ga S fun a S => ?_
   refine gnt ?_
   refine g_ret ?_
   refine r_block (r_then (r_then (r_block (r_then (ret1 rfl S rfl ?_)))))
   exact .inr ⟨k, rfl, List.any_eq_true.2 ⟨_, List.getElem_mem (by omega), h2⟩, H.toExt⟩
  ·have h2p := h2; try simp only [DL] at h2p
   refine g_skip ?_
   refine n_block ?_
   refine n_then ?_
   refine g_region ?_
   refine gy rfl rfl rfl S (y_add rfl S rfl rfl (by omega)) fun a S => ?_
   refine gm S fun a S => ?_
   refine gnt ?_
   refine ⟨k + 1, S.nil.cons S 8 rfl, ((S.nil.cons S 1 rfl).cons S 0 rfl).cons S 7 rfl, H, ?_, ?_⟩
   · exact ⟨by omega, fun j h hj => by by_cases hjk : j < k; exact hpr j h hjk; (obtain rfl : j = k := by omega); exact h2⟩
   · omega
 ·have h1p := h1; try simp only [DL] at h1p
  refine g_exit ?_
  refine x_then (x_then (x_eq ?_))
  refine n_then ?_
  have S := S.nil
  refine gsr ?_
  refine ga S fun a S => ?_
  refine gnt ?_
  refine g_ret ?_
  refine ret1 rfl S rfl ?_
  obtain rfl : k = xs.length := by omega
  exact .inl ⟨rfl, List.any_eq_false.2 (fun x hx => by obtain ⟨j, hj, rfl⟩ := List.getElem_of_mem hx; simp [hpr j hj hj]), H.toExt⟩
/-- slices.ContainsFunc[[]foyer/api.Transfer,foyer/api.Transfer] -/
theorem containsX_spec (v : Value) (xs : List XV) (f : FuncId) (cap : List Value) (he : Enters Tryd.prog f) (pr : XV → Bool) (w0 : World) (hv : IsSl w0 v 2 encX xs)
    (hstep : ∀ x ∈ xs, ∀ w, Ext w0 w → Ret Tryd.prog f ([Value.agg (encX x).toArray] ++ cap).toArray w (fun u w' => u = .bool (pr x) ∧ Ext w w')) :
    Ret Tryd.prog 34 #[v, .func (.func f) #[] cap.toArray] w0 (fun u w => u = .bool (xs.any pr) ∧ Ext w0 w) := by
 refine ret_of_wp (nt := 9) Tryd.func34 rfl rfl rfl (fl := [(0, v), (1, .func (.func f) #[] cap.toArray)]) rfl (fun a S => ?_)
 have H := HSat.start w0
 refine gsr ?_
 refine ga S fun a S => ?_
 refine gnt ?_
 refine gsr ?_
 refine gm S fun a S => ?_
 refine gm S fun a S => ?_
 refine wl_of (op_call (wn rfl) rfl rfl S (co_func rfl Tryd.call50 S rfl) (Ret.mono (indexX_spec v xs f cap he pr w0 hv hstep) (fun u w h => (show ∃ i : Int, u = .int .i64 i ∧ xs.any pr = decide (i ≥ 0) ∧ Ext w0 w from by rcases h with ⟨h1, h2, h3⟩ | ⟨j, h1, h2, h3⟩; exact ⟨-1, h1, by rw [h2]; rfl, h3⟩; exact ⟨j, h1, by rw [h2]; simp, h3⟩))) fun v w hc a S => ?_)
 obtain ⟨i, rfl, hany, he1⟩ := hc
 have H := H.ext he1
 refine gy rfl rfl rfl S (y_bin rfl S rfl rfl rfl) fun a S => ?_
 refine ga S fun a S => ?_
 refine gnt ?_
 have S := S.nil.cons S 4 rfl
 refine g_ret ?_
 refine ret1 rfl S rfl ?_
 exact ⟨by rw [hany], H.toExt⟩
set_option maxHeartbeats 1000000 in
/-- foyer/title.formed -/
theorem formed_spec (t : TV) (w0 : World) (ht : TOk w0 t) (hz : TSz t) :
    Ret Tryd.prog 10 #[.agg (encT t).toArray] w0 (fun u w => u = .bool (formedB t) ∧ Ext w0 w) := by
 refine ret_of_wp (nt := 74) Tryd.func10 rfl rfl rfl (fl := [(0, .agg (encT t).toArray)]) rfl (fun a S => ?_)
 have H := HSat.start w0
 have H := H.ro0 (Sl t.cv 2 encX t.chain) rfl (ht.sl)
 have H := H.ro0 (CapA t.cv) rfl (ht.cap)
 have H := H.ro0 (XRows t.chain) rfl (ht.rows)
 have hlen := ht.sl.len
 refine gsr ?_
 refine wl_of (op_boxa (wn rfl) rfl rfl rfl S H rfl fun b1 a w S H => ?_)
 refine ga S fun a S => ?_
 refine gnt ?_
 refine gsr ?_
 refine gy rfl rfl rfl S (y_faddrb rfl Ffo24_0 S rfl) fun a S => ?_
 refine gy rfl rfl rfl S (y_load rfl Fsca3 S H rfl rfl) fun a S => ?_
 refine gy rfl rfl rfl S (y_faddrb rfl Ffo24_1 S rfl) fun a S => ?_
 refine gy rfl rfl rfl S (y_load rfl Fsca3 S H rfl rfl) fun a S => ?_
 refine gy rfl rfl rfl S ((y_bin rfl S rfl rfl rfl)) fun a S => ?_
 refine gy rfl rfl rfl S ((y_bin rfl S rfl rfl rfl)) fun a S => ?_
 refine gy rfl rfl rfl S ((y_bin rfl S rfl rfl rfl)) fun a S => ?_
 refine ga S fun a S => ?_
 refine gnt ?_
 have S := ((S.nil.cons S 1 rfl).cons S 2 rfl).cons S 3 rfl
 refine g_seq ?_
 refine gsr ?_
 refine gy rfl rfl rfl S (y_faddrb rfl Ffo24_1 S rfl) fun a S => ?_
 refine gy rfl rfl rfl S (y_load rfl Fsca3 S H rfl rfl) fun a S => ?_
 refine gy rfl rfl rfl S (y_bin rfl S rfl rfl rfl) fun a S => ?_
 refine gm S fun a S => ?_
 refine' wl_or 3 16 rfl S H rfl rfl rfl rfl rfl rfl rfl (fun _ S => (wn rfl)) (fun h1 kk => ?yh1) (fun a w S H => ?_)
 case yh1 =>
  have h1p := h1; try simp only [DL] at h1p
  refine gz 16 h1 S rfl rfl rfl rfl rfl rfl (y_faddrb rfl Ffo24_1 S rfl) fun a S => ?_
  refine gz 16 h1 S rfl rfl rfl rfl rfl rfl (y_load rfl Fsca3 S H rfl rfl) fun a S => ?_
  refine gz 16 h1 S rfl rfl rfl rfl rfl rfl (y_bin rfl S rfl rfl rfl) fun a S => ?_
  refine gy rfl rfl rfl S (y_or' rfl h1 S rfl rfl) fun a S => ?_
  exact kk _ _ (S.join 4 20 rfl rfl) H
 refine gm S fun a S => ?_
 refine' wl_or 2 21 rfl S H rfl rfl rfl rfl rfl rfl rfl (fun _ S => (wn rfl)) (fun h2 kk => ?yh2) (fun a w S H => ?_)
 case yh2 =>
  have h2p := h2; try simp only [DL] at h2p
  refine gz 21 h2 S rfl rfl rfl rfl rfl rfl (y_move rfl S rfl) fun a S => ?_
  refine gz 21 h2 S rfl rfl rfl rfl rfl rfl (y_bin rfl S rfl rfl rfl) fun a S => ?_
  refine gy rfl rfl rfl S (y_or' rfl h2 S rfl rfl) fun a S => ?_
  exact kk _ _ (S.join 3 24 rfl rfl) H
 refine gm S fun a S => ?_
 refine' wl_or 2 25 rfl S H rfl rfl rfl rfl rfl rfl rfl (fun _ S => (wn rfl)) (fun h3 kk => ?yh3) (fun a w S H => ?_)
 case yh3 =>
  have h3p := h3; try simp only [DL] at h3p
  refine gz 25 h3 S rfl rfl rfl rfl rfl rfl (y_move rfl S rfl) fun a S => ?_
  refine gz 25 h3 S rfl rfl rfl rfl rfl rfl (y_bin rfl S rfl rfl rfl) fun a S => ?_
  refine gy rfl rfl rfl S (y_or' rfl h3 S rfl rfl) fun a S => ?_
  exact kk _ _ (S.join 3 28 rfl rfl) H
 refine gm S fun a S => ?_
 refine' wl_or 3 29 rfl S H rfl rfl rfl rfl rfl rfl rfl (fun _ S => (wn rfl)) (fun h4 kk => ?yh4) (fun a w S H => ?_)
 case yh4 =>
  have h4p := h4; try simp only [DL] at h4p
  refine gz 29 h4 S rfl rfl rfl rfl rfl rfl (y_faddrb rfl Ffo24_2 S rfl) fun a S => ?_
  refine gz 29 h4 S rfl rfl rfl rfl rfl rfl (y_load rfl Fsca3 S H rfl rfl) fun a S => ?_
  refine gz 29 h4 S rfl rfl rfl rfl rfl rfl (y_bin rfl S rfl rfl rfl) fun a S => ?_
  refine gy rfl rfl rfl S (y_or' rfl h4 S rfl rfl) fun a S => ?_
  exact kk _ _ (S.join 4 33 rfl rfl) H
 refine gm S fun a S => ?_
 refine' wl_or 3 34 rfl S H rfl rfl rfl rfl rfl rfl rfl (fun _ S => (wn rfl)) (fun h5 kk => ?yh5) (fun a w S H => ?_)
 case yh5 =>
  have h5p := h5; try simp only [DL] at h5p
  refine gz 34 h5 S rfl rfl rfl rfl rfl rfl (y_faddrb rfl Ffo24_2 S rfl) fun a S => ?_
  refine gz 34 h5 S rfl rfl rfl rfl rfl rfl (y_load rfl Fsca3 S H rfl rfl) fun a S => ?_
  refine gz 34 h5 S rfl rfl rfl rfl rfl rfl (y_bin rfl S rfl rfl rfl) fun a S => ?_
  refine gy rfl rfl rfl S (y_or' rfl h5 S rfl rfl) fun a S => ?_
  exact kk _ _ (S.join 4 38 rfl rfl) H
 refine gm S fun a S => ?_
 refine' wl_or 4 39 rfl S H rfl rfl rfl rfl rfl rfl rfl (fun _ S => (wn rfl)) (fun h6 kk => ?yh6) (fun a w S H => ?_)
 case yh6 =>
  have h6p := h6; try simp only [DL] at h6p
  refine gz 39 h6 S rfl rfl rfl rfl rfl rfl (y_faddrb rfl Ffo24_3 S rfl) fun a S => ?_
  refine gz 39 h6 S rfl rfl rfl rfl rfl rfl (y_load rfl Fsca9 S H rfl rfl) fun a S => ?_
  refine wl_of (op_call (wg' 39 rfl rfl S rfl h6 rfl) rfl rfl S (co_func rfl Tryd.call30 S rfl) (is_spec _ _ (by have := hz.first; omega)) fun v w hc a S => ?_)
  obtain ⟨rfl, he⟩ := hc
  have H := H.ext he
  refine gz 39 h6 S rfl rfl rfl rfl rfl rfl (y_not rfl S rfl) fun a S => ?_
  refine gy rfl rfl rfl S (y_or' rfl h6 S rfl rfl) fun a S => ?_
  exact kk _ _ (S.join 5 44 rfl rfl) H
 refine gm S fun a S => ?_
 refine' wl_or 4 45 rfl S H rfl rfl rfl rfl rfl rfl rfl (fun _ S => (wn rfl)) (fun h7 kk => ?yh7) (fun a w S H => ?_)
 case yh7 =>
  have h7p := h7; try simp only [DL] at h7p
  refine gz 45 h7 S rfl rfl rfl rfl rfl rfl (y_faddrb rfl Ffo24_4 S rfl) fun a S => ?_
  refine gz 45 h7 S rfl rfl rfl rfl rfl rfl (y_load rfl Fsca22 S H rfl rfl) fun a S => ?_
  refine gz 45 h7 S rfl rfl rfl rfl rfl rfl (y_lens rfl Tryd.underlying22 S H rfl) fun a S => ?_
  refine gz 45 h7 S rfl rfl rfl rfl rfl rfl (y_bin rfl S rfl rfl rfl) fun a S => ?_
  refine gy rfl rfl rfl S (y_or' rfl h7 S rfl rfl) fun a S => ?_
  exact kk _ _ (S.join 5 50 rfl rfl) H
 refine gnt ?_
 have S := ((S.nil.cons S 1 rfl).cons S 2 rfl).cons S 50 rfl
 refine c_if S rfl (fun h8 => ?_) (fun h8 => ?_)
 ·have h8p := h8; try simp only [DL] at h8p
  have hh : headB t = false := by unfold headB; simp only [Bool.not_eq_false']; exact h8
  refine gsr ?_
  refine ga S fun a S => ?_
  refine gnt ?_
  refine g_ret ?_
  refine r_then (ret1 rfl S rfl ?_)
  exact ⟨congrArg Value.bool (by unfold formedB; rw [hh]; rfl), H.toExt⟩
 ·have h8p := h8; try simp only [DL] at h8p
  have hh : headB t = true := by unfold headB; simp only [Bool.not_eq_true']; exact h8
  refine g_skip ?_
  refine n_then ?_
  refine g_seq ?_
  refine gsr ?_
  refine gy rfl rfl rfl S (y_faddrb rfl Ffo24_4 S rfl) fun a S => ?_
  refine gy rfl rfl rfl S (y_load rfl Fsca22 S H rfl rfl) fun a S => ?_
  refine gy rfl rfl rfl S (y_lens rfl Tryd.underlying22 S H rfl) fun a S => ?_
  refine gm S fun a S => ?_
  refine gnt ?_
  refine g_block ?_
  have SU := (S.nil.cons S 52 rfl).cons S 53 rfl
  refine loop_k (X := Nat) SU (fun k => [(54, .int .i64 (k : Int))]) (fun k => k ≤ t.chain.length ∧ ∀ i (h : i < t.chain.length), i < k → formX t.chain[i] = true) (fun k => t.chain.length - k) 0 (S.nil.cons S 54 rfl) H (⟨by omega, fun i _ h => absurd h (by omega)⟩) (fun k a w S H hi => ?_)
  simp only [List.cons_append, List.nil_append] at S hi
  obtain ⟨hk, hok⟩ := hi
  refine gsr ?_
  refine gy rfl rfl rfl S (y_bin rfl S rfl rfl rfl) fun a S => ?_
  refine gnt ?_
  refine g_seq ?_
  refine c_if S rfl (fun h9 => ?_) (fun h9 => ?_)
  ·have h9p := h9; try simp only [DL] at h9p
   have hkl : k < t.chain.length := by omega
   have hxk := hz.x t.chain[k] (List.getElem_mem hkl)
   have hto : t.chain[k].to.size ≤ 9223372036854775807 := by omega
   refine g_skip ?_
   refine n_then ?_
   refine g_seq ?_
   refine g_block ?_
   refine gsr ?_
   refine gy rfl rfl rfl S (y_iaddrn rfl Tryd.underlying22 Fsiz32 S H rfl rfl (by first | assumption | omega | (simp only [LL]; omega))) fun a S => ?_
   refine gy rfl rfl rfl S (y_loadsa _ rfl S H rfl (by exact Fagg32) (by first | assumption | omega | (simp only [LL]; omega))) fun a S => ?_
   refine wl_of (op_alloc (wn rfl) rfl rfl rfl S H Fzer32 fun b5 a w S H => ?_)
   refine wl_of (op_storea (wn rfl) rfl rfl S H rfl rfl (encX_one (w := w) (H.sl1 t.chain[k].sv)) Fsiz32 rfl (cs' := [_, _]) rfl fun a w S H => ?_)
   refine gnt ?_
   refine gsr ?_
   refine gy rfl rfl rfl S (y_faddrb rfl Ffo32_1 S rfl) fun a S => ?_
   refine gy rfl rfl rfl S (y_load rfl Fsca30 S H rfl rfl) fun a S => ?_
   refine gy rfl rfl rfl S (y_lens rfl Tryd.underlying30 S H rfl) fun a S => ?_
   refine gy rfl rfl rfl S (y_bin rfl S rfl rfl rfl) fun a S => ?_
   refine gm S fun a S => ?_
   refine' wl_or 4 62 rfl S H rfl rfl rfl rfl rfl rfl rfl (fun _ S => (wn rfl)) (fun h10 kk => ?yh10) (fun a w S H => ?_)
   case yh10 =>
    have h10p := h10; try simp only [DL] at h10p
    refine gz 62 h10 S rfl rfl rfl rfl rfl rfl (y_faddrb rfl Ffo32_0 S rfl) fun a S => ?_
    refine gz 62 h10 S rfl rfl rfl rfl rfl rfl (y_load rfl Fsca9 S H rfl rfl) fun a S => ?_
    refine wl_of (op_call (wg' 62 rfl rfl S rfl h10 rfl) rfl rfl S (co_func rfl Tryd.call30 S rfl) (is_spec _ _ hto) fun v w hc a S => ?_)
    obtain ⟨rfl, he⟩ := hc
    have H := H.ext he
    refine gz 62 h10 S rfl rfl rfl rfl rfl rfl (y_not rfl S rfl) fun a S => ?_
    refine gy rfl rfl rfl S (y_or' rfl h10 S rfl rfl) fun a S => ?_
    exact kk _ _ (S.join 5 67 rfl rfl) H
   refine gm S fun a S => ?_
   refine' wl_or 3 68 rfl S H rfl rfl rfl rfl rfl rfl rfl (fun _ S => (wn rfl)) (fun h11 kk => ?yh11) (fun a w S H => ?_)
   case yh11 =>
    have h11p := h11; try simp only [DL] at h11p
    refine gz 68 h11 S rfl rfl rfl rfl rfl rfl (y_faddrb rfl Ffo32_1 S rfl) fun a S => ?_
    refine gz 68 h11 S rfl rfl rfl rfl rfl rfl (y_load rfl Fsca30 S H rfl rfl) fun a S => ?_
    refine wl_of (op_call (wg' 68 rfl rfl S rfl h11 rfl) rfl rfl S (co_func rfl Tryd.call31 S rfl) (containsS_spec _ t.chain[k].sig 32 [] Tryd.call32 (fun s => !isD s) _ (H.sl t.chain[k].sv) (fun x hx w _ => formed1_spec x w (by have := hxk.2.2 x hx; omega))) fun v w hc a S => ?_)
    obtain ⟨rfl, he⟩ := hc
    have H := H.ext he
    refine gy rfl rfl rfl S (y_or' rfl h11 S rfl rfl) fun a S => ?_
    exact kk _ _ (S.join 4 72 rfl rfl) H
   refine gnt ?_
   have S := (((S.nil.cons S 52 rfl).cons S 53 rfl).cons S 54 rfl).cons S 72 rfl
   refine c_if S rfl (fun h12 => ?_) (fun h12 => ?_)
   ·have h12p := h12; try simp only [DL] at h12p
    have hfx : formX t.chain[k] = false := by
      have e : (((t.chain[k].sig.length : Int)) != 18) = !decide (t.chain[k].sig.length = 18) := by rw [Bool.eq_iff_iff]; simp; omega
      have h := h12
      rw [e] at h
      unfold formX
      have e2 : t.chain[k].sig.any (fun s => !isD s) = !t.chain[k].sig.all isD := by rw [List.all_eq_not_any_not, Bool.not_not]
      rw [e2] at h
      generalize decide (t.chain[k].sig.length = 18) = b1 at h ⊢; generalize isD t.chain[k].to = b2 at h ⊢; generalize t.chain[k].sig.all isD = b3 at h ⊢
      cases b1 <;> cases b2 <;> cases b3 <;> simp_all
    refine gsr ?_
    refine ga S fun a S => ?_
    refine gnt ?_
    refine g_ret ?_
    refine r_block (r_then (r_then (r_block (r_then (ret1 rfl S rfl ?_)))))
    exact ⟨congrArg Value.bool (by unfold formedB; rw [show t.chain.all formX = false from List.all_eq_false.2 ⟨_, List.getElem_mem hkl, by rw [hfx]; simp⟩, Bool.and_false]), H.toExt⟩
   ·have h12p := h12; try simp only [DL] at h12p
    have hfx : formX t.chain[k] = true := by
      have e : (((t.chain[k].sig.length : Int)) != 18) = !decide (t.chain[k].sig.length = 18) := by rw [Bool.eq_iff_iff]; simp; omega
      have h := h12
      rw [e] at h
      unfold formX
      have e2 : t.chain[k].sig.any (fun s => !isD s) = !t.chain[k].sig.all isD := by rw [List.all_eq_not_any_not, Bool.not_not]
      rw [e2] at h
      generalize decide (t.chain[k].sig.length = 18) = b1 at h ⊢; generalize isD t.chain[k].to = b2 at h ⊢; generalize t.chain[k].sig.all isD = b3 at h ⊢
      cases b1 <;> cases b2 <;> cases b3 <;> simp_all
    refine g_skip ?_
    refine n_block ?_
    refine n_then ?_
    refine g_region ?_
    refine gy rfl rfl rfl S (y_add rfl S rfl rfl (by omega)) fun a S => ?_
    refine gm S fun a S => ?_
    refine gnt ?_
    refine ⟨k + 1, S.nil.cons S 54 rfl, (S.nil.cons S 52 rfl).cons S 53 rfl, H.drop 1, ?_, ?_⟩
    · exact ⟨by omega, fun i hi hik => by by_cases hjk : i < k; exact hok i hi hjk; (obtain rfl : i = k := by omega); exact hfx⟩
    · omega
  ·have h9p := h9; try simp only [DL] at h9p
   obtain rfl : k = t.chain.length := by omega
   refine g_exit ?_
   refine x_then (x_then (x_eq ?_))
   refine n_then ?_
   have S := S.nil
   refine gsr ?_
   refine ga S fun a S => ?_
   refine gnt ?_
   refine g_ret ?_
   refine ret1 rfl S rfl ?_
   exact ⟨congrArg Value.bool (by unfold formedB; rw [hh, show t.chain.all formX = true from List.all_eq_true.2 fun x hx => by obtain ⟨i, hi, rfl⟩ := List.getElem_of_mem hx; exact hok i hi hi]; rfl), H.toExt⟩
/-- foyer/title.Owner -/
theorem owner_spec (t : TV) (w0 : World) (ht : TOk w0 t) :
    Ret Tryd.prog 14 #[.agg (encT t).toArray] w0 (fun u w => u = .string (ownerS t) ∧ Ext w0 w) := by
 refine ret_of_wp (nt := 18) Tryd.func14 rfl rfl rfl (fl := [(0, .agg (encT t).toArray)]) rfl (fun a S => ?_)
 have H := HSat.start w0
 have H := H.ro0 (Sl t.cv 2 encX t.chain) rfl (ht.sl)
 have H := H.ro0 (CapA t.cv) rfl (ht.cap)
 have H := H.ro0 (XRows t.chain) rfl (ht.rows)
 have hlen := ht.sl.len
 refine gsr ?_
 refine wl_of (op_boxa (wn rfl) rfl rfl rfl S H rfl fun b1 a w S H => ?_)
 refine ga S fun a S => ?_
 refine gnt ?_
 refine g_seq ?_
 refine gsr ?_
 refine gy rfl rfl rfl S (y_faddrb rfl Ffo24_4 S rfl) fun a S => ?_
 refine gy rfl rfl rfl S (y_load rfl Fsca22 S H rfl rfl) fun a S => ?_
 refine gy rfl rfl rfl S (y_lens rfl Tryd.underlying22 S H rfl) fun a S => ?_
 refine ga S fun a S => ?_
 refine gnt ?_
 have S := ((S.nil.cons S 1 rfl).cons S 2 rfl).cons S 3 rfl
 refine gsr ?_
 refine gm S fun a S => ?_
 refine gy rfl rfl rfl S (y_bin rfl S rfl rfl rfl) fun a S => ?_
 refine gnt ?_
 refine c_if S rfl (fun h1 => ?_) (fun h1 => ?_)
 ·have h1p := h1; try simp only [DL] at h1p
  refine gsr ?_
  refine gy rfl rfl rfl S (y_faddrb rfl Ffo24_4 S rfl) fun a S => ?_
  refine gy rfl rfl rfl S (y_load rfl Fsca22 S H rfl rfl) fun a S => ?_
  refine gm S fun a S => ?_
  refine gy rfl rfl rfl S ((y_subn (m := t.chain.length - 1) rfl S rfl rfl (by omega) (by omega))) fun a S => ?_
  refine gy rfl rfl rfl S (y_iaddrn rfl Tryd.underlying22 Fsiz32 S H rfl rfl (by first | assumption | omega | (simp only [LL]; omega))) fun a S => ?_
  refine gy rfl rfl rfl S (y_faddr rfl Ffo32_0 S rfl) fun a S => ?_
  refine gy rfl rfl rfl S (y_loadsf _ rfl Fsca9 S H rfl (by first | assumption | omega | (simp only [LL]; omega)) rfl) fun a S => ?_
  refine ga S fun a S => ?_
  refine gnt ?_
  have S := (S.nil.cons S 1 rfl).cons S 2 rfl
  refine g_ret ?_
  refine r_then (ret1 rfl S rfl ?_)
  exact ⟨by rw [ownerS_some (by omega)], H.toExt⟩
 ·have h1p := h1; try simp only [DL] at h1p
  refine g_skip ?_
  refine n_then ?_
  refine gsr ?_
  refine gy rfl rfl rfl S (y_faddrb rfl Ffo24_3 S rfl) fun a S => ?_
  refine gy rfl rfl rfl S (y_load rfl Fsca9 S H rfl rfl) fun a S => ?_
  refine ga S fun a S => ?_
  refine gnt ?_
  have S := S.nil.cons S 2 rfl
  refine g_ret ?_
  refine ret1 rfl S rfl ?_
  exact ⟨by rw [ownerS_none (by omega)], H.toExt⟩
/-- foyer/title.used$1 -/
theorem used1_spec (x : XV) (b : Nat) (key : ByteArray) (w0 : World) (hb : w0.heap[b]? = some (.cells [Value.string key].toArray 9 (0, 0))) :
    Ret Tryd.prog 35 #[.agg (encX x).toArray, .pointer (some ⟨b, 0, none⟩)] w0 (fun u w => u = .bool (decide (x.to = key)) ∧ Ext w0 w) := by
 refine ret_of_wp (nt := 8) Tryd.func35 rfl rfl rfl (fl := [(0, .agg (encX x).toArray), (1, .pointer (some ⟨b, 0, none⟩))]) rfl (fun a S => ?_)
 have H := HSat.start w0
 have H := H.ro0 (Atom.ro (Cel b 9 [.string key])) rfl (hb)
 refine gsr ?_
 refine wl_of (op_boxa (wn rfl) rfl rfl rfl S H rfl fun b2 a w S H => ?_)
 refine ga S fun a S => ?_
 refine gnt ?_
 refine gsr ?_
 refine gy rfl rfl rfl S (y_faddrb rfl Ffo32_0 S rfl) fun a S => ?_
 refine gy rfl rfl rfl S (y_load rfl Fsca9 S H rfl rfl) fun a S => ?_
 refine gy rfl rfl rfl S (y_load rfl Fsca9 S H rfl rfl) fun a S => ?_
 refine gy rfl rfl rfl S (y_eqs rfl Tryd.underlying9 S rfl rfl) fun a S => ?_
 refine ga S fun a S => ?_
 refine gnt ?_
 have S := S.nil.cons S 3 rfl
 refine g_ret ?_
 refine ret1 rfl S rfl ?_
 exact ⟨rfl, H.toExt⟩
/-- foyer/title.used -/
theorem used_spec (t : TV) (key : ByteArray) (w0 : World) (ht : TOk w0 t) :
    Ret Tryd.prog 12 #[.agg (encT t).toArray, .string key] w0 (fun u w => u = .bool (usedB t key) ∧ Ext w0 w) := by
 refine ret_of_wp (nt := 15) Tryd.func12 rfl rfl rfl (fl := [(0, .agg (encT t).toArray), (1, .string key)]) rfl (fun a S => ?_)
 have H := HSat.start w0
 have H := H.ro0 (Sl t.cv 2 encX t.chain) rfl (ht.sl)
 have H := H.ro0 (CapA t.cv) rfl (ht.cap)
 have H := H.ro0 (XRows t.chain) rfl (ht.rows)
 have hlen := ht.sl.len
 refine gsr ?_
 refine wl_of (op_boxa (wn rfl) rfl rfl rfl S H rfl fun b2 a w S H => ?_)
 refine wl_of (op_box1 (wn rfl) rfl rfl rfl S H rfl rfl fun b3 a w S H => ?_)
 refine ga S fun a S => ?_
 refine gnt ?_
 refine gsr ?_
 refine gy rfl rfl rfl S (y_faddrb rfl Ffo24_3 S rfl) fun a S => ?_
 refine gy rfl rfl rfl S (y_load rfl Fsca9 S H rfl rfl) fun a S => ?_
 refine gy rfl rfl rfl S (y_load rfl Fsca9 S H rfl rfl) fun a S => ?_
 refine gy rfl rfl rfl S (y_eqs rfl Tryd.underlying9 S rfl rfl) fun a S => ?_
 refine gm S fun a S => ?_
 refine' wl_or 4 9 rfl S H rfl rfl rfl rfl rfl rfl rfl (fun _ S => (wn rfl)) (fun h1 kk => ?yh1) (fun a w S H => ?_)
 case yh1 =>
  have h1p := h1; try simp only [DL] at h1p
  refine gz 9 h1 S rfl rfl rfl rfl rfl rfl (y_faddrb rfl Ffo24_4 S rfl) fun a S => ?_
  refine gz 9 h1 S rfl rfl rfl rfl rfl rfl (y_load rfl Fsca22 S H rfl rfl) fun a S => ?_
  refine gz 9 h1 S rfl rfl rfl rfl rfl rfl (y_makeFunc rfl S rfl rfl) fun a S => ?_
  refine wl_of (op_call (wg' 9 rfl rfl S rfl h1 rfl) rfl rfl S (co_func rfl Tryd.call34 S rfl) (containsX_spec _ t.chain 35 [.pointer (some ⟨b3, 0, none⟩)] Tryd.call35 (fun x => decide (x.to = key)) _ (H.sl t.cv) (fun x hx w e => used1_spec x b3 key w ((e.block (Array.getElem?_eq_some_iff.1 (H.rd b3)).1).trans (H.rd b3)))) fun v w hc a S => ?_)
  obtain ⟨rfl, he⟩ := hc
  have H := H.ext he
  refine gy rfl rfl rfl S (y_or' rfl h1 S rfl rfl) fun a S => ?_
  exact kk _ _ (S.join 5 14 rfl rfl) H
 refine ga S fun a S => ?_
 refine gnt ?_
 have S := S.nil.cons S 4 rfl
 refine g_ret ?_
 refine ret1 rfl S rfl ?_
 exact ⟨rfl, H.toExt⟩
set_option maxHeartbeats 1000000 in
/-- foyer/title.Message -/
theorem message_spec (t : TV) (to : ByteArray) (w0 : World) (ht : TOk w0 t) (hz : TSz t) (hto : to.size ≤ 1000) (hT : Tabs w0) :
    Ret Tryd.prog 15 #[.agg (encT t).toArray, .string to] w0 (fun u w => u = .string (msgS t to) ∧ Ext w0 w) := by
 refine ret_of_wp (nt := 35) Tryd.func15 rfl rfl rfl (fl := [(0, .agg (encT t).toArray), (1, .string to)]) rfl (fun a S => ?_)
 have H := HSat.start w0
 have H := H.ro0 (TabsA) rfl (hT)
 have H := H.ro0 (Sl t.cv 2 encX t.chain) rfl (ht.sl)
 have H := H.ro0 (CapA t.cv) rfl (ht.cap)
 have H := H.ro0 (XRows t.chain) rfl (ht.rows)
 have hlen := ht.sl.len
 refine gsr ?_
 refine wl_of (op_boxa (wn rfl) rfl rfl rfl S H rfl fun b2 a w S H => ?_)
 refine ga S fun a S => ?_
 refine gnt ?_
 refine g_seq ?_
 refine region_st (loud := [8]) (tails := []) (free := []) [0, 1, 2, 3, 4, 5, 6, 7, 8, 9] [] Fmo (by kernel_rfl) (by kernel_rfl) rfl H ?_
 refine m_w rfl rfl (wn rfl) rfl rfl S (fun w H => y_faddrb rfl Ffo24_0 S rfl) fun a S => ?_
 refine m_w rfl rfl (wn rfl) rfl rfl S (fun w H => y_load rfl Fsca3 S H rfl rfl) fun a S => ?_
 refine m_c rfl rfl (wn rfl) rfl rfl S (fun w => co_func rfl Tryd.call37 S rfl) (fun w H => itoa_t t.serial hz.s0.1 hz.s0.2 _ H.tabs) fun a S => ?_
 refine m_w rfl rfl (wn rfl) rfl rfl S (fun w H => y_faddrb rfl Ffo24_1 S rfl) fun a S => ?_
 refine m_w rfl rfl (wn rfl) rfl rfl S (fun w H => y_load rfl Fsca3 S H rfl rfl) fun a S => ?_
 refine m_c rfl rfl (wn rfl) rfl rfl S (fun w => co_func rfl Tryd.call37 S rfl) (fun w H => itoa_t t.show_ hz.s1.1 hz.s1.2 _ H.tabs) fun a S => ?_
 refine m_w rfl rfl (wn rfl) rfl rfl S (fun w H => y_faddrb rfl Ffo24_3 S rfl) fun a S => ?_
 refine m_w rfl rfl (wn rfl) rfl rfl S (fun w H => y_load rfl Fsca9 S H rfl rfl) fun a S => ?_
 refine m_l rfl rfl (fun w H => op_buildSlice (wn rfl) rfl rfl rfl Tryd.underlying30 Finf9 S H (idx := [0, 1, 2]) rfl rfl rfl (z := [.string ⟨#[]⟩, .string ⟨#[]⟩, .string ⟨#[]⟩]) (by kernel_rfl) (cs := [.string (itoaS t.serial), .string (itoaS t.show_), .string t.first]) rfl fun b16 a w S H => m_next H (List.sublist_cons_self _ _) ?_)
 refine m_w rfl rfl (wn rfl) rfl rfl S (fun w H => y_assign rfl S rfl) fun a S => ?_
 refine m_nil (fun w H => ?_)
 refine n_then ?_
 have S := (((S.nil.cons S 1 rfl).cons S 2 rfl).cons S 4 rfl).cons S 5 rfl
 refine g_seq ?_
 refine gsr ?_
 refine gy rfl rfl rfl S (y_faddrb rfl Ffo24_4 S rfl) fun a S => ?_
 refine gy rfl rfl rfl S (y_load rfl Fsca22 S H rfl rfl) fun a S => ?_
 refine gy rfl rfl rfl S (y_lens rfl Tryd.underlying22 S H rfl) fun a S => ?_
 refine gm S fun a S => ?_
 refine gnt ?_
 refine g_block ?_
 have H := ((H.take [Cel b16 9 [.string (itoaS t.serial), .string (itoaS t.show_), .string t.first], Cel b2 24 (encT t), Sl t.cv 2 encX t.chain, CapA t.cv, XRows t.chain, TabsA]).celO [itoaS t.serial, itoaS t.show_, t.first] encS 1 (m := 3) rfl (by intro x _; rfl) rfl (by omega)).take [OSl 9 (.slice (some ⟨b16, 0, none⟩) 3 3) 1 encS [itoaS t.serial, itoaS t.show_, t.first], Cel b2 24 (encT t), Sl t.cv 2 encX t.chain, CapA t.cv, XRows t.chain, TabsA]
 have SU := (((S.nil.cons S 1 rfl).cons S 4 rfl).cons S 18 rfl).cons S 19 rfl
 refine loopW (X := Nat × Value) SU (fun x => [(20, .int .i64 (x.1 : Int)), (5, x.2)]) (fun x w => x.1 ≤ t.chain.length ∧ HSat No w0 [OSl 9 x.2 1 encS ([itoaS t.serial, itoaS t.show_, t.first] ++ (t.chain.take (x.1)).map (·.to)), Cel b2 24 (encT t), Sl t.cv 2 encX t.chain, CapA t.cv, XRows t.chain, TabsA] w) (fun x => t.chain.length - x.1) (0, .slice (some ⟨b16, 0, none⟩) 3 3) ((S.nil.cons S 5 rfl).cons S 20 rfl) (⟨by simp, H⟩) (fun x a w S hW => ?_)
 simp only [List.cons_append, List.nil_append] at S
 obtain ⟨k, u⟩ := x
 obtain ⟨hk, H⟩ := hW
 dsimp only at S H hk
 refine gsr ?_
 refine gy rfl rfl rfl S (y_bin rfl S rfl rfl rfl) fun a S => ?_
 refine gnt ?_
 refine g_seq ?_
 refine c_if S rfl (fun h1 => ?_) (fun h1 => ?_)
 ·have h1p := h1; try simp only [DL] at h1p
  refine g_skip ?_
  refine n_then ?_
  refine g_seq ?_
  refine g_block ?_
  refine gsr ?_
  refine gy rfl rfl rfl S (y_iaddrn rfl Tryd.underlying22 Fsiz32 S H rfl rfl (by first | assumption | omega | (simp only [LL]; omega))) fun a S => ?_
  refine gy rfl rfl rfl S (y_loadsa _ rfl S H rfl (by exact Fagg32) (by first | assumption | omega | (simp only [LL]; omega))) fun a S => ?_
  refine wl_of (op_alloc (wn rfl) rfl rfl rfl S H Fzer32 fun b7 a w S H => ?_)
  refine wl_of (op_storea (wn rfl) rfl rfl S H rfl rfl (encX_one (w := w) (H.sl1 t.chain[k].sv)) Fsiz32 rfl (cs' := [_, _]) rfl fun a w S H => ?_)
  refine gnt ?_
  refine g_region ?_
  refine gm S fun a S => ?_
  refine gy rfl rfl rfl S (y_faddrb rfl Ffo32_0 S rfl) fun a S => ?_
  refine gy rfl rfl rfl S (y_load rfl Fsca9 S H rfl rfl) fun a S => ?_
  refine wl_of (op_buildSlice (wn rfl) rfl rfl rfl Tryd.underlying30 Finf9 S H (idx := [0]) rfl rfl rfl (z := [.string ⟨#[]⟩]) (by kernel_rfl) (cs := [_]) rfl fun b27 a w S H => ?_)
  refine wl_of (op_append ([t.chain[k].to]) (wn rfl) rfl rfl rfl Tryd.underlying30 Finf9 rfl rfl S H rfl rfl rfl rfl (by simp) (by simp [encS]) (by simp [encS, Value.oneCell']) (by simp only [List.length_append, List.length_cons, List.length_nil, List.length_map, List.length_take]; have := hz.len; omega) (by simp only [List.length_append, List.length_cons, List.length_nil, List.length_map, List.length_take]; have := hz.len; omega) fun u28 a w hn28 S H => ?_)
  have e28 : ([itoaS t.serial, itoaS t.show_, t.first] ++ (t.chain.take (k)).map (·.to)) ++ [t.chain[k].to] = ([itoaS t.serial, itoaS t.show_, t.first] ++ (t.chain.take (k + 1)).map (·.to)) := by rw [List.take_succ_eq_append_getElem (by omega), List.map_append, List.append_assoc]; rfl
  rw [e28] at H
  refine ga S fun a S => ?_
  refine gl_nil ?_
  refine n_block ?_
  refine n_then ?_
  have S := (((((S.nil.cons S 1 rfl).cons S 4 rfl).cons S 18 rfl).cons S 19 rfl).cons S 20 rfl).cons S 5 rfl
  refine g_region ?_
  refine gy rfl rfl rfl S (y_add rfl S rfl rfl (by omega)) fun a S => ?_
  refine gm S fun a S => ?_
  refine gnt ?_
  exact ⟨(k + 1, u28), (S.nil.cons S 5 rfl).cons S 20 rfl, (((S.nil.cons S 1 rfl).cons S 4 rfl).cons S 18 rfl).cons S 19 rfl, ⟨by dsimp only; omega, H.take [OSl 9 u28 1 encS ([itoaS t.serial, itoaS t.show_, t.first] ++ (t.chain.take (k + 1)).map (·.to)), Cel b2 24 (encT t), Sl t.cv 2 encX t.chain, CapA t.cv, XRows t.chain, TabsA]⟩, by dsimp only; omega⟩
 ·have h1p := h1; try simp only [DL] at h1p
  obtain rfl : k = t.chain.length := by omega
  rw [List.take_length] at H
  refine g_exit ?_
  refine x_then (x_then (x_eq ?_))
  refine n_then ?_
  have S := ((S.nil.cons S 1 rfl).cons S 4 rfl).cons S 5 rfl
  refine gsr ?_
  refine gm S fun a S => ?_
  refine gm S fun a S => ?_
  refine wl_of (op_buildSlice (wn rfl) rfl rfl rfl Tryd.underlying30 Finf9 S H (idx := [0]) rfl rfl rfl (z := [.string ⟨#[]⟩]) (by kernel_rfl) (cs := [_]) rfl fun b32 a w S H => ?_)
  refine wl_of (op_append ([to]) (wn rfl) rfl rfl rfl Tryd.underlying30 Finf9 rfl rfl S H rfl rfl rfl rfl (by simp) (by simp [encS]) (by simp [encS, Value.oneCell']) (by simp only [List.length_append, List.length_cons, List.length_nil, List.length_map, List.length_take]; have := hz.len; omega) (by simp only [List.length_append, List.length_cons, List.length_nil, List.length_map, List.length_take]; have := hz.len; omega) fun u33 a w hn33 S H => ?_)
  have H : HSat No w0 (_ :: OSl 9 u33 1 encS (msgL t to) :: _) w := H
  refine wl_of (op_call (wn rfl) rfl rfl S (co_func rfl Tryd.call27 S rfl) (list_t u33 (msgL t to) _ H.tabs (H.sl u33) (list_ok (msgL_size hz hto).1 (by have := (msgL_size hz hto).2; omega))) fun v w hc a S => ?_)
  obtain ⟨rfl, he⟩ := hc
  have H := H.ext he
  refine ga S fun a S => ?_
  refine gnt ?_
  have S := S.nil.cons S 4 rfl
  refine g_ret ?_
  refine ret1 rfl S rfl ?_
  exact ⟨rfl, H.toExt⟩
/-- foyer/title.identity -/
theorem identity_spec (t : TV) (w0 : World) (hz : TSz t) (hT : Tabs w0) :
    Ret Tryd.prog 16 #[.agg (encT t).toArray] w0 (fun u w => u = .agg (identV t).toArray ∧ Ext w0 w) := by
 refine ret_of_wp (nt := 12) Tryd.func16 rfl rfl rfl (fl := [(0, .agg (encT t).toArray)]) rfl (fun a S => ?_)
 have H := HSat.start w0
 have H := H.ro0 (TabsA) rfl (hT)
 refine gsr ?_
 refine wl_of (op_boxa (wn rfl) rfl rfl rfl S H rfl fun b1 a w S H => ?_)
 refine wl_of (op_alloc (wn rfl) rfl rfl rfl S H Fzer40 fun b2 a w S H => ?_)
 refine gnt ?_
 refine g_seq ?_
 refine region_st (loud := [9]) (tails := [9]) (free := []) [0, 1, 2, 3, 4, 5, 6, 7, 8, 9] [] Fmo (by kernel_rfl) (by kernel_rfl) rfl H ?_
 refine m_w rfl rfl (wn rfl) rfl rfl S (fun w H => y_faddrb rfl Ffo24_0 S rfl) fun a S => ?_
 refine m_w rfl rfl (wn rfl) rfl rfl S (fun w H => y_load rfl Fsca3 S H rfl rfl) fun a S => ?_
 refine m_c rfl rfl (wn rfl) rfl rfl S (fun w => co_func rfl Tryd.call37 S rfl) (fun w H => itoa_t t.serial hz.s0.1 hz.s0.2 _ H.tabs) fun a S => ?_
 refine m_w rfl rfl (wn rfl) rfl rfl S (fun w H => y_faddrb rfl Ffo24_1 S rfl) fun a S => ?_
 refine m_w rfl rfl (wn rfl) rfl rfl S (fun w H => y_load rfl Fsca3 S H rfl rfl) fun a S => ?_
 refine m_c rfl rfl (wn rfl) rfl rfl S (fun w => co_func rfl Tryd.call37 S rfl) (fun w H => itoa_t t.show_ hz.s1.1 hz.s1.2 _ H.tabs) fun a S => ?_
 refine m_w rfl rfl (wn rfl) rfl rfl S (fun w H => y_faddrb rfl Ffo24_3 S rfl) fun a S => ?_
 refine m_w rfl rfl (wn rfl) rfl rfl S (fun w H => y_load rfl Fsca9 S H rfl rfl) fun a S => ?_
 refine m_w rfl rfl (wn rfl) rfl rfl S (fun w H => y_buildf rfl Fbld40 S rfl (idx := [0, 1, 2]) rfl (cs := [.string (itoaS t.serial), .string (itoaS t.show_), .string t.first]) rfl) fun a S => ?_
 refine m_l rfl rfl (fun w H => op_storea (wn rfl) rfl rfl S H rfl rfl rfl Fsiz40 rfl (cs' := [_, _, _]) rfl fun a w S H => m_tail H rfl ?_)
 refine m_nil (fun w H => ?_)
 refine n_then ?_
 have S := S.nil.cons S 2 rfl
 refine g_ret ?_
 refine retc rfl S H rfl (by exact Fagg40) ?_
 exact ⟨rfl, H.toExt⟩
/-- slices.Equal[[]string,string] -/
theorem equal_spec (va vb : Value) (xs ys : List ByteArray) (w0 : World) (ha : IsSl w0 va 1 encS xs) (hb : IsSl w0 vb 1 encS ys) :
    Ret Tryd.prog 19 #[va, vb] w0 (fun u w => u = .bool (decide (xs = ys)) ∧ Ext w0 w) := by
 refine ret_of_wp (nt := 26) Tryd.func19 rfl rfl rfl (fl := [(0, va), (1, vb)]) rfl (fun a S => ?_)
 have H := HSat.start w0
 have H := H.ro0 (Sl va 1 encS xs) rfl (ha)
 have H := H.ro0 (Sl vb 1 encS ys) rfl (hb)
 have hl1 := ha.len
 refine gsr ?_
 refine ga S fun a S => ?_
 refine gnt ?_
 refine g_seq ?_
 refine gsr ?_
 refine gm S fun a S => ?_
 refine gy rfl rfl rfl S (y_lens rfl Tryd.underlying30 S H rfl) fun a S => ?_
 refine gm S fun a S => ?_
 refine gy rfl rfl rfl S (y_lens rfl Tryd.underlying30 S H rfl) fun a S => ?_
 refine gy rfl rfl rfl S (y_bin rfl S rfl rfl rfl) fun a S => ?_
 refine gnt ?_
 have S := (((S.nil.cons S 1 rfl).cons S 0 rfl).cons S 4 rfl).cons S 10 rfl
 refine c_if S rfl (fun h1 => ?_) (fun h1 => ?_)
 ·have h1p := h1; try simp only [DL] at h1p
  have hlen : xs.length ≠ ys.length := by simp at h1; omega
  refine gsr ?_
  refine ga S fun a S => ?_
  refine gnt ?_
  refine g_ret ?_
  refine r_then (ret1 rfl S rfl ?_)
  refine ⟨congrArg Value.bool ?_, H.toExt⟩
  symm; rw [decide_eq_false_iff_not]; intro e; exact hlen (by rw [e])
 ·have h1p := h1; try simp only [DL] at h1p
  have hlen : xs.length = ys.length := by simp at h1; omega
  refine g_skip ?_
  refine n_then ?_
  refine g_seq ?_
  refine gsr ?_
  refine gm S fun a S => ?_
  refine gy rfl rfl rfl S (y_lens rfl Tryd.underlying30 S H rfl) fun a S => ?_
  refine gm S fun a S => ?_
  refine gnt ?_
  refine g_block ?_
  have SU := ((S.nil.cons S 1 rfl).cons S 0 rfl).cons S 12 rfl
  refine loop_k (X := Nat) SU (fun k => [(13, .int .i64 (k : Int))]) (fun k => k ≤ xs.length ∧ ∀ j (h : j < xs.length) (h2 : j < ys.length), j < k → xs[j] = ys[j]) (fun k => xs.length - k) 0 (S.nil.cons S 13 rfl) H (⟨Nat.zero_le _, fun j _ _ h => by omega⟩) (fun k a w S H hi => ?_)
  simp only [List.cons_append, List.nil_append] at S hi
  obtain ⟨hk, he⟩ := hi
  refine gsr ?_
  refine gy rfl rfl rfl S (y_bin rfl S rfl rfl rfl) fun a S => ?_
  refine gnt ?_
  refine g_seq ?_
  refine c_if S rfl (fun h2 => ?_) (fun h2 => ?_)
  ·have h2p := h2; try simp only [DL] at h2p
   refine g_skip ?_
   refine n_then ?_
   refine g_seq ?_
   refine g_block ?_
   refine gsr ?_
   refine gm S fun a S => ?_
   refine ga S fun a S => ?_
   refine gnt ?_
   refine g_seq ?_
   refine region_st (loud := []) (tails := []) (free := []) [0, 1, 2, 3, 4, 5, 6, 7, 8] [Sl va 1 encS xs, Sl vb 1 encS ys] Fmo (by kernel_rfl) (by kernel_rfl) rfl H ?_
   refine m_w rfl rfl (wn rfl) rfl rfl S (fun w H => y_move rfl S rfl) fun a S => ?_
   refine m_w rfl rfl (wn rfl) rfl rfl S (fun w H => y_move rfl S rfl) fun a S => ?_
   refine m_w rfl rfl (wn rfl) rfl rfl S (fun w H => y_iaddrn rfl Tryd.underlying30 Fsiz9 S H rfl rfl (by first | assumption | omega | (simp only [LL]; omega))) fun a S => ?_
   refine m_loads _ rfl rfl (wn rfl) rfl rfl S rfl Fsca9 rfl (by first | assumption | omega | (simp only [LL]; omega)) rfl fun a S => ?_
   refine m_w rfl rfl (wn rfl) rfl rfl S (fun w H => y_move rfl S rfl) fun a S => ?_
   refine m_w rfl rfl (wn rfl) rfl rfl S (fun w H => y_move rfl S rfl) fun a S => ?_
   refine m_w rfl rfl (wn rfl) rfl rfl S (fun w H => y_iaddrn rfl Tryd.underlying30 Fsiz9 S H rfl rfl (by first | assumption | omega | (simp only [LL]; omega))) fun a S => ?_
   refine m_loads _ rfl rfl (wn rfl) rfl rfl S rfl Fsca9 rfl (by first | assumption | omega | (simp only [LL]; omega)) rfl fun a S => ?_
   refine m_w rfl rfl (wn rfl) rfl rfl S (fun w H => y_nes rfl Tryd.underlying9 S rfl rfl) fun a S => ?_
   refine m_nil (fun w H => ?_)
   refine n_then ?_
   have S := ((((S.nil.cons S 1 rfl).cons S 0 rfl).cons S 12 rfl).cons S 13 rfl).cons S 24 rfl
   refine c_if S rfl (fun h3 => ?_) (fun h3 => ?_)
   ·have h3p := h3; try simp only [DL] at h3p
    refine gsr ?_
    refine ga S fun a S => ?_
    refine gnt ?_
    refine g_ret ?_
    refine r_block (r_then (r_then (r_block (r_then (ret1 rfl S rfl ?_)))))
    refine ⟨congrArg Value.bool ?_, H.toExt⟩
    symm; rw [decide_eq_false_iff_not]; intro e; subst e; simp at h3
   ·have h3p := h3; try simp only [DL] at h3p
    refine g_skip ?_
    refine n_block ?_
    refine n_then ?_
    refine g_region ?_
    refine gy rfl rfl rfl S (y_add rfl S rfl rfl (by omega)) fun a S => ?_
    refine gm S fun a S => ?_
    refine gnt ?_
    exact ⟨k + 1, S.nil.cons S 13 rfl, ((S.nil.cons S 1 rfl).cons S 0 rfl).cons S 12 rfl, H, ⟨by omega, fun j h8 h9 hj => by by_cases hjk : j < k; exact he j h8 h9 hjk; (obtain rfl : j = k := by omega); simpa using h3⟩, by omega⟩
  ·have h2p := h2; try simp only [DL] at h2p
   refine g_exit ?_
   refine x_then (x_then (x_eq ?_))
   refine n_then ?_
   have S := S.nil
   refine gsr ?_
   refine ga S fun a S => ?_
   refine gnt ?_
   refine g_ret ?_
   refine ret1 rfl S rfl ?_
   refine ⟨congrArg Value.bool ?_, H.toExt⟩
   symm; rw [decide_eq_true_eq]
   exact List.ext_getElem hlen (fun j h1 h2 => he j h1 h2 (by have := h2p; omega))
/-- foyer/title.Extends$1 -/
theorem ext1_spec (x y : XV) (w0 : World) (hx : IsSl w0 x.sv 1 encS x.sig) (hy : IsSl w0 y.sv 1 encS y.sig) :
    Ret Tryd.prog 18 #[.agg (encX x).toArray, .agg (encX y).toArray] w0 (fun u w => u = .bool (decide (xf x = xf y)) ∧ Ext w0 w) := by
 refine ret_of_wp (nt := 17) Tryd.func18 rfl rfl rfl (fl := [(0, .agg (encX x).toArray), (1, .agg (encX y).toArray)]) rfl (fun a S => ?_)
 have H := HSat.start w0
 have H := H.ro0 (Sl x.sv 1 encS x.sig) rfl (hx)
 have H := H.ro0 (Sl y.sv 1 encS y.sig) rfl (hy)
 refine gsr ?_
 refine wl_of (op_boxa (wn rfl) rfl rfl rfl S H rfl fun b2 a w S H => ?_)
 refine wl_of (op_boxa (wn rfl) rfl rfl rfl S H rfl fun b3 a w S H => ?_)
 refine ga S fun a S => ?_
 refine gnt ?_
 refine gsr ?_
 refine gy rfl rfl rfl S (y_faddrb rfl Ffo32_0 S rfl) fun a S => ?_
 refine gy rfl rfl rfl S (y_load rfl Fsca9 S H rfl rfl) fun a S => ?_
 refine gy rfl rfl rfl S (y_faddrb rfl Ffo32_0 S rfl) fun a S => ?_
 refine gy rfl rfl rfl S (y_load rfl Fsca9 S H rfl rfl) fun a S => ?_
 refine gy rfl rfl rfl S (y_eqs rfl Tryd.underlying9 S rfl rfl) fun a S => ?_
 refine gm S fun a S => ?_
 refine' wl_and 5 10 rfl S H rfl rfl rfl rfl rfl rfl rfl (fun _ S => (wn rfl)) (fun h1 kk => ?yh1) (fun a w S H => ?_)
 case yh1 =>
  have h1p := h1; try simp only [DL] at h1p
  refine gz 10 h1 S rfl rfl rfl rfl rfl rfl (y_faddrb rfl Ffo32_1 S rfl) fun a S => ?_
  refine gz 10 h1 S rfl rfl rfl rfl rfl rfl (y_load rfl Fsca30 S H rfl rfl) fun a S => ?_
  refine gz 10 h1 S rfl rfl rfl rfl rfl rfl (y_faddrb rfl Ffo32_1 S rfl) fun a S => ?_
  refine gz 10 h1 S rfl rfl rfl rfl rfl rfl (y_load rfl Fsca30 S H rfl rfl) fun a S => ?_
  refine wl_of (op_call (wg' 10 rfl rfl S rfl h1 rfl) rfl rfl S (co_func rfl Tryd.call19 S rfl) (equal_spec x.sv y.sv x.sig y.sig _ (H.sl x.sv) (H.sl y.sv)) fun v w hc a S => ?_)
  obtain ⟨rfl, he⟩ := hc
  have H := H.ext he
  refine gy rfl rfl rfl S (y_and' rfl h1 S rfl rfl) fun a S => ?_
  exact kk _ _ (S.join 6 16 rfl rfl) H
 refine ga S fun a S => ?_
 refine gnt ?_
 have S := S.nil.cons S 4 rfl
 refine g_ret ?_
 refine ret1 rfl S rfl ?_
 refine ⟨congrArg Value.bool ?_, H.toExt⟩
 rw [Bool.eq_iff_iff]; simp [xf]
set_option maxHeartbeats 1000000 in
/-- slices.EqualFunc[[]foyer/api.Transfer,[]foyer/api.Transfer,foyer/api.Transfer,foyer/api.Transfer] -/
theorem equalX_spec (va vb : Value) (xs ys : List XV) (w0 : World) (ha : IsSl w0 va 2 encX xs) (hb : IsSl w0 vb 2 encX ys) (ra : ∀ x ∈ xs, IsSl w0 x.sv 1 encS x.sig) (rb : ∀ x ∈ ys, IsSl w0 x.sv 1 encS x.sig) :
    Ret Tryd.prog 17 #[va, vb, .func (.func 18) #[] #[]] w0 (fun u w => u = .bool (decide (xs.map xf = ys.map xf)) ∧ Ext w0 w) := by
 refine ret_of_wp (nt := 32) Tryd.func17 rfl rfl rfl (fl := [(0, va), (1, vb), (2, .func (.func 18) #[] #[])]) rfl (fun a S => ?_)
 have H := HSat.start w0
 have H := H.ro0 (Sl va 2 encX xs) rfl (ha)
 have H := H.ro0 (Sl vb 2 encX ys) rfl (hb)
 have H := H.ro0 (XRows xs) rfl (ra)
 have H := H.ro0 (XRows ys) rfl (rb)
 have hl1 := ha.len
 refine gsr ?_
 refine ga S fun a S => ?_
 refine gnt ?_
 refine g_seq ?_
 refine gsr ?_
 refine gm S fun a S => ?_
 refine gy rfl rfl rfl S (y_lens rfl Tryd.underlying22 S H rfl) fun a S => ?_
 refine gm S fun a S => ?_
 refine gy rfl rfl rfl S (y_lens rfl Tryd.underlying22 S H rfl) fun a S => ?_
 refine gy rfl rfl rfl S (y_bin rfl S rfl rfl rfl) fun a S => ?_
 refine gnt ?_
 have S := ((((S.nil.cons S 2 rfl).cons S 1 rfl).cons S 0 rfl).cons S 6 rfl).cons S 14 rfl
 refine c_if S rfl (fun h1 => ?_) (fun h1 => ?_)
 ·have h1p := h1; try simp only [DL] at h1p
  have hlen : xs.length ≠ ys.length := by simp at h1; omega
  refine gsr ?_
  refine ga S fun a S => ?_
  refine gnt ?_
  refine g_ret ?_
  refine r_then (ret1 rfl S rfl ?_)
  refine ⟨congrArg Value.bool ?_, H.toExt⟩
  symm; rw [decide_eq_false_iff_not]; intro e; exact hlen (by have := congrArg List.length e; simpa using this)
 ·have h1p := h1; try simp only [DL] at h1p
  have hlen : xs.length = ys.length := by simp at h1; omega
  refine g_skip ?_
  refine n_then ?_
  refine g_seq ?_
  refine gsr ?_
  refine gm S fun a S => ?_
  refine gy rfl rfl rfl S (y_lens rfl Tryd.underlying22 S H rfl) fun a S => ?_
  refine gm S fun a S => ?_
  refine gnt ?_
  refine g_block ?_
  have SU := (((S.nil.cons S 2 rfl).cons S 1 rfl).cons S 15 rfl).cons S 16 rfl
  refine loop_k (X := Nat) SU (fun k => [(17, .int .i64 (k : Int))]) (fun k => k ≤ xs.length ∧ ∀ j (h : j < xs.length) (h2 : j < ys.length), j < k → xf xs[j] = xf ys[j]) (fun k => xs.length - k) 0 (S.nil.cons S 17 rfl) H (⟨Nat.zero_le _, fun j _ _ h => by omega⟩) (fun k a w S H hi => ?_)
  simp only [List.cons_append, List.nil_append] at S hi
  obtain ⟨hk, hq⟩ := hi
  refine gsr ?_
  refine gy rfl rfl rfl S (y_bin rfl S rfl rfl rfl) fun a S => ?_
  refine gnt ?_
  refine g_seq ?_
  refine c_if S rfl (fun h2 => ?_) (fun h2 => ?_)
  ·have h2p := h2; try simp only [DL] at h2p
   have hkx : k < xs.length := by omega
   have hky : k < ys.length := by omega
   refine g_skip ?_
   refine n_then ?_
   refine g_seq ?_
   refine g_block ?_
   refine gsr ?_
   refine gm S fun a S => ?_
   refine gy rfl rfl rfl S (y_iaddrn rfl Tryd.underlying22 Fsiz32 S H rfl rfl (by first | assumption | omega | (simp only [LL]; omega))) fun a S => ?_
   refine gy rfl rfl rfl S (y_loadsa _ rfl S H rfl (by exact Fagg32) (by first | assumption | omega | (simp only [LL]; omega))) fun a S => ?_
   refine wl_of (op_alloc (wn rfl) rfl rfl rfl S H Fzer32 fun b8 a w S H => ?_)
   refine ga S fun a S => ?_
   refine wl_of (op_storea (wn rfl) rfl rfl S H rfl rfl (encX_one (w := w) (H.sl1 xs[k].sv)) Fsiz32 rfl (cs' := [_, _]) rfl fun a w S H => ?_)
   refine gnt ?_
   have S := ((((((S.nil.cons S 2 rfl).cons S 1 rfl).cons S 15 rfl).cons S 16 rfl).cons S 17 rfl).cons S 8 rfl).cons S 7 rfl
   refine gsr ?_
   refine gm S fun a S => ?_
   refine gm S fun a S => ?_
   refine gy rfl rfl rfl S (y_iaddrn rfl Tryd.underlying22 Fsiz32 S H rfl rfl (by first | assumption | omega | (simp only [LL]; omega))) fun a S => ?_
   refine gy rfl rfl rfl S (y_loadsa _ rfl S H rfl (by exact Fagg32) (by first | assumption | omega | (simp only [LL]; omega))) fun a S => ?_
   refine wl_of (op_alloc (wn rfl) rfl rfl rfl S H Fzer32 fun b9 a w S H => ?_)
   refine wl_of (op_storea (wn rfl) rfl rfl S H rfl rfl (encX_one (w := w) (H.sl1 ys[k].sv)) Fsiz32 rfl (cs' := [_, _]) rfl fun a w S H => ?_)
   refine gnt ?_
   have S := ((((((S.nil.cons S 2 rfl).cons S 1 rfl).cons S 15 rfl).cons S 16 rfl).cons S 17 rfl).cons S 8 rfl).cons S 9 rfl
   refine gsr ?_
   refine gm S fun a S => ?_
   refine gy rfl rfl rfl S (y_load0 rfl S H rfl (by exact Fagg32)) fun a S => ?_
   refine gy rfl rfl rfl S (y_load0 rfl S H rfl (by exact Fagg32)) fun a S => ?_
   refine wl_of (op_call (wn rfl) rfl rfl S (co_value rfl Tryd.call18 S rfl rfl) (ext1_spec xs[k] ys[k] _ (H.sl xs[k].sv) (H.sl ys[k].sv)) fun v w hc a S => ?_)
   obtain ⟨rfl, he⟩ := hc
   have H := H.ext he
   refine gy rfl rfl rfl S (y_not rfl S rfl) fun a S => ?_
   refine gnt ?_
   have S := (((((S.nil.cons S 2 rfl).cons S 1 rfl).cons S 15 rfl).cons S 16 rfl).cons S 17 rfl).cons S 30 rfl
   refine c_if S rfl (fun h3 => ?_) (fun h3 => ?_)
   ·have h3p := h3; try simp only [DL] at h3p
    refine gsr ?_
    refine ga S fun a S => ?_
    refine gnt ?_
    refine g_ret ?_
    refine r_block (r_then (r_then (r_block (r_then (ret1 rfl S rfl ?_)))))
    refine ⟨congrArg Value.bool ?_, H.toExt⟩
    symm; rw [decide_eq_false_iff_not]; intro e
    have e2 := congrArg (fun l => l[k]?) e
    simp only [List.getElem?_map, List.getElem?_eq_getElem hkx, List.getElem?_eq_getElem hky, Option.map_some, Option.some.injEq] at e2
    simp [e2] at h3
   ·have h3p := h3; try simp only [DL] at h3p
    refine g_skip ?_
    refine n_block ?_
    refine n_then ?_
    refine g_region ?_
    refine gy rfl rfl rfl S (y_add rfl S rfl rfl (by omega)) fun a S => ?_
    refine gm S fun a S => ?_
    refine gnt ?_
    exact ⟨k + 1, S.nil.cons S 17 rfl, (((S.nil.cons S 2 rfl).cons S 1 rfl).cons S 15 rfl).cons S 16 rfl, H.drop 2, ⟨by omega, fun j h8 h9 hj => by by_cases hjk : j < k; exact hq j h8 h9 hjk; (obtain rfl : j = k := by omega); simpa using h3⟩, by omega⟩
  ·have h2p := h2; try simp only [DL] at h2p
   refine g_exit ?_
   refine x_then (x_then (x_eq ?_))
   refine n_then ?_
   have S := S.nil
   refine gsr ?_
   refine ga S fun a S => ?_
   refine gnt ?_
   refine g_ret ?_
   refine ret1 rfl S rfl ?_
   refine ⟨congrArg Value.bool ?_, H.toExt⟩
   symm; rw [decide_eq_true_eq]
   exact List.ext_getElem (by simpa using hlen) (fun j h1 h2 => by simp only [List.getElem_map]; simp only [List.length_map] at h1 h2; exact hq j h1 h2 (by have := h2p; omega))
end Go.Proofs.YtngocpdmlijnfaaDoor
