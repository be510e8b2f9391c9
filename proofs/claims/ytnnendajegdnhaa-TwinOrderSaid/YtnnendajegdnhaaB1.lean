/- The walks. No condition. -/
import Derived.Test.YtnnendajegdnhaaChecked
import Derived.Test.YtnnendajegdnhaaGwBits
import Derived.Test.YtnnendajegdnhaaFacts
import Derived.Test.YtnnendajegdnhaaPlain
import Derived.Test.YtnnendajegdnhaaPlainP
namespace Go.Proofs.Ytnnendajegdnhaa
open Go Go.Gw
set_option linter.unusedVariables false
set_option linter.unusedSimpArgs false
/-- foyer/better.worth -/
theorem worth_spec (p : Pl) (w0 : World) :
    Ret Try.prog 82 #[.agg (Pl.enc p).toArray] w0 (fun v w => v = .agg (worthL p).toArray ∧ Ext w0 w) := by
 refine ret_of_wp (nt := 13) Try.func82 rfl rfl rfl (fl := [(0, .agg (Pl.enc p).toArray)]) rfl (fun a S => ?_)
 have H := HSat.start w0
 refine gsr ?_
 refine wl_of (op_boxa (wn rfl) rfl rfl rfl S H rfl fun b1 a w S H => ?_)
 refine wl_of (op_alloc (wn rfl) rfl rfl rfl S H Fzer144 fun b2 a w S H => ?_)
 refine gnt ?_
 refine gsr ?_
 refine ga S fun a S => ?_
 refine gnt ?_
 refine g_seq ?_
 refine gsr ?_
 refine gy rfl rfl rfl S (y_faddrb rfl Ffo85_8 S rfl) fun a S => ?_
 refine gy rfl rfl rfl S (y_load rfl Fsca3 S H rfl rfl) fun a S => ?_
 refine gy rfl rfl rfl S (y_bin rfl S rfl rfl rfl) fun a S => ?_
 refine gnt ?_
 refine cut (fun a w => ∃ b1 b2, St 13 [(1, .pointer (some ⟨b1, 0, none⟩)), (2, .pointer (some ⟨b2, 0, none⟩)), (3, .int .i64 (if p.with_ < 0 then 1 else 0))] a ∧ HSat No w0 [Cel b2 144 [.int .i64 0, .int .i64 0, .int .i64 0], Cel b1 85 (Pl.enc p)] w) ?_ ?_
 ·skip
  refine c_if S rfl (fun h1 => ?_) (fun h1 => ?_)
  ·have h1p := h1; try simp only [DL] at h1p
   refine g_region ?_
   refine ga S fun a S => ?_
   refine gnt ?_
   exact ⟨_, _, ((S.nil.cons S 3 (by simp [List.lookup, h1p])).cons S 2 rfl).cons S 1 rfl, H⟩
  ·have h1p := h1; try simp only [DL] at h1p
   refine g_skip ?_
   refine n_then ?_
   exact ⟨_, _, ((S.nil.cons S 3 (by simp [List.lookup, h1p])).cons S 2 rfl).cons S 1 rfl, H⟩
 rintro a w ⟨b1, b2, S, H⟩
 refine gsr ?_
 refine gy rfl rfl rfl S (y_faddrb rfl Ffo85_7 S rfl) fun a S => ?_
 refine gy rfl rfl rfl S (y_load rfl Fsca3 S H rfl rfl) fun a S => ?_
 refine gy rfl rfl rfl S (y_faddrb rfl Ffo85_1 S rfl) fun a S => ?_
 refine gy rfl rfl rfl S (y_load rfl Fsca3 S H rfl rfl) fun a S => ?_
 refine gm S fun a S => ?_
 refine gy rfl rfl rfl S (y_buildf rfl Fbld144 S rfl (idx := [0, 1, 2]) rfl (cs := [_, _, _]) rfl) fun a S => ?_
 refine wl_of (op_storea (wn rfl) rfl rfl S H rfl rfl rfl Fsiz144 rfl (cs' := [_, _, _]) rfl fun a w S H => ?_)
 refine gnt ?_
 have S := S.nil.cons S 2 rfl
 refine g_ret ?_
 refine retc rfl S H rfl (by exact Fagg144) ?_
 exact ⟨rfl, H.toExt⟩
/-- foyer/better.AtLeast -/
theorem atLeast_spec (p q : Pl) (w0 : World) :
    Ret Try.prog 77 #[.agg (Pl.enc p).toArray, .agg (Pl.enc q).toArray] w0 (fun v w => v = .bool (refAtLeast p q) ∧ Ext w0 w) := by
 refine ret_of_wp (nt := 28) Try.func77 rfl rfl rfl (fl := [(0, .agg (Pl.enc p).toArray), (1, .agg (Pl.enc q).toArray)]) rfl (fun a S => ?_)
 have H := HSat.start w0
 refine gsr ?_
 refine wl_of (op_boxa (wn rfl) rfl rfl rfl S H rfl fun b2 a w S H => ?_)
 refine wl_of (op_boxa (wn rfl) rfl rfl rfl S H rfl fun b3 a w S H => ?_)
 refine ga S fun a S => ?_
 refine gnt ?_
 refine g_seq ?_
 refine cut (fun a w => ∃ b5 b6, St 28 [(2, .pointer (some ⟨b2, 0, none⟩)), (3, .pointer (some ⟨b3, 0, none⟩)), (5, .pointer (some ⟨b5, 0, none⟩)), (6, .pointer (some ⟨b6, 0, none⟩))] a ∧ HSat No w0 [Cel b6 144 (worthL q), Cel b5 144 (worthL p), Cel b3 85 (Pl.enc q), Cel b2 85 (Pl.enc p)] w) ?_ ?_
 ·skip
  refine t_st (tails := [6, 7]) [] Fmo H ?_
  refine t_q 0 rfl (by kernel_rfl) (rem' := [1, 2, 3, 4, 5, 6, 7]) rfl rfl rfl rfl S (fun w H => y_load0 rfl S H rfl (by exact Fagg85)) fun a S => ?_
  refine t_c 1 rfl (by kernel_rfl) (rem' := [2, 3, 4, 5, 6, 7]) rfl rfl rfl rfl S (fun w => co_func rfl Try.call82 S rfl) (fun w H => worth_spec _ _) fun a S => ?_
  refine t_q 2 rfl (by kernel_rfl) (rem' := [3, 4, 5, 6, 7]) rfl rfl rfl rfl S (fun w H => y_load0 rfl S H rfl (by exact Fagg85)) fun a S => ?_
  refine t_c 3 rfl (by kernel_rfl) (rem' := [4, 5, 6, 7]) rfl rfl rfl rfl S (fun w => co_func rfl Try.call82 S rfl) (fun w H => worth_spec _ _) fun a S => ?_
  refine t_b [4, 5] (by kernel_rfl) rfl (fa2 ?_ ?_)
  ·refine ⟨_, rfl, fun w H => ?_⟩
   refine op_alloc (wn rfl) rfl rfl rfl S H Fzer144 fun b5 a w S H => ?_
   refine t_n H (rem' := [5, 6, 7]) rfl ?_
   refine t_b1 5 (by kernel_rfl) rfl fun w H => ?_
   refine op_alloc (wn rfl) rfl rfl rfl S H Fzer144 fun b6 a w S H => ?_
   refine t_n H (rem' := [6, 7]) rfl ?_
   refine t_b1 6 (by kernel_rfl) rfl fun w H => ?_
   refine op_storea (wn rfl) rfl rfl S H rfl rfl rfl Fsiz144 rfl (cs' := [_, _, _]) rfl fun a w S H => ?_
   refine t_tail H rfl (rem' := [7]) rfl ?_
   refine t_b1 7 (by kernel_rfl) rfl fun w H => ?_
   refine op_storea (wn rfl) rfl rfl S H rfl rfl rfl Fsiz144 rfl (cs' := [_, _, _]) rfl fun a w S H => ?_
   refine t_tail H rfl (rem' := []) rfl ?_
   refine t_nil (fun w H => ?_)
   exact ⟨_, _, (((S.nil.cons S 6 rfl).cons S 5 rfl).cons S 3 rfl).cons S 2 rfl, by first | exact H | exact H.perm (List.Perm.swap _ _ _)⟩
  ·refine ⟨_, rfl, fun w H => ?_⟩
   refine op_alloc (wn rfl) rfl rfl rfl S H Fzer144 fun b6 a w S H => ?_
   refine t_n H (rem' := [4, 6, 7]) rfl ?_
   refine t_b1 4 (by kernel_rfl) rfl fun w H => ?_
   refine op_alloc (wn rfl) rfl rfl rfl S H Fzer144 fun b5 a w S H => ?_
   refine t_n H (rem' := [6, 7]) rfl ?_
   refine t_b1 6 (by kernel_rfl) rfl fun w H => ?_
   refine op_storea (wn rfl) rfl rfl S H rfl rfl rfl Fsiz144 rfl (cs' := [_, _, _]) rfl fun a w S H => ?_
   refine t_tail H rfl (rem' := [7]) rfl ?_
   refine t_b1 7 (by kernel_rfl) rfl fun w H => ?_
   refine op_storea (wn rfl) rfl rfl S H rfl rfl rfl Fsiz144 rfl (cs' := [_, _, _]) rfl fun a w S H => ?_
   refine t_tail H rfl (rem' := []) rfl ?_
   refine t_nil (fun w H => ?_)
   exact ⟨_, _, (((S.nil.cons S 6 rfl).cons S 5 rfl).cons S 3 rfl).cons S 2 rfl, by first | exact H | exact H.perm (List.Perm.swap _ _ _)⟩
 rintro a w ⟨b5, b6, S, H⟩
 refine g_seq ?_
 refine gsr ?_
 refine gm S fun a S => ?_
 refine gnt ?_
 refine g_block ?_
 have SU := (((S.nil.cons S 6 rfl).cons S 5 rfl).cons S 3 rfl).cons S 2 rfl
 refine loop_k (X := Nat) SU (fun k => [(12, .int .i64 (k : Int))]) (fun k => k ≤ 3 ∧ ∀ j, j < k → (worthI p).getD j 0 ≤ (worthI q).getD j 0) (fun k => 3 - k) 0 (S.nil.cons S 12 rfl) H (⟨by omega, fun j hj => by omega⟩) (fun k a w S H hi => ?_)
 simp only [List.cons_append, List.nil_append] at S hi
 refine gsr ?_
 refine gy rfl rfl rfl S (y_bin rfl S rfl rfl rfl) fun a S => ?_
 refine gnt ?_
 refine g_seq ?_
 refine c_if S rfl (fun h1 => ?_) (fun h1 => ?_)
 ·have h1p := h1; try simp only [DL] at h1p
  refine g_skip ?_
  refine n_then ?_
  refine g_seq ?_
  refine g_block ?_
  refine gsr ?_
  refine gm S fun a S => ?_
  refine ga S fun a S => ?_
  refine gnt ?_
  refine g_seq ?_
  refine region_st (loud := []) (tails := []) (free := []) [0, 1, 2, 3, 4, 5, 6] [] Fmo (by kernel_rfl) (by kernel_rfl) rfl H ?_
  refine m_w rfl rfl (wn rfl) rfl rfl S (fun w H => y_move rfl S rfl) fun a S => ?_
  refine m_w rfl rfl (wn rfl) rfl rfl S (fun w H => y_iaddra rfl Try.underlying144 Fsiz3 S rfl rfl (by omega)) fun a S => ?_
  refine m_w rfl rfl (wn rfl) rfl rfl S (fun w H => y_load rfl Fsca3 S H rfl (getI _ _ (by omega))) fun a S => ?_
  refine m_w rfl rfl (wn rfl) rfl rfl S (fun w H => y_move rfl S rfl) fun a S => ?_
  refine m_w rfl rfl (wn rfl) rfl rfl S (fun w H => y_iaddra rfl Try.underlying144 Fsiz3 S rfl rfl (by omega)) fun a S => ?_
  refine m_w rfl rfl (wn rfl) rfl rfl S (fun w H => y_load rfl Fsca3 S H rfl (getI _ _ (by omega))) fun a S => ?_
  refine m_w rfl rfl (wn rfl) rfl rfl S (fun w H => y_bin rfl S rfl rfl rfl) fun a S => ?_
  refine m_nil (fun w H => ?_)
  refine n_then ?_
  have S := (((((S.nil.cons S 6 rfl).cons S 5 rfl).cons S 3 rfl).cons S 2 rfl).cons S 12 rfl).cons S 21 rfl
  refine c_if S rfl (fun h2 => ?_) (fun h2 => ?_)
  ·have h2p := h2; try simp only [DL] at h2p
   refine gsr ?_
   refine ga S fun a S => ?_
   refine gnt ?_
   refine g_ret ?_
   refine r_block (r_then (r_then (r_block (r_then (ret1 rfl S rfl ?_)))))
   exact ⟨congrArg _ (atLeast_no p q k (by omega) h2p), H.toExt⟩
  ·have h2p := h2; try simp only [DL] at h2p
   refine g_skip ?_
   refine n_block ?_
   refine n_then ?_
   refine g_region ?_
   refine gy rfl rfl rfl S (y_add rfl S rfl rfl (by omega)) fun a S => ?_
   refine gm S fun a S => ?_
   refine gnt ?_
   refine ⟨k + 1, S.nil.cons S 12 rfl, (((S.nil.cons S 6 rfl).cons S 5 rfl).cons S 3 rfl).cons S 2 rfl, H, ?_, ?_⟩
   · exact ⟨by omega, fun j hj => by by_cases hjk : j < k; exact hi.2 j hjk; (obtain rfl : j = k := by omega); exact h2p⟩
   · omega
 ·have h1p := h1; try simp only [DL] at h1p
  refine g_exit ?_
  refine x_then (x_then (x_eq ?_))
  refine n_then ?_
  have S := (S.nil.cons S 3 rfl).cons S 2 rfl
  refine gsr ?_
  refine gy rfl rfl rfl S (y_faddrb rfl Ffo85_0 S rfl) fun a S => ?_
  refine gy rfl rfl rfl S (y_load rfl Fsca3 S H rfl rfl) fun a S => ?_
  refine gy rfl rfl rfl S (y_faddrb rfl Ffo85_0 S rfl) fun a S => ?_
  refine gy rfl rfl rfl S (y_load rfl Fsca3 S H rfl rfl) fun a S => ?_
  refine gy rfl rfl rfl S (y_bin rfl S rfl rfl rfl) fun a S => ?_
  refine ga S fun a S => ?_
  refine gnt ?_
  have S := S.nil.cons S 4 rfl
  refine g_ret ?_
  refine ret1 rfl S rfl ?_
  exact ⟨congrArg _ (atLeast_yes p q (fun j hj => hi.2 j (by omega))), H.toExt⟩
/-- foyer/better.fitting -/
theorem fitting_spec (p : Pl) (v : Value) (next : List Pl) (w0 : World) (hv : IsSl w0 v 9 Pl.enc next) :
    Ret Try.prog 60 #[.agg (Pl.enc p).toArray, v] w0 (fun u w => ∃ b3 b2, u = .func (.func 76) #[] #[.pointer (some ⟨b3, 0, none⟩), .pointer (some ⟨b2, 0, none⟩)] ∧ HSat No w0 [Cel b3 22 [v], Cel b2 85 (Pl.enc p)] w) := by
 refine ret_of_wp (nt := 6) Try.func60 rfl rfl rfl (fl := [(0, .agg (Pl.enc p).toArray), (1, v)]) rfl (fun a S => ?_)
 have H := HSat.start w0
 have H := H.ro0 (Sl v 9 Pl.enc next) rfl (hv)
 refine gsr ?_
 refine wl_of (op_boxa (wn rfl) rfl rfl rfl S H rfl fun b2 a w S H => ?_)
 refine wl_of (op_box1 (wn rfl) rfl rfl rfl S H rfl (H.slc _) fun b3 a w S H => ?_)
 refine ga S fun a S => ?_
 refine gnt ?_
 refine gsr ?_
 refine gy rfl rfl rfl S (y_makeFunc rfl S rfl rfl) fun a S => ?_
 refine ga S fun a S => ?_
 refine gnt ?_
 have S := S.nil.cons S 4 rfl
 refine g_ret ?_
 refine ret1 rfl S rfl ?_
 exact ⟨_, _, rfl, H.take [Cel b3 22 [v], Cel b2 85 (Pl.enc p)]⟩
/-- foyer/better.fitting$1 -/
theorem fits_iter (lb b3 b2 : Nat) (p : Pl) (v : Value) (next : List Pl) (w0 : World) (J : Nat → World → Prop) (hl : next.length ≤ 1000000)
    (hJ : ∀ k w, J k w → HSat No w [Atom.ro (Cel b3 22 [v]), Atom.ro (Cel b2 85 (Pl.enc p)), Atom.ro (Sl v 9 Pl.enc next)] w) (hst : ∀ k w w', J k w → Ext w w' → J k w')
    (hround : ∀ k (h : k < next.length) w, J k w → refAtLeast next[k] p = true → YieldRet Try.prog lb #[.int .i64 (k : Int)] w (fun u w' => u = .bool true ∧ J (k + 1) w'))
    (hskip : ∀ k (h : k < next.length) w, J k w → refAtLeast next[k] p = false → J (k + 1) w) (h0 : J 0 w0) :
    Ret Try.prog 76 #[.func (.yield lb) #[] #[], .pointer (some ⟨b3, 0, none⟩), .pointer (some ⟨b2, 0, none⟩)] w0 (fun u w => J next.length w) := by
 refine ret_of_wp (nt := 23) Try.func76 rfl rfl rfl (fl := [(0, .func (.yield lb) #[] #[]), (1, .pointer (some ⟨b3, 0, none⟩)), (2, .pointer (some ⟨b2, 0, none⟩))]) rfl (fun a S => ?_)
 have H := hJ 0 w0 h0
 refine gsr ?_
 refine gy rfl rfl rfl S (y_load rfl Fsca22 S H rfl rfl) fun a S => ?_
 refine gy rfl rfl rfl S (y_lens rfl Try.underlying22 S H rfl) fun a S => ?_
 refine gm S fun a S => ?_
 refine gnt ?_
 refine g_block ?_
 have SU := (((S.nil.cons S 2 rfl).cons S 0 rfl).cons S 6 rfl).cons S 7 rfl
 refine loopW (X := Nat) SU (fun k => [(8, .int .i64 (k : Int))]) (fun k w => k ≤ next.length ∧ J k w) (fun k => next.length - k) 0 (S.nil.cons S 8 rfl) (⟨by omega, hst _ _ _ h0 H.toExt⟩) (fun k a w S hW => ?_)
 simp only [List.cons_append, List.nil_append] at S
 obtain ⟨hk, hW⟩ := hW
 have H := hJ k w hW
 refine gsr ?_
 refine gy rfl rfl rfl S (y_bin rfl S rfl rfl rfl) fun a S => ?_
 refine gnt ?_
 refine g_seq ?_
 refine c_if S rfl (fun h1 => ?_) (fun h1 => ?_)
 ·have h1p := h1; try simp only [DL] at h1p
  refine g_skip ?_
  refine n_then ?_
  refine g_seq ?_
  refine g_block ?_
  refine gsr ?_
  refine gm S fun a S => ?_
  refine gy rfl rfl rfl S (y_iaddrn rfl Try.underlying22 Fsiz85 S H rfl rfl (by first | assumption | omega | (simp only [LL]; omega))) fun a S => ?_
  refine gy rfl rfl rfl S (y_loadsa _ rfl S H rfl (by exact Fagg85) (by first | assumption | omega | (simp only [LL]; omega))) fun a S => ?_
  refine wl_of (op_alloc (wn rfl) rfl rfl rfl S H Fzer85 fun b5 a w S H => ?_)
  refine ga S fun a S => ?_
  refine wl_of (op_storea (wn rfl) rfl rfl S H rfl rfl rfl Fsiz85 rfl (cs' := [_, _, _, _, _, _, _, _, _]) rfl fun a w S H => ?_)
  refine gnt ?_
  have S := ((((((S.nil.cons S 2 rfl).cons S 0 rfl).cons S 6 rfl).cons S 7 rfl).cons S 8 rfl).cons S 5 rfl).cons S 4 rfl
  refine gsr ?_
  refine gy rfl rfl rfl S (y_load0 rfl S H rfl (by exact Fagg85)) fun a S => ?_
  refine gy rfl rfl rfl S (y_load0 rfl S H rfl (by exact Fagg85)) fun a S => ?_
  refine wl_of (op_call (wn rfl) rfl rfl S (co_func rfl Try.call77 S rfl) (atLeast_spec _ _ _) fun v w hc a S => ?_)
  obtain ⟨rfl, he⟩ := hc
  have H := H.ext he
  refine gm S fun a S => ?_
  refine' wl_andW (W := fun w => if refAtLeast next[k] p = true then J (k + 1) w else J k w) 4 16 rfl S (fun h2 => by rw [if_neg (by rw [h2]; simp)]; exact hst _ _ _ hW H.toExt) rfl rfl rfl rfl rfl rfl rfl (fun _ S => (wn rfl)) (fun h2 kk => ?yh2) (fun a w S hW => ?_)
  case yh2 =>
   have h2p := h2; try simp only [DL] at h2p
   refine gz 16 h2 S rfl rfl rfl rfl rfl rfl (y_move rfl S rfl) fun a S => ?_
   refine gz 16 h2 S rfl rfl rfl rfl rfl rfl (y_move rfl S rfl) fun a S => ?_
   refine wl_of (op_yield (wg' 16 rfl rfl S rfl h2 rfl) rfl rfl rfl S rfl rfl (hround k (by omega) _ (hst _ _ _ hW H.toExt) h2) fun u w hc a S => ?_)
   obtain ⟨rfl, hJ1⟩ := hc
   refine gz 16 h2 S rfl rfl rfl rfl rfl rfl (y_not rfl S rfl) fun a S => ?_
   refine gy rfl rfl rfl S (y_and' rfl h2 S rfl rfl) fun a S => ?_
   exact kk _ _ (S.join 5 21 rfl rfl) (by rw [if_pos h2]; exact hJ1)
  have hJ2 := hW
  refine gnt ?_
  have S := (((((S.nil.cons S 2 rfl).cons S 0 rfl).cons S 6 rfl).cons S 7 rfl).cons S 8 rfl).cons S 21 rfl
  refine c_if S rfl (fun h3 => ?_) (fun h3 => ?_)
  ·have h3p := h3; try simp only [DL] at h3p
   all_goals (
     exact absurd h3 (by simp))
  ·have h3p := h3; try simp only [DL] at h3p
   refine g_skip ?_
   refine n_block ?_
   refine n_then ?_
   refine g_region ?_
   refine gy rfl rfl rfl S (y_add rfl S rfl rfl (by omega)) fun a S => ?_
   refine gm S fun a S => ?_
   refine gnt ?_
   refine ⟨k + 1, S.nil.cons S 8 rfl, (((S.nil.cons S 2 rfl).cons S 0 rfl).cons S 6 rfl).cons S 7 rfl, ⟨by omega, ?_⟩, by omega⟩
   by_cases hal : refAtLeast next[k] p = true
   · rw [if_pos hal] at hJ2; exact hJ2
   · rw [if_neg hal] at hJ2; exact hskip k (by omega) _ hJ2 (by simpa using hal)
 ·have h1p := h1; try simp only [DL] at h1p
  obtain rfl : k = next.length := by omega
  refine g_exit ?_
  refine x_then (x_then (x_eq ?_))
  refine ret0n rfl S ?_
  exact hst _ _ _ hW H.toExt
set_option maxHeartbeats 1000000 in
/-- foyer/better.Edges -/
theorem edges_spec (v1 v2 : Value) (old next : List Pl) (w0 : World) (hv1 : IsSl w0 v1 9 Pl.enc old) (hv2 : IsSl w0 v2 9 Pl.enc next) (hl1 : old.length ≤ 100000) (hl2 : next.length ≤ 100000) :
    Ret Try.prog 46 #[v1, v2] w0 (fun u w => ∃ ps : List (Value × List Int), ps.map (·.2) = edgesL old next ∧ HSat No w0 [OSl 39 u 1 encRow ps, RowsA 3 1 encI ps] w) := by
 refine ret_of_wp (nt := 35) Try.func46 rfl rfl rfl (fl := [(0, v1), (1, v2)]) rfl (fun a S => ?_)
 have H := HSat.start w0
 have H := H.ro0 (Sl v1 9 Pl.enc old) rfl (hv1)
 have H := H.ro0 (Sl v2 9 Pl.enc next) rfl (hv2)
 refine gsr ?_
 refine ga S fun a S => ?_
 refine gnt ?_
 refine gsr ?_
 refine gm S fun a S => ?_
 refine gy rfl rfl rfl S (y_lens rfl Try.underlying22 S H rfl) fun a S => ?_
 refine wl_of (op_make (encRow (α := Int)) ((Value.slice none 0 0, [])) (wn rfl) rfl rfl rfl Try.underlying96 Finf39 rfl rfl S H rfl rfl rfl (by omega) (by omega) fun b11 a w S H => ?_)
 refine wl_of (op_alloc (wn rfl) rfl rfl rfl S H Fzer96 fun b5 a w S H => ?_)
 refine wl_of (op_store (wn rfl) rfl rfl S H rfl rfl (H.sl1 _) Fsiz96 rfl fun a w S H => ?_)
 dsimp only [List.set, Nat.zero_add, Nat.reduceAdd] at H
 refine gnt ?_
 refine g_seq ?_
 refine gsr ?_
 refine gm S fun a S => ?_
 refine gy rfl rfl rfl S (y_lens rfl Try.underlying22 S H rfl) fun a S => ?_
 have H := ((H.freeze.rowsNil 3 1 encI old.length).defs0).take [DefsA [], Atom.ro (Cel b5 96 [(.slice (some ⟨b11, 0, none⟩) old.length old.length)]), OSl 39 (.slice (some ⟨b11, 0, none⟩) old.length old.length) 1 encRow (List.replicate old.length (Value.slice none 0 0, ([] : List Int))), RowsA 3 1 encI (List.replicate old.length (Value.slice none 0 0, ([] : List Int))), Sl v2 9 Pl.enc next, Sl v1 9 Pl.enc old]
 refine gm S fun a S => ?_
 refine gnt ?_
 have S := (((((S.nil.cons S 1 rfl).cons S 4 rfl).cons S 5 rfl).cons S 12 rfl).cons S 13 rfl).cons S 14 rfl
 refine g_block ?_
 have SU := ((((S.nil.cons S 1 rfl).cons S 4 rfl).cons S 5 rfl).cons S 12 rfl).cons S 13 rfl
 refine loopD (X := Nat × List Nat) (fun x => x.2) (fun x => [(14, .int .i64 (x.1 : Int))]) (fun x w => x.1 ≤ old.length ∧ ∃ ps : List (Value × List Int), (x.1 < old.length → ps.map (·.2) = rowsAt old next x.1 []) ∧ (x.1 = old.length → ps.map (·.2) = edgesL old next) ∧ ps.length = old.length ∧ HSat No w0 [DefsA x.2, Atom.ro (Cel b5 96 [(.slice (some ⟨b11, 0, none⟩) old.length old.length)]), OSl 39 (.slice (some ⟨b11, 0, none⟩) old.length old.length) 1 encRow ps, RowsA 3 1 encI ps, Sl v2 9 Pl.enc next, Sl v1 9 Pl.enc old] w) (fun x => old.length - x.1) (0, []) SU (S.nil.cons S 14 rfl) (⟨by simp, (List.replicate old.length (Value.slice none 0 0, ([] : List Int))), fun h => by rw [List.map_replicate, rowsAt_start _ _ (List.length_pos_iff.1 h)], fun h => by rw [← h, List.length_eq_zero_iff.1 h.symm]; rfl, by simp, H⟩) (fun x a w S hW => ?_)
 simp only [List.cons_append, List.nil_append] at S
 obtain ⟨i, ds⟩ := x
 obtain ⟨hi, ps, hp1, hp2, hpl, H⟩ := hW
 dsimp only at S H hi hp1 hp2
 refine gsr ?_
 refine gy rfl rfl rfl S (y_bin rfl S rfl rfl rfl) fun a S => ?_
 refine gnt ?_
 refine g_seq ?_
 refine c_if S rfl (fun h1 => ?_) (fun h1 => ?_)
 ·have h1p := h1; try simp only [DL] at h1p
  have hps0 := hp1 (by omega)
  refine g_skip ?_
  refine n_then ?_
  refine g_seq ?_
  refine g_block ?_
  refine gsr ?_
  refine gm S fun a S => ?_
  refine gy rfl rfl rfl S (y_iaddrn rfl Try.underlying22 Fsiz85 S H rfl rfl (by first | assumption | omega | (simp only [LL]; omega))) fun a S => ?_
  refine gy rfl rfl rfl S (y_loadsa _ rfl S H rfl (by exact Fagg85) (by first | assumption | omega | (simp only [LL]; omega))) fun a S => ?_
  refine wl_of (op_alloc (wn rfl) rfl rfl rfl S H Fzer3 fun b6 a w S H => ?_)
  refine wl_of (op_alloc (wn rfl) rfl rfl rfl S H Fzer85 fun b7 a w S H => ?_)
  refine wl_of (op_store (wn rfl) rfl rfl S H rfl rfl rfl Fsiz3 rfl fun a w S H => ?_)
  dsimp only [List.set, Nat.zero_add, Nat.reduceAdd] at H
  refine wl_of (op_storea (wn rfl) rfl rfl S H rfl rfl rfl Fsiz85 rfl (cs' := [_, _, _, _, _, _, _, _, _]) rfl fun a w S H => ?_)
  refine gnt ?_
  have S := (((((((S.nil.cons S 1 rfl).cons S 4 rfl).cons S 5 rfl).cons S 12 rfl).cons S 13 rfl).cons S 14 rfl).cons S 6 rfl).cons S 7 rfl
  refine gsr ?_
  refine gy rfl rfl rfl S (y_load0 rfl S H rfl (by exact Fagg85)) fun a S => ?_
  refine gm S fun a S => ?_
  refine wl_of (op_call (wn rfl) rfl rfl S (co_func rfl Try.call60 S rfl) (fitting_spec old[i] v2 next _ (H.sl v2)) fun v w hc a S => ?_)
  obtain ⟨b3, b2, rfl, H1⟩ := hc
  have H := H.call2 H1 rfl rfl
  refine gnt ?_
  refine g_block ?_
  have H := (H.take [Cel b6 3 [.int .i64 (i : Int)], Cel b3 22 [v2], Cel b2 85 (Pl.enc old[i]), DefsA ds, Atom.ro (Cel b5 96 [(.slice (some ⟨b11, 0, none⟩) old.length old.length)]), OSl 39 (.slice (some ⟨b11, 0, none⟩) old.length old.length) 1 encRow ps, RowsA 3 1 encI ps, Sl v2 9 Pl.enc next, Sl v1 9 Pl.enc old]).freeze
  refine g_range (Φ := fun p l2 => p = none ∧ ∃ ps : List (Value × List Int), ps.map (·.2) = rowsAt old next i (fits old[i] (next.take next.length) 0) ∧ ps.length = old.length ∧ l2 = [Atom.ro (Cel b6 3 [.int .i64 (i : Int)]), Cel b3 22 [v2], Cel b2 85 (Pl.enc old[i]), Atom.ro (Cel b5 96 [(.slice (some ⟨b11, 0, none⟩) old.length old.length)]), OSl 39 (.slice (some ⟨b11, 0, none⟩) old.length old.length) 1 encRow ps, RowsA 3 1 encI ps, Sl v2 9 Pl.enc next, Sl v1 9 Pl.enc old]) S (H.front (DefsA ds)) rfl Try.call76 (fun R lb w1 hrec H1 => ?_) ?_
  ·have SR := S.recd
   refine Ret.mono (fits_iter lb b3 b2 old[i] v2 next w1 (fun k w => ∃ ps : List (Value × List Int), ps.map (·.2) = rowsAt old next i (fits old[i] (next.take (k)) 0) ∧ ps.length = old.length ∧ HSat No w0 [Blk lb (.loop R), DefsA (R.defers :: ds), Atom.ro (Cel b6 3 [.int .i64 (i : Int)]), Cel b3 22 [v2], Cel b2 85 (Pl.enc old[i]), Atom.ro (Cel b5 96 [(.slice (some ⟨b11, 0, none⟩) old.length old.length)]), OSl 39 (.slice (some ⟨b11, 0, none⟩) old.length old.length) 1 encRow ps, RowsA 3 1 encI ps, Sl v2 9 Pl.enc next, Sl v1 9 Pl.enc old] w) (by omega) (fun k w ⟨ps, _, _, H⟩ => by have h := H.reads; simp only [List.map_cons, List.map_nil] at h; exact h.take [Atom.ro (Cel b3 22 [v2]), Atom.ro (Cel b2 85 (Pl.enc old[i])), Atom.ro (Sl v2 9 Pl.enc next)]) (fun k w w' ⟨ps, h1, h2, H⟩ e => ⟨ps, h1, h2, H.ext e⟩) (fun k hk w hJ hal => ?_) (fun k hk w ⟨ps, h1, h2, H⟩ hn => ⟨ps, by rw [h1, fits_step _ _ _ hk, if_neg (by rw [hn]; simp), List.append_nil], h2, H⟩) ⟨ps, hps0, hpl, H1⟩) ?_
   ·obtain ⟨ps, hps, hpl, H⟩ := hJ
    have hrl : ps[i].2 = fits old[i] (next.take k) 0 := by
      have e := rowsAt_get old next i (fits old[i] (next.take k) 0) (by omega)
      rw [← e]; simp only [← hps, List.getElem_map]
    have hfl := fits_len old[i] (next.take k) 0
    have htl : (next.take k).length ≤ k := List.length_take_le _ _
    have hrl2 := congrArg List.length hrl
    refine yield1 hrec SR H rfl (fun a S => ?_)
    refine g_region ?_
    refine ga S fun a S => ?_
    have hir : i < ps.length := by omega
    have H := (H.front (RowsA 3 1 encI ps)).rowOut i hir
    refine gnt ?_
    refine r_begin hrec H (fun w H => ?_)
    refine g_block ?_
    refine region_st (loud := [7, 8, 10]) (tails := [8, 10]) (free := [0, 1]) [0, 1, 2, 3, 4, 5, 6, 7, 8, 9, 10] [Atom.ro (Cel b5 96 [(.slice (some ⟨b11, 0, none⟩) old.length old.length)]), Atom.ro (Cel b6 3 [.int .i64 (i : Int)])] Fmo (by kernel_rfl) (by kernel_rfl) rfl H ?_
    refine m_f rfl rfl (wn rfl) rfl rfl S (fun w H => y_load rfl Fsca96 S H rfl rfl) fun a S => ?_
    refine m_f rfl rfl (wn rfl) rfl rfl S (fun w H => y_load rfl Fsca3 S H rfl rfl) fun a S => ?_
    refine m_w rfl rfl (wn rfl) rfl rfl S (fun w H => y_load rfl Fsca96 S H rfl rfl) fun a S => ?_
    refine m_w rfl rfl (wn rfl) rfl rfl S (fun w H => y_load rfl Fsca3 S H rfl rfl) fun a S => ?_
    refine m_w rfl rfl (wn rfl) rfl rfl S (fun w H => y_iaddrn rfl Try.underlying96 Fsiz39 S H rfl rfl (by first | assumption | omega | (simp only [LL]; omega))) fun a S => ?_
    refine m_loads _ rfl rfl (wn rfl) rfl rfl S rfl Fsca39 rfl (by first | assumption | omega | (simp only [LL]; omega)) rfl fun a S => ?_
    refine m_w rfl rfl (wn rfl) rfl rfl S (fun w H => y_move rfl S rfl) fun a S => ?_
    refine m_l rfl rfl (fun w H => op_buildSlice (wn rfl) rfl rfl rfl Try.underlying39 Finf3 S H (idx := [0]) rfl rfl rfl (z := [.int .i64 0]) (by kernel_rfl) (cs := [_]) rfl fun b30 a w S H => m_next H (List.sublist_cons_self _ _) ?_)
    refine m_l rfl rfl (fun w H => op_append ([(k : Int)]) (wn rfl) rfl rfl rfl Try.underlying39 Finf3 rfl rfl S H rfl rfl rfl rfl (by simp) (by simp [encI]) (by simp [encI, Value.oneCell']) (by simp only [List.length_cons, List.length_nil]; omega) (by simp only [List.length_cons, List.length_nil]; omega) fun u31 a w hn31 S H => m_tail H rfl ?_)
    refine m_w rfl rfl (wn rfl) rfl rfl S (fun w H => y_iaddrn rfl Try.underlying96 Fsiz39 S H rfl rfl (by first | assumption | omega | (simp only [LL]; omega))) fun a S => ?_
    refine m_l rfl rfl (fun w H => op_store1 _ ((u31, ps[i].2 ++ [(k : Int)])) (wn rfl) rfl rfl S H rfl rfl (H.slc _) (H.sl1 _) Fsiz39 (by first | assumption | omega | (simp only [LL]; omega)) (by exact rfl) fun a w S H => m_tail H rfl ?_)
    refine m_nil (fun w H => ?_)
    refine n_block ?_
    refine r_end hrec H (fun w H => ?_)
    refine ⟨rfl, ps.set i (u31, ps[i].2 ++ [(k : Int)]), ?_, by simp [hpl], ?_⟩
    · rw [List.map_set, hps, hrl, rowsAt_set _ _ _ _ _ (by omega), fits_step _ _ _ hk, if_pos hal]
    · exact ((H.front2 (OSl 3 u31 1 encI (ps[i].2 ++ [(k : Int)])) (RowsA 3 1 encI (ps.eraseIdx i))).rowIn hir).take [Blk lb (.loop R), DefsA (R.defers :: ds), Atom.ro (Cel b6 3 [.int .i64 (i : Int)]), Cel b3 22 [v2], Cel b2 85 (Pl.enc old[i]), Atom.ro (Cel b5 96 [(.slice (some ⟨b11, 0, none⟩) old.length old.length)]), OSl 39 (.slice (some ⟨b11, 0, none⟩) old.length old.length) 1 encRow (ps.set i (u31, ps[i].2 ++ [(k : Int)])), RowsA 3 1 encI (ps.set i (u31, ps[i].2 ++ [(k : Int)])), Sl v2 9 Pl.enc next, Sl v1 9 Pl.enc old]
   ·rintro _ w2 ⟨ps, hps, hpl, H2⟩
    exact ⟨.ready, none, _, by simp, ⟨rfl, ps, hps, hpl, rfl⟩, by rw [hrec.same]; exact H2⟩
  ·intro bd a w pend l2 S H hΦ
   obtain ⟨rfl, ps, hps, hpl, rfl⟩ := hΦ
   rw [List.take_length] at hps
   refine n_block ?_
   refine n_block ?_
   refine n_then ?_
   have S := (((((S.nil.cons S 1 rfl).cons S 4 rfl).cons S 5 rfl).cons S 12 rfl).cons S 13 rfl).cons S 14 rfl
   refine g_region ?_
   refine gy rfl rfl rfl S (y_add rfl S rfl rfl (by omega)) fun a S => ?_
   refine gm S fun a S => ?_
   refine gnt ?_
   exact ⟨(i + 1, bd :: ds), S.nil.cons S 14 rfl, ((((S.nil.cons S 1 rfl).cons S 4 rfl).cons S 5 rfl).cons S 12 rfl).cons S 13 rfl, ⟨by dsimp only; omega, ps, fun h => by rw [hps, rowsAt_next _ _ _ h], fun h => by rw [hps, rowsAt_end _ _ _ h], hpl, H.take [DefsA (bd :: ds), Atom.ro (Cel b5 96 [(.slice (some ⟨b11, 0, none⟩) old.length old.length)]), OSl 39 (.slice (some ⟨b11, 0, none⟩) old.length old.length) 1 encRow ps, RowsA 3 1 encI ps, Sl v2 9 Pl.enc next, Sl v1 9 Pl.enc old]⟩, by dsimp only; omega⟩
 ·have h1p := h1; try simp only [DL] at h1p
  obtain rfl : i = old.length := by omega
  have hps := hp2 rfl
  refine g_exit ?_
  refine x_then (x_then (x_eq ?_))
  refine n_then ?_
  have S := (S.nil.cons S 4 rfl).cons S 5 rfl
  refine gsr ?_
  refine gy rfl rfl rfl S (y_load rfl Fsca96 S H rfl rfl) fun a S => ?_
  refine ga S fun a S => ?_
  refine gnt ?_
  refine g_ret ?_
  refine ret1M rfl S H rfl (fun w H => ?_)
  exact ⟨ps, hps, H.take [OSl 39 (.slice (some ⟨b11, 0, none⟩) old.length old.length) 1 encRow ps, RowsA 3 1 encI ps]⟩
end Go.Proofs.Ytnnendajegdnhaa
