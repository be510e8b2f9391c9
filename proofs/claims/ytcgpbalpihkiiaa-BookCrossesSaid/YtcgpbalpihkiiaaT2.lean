/- The walks. No condition. -/
import Derived.Test.YtcgpbalpihkiiaaChecked
import Derived.Test.YtcgpbalpihkiiaaGwIns
import Derived.Test.YtcgpbalpihkiiaaFacts
import Derived.Test.YtcgpbalpihkiiaaPlain
import Derived.Test.YtcgpbalpihkiiaaPlainD
import Derived.Test.YtcgpbalpihkiiaaW9
namespace Go.Proofs.Ytcgpbalpihkiiaa
open Go Go.Gw
set_option linter.unusedVariables false
set_option linter.unusedSimpArgs false
set_option maxHeartbeats 2000000 in
/-- foyer/foyerlaw33.BookCrosses -/
theorem law2 (v : Value) (ps : List Opn) (w0 : World) (hv : IsSl w0 v 6 Opn.enc ps) (hok : ∀ p ∈ ps, p.ok) :
    Ret Try.prog 4 #[v] w0 (fun u w => u = .bool true ∧ Ext w0 w) := by
 refine ret_of_wp (nt := 146) Try.func4 rfl rfl rfl (fl := [(0, v)]) rfl (fun a S => ?_)
 have H := HSat.start w0
 have H := H.ro0 (Sl v 6 Opn.enc ps) rfl (hv)
 have hlv := hv.len
 refine gsr ?_
 refine ga S fun a S => ?_
 refine gnt ?_
 refine gsr ?_
 refine wl_of (op_call (wn rfl) rfl rfl S (co_func rfl Try.call8 S rfl) (head_spec _) fun v w hc a S => ?_)
 obtain ⟨rfl, he⟩ := hc
 have H := H.ext he
 refine ga S fun a S => ?_
 refine gnt ?_
 refine g_seq ?_
 refine gsr ?_
 refine gm S fun a S => ?_
 refine gy rfl rfl rfl S (y_lens rfl Try.underlying22 S H rfl) fun a S => ?_
 refine gy rfl rfl rfl S (y_bin rfl S rfl rfl rfl) fun a S => ?_
 refine gnt ?_
 refine c_if S rfl (fun h1 => ?_) (fun h1 => ?_)
 ·have h1p := h1; try simp only [DL] at h1p
  refine gsr ?_
  refine gm S fun a S => ?_
  refine ga S fun a S => ?_
  refine gnt ?_
  have S := ((S.nil.cons S 0 rfl).cons S 3 rfl).cons S 2 rfl
  refine g_ret ?_
  refine r_then (ret1 rfl S rfl ?_)
  exact ⟨rfl, H.toExt⟩
 ·have h1p := h1; try simp only [DL] at h1p
  refine g_skip ?_
  refine n_then ?_
  have S := ((S.nil.cons S 0 rfl).cons S 2 rfl).cons S 3 rfl
  refine gsr ?_
  refine wl_of (op_call (wn rfl) rfl rfl S (co_func rfl Try.call9 S rfl) (new_at _) fun v w hc a S => ?_)
  obtain ⟨b, mb, rfl, H1⟩ := hc
  obtain ⟨vv0, hvv0⟩ : ∃ vv0, vv0 = ((.slice none 0 0, .slice none 0 0) : Value × Value) := ⟨_, rfl⟩
  rw [← hvv0] at H1
  have H := H.call1 H1 rfl
  refine ga S fun a S => ?_
  refine gnt ?_
  refine gsr ?_
  refine gm S fun a S => ?_
  refine gm S fun a S => ?_
  refine wl_of (op_call (wn rfl) rfl rfl S (co_func rfl Try.call18 S rfl) (Ret.atE (x := BookA b mb (Bk.z) vv0) H (fun H => do_spec b mb (Bk.z) vv0 v ps 0 _ H hok (inv_z) (by omega))) fun v w hc a S => ?_)
  obtain ⟨_, z20, H⟩ := hc
  
  refine gnt ?_
  have S := ((S.nil.cons S 2 rfl).cons S 3 rfl).cons S 4 rfl
  refine g_seq ?_
  have hI := (inv_runs inv_z ps).mono (N' := 500) (by omega)
  obtain ⟨s, hs⟩ : ∃ s, s = runs Bk.z ps := ⟨_, rfl⟩
  rw [← hs] at H hI
  have hil := hI.len
  ·skip
   refine g_region ?_
   refine gm S fun a S => ?_
   refine wl_of (op_call (wn rfl) rfl rfl S (co_func rfl Try.call16 S rfl) (orders_at hI (by omega) (H.front (BookA b mb (s) z20))) fun u22 w hc a S => ?_)
   have H1 := hc
   have H := (H.call1 H1 rfl).take [OSl 29 u22 5 Ord.enc (s.offers ++ s.bids)]
   have hle : s.all.length ≤ 500 := by simp only [Bk.all, List.length_append]; omega
   change HSat No w0 [OSl 29 u22 5 Ord.enc s.all] _ at H
   refine ga S fun a S => ?_
   refine gnt ?_
   refine g_seq ?_
   refine gsr ?_
   refine ga S fun a S => ?_
   refine gnt ?_
   refine g_block ?_
   have SU := (S.nil.cons S 3 rfl).cons S 5 rfl
   refine loop_k (X := Nat) SU (fun i => [(6, .int .i64 (i : Int))]) (fun i => i ≤ s.all.length) (fun i => s.all.length - i) 0 (S.nil.cons S 6 rfl) H (Nat.zero_le _) (fun i a w S H hi => ?_)
   simp only [List.cons_append, List.nil_append] at S hi
   have hi2 : i ≤ s.all.length := hi
   refine g_seq ?_
   refine gsr ?_
   refine gm S fun a S => ?_
   refine gm S fun a S => ?_
   refine gy rfl rfl rfl S (y_lens rfl Try.underlying39 S H rfl) fun a S => ?_
   refine gy rfl rfl rfl S (y_bin rfl S rfl rfl rfl) fun a S => ?_
   refine gnt ?_
   refine c_if S rfl (fun h2 => ?_) (fun h2 => ?_)
   ·have h2p := h2; try simp only [DL] at h2p
    have hil2 : i < s.all.length := by omega
    refine g_skip ?_
    refine n_then ?_
    have S := ((S.nil.cons S 3 rfl).cons S 5 rfl).cons S 6 rfl
    refine g_seq ?_
    refine g_block ?_
    refine g_seq ?_
    refine gsr ?_
    refine ga S fun a S => ?_
    refine gnt ?_
    refine g_block ?_
    have SU := ((S.nil.cons S 3 rfl).cons S 5 rfl).cons S 6 rfl
    refine loop_k (X := Nat) SU (fun k => [(7, .int .i64 (k : Int))]) (fun k => k ≤ i) (fun k => i - k) 0 (S.nil.cons S 7 rfl) H (Nat.zero_le _) (fun k a w S H hi => ?_)
    simp only [List.cons_append, List.nil_append] at S hi
    refine g_seq ?_
    refine gsr ?_
    refine gm S fun a S => ?_
    refine gm S fun a S => ?_
    refine gy rfl rfl rfl S (y_bin rfl S rfl rfl rfl) fun a S => ?_
    refine gnt ?_
    refine c_if S rfl (fun h3 => ?_) (fun h3 => ?_)
    ·have h3p := h3; try simp only [DL] at h3p
     have hkl : k < s.all.length := by omega
     have hah := hI.at_ (show k < i by omega) hil2
     refine g_skip ?_
     refine n_then ?_
     refine g_seq ?_
     refine g_block ?_
     refine g_seq ?_
     refine cut (fun a w => ∃ c d, St 146 [(3, .bool true), (5, u22), (6, .int .i64 (i : Int)), (7, .int .i64 (k : Int)), (8, .pointer (some ⟨c, 0, none⟩)), (9, .pointer (some ⟨d, 0, none⟩))] a ∧ HSat No w0 [Cel c 29 (Ord.enc s.all[k]), Cel d 29 (Ord.enc s.all[i]), OSl 29 u22 5 Ord.enc s.all] w) ?_ ?_
     ·skip
      refine t_st (tails := [10, 11]) [] Fmo H ?_
      refine t_q 0 rfl (by kernel_rfl) (rem' := [1, 2, 3, 4, 5, 6, 7, 8, 9, 10, 11]) rfl rfl rfl rfl S (fun w H => y_move rfl S rfl) fun a S => ?_
      refine t_q 1 rfl (by kernel_rfl) (rem' := [2, 3, 4, 5, 6, 7, 8, 9, 10, 11]) rfl rfl rfl rfl S (fun w H => y_move rfl S rfl) fun a S => ?_
      refine t_q 2 rfl (by kernel_rfl) (rem' := [3, 4, 5, 6, 7, 8, 9, 10, 11]) rfl rfl rfl rfl S (fun w H => y_iaddrn rfl Try.underlying39 Fsiz29 S H rfl rfl (by first | assumption | omega | (simp only [LL]; omega))) fun a S => ?_
      refine t_loadsa _ 3 rfl (by kernel_rfl) (rem' := [4, 5, 6, 7, 8, 9, 10, 11]) rfl rfl rfl rfl S rfl rfl (by exact Fagg29) (by first | assumption | omega | (simp only [LL]; omega)) fun a S => ?_
      refine t_p 4 rfl (by kernel_rfl) (rem' := [5, 6, 7, 8, 9, 10, 11]) rfl rfl rfl rfl S (fun w => y_move rfl S rfl) fun a S => ?_
      refine t_p 5 rfl (by kernel_rfl) (rem' := [6, 7, 8, 9, 10, 11]) rfl rfl rfl rfl S (fun w => y_move rfl S rfl) fun a S => ?_
      refine t_b [6, 8, 9] (by kernel_rfl) rfl (fa3 ?_ ?_ ?_)
      ·refine ⟨_, rfl, fun w H => ?_⟩
       refine op_y (wn rfl) rfl rfl S (y_iaddrn rfl Try.underlying39 Fsiz29 S H rfl rfl (by first | assumption | omega | (simp only [LL]; omega))) fun a S => ?_
       refine t_n H (rem' := [7, 8, 9, 10, 11]) rfl ?_
       refine t_b [7, 8, 9] (by kernel_rfl) rfl (fa3 ?_ ?_ ?_)
       ·refine ⟨_, rfl, fun w H => ?_⟩
        refine op_y (wn rfl) rfl rfl S (y_loadsa _ rfl S H rfl (by exact Fagg29) (by first | assumption | omega | (simp only [LL]; omega))) fun a S => ?_
        refine t_n H (rem' := [8, 9, 10, 11]) rfl ?_
        refine t_b [8, 9] (by kernel_rfl) rfl (fa2 ?_ ?_)
        ·refine ⟨_, rfl, fun w H => ?_⟩
         refine op_alloc (wn rfl) rfl rfl rfl S H Fzer29 fun b8 a w S H => ?_
         refine t_n H (rem' := [9, 10, 11]) rfl ?_
         refine t_b1 9 (by kernel_rfl) rfl fun w H => ?_
         refine op_alloc (wn rfl) rfl rfl rfl S H Fzer29 fun b9 a w S H => ?_
         refine t_n H (rem' := [10, 11]) rfl ?_
         refine t_b1 10 (by kernel_rfl) rfl fun w H => ?_
         refine op_storea (wn rfl) rfl rfl S H rfl rfl rfl Fsiz29 rfl (cs' := [_, _, _, _, _]) rfl fun a w S H => ?_
         refine t_tail H rfl (rem' := [11]) rfl ?_
         refine t_b1 11 (by kernel_rfl) rfl fun w H => ?_
         refine op_storea (wn rfl) rfl rfl S H rfl rfl rfl Fsiz29 rfl (cs' := [_, _, _, _, _]) rfl fun a w S H => ?_
         refine t_tail H rfl (rem' := []) rfl ?_
         refine t_nil (fun w H => ?_)
         exact ⟨b8, b9, (((((S.nil.cons S 9 rfl).cons S 8 rfl).cons S 7 rfl).cons S 6 rfl).cons S 5 rfl).cons S 3 rfl, H.take [Cel b8 29 [.int .i64 s.all[k].id, .int .i64 s.all[k].price, .bool s.all[k].sell, .string s.all[k].person, .int .i64 s.all[k].serial], Cel b9 29 [.int .i64 s.all[i].id, .int .i64 s.all[i].price, .bool s.all[i].sell, .string s.all[i].person, .int .i64 s.all[i].serial], OSl 29 u22 5 Ord.enc s.all]⟩
        ·refine ⟨_, rfl, fun w H => ?_⟩
         refine op_alloc (wn rfl) rfl rfl rfl S H Fzer29 fun b9 a w S H => ?_
         refine t_n H (rem' := [8, 10, 11]) rfl ?_
         refine t_b1 8 (by kernel_rfl) rfl fun w H => ?_
         refine op_alloc (wn rfl) rfl rfl rfl S H Fzer29 fun b8 a w S H => ?_
         refine t_n H (rem' := [10, 11]) rfl ?_
         refine t_b1 10 (by kernel_rfl) rfl fun w H => ?_
         refine op_storea (wn rfl) rfl rfl S H rfl rfl rfl Fsiz29 rfl (cs' := [_, _, _, _, _]) rfl fun a w S H => ?_
         refine t_tail H rfl (rem' := [11]) rfl ?_
         refine t_b1 11 (by kernel_rfl) rfl fun w H => ?_
         refine op_storea (wn rfl) rfl rfl S H rfl rfl rfl Fsiz29 rfl (cs' := [_, _, _, _, _]) rfl fun a w S H => ?_
         refine t_tail H rfl (rem' := []) rfl ?_
         refine t_nil (fun w H => ?_)
         exact ⟨b8, b9, (((((S.nil.cons S 9 rfl).cons S 8 rfl).cons S 7 rfl).cons S 6 rfl).cons S 5 rfl).cons S 3 rfl, H.take [Cel b8 29 [.int .i64 s.all[k].id, .int .i64 s.all[k].price, .bool s.all[k].sell, .string s.all[k].person, .int .i64 s.all[k].serial], Cel b9 29 [.int .i64 s.all[i].id, .int .i64 s.all[i].price, .bool s.all[i].sell, .string s.all[i].person, .int .i64 s.all[i].serial], OSl 29 u22 5 Ord.enc s.all]⟩
       ·refine ⟨_, rfl, fun w H => ?_⟩
        refine op_alloc (wn rfl) rfl rfl rfl S H Fzer29 fun b8 a w S H => ?_
        refine t_n H (rem' := [7, 9, 10, 11]) rfl ?_
        refine t_b [7, 9] (by kernel_rfl) rfl (fa2 ?_ ?_)
        ·refine ⟨_, rfl, fun w H => ?_⟩
         refine op_y (wn rfl) rfl rfl S (y_loadsa _ rfl S H rfl (by exact Fagg29) (by first | assumption | omega | (simp only [LL]; omega))) fun a S => ?_
         refine t_n H (rem' := [9, 10, 11]) rfl ?_
         refine t_b1 9 (by kernel_rfl) rfl fun w H => ?_
         refine op_alloc (wn rfl) rfl rfl rfl S H Fzer29 fun b9 a w S H => ?_
         refine t_n H (rem' := [10, 11]) rfl ?_
         refine t_b1 10 (by kernel_rfl) rfl fun w H => ?_
         refine op_storea (wn rfl) rfl rfl S H rfl rfl rfl Fsiz29 rfl (cs' := [_, _, _, _, _]) rfl fun a w S H => ?_
         refine t_tail H rfl (rem' := [11]) rfl ?_
         refine t_b1 11 (by kernel_rfl) rfl fun w H => ?_
         refine op_storea (wn rfl) rfl rfl S H rfl rfl rfl Fsiz29 rfl (cs' := [_, _, _, _, _]) rfl fun a w S H => ?_
         refine t_tail H rfl (rem' := []) rfl ?_
         refine t_nil (fun w H => ?_)
         exact ⟨b8, b9, (((((S.nil.cons S 9 rfl).cons S 8 rfl).cons S 7 rfl).cons S 6 rfl).cons S 5 rfl).cons S 3 rfl, H.take [Cel b8 29 [.int .i64 s.all[k].id, .int .i64 s.all[k].price, .bool s.all[k].sell, .string s.all[k].person, .int .i64 s.all[k].serial], Cel b9 29 [.int .i64 s.all[i].id, .int .i64 s.all[i].price, .bool s.all[i].sell, .string s.all[i].person, .int .i64 s.all[i].serial], OSl 29 u22 5 Ord.enc s.all]⟩
        ·refine ⟨_, rfl, fun w H => ?_⟩
         refine op_alloc (wn rfl) rfl rfl rfl S H Fzer29 fun b9 a w S H => ?_
         refine t_n H (rem' := [7, 10, 11]) rfl ?_
         refine t_b [7, 10] (by kernel_rfl) rfl (fa2 ?_ ?_)
         ·refine ⟨_, rfl, fun w H => ?_⟩
          refine op_y (wn rfl) rfl rfl S (y_loadsa _ rfl S H rfl (by exact Fagg29) (by first | assumption | omega | (simp only [LL]; omega))) fun a S => ?_
          refine t_n H (rem' := [10, 11]) rfl ?_
          refine t_b1 10 (by kernel_rfl) rfl fun w H => ?_
          refine op_storea (wn rfl) rfl rfl S H rfl rfl rfl Fsiz29 rfl (cs' := [_, _, _, _, _]) rfl fun a w S H => ?_
          refine t_tail H rfl (rem' := [11]) rfl ?_
          refine t_b1 11 (by kernel_rfl) rfl fun w H => ?_
          refine op_storea (wn rfl) rfl rfl S H rfl rfl rfl Fsiz29 rfl (cs' := [_, _, _, _, _]) rfl fun a w S H => ?_
          refine t_tail H rfl (rem' := []) rfl ?_
          refine t_nil (fun w H => ?_)
          exact ⟨b8, b9, (((((S.nil.cons S 9 rfl).cons S 8 rfl).cons S 7 rfl).cons S 6 rfl).cons S 5 rfl).cons S 3 rfl, H.take [Cel b8 29 [.int .i64 s.all[k].id, .int .i64 s.all[k].price, .bool s.all[k].sell, .string s.all[k].person, .int .i64 s.all[k].serial], Cel b9 29 [.int .i64 s.all[i].id, .int .i64 s.all[i].price, .bool s.all[i].sell, .string s.all[i].person, .int .i64 s.all[i].serial], OSl 29 u22 5 Ord.enc s.all]⟩
         ·refine ⟨_, rfl, fun w H => ?_⟩
          refine op_storea (wn rfl) rfl rfl S H rfl rfl rfl Fsiz29 rfl (cs' := [_, _, _, _, _]) rfl fun a w S H => ?_
          refine t_tail H rfl (rem' := [7, 11]) rfl ?_
          refine t_loadsa _ 7 rfl (by kernel_rfl) (rem' := [11]) rfl rfl rfl rfl S rfl rfl (by exact Fagg29) (by first | assumption | omega | (simp only [LL]; omega)) fun a S => ?_
          refine t_b1 11 (by kernel_rfl) rfl fun w H => ?_
          refine op_storea (wn rfl) rfl rfl S H rfl rfl rfl Fsiz29 rfl (cs' := [_, _, _, _, _]) rfl fun a w S H => ?_
          refine t_tail H rfl (rem' := []) rfl ?_
          refine t_nil (fun w H => ?_)
          exact ⟨b8, b9, (((((S.nil.cons S 9 rfl).cons S 8 rfl).cons S 7 rfl).cons S 6 rfl).cons S 5 rfl).cons S 3 rfl, H.take [Cel b8 29 [.int .i64 s.all[k].id, .int .i64 s.all[k].price, .bool s.all[k].sell, .string s.all[k].person, .int .i64 s.all[k].serial], Cel b9 29 [.int .i64 s.all[i].id, .int .i64 s.all[i].price, .bool s.all[i].sell, .string s.all[i].person, .int .i64 s.all[i].serial], OSl 29 u22 5 Ord.enc s.all]⟩
       ·refine ⟨_, rfl, fun w H => ?_⟩
        refine op_alloc (wn rfl) rfl rfl rfl S H Fzer29 fun b9 a w S H => ?_
        refine t_n H (rem' := [7, 8, 10, 11]) rfl ?_
        refine t_b [7, 8] (by kernel_rfl) rfl (fa2 ?_ ?_)
        ·refine ⟨_, rfl, fun w H => ?_⟩
         refine op_y (wn rfl) rfl rfl S (y_loadsa _ rfl S H rfl (by exact Fagg29) (by first | assumption | omega | (simp only [LL]; omega))) fun a S => ?_
         refine t_n H (rem' := [8, 10, 11]) rfl ?_
         refine t_b1 8 (by kernel_rfl) rfl fun w H => ?_
         refine op_alloc (wn rfl) rfl rfl rfl S H Fzer29 fun b8 a w S H => ?_
         refine t_n H (rem' := [10, 11]) rfl ?_
         refine t_b1 10 (by kernel_rfl) rfl fun w H => ?_
         refine op_storea (wn rfl) rfl rfl S H rfl rfl rfl Fsiz29 rfl (cs' := [_, _, _, _, _]) rfl fun a w S H => ?_
         refine t_tail H rfl (rem' := [11]) rfl ?_
         refine t_b1 11 (by kernel_rfl) rfl fun w H => ?_
         refine op_storea (wn rfl) rfl rfl S H rfl rfl rfl Fsiz29 rfl (cs' := [_, _, _, _, _]) rfl fun a w S H => ?_
         refine t_tail H rfl (rem' := []) rfl ?_
         refine t_nil (fun w H => ?_)
         exact ⟨b8, b9, (((((S.nil.cons S 9 rfl).cons S 8 rfl).cons S 7 rfl).cons S 6 rfl).cons S 5 rfl).cons S 3 rfl, H.take [Cel b8 29 [.int .i64 s.all[k].id, .int .i64 s.all[k].price, .bool s.all[k].sell, .string s.all[k].person, .int .i64 s.all[k].serial], Cel b9 29 [.int .i64 s.all[i].id, .int .i64 s.all[i].price, .bool s.all[i].sell, .string s.all[i].person, .int .i64 s.all[i].serial], OSl 29 u22 5 Ord.enc s.all]⟩
        ·refine ⟨_, rfl, fun w H => ?_⟩
         refine op_alloc (wn rfl) rfl rfl rfl S H Fzer29 fun b8 a w S H => ?_
         refine t_n H (rem' := [7, 10, 11]) rfl ?_
         refine t_b [7, 10] (by kernel_rfl) rfl (fa2 ?_ ?_)
         ·refine ⟨_, rfl, fun w H => ?_⟩
          refine op_y (wn rfl) rfl rfl S (y_loadsa _ rfl S H rfl (by exact Fagg29) (by first | assumption | omega | (simp only [LL]; omega))) fun a S => ?_
          refine t_n H (rem' := [10, 11]) rfl ?_
          refine t_b1 10 (by kernel_rfl) rfl fun w H => ?_
          refine op_storea (wn rfl) rfl rfl S H rfl rfl rfl Fsiz29 rfl (cs' := [_, _, _, _, _]) rfl fun a w S H => ?_
          refine t_tail H rfl (rem' := [11]) rfl ?_
          refine t_b1 11 (by kernel_rfl) rfl fun w H => ?_
          refine op_storea (wn rfl) rfl rfl S H rfl rfl rfl Fsiz29 rfl (cs' := [_, _, _, _, _]) rfl fun a w S H => ?_
          refine t_tail H rfl (rem' := []) rfl ?_
          refine t_nil (fun w H => ?_)
          exact ⟨b8, b9, (((((S.nil.cons S 9 rfl).cons S 8 rfl).cons S 7 rfl).cons S 6 rfl).cons S 5 rfl).cons S 3 rfl, H.take [Cel b8 29 [.int .i64 s.all[k].id, .int .i64 s.all[k].price, .bool s.all[k].sell, .string s.all[k].person, .int .i64 s.all[k].serial], Cel b9 29 [.int .i64 s.all[i].id, .int .i64 s.all[i].price, .bool s.all[i].sell, .string s.all[i].person, .int .i64 s.all[i].serial], OSl 29 u22 5 Ord.enc s.all]⟩
         ·refine ⟨_, rfl, fun w H => ?_⟩
          refine op_storea (wn rfl) rfl rfl S H rfl rfl rfl Fsiz29 rfl (cs' := [_, _, _, _, _]) rfl fun a w S H => ?_
          refine t_tail H rfl (rem' := [7, 11]) rfl ?_
          refine t_loadsa _ 7 rfl (by kernel_rfl) (rem' := [11]) rfl rfl rfl rfl S rfl rfl (by exact Fagg29) (by first | assumption | omega | (simp only [LL]; omega)) fun a S => ?_
          refine t_b1 11 (by kernel_rfl) rfl fun w H => ?_
          refine op_storea (wn rfl) rfl rfl S H rfl rfl rfl Fsiz29 rfl (cs' := [_, _, _, _, _]) rfl fun a w S H => ?_
          refine t_tail H rfl (rem' := []) rfl ?_
          refine t_nil (fun w H => ?_)
          exact ⟨b8, b9, (((((S.nil.cons S 9 rfl).cons S 8 rfl).cons S 7 rfl).cons S 6 rfl).cons S 5 rfl).cons S 3 rfl, H.take [Cel b8 29 [.int .i64 s.all[k].id, .int .i64 s.all[k].price, .bool s.all[k].sell, .string s.all[k].person, .int .i64 s.all[k].serial], Cel b9 29 [.int .i64 s.all[i].id, .int .i64 s.all[i].price, .bool s.all[i].sell, .string s.all[i].person, .int .i64 s.all[i].serial], OSl 29 u22 5 Ord.enc s.all]⟩
      ·refine ⟨_, rfl, fun w H => ?_⟩
       refine op_alloc (wn rfl) rfl rfl rfl S H Fzer29 fun b8 a w S H => ?_
       refine t_n H (rem' := [6, 7, 9, 10, 11]) rfl ?_
       refine t_b [6, 9] (by kernel_rfl) rfl (fa2 ?_ ?_)
       ·refine ⟨_, rfl, fun w H => ?_⟩
        refine op_y (wn rfl) rfl rfl S (y_iaddrn rfl Try.underlying39 Fsiz29 S H rfl rfl (by first | assumption | omega | (simp only [LL]; omega))) fun a S => ?_
        refine t_n H (rem' := [7, 9, 10, 11]) rfl ?_
        refine t_b [7, 9] (by kernel_rfl) rfl (fa2 ?_ ?_)
        ·refine ⟨_, rfl, fun w H => ?_⟩
         refine op_y (wn rfl) rfl rfl S (y_loadsa _ rfl S H rfl (by exact Fagg29) (by first | assumption | omega | (simp only [LL]; omega))) fun a S => ?_
         refine t_n H (rem' := [9, 10, 11]) rfl ?_
         refine t_b1 9 (by kernel_rfl) rfl fun w H => ?_
         refine op_alloc (wn rfl) rfl rfl rfl S H Fzer29 fun b9 a w S H => ?_
         refine t_n H (rem' := [10, 11]) rfl ?_
         refine t_b1 10 (by kernel_rfl) rfl fun w H => ?_
         refine op_storea (wn rfl) rfl rfl S H rfl rfl rfl Fsiz29 rfl (cs' := [_, _, _, _, _]) rfl fun a w S H => ?_
         refine t_tail H rfl (rem' := [11]) rfl ?_
         refine t_b1 11 (by kernel_rfl) rfl fun w H => ?_
         refine op_storea (wn rfl) rfl rfl S H rfl rfl rfl Fsiz29 rfl (cs' := [_, _, _, _, _]) rfl fun a w S H => ?_
         refine t_tail H rfl (rem' := []) rfl ?_
         refine t_nil (fun w H => ?_)
         exact ⟨b8, b9, (((((S.nil.cons S 9 rfl).cons S 8 rfl).cons S 7 rfl).cons S 6 rfl).cons S 5 rfl).cons S 3 rfl, H.take [Cel b8 29 [.int .i64 s.all[k].id, .int .i64 s.all[k].price, .bool s.all[k].sell, .string s.all[k].person, .int .i64 s.all[k].serial], Cel b9 29 [.int .i64 s.all[i].id, .int .i64 s.all[i].price, .bool s.all[i].sell, .string s.all[i].person, .int .i64 s.all[i].serial], OSl 29 u22 5 Ord.enc s.all]⟩
        ·refine ⟨_, rfl, fun w H => ?_⟩
         refine op_alloc (wn rfl) rfl rfl rfl S H Fzer29 fun b9 a w S H => ?_
         refine t_n H (rem' := [7, 10, 11]) rfl ?_
         refine t_b [7, 10] (by kernel_rfl) rfl (fa2 ?_ ?_)
         ·refine ⟨_, rfl, fun w H => ?_⟩
          refine op_y (wn rfl) rfl rfl S (y_loadsa _ rfl S H rfl (by exact Fagg29) (by first | assumption | omega | (simp only [LL]; omega))) fun a S => ?_
          refine t_n H (rem' := [10, 11]) rfl ?_
          refine t_b1 10 (by kernel_rfl) rfl fun w H => ?_
          refine op_storea (wn rfl) rfl rfl S H rfl rfl rfl Fsiz29 rfl (cs' := [_, _, _, _, _]) rfl fun a w S H => ?_
          refine t_tail H rfl (rem' := [11]) rfl ?_
          refine t_b1 11 (by kernel_rfl) rfl fun w H => ?_
          refine op_storea (wn rfl) rfl rfl S H rfl rfl rfl Fsiz29 rfl (cs' := [_, _, _, _, _]) rfl fun a w S H => ?_
          refine t_tail H rfl (rem' := []) rfl ?_
          refine t_nil (fun w H => ?_)
          exact ⟨b8, b9, (((((S.nil.cons S 9 rfl).cons S 8 rfl).cons S 7 rfl).cons S 6 rfl).cons S 5 rfl).cons S 3 rfl, H.take [Cel b8 29 [.int .i64 s.all[k].id, .int .i64 s.all[k].price, .bool s.all[k].sell, .string s.all[k].person, .int .i64 s.all[k].serial], Cel b9 29 [.int .i64 s.all[i].id, .int .i64 s.all[i].price, .bool s.all[i].sell, .string s.all[i].person, .int .i64 s.all[i].serial], OSl 29 u22 5 Ord.enc s.all]⟩
         ·refine ⟨_, rfl, fun w H => ?_⟩
          refine op_storea (wn rfl) rfl rfl S H rfl rfl rfl Fsiz29 rfl (cs' := [_, _, _, _, _]) rfl fun a w S H => ?_
          refine t_tail H rfl (rem' := [7, 11]) rfl ?_
          refine t_loadsa _ 7 rfl (by kernel_rfl) (rem' := [11]) rfl rfl rfl rfl S rfl rfl (by exact Fagg29) (by first | assumption | omega | (simp only [LL]; omega)) fun a S => ?_
          refine t_b1 11 (by kernel_rfl) rfl fun w H => ?_
          refine op_storea (wn rfl) rfl rfl S H rfl rfl rfl Fsiz29 rfl (cs' := [_, _, _, _, _]) rfl fun a w S H => ?_
          refine t_tail H rfl (rem' := []) rfl ?_
          refine t_nil (fun w H => ?_)
          exact ⟨b8, b9, (((((S.nil.cons S 9 rfl).cons S 8 rfl).cons S 7 rfl).cons S 6 rfl).cons S 5 rfl).cons S 3 rfl, H.take [Cel b8 29 [.int .i64 s.all[k].id, .int .i64 s.all[k].price, .bool s.all[k].sell, .string s.all[k].person, .int .i64 s.all[k].serial], Cel b9 29 [.int .i64 s.all[i].id, .int .i64 s.all[i].price, .bool s.all[i].sell, .string s.all[i].person, .int .i64 s.all[i].serial], OSl 29 u22 5 Ord.enc s.all]⟩
       ·refine ⟨_, rfl, fun w H => ?_⟩
        refine op_alloc (wn rfl) rfl rfl rfl S H Fzer29 fun b9 a w S H => ?_
        refine t_n H (rem' := [6, 7, 10, 11]) rfl ?_
        refine t_b [6, 10] (by kernel_rfl) rfl (fa2 ?_ ?_)
        ·refine ⟨_, rfl, fun w H => ?_⟩
         refine op_y (wn rfl) rfl rfl S (y_iaddrn rfl Try.underlying39 Fsiz29 S H rfl rfl (by first | assumption | omega | (simp only [LL]; omega))) fun a S => ?_
         refine t_n H (rem' := [7, 10, 11]) rfl ?_
         refine t_b [7, 10] (by kernel_rfl) rfl (fa2 ?_ ?_)
         ·refine ⟨_, rfl, fun w H => ?_⟩
          refine op_y (wn rfl) rfl rfl S (y_loadsa _ rfl S H rfl (by exact Fagg29) (by first | assumption | omega | (simp only [LL]; omega))) fun a S => ?_
          refine t_n H (rem' := [10, 11]) rfl ?_
          refine t_b1 10 (by kernel_rfl) rfl fun w H => ?_
          refine op_storea (wn rfl) rfl rfl S H rfl rfl rfl Fsiz29 rfl (cs' := [_, _, _, _, _]) rfl fun a w S H => ?_
          refine t_tail H rfl (rem' := [11]) rfl ?_
          refine t_b1 11 (by kernel_rfl) rfl fun w H => ?_
          refine op_storea (wn rfl) rfl rfl S H rfl rfl rfl Fsiz29 rfl (cs' := [_, _, _, _, _]) rfl fun a w S H => ?_
          refine t_tail H rfl (rem' := []) rfl ?_
          refine t_nil (fun w H => ?_)
          exact ⟨b8, b9, (((((S.nil.cons S 9 rfl).cons S 8 rfl).cons S 7 rfl).cons S 6 rfl).cons S 5 rfl).cons S 3 rfl, H.take [Cel b8 29 [.int .i64 s.all[k].id, .int .i64 s.all[k].price, .bool s.all[k].sell, .string s.all[k].person, .int .i64 s.all[k].serial], Cel b9 29 [.int .i64 s.all[i].id, .int .i64 s.all[i].price, .bool s.all[i].sell, .string s.all[i].person, .int .i64 s.all[i].serial], OSl 29 u22 5 Ord.enc s.all]⟩
         ·refine ⟨_, rfl, fun w H => ?_⟩
          refine op_storea (wn rfl) rfl rfl S H rfl rfl rfl Fsiz29 rfl (cs' := [_, _, _, _, _]) rfl fun a w S H => ?_
          refine t_tail H rfl (rem' := [7, 11]) rfl ?_
          refine t_loadsa _ 7 rfl (by kernel_rfl) (rem' := [11]) rfl rfl rfl rfl S rfl rfl (by exact Fagg29) (by first | assumption | omega | (simp only [LL]; omega)) fun a S => ?_
          refine t_b1 11 (by kernel_rfl) rfl fun w H => ?_
          refine op_storea (wn rfl) rfl rfl S H rfl rfl rfl Fsiz29 rfl (cs' := [_, _, _, _, _]) rfl fun a w S H => ?_
          refine t_tail H rfl (rem' := []) rfl ?_
          refine t_nil (fun w H => ?_)
          exact ⟨b8, b9, (((((S.nil.cons S 9 rfl).cons S 8 rfl).cons S 7 rfl).cons S 6 rfl).cons S 5 rfl).cons S 3 rfl, H.take [Cel b8 29 [.int .i64 s.all[k].id, .int .i64 s.all[k].price, .bool s.all[k].sell, .string s.all[k].person, .int .i64 s.all[k].serial], Cel b9 29 [.int .i64 s.all[i].id, .int .i64 s.all[i].price, .bool s.all[i].sell, .string s.all[i].person, .int .i64 s.all[i].serial], OSl 29 u22 5 Ord.enc s.all]⟩
        ·refine ⟨_, rfl, fun w H => ?_⟩
         refine op_storea (wn rfl) rfl rfl S H rfl rfl rfl Fsiz29 rfl (cs' := [_, _, _, _, _]) rfl fun a w S H => ?_
         refine t_tail H rfl (rem' := [6, 7, 11]) rfl ?_
         refine t_q 6 rfl (by kernel_rfl) (rem' := [7, 11]) rfl rfl rfl rfl S (fun w H => y_iaddrn rfl Try.underlying39 Fsiz29 S H rfl rfl (by first | assumption | omega | (simp only [LL]; omega))) fun a S => ?_
         refine t_loadsa _ 7 rfl (by kernel_rfl) (rem' := [11]) rfl rfl rfl rfl S rfl rfl (by exact Fagg29) (by first | assumption | omega | (simp only [LL]; omega)) fun a S => ?_
         refine t_b1 11 (by kernel_rfl) rfl fun w H => ?_
         refine op_storea (wn rfl) rfl rfl S H rfl rfl rfl Fsiz29 rfl (cs' := [_, _, _, _, _]) rfl fun a w S H => ?_
         refine t_tail H rfl (rem' := []) rfl ?_
         refine t_nil (fun w H => ?_)
         exact ⟨b8, b9, (((((S.nil.cons S 9 rfl).cons S 8 rfl).cons S 7 rfl).cons S 6 rfl).cons S 5 rfl).cons S 3 rfl, H.take [Cel b8 29 [.int .i64 s.all[k].id, .int .i64 s.all[k].price, .bool s.all[k].sell, .string s.all[k].person, .int .i64 s.all[k].serial], Cel b9 29 [.int .i64 s.all[i].id, .int .i64 s.all[i].price, .bool s.all[i].sell, .string s.all[i].person, .int .i64 s.all[i].serial], OSl 29 u22 5 Ord.enc s.all]⟩
      ·refine ⟨_, rfl, fun w H => ?_⟩
       refine op_alloc (wn rfl) rfl rfl rfl S H Fzer29 fun b9 a w S H => ?_
       refine t_n H (rem' := [6, 7, 8, 10, 11]) rfl ?_
       refine t_b [6, 8] (by kernel_rfl) rfl (fa2 ?_ ?_)
       ·refine ⟨_, rfl, fun w H => ?_⟩
        refine op_y (wn rfl) rfl rfl S (y_iaddrn rfl Try.underlying39 Fsiz29 S H rfl rfl (by first | assumption | omega | (simp only [LL]; omega))) fun a S => ?_
        refine t_n H (rem' := [7, 8, 10, 11]) rfl ?_
        refine t_b [7, 8] (by kernel_rfl) rfl (fa2 ?_ ?_)
        ·refine ⟨_, rfl, fun w H => ?_⟩
         refine op_y (wn rfl) rfl rfl S (y_loadsa _ rfl S H rfl (by exact Fagg29) (by first | assumption | omega | (simp only [LL]; omega))) fun a S => ?_
         refine t_n H (rem' := [8, 10, 11]) rfl ?_
         refine t_b1 8 (by kernel_rfl) rfl fun w H => ?_
         refine op_alloc (wn rfl) rfl rfl rfl S H Fzer29 fun b8 a w S H => ?_
         refine t_n H (rem' := [10, 11]) rfl ?_
         refine t_b1 10 (by kernel_rfl) rfl fun w H => ?_
         refine op_storea (wn rfl) rfl rfl S H rfl rfl rfl Fsiz29 rfl (cs' := [_, _, _, _, _]) rfl fun a w S H => ?_
         refine t_tail H rfl (rem' := [11]) rfl ?_
         refine t_b1 11 (by kernel_rfl) rfl fun w H => ?_
         refine op_storea (wn rfl) rfl rfl S H rfl rfl rfl Fsiz29 rfl (cs' := [_, _, _, _, _]) rfl fun a w S H => ?_
         refine t_tail H rfl (rem' := []) rfl ?_
         refine t_nil (fun w H => ?_)
         exact ⟨b8, b9, (((((S.nil.cons S 9 rfl).cons S 8 rfl).cons S 7 rfl).cons S 6 rfl).cons S 5 rfl).cons S 3 rfl, H.take [Cel b8 29 [.int .i64 s.all[k].id, .int .i64 s.all[k].price, .bool s.all[k].sell, .string s.all[k].person, .int .i64 s.all[k].serial], Cel b9 29 [.int .i64 s.all[i].id, .int .i64 s.all[i].price, .bool s.all[i].sell, .string s.all[i].person, .int .i64 s.all[i].serial], OSl 29 u22 5 Ord.enc s.all]⟩
        ·refine ⟨_, rfl, fun w H => ?_⟩
         refine op_alloc (wn rfl) rfl rfl rfl S H Fzer29 fun b8 a w S H => ?_
         refine t_n H (rem' := [7, 10, 11]) rfl ?_
         refine t_b [7, 10] (by kernel_rfl) rfl (fa2 ?_ ?_)
         ·refine ⟨_, rfl, fun w H => ?_⟩
          refine op_y (wn rfl) rfl rfl S (y_loadsa _ rfl S H rfl (by exact Fagg29) (by first | assumption | omega | (simp only [LL]; omega))) fun a S => ?_
          refine t_n H (rem' := [10, 11]) rfl ?_
          refine t_b1 10 (by kernel_rfl) rfl fun w H => ?_
          refine op_storea (wn rfl) rfl rfl S H rfl rfl rfl Fsiz29 rfl (cs' := [_, _, _, _, _]) rfl fun a w S H => ?_
          refine t_tail H rfl (rem' := [11]) rfl ?_
          refine t_b1 11 (by kernel_rfl) rfl fun w H => ?_
          refine op_storea (wn rfl) rfl rfl S H rfl rfl rfl Fsiz29 rfl (cs' := [_, _, _, _, _]) rfl fun a w S H => ?_
          refine t_tail H rfl (rem' := []) rfl ?_
          refine t_nil (fun w H => ?_)
          exact ⟨b8, b9, (((((S.nil.cons S 9 rfl).cons S 8 rfl).cons S 7 rfl).cons S 6 rfl).cons S 5 rfl).cons S 3 rfl, H.take [Cel b8 29 [.int .i64 s.all[k].id, .int .i64 s.all[k].price, .bool s.all[k].sell, .string s.all[k].person, .int .i64 s.all[k].serial], Cel b9 29 [.int .i64 s.all[i].id, .int .i64 s.all[i].price, .bool s.all[i].sell, .string s.all[i].person, .int .i64 s.all[i].serial], OSl 29 u22 5 Ord.enc s.all]⟩
         ·refine ⟨_, rfl, fun w H => ?_⟩
          refine op_storea (wn rfl) rfl rfl S H rfl rfl rfl Fsiz29 rfl (cs' := [_, _, _, _, _]) rfl fun a w S H => ?_
          refine t_tail H rfl (rem' := [7, 11]) rfl ?_
          refine t_loadsa _ 7 rfl (by kernel_rfl) (rem' := [11]) rfl rfl rfl rfl S rfl rfl (by exact Fagg29) (by first | assumption | omega | (simp only [LL]; omega)) fun a S => ?_
          refine t_b1 11 (by kernel_rfl) rfl fun w H => ?_
          refine op_storea (wn rfl) rfl rfl S H rfl rfl rfl Fsiz29 rfl (cs' := [_, _, _, _, _]) rfl fun a w S H => ?_
          refine t_tail H rfl (rem' := []) rfl ?_
          refine t_nil (fun w H => ?_)
          exact ⟨b8, b9, (((((S.nil.cons S 9 rfl).cons S 8 rfl).cons S 7 rfl).cons S 6 rfl).cons S 5 rfl).cons S 3 rfl, H.take [Cel b8 29 [.int .i64 s.all[k].id, .int .i64 s.all[k].price, .bool s.all[k].sell, .string s.all[k].person, .int .i64 s.all[k].serial], Cel b9 29 [.int .i64 s.all[i].id, .int .i64 s.all[i].price, .bool s.all[i].sell, .string s.all[i].person, .int .i64 s.all[i].serial], OSl 29 u22 5 Ord.enc s.all]⟩
       ·refine ⟨_, rfl, fun w H => ?_⟩
        refine op_alloc (wn rfl) rfl rfl rfl S H Fzer29 fun b8 a w S H => ?_
        refine t_n H (rem' := [6, 7, 10, 11]) rfl ?_
        refine t_b [6, 10] (by kernel_rfl) rfl (fa2 ?_ ?_)
        ·refine ⟨_, rfl, fun w H => ?_⟩
         refine op_y (wn rfl) rfl rfl S (y_iaddrn rfl Try.underlying39 Fsiz29 S H rfl rfl (by first | assumption | omega | (simp only [LL]; omega))) fun a S => ?_
         refine t_n H (rem' := [7, 10, 11]) rfl ?_
         refine t_b [7, 10] (by kernel_rfl) rfl (fa2 ?_ ?_)
         ·refine ⟨_, rfl, fun w H => ?_⟩
          refine op_y (wn rfl) rfl rfl S (y_loadsa _ rfl S H rfl (by exact Fagg29) (by first | assumption | omega | (simp only [LL]; omega))) fun a S => ?_
          refine t_n H (rem' := [10, 11]) rfl ?_
          refine t_b1 10 (by kernel_rfl) rfl fun w H => ?_
          refine op_storea (wn rfl) rfl rfl S H rfl rfl rfl Fsiz29 rfl (cs' := [_, _, _, _, _]) rfl fun a w S H => ?_
          refine t_tail H rfl (rem' := [11]) rfl ?_
          refine t_b1 11 (by kernel_rfl) rfl fun w H => ?_
          refine op_storea (wn rfl) rfl rfl S H rfl rfl rfl Fsiz29 rfl (cs' := [_, _, _, _, _]) rfl fun a w S H => ?_
          refine t_tail H rfl (rem' := []) rfl ?_
          refine t_nil (fun w H => ?_)
          exact ⟨b8, b9, (((((S.nil.cons S 9 rfl).cons S 8 rfl).cons S 7 rfl).cons S 6 rfl).cons S 5 rfl).cons S 3 rfl, H.take [Cel b8 29 [.int .i64 s.all[k].id, .int .i64 s.all[k].price, .bool s.all[k].sell, .string s.all[k].person, .int .i64 s.all[k].serial], Cel b9 29 [.int .i64 s.all[i].id, .int .i64 s.all[i].price, .bool s.all[i].sell, .string s.all[i].person, .int .i64 s.all[i].serial], OSl 29 u22 5 Ord.enc s.all]⟩
         ·refine ⟨_, rfl, fun w H => ?_⟩
          refine op_storea (wn rfl) rfl rfl S H rfl rfl rfl Fsiz29 rfl (cs' := [_, _, _, _, _]) rfl fun a w S H => ?_
          refine t_tail H rfl (rem' := [7, 11]) rfl ?_
          refine t_loadsa _ 7 rfl (by kernel_rfl) (rem' := [11]) rfl rfl rfl rfl S rfl rfl (by exact Fagg29) (by first | assumption | omega | (simp only [LL]; omega)) fun a S => ?_
          refine t_b1 11 (by kernel_rfl) rfl fun w H => ?_
          refine op_storea (wn rfl) rfl rfl S H rfl rfl rfl Fsiz29 rfl (cs' := [_, _, _, _, _]) rfl fun a w S H => ?_
          refine t_tail H rfl (rem' := []) rfl ?_
          refine t_nil (fun w H => ?_)
          exact ⟨b8, b9, (((((S.nil.cons S 9 rfl).cons S 8 rfl).cons S 7 rfl).cons S 6 rfl).cons S 5 rfl).cons S 3 rfl, H.take [Cel b8 29 [.int .i64 s.all[k].id, .int .i64 s.all[k].price, .bool s.all[k].sell, .string s.all[k].person, .int .i64 s.all[k].serial], Cel b9 29 [.int .i64 s.all[i].id, .int .i64 s.all[i].price, .bool s.all[i].sell, .string s.all[i].person, .int .i64 s.all[i].serial], OSl 29 u22 5 Ord.enc s.all]⟩
        ·refine ⟨_, rfl, fun w H => ?_⟩
         refine op_storea (wn rfl) rfl rfl S H rfl rfl rfl Fsiz29 rfl (cs' := [_, _, _, _, _]) rfl fun a w S H => ?_
         refine t_tail H rfl (rem' := [6, 7, 11]) rfl ?_
         refine t_q 6 rfl (by kernel_rfl) (rem' := [7, 11]) rfl rfl rfl rfl S (fun w H => y_iaddrn rfl Try.underlying39 Fsiz29 S H rfl rfl (by first | assumption | omega | (simp only [LL]; omega))) fun a S => ?_
         refine t_loadsa _ 7 rfl (by kernel_rfl) (rem' := [11]) rfl rfl rfl rfl S rfl rfl (by exact Fagg29) (by first | assumption | omega | (simp only [LL]; omega)) fun a S => ?_
         refine t_b1 11 (by kernel_rfl) rfl fun w H => ?_
         refine op_storea (wn rfl) rfl rfl S H rfl rfl rfl Fsiz29 rfl (cs' := [_, _, _, _, _]) rfl fun a w S H => ?_
         refine t_tail H rfl (rem' := []) rfl ?_
         refine t_nil (fun w H => ?_)
         exact ⟨b8, b9, (((((S.nil.cons S 9 rfl).cons S 8 rfl).cons S 7 rfl).cons S 6 rfl).cons S 5 rfl).cons S 3 rfl, H.take [Cel b8 29 [.int .i64 s.all[k].id, .int .i64 s.all[k].price, .bool s.all[k].sell, .string s.all[k].person, .int .i64 s.all[k].serial], Cel b9 29 [.int .i64 s.all[i].id, .int .i64 s.all[i].price, .bool s.all[i].sell, .string s.all[i].person, .int .i64 s.all[i].serial], OSl 29 u22 5 Ord.enc s.all]⟩
     rintro a w ⟨c, d, S, H⟩
     refine gsr ?_
     refine gy rfl rfl rfl S (y_load0 rfl S H rfl (by exact Fagg29)) fun a S => ?_
     refine gy rfl rfl rfl S (y_load0 rfl S H rfl (by exact Fagg29)) fun a S => ?_
     refine wl_of (op_call (wn rfl) rfl rfl S (co_func rfl Try.call19 S rfl) (match_spec s.all[k] s.all[i] _) fun v w hc a S => ?_)
     obtain ⟨rfl, he⟩ := hc
     have H := H.ext he
     refine gm S fun a S => ?_
     refine' wl_or 5 45 rfl S H rfl rfl rfl rfl rfl rfl rfl (fun _ S => (wn rfl)) (fun h4 kk => ?yh4) (fun a w S H => ?_)
     case yh4 =>
      have h4p := h4; try simp only [DL] at h4p
      refine gz 45 h4 S rfl rfl rfl rfl rfl rfl (y_faddrb rfl Ffo29_0 S rfl) fun a S => ?_
      refine gz 45 h4 S rfl rfl rfl rfl rfl rfl (y_load rfl Fsca3 S H rfl rfl) fun a S => ?_
      refine gz 45 h4 S rfl rfl rfl rfl rfl rfl (y_faddrb rfl Ffo29_0 S rfl) fun a S => ?_
      refine gz 45 h4 S rfl rfl rfl rfl rfl rfl (y_load rfl Fsca3 S H rfl rfl) fun a S => ?_
      refine gz 45 h4 S rfl rfl rfl rfl rfl rfl (y_bin rfl S rfl rfl rfl) fun a S => ?_
      refine gy rfl rfl rfl S (y_or' rfl h4 S rfl rfl) fun a S => ?_
      exact kk _ _ (S.join 6 51 rfl rfl) H
     refine gm S fun a S => ?_
     refine' wl_or 13 52 rfl S H rfl rfl rfl rfl rfl rfl rfl (fun _ S => (wn rfl)) (fun h5 kk => ?yh5) (fun a w S H => ?_)
     case yh5 =>
      have h5p := h5; try simp only [DL] at h5p
      refine gz 52 h5 S rfl rfl rfl rfl rfl rfl (y_faddrb rfl Ffo29_2 S rfl) fun a S => ?_
      refine gz 52 h5 S rfl rfl rfl rfl rfl rfl (y_load rfl Fsca4 S H rfl rfl) fun a S => ?_
      refine gz 52 h5 S rfl rfl rfl rfl rfl rfl (y_move rfl S rfl) fun a S => ?_
      refine' wl_and 2 55 rfl S H rfl rfl rfl rfl rfl rfl rfl (fun _ S => (wg' 52 rfl rfl S rfl h5 rfl)) (fun h6 kk => ?yh6) (fun a w S H => ?_)
      case yh6 =>
       have h6p := h6; try simp only [DL] at h6p
       refine gz 55 h6 S rfl rfl rfl rfl rfl rfl (y_faddrb rfl Ffo29_2 S rfl) fun a S => ?_
       refine gz 55 h6 S rfl rfl rfl rfl rfl rfl (y_load rfl Fsca4 S H rfl rfl) fun a S => ?_
       refine gz 52 h5 S rfl rfl rfl rfl rfl rfl (y_and' rfl h6 S rfl rfl) fun a S => ?_
       exact kk _ _ (S.join 3 58 rfl rfl) H
      refine gz 52 h5 S rfl rfl rfl rfl rfl rfl (y_move rfl S rfl) fun a S => ?_
      refine' wl_and 5 59 rfl S H rfl rfl rfl rfl rfl rfl rfl (fun _ S => (wg' 52 rfl rfl S rfl h5 rfl)) (fun h7 kk => ?yh7) (fun a w S H => ?_)
      case yh7 =>
       have h7p := h7; try simp only [DL] at h7p
       refine gz 59 h7 S rfl rfl rfl rfl rfl rfl (y_faddrb rfl Ffo29_4 S rfl) fun a S => ?_
       refine gz 59 h7 S rfl rfl rfl rfl rfl rfl (y_load rfl Fsca3 S H rfl rfl) fun a S => ?_
       refine gz 59 h7 S rfl rfl rfl rfl rfl rfl (y_faddrb rfl Ffo29_4 S rfl) fun a S => ?_
       refine gz 59 h7 S rfl rfl rfl rfl rfl rfl (y_load rfl Fsca3 S H rfl rfl) fun a S => ?_
       refine gz 59 h7 S rfl rfl rfl rfl rfl rfl (y_bin rfl S rfl rfl rfl) fun a S => ?_
       refine gz 52 h5 S rfl rfl rfl rfl rfl rfl (y_and' rfl h7 S rfl rfl) fun a S => ?_
       exact kk _ _ (S.join 6 65 rfl rfl) H
      refine gy rfl rfl rfl S (y_or' rfl h5 S rfl rfl) fun a S => ?_
      exact kk _ _ (S.join 7 66 rfl rfl) H
     refine gnt ?_
     have S := ((((S.nil.cons S 7 rfl).cons S 6 rfl).cons S 5 rfl).cons S 3 rfl).cons S 66 rfl
     refine c_if S rfl (fun h8 => ?_) (fun h8 => ?_)
     ·have h8p := h8; try simp only [DL] at h8p
      all_goals (
        exfalso
        have hd := h8
        simp [hah.mat, hah.id, beqI] at hd
        first | exact hah.ser hd.1 hd.2.1 hd.2.2 | exact hah.ser hd.1.1 hd.1.2 hd.2)
     ·have h8p := h8; try simp only [DL] at h8p
      refine g_skip ?_
      refine n_block ?_
      refine n_then ?_
      refine g_region ?_
      refine gm S fun a S => ?_
      refine gy rfl rfl rfl S (y_add rfl S rfl rfl (by omega)) fun a S => ?_
      refine ga S fun a S => ?_
      refine gnt ?_
      refine ⟨k + 1, S.nil.cons S 7 rfl, ((S.nil.cons S 3 rfl).cons S 5 rfl).cons S 6 rfl, H.drop 2, ?_, ?_⟩
      · omega
      · omega
    ·have h3p := h3; try simp only [DL] at h3p
     refine g_exit ?_
     refine x_then (x_then (x_eq ?_))
     refine n_then ?_
     have S := ((S.nil.cons S 3 rfl).cons S 5 rfl).cons S 6 rfl
     refine g_seq ?_
     refine gsr ?_
     refine gm S fun a S => ?_
     refine gy rfl rfl rfl S (y_bin rfl S rfl rfl rfl) fun a S => ?_
     refine gnt ?_
     refine c_if S rfl (fun h9 => ?_) (fun h9 => ?_)
     ·have h9p := h9; try simp only [DL] at h9p
      refine g_exit ?_
      refine x_then (x_eq ?_)
      refine n_then ?_
      refine g_region ?_
      refine gm S fun a S => ?_
      refine gy rfl rfl rfl S (y_add rfl S rfl rfl (by omega)) fun a S => ?_
      refine ga S fun a S => ?_
      refine gnt ?_
      first
      | exact ⟨i + 1, S.nil.cons S 6 rfl, (S.nil.cons S 3 rfl).cons S 5 rfl, H.drop 0, by omega, by omega⟩
      | exact ⟨j + 1 + 1, S.nil.cons S 6 rfl, (S.nil.cons S 3 rfl).cons S 5 rfl, H.drop 0, by omega, by omega⟩
     ·have h9p := h9; try simp only [DL] at h9p
      obtain ⟨j, rfl⟩ : ∃ j, i = j + 1 := ⟨i - 1, by have := h9p; omega⟩
      have hjl : j < s.all.length := by omega
      have had := adj_cond (hI.at_ (show j < j + 1 by omega) hil2).bef
      refine g_skip ?_
      refine n_then ?_
      refine g_seq ?_
      refine cut (fun a w => ∃ c d, St 146 [(3, .bool true), (5, u22), (6, .int .i64 ((j + 1 : Nat) : Int)), (10, .pointer (some ⟨c, 0, none⟩)), (11, .pointer (some ⟨d, 0, none⟩))] a ∧ HSat No w0 [Cel c 29 (Ord.enc s.all[j]), Cel d 29 (Ord.enc s.all[j + 1]), OSl 29 u22 5 Ord.enc s.all] w) ?_ ?_
      ·skip
       refine t_st (tails := [11, 12]) [] Fmo H ?_
       refine t_q 0 rfl (by kernel_rfl) (rem' := [1, 2, 3, 4, 5, 6, 7, 8, 9, 10, 11, 12]) rfl rfl rfl rfl S (fun w H => y_move rfl S rfl) fun a S => ?_
       refine t_q 1 rfl (by kernel_rfl) (rem' := [2, 3, 4, 5, 6, 7, 8, 9, 10, 11, 12]) rfl rfl rfl rfl S (fun w H => y_move rfl S rfl) fun a S => ?_
       refine t_q 2 rfl (by kernel_rfl) (rem' := [3, 4, 5, 6, 7, 8, 9, 10, 11, 12]) rfl rfl rfl rfl S (fun w H => (y_subn (m := j) rfl S rfl rfl (by omega) (by omega))) fun a S => ?_
       refine t_q 3 rfl (by kernel_rfl) (rem' := [4, 5, 6, 7, 8, 9, 10, 11, 12]) rfl rfl rfl rfl S (fun w H => y_iaddrn rfl Try.underlying39 Fsiz29 S H rfl rfl (by first | assumption | omega | (simp only [LL]; omega))) fun a S => ?_
       refine t_loadsa _ 4 rfl (by kernel_rfl) (rem' := [5, 6, 7, 8, 9, 10, 11, 12]) rfl rfl rfl rfl S rfl rfl (by exact Fagg29) (by first | assumption | omega | (simp only [LL]; omega)) fun a S => ?_
       refine t_p 5 rfl (by kernel_rfl) (rem' := [6, 7, 8, 9, 10, 11, 12]) rfl rfl rfl rfl S (fun w => y_move rfl S rfl) fun a S => ?_
       refine t_p 6 rfl (by kernel_rfl) (rem' := [7, 8, 9, 10, 11, 12]) rfl rfl rfl rfl S (fun w => y_move rfl S rfl) fun a S => ?_
       refine t_b [7, 9, 10] (by kernel_rfl) rfl (fa3 ?_ ?_ ?_)
       ·refine ⟨_, rfl, fun w H => ?_⟩
        refine op_y (wn rfl) rfl rfl S (y_iaddrn rfl Try.underlying39 Fsiz29 S H rfl rfl (by first | assumption | omega | (simp only [LL]; omega))) fun a S => ?_
        refine t_n H (rem' := [8, 9, 10, 11, 12]) rfl ?_
        refine t_b [8, 9, 10] (by kernel_rfl) rfl (fa3 ?_ ?_ ?_)
        ·refine ⟨_, rfl, fun w H => ?_⟩
         refine op_y (wn rfl) rfl rfl S (y_loadsa _ rfl S H rfl (by exact Fagg29) (by first | assumption | omega | (simp only [LL]; omega))) fun a S => ?_
         refine t_n H (rem' := [9, 10, 11, 12]) rfl ?_
         refine t_b [9, 10] (by kernel_rfl) rfl (fa2 ?_ ?_)
         ·refine ⟨_, rfl, fun w H => ?_⟩
          refine op_alloc (wn rfl) rfl rfl rfl S H Fzer29 fun b10 a w S H => ?_
          refine t_n H (rem' := [10, 11, 12]) rfl ?_
          refine t_b1 10 (by kernel_rfl) rfl fun w H => ?_
          refine op_alloc (wn rfl) rfl rfl rfl S H Fzer29 fun b11 a w S H => ?_
          refine t_n H (rem' := [11, 12]) rfl ?_
          refine t_b1 11 (by kernel_rfl) rfl fun w H => ?_
          refine op_storea (wn rfl) rfl rfl S H rfl rfl rfl Fsiz29 rfl (cs' := [_, _, _, _, _]) rfl fun a w S H => ?_
          refine t_tail H rfl (rem' := [12]) rfl ?_
          refine t_b1 12 (by kernel_rfl) rfl fun w H => ?_
          refine op_storea (wn rfl) rfl rfl S H rfl rfl rfl Fsiz29 rfl (cs' := [_, _, _, _, _]) rfl fun a w S H => ?_
          refine t_tail H rfl (rem' := []) rfl ?_
          refine t_nil (fun w H => ?_)
          exact ⟨b10, b11, ((((S.nil.cons S 11 rfl).cons S 10 rfl).cons S 6 rfl).cons S 5 rfl).cons S 3 rfl, H.take [Cel b10 29 [.int .i64 s.all[j].id, .int .i64 s.all[j].price, .bool s.all[j].sell, .string s.all[j].person, .int .i64 s.all[j].serial], Cel b11 29 [.int .i64 s.all[j + 1].id, .int .i64 s.all[j + 1].price, .bool s.all[j + 1].sell, .string s.all[j + 1].person, .int .i64 s.all[j + 1].serial], OSl 29 u22 5 Ord.enc s.all]⟩
         ·refine ⟨_, rfl, fun w H => ?_⟩
          refine op_alloc (wn rfl) rfl rfl rfl S H Fzer29 fun b11 a w S H => ?_
          refine t_n H (rem' := [9, 11, 12]) rfl ?_
          refine t_b1 9 (by kernel_rfl) rfl fun w H => ?_
          refine op_alloc (wn rfl) rfl rfl rfl S H Fzer29 fun b10 a w S H => ?_
          refine t_n H (rem' := [11, 12]) rfl ?_
          refine t_b1 11 (by kernel_rfl) rfl fun w H => ?_
          refine op_storea (wn rfl) rfl rfl S H rfl rfl rfl Fsiz29 rfl (cs' := [_, _, _, _, _]) rfl fun a w S H => ?_
          refine t_tail H rfl (rem' := [12]) rfl ?_
          refine t_b1 12 (by kernel_rfl) rfl fun w H => ?_
          refine op_storea (wn rfl) rfl rfl S H rfl rfl rfl Fsiz29 rfl (cs' := [_, _, _, _, _]) rfl fun a w S H => ?_
          refine t_tail H rfl (rem' := []) rfl ?_
          refine t_nil (fun w H => ?_)
          exact ⟨b10, b11, ((((S.nil.cons S 11 rfl).cons S 10 rfl).cons S 6 rfl).cons S 5 rfl).cons S 3 rfl, H.take [Cel b10 29 [.int .i64 s.all[j].id, .int .i64 s.all[j].price, .bool s.all[j].sell, .string s.all[j].person, .int .i64 s.all[j].serial], Cel b11 29 [.int .i64 s.all[j + 1].id, .int .i64 s.all[j + 1].price, .bool s.all[j + 1].sell, .string s.all[j + 1].person, .int .i64 s.all[j + 1].serial], OSl 29 u22 5 Ord.enc s.all]⟩
        ·refine ⟨_, rfl, fun w H => ?_⟩
         refine op_alloc (wn rfl) rfl rfl rfl S H Fzer29 fun b10 a w S H => ?_
         refine t_n H (rem' := [8, 10, 11, 12]) rfl ?_
         refine t_b [8, 10] (by kernel_rfl) rfl (fa2 ?_ ?_)
         ·refine ⟨_, rfl, fun w H => ?_⟩
          refine op_y (wn rfl) rfl rfl S (y_loadsa _ rfl S H rfl (by exact Fagg29) (by first | assumption | omega | (simp only [LL]; omega))) fun a S => ?_
          refine t_n H (rem' := [10, 11, 12]) rfl ?_
          refine t_b1 10 (by kernel_rfl) rfl fun w H => ?_
          refine op_alloc (wn rfl) rfl rfl rfl S H Fzer29 fun b11 a w S H => ?_
          refine t_n H (rem' := [11, 12]) rfl ?_
          refine t_b1 11 (by kernel_rfl) rfl fun w H => ?_
          refine op_storea (wn rfl) rfl rfl S H rfl rfl rfl Fsiz29 rfl (cs' := [_, _, _, _, _]) rfl fun a w S H => ?_
          refine t_tail H rfl (rem' := [12]) rfl ?_
          refine t_b1 12 (by kernel_rfl) rfl fun w H => ?_
          refine op_storea (wn rfl) rfl rfl S H rfl rfl rfl Fsiz29 rfl (cs' := [_, _, _, _, _]) rfl fun a w S H => ?_
          refine t_tail H rfl (rem' := []) rfl ?_
          refine t_nil (fun w H => ?_)
          exact ⟨b10, b11, ((((S.nil.cons S 11 rfl).cons S 10 rfl).cons S 6 rfl).cons S 5 rfl).cons S 3 rfl, H.take [Cel b10 29 [.int .i64 s.all[j].id, .int .i64 s.all[j].price, .bool s.all[j].sell, .string s.all[j].person, .int .i64 s.all[j].serial], Cel b11 29 [.int .i64 s.all[j + 1].id, .int .i64 s.all[j + 1].price, .bool s.all[j + 1].sell, .string s.all[j + 1].person, .int .i64 s.all[j + 1].serial], OSl 29 u22 5 Ord.enc s.all]⟩
         ·refine ⟨_, rfl, fun w H => ?_⟩
          refine op_alloc (wn rfl) rfl rfl rfl S H Fzer29 fun b11 a w S H => ?_
          refine t_n H (rem' := [8, 11, 12]) rfl ?_
          refine t_b [8, 11] (by kernel_rfl) rfl (fa2 ?_ ?_)
          ·refine ⟨_, rfl, fun w H => ?_⟩
           refine op_y (wn rfl) rfl rfl S (y_loadsa _ rfl S H rfl (by exact Fagg29) (by first | assumption | omega | (simp only [LL]; omega))) fun a S => ?_
           refine t_n H (rem' := [11, 12]) rfl ?_
           refine t_b1 11 (by kernel_rfl) rfl fun w H => ?_
           refine op_storea (wn rfl) rfl rfl S H rfl rfl rfl Fsiz29 rfl (cs' := [_, _, _, _, _]) rfl fun a w S H => ?_
           refine t_tail H rfl (rem' := [12]) rfl ?_
           refine t_b1 12 (by kernel_rfl) rfl fun w H => ?_
           refine op_storea (wn rfl) rfl rfl S H rfl rfl rfl Fsiz29 rfl (cs' := [_, _, _, _, _]) rfl fun a w S H => ?_
           refine t_tail H rfl (rem' := []) rfl ?_
           refine t_nil (fun w H => ?_)
           exact ⟨b10, b11, ((((S.nil.cons S 11 rfl).cons S 10 rfl).cons S 6 rfl).cons S 5 rfl).cons S 3 rfl, H.take [Cel b10 29 [.int .i64 s.all[j].id, .int .i64 s.all[j].price, .bool s.all[j].sell, .string s.all[j].person, .int .i64 s.all[j].serial], Cel b11 29 [.int .i64 s.all[j + 1].id, .int .i64 s.all[j + 1].price, .bool s.all[j + 1].sell, .string s.all[j + 1].person, .int .i64 s.all[j + 1].serial], OSl 29 u22 5 Ord.enc s.all]⟩
          ·refine ⟨_, rfl, fun w H => ?_⟩
           refine op_storea (wn rfl) rfl rfl S H rfl rfl rfl Fsiz29 rfl (cs' := [_, _, _, _, _]) rfl fun a w S H => ?_
           refine t_tail H rfl (rem' := [8, 12]) rfl ?_
           refine t_loadsa _ 8 rfl (by kernel_rfl) (rem' := [12]) rfl rfl rfl rfl S rfl rfl (by exact Fagg29) (by first | assumption | omega | (simp only [LL]; omega)) fun a S => ?_
           refine t_b1 12 (by kernel_rfl) rfl fun w H => ?_
           refine op_storea (wn rfl) rfl rfl S H rfl rfl rfl Fsiz29 rfl (cs' := [_, _, _, _, _]) rfl fun a w S H => ?_
           refine t_tail H rfl (rem' := []) rfl ?_
           refine t_nil (fun w H => ?_)
           exact ⟨b10, b11, ((((S.nil.cons S 11 rfl).cons S 10 rfl).cons S 6 rfl).cons S 5 rfl).cons S 3 rfl, H.take [Cel b10 29 [.int .i64 s.all[j].id, .int .i64 s.all[j].price, .bool s.all[j].sell, .string s.all[j].person, .int .i64 s.all[j].serial], Cel b11 29 [.int .i64 s.all[j + 1].id, .int .i64 s.all[j + 1].price, .bool s.all[j + 1].sell, .string s.all[j + 1].person, .int .i64 s.all[j + 1].serial], OSl 29 u22 5 Ord.enc s.all]⟩
        ·refine ⟨_, rfl, fun w H => ?_⟩
         refine op_alloc (wn rfl) rfl rfl rfl S H Fzer29 fun b11 a w S H => ?_
         refine t_n H (rem' := [8, 9, 11, 12]) rfl ?_
         refine t_b [8, 9] (by kernel_rfl) rfl (fa2 ?_ ?_)
         ·refine ⟨_, rfl, fun w H => ?_⟩
          refine op_y (wn rfl) rfl rfl S (y_loadsa _ rfl S H rfl (by exact Fagg29) (by first | assumption | omega | (simp only [LL]; omega))) fun a S => ?_
          refine t_n H (rem' := [9, 11, 12]) rfl ?_
          refine t_b1 9 (by kernel_rfl) rfl fun w H => ?_
          refine op_alloc (wn rfl) rfl rfl rfl S H Fzer29 fun b10 a w S H => ?_
          refine t_n H (rem' := [11, 12]) rfl ?_
          refine t_b1 11 (by kernel_rfl) rfl fun w H => ?_
          refine op_storea (wn rfl) rfl rfl S H rfl rfl rfl Fsiz29 rfl (cs' := [_, _, _, _, _]) rfl fun a w S H => ?_
          refine t_tail H rfl (rem' := [12]) rfl ?_
          refine t_b1 12 (by kernel_rfl) rfl fun w H => ?_
          refine op_storea (wn rfl) rfl rfl S H rfl rfl rfl Fsiz29 rfl (cs' := [_, _, _, _, _]) rfl fun a w S H => ?_
          refine t_tail H rfl (rem' := []) rfl ?_
          refine t_nil (fun w H => ?_)
          exact ⟨b10, b11, ((((S.nil.cons S 11 rfl).cons S 10 rfl).cons S 6 rfl).cons S 5 rfl).cons S 3 rfl, H.take [Cel b10 29 [.int .i64 s.all[j].id, .int .i64 s.all[j].price, .bool s.all[j].sell, .string s.all[j].person, .int .i64 s.all[j].serial], Cel b11 29 [.int .i64 s.all[j + 1].id, .int .i64 s.all[j + 1].price, .bool s.all[j + 1].sell, .string s.all[j + 1].person, .int .i64 s.all[j + 1].serial], OSl 29 u22 5 Ord.enc s.all]⟩
         ·refine ⟨_, rfl, fun w H => ?_⟩
          refine op_alloc (wn rfl) rfl rfl rfl S H Fzer29 fun b10 a w S H => ?_
          refine t_n H (rem' := [8, 11, 12]) rfl ?_
          refine t_b [8, 11] (by kernel_rfl) rfl (fa2 ?_ ?_)
          ·refine ⟨_, rfl, fun w H => ?_⟩
           refine op_y (wn rfl) rfl rfl S (y_loadsa _ rfl S H rfl (by exact Fagg29) (by first | assumption | omega | (simp only [LL]; omega))) fun a S => ?_
           refine t_n H (rem' := [11, 12]) rfl ?_
           refine t_b1 11 (by kernel_rfl) rfl fun w H => ?_
           refine op_storea (wn rfl) rfl rfl S H rfl rfl rfl Fsiz29 rfl (cs' := [_, _, _, _, _]) rfl fun a w S H => ?_
           refine t_tail H rfl (rem' := [12]) rfl ?_
           refine t_b1 12 (by kernel_rfl) rfl fun w H => ?_
           refine op_storea (wn rfl) rfl rfl S H rfl rfl rfl Fsiz29 rfl (cs' := [_, _, _, _, _]) rfl fun a w S H => ?_
           refine t_tail H rfl (rem' := []) rfl ?_
           refine t_nil (fun w H => ?_)
           exact ⟨b10, b11, ((((S.nil.cons S 11 rfl).cons S 10 rfl).cons S 6 rfl).cons S 5 rfl).cons S 3 rfl, H.take [Cel b10 29 [.int .i64 s.all[j].id, .int .i64 s.all[j].price, .bool s.all[j].sell, .string s.all[j].person, .int .i64 s.all[j].serial], Cel b11 29 [.int .i64 s.all[j + 1].id, .int .i64 s.all[j + 1].price, .bool s.all[j + 1].sell, .string s.all[j + 1].person, .int .i64 s.all[j + 1].serial], OSl 29 u22 5 Ord.enc s.all]⟩
          ·refine ⟨_, rfl, fun w H => ?_⟩
           refine op_storea (wn rfl) rfl rfl S H rfl rfl rfl Fsiz29 rfl (cs' := [_, _, _, _, _]) rfl fun a w S H => ?_
           refine t_tail H rfl (rem' := [8, 12]) rfl ?_
           refine t_loadsa _ 8 rfl (by kernel_rfl) (rem' := [12]) rfl rfl rfl rfl S rfl rfl (by exact Fagg29) (by first | assumption | omega | (simp only [LL]; omega)) fun a S => ?_
           refine t_b1 12 (by kernel_rfl) rfl fun w H => ?_
           refine op_storea (wn rfl) rfl rfl S H rfl rfl rfl Fsiz29 rfl (cs' := [_, _, _, _, _]) rfl fun a w S H => ?_
           refine t_tail H rfl (rem' := []) rfl ?_
           refine t_nil (fun w H => ?_)
           exact ⟨b10, b11, ((((S.nil.cons S 11 rfl).cons S 10 rfl).cons S 6 rfl).cons S 5 rfl).cons S 3 rfl, H.take [Cel b10 29 [.int .i64 s.all[j].id, .int .i64 s.all[j].price, .bool s.all[j].sell, .string s.all[j].person, .int .i64 s.all[j].serial], Cel b11 29 [.int .i64 s.all[j + 1].id, .int .i64 s.all[j + 1].price, .bool s.all[j + 1].sell, .string s.all[j + 1].person, .int .i64 s.all[j + 1].serial], OSl 29 u22 5 Ord.enc s.all]⟩
       ·refine ⟨_, rfl, fun w H => ?_⟩
        refine op_alloc (wn rfl) rfl rfl rfl S H Fzer29 fun b10 a w S H => ?_
        refine t_n H (rem' := [7, 8, 10, 11, 12]) rfl ?_
        refine t_b [7, 10] (by kernel_rfl) rfl (fa2 ?_ ?_)
        ·refine ⟨_, rfl, fun w H => ?_⟩
         refine op_y (wn rfl) rfl rfl S (y_iaddrn rfl Try.underlying39 Fsiz29 S H rfl rfl (by first | assumption | omega | (simp only [LL]; omega))) fun a S => ?_
         refine t_n H (rem' := [8, 10, 11, 12]) rfl ?_
         refine t_b [8, 10] (by kernel_rfl) rfl (fa2 ?_ ?_)
         ·refine ⟨_, rfl, fun w H => ?_⟩
          refine op_y (wn rfl) rfl rfl S (y_loadsa _ rfl S H rfl (by exact Fagg29) (by first | assumption | omega | (simp only [LL]; omega))) fun a S => ?_
          refine t_n H (rem' := [10, 11, 12]) rfl ?_
          refine t_b1 10 (by kernel_rfl) rfl fun w H => ?_
          refine op_alloc (wn rfl) rfl rfl rfl S H Fzer29 fun b11 a w S H => ?_
          refine t_n H (rem' := [11, 12]) rfl ?_
          refine t_b1 11 (by kernel_rfl) rfl fun w H => ?_
          refine op_storea (wn rfl) rfl rfl S H rfl rfl rfl Fsiz29 rfl (cs' := [_, _, _, _, _]) rfl fun a w S H => ?_
          refine t_tail H rfl (rem' := [12]) rfl ?_
          refine t_b1 12 (by kernel_rfl) rfl fun w H => ?_
          refine op_storea (wn rfl) rfl rfl S H rfl rfl rfl Fsiz29 rfl (cs' := [_, _, _, _, _]) rfl fun a w S H => ?_
          refine t_tail H rfl (rem' := []) rfl ?_
          refine t_nil (fun w H => ?_)
          exact ⟨b10, b11, ((((S.nil.cons S 11 rfl).cons S 10 rfl).cons S 6 rfl).cons S 5 rfl).cons S 3 rfl, H.take [Cel b10 29 [.int .i64 s.all[j].id, .int .i64 s.all[j].price, .bool s.all[j].sell, .string s.all[j].person, .int .i64 s.all[j].serial], Cel b11 29 [.int .i64 s.all[j + 1].id, .int .i64 s.all[j + 1].price, .bool s.all[j + 1].sell, .string s.all[j + 1].person, .int .i64 s.all[j + 1].serial], OSl 29 u22 5 Ord.enc s.all]⟩
         ·refine ⟨_, rfl, fun w H => ?_⟩
          refine op_alloc (wn rfl) rfl rfl rfl S H Fzer29 fun b11 a w S H => ?_
          refine t_n H (rem' := [8, 11, 12]) rfl ?_
          refine t_b [8, 11] (by kernel_rfl) rfl (fa2 ?_ ?_)
          ·refine ⟨_, rfl, fun w H => ?_⟩
           refine op_y (wn rfl) rfl rfl S (y_loadsa _ rfl S H rfl (by exact Fagg29) (by first | assumption | omega | (simp only [LL]; omega))) fun a S => ?_
           refine t_n H (rem' := [11, 12]) rfl ?_
           refine t_b1 11 (by kernel_rfl) rfl fun w H => ?_
           refine op_storea (wn rfl) rfl rfl S H rfl rfl rfl Fsiz29 rfl (cs' := [_, _, _, _, _]) rfl fun a w S H => ?_
           refine t_tail H rfl (rem' := [12]) rfl ?_
           refine t_b1 12 (by kernel_rfl) rfl fun w H => ?_
           refine op_storea (wn rfl) rfl rfl S H rfl rfl rfl Fsiz29 rfl (cs' := [_, _, _, _, _]) rfl fun a w S H => ?_
           refine t_tail H rfl (rem' := []) rfl ?_
           refine t_nil (fun w H => ?_)
           exact ⟨b10, b11, ((((S.nil.cons S 11 rfl).cons S 10 rfl).cons S 6 rfl).cons S 5 rfl).cons S 3 rfl, H.take [Cel b10 29 [.int .i64 s.all[j].id, .int .i64 s.all[j].price, .bool s.all[j].sell, .string s.all[j].person, .int .i64 s.all[j].serial], Cel b11 29 [.int .i64 s.all[j + 1].id, .int .i64 s.all[j + 1].price, .bool s.all[j + 1].sell, .string s.all[j + 1].person, .int .i64 s.all[j + 1].serial], OSl 29 u22 5 Ord.enc s.all]⟩
          ·refine ⟨_, rfl, fun w H => ?_⟩
           refine op_storea (wn rfl) rfl rfl S H rfl rfl rfl Fsiz29 rfl (cs' := [_, _, _, _, _]) rfl fun a w S H => ?_
           refine t_tail H rfl (rem' := [8, 12]) rfl ?_
           refine t_loadsa _ 8 rfl (by kernel_rfl) (rem' := [12]) rfl rfl rfl rfl S rfl rfl (by exact Fagg29) (by first | assumption | omega | (simp only [LL]; omega)) fun a S => ?_
           refine t_b1 12 (by kernel_rfl) rfl fun w H => ?_
           refine op_storea (wn rfl) rfl rfl S H rfl rfl rfl Fsiz29 rfl (cs' := [_, _, _, _, _]) rfl fun a w S H => ?_
           refine t_tail H rfl (rem' := []) rfl ?_
           refine t_nil (fun w H => ?_)
           exact ⟨b10, b11, ((((S.nil.cons S 11 rfl).cons S 10 rfl).cons S 6 rfl).cons S 5 rfl).cons S 3 rfl, H.take [Cel b10 29 [.int .i64 s.all[j].id, .int .i64 s.all[j].price, .bool s.all[j].sell, .string s.all[j].person, .int .i64 s.all[j].serial], Cel b11 29 [.int .i64 s.all[j + 1].id, .int .i64 s.all[j + 1].price, .bool s.all[j + 1].sell, .string s.all[j + 1].person, .int .i64 s.all[j + 1].serial], OSl 29 u22 5 Ord.enc s.all]⟩
        ·refine ⟨_, rfl, fun w H => ?_⟩
         refine op_alloc (wn rfl) rfl rfl rfl S H Fzer29 fun b11 a w S H => ?_
         refine t_n H (rem' := [7, 8, 11, 12]) rfl ?_
         refine t_b [7, 11] (by kernel_rfl) rfl (fa2 ?_ ?_)
         ·refine ⟨_, rfl, fun w H => ?_⟩
          refine op_y (wn rfl) rfl rfl S (y_iaddrn rfl Try.underlying39 Fsiz29 S H rfl rfl (by first | assumption | omega | (simp only [LL]; omega))) fun a S => ?_
          refine t_n H (rem' := [8, 11, 12]) rfl ?_
          refine t_b [8, 11] (by kernel_rfl) rfl (fa2 ?_ ?_)
          ·refine ⟨_, rfl, fun w H => ?_⟩
           refine op_y (wn rfl) rfl rfl S (y_loadsa _ rfl S H rfl (by exact Fagg29) (by first | assumption | omega | (simp only [LL]; omega))) fun a S => ?_
           refine t_n H (rem' := [11, 12]) rfl ?_
           refine t_b1 11 (by kernel_rfl) rfl fun w H => ?_
           refine op_storea (wn rfl) rfl rfl S H rfl rfl rfl Fsiz29 rfl (cs' := [_, _, _, _, _]) rfl fun a w S H => ?_
           refine t_tail H rfl (rem' := [12]) rfl ?_
           refine t_b1 12 (by kernel_rfl) rfl fun w H => ?_
           refine op_storea (wn rfl) rfl rfl S H rfl rfl rfl Fsiz29 rfl (cs' := [_, _, _, _, _]) rfl fun a w S H => ?_
           refine t_tail H rfl (rem' := []) rfl ?_
           refine t_nil (fun w H => ?_)
           exact ⟨b10, b11, ((((S.nil.cons S 11 rfl).cons S 10 rfl).cons S 6 rfl).cons S 5 rfl).cons S 3 rfl, H.take [Cel b10 29 [.int .i64 s.all[j].id, .int .i64 s.all[j].price, .bool s.all[j].sell, .string s.all[j].person, .int .i64 s.all[j].serial], Cel b11 29 [.int .i64 s.all[j + 1].id, .int .i64 s.all[j + 1].price, .bool s.all[j + 1].sell, .string s.all[j + 1].person, .int .i64 s.all[j + 1].serial], OSl 29 u22 5 Ord.enc s.all]⟩
          ·refine ⟨_, rfl, fun w H => ?_⟩
           refine op_storea (wn rfl) rfl rfl S H rfl rfl rfl Fsiz29 rfl (cs' := [_, _, _, _, _]) rfl fun a w S H => ?_
           refine t_tail H rfl (rem' := [8, 12]) rfl ?_
           refine t_loadsa _ 8 rfl (by kernel_rfl) (rem' := [12]) rfl rfl rfl rfl S rfl rfl (by exact Fagg29) (by first | assumption | omega | (simp only [LL]; omega)) fun a S => ?_
           refine t_b1 12 (by kernel_rfl) rfl fun w H => ?_
           refine op_storea (wn rfl) rfl rfl S H rfl rfl rfl Fsiz29 rfl (cs' := [_, _, _, _, _]) rfl fun a w S H => ?_
           refine t_tail H rfl (rem' := []) rfl ?_
           refine t_nil (fun w H => ?_)
           exact ⟨b10, b11, ((((S.nil.cons S 11 rfl).cons S 10 rfl).cons S 6 rfl).cons S 5 rfl).cons S 3 rfl, H.take [Cel b10 29 [.int .i64 s.all[j].id, .int .i64 s.all[j].price, .bool s.all[j].sell, .string s.all[j].person, .int .i64 s.all[j].serial], Cel b11 29 [.int .i64 s.all[j + 1].id, .int .i64 s.all[j + 1].price, .bool s.all[j + 1].sell, .string s.all[j + 1].person, .int .i64 s.all[j + 1].serial], OSl 29 u22 5 Ord.enc s.all]⟩
         ·refine ⟨_, rfl, fun w H => ?_⟩
          refine op_storea (wn rfl) rfl rfl S H rfl rfl rfl Fsiz29 rfl (cs' := [_, _, _, _, _]) rfl fun a w S H => ?_
          refine t_tail H rfl (rem' := [7, 8, 12]) rfl ?_
          refine t_q 7 rfl (by kernel_rfl) (rem' := [8, 12]) rfl rfl rfl rfl S (fun w H => y_iaddrn rfl Try.underlying39 Fsiz29 S H rfl rfl (by first | assumption | omega | (simp only [LL]; omega))) fun a S => ?_
          refine t_loadsa _ 8 rfl (by kernel_rfl) (rem' := [12]) rfl rfl rfl rfl S rfl rfl (by exact Fagg29) (by first | assumption | omega | (simp only [LL]; omega)) fun a S => ?_
          refine t_b1 12 (by kernel_rfl) rfl fun w H => ?_
          refine op_storea (wn rfl) rfl rfl S H rfl rfl rfl Fsiz29 rfl (cs' := [_, _, _, _, _]) rfl fun a w S H => ?_
          refine t_tail H rfl (rem' := []) rfl ?_
          refine t_nil (fun w H => ?_)
          exact ⟨b10, b11, ((((S.nil.cons S 11 rfl).cons S 10 rfl).cons S 6 rfl).cons S 5 rfl).cons S 3 rfl, H.take [Cel b10 29 [.int .i64 s.all[j].id, .int .i64 s.all[j].price, .bool s.all[j].sell, .string s.all[j].person, .int .i64 s.all[j].serial], Cel b11 29 [.int .i64 s.all[j + 1].id, .int .i64 s.all[j + 1].price, .bool s.all[j + 1].sell, .string s.all[j + 1].person, .int .i64 s.all[j + 1].serial], OSl 29 u22 5 Ord.enc s.all]⟩
       ·refine ⟨_, rfl, fun w H => ?_⟩
        refine op_alloc (wn rfl) rfl rfl rfl S H Fzer29 fun b11 a w S H => ?_
        refine t_n H (rem' := [7, 8, 9, 11, 12]) rfl ?_
        refine t_b [7, 9] (by kernel_rfl) rfl (fa2 ?_ ?_)
        ·refine ⟨_, rfl, fun w H => ?_⟩
         refine op_y (wn rfl) rfl rfl S (y_iaddrn rfl Try.underlying39 Fsiz29 S H rfl rfl (by first | assumption | omega | (simp only [LL]; omega))) fun a S => ?_
         refine t_n H (rem' := [8, 9, 11, 12]) rfl ?_
         refine t_b [8, 9] (by kernel_rfl) rfl (fa2 ?_ ?_)
         ·refine ⟨_, rfl, fun w H => ?_⟩
          refine op_y (wn rfl) rfl rfl S (y_loadsa _ rfl S H rfl (by exact Fagg29) (by first | assumption | omega | (simp only [LL]; omega))) fun a S => ?_
          refine t_n H (rem' := [9, 11, 12]) rfl ?_
          refine t_b1 9 (by kernel_rfl) rfl fun w H => ?_
          refine op_alloc (wn rfl) rfl rfl rfl S H Fzer29 fun b10 a w S H => ?_
          refine t_n H (rem' := [11, 12]) rfl ?_
          refine t_b1 11 (by kernel_rfl) rfl fun w H => ?_
          refine op_storea (wn rfl) rfl rfl S H rfl rfl rfl Fsiz29 rfl (cs' := [_, _, _, _, _]) rfl fun a w S H => ?_
          refine t_tail H rfl (rem' := [12]) rfl ?_
          refine t_b1 12 (by kernel_rfl) rfl fun w H => ?_
          refine op_storea (wn rfl) rfl rfl S H rfl rfl rfl Fsiz29 rfl (cs' := [_, _, _, _, _]) rfl fun a w S H => ?_
          refine t_tail H rfl (rem' := []) rfl ?_
          refine t_nil (fun w H => ?_)
          exact ⟨b10, b11, ((((S.nil.cons S 11 rfl).cons S 10 rfl).cons S 6 rfl).cons S 5 rfl).cons S 3 rfl, H.take [Cel b10 29 [.int .i64 s.all[j].id, .int .i64 s.all[j].price, .bool s.all[j].sell, .string s.all[j].person, .int .i64 s.all[j].serial], Cel b11 29 [.int .i64 s.all[j + 1].id, .int .i64 s.all[j + 1].price, .bool s.all[j + 1].sell, .string s.all[j + 1].person, .int .i64 s.all[j + 1].serial], OSl 29 u22 5 Ord.enc s.all]⟩
         ·refine ⟨_, rfl, fun w H => ?_⟩
          refine op_alloc (wn rfl) rfl rfl rfl S H Fzer29 fun b10 a w S H => ?_
          refine t_n H (rem' := [8, 11, 12]) rfl ?_
          refine t_b [8, 11] (by kernel_rfl) rfl (fa2 ?_ ?_)
          ·refine ⟨_, rfl, fun w H => ?_⟩
           refine op_y (wn rfl) rfl rfl S (y_loadsa _ rfl S H rfl (by exact Fagg29) (by first | assumption | omega | (simp only [LL]; omega))) fun a S => ?_
           refine t_n H (rem' := [11, 12]) rfl ?_
           refine t_b1 11 (by kernel_rfl) rfl fun w H => ?_
           refine op_storea (wn rfl) rfl rfl S H rfl rfl rfl Fsiz29 rfl (cs' := [_, _, _, _, _]) rfl fun a w S H => ?_
           refine t_tail H rfl (rem' := [12]) rfl ?_
           refine t_b1 12 (by kernel_rfl) rfl fun w H => ?_
           refine op_storea (wn rfl) rfl rfl S H rfl rfl rfl Fsiz29 rfl (cs' := [_, _, _, _, _]) rfl fun a w S H => ?_
           refine t_tail H rfl (rem' := []) rfl ?_
           refine t_nil (fun w H => ?_)
           exact ⟨b10, b11, ((((S.nil.cons S 11 rfl).cons S 10 rfl).cons S 6 rfl).cons S 5 rfl).cons S 3 rfl, H.take [Cel b10 29 [.int .i64 s.all[j].id, .int .i64 s.all[j].price, .bool s.all[j].sell, .string s.all[j].person, .int .i64 s.all[j].serial], Cel b11 29 [.int .i64 s.all[j + 1].id, .int .i64 s.all[j + 1].price, .bool s.all[j + 1].sell, .string s.all[j + 1].person, .int .i64 s.all[j + 1].serial], OSl 29 u22 5 Ord.enc s.all]⟩
          ·refine ⟨_, rfl, fun w H => ?_⟩
           refine op_storea (wn rfl) rfl rfl S H rfl rfl rfl Fsiz29 rfl (cs' := [_, _, _, _, _]) rfl fun a w S H => ?_
           refine t_tail H rfl (rem' := [8, 12]) rfl ?_
           refine t_loadsa _ 8 rfl (by kernel_rfl) (rem' := [12]) rfl rfl rfl rfl S rfl rfl (by exact Fagg29) (by first | assumption | omega | (simp only [LL]; omega)) fun a S => ?_
           refine t_b1 12 (by kernel_rfl) rfl fun w H => ?_
           refine op_storea (wn rfl) rfl rfl S H rfl rfl rfl Fsiz29 rfl (cs' := [_, _, _, _, _]) rfl fun a w S H => ?_
           refine t_tail H rfl (rem' := []) rfl ?_
           refine t_nil (fun w H => ?_)
           exact ⟨b10, b11, ((((S.nil.cons S 11 rfl).cons S 10 rfl).cons S 6 rfl).cons S 5 rfl).cons S 3 rfl, H.take [Cel b10 29 [.int .i64 s.all[j].id, .int .i64 s.all[j].price, .bool s.all[j].sell, .string s.all[j].person, .int .i64 s.all[j].serial], Cel b11 29 [.int .i64 s.all[j + 1].id, .int .i64 s.all[j + 1].price, .bool s.all[j + 1].sell, .string s.all[j + 1].person, .int .i64 s.all[j + 1].serial], OSl 29 u22 5 Ord.enc s.all]⟩
        ·refine ⟨_, rfl, fun w H => ?_⟩
         refine op_alloc (wn rfl) rfl rfl rfl S H Fzer29 fun b10 a w S H => ?_
         refine t_n H (rem' := [7, 8, 11, 12]) rfl ?_
         refine t_b [7, 11] (by kernel_rfl) rfl (fa2 ?_ ?_)
         ·refine ⟨_, rfl, fun w H => ?_⟩
          refine op_y (wn rfl) rfl rfl S (y_iaddrn rfl Try.underlying39 Fsiz29 S H rfl rfl (by first | assumption | omega | (simp only [LL]; omega))) fun a S => ?_
          refine t_n H (rem' := [8, 11, 12]) rfl ?_
          refine t_b [8, 11] (by kernel_rfl) rfl (fa2 ?_ ?_)
          ·refine ⟨_, rfl, fun w H => ?_⟩
           refine op_y (wn rfl) rfl rfl S (y_loadsa _ rfl S H rfl (by exact Fagg29) (by first | assumption | omega | (simp only [LL]; omega))) fun a S => ?_
           refine t_n H (rem' := [11, 12]) rfl ?_
           refine t_b1 11 (by kernel_rfl) rfl fun w H => ?_
           refine op_storea (wn rfl) rfl rfl S H rfl rfl rfl Fsiz29 rfl (cs' := [_, _, _, _, _]) rfl fun a w S H => ?_
           refine t_tail H rfl (rem' := [12]) rfl ?_
           refine t_b1 12 (by kernel_rfl) rfl fun w H => ?_
           refine op_storea (wn rfl) rfl rfl S H rfl rfl rfl Fsiz29 rfl (cs' := [_, _, _, _, _]) rfl fun a w S H => ?_
           refine t_tail H rfl (rem' := []) rfl ?_
           refine t_nil (fun w H => ?_)
           exact ⟨b10, b11, ((((S.nil.cons S 11 rfl).cons S 10 rfl).cons S 6 rfl).cons S 5 rfl).cons S 3 rfl, H.take [Cel b10 29 [.int .i64 s.all[j].id, .int .i64 s.all[j].price, .bool s.all[j].sell, .string s.all[j].person, .int .i64 s.all[j].serial], Cel b11 29 [.int .i64 s.all[j + 1].id, .int .i64 s.all[j + 1].price, .bool s.all[j + 1].sell, .string s.all[j + 1].person, .int .i64 s.all[j + 1].serial], OSl 29 u22 5 Ord.enc s.all]⟩
          ·refine ⟨_, rfl, fun w H => ?_⟩
           refine op_storea (wn rfl) rfl rfl S H rfl rfl rfl Fsiz29 rfl (cs' := [_, _, _, _, _]) rfl fun a w S H => ?_
           refine t_tail H rfl (rem' := [8, 12]) rfl ?_
           refine t_loadsa _ 8 rfl (by kernel_rfl) (rem' := [12]) rfl rfl rfl rfl S rfl rfl (by exact Fagg29) (by first | assumption | omega | (simp only [LL]; omega)) fun a S => ?_
           refine t_b1 12 (by kernel_rfl) rfl fun w H => ?_
           refine op_storea (wn rfl) rfl rfl S H rfl rfl rfl Fsiz29 rfl (cs' := [_, _, _, _, _]) rfl fun a w S H => ?_
           refine t_tail H rfl (rem' := []) rfl ?_
           refine t_nil (fun w H => ?_)
           exact ⟨b10, b11, ((((S.nil.cons S 11 rfl).cons S 10 rfl).cons S 6 rfl).cons S 5 rfl).cons S 3 rfl, H.take [Cel b10 29 [.int .i64 s.all[j].id, .int .i64 s.all[j].price, .bool s.all[j].sell, .string s.all[j].person, .int .i64 s.all[j].serial], Cel b11 29 [.int .i64 s.all[j + 1].id, .int .i64 s.all[j + 1].price, .bool s.all[j + 1].sell, .string s.all[j + 1].person, .int .i64 s.all[j + 1].serial], OSl 29 u22 5 Ord.enc s.all]⟩
         ·refine ⟨_, rfl, fun w H => ?_⟩
          refine op_storea (wn rfl) rfl rfl S H rfl rfl rfl Fsiz29 rfl (cs' := [_, _, _, _, _]) rfl fun a w S H => ?_
          refine t_tail H rfl (rem' := [7, 8, 12]) rfl ?_
          refine t_q 7 rfl (by kernel_rfl) (rem' := [8, 12]) rfl rfl rfl rfl S (fun w H => y_iaddrn rfl Try.underlying39 Fsiz29 S H rfl rfl (by first | assumption | omega | (simp only [LL]; omega))) fun a S => ?_
          refine t_loadsa _ 8 rfl (by kernel_rfl) (rem' := [12]) rfl rfl rfl rfl S rfl rfl (by exact Fagg29) (by first | assumption | omega | (simp only [LL]; omega)) fun a S => ?_
          refine t_b1 12 (by kernel_rfl) rfl fun w H => ?_
          refine op_storea (wn rfl) rfl rfl S H rfl rfl rfl Fsiz29 rfl (cs' := [_, _, _, _, _]) rfl fun a w S H => ?_
          refine t_tail H rfl (rem' := []) rfl ?_
          refine t_nil (fun w H => ?_)
          exact ⟨b10, b11, ((((S.nil.cons S 11 rfl).cons S 10 rfl).cons S 6 rfl).cons S 5 rfl).cons S 3 rfl, H.take [Cel b10 29 [.int .i64 s.all[j].id, .int .i64 s.all[j].price, .bool s.all[j].sell, .string s.all[j].person, .int .i64 s.all[j].serial], Cel b11 29 [.int .i64 s.all[j + 1].id, .int .i64 s.all[j + 1].price, .bool s.all[j + 1].sell, .string s.all[j + 1].person, .int .i64 s.all[j + 1].serial], OSl 29 u22 5 Ord.enc s.all]⟩
      rintro a w ⟨c, d, S, H⟩
      refine gsr ?_
      refine gy rfl rfl rfl S (y_faddrb rfl Ffo29_2 S rfl) fun a S => ?_
      refine gy rfl rfl rfl S (y_load rfl Fsca4 S H rfl rfl) fun a S => ?_
      refine gm S fun a S => ?_
      refine' wl_and 3 80 rfl S H rfl rfl rfl rfl rfl rfl rfl (fun _ S => (wn rfl)) (fun h10 kk => ?yh10) (fun a w S H => ?_)
      case yh10 =>
       have h10p := h10; try simp only [DL] at h10p
       refine gz 80 h10 S rfl rfl rfl rfl rfl rfl (y_faddrb rfl Ffo29_2 S rfl) fun a S => ?_
       refine gz 80 h10 S rfl rfl rfl rfl rfl rfl (y_load rfl Fsca4 S H rfl rfl) fun a S => ?_
       refine gz 80 h10 S rfl rfl rfl rfl rfl rfl (y_not rfl S rfl) fun a S => ?_
       refine gy rfl rfl rfl S (y_and' rfl h10 S rfl rfl) fun a S => ?_
       exact kk _ _ (S.join 4 84 rfl rfl) H
      refine gm S fun a S => ?_
      refine' wl_or 27 85 rfl S H rfl rfl rfl rfl rfl rfl rfl (fun _ S => (wn rfl)) (fun h11 kk => ?yh11) (fun a w S H => ?_)
      case yh11 =>
       have h11p := h11; try simp only [DL] at h11p
       refine gz 85 h11 S rfl rfl rfl rfl rfl rfl (y_faddrb rfl Ffo29_2 S rfl) fun a S => ?_
       refine gz 85 h11 S rfl rfl rfl rfl rfl rfl (y_load rfl Fsca4 S H rfl rfl) fun a S => ?_
       refine gz 85 h11 S rfl rfl rfl rfl rfl rfl (y_move rfl S rfl) fun a S => ?_
       refine' wl_and 2 88 rfl S H rfl rfl rfl rfl rfl rfl rfl (fun _ S => (wg' 85 rfl rfl S rfl h11 rfl)) (fun h12 kk => ?yh12) (fun a w S H => ?_)
       case yh12 =>
        have h12p := h12; try simp only [DL] at h12p
        refine gz 88 h12 S rfl rfl rfl rfl rfl rfl (y_faddrb rfl Ffo29_2 S rfl) fun a S => ?_
        refine gz 88 h12 S rfl rfl rfl rfl rfl rfl (y_load rfl Fsca4 S H rfl rfl) fun a S => ?_
        refine gz 85 h11 S rfl rfl rfl rfl rfl rfl (y_and' rfl h12 S rfl rfl) fun a S => ?_
        exact kk _ _ (S.join 3 91 rfl rfl) H
       refine gz 85 h11 S rfl rfl rfl rfl rfl rfl (y_move rfl S rfl) fun a S => ?_
       refine' wl_and 19 92 rfl S H rfl rfl rfl rfl rfl rfl rfl (fun _ S => (wg' 85 rfl rfl S rfl h11 rfl)) (fun h13 kk => ?yh13) (fun a w S H => ?_)
       case yh13 =>
        have h13p := h13; try simp only [DL] at h13p
        refine gz 92 h13 S rfl rfl rfl rfl rfl rfl (y_faddrb rfl Ffo29_1 S rfl) fun a S => ?_
        refine gz 92 h13 S rfl rfl rfl rfl rfl rfl (y_load rfl Fsca3 S H rfl rfl) fun a S => ?_
        refine gz 92 h13 S rfl rfl rfl rfl rfl rfl (y_faddrb rfl Ffo29_1 S rfl) fun a S => ?_
        refine gz 92 h13 S rfl rfl rfl rfl rfl rfl (y_load rfl Fsca3 S H rfl rfl) fun a S => ?_
        refine gz 92 h13 S rfl rfl rfl rfl rfl rfl (y_bin rfl S rfl rfl rfl) fun a S => ?_
        refine gz 92 h13 S rfl rfl rfl rfl rfl rfl (y_move rfl S rfl) fun a S => ?_
        refine' wl_or 12 98 rfl S H rfl rfl rfl rfl rfl rfl rfl (fun _ S => (wg' 92 rfl rfl S rfl h13 rfl)) (fun h14 kk => ?yh14) (fun a w S H => ?_)
        case yh14 =>
         have h14p := h14; try simp only [DL] at h14p
         refine gz 98 h14 S rfl rfl rfl rfl rfl rfl (y_faddrb rfl Ffo29_1 S rfl) fun a S => ?_
         refine gz 98 h14 S rfl rfl rfl rfl rfl rfl (y_load rfl Fsca3 S H rfl rfl) fun a S => ?_
         refine gz 98 h14 S rfl rfl rfl rfl rfl rfl (y_faddrb rfl Ffo29_1 S rfl) fun a S => ?_
         refine gz 98 h14 S rfl rfl rfl rfl rfl rfl (y_load rfl Fsca3 S H rfl rfl) fun a S => ?_
         refine gz 98 h14 S rfl rfl rfl rfl rfl rfl (y_bin rfl S rfl rfl rfl) fun a S => ?_
         refine gz 98 h14 S rfl rfl rfl rfl rfl rfl (y_move rfl S rfl) fun a S => ?_
         refine' wl_and 5 104 rfl S H rfl rfl rfl rfl rfl rfl rfl (fun _ S => (wg' 98 rfl rfl S rfl h14 rfl)) (fun h15 kk => ?yh15) (fun a w S H => ?_)
         case yh15 =>
          have h15p := h15; try simp only [DL] at h15p
          refine gz 104 h15 S rfl rfl rfl rfl rfl rfl (y_faddrb rfl Ffo29_0 S rfl) fun a S => ?_
          refine gz 104 h15 S rfl rfl rfl rfl rfl rfl (y_load rfl Fsca3 S H rfl rfl) fun a S => ?_
          refine gz 104 h15 S rfl rfl rfl rfl rfl rfl (y_faddrb rfl Ffo29_0 S rfl) fun a S => ?_
          refine gz 104 h15 S rfl rfl rfl rfl rfl rfl (y_load rfl Fsca3 S H rfl rfl) fun a S => ?_
          refine gz 104 h15 S rfl rfl rfl rfl rfl rfl (y_bin rfl S rfl rfl rfl) fun a S => ?_
          refine gz 98 h14 S rfl rfl rfl rfl rfl rfl (y_and' rfl h15 S rfl rfl) fun a S => ?_
          exact kk _ _ (S.join 6 110 rfl rfl) H
         refine gz 92 h13 S rfl rfl rfl rfl rfl rfl (y_or' rfl h14 S rfl rfl) fun a S => ?_
         exact kk _ _ (S.join 8 111 rfl rfl) H
        refine gz 85 h11 S rfl rfl rfl rfl rfl rfl (y_and' rfl h13 S rfl rfl) fun a S => ?_
        exact kk _ _ (S.join 8 112 rfl rfl) H
       refine gy rfl rfl rfl S (y_or' rfl h11 S rfl rfl) fun a S => ?_
       exact kk _ _ (S.join 7 113 rfl rfl) H
      refine gm S fun a S => ?_
      refine' wl_or 29 114 rfl S H rfl rfl rfl rfl rfl rfl rfl (fun _ S => (wn rfl)) (fun h16 kk => ?yh16) (fun a w S H => ?_)
      case yh16 =>
       have h16p := h16; try simp only [DL] at h16p
       refine gz 114 h16 S rfl rfl rfl rfl rfl rfl (y_faddrb rfl Ffo29_2 S rfl) fun a S => ?_
       refine gz 114 h16 S rfl rfl rfl rfl rfl rfl (y_load rfl Fsca4 S H rfl rfl) fun a S => ?_
       refine gz 114 h16 S rfl rfl rfl rfl rfl rfl (y_not rfl S rfl) fun a S => ?_
       refine gz 114 h16 S rfl rfl rfl rfl rfl rfl (y_move rfl S rfl) fun a S => ?_
       refine' wl_and 3 118 rfl S H rfl rfl rfl rfl rfl rfl rfl (fun _ S => (wg' 114 rfl rfl S rfl h16 rfl)) (fun h17 kk => ?yh17) (fun a w S H => ?_)
       case yh17 =>
        have h17p := h17; try simp only [DL] at h17p
        refine gz 118 h17 S rfl rfl rfl rfl rfl rfl (y_faddrb rfl Ffo29_2 S rfl) fun a S => ?_
        refine gz 118 h17 S rfl rfl rfl rfl rfl rfl (y_load rfl Fsca4 S H rfl rfl) fun a S => ?_
        refine gz 118 h17 S rfl rfl rfl rfl rfl rfl (y_not rfl S rfl) fun a S => ?_
        refine gz 114 h16 S rfl rfl rfl rfl rfl rfl (y_and' rfl h17 S rfl rfl) fun a S => ?_
        exact kk _ _ (S.join 4 122 rfl rfl) H
       refine gz 114 h16 S rfl rfl rfl rfl rfl rfl (y_move rfl S rfl) fun a S => ?_
       refine' wl_and 19 123 rfl S H rfl rfl rfl rfl rfl rfl rfl (fun _ S => (wg' 114 rfl rfl S rfl h16 rfl)) (fun h18 kk => ?yh18) (fun a w S H => ?_)
       case yh18 =>
        have h18p := h18; try simp only [DL] at h18p
        refine gz 123 h18 S rfl rfl rfl rfl rfl rfl (y_faddrb rfl Ffo29_1 S rfl) fun a S => ?_
        refine gz 123 h18 S rfl rfl rfl rfl rfl rfl (y_load rfl Fsca3 S H rfl rfl) fun a S => ?_
        refine gz 123 h18 S rfl rfl rfl rfl rfl rfl (y_faddrb rfl Ffo29_1 S rfl) fun a S => ?_
        refine gz 123 h18 S rfl rfl rfl rfl rfl rfl (y_load rfl Fsca3 S H rfl rfl) fun a S => ?_
        refine gz 123 h18 S rfl rfl rfl rfl rfl rfl (y_bin rfl S rfl rfl rfl) fun a S => ?_
        refine gz 123 h18 S rfl rfl rfl rfl rfl rfl (y_move rfl S rfl) fun a S => ?_
        refine' wl_or 12 129 rfl S H rfl rfl rfl rfl rfl rfl rfl (fun _ S => (wg' 123 rfl rfl S rfl h18 rfl)) (fun h19 kk => ?yh19) (fun a w S H => ?_)
        case yh19 =>
         have h19p := h19; try simp only [DL] at h19p
         refine gz 129 h19 S rfl rfl rfl rfl rfl rfl (y_faddrb rfl Ffo29_1 S rfl) fun a S => ?_
         refine gz 129 h19 S rfl rfl rfl rfl rfl rfl (y_load rfl Fsca3 S H rfl rfl) fun a S => ?_
         refine gz 129 h19 S rfl rfl rfl rfl rfl rfl (y_faddrb rfl Ffo29_1 S rfl) fun a S => ?_
         refine gz 129 h19 S rfl rfl rfl rfl rfl rfl (y_load rfl Fsca3 S H rfl rfl) fun a S => ?_
         refine gz 129 h19 S rfl rfl rfl rfl rfl rfl (y_bin rfl S rfl rfl rfl) fun a S => ?_
         refine gz 129 h19 S rfl rfl rfl rfl rfl rfl (y_move rfl S rfl) fun a S => ?_
         refine' wl_and 5 135 rfl S H rfl rfl rfl rfl rfl rfl rfl (fun _ S => (wg' 129 rfl rfl S rfl h19 rfl)) (fun h20 kk => ?yh20) (fun a w S H => ?_)
         case yh20 =>
          have h20p := h20; try simp only [DL] at h20p
          refine gz 135 h20 S rfl rfl rfl rfl rfl rfl (y_faddrb rfl Ffo29_0 S rfl) fun a S => ?_
          refine gz 135 h20 S rfl rfl rfl rfl rfl rfl (y_load rfl Fsca3 S H rfl rfl) fun a S => ?_
          refine gz 135 h20 S rfl rfl rfl rfl rfl rfl (y_faddrb rfl Ffo29_0 S rfl) fun a S => ?_
          refine gz 135 h20 S rfl rfl rfl rfl rfl rfl (y_load rfl Fsca3 S H rfl rfl) fun a S => ?_
          refine gz 135 h20 S rfl rfl rfl rfl rfl rfl (y_bin rfl S rfl rfl rfl) fun a S => ?_
          refine gz 129 h19 S rfl rfl rfl rfl rfl rfl (y_and' rfl h20 S rfl rfl) fun a S => ?_
          exact kk _ _ (S.join 6 141 rfl rfl) H
         refine gz 123 h18 S rfl rfl rfl rfl rfl rfl (y_or' rfl h19 S rfl rfl) fun a S => ?_
         exact kk _ _ (S.join 8 142 rfl rfl) H
        refine gz 114 h16 S rfl rfl rfl rfl rfl rfl (y_and' rfl h18 S rfl rfl) fun a S => ?_
        exact kk _ _ (S.join 8 143 rfl rfl) H
       refine gy rfl rfl rfl S (y_or' rfl h16 S rfl rfl) fun a S => ?_
       exact kk _ _ (S.join 8 144 rfl rfl) H
      refine gnt ?_
      have S := (((S.nil.cons S 6 rfl).cons S 5 rfl).cons S 3 rfl).cons S 144 rfl
      refine c_if S rfl (fun h21 => ?_) (fun h21 => ?_)
      ·have h21p := h21; try simp only [DL] at h21p
       all_goals (
         exfalso
         have hd := h21
         simp only [Bool.or_eq_true, Bool.and_eq_true, Bool.not_eq_true', decide_eq_true_eq, beq_iff_eq, gt_iff_lt] at hd
         obtain ⟨a1, a2, a3⟩ := had
         rcases hd with (hd | hd) | hd
         · exact a1 hd
         · exact a2 hd
         · exact a3 hd)
      ·have h21p := h21; try simp only [DL] at h21p
       refine g_skip ?_
       refine n_block ?_
       refine n_then ?_
       refine g_region ?_
       refine gm S fun a S => ?_
       refine gy rfl rfl rfl S (y_add rfl S rfl rfl (by omega)) fun a S => ?_
       refine ga S fun a S => ?_
       refine gnt ?_
       first
       | exact ⟨i + 1, S.nil.cons S 6 rfl, (S.nil.cons S 3 rfl).cons S 5 rfl, H.drop 2, by omega, by omega⟩
       | exact ⟨j + 1 + 1, S.nil.cons S 6 rfl, (S.nil.cons S 3 rfl).cons S 5 rfl, H.drop 2, by omega, by omega⟩
   ·have h2p := h2; try simp only [DL] at h2p
    refine g_exit ?_
    refine x_then (x_then (x_eq ?_))
    refine n_then ?_
    have S := S.nil.cons S 3 rfl
    refine gsr ?_
    refine gm S fun a S => ?_
    refine ga S fun a S => ?_
    refine gnt ?_
    refine g_ret ?_
    refine ret1 rfl S rfl ?_
    exact ⟨rfl, H.toExt⟩
end Go.Proofs.Ytcgpbalpihkiiaa
