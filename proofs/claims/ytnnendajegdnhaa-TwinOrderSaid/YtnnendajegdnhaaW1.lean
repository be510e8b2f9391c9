/- The walks. No condition. -/
import Derived.Test.YtnnendajegdnhaaChecked
import Derived.Test.YtnnendajegdnhaaGwBits
import Derived.Test.YtnnendajegdnhaaFacts
import Derived.Test.YtnnendajegdnhaaPlain
import Derived.Test.YtnnendajegdnhaaPlainS
import Derived.Test.YtnnendajegdnhaaB1
import Derived.Test.YtnnendajegdnhaaM1
import Derived.Test.YtnnendajegdnhaaPlainT
namespace Go.Proofs.Ytnnendajegdnhaa
open Go Go.Gw
set_option linter.unusedVariables false
set_option linter.unusedSimpArgs false
/-- foyer/rebuild.numbers -/
theorem numbers_spec (p : Pl) (w0 : World) :
    Ret Try.prog 64 #[.agg (Pl.enc p).toArray] w0 (fun v w => v = .agg (spotL p).toArray ∧ Ext w0 w) := by
 refine ret_of_wp (nt := 12) Try.func64 rfl rfl rfl (fl := [(0, .agg (Pl.enc p).toArray)]) rfl (fun a S => ?_)
 have H := HSat.start w0
 refine gsr ?_
 refine wl_of (op_boxa (wn rfl) rfl rfl rfl S H rfl fun b1 a w S H => ?_)
 refine wl_of (op_alloc (wn rfl) rfl rfl rfl S H Fzer126 fun b2 a w S H => ?_)
 refine gnt ?_
 refine gsr ?_
 refine gy rfl rfl rfl S (y_faddrb rfl Ffo85_1 S rfl) fun a S => ?_
 refine gy rfl rfl rfl S (y_load rfl Fsca3 S H rfl rfl) fun a S => ?_
 refine gy rfl rfl rfl S (y_faddrb rfl Ffo85_2 S rfl) fun a S => ?_
 refine gy rfl rfl rfl S (y_load rfl Fsca3 S H rfl rfl) fun a S => ?_
 refine gy rfl rfl rfl S (y_faddrb rfl Ffo85_3 S rfl) fun a S => ?_
 refine gy rfl rfl rfl S (y_load rfl Fsca3 S H rfl rfl) fun a S => ?_
 refine gy rfl rfl rfl S (y_faddrb rfl Ffo85_4 S rfl) fun a S => ?_
 refine gy rfl rfl rfl S (y_load rfl Fsca3 S H rfl rfl) fun a S => ?_
 refine gy rfl rfl rfl S (y_buildf rfl Fbld126 S rfl (idx := [0, 1, 2, 3]) rfl (cs := [_, _, _, _]) rfl) fun a S => ?_
 refine wl_of (op_storea (wn rfl) rfl rfl S H rfl rfl rfl Fsiz126 rfl (cs' := [_, _, _, _]) rfl fun a w S H => ?_)
 refine gnt ?_
 have S := S.nil.cons S 2 rfl
 refine g_ret ?_
 refine retc rfl S H rfl (by exact Fagg126) ?_
 exact ⟨rfl, H.toExt⟩
/-- foyer/foyerref41.Few -/
theorem few_spec (v1 v2 : Value) (old next : List Pl) (v3 : Value) (ts : List Ow) (n : Int) (w0 : World) (hv1 : IsSl w0 v1 9 Pl.enc old) (hv2 : IsSl w0 v2 9 Pl.enc next) (hv3 : IsSl w0 v3 11 Ow.enc ts) :
    Ret Try.prog 27 #[v1, v2, v3, .int .i64 n] w0 (fun u w => u = .bool (decide ((old.length : Int) ≤ n) && decide ((next.length : Int) ≤ n) && decide ((ts.length : Int) ≤ n)) ∧ Ext w0 w) := by
 refine ret_of_wp (nt := 25) Try.func27 rfl rfl rfl (fl := [(0, v1), (1, v2), (2, v3), (3, .int .i64 n)]) rfl (fun a S => ?_)
 have H := HSat.start w0
 have H := H.ro0 (Sl v1 9 Pl.enc old) rfl (hv1)
 have H := H.ro0 (Sl v2 9 Pl.enc next) rfl (hv2)
 have H := H.ro0 (Sl v3 11 Ow.enc ts) rfl (hv3)
 have hl1 := hv1.len
 have hl2 := hv2.len
 have hl3 := hv3.len
 refine gsr ?_
 refine ga S fun a S => ?_
 refine gnt ?_
 refine gsr ?_
 refine gm S fun a S => ?_
 refine gy rfl rfl rfl S (y_lens rfl Try.underlying22 S H rfl) fun a S => ?_
 refine gm S fun a S => ?_
 refine gy rfl rfl rfl S (y_bin rfl S rfl rfl rfl) fun a S => ?_
 refine gm S fun a S => ?_
 refine' wl_and 4 13 rfl S H rfl rfl rfl rfl rfl rfl rfl (fun _ S => (wn rfl)) (fun h1 kk => ?yh1) (fun a w S H => ?_)
 case yh1 =>
  have h1p := h1; try simp only [DL] at h1p
  refine gz 13 h1 S rfl rfl rfl rfl rfl rfl (y_move rfl S rfl) fun a S => ?_
  refine gz 13 h1 S rfl rfl rfl rfl rfl rfl (y_lens rfl Try.underlying22 S H rfl) fun a S => ?_
  refine gz 13 h1 S rfl rfl rfl rfl rfl rfl (y_move rfl S rfl) fun a S => ?_
  refine gz 13 h1 S rfl rfl rfl rfl rfl rfl (y_bin rfl S rfl rfl rfl) fun a S => ?_
  refine gy rfl rfl rfl S (y_and' rfl h1 S rfl rfl) fun a S => ?_
  exact kk _ _ (S.join 5 18 rfl rfl) H
 refine gm S fun a S => ?_
 refine' wl_and 4 19 rfl S H rfl rfl rfl rfl rfl rfl rfl (fun _ S => (wn rfl)) (fun h2 kk => ?yh2) (fun a w S H => ?_)
 case yh2 =>
  have h2p := h2; try simp only [DL] at h2p
  refine gz 19 h2 S rfl rfl rfl rfl rfl rfl (y_move rfl S rfl) fun a S => ?_
  refine gz 19 h2 S rfl rfl rfl rfl rfl rfl (y_lens rfl Try.underlying23 S H rfl) fun a S => ?_
  refine gz 19 h2 S rfl rfl rfl rfl rfl rfl (y_move rfl S rfl) fun a S => ?_
  refine gz 19 h2 S rfl rfl rfl rfl rfl rfl (y_bin rfl S rfl rfl rfl) fun a S => ?_
  refine gy rfl rfl rfl S (y_and' rfl h2 S rfl rfl) fun a S => ?_
  exact kk _ _ (S.join 5 24 rfl rfl) H
 refine ga S fun a S => ?_
 refine gnt ?_
 have S := S.nil.cons S 8 rfl
 refine g_ret ?_
 refine ret1 rfl S rfl ?_
 exact ⟨rfl, H.toExt⟩
/-- math/bits.Mul64 -/
theorem mul64_spec (n : Nat) (w0 : World) (hn : n < 4294967296) :
    Ret Try.prog 84 #[.int .u64 (1 : Int), .int .u64 (n : Int)] w0 (fun u w => u = .tuple #[.int .u64 0, .int .u64 (n : Int)] ∧ Ext w0 w) := by
 refine ret_of_wp (nt := 51) Try.func84 rfl rfl rfl (fl := [(0, .int .u64 (1 : Int)), (1, .int .u64 (n : Int))]) rfl (fun a S => ?_)
 have H := HSat.start w0
 refine gsr ?_
 refine ga S fun a S => ?_
 refine ga S fun a S => ?_
 refine gnt ?_
 refine gsr ?_
 refine gm S fun a S => ?_
 refine gy rfl rfl rfl S ((y_andu (m := 1) (q := 4294967295) (r := 1) rfl S rfl rfl (by omega) (by omega) rfl)) fun a S => ?_
 refine ga S fun a S => ?_
 refine gnt ?_
 refine gsr ?_
 refine gm S fun a S => ?_
 refine gy rfl rfl rfl S ((y_shr (r := 0) rfl S rfl rfl (by omega) rfl)) fun a S => ?_
 refine ga S fun a S => ?_
 refine gnt ?_
 have S := (((((S.nil.cons S 1 rfl).cons S 0 rfl).cons S 4 rfl).cons S 5 rfl).cons S 6 rfl).cons S 7 rfl
 refine gsr ?_
 refine gm S fun a S => ?_
 refine gy rfl rfl rfl S ((y_andu (m := n) (q := 4294967295) (r := n) rfl S rfl rfl (by omega) (by omega) (by have := Nat.and_two_pow_sub_one_eq_mod n 32; rw [show (4294967295 : Nat) = 2 ^ 32 - 1 by rfl, this]; omega))) fun a S => ?_
 refine ga S fun a S => ?_
 refine gnt ?_
 refine gsr ?_
 refine gm S fun a S => ?_
 refine gy rfl rfl rfl S ((y_shr (r := 0) rfl S rfl rfl (by omega) (by show Int.fdiv n 4294967296 = 0; rw [Int.fdiv_eq_ediv_of_nonneg _ (by omega)]; omega))) fun a S => ?_
 refine ga S fun a S => ?_
 refine gnt ?_
 have S := (((((((S.nil.cons S 1 rfl).cons S 0 rfl).cons S 4 rfl).cons S 5 rfl).cons S 6 rfl).cons S 7 rfl).cons S 8 rfl).cons S 9 rfl
 refine gsr ?_
 refine gm S fun a S => ?_
 refine gm S fun a S => ?_
 refine gy rfl rfl rfl S ((y_bin (v := .int .u64 ((n : Nat) : Int)) rfl S rfl rfl (by simp only [intOp]; congr 2; rw [IntKind.wrap_u64]; omega))) fun a S => ?_
 refine ga S fun a S => ?_
 refine gnt ?_
 refine gsr ?_
 refine gm S fun a S => ?_
 refine gm S fun a S => ?_
 refine gy rfl rfl rfl S ((y_bin (v := .int .u64 (0 : Int)) rfl S rfl rfl (by simp only [intOp]; simp; rfl))) fun a S => ?_
 refine gm S fun a S => ?_
 refine gy rfl rfl rfl S ((y_shr (r := 0) rfl S rfl rfl (by omega) (by show Int.fdiv n 4294967296 = 0; rw [Int.fdiv_eq_ediv_of_nonneg _ (by omega)]; omega))) fun a S => ?_
 refine gy rfl rfl rfl S ((y_bin (v := .int .u64 (0 : Int)) rfl S rfl rfl (by simp only [intOp]; rfl))) fun a S => ?_
 refine ga S fun a S => ?_
 refine gnt ?_
 have S := (((((((S.nil.cons S 1 rfl).cons S 0 rfl).cons S 4 rfl).cons S 5 rfl).cons S 6 rfl).cons S 7 rfl).cons S 9 rfl).cons S 11 rfl
 refine gsr ?_
 refine gm S fun a S => ?_
 refine gy rfl rfl rfl S ((y_andu (m := 0) (q := 4294967295) (r := 0) rfl S rfl rfl (by omega) (by omega) rfl)) fun a S => ?_
 refine ga S fun a S => ?_
 refine gnt ?_
 refine gsr ?_
 refine gm S fun a S => ?_
 refine gy rfl rfl rfl S ((y_shr (r := 0) rfl S rfl rfl (by omega) rfl)) fun a S => ?_
 refine ga S fun a S => ?_
 refine gnt ?_
 have S := ((((((((S.nil.cons S 1 rfl).cons S 0 rfl).cons S 4 rfl).cons S 5 rfl).cons S 6 rfl).cons S 7 rfl).cons S 9 rfl).cons S 12 rfl).cons S 13 rfl
 refine gsr ?_
 refine gm S fun a S => ?_
 refine gm S fun a S => ?_
 refine gm S fun a S => ?_
 refine gy rfl rfl rfl S ((y_bin (v := .int .u64 (0 : Int)) rfl S rfl rfl (by simp only [intOp]; rfl))) fun a S => ?_
 refine gy rfl rfl rfl S ((y_bin (v := .int .u64 (0 : Int)) rfl S rfl rfl (by simp only [intOp]; rfl))) fun a S => ?_
 refine ga S fun a S => ?_
 refine gnt ?_
 have S := (((((((S.nil.cons S 1 rfl).cons S 0 rfl).cons S 4 rfl).cons S 5 rfl).cons S 7 rfl).cons S 9 rfl).cons S 13 rfl).cons S 12 rfl
 refine gsr ?_
 refine gm S fun a S => ?_
 refine gm S fun a S => ?_
 refine gy rfl rfl rfl S ((y_bin (v := .int .u64 (0 : Int)) rfl S rfl rfl (by simp only [intOp]; rfl))) fun a S => ?_
 refine gm S fun a S => ?_
 refine gy rfl rfl rfl S ((y_bin (v := .int .u64 (0 : Int)) rfl S rfl rfl (by simp only [intOp]; rfl))) fun a S => ?_
 refine gm S fun a S => ?_
 refine gy rfl rfl rfl S ((y_shr (r := 0) rfl S rfl rfl (by omega) rfl)) fun a S => ?_
 refine gy rfl rfl rfl S ((y_bin (v := .int .u64 (0 : Int)) rfl S rfl rfl (by simp only [intOp]; rfl))) fun a S => ?_
 refine ga S fun a S => ?_
 refine gnt ?_
 have S := (((S.nil.cons S 1 rfl).cons S 0 rfl).cons S 5 rfl).cons S 4 rfl
 refine gsr ?_
 refine gm S fun a S => ?_
 refine gm S fun a S => ?_
 refine gy rfl rfl rfl S ((y_bin (v := .int .u64 ((n : Nat) : Int)) rfl S rfl rfl (by simp only [intOp]; congr 2; rw [IntKind.wrap_u64]; omega))) fun a S => ?_
 refine ga S fun a S => ?_
 refine gnt ?_
 have S := (S.nil.cons S 4 rfl).cons S 5 rfl
 refine g_ret ?_
 refine ret2 rfl S rfl rfl ?_
 exact ⟨rfl, H.toExt⟩
/-- math/bits.Mul -/
theorem mul_spec (n : Nat) (w0 : World) (hn : n < 4294967296) :
    Ret Try.prog 78 #[.int .u64 (1 : Int), .int .u64 (n : Int)] w0 (fun u w => u = .tuple #[.int .u64 0, .int .u64 (n : Int)] ∧ Ext w0 w) := by
 refine ret_of_wp (nt := 30) Try.func78 rfl rfl rfl (fl := [(0, .int .u64 (1 : Int)), (1, .int .u64 (n : Int))]) rfl (fun a S => ?_)
 have H := HSat.start w0
 refine gsr ?_
 refine ga S fun a S => ?_
 refine ga S fun a S => ?_
 refine gnt ?_
 refine g_seq ?_
 refine c_if S rfl (fun h1 => ?_) (fun h1 => ?_)
 ·have h1p := h1; try simp only [DL] at h1p
  all_goals (
    exact absurd h1 (by simp))
 ·have h1p := h1; try simp only [DL] at h1p
  refine g_skip ?_
  refine n_then ?_
  refine gsr ?_
  refine gm S fun a S => ?_
  refine gm S fun a S => ?_
  refine wl_of (op_call (wn rfl) rfl rfl S (co_func rfl Try.call84 S rfl) (mul64_spec n _ hn) fun v w hc a S => ?_)
  obtain ⟨rfl, he⟩ := hc
  have H := H.ext he
  refine gm S fun a S => ?_
  refine gy rfl rfl rfl S (y_extract rfl S rfl rfl) fun a S => ?_
  refine gy rfl rfl rfl S (y_extract rfl S rfl rfl) fun a S => ?_
  refine ga S fun a S => ?_
  refine ga S fun a S => ?_
  refine gnt ?_
  have S := (((S.nil.cons S 4 rfl).cons S 5 rfl).cons S 8 rfl).cons S 9 rfl
  refine gsr ?_
  refine gm S fun a S => ?_
  refine gm S fun a S => ?_
  refine ga S fun a S => ?_
  refine ga S fun a S => ?_
  refine gnt ?_
  have S := (S.nil.cons S 4 rfl).cons S 5 rfl
  refine g_ret ?_
  refine ret2 rfl S rfl rfl ?_
  exact ⟨rfl, H.toExt⟩
/-- slices.Repeat[[]int,int] -/
theorem repeat_spec (v : Value) (n : Nat) (w0 : World) (hv : IsSl w0 v 1 encI [-1]) (hn : n ≤ 1000000) :
    Ret Try.prog 61 #[v, .int .i64 (n : Int)] w0 (fun u w => HSat No w0 [OSl 3 u 1 encI (List.replicate n (-1))] w) := by
 refine ret_of_wp (nt := 48) Try.func61 rfl rfl rfl (fl := [(0, v), (1, .int .i64 (n : Int))]) rfl (fun a S => ?_)
 have H := HSat.start w0
 have H := H.ro0 (Sl v 1 encI [-1]) rfl (hv)
 skip
 refine gsr ?_
 refine ga S fun a S => ?_
 refine gnt ?_
 refine g_seq ?_
 refine gsr ?_
 refine gm S fun a S => ?_
 refine gy rfl rfl rfl S (y_bin rfl S rfl rfl rfl) fun a S => ?_
 refine gnt ?_
 refine c_if S rfl (fun h1 => ?_) (fun h1 => ?_)
 ·have h1p := h1; try simp only [DL] at h1p
  all_goals (
    have := h1p; omega)
 ·have h1p := h1; try simp only [DL] at h1p
  refine g_skip ?_
  refine n_then ?_
  refine gsr ?_
  refine gm S fun a S => ?_
  refine gy rfl rfl rfl S (y_lens rfl Try.underlying39 S H rfl) fun a S => ?_
  refine gy rfl rfl rfl S (y_convg (r := (1 : Int)) rfl Try.underlying3 Try.underlying138 S rfl (by rfl)) fun a S => ?_
  refine gm S fun a S => ?_
  refine gy rfl rfl rfl S (y_convg (r := (n : Int)) rfl Try.underlying3 Try.underlying138 S rfl (by rw [IntKind.wrap_u64]; omega)) fun a S => ?_
  refine wl_of (op_call (wn rfl) rfl rfl S (co_func rfl Try.call78 S rfl) (mul_spec n _ (by omega)) fun v w hc a S => ?_)
  obtain ⟨rfl, he⟩ := hc
  have H := H.ext he
  refine gm S fun a S => ?_
  refine gy rfl rfl rfl S (y_extract rfl S rfl rfl) fun a S => ?_
  refine gy rfl rfl rfl S (y_extract rfl S rfl rfl) fun a S => ?_
  refine ga S fun a S => ?_
  refine ga S fun a S => ?_
  refine gnt ?_
  have S := (((S.nil.cons S 0 rfl).cons S 4 rfl).cons S 5 rfl).cons S 6 rfl
  refine g_seq ?_
  refine gsr ?_
  refine gm S fun a S => ?_
  refine gy rfl rfl rfl S (y_bin rfl S rfl rfl rfl) fun a S => ?_
  refine gm S fun a S => ?_
  refine' wl_or 2 23 rfl S H rfl rfl rfl rfl rfl rfl rfl (fun _ S => (wn rfl)) (fun h2 kk => ?yh2) (fun a w S H => ?_)
  case yh2 =>
   have h2p := h2; try simp only [DL] at h2p
   refine gz 23 h2 S rfl rfl rfl rfl rfl rfl (y_move rfl S rfl) fun a S => ?_
   refine gz 23 h2 S rfl rfl rfl rfl rfl rfl (y_bin rfl S rfl rfl rfl) fun a S => ?_
   refine gy rfl rfl rfl S (y_or' rfl h2 S rfl rfl) fun a S => ?_
   exact kk _ _ (S.join 3 26 rfl rfl) H
  refine gnt ?_
  have S := (((S.nil.cons S 0 rfl).cons S 4 rfl).cons S 6 rfl).cons S 26 rfl
  refine c_if S rfl (fun h3 => ?_) (fun h3 => ?_)
  ·have h3p := h3; try simp only [DL] at h3p
   all_goals (
     have := h3p; omega)
  ·have h3p := h3; try simp only [DL] at h3p
   refine g_skip ?_
   refine n_then ?_
   refine gsr ?_
   refine gm S fun a S => ?_
   refine gy rfl rfl rfl S (y_convg (r := (n : Int)) rfl Try.underlying138 Try.underlying3 S rfl (by exact wrap_in (by omega) (by omega))) fun a S => ?_
   refine wl_of (op_make (encI) (0) (wn rfl) rfl rfl rfl Try.underlying39 Finf3 rfl rfl S H rfl rfl rfl (by omega) (by omega) fun b30 a w S H => ?_)
   refine ga S fun a S => ?_
   refine gnt ?_
   have S := ((S.nil.cons S 0 rfl).cons S 4 rfl).cons S 7 rfl
   refine gsr ?_
   refine gm S fun a S => ?_
   refine gm S fun a S => ?_
   refine wl_of (op_copy (i := 0) ((.slice (some ⟨b30, 0, none⟩) n n)) (wn rfl) rfl rfl rfl Try.underlying39 Fsiz3 S H rfl rfl (.inl ⟨rfl, rfl⟩) (by simp [encI, Value.oneCell']) (by omega) rfl fun a w S H => ?_)
   rw [fill_first (by simp)] at H
   have hm1 : min [(-1 : Int)].length ((List.replicate n (0 : Int)).length - 0) = min 1 n := by simp
   rw [hm1] at S H
   obtain ⟨m, hm⟩ : ∃ m, m = min 1 n := ⟨_, rfl⟩
   rw [← hm] at S H
   refine ga S fun a S => ?_
   refine gnt ?_
   have S := ((S.nil.cons S 4 rfl).cons S 7 rfl).cons S 8 rfl
   refine g_seq ?_
   refine g_block ?_
   have SU := (S.nil.cons S 4 rfl).cons S 7 rfl
   refine loopW (X := Nat) SU (fun k => [(8, .int .i64 (k : Int))]) (fun k w => k ≤ n ∧ (0 < n → 0 < k) ∧ HSat No w0 [OSl 3 (.slice (some ⟨b30, 0, none⟩) n n) 1 encI (fillL n k)] w) (fun k => n - k) m (S.nil.cons S 8 rfl) (⟨by omega, by omega, H.take [OSl 3 (.slice (some ⟨b30, 0, none⟩) n n) 1 encI (fillL n m)]⟩) (fun k a w S hW => ?_)
   simp only [List.cons_append, List.nil_append] at S
   clear H
   obtain ⟨hk, hkp, H⟩ := hW
   have hfl := fill_len hk
   refine g_seq ?_
   refine gsr ?_
   refine gm S fun a S => ?_
   refine gm S fun a S => ?_
   refine gy rfl rfl rfl S (y_lens rfl Try.underlying39 S H rfl) fun a S => ?_
   refine gy rfl rfl rfl S (y_bin rfl S rfl rfl rfl) fun a S => ?_
   refine gnt ?_
   refine c_if S rfl (fun h4 => ?_) (fun h4 => ?_)
   ·have h4p := h4; try simp only [DL] at h4p
    have hkn : k < n := by have := h4p; omega
    refine g_skip ?_
    refine n_then ?_
    have S := ((S.nil.cons S 4 rfl).cons S 7 rfl).cons S 8 rfl
    refine g_block ?_
    refine region_st (loud := [7]) (tails := [7]) (free := [0]) [0, 1, 2, 3, 4, 5, 6, 7, 8, 9] [] Fmo (by kernel_rfl) (by kernel_rfl) rfl H ?_
    refine m_f rfl rfl (wn rfl) rfl rfl S (fun w H => y_move rfl S rfl) fun a S => ?_
    refine m_w rfl rfl (wn rfl) rfl rfl S (fun w H => y_move rfl S rfl) fun a S => ?_
    refine m_w rfl rfl (wn rfl) rfl rfl S (fun w H => y_move rfl S rfl) fun a S => ?_
    refine m_w rfl rfl (wn rfl) rfl rfl S (fun w H => y_sliceL rfl Try.underlying39 Fsiz3 S H rfl rfl (by first | assumption | omega | (rw [hfl]; omega))) fun a S => ?_
    refine m_w rfl rfl (wn rfl) rfl rfl S (fun w H => y_move rfl S rfl) fun a S => ?_
    refine m_w rfl rfl (wn rfl) rfl rfl S (fun w H => y_move rfl S rfl) fun a S => ?_
    refine m_w rfl rfl (wn rfl) rfl rfl S (fun w H => y_sliceH rfl Try.underlying39 Fsiz3 S H rfl rfl (by first | assumption | omega | (rw [hfl]; omega))) fun a S => ?_
    refine m_l rfl rfl (fun w H => op_copy (i := k) ((.slice (some ⟨b30, 0, none⟩) n n)) (wn rfl) rfl rfl rfl Try.underlying39 Fsiz3 S H rfl rfl (.inr (by rw [hfl])) (by simp [encI, Value.oneCell']) (by rw [hfl]; omega) rfl fun a w S H => ?_)
    skip
    refine m_tail H rfl ?_
    refine m_w rfl rfl (wn rfl) rfl rfl S (fun w H => y_add rfl S rfl rfl (by omega)) fun a S => ?_
    refine m_w rfl rfl (wn rfl) rfl rfl S (fun w H => y_assign rfl S rfl) fun a S => ?_
    refine m_nil (fun w H => ?_)
    refine n_block ?_
    refine n_then ?_
    have hme : min (((fillL n k).take k).drop 0).length ((fillL n k).length - k) = min k (n - k) := by simp only [List.length_drop, List.length_take, hfl]; omega
    rw [hme, fill_copy hk rfl] at H
    rw [hme] at S
    exact ⟨k + min k (n - k), (S.nil.cons S 8 rfl), (S.nil.cons S 4 rfl).cons S 7 rfl, ⟨by omega, by omega, H⟩, by omega⟩
   ·have h4p := h4; try simp only [DL] at h4p
    obtain rfl : k = n := by have := h4p; omega
    rw [fill_end] at H
    refine g_exit ?_
    refine x_then (x_then (x_eq ?_))
    refine n_then ?_
    have S := (S.nil.cons S 4 rfl).cons S 7 rfl
    refine gsr ?_
    refine gm S fun a S => ?_
    refine ga S fun a S => ?_
    refine gnt ?_
    refine g_ret ?_
    refine ret1 rfl S rfl ?_
    exact H
end Go.Proofs.Ytnnendajegdnhaa
