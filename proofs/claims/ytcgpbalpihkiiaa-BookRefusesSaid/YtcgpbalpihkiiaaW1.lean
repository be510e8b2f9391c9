/- The walks. No condition. -/
import Derived.Test.YtcgpbalpihkiiaaChecked
import Derived.Test.YtcgpbalpihkiiaaGwIns
import Derived.Test.YtcgpbalpihkiiaaFacts
import Derived.Test.YtcgpbalpihkiiaaPlain
namespace Go.Proofs.Ytcgpbalpihkiiaa
open Go Go.Gw
set_option linter.unusedVariables false
set_option linter.unusedSimpArgs false
theorem run_part1 {P : Program} {w : World} {T : TypeId} {cs : List Value} {off : Nat} (h : scalarB P T = true) (hv : off < cs.length) : (part T cs.toArray off).run P w = .ok cs[off] w := by simp [part, run_isAgg_scalar h, hv]
theorem Ffs29 : (Try.prog.fieldsOf 29).toList = [⟨"Id", 3, 0, false, "", "", 0⟩, ⟨"Price", 3, 1, false, "", "", 8⟩, ⟨"Sell", 4, 2, false, "", "", 16⟩, ⟨"Person", 9, 3, false, "", "", 24⟩, ⟨"Serial", 3, 4, false, "", "", 40⟩] := by kernel_rfl
theorem Fst29 : Try.prog.underlying 29 = some (.struct (Try.prog.fieldsOf 29)) := by kernel_rfl
theorem Fhe29 : Try.prog.stoodInHeld 29 = false := by kernel_rfl
theorem Ffs35 : (Try.prog.fieldsOf 35).toList = [⟨"Ask", 3, 0, false, "", "", 0⟩, ⟨"Bid", 3, 1, false, "", "", 8⟩, ⟨"Price", 3, 2, false, "", "", 16⟩] := by kernel_rfl
theorem Fst35 : Try.prog.underlying 35 = some (.struct (Try.prog.fieldsOf 35)) := by kernel_rfl
theorem Fhe35 : Try.prog.stoodInHeld 35 = false := by kernel_rfl
theorem ordEq (x y : Ord) (w : World) : (Op.equalIn 10000 29 (.agg (Ord.enc x).toArray) (.agg (Ord.enc y).toArray)).run Try.prog w = .ok (decide (x = y)) w := by
  rw [run_equalIn_agg w 9999 29 _ _ Fst29 Fhe29, Ffs29]
  obtain ⟨i, p, s, n, q⟩ := x
  obtain ⟨i', p', s', n', q'⟩ := y
  simp [Op.eqFields, Ord.enc, run_part1 Fsca3, run_part1 Fsca4, run_part1 Fsca9, run_equalIn_int _ 9998 3 .i64 .i64 _ _ Try.underlying3, run_equalIn_bool' _ 9998 4 _ _ Try.underlying4, run_equalIn_string _ 9998 9 _ _ Try.underlying9, bytes_beq]
  by_cases h1 : i = i' <;> by_cases h2 : p = p' <;> by_cases h3 : s = s' <;> by_cases h4 : n = n' <;> by_cases h5 : q = q' <;> simp [h1, h2, h3, h4, h5]
theorem trdEq (x y : Trd) (w : World) : (Op.equalIn 10000 35 (.agg (Trd.enc x).toArray) (.agg (Trd.enc y).toArray)).run Try.prog w = .ok (decide (x = y)) w := by
  rw [run_equalIn_agg w 9999 35 _ _ Fst35 Fhe35, Ffs35]
  obtain ⟨i, p, s⟩ := x
  obtain ⟨i', p', s'⟩ := y
  simp [Op.eqFields, Trd.enc, run_part1 Fsca3, run_equalIn_int _ 9998 3 .i64 .i64 _ _ Try.underlying3]
  by_cases h1 : i = i' <;> by_cases h2 : p = p' <;> by_cases h3 : s = s' <;> simp [h1, h2, h3]
/-- cmp.isNaN[int] -/
theorem isNaN_spec (x : Int) (w0 : World) :
    Ret Try.prog 45 #[.int .i64 x] w0 (fun u w => u = .bool false ∧ Ext w0 w) := by
 refine ret_of_wp (nt := 6) Try.func45 rfl rfl rfl (fl := [(0, .int .i64 x)]) rfl (fun a S => ?_)
 have H := HSat.start w0
 refine gsr ?_
 refine ga S fun a S => ?_
 refine gnt ?_
 refine gsr ?_
 refine gm S fun a S => ?_
 refine gm S fun a S => ?_
 refine gy rfl rfl rfl S (y_bin rfl S rfl rfl rfl) fun a S => ?_
 refine ga S fun a S => ?_
 refine gnt ?_
 have S := S.nil.cons S 2 rfl
 refine g_ret ?_
 refine ret1 rfl S rfl ?_
 exact ⟨by simp, H.toExt⟩
/-- cmp.Compare[int] -/
theorem compare_spec (x y : Int) (w0 : World) :
    Ret Try.prog 40 #[.int .i64 x, .int .i64 y] w0 (fun u w => u = .int .i64 (cmpZ x y) ∧ Ext w0 w) := by
 refine ret_of_wp (nt := 20) Try.func40 rfl rfl rfl (fl := [(0, .int .i64 x), (1, .int .i64 y)]) rfl (fun a S => ?_)
 have H := HSat.start w0
 refine gsr ?_
 refine ga S fun a S => ?_
 refine gnt ?_
 refine gsr ?_
 refine gm S fun a S => ?_
 refine wl_of (op_call (wn rfl) rfl rfl S (co_func rfl Try.call45 S rfl) (isNaN_spec _ _) fun v w hc a S => ?_)
 obtain ⟨rfl, he⟩ := hc
 have H := H.ext he
 refine ga S fun a S => ?_
 refine gnt ?_
 refine gsr ?_
 refine gm S fun a S => ?_
 refine wl_of (op_call (wn rfl) rfl rfl S (co_func rfl Try.call45 S rfl) (isNaN_spec _ _) fun v w hc a S => ?_)
 obtain ⟨rfl, he⟩ := hc
 have H := H.ext he
 refine ga S fun a S => ?_
 refine gnt ?_
 have S := ((((S.nil.cons S 1 rfl).cons S 0 rfl).cons S 4 rfl).cons S 5 rfl).cons S 6 rfl
 refine g_seq ?_
 refine gsr ?_
 refine gm S fun a S => ?_
 refine gnt ?_
 refine c_if S rfl (fun h1 => ?_) (fun h1 => ?_)
 ·have h1p := h1; try simp only [DL] at h1p
  all_goals (
    exact absurd h1 (by simp))
 ·have h1p := h1; try simp only [DL] at h1p
  refine g_skip ?_
  refine n_then ?_
  refine g_seq ?_
  refine gsr ?_
  refine gm S fun a S => ?_
  refine gnt ?_
  refine c_if S rfl (fun h2 => ?_) (fun h2 => ?_)
  ·have h2p := h2; try simp only [DL] at h2p
   all_goals (
     exact absurd h2 (by simp))
  ·have h2p := h2; try simp only [DL] at h2p
   refine g_skip ?_
   refine n_then ?_
   have S := ((S.nil.cons S 1 rfl).cons S 0 rfl).cons S 4 rfl
   refine g_seq ?_
   refine gsr ?_
   refine gm S fun a S => ?_
   refine gm S fun a S => ?_
   refine gy rfl rfl rfl S (y_bin rfl S rfl rfl rfl) fun a S => ?_
   refine gnt ?_
   refine c_if S rfl (fun h3 => ?_) (fun h3 => ?_)
   ·have h3p := h3; try simp only [DL] at h3p
    refine gsr ?_
    refine ga S fun a S => ?_
    refine gnt ?_
    have S := ((S.nil.cons S 1 rfl).cons S 0 rfl).cons S 4 rfl
    refine g_ret ?_
    refine r_then (ret1 rfl S rfl ?_)
    exact ⟨by simp only [cmpZ]; split <;> (try split) <;> first | rfl | (exfalso; omega), H.toExt⟩
   ·have h3p := h3; try simp only [DL] at h3p
    refine g_skip ?_
    refine n_then ?_
    refine g_seq ?_
    refine gsr ?_
    refine gm S fun a S => ?_
    refine gm S fun a S => ?_
    refine gy rfl rfl rfl S (y_bin rfl S rfl rfl rfl) fun a S => ?_
    refine gnt ?_
    have S := (S.nil.cons S 4 rfl).cons S 19 rfl
    refine c_if S rfl (fun h4 => ?_) (fun h4 => ?_)
    ·have h4p := h4; try simp only [DL] at h4p
     refine gsr ?_
     refine ga S fun a S => ?_
     refine gnt ?_
     refine g_ret ?_
     refine r_then (ret1 rfl S rfl ?_)
     exact ⟨by simp only [cmpZ]; split <;> (try split) <;> first | rfl | (exfalso; omega), H.toExt⟩
    ·have h4p := h4; try simp only [DL] at h4p
     refine g_skip ?_
     refine n_then ?_
     refine gsr ?_
     refine ga S fun a S => ?_
     refine gnt ?_
     refine g_ret ?_
     refine ret1 rfl S rfl ?_
     exact ⟨by simp only [cmpZ]; split <;> (try split) <;> first | rfl | (exfalso; omega), H.toExt⟩
/-- cmp.Or[int] -/
theorem or_spec (v : Value) (xs : List Int) (w0 : World) (hv : IsSl w0 v 1 encI xs) :
    Ret Try.prog 41 #[v] w0 (fun u w => u = .int .i64 (orZ xs) ∧ Ext w0 w) := by
 refine ret_of_wp (nt := 18) Try.func41 rfl rfl rfl (fl := [(0, v)]) rfl (fun a S => ?_)
 have H := HSat.start w0
 have H := H.ro0 (Sl v 1 encI xs) rfl (hv)
 have hlen := hv.len
 refine gsr ?_
 refine ga S fun a S => ?_
 refine gnt ?_
 refine gsr ?_
 refine ga S fun a S => ?_
 refine gnt ?_
 refine g_seq ?_
 refine gsr ?_
 refine gm S fun a S => ?_
 refine gy rfl rfl rfl S (y_lens rfl Try.underlying52 S H rfl) fun a S => ?_
 refine gm S fun a S => ?_
 refine gnt ?_
 refine g_block ?_
 have SU := ((S.nil.cons S 3 rfl).cons S 6 rfl).cons S 7 rfl
 refine loop_k (X := Nat) SU (fun k => [(8, .int .i64 (k : Int))]) (fun k => k ≤ xs.length ∧ (∀ j (h : j < xs.length), j < k → xs[j] = 0)) (fun k => xs.length - k) 0 (S.nil.cons S 8 rfl) H (⟨by omega, fun j h hj => by omega⟩) (fun k a w S H hi => ?_)
 simp only [List.cons_append, List.nil_append] at S hi
 obtain ⟨hk, hz⟩ := hi
 refine gsr ?_
 refine gy rfl rfl rfl S (y_bin rfl S rfl rfl rfl) fun a S => ?_
 refine gnt ?_
 refine g_seq ?_
 refine c_if S rfl (fun h1 => ?_) (fun h1 => ?_)
 ·have h1p := h1; try simp only [DL] at h1p
  refine g_skip ?_
  refine n_then ?_
  refine g_seq ?_
  refine g_block ?_
  refine gsr ?_
  refine gy rfl rfl rfl S (y_iaddrn rfl Try.underlying52 Fsiz3 S H rfl rfl (by first | assumption | omega | (simp only [LL]; omega))) fun a S => ?_
  refine gy rfl rfl rfl S (y_loads _ rfl Fsca3 S H rfl (by first | assumption | omega | (simp only [LL]; omega)) rfl) fun a S => ?_
  refine ga S fun a S => ?_
  refine gnt ?_
  refine gsr ?_
  refine gm S fun a S => ?_
  refine gm S fun a S => ?_
  refine gy rfl rfl rfl S (y_bin rfl S rfl rfl rfl) fun a S => ?_
  refine gnt ?_
  have S := (((((S.nil.cons S 3 rfl).cons S 6 rfl).cons S 7 rfl).cons S 8 rfl).cons S 5 rfl).cons S 14 rfl
  refine c_if S rfl (fun h2 => ?_) (fun h2 => ?_)
  ·have h2p := h2; try simp only [DL] at h2p
   refine gsr ?_
   refine gm S fun a S => ?_
   refine ga S fun a S => ?_
   refine gnt ?_
   refine g_ret ?_
   refine r_block (r_then (r_then (r_block (r_then (ret1 rfl S rfl ?_)))))
   exact ⟨by rw [orZ_at (by omega) hz (by exact h2p)], H.toExt⟩
  ·have h2p := h2; try simp only [DL] at h2p
   refine g_skip ?_
   refine n_block ?_
   refine n_then ?_
   refine g_region ?_
   refine gy rfl rfl rfl S (y_add rfl S rfl rfl (by omega)) fun a S => ?_
   refine gm S fun a S => ?_
   refine gnt ?_
   refine ⟨k + 1, S.nil.cons S 8 rfl, ((S.nil.cons S 3 rfl).cons S 6 rfl).cons S 7 rfl, H, ?_, ?_⟩
   · exact ⟨by omega, fun j h hj => by by_cases hjk : j < k; exact hz j h hjk; (obtain rfl : j = k := by omega); exact h2p⟩
   · omega
 ·have h1p := h1; try simp only [DL] at h1p
  refine g_exit ?_
  refine x_then (x_then (x_eq ?_))
  refine n_then ?_
  have S := S.nil.cons S 3 rfl
  refine gsr ?_
  refine gm S fun a S => ?_
  refine ga S fun a S => ?_
  refine gnt ?_
  refine g_ret ?_
  refine ret1 rfl S rfl ?_
  obtain rfl : k = xs.length := by omega
  exact ⟨by rw [orZ_none (fun j h => hz j h h)], H.toExt⟩
/-- foyer/book.within[int] -/
theorem within_spec (x lo hi : Int) (w0 : World) :
    Ret Try.prog 38 #[.int .i64 x, .int .i64 lo, .int .i64 hi] w0 (fun u w => u = .bool (within x lo hi) ∧ Ext w0 w) := by
 refine ret_of_wp (nt := 15) Try.func38 rfl rfl rfl (fl := [(0, .int .i64 x), (1, .int .i64 lo), (2, .int .i64 hi)]) rfl (fun a S => ?_)
 have H := HSat.start w0
 refine gsr ?_
 refine ga S fun a S => ?_
 refine gnt ?_
 refine gsr ?_
 refine gm S fun a S => ?_
 refine gm S fun a S => ?_
 refine gy rfl rfl rfl S (y_bin rfl S rfl rfl rfl) fun a S => ?_
 refine gm S fun a S => ?_
 refine' wl_and 3 10 rfl S H rfl rfl rfl rfl rfl rfl rfl (fun _ S => (wn rfl)) (fun h1 kk => ?yh1) (fun a w S H => ?_)
 case yh1 =>
  have h1p := h1; try simp only [DL] at h1p
  refine gz 10 h1 S rfl rfl rfl rfl rfl rfl (y_move rfl S rfl) fun a S => ?_
  refine gz 10 h1 S rfl rfl rfl rfl rfl rfl (y_move rfl S rfl) fun a S => ?_
  refine gz 10 h1 S rfl rfl rfl rfl rfl rfl (y_bin rfl S rfl rfl rfl) fun a S => ?_
  refine gy rfl rfl rfl S (y_and' rfl h1 S rfl rfl) fun a S => ?_
  exact kk _ _ (S.join 4 14 rfl rfl) H
 refine ga S fun a S => ?_
 refine gnt ?_
 have S := S.nil.cons S 6 rfl
 refine g_ret ?_
 refine ret1 rfl S rfl ?_
 exact ⟨rfl, H.toExt⟩
/-- foyer/book.name -/
theorem name_spec (s : ByteArray) (w0 : World) (hs : s.size ≤ 9223372036854775807) :
    Ret Try.prog 39 #[.string s] w0 (fun u w => u = .bool (nameB s) ∧ Ext w0 w) := by
 refine ret_of_wp (nt := 57) Try.func39 rfl rfl rfl (fl := [(0, .string s)]) rfl (fun a S => ?_)
 have H := HSat.start w0
 refine gsr ?_
 refine ga S fun a S => ?_
 refine gnt ?_
 refine g_seq ?_
 refine gsr ?_
 refine gm S fun a S => ?_
 refine gy rfl rfl rfl S (y_lenstr rfl Try.underlying9 S rfl) fun a S => ?_
 refine gm S fun a S => ?_
 refine gnt ?_
 refine g_block ?_
 have SU := (S.nil.cons S 0 rfl).cons S 8 rfl
 refine loop_k (X := Nat) SU (fun k => [(9, .int .i64 (k : Int))]) (fun k => k ≤ s.size ∧ (∀ j, j < k → badC j (chr s j) = false)) (fun k => s.size - k) 0 (S.nil.cons S 9 rfl) H (⟨by omega, fun j hj => by omega⟩) (fun k a w S H hi => ?_)
 simp only [List.cons_append, List.nil_append] at S hi
 obtain ⟨hk, hgood⟩ := hi
 refine gsr ?_
 refine gy rfl rfl rfl S (y_bin rfl S rfl rfl rfl) fun a S => ?_
 refine gnt ?_
 refine g_seq ?_
 refine c_if S rfl (fun h1 => ?_) (fun h1 => ?_)
 ·have h1p := h1; try simp only [DL] at h1p
  refine g_skip ?_
  refine n_then ?_
  refine g_seq ?_
  refine g_block ?_
  refine gsr ?_
  refine gm S fun a S => ?_
  refine ga S fun a S => ?_
  refine gnt ?_
  refine gsr ?_
  refine gm S fun a S => ?_
  refine gm S fun a S => ?_
  refine gy rfl rfl rfl S (y_idxstr rfl Try.underlying9 S rfl rfl (by first | assumption | omega | (simp only [LL]; omega))) fun a S => ?_
  refine ga S fun a S => ?_
  refine gnt ?_
  have S := ((((S.nil.cons S 0 rfl).cons S 8 rfl).cons S 9 rfl).cons S 3 rfl).cons S 4 rfl
  refine gsr ?_
  refine gm S fun a S => ?_
  refine gy rfl rfl rfl S (y_bin rfl S rfl rfl rfl) fun a S => ?_
  refine gm S fun a S => ?_
  refine' wl_and 2 17 rfl S H rfl rfl rfl rfl rfl rfl rfl (fun _ S => (wn rfl)) (fun h2 kk => ?yh2) (fun a w S H => ?_)
  case yh2 =>
   have h2p := h2; try simp only [DL] at h2p
   refine gz 17 h2 S rfl rfl rfl rfl rfl rfl (y_move rfl S rfl) fun a S => ?_
   refine gz 17 h2 S rfl rfl rfl rfl rfl rfl (y_bin rfl S rfl rfl rfl) fun a S => ?_
   refine gy rfl rfl rfl S (y_and' rfl h2 S rfl rfl) fun a S => ?_
   exact kk _ _ (S.join 3 20 rfl rfl) H
  refine gm S fun a S => ?_
  refine' wl_or 6 21 rfl S H rfl rfl rfl rfl rfl rfl rfl (fun _ S => (wn rfl)) (fun h3 kk => ?yh3) (fun a w S H => ?_)
  case yh3 =>
   have h3p := h3; try simp only [DL] at h3p
   refine gz 21 h3 S rfl rfl rfl rfl rfl rfl (y_move rfl S rfl) fun a S => ?_
   refine gz 21 h3 S rfl rfl rfl rfl rfl rfl (y_bin rfl S rfl rfl rfl) fun a S => ?_
   refine gz 21 h3 S rfl rfl rfl rfl rfl rfl (y_move rfl S rfl) fun a S => ?_
   refine' wl_and 2 24 rfl S H rfl rfl rfl rfl rfl rfl rfl (fun _ S => (wg' 21 rfl rfl S rfl h3 rfl)) (fun h4 kk => ?yh4) (fun a w S H => ?_)
   case yh4 =>
    have h4p := h4; try simp only [DL] at h4p
    refine gz 24 h4 S rfl rfl rfl rfl rfl rfl (y_move rfl S rfl) fun a S => ?_
    refine gz 24 h4 S rfl rfl rfl rfl rfl rfl (y_bin rfl S rfl rfl rfl) fun a S => ?_
    refine gz 21 h3 S rfl rfl rfl rfl rfl rfl (y_and' rfl h4 S rfl rfl) fun a S => ?_
    exact kk _ _ (S.join 3 27 rfl rfl) H
   refine gy rfl rfl rfl S (y_or' rfl h3 S rfl rfl) fun a S => ?_
   exact kk _ _ (S.join 5 28 rfl rfl) H
  refine gm S fun a S => ?_
  refine gy rfl rfl rfl S (y_bin rfl S rfl rfl rfl) fun a S => ?_
  refine gm S fun a S => ?_
  refine' wl_and 2 31 rfl S H rfl rfl rfl rfl rfl rfl rfl (fun _ S => (wn rfl)) (fun h5 kk => ?yh5) (fun a w S H => ?_)
  case yh5 =>
   have h5p := h5; try simp only [DL] at h5p
   refine gz 31 h5 S rfl rfl rfl rfl rfl rfl (y_move rfl S rfl) fun a S => ?_
   refine gz 31 h5 S rfl rfl rfl rfl rfl rfl (y_bin rfl S rfl rfl rfl) fun a S => ?_
   refine gy rfl rfl rfl S (y_and' rfl h5 S rfl rfl) fun a S => ?_
   exact kk _ _ (S.join 3 34 rfl rfl) H
  refine gm S fun a S => ?_
  refine' wl_or 2 35 rfl S H rfl rfl rfl rfl rfl rfl rfl (fun _ S => (wn rfl)) (fun h6 kk => ?yh6) (fun a w S H => ?_)
  case yh6 =>
   have h6p := h6; try simp only [DL] at h6p
   refine gz 35 h6 S rfl rfl rfl rfl rfl rfl (y_move rfl S rfl) fun a S => ?_
   refine gz 35 h6 S rfl rfl rfl rfl rfl rfl (y_bin rfl S rfl rfl rfl) fun a S => ?_
   refine gy rfl rfl rfl S (y_or' rfl h6 S rfl rfl) fun a S => ?_
   exact kk _ _ (S.join 3 38 rfl rfl) H
  refine ga S fun a S => ?_
  refine ga S fun a S => ?_
  refine gnt ?_
  have S := (((((S.nil.cons S 0 rfl).cons S 8 rfl).cons S 9 rfl).cons S 3 rfl).cons S 5 rfl).cons S 6 rfl
  refine gsr ?_
  refine gm S fun a S => ?_
  refine gy rfl rfl rfl S (y_not rfl S rfl) fun a S => ?_
  refine gm S fun a S => ?_
  refine' wl_and 6 41 rfl S H rfl rfl rfl rfl rfl rfl rfl (fun _ S => (wn rfl)) (fun h7 kk => ?yh7) (fun a w S H => ?_)
  case yh7 =>
   have h7p := h7; try simp only [DL] at h7p
   refine gz 41 h7 S rfl rfl rfl rfl rfl rfl (y_move rfl S rfl) fun a S => ?_
   refine gz 41 h7 S rfl rfl rfl rfl rfl rfl (y_bin rfl S rfl rfl rfl) fun a S => ?_
   refine gz 41 h7 S rfl rfl rfl rfl rfl rfl (y_move rfl S rfl) fun a S => ?_
   refine' wl_or 2 44 rfl S H rfl rfl rfl rfl rfl rfl rfl (fun _ S => (wg' 41 rfl rfl S rfl h7 rfl)) (fun h8 kk => ?yh8) (fun a w S H => ?_)
   case yh8 =>
    have h8p := h8; try simp only [DL] at h8p
    refine gz 44 h8 S rfl rfl rfl rfl rfl rfl (y_move rfl S rfl) fun a S => ?_
    refine gz 44 h8 S rfl rfl rfl rfl rfl rfl (y_not rfl S rfl) fun a S => ?_
    refine gz 41 h7 S rfl rfl rfl rfl rfl rfl (y_or' rfl h8 S rfl rfl) fun a S => ?_
    exact kk _ _ (S.join 3 47 rfl rfl) H
   refine gy rfl rfl rfl S (y_and' rfl h7 S rfl rfl) fun a S => ?_
   exact kk _ _ (S.join 5 48 rfl rfl) H
  refine gnt ?_
  have S := (((S.nil.cons S 0 rfl).cons S 8 rfl).cons S 9 rfl).cons S 48 rfl
  refine c_if S rfl (fun h9 => ?_) (fun h9 => ?_)
  ·have h9p := h9; try simp only [DL] at h9p
   have hbk : badC k (chr s k) = true := by rw [chr_at (show k < s.size by omega)]; rw [← h9]; simp [badC, letterC, digC, beqI, bneI]
   refine gsr ?_
   refine ga S fun a S => ?_
   refine gnt ?_
   refine g_ret ?_
   refine r_block (r_then (r_then (r_block (r_then (ret1 rfl S rfl ?_)))))
   exact ⟨by rw [name_bad (by omega) hbk], H.toExt⟩
  ·have h9p := h9; try simp only [DL] at h9p
   have hbk : badC k (chr s k) = false := by rw [chr_at (show k < s.size by omega)]; rw [← h9]; simp [badC, letterC, digC, beqI, bneI]
   refine g_skip ?_
   refine n_block ?_
   refine n_then ?_
   refine g_region ?_
   refine gy rfl rfl rfl S (y_add rfl S rfl rfl (by omega)) fun a S => ?_
   refine gm S fun a S => ?_
   refine gnt ?_
   refine ⟨k + 1, S.nil.cons S 9 rfl, (S.nil.cons S 0 rfl).cons S 8 rfl, H, ?_, ?_⟩
   · exact ⟨by omega, fun j hj => by by_cases hjk : j < k; exact hgood j hjk; (obtain rfl : j = k := by omega); exact hbk⟩
   · omega
 ·have h1p := h1; try simp only [DL] at h1p
  refine g_exit ?_
  refine x_then (x_then (x_eq ?_))
  refine n_then ?_
  refine gsr ?_
  refine gm S fun a S => ?_
  refine gy rfl rfl rfl S (y_nes rfl Try.underlying9 S rfl rfl) fun a S => ?_
  refine gm S fun a S => ?_
  refine' wl_and 3 52 rfl S H rfl rfl rfl rfl rfl rfl rfl (fun _ S => (wn rfl)) (fun h10 kk => ?yh10) (fun a w S H => ?_)
  case yh10 =>
   have h10p := h10; try simp only [DL] at h10p
   refine gz 52 h10 S rfl rfl rfl rfl rfl rfl (y_move rfl S rfl) fun a S => ?_
   refine gz 52 h10 S rfl rfl rfl rfl rfl rfl (y_lenstr rfl Try.underlying9 S rfl) fun a S => ?_
   refine gz 52 h10 S rfl rfl rfl rfl rfl rfl (y_bin rfl S rfl rfl rfl) fun a S => ?_
   refine gy rfl rfl rfl S (y_and' rfl h10 S rfl rfl) fun a S => ?_
   exact kk _ _ (S.join 4 56 rfl rfl) H
  refine ga S fun a S => ?_
  refine gnt ?_
  have S := S.nil.cons S 2 rfl
  refine g_ret ?_
  refine ret1 rfl S rfl ?_
  obtain rfl : k = s.size := by omega
  exact ⟨by rw [name_good hgood]; exact congrArg Value.bool (by first | exact name_ret s | exact name_retS s), H.toExt⟩
/-- foyer/foyerref18.Name -/
theorem rname_spec (s : ByteArray) (w0 : World) (hs : s.size ≤ 9223372036854775807) :
    Ret Try.prog 37 #[.string s] w0 (fun u w => u = .bool (nameB s) ∧ Ext w0 w) := by
 refine ret_of_wp (nt := 58) Try.func37 rfl rfl rfl (fl := [(0, .string s)]) rfl (fun a S => ?_)
 have H := HSat.start w0
 refine gsr ?_
 refine ga S fun a S => ?_
 refine gnt ?_
 refine g_seq ?_
 refine gsr ?_
 refine ga S fun a S => ?_
 refine gnt ?_
 refine g_block ?_
 have SU := S.nil.cons S 0 rfl
 refine loop_k (X := Nat) SU (fun k => [(3, .int .i64 (k : Int))]) (fun k => k ≤ s.size ∧ (∀ j, j < k → badC j (chr s j) = false)) (fun k => s.size - k) 0 (S.nil.cons S 3 rfl) H (⟨by omega, fun j hj => by omega⟩) (fun k a w S H hi => ?_)
 simp only [List.cons_append, List.nil_append] at S hi
 obtain ⟨hk, hgood⟩ := hi
 refine g_seq ?_
 refine gsr ?_
 refine gm S fun a S => ?_
 refine gm S fun a S => ?_
 refine gy rfl rfl rfl S (y_lenstr rfl Try.underlying9 S rfl) fun a S => ?_
 refine gy rfl rfl rfl S (y_bin rfl S rfl rfl rfl) fun a S => ?_
 refine gnt ?_
 refine c_if S rfl (fun h1 => ?_) (fun h1 => ?_)
 ·have h1p := h1; try simp only [DL] at h1p
  refine g_skip ?_
  refine n_then ?_
  have S := (S.nil.cons S 0 rfl).cons S 3 rfl
  refine g_seq ?_
  refine g_block ?_
  refine gsr ?_
  refine gm S fun a S => ?_
  refine gm S fun a S => ?_
  refine gy rfl rfl rfl S (y_idxstr rfl Try.underlying9 S rfl rfl (by first | assumption | omega | (simp only [LL]; omega))) fun a S => ?_
  refine ga S fun a S => ?_
  refine gnt ?_
  refine gsr ?_
  refine gm S fun a S => ?_
  refine gy rfl rfl rfl S (y_bin rfl S rfl rfl rfl) fun a S => ?_
  refine gm S fun a S => ?_
  refine' wl_and 2 18 rfl S H rfl rfl rfl rfl rfl rfl rfl (fun _ S => (wn rfl)) (fun h2 kk => ?yh2) (fun a w S H => ?_)
  case yh2 =>
   have h2p := h2; try simp only [DL] at h2p
   refine gz 18 h2 S rfl rfl rfl rfl rfl rfl (y_move rfl S rfl) fun a S => ?_
   refine gz 18 h2 S rfl rfl rfl rfl rfl rfl (y_bin rfl S rfl rfl rfl) fun a S => ?_
   refine gy rfl rfl rfl S (y_and' rfl h2 S rfl rfl) fun a S => ?_
   exact kk _ _ (S.join 3 21 rfl rfl) H
  refine gm S fun a S => ?_
  refine' wl_or 6 22 rfl S H rfl rfl rfl rfl rfl rfl rfl (fun _ S => (wn rfl)) (fun h3 kk => ?yh3) (fun a w S H => ?_)
  case yh3 =>
   have h3p := h3; try simp only [DL] at h3p
   refine gz 22 h3 S rfl rfl rfl rfl rfl rfl (y_move rfl S rfl) fun a S => ?_
   refine gz 22 h3 S rfl rfl rfl rfl rfl rfl (y_bin rfl S rfl rfl rfl) fun a S => ?_
   refine gz 22 h3 S rfl rfl rfl rfl rfl rfl (y_move rfl S rfl) fun a S => ?_
   refine' wl_and 2 25 rfl S H rfl rfl rfl rfl rfl rfl rfl (fun _ S => (wg' 22 rfl rfl S rfl h3 rfl)) (fun h4 kk => ?yh4) (fun a w S H => ?_)
   case yh4 =>
    have h4p := h4; try simp only [DL] at h4p
    refine gz 25 h4 S rfl rfl rfl rfl rfl rfl (y_move rfl S rfl) fun a S => ?_
    refine gz 25 h4 S rfl rfl rfl rfl rfl rfl (y_bin rfl S rfl rfl rfl) fun a S => ?_
    refine gz 22 h3 S rfl rfl rfl rfl rfl rfl (y_and' rfl h4 S rfl rfl) fun a S => ?_
    exact kk _ _ (S.join 3 28 rfl rfl) H
   refine gy rfl rfl rfl S (y_or' rfl h3 S rfl rfl) fun a S => ?_
   exact kk _ _ (S.join 5 29 rfl rfl) H
  refine ga S fun a S => ?_
  refine gnt ?_
  have S := (((S.nil.cons S 0 rfl).cons S 3 rfl).cons S 4 rfl).cons S 5 rfl
  refine gsr ?_
  refine gm S fun a S => ?_
  refine gy rfl rfl rfl S (y_bin rfl S rfl rfl rfl) fun a S => ?_
  refine gm S fun a S => ?_
  refine' wl_and 2 32 rfl S H rfl rfl rfl rfl rfl rfl rfl (fun _ S => (wn rfl)) (fun h5 kk => ?yh5) (fun a w S H => ?_)
  case yh5 =>
   have h5p := h5; try simp only [DL] at h5p
   refine gz 32 h5 S rfl rfl rfl rfl rfl rfl (y_move rfl S rfl) fun a S => ?_
   refine gz 32 h5 S rfl rfl rfl rfl rfl rfl (y_bin rfl S rfl rfl rfl) fun a S => ?_
   refine gy rfl rfl rfl S (y_and' rfl h5 S rfl rfl) fun a S => ?_
   exact kk _ _ (S.join 3 35 rfl rfl) H
  refine ga S fun a S => ?_
  refine gnt ?_
  have S := ((((S.nil.cons S 0 rfl).cons S 3 rfl).cons S 4 rfl).cons S 5 rfl).cons S 6 rfl
  refine gsr ?_
  refine gm S fun a S => ?_
  refine gy rfl rfl rfl S (y_not rfl S rfl) fun a S => ?_
  refine gm S fun a S => ?_
  refine' wl_and 10 38 rfl S H rfl rfl rfl rfl rfl rfl rfl (fun _ S => (wn rfl)) (fun h6 kk => ?yh6) (fun a w S H => ?_)
  case yh6 =>
   have h6p := h6; try simp only [DL] at h6p
   refine gz 38 h6 S rfl rfl rfl rfl rfl rfl (y_move rfl S rfl) fun a S => ?_
   refine gz 38 h6 S rfl rfl rfl rfl rfl rfl (y_bin rfl S rfl rfl rfl) fun a S => ?_
   refine gz 38 h6 S rfl rfl rfl rfl rfl rfl (y_move rfl S rfl) fun a S => ?_
   refine' wl_or 6 41 rfl S H rfl rfl rfl rfl rfl rfl rfl (fun _ S => (wg' 38 rfl rfl S rfl h6 rfl)) (fun h7 kk => ?yh7) (fun a w S H => ?_)
   case yh7 =>
    have h7p := h7; try simp only [DL] at h7p
    refine gz 41 h7 S rfl rfl rfl rfl rfl rfl (y_move rfl S rfl) fun a S => ?_
    refine gz 41 h7 S rfl rfl rfl rfl rfl rfl (y_not rfl S rfl) fun a S => ?_
    refine gz 41 h7 S rfl rfl rfl rfl rfl rfl (y_move rfl S rfl) fun a S => ?_
    refine' wl_and 2 44 rfl S H rfl rfl rfl rfl rfl rfl rfl (fun _ S => (wg' 41 rfl rfl S rfl h7 rfl)) (fun h8 kk => ?yh8) (fun a w S H => ?_)
    case yh8 =>
     have h8p := h8; try simp only [DL] at h8p
     refine gz 44 h8 S rfl rfl rfl rfl rfl rfl (y_move rfl S rfl) fun a S => ?_
     refine gz 44 h8 S rfl rfl rfl rfl rfl rfl (y_bin rfl S rfl rfl rfl) fun a S => ?_
     refine gz 41 h7 S rfl rfl rfl rfl rfl rfl (y_and' rfl h8 S rfl rfl) fun a S => ?_
     exact kk _ _ (S.join 3 47 rfl rfl) H
    refine gz 38 h6 S rfl rfl rfl rfl rfl rfl (y_or' rfl h7 S rfl rfl) fun a S => ?_
    exact kk _ _ (S.join 5 48 rfl rfl) H
   refine gy rfl rfl rfl S (y_and' rfl h6 S rfl rfl) fun a S => ?_
   exact kk _ _ (S.join 5 49 rfl rfl) H
  refine gnt ?_
  have S := ((S.nil.cons S 0 rfl).cons S 3 rfl).cons S 49 rfl
  refine c_if S rfl (fun h9 => ?_) (fun h9 => ?_)
  ·have h9p := h9; try simp only [DL] at h9p
   have hbk : badC k (chr s k) = true := by rw [chr_at (show k < s.size by omega)]; rw [← h9]; simp [badC, letterC, digC, beqI, bneI]
   refine gsr ?_
   refine ga S fun a S => ?_
   refine gnt ?_
   refine g_ret ?_
   refine r_block (r_then (r_then (r_block (r_then (ret1 rfl S rfl ?_)))))
   exact ⟨by rw [name_bad (by omega) hbk], H.toExt⟩
  ·have h9p := h9; try simp only [DL] at h9p
   have hbk : badC k (chr s k) = false := by rw [chr_at (show k < s.size by omega)]; rw [← h9]; simp [badC, letterC, digC, beqI, bneI]
   refine g_skip ?_
   refine n_block ?_
   refine n_then ?_
   refine g_region ?_
   refine gm S fun a S => ?_
   refine gy rfl rfl rfl S (y_add rfl S rfl rfl (by omega)) fun a S => ?_
   refine ga S fun a S => ?_
   refine gnt ?_
   refine ⟨k + 1, S.nil.cons S 3 rfl, S.nil.cons S 0 rfl, H, ?_, ?_⟩
   · exact ⟨by omega, fun j hj => by by_cases hjk : j < k; exact hgood j hjk; (obtain rfl : j = k := by omega); exact hbk⟩
   · omega
 ·have h1p := h1; try simp only [DL] at h1p
  refine g_exit ?_
  refine x_then (x_then (x_eq ?_))
  refine n_then ?_
  have S := S.nil.cons S 0 rfl
  refine gsr ?_
  refine gm S fun a S => ?_
  refine gy rfl rfl rfl S (y_lenstr rfl Try.underlying9 S rfl) fun a S => ?_
  refine gy rfl rfl rfl S (y_bin rfl S rfl rfl rfl) fun a S => ?_
  refine gm S fun a S => ?_
  refine' wl_and 3 53 rfl S H rfl rfl rfl rfl rfl rfl rfl (fun _ S => (wn rfl)) (fun h10 kk => ?yh10) (fun a w S H => ?_)
  case yh10 =>
   have h10p := h10; try simp only [DL] at h10p
   refine gz 53 h10 S rfl rfl rfl rfl rfl rfl (y_move rfl S rfl) fun a S => ?_
   refine gz 53 h10 S rfl rfl rfl rfl rfl rfl (y_lenstr rfl Try.underlying9 S rfl) fun a S => ?_
   refine gz 53 h10 S rfl rfl rfl rfl rfl rfl (y_bin rfl S rfl rfl rfl) fun a S => ?_
   refine gy rfl rfl rfl S (y_and' rfl h10 S rfl rfl) fun a S => ?_
   exact kk _ _ (S.join 4 57 rfl rfl) H
  refine ga S fun a S => ?_
  refine gnt ?_
  have S := S.nil.cons S 2 rfl
  refine g_ret ?_
  refine ret1 rfl S rfl ?_
  obtain rfl : k = s.size := by omega
  exact ⟨by rw [name_good hgood]; exact congrArg Value.bool (by first | exact name_ret s | exact name_retS s), H.toExt⟩
/-- foyer/book.valid -/
theorem valid_spec (o : Ord) (w0 : World) (ho : o.ok) :
    Ret Try.prog 27 #[.agg (Ord.enc o).toArray] w0 (fun u w => u = .bool (validB o) ∧ Ext w0 w) := by
 refine ret_of_wp (nt := 28) Try.func27 rfl rfl rfl (fl := [(0, .agg (Ord.enc o).toArray)]) rfl (fun a S => ?_)
 have H := HSat.start w0
 refine gsr ?_
 refine wl_of (op_boxa (wn rfl) rfl rfl rfl S H rfl fun b1 a w S H => ?_)
 refine ga S fun a S => ?_
 refine gnt ?_
 refine gsr ?_
 refine gy rfl rfl rfl S (y_faddrb rfl Ffo29_4 S rfl) fun a S => ?_
 refine gy rfl rfl rfl S (y_load rfl Fsca3 S H rfl rfl) fun a S => ?_
 refine gy rfl rfl rfl S (y_bin rfl S rfl rfl rfl) fun a S => ?_
 refine ga S fun a S => ?_
 refine gnt ?_
 have S := ((S.nil.cons S 1 rfl).cons S 2 rfl).cons S 3 rfl
 refine g_seq ?_
 refine gsr ?_
 refine gy rfl rfl rfl S (y_faddrb rfl Ffo29_2 S rfl) fun a S => ?_
 refine gy rfl rfl rfl S (y_load rfl Fsca4 S H rfl rfl) fun a S => ?_
 refine gnt ?_
 refine' c_jb (s := 3) S rfl (fun h1 => ?th1) (fun h1 => ?fh1) (fun a w S H => ?_)
 case th1 =>
  have h1p := h1; try simp only [DL] at h1p
  refine g_region ?_
  refine gy rfl rfl rfl S (y_faddrb rfl Ffo29_4 S rfl) fun a S => ?_
  refine gy rfl rfl rfl S (y_load rfl Fsca3 S H rfl rfl) fun a S => ?_
  refine wl_of (op_call (wn rfl) rfl rfl S (co_func rfl Try.call38 S rfl) (within_spec _ _ _ _) fun v w hc a S => ?_)
  obtain ⟨rfl, he⟩ := hc
  have H := H.ext he
  refine ga S fun a S => ?_
  refine gnt ?_
  exact ⟨S.nil.cons S 3 rfl, (S.nil.cons S 1 rfl).cons S 2 rfl, H⟩
 case fh1 =>
  have h1p := h1; try simp only [DL] at h1p
  refine g_skip ?_
  refine n_then ?_
  exact ⟨S.nil.cons S 3 rfl, (S.nil.cons S 1 rfl).cons S 2 rfl, H⟩
 refine gsr ?_
 refine gm S fun a S => ?_
 refine gm S fun a S => ?_
 refine' wl_and 3 13 rfl S H rfl rfl rfl rfl rfl rfl rfl (fun _ S => (wn rfl)) (fun h2 kk => ?yh2) (fun a w S H => ?_)
 case yh2 =>
  have h2p := h2; try simp only [DL] at h2p
  refine gz 13 h2 S rfl rfl rfl rfl rfl rfl (y_faddrb rfl Ffo29_0 S rfl) fun a S => ?_
  refine gz 13 h2 S rfl rfl rfl rfl rfl rfl (y_load rfl Fsca3 S H rfl rfl) fun a S => ?_
  refine wl_of (op_call (wg' 13 rfl rfl S rfl h2 rfl) rfl rfl S (co_func rfl Try.call38 S rfl) (within_spec _ _ _ _) fun v w hc a S => ?_)
  obtain ⟨rfl, he⟩ := hc
  have H := H.ext he
  refine gy rfl rfl rfl S (y_and' rfl h2 S rfl rfl) fun a S => ?_
  exact kk _ _ (S.join 4 17 rfl rfl) H
 refine gm S fun a S => ?_
 refine' wl_and 3 18 rfl S H rfl rfl rfl rfl rfl rfl rfl (fun _ S => (wn rfl)) (fun h3 kk => ?yh3) (fun a w S H => ?_)
 case yh3 =>
  have h3p := h3; try simp only [DL] at h3p
  refine gz 18 h3 S rfl rfl rfl rfl rfl rfl (y_faddrb rfl Ffo29_1 S rfl) fun a S => ?_
  refine gz 18 h3 S rfl rfl rfl rfl rfl rfl (y_load rfl Fsca3 S H rfl rfl) fun a S => ?_
  refine wl_of (op_call (wg' 18 rfl rfl S rfl h3 rfl) rfl rfl S (co_func rfl Try.call38 S rfl) (within_spec _ _ _ _) fun v w hc a S => ?_)
  obtain ⟨rfl, he⟩ := hc
  have H := H.ext he
  refine gy rfl rfl rfl S (y_and' rfl h3 S rfl rfl) fun a S => ?_
  exact kk _ _ (S.join 4 22 rfl rfl) H
 refine gm S fun a S => ?_
 refine' wl_and 3 23 rfl S H rfl rfl rfl rfl rfl rfl rfl (fun _ S => (wn rfl)) (fun h4 kk => ?yh4) (fun a w S H => ?_)
 case yh4 =>
  have h4p := h4; try simp only [DL] at h4p
  refine gz 23 h4 S rfl rfl rfl rfl rfl rfl (y_faddrb rfl Ffo29_3 S rfl) fun a S => ?_
  refine gz 23 h4 S rfl rfl rfl rfl rfl rfl (y_load rfl Fsca9 S H rfl rfl) fun a S => ?_
  refine wl_of (op_call (wg' 23 rfl rfl S rfl h4 rfl) rfl rfl S (co_func rfl Try.call39 S rfl) (name_spec _ _ ho) fun v w hc a S => ?_)
  obtain ⟨rfl, he⟩ := hc
  have H := H.ext he
  refine gy rfl rfl rfl S (y_and' rfl h4 S rfl rfl) fun a S => ?_
  exact kk _ _ (S.join 4 27 rfl rfl) H
 refine ga S fun a S => ?_
 refine gnt ?_
 have S := S.nil.cons S 2 rfl
 refine g_ret ?_
 refine ret1 rfl S rfl ?_
 exact ⟨congrArg Value.bool (by simp [validB, serB, beqI]), H.toExt⟩
/-- foyer/foyerref33.Valid -/
theorem rvalid_spec (o : Ord) (w0 : World) (ho : o.ok) :
    Ret Try.prog 21 #[.agg (Ord.enc o).toArray] w0 (fun u w => u = .bool (validB o) ∧ Ext w0 w) := by
 refine ret_of_wp (nt := 40) Try.func21 rfl rfl rfl (fl := [(0, .agg (Ord.enc o).toArray)]) rfl (fun a S => ?_)
 have H := HSat.start w0
 refine gsr ?_
 refine wl_of (op_boxa (wn rfl) rfl rfl rfl S H rfl fun b1 a w S H => ?_)
 refine ga S fun a S => ?_
 refine gnt ?_
 refine g_seq ?_
 refine gsr ?_
 refine gy rfl rfl rfl S (y_faddrb rfl Ffo29_0 S rfl) fun a S => ?_
 refine gy rfl rfl rfl S (y_load rfl Fsca3 S H rfl rfl) fun a S => ?_
 refine gy rfl rfl rfl S (y_bin rfl S rfl rfl rfl) fun a S => ?_
 refine gm S fun a S => ?_
 refine' wl_or 3 6 rfl S H rfl rfl rfl rfl rfl rfl rfl (fun _ S => (wn rfl)) (fun h1 kk => ?yh1) (fun a w S H => ?_)
 case yh1 =>
  have h1p := h1; try simp only [DL] at h1p
  refine gz 6 h1 S rfl rfl rfl rfl rfl rfl (y_faddrb rfl Ffo29_0 S rfl) fun a S => ?_
  refine gz 6 h1 S rfl rfl rfl rfl rfl rfl (y_load rfl Fsca3 S H rfl rfl) fun a S => ?_
  refine gz 6 h1 S rfl rfl rfl rfl rfl rfl (y_bin rfl S rfl rfl rfl) fun a S => ?_
  refine gy rfl rfl rfl S (y_or' rfl h1 S rfl rfl) fun a S => ?_
  exact kk _ _ (S.join 4 10 rfl rfl) H
 refine gm S fun a S => ?_
 refine' wl_or 3 11 rfl S H rfl rfl rfl rfl rfl rfl rfl (fun _ S => (wn rfl)) (fun h2 kk => ?yh2) (fun a w S H => ?_)
 case yh2 =>
  have h2p := h2; try simp only [DL] at h2p
  refine gz 11 h2 S rfl rfl rfl rfl rfl rfl (y_faddrb rfl Ffo29_1 S rfl) fun a S => ?_
  refine gz 11 h2 S rfl rfl rfl rfl rfl rfl (y_load rfl Fsca3 S H rfl rfl) fun a S => ?_
  refine gz 11 h2 S rfl rfl rfl rfl rfl rfl (y_bin rfl S rfl rfl rfl) fun a S => ?_
  refine gy rfl rfl rfl S (y_or' rfl h2 S rfl rfl) fun a S => ?_
  exact kk _ _ (S.join 4 15 rfl rfl) H
 refine gm S fun a S => ?_
 refine' wl_or 3 16 rfl S H rfl rfl rfl rfl rfl rfl rfl (fun _ S => (wn rfl)) (fun h3 kk => ?yh3) (fun a w S H => ?_)
 case yh3 =>
  have h3p := h3; try simp only [DL] at h3p
  refine gz 16 h3 S rfl rfl rfl rfl rfl rfl (y_faddrb rfl Ffo29_1 S rfl) fun a S => ?_
  refine gz 16 h3 S rfl rfl rfl rfl rfl rfl (y_load rfl Fsca3 S H rfl rfl) fun a S => ?_
  refine gz 16 h3 S rfl rfl rfl rfl rfl rfl (y_bin rfl S rfl rfl rfl) fun a S => ?_
  refine gy rfl rfl rfl S (y_or' rfl h3 S rfl rfl) fun a S => ?_
  exact kk _ _ (S.join 4 20 rfl rfl) H
 refine gm S fun a S => ?_
 refine' wl_or 4 21 rfl S H rfl rfl rfl rfl rfl rfl rfl (fun _ S => (wn rfl)) (fun h4 kk => ?yh4) (fun a w S H => ?_)
 case yh4 =>
  have h4p := h4; try simp only [DL] at h4p
  refine gz 21 h4 S rfl rfl rfl rfl rfl rfl (y_faddrb rfl Ffo29_3 S rfl) fun a S => ?_
  refine gz 21 h4 S rfl rfl rfl rfl rfl rfl (y_load rfl Fsca9 S H rfl rfl) fun a S => ?_
  refine wl_of (op_call (wg' 21 rfl rfl S rfl h4 rfl) rfl rfl S (co_func rfl Try.call37 S rfl) (rname_spec _ _ ho) fun v w hc a S => ?_)
  obtain ⟨rfl, he⟩ := hc
  have H := H.ext he
  refine gz 21 h4 S rfl rfl rfl rfl rfl rfl (y_not rfl S rfl) fun a S => ?_
  refine gy rfl rfl rfl S (y_or' rfl h4 S rfl rfl) fun a S => ?_
  exact kk _ _ (S.join 5 26 rfl rfl) H
 refine gnt ?_
 have S := ((S.nil.cons S 1 rfl).cons S 2 rfl).cons S 26 rfl
 refine c_if S rfl (fun h5 => ?_) (fun h5 => ?_)
 ·have h5p := h5; try simp only [DL] at h5p
  refine gsr ?_
  refine ga S fun a S => ?_
  refine gnt ?_
  refine g_ret ?_
  refine r_then (ret1 rfl S rfl ?_)
  exact ⟨congrArg Value.bool (valid_no o (by have := h5p; simpa using this)).symm, H.toExt⟩
 ·have h5p := h5; try simp only [DL] at h5p
  refine g_skip ?_
  refine n_then ?_
  refine g_seq ?_
  refine gsr ?_
  refine gy rfl rfl rfl S (y_faddrb rfl Ffo29_2 S rfl) fun a S => ?_
  refine gy rfl rfl rfl S (y_load rfl Fsca4 S H rfl rfl) fun a S => ?_
  refine gnt ?_
  refine c_if S rfl (fun h6 => ?_) (fun h6 => ?_)
  ·have h6p := h6; try simp only [DL] at h6p
   refine gsr ?_
   refine gy rfl rfl rfl S (y_faddrb rfl Ffo29_4 S rfl) fun a S => ?_
   refine gy rfl rfl rfl S (y_load rfl Fsca3 S H rfl rfl) fun a S => ?_
   refine gy rfl rfl rfl S (y_bin rfl S rfl rfl rfl) fun a S => ?_
   refine gm S fun a S => ?_
   refine' wl_and 3 32 rfl S H rfl rfl rfl rfl rfl rfl rfl (fun _ S => (wn rfl)) (fun h7 kk => ?yh7) (fun a w S H => ?_)
   case yh7 =>
    have h7p := h7; try simp only [DL] at h7p
    refine gz 32 h7 S rfl rfl rfl rfl rfl rfl (y_faddrb rfl Ffo29_4 S rfl) fun a S => ?_
    refine gz 32 h7 S rfl rfl rfl rfl rfl rfl (y_load rfl Fsca3 S H rfl rfl) fun a S => ?_
    refine gz 32 h7 S rfl rfl rfl rfl rfl rfl (y_bin rfl S rfl rfl rfl) fun a S => ?_
    refine gy rfl rfl rfl S (y_and' rfl h7 S rfl rfl) fun a S => ?_
    exact kk _ _ (S.join 4 36 rfl rfl) H
   refine ga S fun a S => ?_
   refine gnt ?_
   have S := (S.nil.cons S 1 rfl).cons S 2 rfl
   refine g_ret ?_
   refine r_then (ret1 rfl S rfl ?_)
   exact ⟨congrArg Value.bool (by rw [valid_go o (by have := h5p; simpa using this), serB, if_pos h6p]; rfl), H.toExt⟩
  ·have h6p := h6; try simp only [DL] at h6p
   refine g_skip ?_
   refine n_then ?_
   refine gsr ?_
   refine gy rfl rfl rfl S (y_faddrb rfl Ffo29_4 S rfl) fun a S => ?_
   refine gy rfl rfl rfl S (y_load rfl Fsca3 S H rfl rfl) fun a S => ?_
   refine gy rfl rfl rfl S (y_bin rfl S rfl rfl rfl) fun a S => ?_
   refine ga S fun a S => ?_
   refine gnt ?_
   have S := S.nil.cons S 2 rfl
   refine g_ret ?_
   refine ret1 rfl S rfl ?_
   exact ⟨congrArg Value.bool (by rw [valid_go o (by have := h5p; simpa using this), serB, if_neg (by simp [h6p])]; rfl), H.toExt⟩
/-- foyer/book.better -/
theorem better_spec (x y : Ord) (w0 : World) :
    Ret Try.prog 33 #[.agg (Ord.enc x).toArray, .agg (Ord.enc y).toArray] w0 (fun u w => u = .int .i64 (betZ x y) ∧ Ext w0 w) := by
 refine ret_of_wp (nt := 24) Try.func33 rfl rfl rfl (fl := [(0, .agg (Ord.enc x).toArray), (1, .agg (Ord.enc y).toArray)]) rfl (fun a S => ?_)
 have H := HSat.start w0
 have hc1 := cmpZ_rng x.price y.price
 refine gsr ?_
 refine wl_of (op_boxa (wn rfl) rfl rfl rfl S H rfl fun b2 a w S H => ?_)
 refine wl_of (op_boxa (wn rfl) rfl rfl rfl S H rfl fun b3 a w S H => ?_)
 refine ga S fun a S => ?_
 refine gnt ?_
 refine gsr ?_
 refine gy rfl rfl rfl S (y_faddrb rfl Ffo29_1 S rfl) fun a S => ?_
 refine gy rfl rfl rfl S (y_load rfl Fsca3 S H rfl rfl) fun a S => ?_
 refine gy rfl rfl rfl S (y_faddrb rfl Ffo29_1 S rfl) fun a S => ?_
 refine gy rfl rfl rfl S (y_load rfl Fsca3 S H rfl rfl) fun a S => ?_
 refine wl_of (op_call (wn rfl) rfl rfl S (co_func rfl Try.call40 S rfl) (compare_spec _ _ _) fun v w hc a S => ?_)
 obtain ⟨rfl, he⟩ := hc
 have H := H.ext he
 refine ga S fun a S => ?_
 refine gnt ?_
 have S := (((S.nil.cons S 2 rfl).cons S 3 rfl).cons S 4 rfl).cons S 5 rfl
 refine g_seq ?_
 refine gsr ?_
 refine gy rfl rfl rfl S (y_faddrb rfl Ffo29_2 S rfl) fun a S => ?_
 refine gy rfl rfl rfl S (y_load rfl Fsca4 S H rfl rfl) fun a S => ?_
 refine gy rfl rfl rfl S (y_not rfl S rfl) fun a S => ?_
 refine gnt ?_
 refine' c_ji (s := 5) S rfl (fun h1 => ?th1) (fun h1 => ?fh1) (fun a w S H => ?_)
 case th1 =>
  have h1p := h1; try simp only [DL] at h1p
  refine g_region ?_
  refine gm S fun a S => ?_
  refine gy rfl rfl rfl S (y_neg rfl S rfl (by omega)) fun a S => ?_
  refine ga S fun a S => ?_
  refine gnt ?_
  exact ⟨S.nil.cons S 5 rfl, ((S.nil.cons S 2 rfl).cons S 3 rfl).cons S 4 rfl, H⟩
 case fh1 =>
  have h1p := h1; try simp only [DL] at h1p
  refine g_skip ?_
  refine n_then ?_
  exact ⟨S.nil.cons S 5 rfl, ((S.nil.cons S 2 rfl).cons S 3 rfl).cons S 4 rfl, H⟩
 refine gsr ?_
 refine gm S fun a S => ?_
 rw [pri_eq] at S
 refine gy rfl rfl rfl S (y_faddrb rfl Ffo29_0 S rfl) fun a S => ?_
 refine gy rfl rfl rfl S (y_load rfl Fsca3 S H rfl rfl) fun a S => ?_
 refine gy rfl rfl rfl S (y_faddrb rfl Ffo29_0 S rfl) fun a S => ?_
 refine gy rfl rfl rfl S (y_load rfl Fsca3 S H rfl rfl) fun a S => ?_
 refine wl_of (op_call (wn rfl) rfl rfl S (co_func rfl Try.call40 S rfl) (compare_spec _ _ _) fun v w hc a S => ?_)
 obtain ⟨rfl, he⟩ := hc
 have H := H.ext he
 refine wl_of (op_buildSlice (wn rfl) rfl rfl rfl Try.underlying52 Finf3 S H (idx := [0, 1]) rfl rfl rfl (z := [.int .i64 0, .int .i64 0]) (by kernel_rfl) (cs := [.int .i64 (priZ x y), .int .i64 (cmpZ x.id y.id)]) (by kernel_rfl) fun b22 a w S H => ?_)
 have H := H.celO [priZ x y, cmpZ x.id y.id] encI 1 (m := 2) rfl (by simp [encI]) rfl (by decide)
 refine wl_of (op_call (wn rfl) rfl rfl S (co_func rfl Try.call41 S rfl) (or_spec _ [priZ x y, cmpZ x.id y.id] _ (H.sl _)) fun v w hc a S => ?_)
 obtain ⟨rfl, he⟩ := hc
 have H := H.ext he
 refine ga S fun a S => ?_
 refine gnt ?_
 have S := S.nil.cons S 4 rfl
 refine g_ret ?_
 refine ret1 rfl S rfl ?_
 exact ⟨by rw [orZ_two]; rfl, H.toExt⟩
end Go.Proofs.Ytcgpbalpihkiiaa
