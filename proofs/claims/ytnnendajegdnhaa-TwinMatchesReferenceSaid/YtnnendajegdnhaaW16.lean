/- The walks. No condition. -/
import Derived.Test.YtnnendajegdnhaaChecked
import Derived.Test.YtnnendajegdnhaaGwBits
import Derived.Test.YtnnendajegdnhaaFacts
import Derived.Test.YtnnendajegdnhaaPlain
import Derived.Test.YtnnendajegdnhaaPlainV
import Derived.Test.YtnnendajegdnhaaW5
namespace Go.Proofs.Ytnnendajegdnhaa
open Go Go.Gw
set_option linter.unusedVariables false
set_option linter.unusedSimpArgs false
set_option maxHeartbeats 2000000 in
/-- foyer/foyerref41.Same -/
theorem same_spec (mva vla vra : Value) (msa : List Mv) (lefta righta : List Int) (mvb vlb vrb : Value) (msb : List Mv) (leftb rightb : List Int) (w0 : World) (hma : IsSl w0 mva 3 Mv.enc msa) (hra : ∀ p ∈ rowsOf msa, IsSl w0 p.1 1 encI p.2) (hla : IsSl w0 vla 1 encI lefta) (hca : IsSl w0 vra 1 encI righta) (hmb : IsSl w0 mvb 3 Mv.enc msb) (hrb : ∀ p ∈ rowsOf msb, IsSl w0 p.1 1 encI p.2) (hlb : IsSl w0 vlb 1 encI leftb) (hcb : IsSl w0 vrb 1 encI rightb) :
    Ret Try.prog 19 #[.agg #[mva, vla, vra], .agg #[mvb, vlb, vrb]] w0 (fun u w => u = .bool (decide (msa.map Mv.say = msb.map Mv.say) && (decide (lefta = leftb) && decide (righta = rightb))) ∧ Ext w0 w) := by
 refine ret_of_wp (nt := 72) Try.func19 rfl rfl rfl (fl := [(0, .agg #[mva, vla, vra]), (1, .agg #[mvb, vlb, vrb])]) rfl (fun a S => ?_)
 have H := HSat.start w0
 have H := H.ro0 (Sl mva 3 Mv.enc msa) rfl (hma)
 have H := H.ro0 (Sl mvb 3 Mv.enc msb) rfl (hmb)
 have H := H.ro0 (RowsS 1 encI (rowsOf msa)) rfl (hra)
 have H := H.ro0 (RowsS 1 encI (rowsOf msb)) rfl (hrb)
 have H := H.ro0 (Sl vla 1 encI lefta) rfl (hla)
 have H := H.ro0 (Sl vlb 1 encI leftb) rfl (hlb)
 have H := H.ro0 (Sl vra 1 encI righta) rfl (hca)
 have H := H.ro0 (Sl vrb 1 encI rightb) rfl (hcb)
 have hlma := hma.len
 have hlmb := hmb.len
 refine gsr ?_
 refine wl_of (op_boxa (wn rfl) rfl rfl rfl S H rfl fun b2 a w S H => ?_)
 refine wl_of (op_boxa (wn rfl) rfl rfl rfl S H rfl fun b3 a w S H => ?_)
 refine ga S fun a S => ?_
 refine gnt ?_
 refine g_seq ?_
 refine gsr ?_
 refine gy rfl rfl rfl S (y_faddrb rfl Ffo43_0 S rfl) fun a S => ?_
 refine gy rfl rfl rfl S (y_load rfl Fsca38 S H rfl rfl) fun a S => ?_
 refine gy rfl rfl rfl S (y_lens rfl Try.underlying38 S H rfl) fun a S => ?_
 refine gy rfl rfl rfl S (y_faddrb rfl Ffo43_0 S rfl) fun a S => ?_
 refine gy rfl rfl rfl S (y_load rfl Fsca38 S H rfl rfl) fun a S => ?_
 refine gy rfl rfl rfl S (y_lens rfl Try.underlying38 S H rfl) fun a S => ?_
 refine gy rfl rfl rfl S (y_bin rfl S rfl rfl rfl) fun a S => ?_
 refine gm S fun a S => ?_
 refine' wl_or 8 15 rfl S H rfl rfl rfl rfl rfl rfl rfl (fun _ S => (wn rfl)) (fun h1 kk => ?yh1) (fun a w S H => ?_)
 case yh1 =>
  have h1p := h1; try simp only [DL] at h1p
  refine gz 15 h1 S rfl rfl rfl rfl rfl rfl (y_faddrb rfl Ffo43_1 S rfl) fun a S => ?_
  refine gz 15 h1 S rfl rfl rfl rfl rfl rfl (y_faddrb rfl Ffo41_0 S rfl) fun a S => ?_
  refine gz 15 h1 S rfl rfl rfl rfl rfl rfl (y_load rfl Fsca39 S H rfl rfl) fun a S => ?_
  refine gz 15 h1 S rfl rfl rfl rfl rfl rfl (y_faddrb rfl Ffo43_1 S rfl) fun a S => ?_
  refine gz 15 h1 S rfl rfl rfl rfl rfl rfl (y_faddrb rfl Ffo41_0 S rfl) fun a S => ?_
  refine gz 15 h1 S rfl rfl rfl rfl rfl rfl (y_load rfl Fsca39 S H rfl rfl) fun a S => ?_
  refine wl_of (op_call (wg' 15 rfl rfl S rfl h1 rfl) rfl rfl S (co_func rfl Try.call44 S rfl) (ints_spec vla vlb lefta leftb _ (H.sl vla) (H.sl vlb)) fun v w hc a S => ?_)
  obtain ⟨rfl, he⟩ := hc
  have H := H.ext he
  refine gz 15 h1 S rfl rfl rfl rfl rfl rfl (y_not rfl S rfl) fun a S => ?_
  refine gy rfl rfl rfl S (y_or' rfl h1 S rfl rfl) fun a S => ?_
  exact kk _ _ (S.join 9 24 rfl rfl) H
 refine gm S fun a S => ?_
 refine' wl_or 8 25 rfl S H rfl rfl rfl rfl rfl rfl rfl (fun _ S => (wn rfl)) (fun h2 kk => ?yh2) (fun a w S H => ?_)
 case yh2 =>
  have h2p := h2; try simp only [DL] at h2p
  refine gz 25 h2 S rfl rfl rfl rfl rfl rfl (y_faddrb rfl Ffo43_1 S rfl) fun a S => ?_
  refine gz 25 h2 S rfl rfl rfl rfl rfl rfl (y_faddrb rfl Ffo41_1 S rfl) fun a S => ?_
  refine gz 25 h2 S rfl rfl rfl rfl rfl rfl (y_load rfl Fsca39 S H rfl rfl) fun a S => ?_
  refine gz 25 h2 S rfl rfl rfl rfl rfl rfl (y_faddrb rfl Ffo43_1 S rfl) fun a S => ?_
  refine gz 25 h2 S rfl rfl rfl rfl rfl rfl (y_faddrb rfl Ffo41_1 S rfl) fun a S => ?_
  refine gz 25 h2 S rfl rfl rfl rfl rfl rfl (y_load rfl Fsca39 S H rfl rfl) fun a S => ?_
  refine wl_of (op_call (wg' 25 rfl rfl S rfl h2 rfl) rfl rfl S (co_func rfl Try.call44 S rfl) (ints_spec vra vrb righta rightb _ (H.sl vra) (H.sl vrb)) fun v w hc a S => ?_)
  obtain ⟨rfl, he⟩ := hc
  have H := H.ext he
  refine gz 25 h2 S rfl rfl rfl rfl rfl rfl (y_not rfl S rfl) fun a S => ?_
  refine gy rfl rfl rfl S (y_or' rfl h2 S rfl rfl) fun a S => ?_
  exact kk _ _ (S.join 9 34 rfl rfl) H
 refine gnt ?_
 have S := (((S.nil.cons S 2 rfl).cons S 3 rfl).cons S 4 rfl).cons S 34 rfl
 refine c_if S rfl (fun h3 => ?_) (fun h3 => ?_)
 ·have h3p := h3; try simp only [DL] at h3p
  have hx := h3
  simp only [Bool.or_eq_true, Bool.not_eq_true', decide_eq_false_iff_not, bne_iff_ne, ne_eq] at hx
  refine gsr ?_
  refine ga S fun a S => ?_
  refine gnt ?_
  refine g_ret ?_
  refine r_then (ret1 rfl S rfl ?_)
  refine ⟨congrArg Value.bool (Eq.symm ?_), H.toExt⟩
  rcases hx with (hx | hx) | hx
  · rw [decide_eq_false (fun e => hx (by have := congrArg List.length e; simp only [List.length_map] at this; omega))]; rfl
  · rw [decide_eq_false hx]; simp
  · rw [decide_eq_false hx]; simp
 ·have h3p := h3; try simp only [DL] at h3p
  have hx := h3
  simp only [Bool.or_eq_false_iff, Bool.not_eq_false', decide_eq_true_eq, bne_eq_false_iff_eq] at hx
  obtain ⟨⟨hx0, hx1⟩, hx2⟩ := hx
  have hlab : msa.length = msb.length := by omega
  refine g_skip ?_
  refine n_then ?_
  refine g_seq ?_
  refine gsr ?_
  refine ga S fun a S => ?_
  refine gnt ?_
  refine g_block ?_
  have SU := (S.nil.cons S 2 rfl).cons S 3 rfl
  refine loopW (X := Nat) SU (fun k => [(5, .int .i64 (k : Int))]) (fun k w => k ≤ msa.length ∧ (∀ j (h : j < msa.length) (h2 : j < msb.length), j < k → msa[j].say = msb[j].say) ∧ HSat No w0 [Cel b3 43 [mvb, vlb, vrb], Cel b2 43 [mva, vla, vra], Sl vrb 1 encI rightb, Sl vra 1 encI righta, Sl vlb 1 encI leftb, Sl vla 1 encI lefta, RowsS 1 encI (rowsOf msb), RowsS 1 encI (rowsOf msa), Sl mvb 3 Mv.enc msb, Sl mva 3 Mv.enc msa] w) (fun k => msa.length - k) 0 (S.nil.cons S 5 rfl) (⟨by omega, fun j h h2 hj => by omega, H⟩) (fun k a w S hW => ?_)
  simp only [List.cons_append, List.nil_append] at S
  clear H
  obtain ⟨hk, hsm, H⟩ := hW
  refine g_seq ?_
  refine gsr ?_
  refine gm S fun a S => ?_
  refine gy rfl rfl rfl S (y_faddrb rfl Ffo43_0 S rfl) fun a S => ?_
  refine gy rfl rfl rfl S (y_load rfl Fsca38 S H rfl rfl) fun a S => ?_
  refine gy rfl rfl rfl S (y_lens rfl Try.underlying38 S H rfl) fun a S => ?_
  refine gy rfl rfl rfl S (y_bin rfl S rfl rfl rfl) fun a S => ?_
  refine gnt ?_
  have S := (((S.nil.cons S 2 rfl).cons S 3 rfl).cons S 5 rfl).cons S 39 rfl
  refine c_if S rfl (fun h4 => ?_) (fun h4 => ?_)
  ·have h4p := h4; try simp only [DL] at h4p
   have hka : k < msa.length := by omega
   have hkb : k < msb.length := by omega
   have hmoa := (hra _ (rows_mem hka)).one
   have hmob := (hrb _ (rows_mem hkb)).one
   refine g_skip ?_
   refine n_then ?_
   refine g_seq ?_
   refine g_block ?_
   refine gsr ?_
   refine gy rfl rfl rfl S (y_faddrb rfl Ffo43_0 S rfl) fun a S => ?_
   refine gy rfl rfl rfl S (y_load rfl Fsca38 S H rfl rfl) fun a S => ?_
   refine gm S fun a S => ?_
   refine gy rfl rfl rfl S (y_iaddrn rfl Try.underlying38 Fsiz91 S H rfl rfl (by first | assumption | omega | (simp only [LL]; omega))) fun a S => ?_
   refine gy rfl rfl rfl S (y_loadsa _ rfl S H rfl (by exact Fagg91) (by first | assumption | omega | (simp only [LL]; omega))) fun a S => ?_
   refine wl_of (op_alloc (wn rfl) rfl rfl rfl S H Fzer91 fun b6 a w S H => ?_)
   refine wl_of (op_storea (wn rfl) rfl rfl S H rfl rfl (by simp only [Mv.enc, List.all_cons, List.all_nil, hmoa, Bool.and_true]; rfl) Fsiz91 rfl (cs' := [_, _, _]) rfl fun a w S H => ?_)
   refine gnt ?_
   have S := (((S.nil.cons S 2 rfl).cons S 3 rfl).cons S 5 rfl).cons S 6 rfl
   refine gsr ?_
   refine gy rfl rfl rfl S (y_faddrb rfl Ffo43_0 S rfl) fun a S => ?_
   refine gy rfl rfl rfl S (y_load rfl Fsca38 S H rfl rfl) fun a S => ?_
   refine gm S fun a S => ?_
   refine gy rfl rfl rfl S (y_iaddrn rfl Try.underlying38 Fsiz91 S H rfl rfl (by first | assumption | omega | (simp only [LL]; omega))) fun a S => ?_
   refine gy rfl rfl rfl S (y_loadsa _ rfl S H rfl (by exact Fagg91) (by first | assumption | omega | (simp only [LL]; omega))) fun a S => ?_
   refine wl_of (op_alloc (wn rfl) rfl rfl rfl S H Fzer91 fun b7 a w S H => ?_)
   refine wl_of (op_storea (wn rfl) rfl rfl S H rfl rfl (by simp only [Mv.enc, List.all_cons, List.all_nil, hmob, Bool.and_true]; rfl) Fsiz91 rfl (cs' := [_, _, _]) rfl fun a w S H => ?_)
   refine gnt ?_
   have S := ((((S.nil.cons S 2 rfl).cons S 3 rfl).cons S 5 rfl).cons S 6 rfl).cons S 7 rfl
   refine gsr ?_
   refine gy rfl rfl rfl S (y_faddrb rfl Ffo91_0 S rfl) fun a S => ?_
   refine gy rfl rfl rfl S (y_load rfl Fsca3 S H rfl rfl) fun a S => ?_
   refine gy rfl rfl rfl S (y_faddrb rfl Ffo91_0 S rfl) fun a S => ?_
   refine gy rfl rfl rfl S (y_load rfl Fsca3 S H rfl rfl) fun a S => ?_
   refine gy rfl rfl rfl S (y_bin rfl S rfl rfl rfl) fun a S => ?_
   refine gm S fun a S => ?_
   refine' wl_or 5 57 rfl S H rfl rfl rfl rfl rfl rfl rfl (fun _ S => (wn rfl)) (fun h5 kk => ?yh5) (fun a w S H => ?_)
   case yh5 =>
    have h5p := h5; try simp only [DL] at h5p
    refine gz 57 h5 S rfl rfl rfl rfl rfl rfl (y_faddrb rfl Ffo91_1 S rfl) fun a S => ?_
    refine gz 57 h5 S rfl rfl rfl rfl rfl rfl (y_load rfl Fsca3 S H rfl rfl) fun a S => ?_
    refine gz 57 h5 S rfl rfl rfl rfl rfl rfl (y_faddrb rfl Ffo91_1 S rfl) fun a S => ?_
    refine gz 57 h5 S rfl rfl rfl rfl rfl rfl (y_load rfl Fsca3 S H rfl rfl) fun a S => ?_
    refine gz 57 h5 S rfl rfl rfl rfl rfl rfl (y_bin rfl S rfl rfl rfl) fun a S => ?_
    refine gy rfl rfl rfl S (y_or' rfl h5 S rfl rfl) fun a S => ?_
    exact kk _ _ (S.join 6 63 rfl rfl) H
   refine gm S fun a S => ?_
   refine' wl_or 6 64 rfl S H rfl rfl rfl rfl rfl rfl rfl (fun _ S => (wn rfl)) (fun h6 kk => ?yh6) (fun a w S H => ?_)
   case yh6 =>
    have h6p := h6; try simp only [DL] at h6p
    refine gz 64 h6 S rfl rfl rfl rfl rfl rfl (y_faddrb rfl Ffo91_2 S rfl) fun a S => ?_
    refine gz 64 h6 S rfl rfl rfl rfl rfl rfl (y_load rfl Fsca39 S H rfl rfl) fun a S => ?_
    refine gz 64 h6 S rfl rfl rfl rfl rfl rfl (y_faddrb rfl Ffo91_2 S rfl) fun a S => ?_
    refine gz 64 h6 S rfl rfl rfl rfl rfl rfl (y_load rfl Fsca39 S H rfl rfl) fun a S => ?_
    refine wl_of (op_call (wg' 64 rfl rfl S rfl h6 rfl) rfl rfl S (co_func rfl Try.call44 S rfl) (ints_spec msa[k].row.1 msb[k].row.1 msa[k].row.2 msb[k].row.2 _ (H.rwsS (rowsOf msa) _ (rows_mem (by omega))) (H.rwsS (rowsOf msb) _ (rows_mem (by omega)))) fun v w hc a S => ?_)
    obtain ⟨rfl, he⟩ := hc
    have H := H.ext he
    refine gz 64 h6 S rfl rfl rfl rfl rfl rfl (y_not rfl S rfl) fun a S => ?_
    refine gy rfl rfl rfl S (y_or' rfl h6 S rfl rfl) fun a S => ?_
    exact kk _ _ (S.join 7 71 rfl rfl) H
   refine gnt ?_
   have S := (((S.nil.cons S 2 rfl).cons S 3 rfl).cons S 5 rfl).cons S 71 rfl
   refine c_if S rfl (fun h7 => ?_) (fun h7 => ?_)
   ·have h7p := h7; try simp only [DL] at h7p
    have hy := h7
    simp only [Bool.or_eq_true, Bool.not_eq_true', decide_eq_false_iff_not, bne_iff_ne, ne_eq] at hy
    refine gsr ?_
    refine ga S fun a S => ?_
    refine gnt ?_
    refine g_ret ?_
    refine r_block (r_then (r_then (r_block (r_then (ret1 rfl S rfl ?_)))))
    refine ⟨congrArg Value.bool (Eq.symm ?_), H.toExt⟩
    rw [decide_eq_false (fun e => ?_)]; rfl
    have h1 := say_get hka (by simpa using hka)
    have h2 := say_get hkb (by simpa using hkb)
    simp only [e] at h1
    rw [h2] at h1
    simp only [Prod.mk.injEq] at h1
    rcases hy with (hy | hy) | hy
    · exact hy h1.1.symm
    · exact hy h1.2.1.symm
    · exact hy h1.2.2.symm
   ·have h7p := h7; try simp only [DL] at h7p
    have hy := h7
    simp only [Bool.or_eq_false_iff, Bool.not_eq_false', decide_eq_true_eq, bne_eq_false_iff_eq] at hy
    refine g_skip ?_
    refine n_block ?_
    refine n_then ?_
    refine g_region ?_
    refine gm S fun a S => ?_
    refine gy rfl rfl rfl S (y_add rfl S rfl rfl (by omega)) fun a S => ?_
    refine ga S fun a S => ?_
    refine gnt ?_
    refine ⟨k + 1, S.nil.cons S 5 rfl, (S.nil.cons S 2 rfl).cons S 3 rfl, ⟨by omega, fun j h h2 hj => ?_, H.drop 2⟩, by omega⟩
    by_cases e : j < k
    · exact hsm j h h2 e
    · obtain rfl : j = k := by omega
      simp only [Mv.say, Prod.mk.injEq]; exact ⟨hy.1.1, hy.1.2, hy.2⟩
  ·have h4p := h4; try simp only [DL] at h4p
   obtain rfl : k = msa.length := by omega
   refine g_exit ?_
   refine x_then (x_then (x_eq ?_))
   refine n_then ?_
   have S := S.nil
   refine gsr ?_
   refine ga S fun a S => ?_
   refine gnt ?_
   refine g_ret ?_
   refine ret1 rfl S rfl ?_
   refine ⟨congrArg Value.bool (Eq.symm ?_), H.toExt⟩
   rw [decide_eq_true (List.ext_getElem (by simpa using hlab) (fun j h h2 => by simp only [List.getElem_map]; exact hsm j (by simpa using h) (by simpa using h2) (by simpa using h))), decide_eq_true hx1, decide_eq_true hx2]; rfl
end Go.Proofs.Ytnnendajegdnhaa
