/- The walks. No condition. -/
import Derived.Test.YtngocpdmlijnfaaDoorChecked
import Derived.Test.YtngocpdmlijnfaaDoorGwStrB
import Derived.Test.YtngocpdmlijnfaaDoorShelf
import Derived.Test.YtngocpdmlijnfaaDoorFacts
import Derived.Test.YtngocpdmlijnfaaDoorPlain
import Derived.Test.YtngocpdmlijnfaaDoorW10
import Derived.Test.YtngocpdmlijnfaaDoorPlainE
namespace Go.Proofs.YtngocpdmlijnfaaDoor
open Go Go.Gw
set_option linter.unusedVariables false
set_option linter.unusedSimpArgs false
set_option maxHeartbeats 1000000 in
/-- foyer/foyertop.w09Passed -/
theorem passed_spec (v : Value) (xs : List ByteArray) (w0 : World) (hT : Tabs w0) (hv : IsSl w0 v 1 encS xs) (hn1 : 1 ≤ xs.length) (hn5 : xs.length ≤ 5) (hx : ∀ i, (xs.getD i (⟨#[]⟩ : ByteArray)).size ≤ 1000) (hd : ∀ j, j < xs.length → ∀ i, i < j → pubS (xs.getD i (⟨#[]⟩ : ByteArray)) ≠ pubS (xs.getD j (⟨#[]⟩ : ByteArray))) :
    Ret Tryd.prog 9 #[.int .i64 10001, v] w0 (fun u w => ∃ t, u = .agg (encT t).toArray ∧ PS xs (xs.length - 1) t ∧ HSat No w0 [TitO t] w) := by
 refine ret_of_wp (nt := 38) Tryd.func9 rfl rfl rfl (fl := [(0, .int .i64 10001), (1, v)]) rfl (fun a S => ?_)
 have H := HSat.start w0
 have H := H.ro0 (TabsA) rfl (hT)
 have H := H.ro0 (Sl v 1 encS xs) rfl (hv)
 refine gsr ?_
 refine wl_of (op_alloc (wn rfl) rfl rfl rfl S H Fzer24 fun b4 a w S H => ?_)
 refine gnt ?_
 refine gsr ?_
 refine gm S fun a S => ?_
 refine gm S fun a S => ?_
 refine gy rfl rfl rfl S (y_quon rfl S rfl rfl (by omega) (by omega) (by omega)) fun a S => ?_
 refine gy rfl rfl rfl S (y_sub rfl S rfl rfl (by omega)) fun a S => ?_
 refine gm S fun a S => ?_
 refine gy rfl rfl rfl S ((y_iaddrn (i := 0) rfl Tryd.underlying30 Fsiz9 S H rfl rfl (by omega))) fun a S => ?_
 refine gy rfl rfl rfl S ((y_loadsD v (⟨#[]⟩ : ByteArray) rfl Fsca9 S H rfl (by omega) rfl)) fun a S => ?_
 refine wl_of (op_call (wn rfl) rfl rfl S (co_func rfl Tryd.call28 S rfl) (public_spec _ _ H.tabs (hx _)) fun v w hc a S => ?_)
 obtain ⟨rfl, he⟩ := hc
 have H := H.ext he
 refine gy rfl rfl rfl S (y_buildf rfl Fbld24 S rfl (idx := [0, 1, 2, 3]) rfl (cs := [.int .i64 10001, .int .i64 0, .int .i64 3, .string (pubS (xs.getD (0) (⟨#[]⟩ : ByteArray))), .slice none 0 0]) rfl) fun a S => ?_
 refine wl_of (op_alloc (wn rfl) rfl rfl rfl S H Fzer24 fun b5 a w S H => ?_)
 refine wl_of (op_storea (wn rfl) rfl rfl S H rfl rfl (by first | rfl | exact encT_one (t := (passT t (pubS (xs.getD (k + 1) (⟨#[]⟩ : ByteArray))) v34 s34 (xs.getD (k) (⟨#[]⟩ : ByteArray)))) (H.sl1 v34)) Fsiz24 rfl (cs' := [_, _, _, _, _]) rfl fun a w S H => ?_)
 refine gnt ?_
 have S := ((S.nil.cons S 1 rfl).cons S 4 rfl).cons S 5 rfl
 refine g_seq ?_
 refine gsr ?_
 refine ga S fun a S => ?_
 refine gnt ?_
 refine g_block ?_
 have H := titNil H 10001 0 3 (pubS (xs.getD (0) (⟨#[]⟩ : ByteArray)))
 have SU := ((S.nil.cons S 1 rfl).cons S 4 rfl).cons S 5 rfl
 refine loopW (X := Nat × TV) SU (fun x => [(6, .int .i64 ((x.1 + 1 : Nat) : Int))]) (fun x w => x.1 + 1 ≤ xs.length ∧ PS xs x.1 x.2 ∧ HSat No w0 [Cel b5 24 (encT x.2), Cel b4 24 [.int .i64 0, .int .i64 0, .int .i64 0, .string ⟨#[]⟩, .slice none 0 0], TitO x.2, Sl v 1 encS xs, TabsA] w) (fun x => xs.length - x.1) (0, (⟨10001, 0, 3, pubS (xs.getD (0) (⟨#[]⟩ : ByteArray)), .slice none 0 0, []⟩ : TV)) (S.nil.cons S 6 rfl) (⟨by dsimp only; omega, PS.zero xs, by have h := H.take [Cel b5 24 [.int .i64 10001, .int .i64 0, .int .i64 3, .string (pubS (xs.getD (0) (⟨#[]⟩ : ByteArray))), .slice none 0 0], Cel b4 24 [.int .i64 0, .int .i64 0, .int .i64 0, .string ⟨#[]⟩, .slice none 0 0], TitO (⟨10001, 0, 3, pubS (xs.getD (0) (⟨#[]⟩ : ByteArray)), .slice none 0 0, []⟩ : TV), Sl v 1 encS xs, TabsA]; exact h⟩) (fun x a w S hW => ?_)
 simp only [List.cons_append, List.nil_append] at S
 obtain ⟨k, t⟩ := x
 obtain ⟨hk, hP, H⟩ := hW
 dsimp only at S H hk hP
 refine g_seq ?_
 refine gsr ?_
 refine gm S fun a S => ?_
 refine gm S fun a S => ?_
 refine gy rfl rfl rfl S (y_lens rfl Tryd.underlying30 S H rfl) fun a S => ?_
 refine gy rfl rfl rfl S (y_bin rfl S rfl rfl rfl) fun a S => ?_
 refine gnt ?_
 refine c_if S rfl (fun h1 => ?_) (fun h1 => ?_)
 ·have h1p := h1; try simp only [DL] at h1p
  have hkx : k + 1 < xs.length := by omega
  refine g_skip ?_
  refine n_then ?_
  have S := (((S.nil.cons S 1 rfl).cons S 4 rfl).cons S 5 rfl).cons S 6 rfl
  refine g_seq ?_
  refine g_block ?_
  refine region_st (loud := [11, 15]) (tails := [15]) (free := [14]) [0, 1, 2, 3, 4, 5, 6, 7, 8, 9, 10, 11, 12, 13, 14, 15] [] Fmo (by kernel_rfl) (by kernel_rfl) rfl H ?_
  refine m_w rfl rfl (wn rfl) rfl rfl S (fun w H => y_load0 rfl S H rfl (by exact Fagg24)) fun a S => ?_
  refine m_w rfl rfl (wn rfl) rfl rfl S (fun w H => y_move rfl S rfl) fun a S => ?_
  refine m_w rfl rfl (wn rfl) rfl rfl S (fun w H => y_move rfl S rfl) fun a S => ?_
  refine m_w rfl rfl (wn rfl) rfl rfl S (fun w H => y_iaddrn rfl Tryd.underlying30 Fsiz9 S H rfl rfl (by first | assumption | omega | (simp only [LL]; omega))) fun a S => ?_
  refine m_w rfl rfl (wn rfl) rfl rfl S (fun w H => (y_loadsD v (⟨#[]⟩ : ByteArray) rfl Fsca9 S H rfl (by omega) rfl)) fun a S => ?_
  refine m_c rfl rfl (wn rfl) rfl rfl S (fun w => co_func rfl Tryd.call28 S rfl) (fun w H => public_spec _ _ H.tabs (hx _)) fun a S => ?_
  refine m_w rfl rfl (wn rfl) rfl rfl S (fun w H => y_move rfl S rfl) fun a S => ?_
  refine m_w rfl rfl (wn rfl) rfl rfl S (fun w H => y_move rfl S rfl) fun a S => ?_
  refine m_w rfl rfl (wn rfl) rfl rfl S (fun w H => (y_subn (m := k) rfl S rfl rfl (by omega) (by omega))) fun a S => ?_
  refine m_w rfl rfl (wn rfl) rfl rfl S (fun w H => y_iaddrn rfl Tryd.underlying30 Fsiz9 S H rfl rfl (by first | assumption | omega | (simp only [LL]; omega))) fun a S => ?_
  refine m_w rfl rfl (wn rfl) rfl rfl S (fun w H => (y_loadsD v (⟨#[]⟩ : ByteArray) rfl Fsca9 S H rfl (by omega) rfl)) fun a S => ?_
  refine m_l rfl rfl (fun w H => op_call (wn rfl) rfl rfl S (co_func rfl Tryd.call29 S rfl) (pass_spec t (pubS (xs.getD (k + 1) (⟨#[]⟩ : ByteArray))) (xs.getD (k) (⟨#[]⟩ : ByteArray)) _ (H.tit t) hP.sz H.tabs (hx _) hP.valid (isD_pubS _) (by have := hP.len; omega) (hP.used (fun i hi => hd (k + 1) hkx i (by omega))) hP.owner.symm) fun u34 w hc a S => ?_)
  obtain ⟨v34, s34, rfl, H1⟩ := hc
  have H := H.call2 H1 rfl rfl
  refine m_next H (by repeat (first | exact List.Sublist.refl _ | apply List.Sublist.cons)) ?_
  refine m_w rfl rfl (wn rfl) rfl rfl S (fun w H => y_move rfl S rfl) fun a S => ?_
  refine m_w rfl rfl (wn rfl) rfl rfl S (fun w H => y_extract rfl S rfl rfl) fun a S => ?_
  refine m_f rfl rfl (wn rfl) rfl rfl S (fun w H => y_extract rfl S rfl rfl) fun a S => ?_
  refine m_l rfl rfl (fun w H => op_storea (wn rfl) rfl rfl S H rfl rfl (by first | rfl | exact encT_one (t := (passT t (pubS (xs.getD (k + 1) (⟨#[]⟩ : ByteArray))) v34 s34 (xs.getD (k) (⟨#[]⟩ : ByteArray)))) (H.sl1 v34)) Fsiz24 rfl (cs' := [_, _, _, _, _]) rfl fun a w S H => m_tail H rfl ?_)
  refine m_nil (fun w H => ?_)
  refine n_block ?_
  refine n_then ?_
  have S := (((S.nil.cons S 1 rfl).cons S 4 rfl).cons S 5 rfl).cons S 6 rfl
  refine g_region ?_
  refine gm S fun a S => ?_
  refine gy rfl rfl rfl S (y_add rfl S rfl rfl (by omega)) fun a S => ?_
  refine ga S fun a S => ?_
  refine gnt ?_
  have H := titPass (H.take [OSl 32 v34 2 encX (t.chain ++ [⟨pubS (xs.getD (k + 1) (⟨#[]⟩ : ByteArray)), s34, signL (xs.getD (k) (⟨#[]⟩ : ByteArray)) (msgS t (pubS (xs.getD (k + 1) (⟨#[]⟩ : ByteArray))))⟩]), OSl 9 s34 1 encS (signL (xs.getD (k) (⟨#[]⟩ : ByteArray)) (msgS t (pubS (xs.getD (k + 1) (⟨#[]⟩ : ByteArray))))), TitO t, Cel b5 24 [.int .i64 (passT t (pubS (xs.getD (k + 1) (⟨#[]⟩ : ByteArray))) v34 s34 (xs.getD (k) (⟨#[]⟩ : ByteArray))).serial, .int .i64 (passT t (pubS (xs.getD (k + 1) (⟨#[]⟩ : ByteArray))) v34 s34 (xs.getD (k) (⟨#[]⟩ : ByteArray))).show_, .int .i64 (passT t (pubS (xs.getD (k + 1) (⟨#[]⟩ : ByteArray))) v34 s34 (xs.getD (k) (⟨#[]⟩ : ByteArray))).place, .string (passT t (pubS (xs.getD (k + 1) (⟨#[]⟩ : ByteArray))) v34 s34 (xs.getD (k) (⟨#[]⟩ : ByteArray))).first, (passT t (pubS (xs.getD (k + 1) (⟨#[]⟩ : ByteArray))) v34 s34 (xs.getD (k) (⟨#[]⟩ : ByteArray))).cv], Cel b4 24 [.int .i64 0, .int .i64 0, .int .i64 0, .string ⟨#[]⟩, .slice none 0 0], Sl v 1 encS xs, TabsA])
  exact ⟨(k + 1, (passT t (pubS (xs.getD (k + 1) (⟨#[]⟩ : ByteArray))) v34 s34 (xs.getD (k) (⟨#[]⟩ : ByteArray)))), S.nil.cons S 6 rfl, ((S.nil.cons S 1 rfl).cons S 4 rfl).cons S 5 rfl, ⟨by dsimp only; omega, hP.next (by omega) (fun i hi => hd (k + 1) hkx i (by omega)) v34 s34, by have h := H.take [TitO (passT t (pubS (xs.getD (k + 1) (⟨#[]⟩ : ByteArray))) v34 s34 (xs.getD (k) (⟨#[]⟩ : ByteArray))), Cel b5 24 [.int .i64 (passT t (pubS (xs.getD (k + 1) (⟨#[]⟩ : ByteArray))) v34 s34 (xs.getD (k) (⟨#[]⟩ : ByteArray))).serial, .int .i64 (passT t (pubS (xs.getD (k + 1) (⟨#[]⟩ : ByteArray))) v34 s34 (xs.getD (k) (⟨#[]⟩ : ByteArray))).show_, .int .i64 (passT t (pubS (xs.getD (k + 1) (⟨#[]⟩ : ByteArray))) v34 s34 (xs.getD (k) (⟨#[]⟩ : ByteArray))).place, .string (passT t (pubS (xs.getD (k + 1) (⟨#[]⟩ : ByteArray))) v34 s34 (xs.getD (k) (⟨#[]⟩ : ByteArray))).first, (passT t (pubS (xs.getD (k + 1) (⟨#[]⟩ : ByteArray))) v34 s34 (xs.getD (k) (⟨#[]⟩ : ByteArray))).cv], Cel b4 24 [.int .i64 0, .int .i64 0, .int .i64 0, .string ⟨#[]⟩, .slice none 0 0], Sl v 1 encS xs, TabsA]; exact h.take [Cel b5 24 [.int .i64 (passT t (pubS (xs.getD (k + 1) (⟨#[]⟩ : ByteArray))) v34 s34 (xs.getD (k) (⟨#[]⟩ : ByteArray))).serial, .int .i64 (passT t (pubS (xs.getD (k + 1) (⟨#[]⟩ : ByteArray))) v34 s34 (xs.getD (k) (⟨#[]⟩ : ByteArray))).show_, .int .i64 (passT t (pubS (xs.getD (k + 1) (⟨#[]⟩ : ByteArray))) v34 s34 (xs.getD (k) (⟨#[]⟩ : ByteArray))).place, .string (passT t (pubS (xs.getD (k + 1) (⟨#[]⟩ : ByteArray))) v34 s34 (xs.getD (k) (⟨#[]⟩ : ByteArray))).first, (passT t (pubS (xs.getD (k + 1) (⟨#[]⟩ : ByteArray))) v34 s34 (xs.getD (k) (⟨#[]⟩ : ByteArray))).cv], Cel b4 24 [.int .i64 0, .int .i64 0, .int .i64 0, .string ⟨#[]⟩, .slice none 0 0], TitO (passT t (pubS (xs.getD (k + 1) (⟨#[]⟩ : ByteArray))) v34 s34 (xs.getD (k) (⟨#[]⟩ : ByteArray))), Sl v 1 encS xs, TabsA]⟩, by dsimp only; omega⟩
 ·have h1p := h1; try simp only [DL] at h1p
  have hkx : k = xs.length - 1 := by omega
  refine g_exit ?_
  refine x_then (x_then (x_eq ?_))
  refine n_then ?_
  have S := (S.nil.cons S 4 rfl).cons S 5 rfl
  refine gsr ?_
  refine gy rfl rfl rfl S (y_load0 rfl S H rfl (by exact Fagg24)) fun a S => ?_
  refine wl_of (op_storea (wn rfl) rfl rfl S H rfl rfl (encT_one (H.tit t).sl.one) Fsiz24 rfl (cs' := [_, _, _, _, _]) rfl fun a w S H => ?_)
  refine gnt ?_
  refine g_ret ?_
  refine retc rfl S H rfl (by exact Fagg24) ?_
  exact ⟨t, rfl, hkx ▸ hP, H.take [TitO t]⟩
set_option maxHeartbeats 2000000 in
/-- foyer/foyertop.w09Fork -/
theorem fork_spec (p q : TV) (w0 : World) (hp : TOk w0 p) (hq : TOk w0 q) (hzp : TSz p) (hzq : TSz q) (hT : Tabs w0) (hvp : validB p = true) (hvq : validB q = true) (hse : p.serial = q.serial) (hsh : p.show_ = q.show_) (hfi : p.first = q.first) :
    Ret Tryd.prog 8 #[.agg (encT p).toArray, .agg (encT q).toArray] w0 (fun u w => u = .bool (forkB p q) ∧ Ext w0 w) := by
 refine ret_of_wp (nt := 175) Tryd.func8 rfl rfl rfl (fl := [(0, .agg (encT p).toArray), (1, .agg (encT q).toArray)]) rfl (fun a S => ?_)
 have H := HSat.start w0
 have H := H.ro0 (TabsA) rfl (hT)
 have H := H.ro0 (Sl p.cv 2 encX p.chain) rfl (hp.sl)
 have H := H.ro0 (CapA p.cv) rfl (hp.cap)
 have H := H.ro0 (XRows p.chain) rfl (hp.rows)
 have H := H.ro0 (Sl q.cv 2 encX q.chain) rfl (hq.sl)
 have H := H.ro0 (CapA q.cv) rfl (hq.cap)
 have H := H.ro0 (XRows q.chain) rfl (hq.rows)
 have hlp := hp.sl.len
 have hlq := hq.sl.len
 refine gsr ?_
 refine wl_of (op_boxa (wn rfl) rfl rfl rfl S H rfl fun b2 a w S H => ?_)
 refine wl_of (op_boxa (wn rfl) rfl rfl rfl S H rfl fun b3 a w S H => ?_)
 refine ga S fun a S => ?_
 refine gnt ?_
 refine g_seq ?_
 refine gsr ?_
 refine ga S fun a S => ?_
 refine gnt ?_
 refine g_block ?_
 have SU := (S.nil.cons S 2 rfl).cons S 3 rfl
 refine loopW (X := Nat) SU (fun k => [(5, .int .i64 (k : Int))]) (fun k w => k ≤ p.chain.length ∧ k ≤ q.chain.length ∧ (∀ i (h1 : i < p.chain.length) (h2 : i < q.chain.length), i < k → xf p.chain[i] = xf q.chain[i]) ∧ HSat No w0 [Cel b2 24 (encT p), Cel b3 24 (encT q), Sl p.cv 2 encX p.chain, CapA p.cv, XRows p.chain, Sl q.cv 2 encX q.chain, CapA q.cv, XRows q.chain, TabsA] w) (fun k => p.chain.length - k) 0 (S.nil.cons S 5 rfl) (⟨by omega, by omega, fun i _ _ h => absurd h (by omega), H.take [Cel b2 24 (encT p), Cel b3 24 (encT q), Sl p.cv 2 encX p.chain, CapA p.cv, XRows p.chain, Sl q.cv 2 encX q.chain, CapA q.cv, XRows q.chain, TabsA]⟩) (fun k a w S hW => ?_)
 simp only [List.cons_append, List.nil_append] at S
 obtain ⟨hk1, hk2, hpre, H⟩ := hW
 refine g_seq ?_
 refine gsr ?_
 refine gm S fun a S => ?_
 refine gy rfl rfl rfl S (y_faddrb rfl Ffo24_4 S rfl) fun a S => ?_
 refine gy rfl rfl rfl S (y_load rfl Fsca22 S H rfl rfl) fun a S => ?_
 refine gy rfl rfl rfl S (y_lens rfl Tryd.underlying22 S H rfl) fun a S => ?_
 refine gy rfl rfl rfl S (y_bin rfl S rfl rfl rfl) fun a S => ?_
 refine gm S fun a S => ?_
 refine' wl_and 5 21 rfl S H rfl rfl rfl rfl rfl rfl rfl (fun _ S => (wn rfl)) (fun h1 kk => ?yh1) (fun a w S H => ?_)
 case yh1 =>
  have h1p := h1; try simp only [DL] at h1p
  refine gz 21 h1 S rfl rfl rfl rfl rfl rfl (y_move rfl S rfl) fun a S => ?_
  refine gz 21 h1 S rfl rfl rfl rfl rfl rfl (y_faddrb rfl Ffo24_4 S rfl) fun a S => ?_
  refine gz 21 h1 S rfl rfl rfl rfl rfl rfl (y_load rfl Fsca22 S H rfl rfl) fun a S => ?_
  refine gz 21 h1 S rfl rfl rfl rfl rfl rfl (y_lens rfl Tryd.underlying22 S H rfl) fun a S => ?_
  refine gz 21 h1 S rfl rfl rfl rfl rfl rfl (y_bin rfl S rfl rfl rfl) fun a S => ?_
  refine gy rfl rfl rfl S (y_and' rfl h1 S rfl rfl) fun a S => ?_
  exact kk _ _ (S.join 6 27 rfl rfl) H
 refine gnt ?_
 have S := (((S.nil.cons S 2 rfl).cons S 3 rfl).cons S 5 rfl).cons S 27 rfl
 refine c_if S rfl (fun h2 => ?_) (fun h2 => ?_)
 ·have h2p := h2; try simp only [DL] at h2p
  have hkk : k < p.chain.length ∧ k < q.chain.length := by simp at h2; omega
  obtain ⟨hkp, hkq⟩ := hkk
  have hxp := hzp.x p.chain[k] (List.getElem_mem hkp)
  have hxq := hzq.x q.chain[k] (List.getElem_mem hkq)
  have hfp := formX_parts (valid_step hvp hkp).1
  have hfq := formX_parts (valid_step hvq hkq).1
  have hvrp := (valid_step hvp hkp).2
  have hvrq := fork_ver hvq hse hsh hfi (by omega : k ≤ p.chain.length) hkq hpre
  refine g_skip ?_
  refine n_then ?_
  refine g_seq ?_
  refine g_block ?_
  refine gsr ?_
  refine gy rfl rfl rfl S (y_faddrb rfl Ffo24_4 S rfl) fun a S => ?_
  refine gy rfl rfl rfl S (y_load rfl Fsca22 S H rfl rfl) fun a S => ?_
  refine gm S fun a S => ?_
  refine gy rfl rfl rfl S (y_iaddrn rfl Tryd.underlying22 Fsiz32 S H rfl rfl (by first | assumption | omega | (simp only [LL]; omega))) fun a S => ?_
  refine gy rfl rfl rfl S (y_loadsa _ rfl S H rfl (by exact Fagg32) (by first | assumption | omega | (simp only [LL]; omega))) fun a S => ?_
  refine wl_of (op_alloc (wn rfl) rfl rfl rfl S H Fzer32 fun b6 a w S H => ?_)
  refine wl_of (op_storea (wn rfl) rfl rfl S H rfl rfl (encX_one (w := w) (H.sl1 p.chain[k].sv)) Fsiz32 rfl (cs' := encX p.chain[k]) rfl fun a w S H => ?_)
  refine gnt ?_
  have S := (((S.nil.cons S 2 rfl).cons S 3 rfl).cons S 5 rfl).cons S 6 rfl
  refine gsr ?_
  refine gy rfl rfl rfl S (y_faddrb rfl Ffo24_4 S rfl) fun a S => ?_
  refine gy rfl rfl rfl S (y_load rfl Fsca22 S H rfl rfl) fun a S => ?_
  refine gm S fun a S => ?_
  refine gy rfl rfl rfl S (y_iaddrn rfl Tryd.underlying22 Fsiz32 S H rfl rfl (by first | assumption | omega | (simp only [LL]; omega))) fun a S => ?_
  refine gy rfl rfl rfl S (y_loadsa _ rfl S H rfl (by exact Fagg32) (by first | assumption | omega | (simp only [LL]; omega))) fun a S => ?_
  refine wl_of (op_alloc (wn rfl) rfl rfl rfl S H Fzer32 fun b7 a w S H => ?_)
  refine wl_of (op_storea (wn rfl) rfl rfl S H rfl rfl (encX_one (w := w) (H.sl1 q.chain[k].sv)) Fsiz32 rfl (cs' := encX q.chain[k]) rfl fun a w S H => ?_)
  refine gnt ?_
  have S := ((((S.nil.cons S 2 rfl).cons S 3 rfl).cons S 5 rfl).cons S 6 rfl).cons S 7 rfl
  refine g_seq ?_
  refine gsr ?_
  refine gy rfl rfl rfl S (y_faddrb rfl Ffo32_0 S rfl) fun a S => ?_
  refine gy rfl rfl rfl S (y_load rfl Fsca9 S H rfl rfl) fun a S => ?_
  refine gy rfl rfl rfl S (y_faddrb rfl Ffo32_0 S rfl) fun a S => ?_
  refine gy rfl rfl rfl S (y_load rfl Fsca9 S H rfl rfl) fun a S => ?_
  refine gy rfl rfl rfl S (y_eqs rfl Tryd.underlying9 S rfl rfl) fun a S => ?_
  refine gm S fun a S => ?_
  refine' wl_and 5 45 rfl S H rfl rfl rfl rfl rfl rfl rfl (fun _ S => (wn rfl)) (fun h3 kk => ?yh3) (fun a w S H => ?_)
  case yh3 =>
   have h3p := h3; try simp only [DL] at h3p
   refine gz 45 h3 S rfl rfl rfl rfl rfl rfl (y_faddrb rfl Ffo32_1 S rfl) fun a S => ?_
   refine gz 45 h3 S rfl rfl rfl rfl rfl rfl (y_load rfl Fsca30 S H rfl rfl) fun a S => ?_
   refine gz 45 h3 S rfl rfl rfl rfl rfl rfl (y_faddrb rfl Ffo32_1 S rfl) fun a S => ?_
   refine gz 45 h3 S rfl rfl rfl rfl rfl rfl (y_load rfl Fsca30 S H rfl rfl) fun a S => ?_
   refine wl_of (op_call (wg' 45 rfl rfl S rfl h3 rfl) rfl rfl S (co_func rfl Tryd.call20 S rfl) (rsame_spec p.chain[k].sv q.chain[k].sv p.chain[k].sig q.chain[k].sig _ (H.sl p.chain[k].sv) (H.sl q.chain[k].sv)) fun v w hc a S => ?_)
   obtain ⟨rfl, he⟩ := hc
   have H := H.ext he
   refine gy rfl rfl rfl S (y_and' rfl h3 S rfl rfl) fun a S => ?_
   exact kk _ _ (S.join 6 51 rfl rfl) H
  refine gnt ?_
  have S := (((((S.nil.cons S 2 rfl).cons S 3 rfl).cons S 5 rfl).cons S 6 rfl).cons S 7 rfl).cons S 51 rfl
  refine c_if S rfl (fun h4 => ?_) (fun h4 => ?_)
  ·have h4p := h4; try simp only [DL] at h4p
   have heq : xf p.chain[k] = xf q.chain[k] := by simp at h4; exact Prod.ext h4.1 h4.2
   refine g_exit ?_
   refine x_then (x_eq ?_)
   refine n_then ?_
   refine g_region ?_
   refine gm S fun a S => ?_
   refine gy rfl rfl rfl S (y_add rfl S rfl rfl (by omega)) fun a S => ?_
   refine ga S fun a S => ?_
   refine gnt ?_
   exact ⟨k + 1, S.nil.cons S 5 rfl, (S.nil.cons S 2 rfl).cons S 3 rfl, ⟨by omega, by omega, fun i h1 h2 hik => by by_cases hjk : i < k; exact hpre i h1 h2 hjk; (obtain rfl : i = k := by omega); exact heq, H.take [Cel b2 24 (encT p), Cel b3 24 (encT q), Sl p.cv 2 encX p.chain, CapA p.cv, XRows p.chain, Sl q.cv 2 encX q.chain, CapA q.cv, XRows q.chain, TabsA]⟩, by omega⟩
  ·have h4p := h4; try simp only [DL] at h4p
   have hne : xf p.chain[k] ≠ xf q.chain[k] := by intro e; have e1 := congrArg Prod.fst e; have e2 := congrArg Prod.snd e; simp only [xf] at e1 e2; rw [e1, e2] at h4; simp at h4
   have hyes := fork_yes hkp hkq hne
   refine g_skip ?_
   refine n_then ?_
   refine gsr ?_
   refine gy rfl rfl rfl S (y_load0 rfl S H rfl (by exact Fagg24)) fun a S => ?_
   refine gm S fun a S => ?_
   refine wl_of (op_call (wn rfl) rfl rfl S (co_func rfl Tryd.call21 S rfl) (cut_spec p k _ (H.tok p) (by omega)) fun v w hc a S => ?_)
   obtain ⟨rfl, he⟩ := hc
   have H := H.ext he
   refine wl_of (op_alloc (wn rfl) rfl rfl rfl S H Fzer24 fun b8 a w S H => ?_)
   refine wl_of (op_storea (wn rfl) rfl rfl S H rfl rfl (encT_one (t := (cutT p k)) (H.sl1 (subV p.cv 0 k 2))) Fsiz24 rfl (cs' := encT (cutT p k)) rfl fun a w S H => ?_)
   refine gnt ?_
   have S := (((((S.nil.cons S 2 rfl).cons S 3 rfl).cons S 5 rfl).cons S 6 rfl).cons S 7 rfl).cons S 8 rfl
   refine gsr ?_
   refine gy rfl rfl rfl S (y_load0 rfl S H rfl (by exact Fagg24)) fun a S => ?_
   refine wl_of (op_call (wn rfl) rfl rfl S (co_func rfl Tryd.call14 S rfl) (owner_spec (cutT p k) _ ((H.tok p).cut k)) fun v w hc a S => ?_)
   obtain ⟨rfl, he⟩ := hc
   have H := H.ext he
   refine ga S fun a S => ?_
   refine gnt ?_
   refine gsr ?_
   refine gy rfl rfl rfl S (y_load0 rfl S H rfl (by exact Fagg24)) fun a S => ?_
   refine gy rfl rfl rfl S (y_faddrb rfl Ffo32_0 S rfl) fun a S => ?_
   refine gy rfl rfl rfl S (y_load rfl Fsca9 S H rfl rfl) fun a S => ?_
   refine wl_of (op_call (wn rfl) rfl rfl S (co_func rfl Tryd.call15 S rfl) (message_spec (cutT p k) p.chain[k].to _ ((H.tok p).cut k) (hzp.cut k) hxp.1 H.tabs) fun v w hc a S => ?_)
   obtain ⟨rfl, he⟩ := hc
   have H := H.ext he
   refine ga S fun a S => ?_
   refine gnt ?_
   have S := (((((((S.nil.cons S 2 rfl).cons S 3 rfl).cons S 5 rfl).cons S 6 rfl).cons S 7 rfl).cons S 8 rfl).cons S 9 rfl).cons S 10 rfl
   refine gsr ?_
   refine gy rfl rfl rfl S (y_load0 rfl S H rfl (by exact Fagg24)) fun a S => ?_
   refine gy rfl rfl rfl S (y_faddrb rfl Ffo32_0 S rfl) fun a S => ?_
   refine gy rfl rfl rfl S (y_load rfl Fsca9 S H rfl rfl) fun a S => ?_
   refine wl_of (op_call (wn rfl) rfl rfl S (co_func rfl Tryd.call15 S rfl) (message_spec (cutT p k) q.chain[k].to _ ((H.tok p).cut k) (hzp.cut k) hxq.1 H.tabs) fun v w hc a S => ?_)
   obtain ⟨rfl, he⟩ := hc
   have H := H.ext he
   refine ga S fun a S => ?_
   refine gnt ?_
   have S := ((((((((S.nil.cons S 2 rfl).cons S 3 rfl).cons S 5 rfl).cons S 6 rfl).cons S 7 rfl).cons S 8 rfl).cons S 9 rfl).cons S 10 rfl).cons S 11 rfl
   refine g_seq ?_
   refine gsr ?_
   refine gm S fun a S => ?_
   refine gm S fun a S => ?_
   refine gy rfl rfl rfl S (y_faddrb rfl Ffo32_1 S rfl) fun a S => ?_
   refine gy rfl rfl rfl S (y_load rfl Fsca30 S H rfl rfl) fun a S => ?_
   refine wl_of (op_call (wn rfl) rfl rfl S (co_func rfl Tryd.call13 S rfl) (verify_spec _ _ p.chain[k].sv p.chain[k].sig _ H.tabs (by rw [show ∀ to, msgS (cutT p k) to = listS _ from fun _ => rfl, listS_size]; decide) hxp.2.2 (H.sl p.chain[k].sv)) fun v w hc a S => ?_)
   obtain ⟨rfl, he⟩ := hc
   have H := H.ext he
   refine gy rfl rfl rfl S (y_not rfl S rfl) fun a S => ?_
   refine gm S fun a S => ?_
   refine' wl_or 6 71 rfl S H rfl rfl rfl rfl rfl rfl rfl (fun _ S => (wn rfl)) (fun h5 kk => ?yh5) (fun a w S H => ?_)
   case yh5 =>
    have h5p := h5; try simp only [DL] at h5p
    refine gz 71 h5 S rfl rfl rfl rfl rfl rfl (y_move rfl S rfl) fun a S => ?_
    refine gz 71 h5 S rfl rfl rfl rfl rfl rfl (y_move rfl S rfl) fun a S => ?_
    refine gz 71 h5 S rfl rfl rfl rfl rfl rfl (y_faddrb rfl Ffo32_1 S rfl) fun a S => ?_
    refine gz 71 h5 S rfl rfl rfl rfl rfl rfl (y_load rfl Fsca30 S H rfl rfl) fun a S => ?_
    refine wl_of (op_call (wg' 71 rfl rfl S rfl h5 rfl) rfl rfl S (co_func rfl Tryd.call13 S rfl) (verify_spec _ _ q.chain[k].sv q.chain[k].sig _ H.tabs (by rw [show ∀ to, msgS (cutT p k) to = listS _ from fun _ => rfl, listS_size]; decide) hxq.2.2 (H.sl q.chain[k].sv)) fun v w hc a S => ?_)
    obtain ⟨rfl, he⟩ := hc
    have H := H.ext he
    refine gz 71 h5 S rfl rfl rfl rfl rfl rfl (y_not rfl S rfl) fun a S => ?_
    refine gy rfl rfl rfl S (y_or' rfl h5 S rfl rfl) fun a S => ?_
    exact kk _ _ (S.join 7 78 rfl rfl) H
   refine gnt ?_
   have S := ((((((((S.nil.cons S 2 rfl).cons S 3 rfl).cons S 5 rfl).cons S 6 rfl).cons S 7 rfl).cons S 8 rfl).cons S 10 rfl).cons S 11 rfl).cons S 78 rfl
   refine c_if S rfl (fun h6 => ?_) (fun h6 => ?_)
   ·have h6p := h6; try simp only [DL] at h6p
    all_goals (
      rw [hvrp, hvrq] at h6; simp at h6)
   ·have h6p := h6; try simp only [DL] at h6p
    refine g_skip ?_
    refine n_then ?_
    refine g_seq ?_
    refine gsr ?_
    refine gy rfl rfl rfl S (y_faddrb rfl Ffo32_0 S rfl) fun a S => ?_
    refine gy rfl rfl rfl S (y_load rfl Fsca9 S H rfl rfl) fun a S => ?_
    refine gy rfl rfl rfl S (y_faddrb rfl Ffo32_0 S rfl) fun a S => ?_
    refine gy rfl rfl rfl S (y_load rfl Fsca9 S H rfl rfl) fun a S => ?_
    refine gy rfl rfl rfl S (y_nes rfl Tryd.underlying9 S rfl rfl) fun a S => ?_
    refine gnt ?_
    have S := ((((((((S.nil.cons S 2 rfl).cons S 3 rfl).cons S 5 rfl).cons S 6 rfl).cons S 7 rfl).cons S 8 rfl).cons S 10 rfl).cons S 11 rfl).cons S 83 rfl
    refine c_if S rfl (fun h7 => ?_) (fun h7 => ?_)
    ·have h7p := h7; try simp only [DL] at h7p
     have htne : p.chain[k].to ≠ q.chain[k].to := by simpa using h7
     have hjd := join_diff (t := (cutT p k)) (by rw [isD_size hfp.2.1, isD_size hfq.2.1]) htne
     refine g_seq ?_
     refine region_st (loud := [7, 12]) (tails := []) (free := []) [0, 1, 2, 3, 4, 5, 6, 9, 10, 11, 7, 8, 12, 13, 14, 15, 16] [] Fmo (by kernel_rfl) (by kernel_rfl) rfl H ?_
     refine m_w rfl rfl (wn rfl) rfl rfl S (fun w H => y_move rfl S rfl) fun a S => ?_
     refine m_w rfl rfl (wn rfl) rfl rfl S (fun w H => y_move rfl S rfl) fun a S => ?_
     refine m_w rfl rfl (wn rfl) rfl rfl S (fun w H => y_nes rfl Tryd.underlying9 S rfl rfl) fun a S => ?_
     refine m_w rfl rfl (wn rfl) rfl rfl S (fun w H => y_move rfl S rfl) fun a S => ?_
     refine' m_or [4, 5, 6, 9, 10, 11, 7, 8, 12, 13, 14] 87 S rfl rfl rfl rfl rfl rfl rfl rfl rfl (fun _ S => (wn rfl)) (fun h8 kk => ?yh8) (fun l1 a S => ?_)
     case yh8 =>
      have h8p := h8; try simp only [DL] at h8p
      refine m_w rfl rfl (wg' 87 rfl rfl S rfl h8 rfl) rfl rfl S (fun w H => y_load0 rfl S H rfl (by exact Fagg24)) fun a S => ?_
      refine m_w rfl rfl (wg' 87 rfl rfl S rfl h8 rfl) rfl rfl S (fun w H => y_faddrb rfl Ffo32_0 S rfl) fun a S => ?_
      refine m_w rfl rfl (wg' 87 rfl rfl S rfl h8 rfl) rfl rfl S (fun w H => y_load rfl Fsca9 S H rfl rfl) fun a S => ?_
      refine m_w rfl rfl (wg' 87 rfl rfl S rfl h8 rfl) rfl rfl S (fun w H => y_load0 rfl S H rfl (by exact Fagg24)) fun a S => ?_
      refine m_w rfl rfl (wg' 87 rfl rfl S rfl h8 rfl) rfl rfl S (fun w H => y_faddrb rfl Ffo32_0 S rfl) fun a S => ?_
      refine m_w rfl rfl (wg' 87 rfl rfl S rfl h8 rfl) rfl rfl S (fun w H => y_load rfl Fsca9 S H rfl rfl) fun a S => ?_
      refine m_l rfl rfl (fun w H => op_call (wg' 87 rfl rfl S rfl h8 rfl) rfl rfl S (co_func rfl Tryd.call23 S rfl) (fields_spec (cutT p k) p.chain[k].to _ ((H.tok p).cut k) (hzp.cut k) hxp.1) fun u91 w hc a S => ?_)
      have H1 := hc
      have H := H.call1 H1 rfl
      refine m_next H (by repeat (first | exact List.Sublist.refl _ | apply List.Sublist.cons)) ?_
      refine m_c rfl rfl (wg' 87 rfl rfl S rfl h8 rfl) rfl rfl S (fun w => co_func rfl Tryd.call22 S rfl) (fun w H => joined_spec u91 (fieldsL (cutT p k) p.chain[k].to) _ (H.sl u91) (by have := (fieldsL_size (hzp.cut k) hxp.1).2; omega) (fieldsL_size (hzp.cut k) hxp.1).1) fun a S => ?_
      refine m_l rfl rfl (fun w H => op_call (wg' 87 rfl rfl S rfl h8 rfl) rfl rfl S (co_func rfl Tryd.call23 S rfl) (fields_spec (cutT p k) q.chain[k].to _ ((H.tok p).cut k) (hzp.cut k) hxq.1) fun u96 w hc a S => ?_)
      have H1 := hc
      have H := H.call1 H1 rfl
      refine m_next H (by repeat (first | exact List.Sublist.refl _ | apply List.Sublist.cons)) ?_
      refine m_c rfl rfl (wg' 87 rfl rfl S rfl h8 rfl) rfl rfl S (fun w => co_func rfl Tryd.call22 S rfl) (fun w H => joined_spec u96 (fieldsL (cutT p k) q.chain[k].to) _ (H.sl u96) (by have := (fieldsL_size (hzp.cut k) hxq.1).2; omega) (fieldsL_size (hzp.cut k) hxq.1).1) fun a S => ?_
      refine m_w rfl rfl (wg' 87 rfl rfl S rfl h8 rfl) rfl rfl S (fun w H => y_nes rfl Tryd.underlying9 S rfl rfl) fun a S => ?_
      refine m_w rfl rfl (wn rfl) rfl rfl S (fun w H => y_or' rfl h8 S rfl rfl) fun a S => ?_
      exact kk [_, _] _ (S.join 12 99 rfl rfl)
     refine m_w rfl rfl (wn rfl) rfl rfl S (fun w H => y_assign rfl S rfl) fun a S => ?_
     refine m_nil (fun w H => ?_)
     have H := H.right
     refine n_then ?_
     have S := ((((((S.nil.cons S 2 rfl).cons S 3 rfl).cons S 5 rfl).cons S 6 rfl).cons S 7 rfl).cons S 10 rfl).cons S 4 rfl
     refine g_ret ?_
     refine r_then (r_block (r_then (r_then (r_block (r_then (ret1 rfl S rfl ?_))))))
     exact ⟨congrArg Value.bool (by rw [hyes, decide_eq_false hjd]; simp), H.toExt⟩
    ·have h7p := h7; try simp only [DL] at h7p
     have hteq : p.chain[k].to = q.chain[k].to := by simpa using h7
     have hsne : p.chain[k].sig ≠ q.chain[k].sig := fun e => hne (Prod.ext hteq e)
     refine g_skip ?_
     refine n_then ?_
     refine gsr ?_
     refine gm S fun a S => ?_
     refine wl_of (op_call (wn rfl) rfl rfl S (co_func rfl Tryd.call24 S rfl) (wdigits_spec (msgS (cutT p k) p.chain[k].to) _ H.tabs (by rw [show msgS (cutT p k) p.chain[k].to = listS _ from rfl, listS_size]; decide)) fun u101 w hc a S => ?_)
     have H1 := hc
     have H := (H.call1 H1 rfl).giveSl
     refine ga S fun a S => ?_
     refine gnt ?_
     have S := (((((S.nil.cons S 2 rfl).cons S 3 rfl).cons S 5 rfl).cons S 6 rfl).cons S 7 rfl).cons S 12 rfl
     refine gsr ?_
     refine ga S fun a S => ?_
     refine gnt ?_
     refine gsr ?_
     refine ga S fun a S => ?_
     refine gnt ?_
     refine g_seq ?_
     refine gsr ?_
     refine ga S fun a S => ?_
     refine gnt ?_
     refine g_block ?_
     have SU := (((((S.nil.cons S 2 rfl).cons S 3 rfl).cons S 5 rfl).cons S 6 rfl).cons S 7 rfl).cons S 12 rfl
     refine loopW (X := Nat × Value × Value) SU (fun x => [(15, .int .i64 (x.1 : Int)), (13, x.2.1), (14, x.2.2)]) (fun x w => x.1 ≤ 18 ∧ (∀ i (h1 : i < p.chain[k].sig.length) (h2 : i < q.chain[k].sig.length), i < x.1 → stepC p.chain[k].sig[i] q.chain[k].sig[i] (15 - (digs (msgS (cutT p k) p.chain[k].to)).getD i 0) = false) ∧ HSat No w0 [OSl 9 x.2.1 1 encS (endsK (msgS (cutT p k) p.chain[k].to) p.chain[k].sig (x.1)), OSl 9 x.2.2 1 encS (endsK (msgS (cutT p k) p.chain[k].to) q.chain[k].sig (x.1)), Sl u101 1 encI (digsI (msgS (cutT p k) p.chain[k].to)), Cel b8 24 (encT (cutT p k)), Cel b7 32 (encX q.chain[k]), Cel b6 32 (encX p.chain[k]), Cel b2 24 (encT p), Cel b3 24 (encT q), Sl p.cv 2 encX p.chain, CapA p.cv, XRows p.chain, Sl q.cv 2 encX q.chain, CapA q.cv, XRows q.chain, TabsA] w) (fun x => 18 - x.1) (0, .slice none 0 0, .slice none 0 0) (((S.nil.cons S 14 rfl).cons S 13 rfl).cons S 15 rfl) (⟨by simp, fun i _ _ h => absurd h (by simp), by have h := ((H.nilO 9 1 encS).nilO 9 1 encS).take [OSl 9 (.slice none 0 0) 1 encS [], OSl 9 (.slice none 0 0) 1 encS [], Sl u101 1 encI (digsI (msgS (cutT p k) p.chain[k].to)), Cel b8 24 (encT (cutT p k)), Cel b7 32 (encX q.chain[k]), Cel b6 32 (encX p.chain[k]), Cel b2 24 (encT p), Cel b3 24 (encT q), Sl p.cv 2 encX p.chain, CapA p.cv, XRows p.chain, Sl q.cv 2 encX q.chain, CapA q.cv, XRows q.chain, TabsA]; exact h⟩) (fun x a w S hW => ?_)
     simp only [List.cons_append, List.nil_append] at S
     obtain ⟨j, u14, u15⟩ := x
     obtain ⟨hj, hst, H⟩ := hW
     dsimp only at S H hj hst
     have hl1 := hfp.1
     have hl2 := hfq.1
     have hdl := digsI_len (msgS (cutT p k) p.chain[k].to)
     refine g_seq ?_
     refine gsr ?_
     refine gm S fun a S => ?_
     refine gy rfl rfl rfl S (y_bin rfl S rfl rfl rfl) fun a S => ?_
     refine gm S fun a S => ?_
     refine' wl_and 5 104 rfl S H rfl rfl rfl rfl rfl rfl rfl (fun _ S => (wn rfl)) (fun h9 kk => ?yh9) (fun a w S H => ?_)
     case yh9 =>
      have h9p := h9; try simp only [DL] at h9p
      refine gz 104 h9 S rfl rfl rfl rfl rfl rfl (y_move rfl S rfl) fun a S => ?_
      refine gz 104 h9 S rfl rfl rfl rfl rfl rfl (y_faddrb rfl Ffo32_1 S rfl) fun a S => ?_
      refine gz 104 h9 S rfl rfl rfl rfl rfl rfl (y_load rfl Fsca30 S H rfl rfl) fun a S => ?_
      refine gz 104 h9 S rfl rfl rfl rfl rfl rfl (y_lens rfl Tryd.underlying30 S H rfl) fun a S => ?_
      refine gz 104 h9 S rfl rfl rfl rfl rfl rfl (y_bin rfl S rfl rfl rfl) fun a S => ?_
      refine gy rfl rfl rfl S (y_and' rfl h9 S rfl rfl) fun a S => ?_
      exact kk _ _ (S.join 6 110 rfl rfl) H
     refine gm S fun a S => ?_
     refine' wl_and 5 111 rfl S H rfl rfl rfl rfl rfl rfl rfl (fun _ S => (wn rfl)) (fun h10 kk => ?yh10) (fun a w S H => ?_)
     case yh10 =>
      have h10p := h10; try simp only [DL] at h10p
      refine gz 111 h10 S rfl rfl rfl rfl rfl rfl (y_move rfl S rfl) fun a S => ?_
      refine gz 111 h10 S rfl rfl rfl rfl rfl rfl (y_faddrb rfl Ffo32_1 S rfl) fun a S => ?_
      refine gz 111 h10 S rfl rfl rfl rfl rfl rfl (y_load rfl Fsca30 S H rfl rfl) fun a S => ?_
      refine gz 111 h10 S rfl rfl rfl rfl rfl rfl (y_lens rfl Tryd.underlying30 S H rfl) fun a S => ?_
      refine gz 111 h10 S rfl rfl rfl rfl rfl rfl (y_bin rfl S rfl rfl rfl) fun a S => ?_
      refine gy rfl rfl rfl S (y_and' rfl h10 S rfl rfl) fun a S => ?_
      exact kk _ _ (S.join 6 117 rfl rfl) H
     refine gnt ?_
     have S := (((((((((S.nil.cons S 2 rfl).cons S 3 rfl).cons S 5 rfl).cons S 6 rfl).cons S 7 rfl).cons S 12 rfl).cons S 14 rfl).cons S 13 rfl).cons S 15 rfl).cons S 117 rfl
     refine c_if S rfl (fun h11 => ?_) (fun h11 => ?_)
     ·have h11p := h11; try simp only [DL] at h11p
      have hj18 : j < 18 := by simp at h11; omega
      refine g_skip ?_
      refine n_then ?_
      refine g_seq ?_
      refine g_block ?_
      refine g_seq ?_
      refine g_seq ?_
      refine region_st (loud := []) (tails := []) (free := []) [0, 1, 2, 3, 4, 5, 6, 7, 8, 9, 10, 11, 12, 13, 14, 15] [] Fmo (by kernel_rfl) (by kernel_rfl) rfl H ?_
      refine m_w rfl rfl (wn rfl) rfl rfl S (fun w H => y_faddrb rfl Ffo32_1 S rfl) fun a S => ?_
      refine m_w rfl rfl (wn rfl) rfl rfl S (fun w H => y_load rfl Fsca30 S H rfl rfl) fun a S => ?_
      refine m_w rfl rfl (wn rfl) rfl rfl S (fun w H => y_move rfl S rfl) fun a S => ?_
      refine m_w rfl rfl (wn rfl) rfl rfl S (fun w H => y_iaddrn rfl Tryd.underlying30 Fsiz9 S H rfl rfl (by first | assumption | omega | (simp only [LL]; omega))) fun a S => ?_
      refine m_loads _ rfl rfl (wn rfl) rfl rfl S rfl Fsca9 rfl (by first | assumption | omega | (simp only [LL]; omega)) rfl fun a S => ?_
      refine m_w rfl rfl (wn rfl) rfl rfl S (fun w H => y_faddrb rfl Ffo32_1 S rfl) fun a S => ?_
      refine m_w rfl rfl (wn rfl) rfl rfl S (fun w H => y_load rfl Fsca30 S H rfl rfl) fun a S => ?_
      refine m_w rfl rfl (wn rfl) rfl rfl S (fun w H => y_move rfl S rfl) fun a S => ?_
      refine m_w rfl rfl (wn rfl) rfl rfl S (fun w H => y_iaddrn rfl Tryd.underlying30 Fsiz9 S H rfl rfl (by first | assumption | omega | (simp only [LL]; omega))) fun a S => ?_
      refine m_loads _ rfl rfl (wn rfl) rfl rfl S rfl Fsca9 rfl (by first | assumption | omega | (simp only [LL]; omega)) rfl fun a S => ?_
      refine m_w rfl rfl (wn rfl) rfl rfl S (fun w H => y_move rfl S rfl) fun a S => ?_
      refine m_w rfl rfl (wn rfl) rfl rfl S (fun w H => y_move rfl S rfl) fun a S => ?_
      refine m_w rfl rfl (wn rfl) rfl rfl S (fun w H => y_iaddrn rfl Tryd.underlying48 Fsiz3 S H rfl rfl (by first | assumption | omega | (simp only [LL]; omega))) fun a S => ?_
      refine m_loads u101 rfl rfl (wn rfl) rfl rfl S rfl Fsca3 rfl (by omega) (show (encI ((digsI (msgS (cutT p k) p.chain[k].to))[j]'(by omega)))[0]? = some (.int .i64 ((digs (msgS (cutT p k) p.chain[k].to)).getD j 0 : Int)) from by rw [digsI_get]; rfl) fun a S => ?_
      refine m_w rfl rfl (wn rfl) rfl rfl S (fun w H => (y_subn (p := 15) (q := ((digs (msgS (cutT p k) p.chain[k].to)).getD j 0 : Int)) (m := 15 - (digs (msgS (cutT p k) p.chain[k].to)).getD j 0) rfl S rfl rfl (by have := digs_le (msgS (cutT p k) p.chain[k].to) j; omega) (by omega))) fun a S => ?_
      refine m_c rfl rfl (wn rfl) rfl rfl S (fun w => co_func rfl Tryd.call25 S rfl) (fun w H => step_spec p.chain[k].sig[j] q.chain[k].sig[j] (15 - (digs (msgS (cutT p k) p.chain[k].to)).getD j 0) _ H.tabs (hxp.2.2 _ (List.getElem_mem (by omega))) (hxq.2.2 _ (List.getElem_mem (by omega))) (by omega)) fun a S => ?_
      refine m_nil (fun w H => ?_)
      refine n_then ?_
      have S := (((((((((S.nil.cons S 2 rfl).cons S 3 rfl).cons S 5 rfl).cons S 6 rfl).cons S 7 rfl).cons S 12 rfl).cons S 14 rfl).cons S 13 rfl).cons S 15 rfl).cons S 135 rfl
      refine c_if S rfl (fun h12 => ?_) (fun h12 => ?_)
      ·have h12p := h12; try simp only [DL] at h12p
       refine gsr ?_
       refine ga S fun a S => ?_
       refine gnt ?_
       refine g_ret ?_
       refine r_then (r_block (r_then (r_then (r_block (r_then (r_block (r_then (r_then (r_block (r_then (ret1 rfl S rfl ?_)))))))))))
       exact ⟨congrArg Value.bool hyes.symm, H.toExt⟩
      ·have h12p := h12; try simp only [DL] at h12p
       refine g_skip ?_
       refine n_then ?_
       refine g_seq ?_
       refine region_st (loud := [12, 13]) (tails := [13]) (free := []) [0, 1, 2, 3, 4, 5, 6, 7, 8, 9, 10, 11, 12, 13, 14] [] Fmo (by kernel_rfl) (by kernel_rfl) rfl H ?_
       refine m_w rfl rfl (wn rfl) rfl rfl S (fun w H => y_move rfl S rfl) fun a S => ?_
       refine m_w rfl rfl (wn rfl) rfl rfl S (fun w H => y_faddrb rfl Ffo32_1 S rfl) fun a S => ?_
       refine m_w rfl rfl (wn rfl) rfl rfl S (fun w H => y_load rfl Fsca30 S H rfl rfl) fun a S => ?_
       refine m_w rfl rfl (wn rfl) rfl rfl S (fun w H => y_move rfl S rfl) fun a S => ?_
       refine m_w rfl rfl (wn rfl) rfl rfl S (fun w H => y_iaddrn rfl Tryd.underlying30 Fsiz9 S H rfl rfl (by first | assumption | omega | (simp only [LL]; omega))) fun a S => ?_
       refine m_loads _ rfl rfl (wn rfl) rfl rfl S rfl Fsca9 rfl (by first | assumption | omega | (simp only [LL]; omega)) rfl fun a S => ?_
       refine m_w rfl rfl (wn rfl) rfl rfl S (fun w H => y_move rfl S rfl) fun a S => ?_
       refine m_w rfl rfl (wn rfl) rfl rfl S (fun w H => y_move rfl S rfl) fun a S => ?_
       refine m_w rfl rfl (wn rfl) rfl rfl S (fun w H => y_iaddrn rfl Tryd.underlying48 Fsiz3 S H rfl rfl (by first | assumption | omega | (simp only [LL]; omega))) fun a S => ?_
       refine m_loads u101 rfl rfl (wn rfl) rfl rfl S rfl Fsca3 rfl (by omega) (show (encI ((digsI (msgS (cutT p k) p.chain[k].to))[j]'(by omega)))[0]? = some (.int .i64 ((digs (msgS (cutT p k) p.chain[k].to)).getD j 0 : Int)) from by rw [digsI_get]; rfl) fun a S => ?_
       refine m_w rfl rfl (wn rfl) rfl rfl S (fun w H => (y_subn (p := 15) (q := ((digs (msgS (cutT p k) p.chain[k].to)).getD j 0 : Int)) (m := 15 - (digs (msgS (cutT p k) p.chain[k].to)).getD j 0) rfl S rfl rfl (by have := digs_le (msgS (cutT p k) p.chain[k].to) j; omega) (by omega))) fun a S => ?_
       refine m_c rfl rfl (wn rfl) rfl rfl S (fun w => co_func rfl Tryd.call26 S rfl) (fun w H => chain_t p.chain[k].sig[j] (15 - (digs (msgS (cutT p k) p.chain[k].to)).getD j 0) _ H.tabs (by have := hxp.2.2 p.chain[k].sig[j] (List.getElem_mem (by omega)); omega) (by omega)) fun a S => ?_
       refine m_l rfl rfl (fun w H => op_buildSlice (wn rfl) rfl rfl rfl Tryd.underlying30 Finf9 S H (idx := [0]) rfl rfl rfl (z := [.string ⟨#[]⟩]) (by kernel_rfl) (cs := [_]) rfl fun b148 a w S H => m_next H (List.sublist_cons_self _ _) ?_)
       refine m_l rfl rfl (fun w H => op_append ([chainS p.chain[k].sig[j] (15 - (digs (msgS (cutT p k) p.chain[k].to)).getD j 0)]) (wn rfl) rfl rfl rfl Tryd.underlying30 Finf9 rfl rfl S H rfl rfl rfl rfl (by simp) (by simp [encS]) (by simp [encS, Value.oneCell']) (by simp only [List.length_cons, List.length_nil, endsK_len]; omega) (by simp only [List.length_cons, List.length_nil, endsK_len]; omega) fun u149 a w hn149 S H => m_tail H rfl ?_)
       refine m_w rfl rfl (wn rfl) rfl rfl S (fun w H => y_assign rfl S rfl) fun a S => ?_
       refine m_nil (fun w H => ?_)
       refine n_then ?_
       have S := ((((((((S.nil.cons S 2 rfl).cons S 3 rfl).cons S 5 rfl).cons S 6 rfl).cons S 7 rfl).cons S 12 rfl).cons S 14 rfl).cons S 15 rfl).cons S 13 rfl
       refine region_st (loud := [12, 13]) (tails := [13]) (free := []) [0, 1, 2, 3, 4, 5, 6, 7, 8, 9, 10, 11, 12, 13, 14] [] Fmo (by kernel_rfl) (by kernel_rfl) rfl H ?_
       refine m_w rfl rfl (wn rfl) rfl rfl S (fun w H => y_move rfl S rfl) fun a S => ?_
       refine m_w rfl rfl (wn rfl) rfl rfl S (fun w H => y_faddrb rfl Ffo32_1 S rfl) fun a S => ?_
       refine m_w rfl rfl (wn rfl) rfl rfl S (fun w H => y_load rfl Fsca30 S H rfl rfl) fun a S => ?_
       refine m_w rfl rfl (wn rfl) rfl rfl S (fun w H => y_move rfl S rfl) fun a S => ?_
       refine m_w rfl rfl (wn rfl) rfl rfl S (fun w H => y_iaddrn rfl Tryd.underlying30 Fsiz9 S H rfl rfl (by first | assumption | omega | (simp only [LL]; omega))) fun a S => ?_
       refine m_loads _ rfl rfl (wn rfl) rfl rfl S rfl Fsca9 rfl (by first | assumption | omega | (simp only [LL]; omega)) rfl fun a S => ?_
       refine m_w rfl rfl (wn rfl) rfl rfl S (fun w H => y_move rfl S rfl) fun a S => ?_
       refine m_w rfl rfl (wn rfl) rfl rfl S (fun w H => y_move rfl S rfl) fun a S => ?_
       refine m_w rfl rfl (wn rfl) rfl rfl S (fun w H => y_iaddrn rfl Tryd.underlying48 Fsiz3 S H rfl rfl (by first | assumption | omega | (simp only [LL]; omega))) fun a S => ?_
       refine m_loads u101 rfl rfl (wn rfl) rfl rfl S rfl Fsca3 rfl (by omega) (show (encI ((digsI (msgS (cutT p k) p.chain[k].to))[j]'(by omega)))[0]? = some (.int .i64 ((digs (msgS (cutT p k) p.chain[k].to)).getD j 0 : Int)) from by rw [digsI_get]; rfl) fun a S => ?_
       refine m_w rfl rfl (wn rfl) rfl rfl S (fun w H => (y_subn (p := 15) (q := ((digs (msgS (cutT p k) p.chain[k].to)).getD j 0 : Int)) (m := 15 - (digs (msgS (cutT p k) p.chain[k].to)).getD j 0) rfl S rfl rfl (by have := digs_le (msgS (cutT p k) p.chain[k].to) j; omega) (by omega))) fun a S => ?_
       refine m_c rfl rfl (wn rfl) rfl rfl S (fun w => co_func rfl Tryd.call26 S rfl) (fun w H => chain_t q.chain[k].sig[j] (15 - (digs (msgS (cutT p k) p.chain[k].to)).getD j 0) _ H.tabs (by have := hxq.2.2 q.chain[k].sig[j] (List.getElem_mem (by omega)); omega) (by omega)) fun a S => ?_
       refine m_l rfl rfl (fun w H => op_buildSlice (wn rfl) rfl rfl rfl Tryd.underlying30 Finf9 S H (idx := [0]) rfl rfl rfl (z := [.string ⟨#[]⟩]) (by kernel_rfl) (cs := [_]) rfl fun b162 a w S H => m_next H (List.sublist_cons_self _ _) ?_)
       refine m_l rfl rfl (fun w H => op_append ([chainS q.chain[k].sig[j] (15 - (digs (msgS (cutT p k) p.chain[k].to)).getD j 0)]) (wn rfl) rfl rfl rfl Tryd.underlying30 Finf9 rfl rfl S H rfl rfl rfl rfl (by simp) (by simp [encS]) (by simp [encS, Value.oneCell']) (by simp only [List.length_cons, List.length_nil, endsK_len]; omega) (by simp only [List.length_cons, List.length_nil, endsK_len]; omega) fun u163 a w hn163 S H => m_tail H rfl ?_)
       refine m_w rfl rfl (wn rfl) rfl rfl S (fun w H => y_assign rfl S rfl) fun a S => ?_
       refine m_nil (fun w H => ?_)
       refine n_block ?_
       refine n_then ?_
       have S := ((((((((S.nil.cons S 2 rfl).cons S 3 rfl).cons S 5 rfl).cons S 6 rfl).cons S 7 rfl).cons S 12 rfl).cons S 15 rfl).cons S 13 rfl).cons S 14 rfl
       refine g_region ?_
       refine gm S fun a S => ?_
       refine gy rfl rfl rfl S (y_add rfl S rfl rfl (by omega)) fun a S => ?_
       refine ga S fun a S => ?_
       refine gnt ?_
       rw [endsK_s _ _ _ (by omega), endsK_s _ _ _ (by omega)] at H
       exact ⟨(j + 1, u149, u163), ((S.nil.cons S 14 rfl).cons S 13 rfl).cons S 15 rfl, (((((S.nil.cons S 2 rfl).cons S 3 rfl).cons S 5 rfl).cons S 6 rfl).cons S 7 rfl).cons S 12 rfl, ⟨by dsimp only; omega, fun i h1 h2 hij => by by_cases hjk : i < j; exact hst i h1 h2 hjk; (obtain rfl : i = j := by dsimp only at hij; omega); simpa using h12, H.take [OSl 9 u149 1 encS (endsK (msgS (cutT p k) p.chain[k].to) p.chain[k].sig (j + 1)), OSl 9 u163 1 encS (endsK (msgS (cutT p k) p.chain[k].to) q.chain[k].sig (j + 1)), Sl u101 1 encI (digsI (msgS (cutT p k) p.chain[k].to)), Cel b8 24 (encT (cutT p k)), Cel b7 32 (encX q.chain[k]), Cel b6 32 (encX p.chain[k]), Cel b2 24 (encT p), Cel b3 24 (encT q), Sl p.cv 2 encX p.chain, CapA p.cv, XRows p.chain, Sl q.cv 2 encX q.chain, CapA q.cv, XRows q.chain, TabsA]⟩, by dsimp only; omega⟩
     ·have h11p := h11; try simp only [DL] at h11p
      obtain rfl : j = 18 := by simp at h11; omega
      have hjp := list_ok (xs := endsK (msgS (cutT p k) p.chain[k].to) p.chain[k].sig (18)) (fun x hx => by have := endsK_size (m := (msgS (cutT p k) p.chain[k].to)) (by omega) (fun i hi _ => List.all_eq_true.1 hfp.2.2 _ (List.getElem_mem hi)) x hx; omega) (by rw [endsK_len]; decide)
      have hjq := list_ok (xs := endsK (msgS (cutT p k) p.chain[k].to) q.chain[k].sig (18)) (fun x hx => by have := endsK_size (m := (msgS (cutT p k) p.chain[k].to)) (by omega) (fun i hi _ => List.all_eq_true.1 hfq.2.2 _ (List.getElem_mem hi)) x hx; omega) (by rw [endsK_len]; decide)
      refine g_exit ?_
      refine x_then (x_then (x_eq ?_))
      refine n_then ?_
      have S := ((((S.nil.cons S 2 rfl).cons S 3 rfl).cons S 5 rfl).cons S 14 rfl).cons S 13 rfl
      refine gsr ?_
      refine gm S fun a S => ?_
      refine gm S fun a S => ?_
      refine wl_of (op_call (wn rfl) rfl rfl S (co_func rfl Tryd.call20 S rfl) (rsame_spec u14 u15 (endsK (msgS (cutT p k) p.chain[k].to) p.chain[k].sig (18)) (endsK (msgS (cutT p k) p.chain[k].to) q.chain[k].sig (18)) _ (H.sl u14) (H.sl u15)) fun v w hc a S => ?_)
      obtain ⟨rfl, he⟩ := hc
      have H := H.ext he
      refine gy rfl rfl rfl S (y_not rfl S rfl) fun a S => ?_
      refine gm S fun a S => ?_
      refine' wl_and 5 168 rfl S H rfl rfl rfl rfl rfl rfl rfl (fun _ S => (wn rfl)) (fun h13 kk => ?yh13) (fun a w S H => ?_)
      case yh13 =>
       have h13p := h13; try simp only [DL] at h13p
       refine gz 168 h13 S rfl rfl rfl rfl rfl rfl (y_move rfl S rfl) fun a S => ?_
       refine wl_of (op_call (wg' 168 rfl rfl S rfl h13 rfl) rfl rfl S (co_func rfl Tryd.call27 S rfl) (list_t u14 (endsK (msgS (cutT p k) p.chain[k].to) p.chain[k].sig (18)) _ H.tabs (H.sl u14) hjp) fun v w hc a S => ?_)
       obtain ⟨rfl, he⟩ := hc
       have H := H.ext he
       refine gz 168 h13 S rfl rfl rfl rfl rfl rfl (y_move rfl S rfl) fun a S => ?_
       refine wl_of (op_call (wg' 168 rfl rfl S rfl h13 rfl) rfl rfl S (co_func rfl Tryd.call27 S rfl) (list_t u15 (endsK (msgS (cutT p k) p.chain[k].to) q.chain[k].sig (18)) _ H.tabs (H.sl u15) hjq) fun v w hc a S => ?_)
       obtain ⟨rfl, he⟩ := hc
       have H := H.ext he
       refine gz 168 h13 S rfl rfl rfl rfl rfl rfl (y_eqs rfl Tryd.underlying9 S rfl rfl) fun a S => ?_
       refine gy rfl rfl rfl S (y_and' rfl h13 S rfl rfl) fun a S => ?_
       exact kk _ _ (S.join 6 174 rfl rfl) H
      refine ga S fun a S => ?_
      refine gnt ?_
      have S := (((S.nil.cons S 2 rfl).cons S 3 rfl).cons S 5 rfl).cons S 4 rfl
      refine g_ret ?_
      refine r_block (r_then (r_then (r_block (r_then (ret1 rfl S rfl ?_)))))
      have h2 := ver_ends hvrq
      rw [← hteq] at h2
      exact ⟨congrArg Value.bool (by rw [hyes, decide_eq_false (ends_diff hfp.1 hfq.1 hsne (fun i h1 h2 => hst i h1 h2 (by omega))), decide_eq_true ((ver_ends hvrp).trans h2.symm)]; rfl), H.toExt⟩
 ·have h2p := h2; try simp only [DL] at h2p
  have hkk : k = p.chain.length ∨ k = q.chain.length := by simp at h2; omega
  refine g_exit ?_
  refine x_then (x_then (x_eq ?_))
  refine n_then ?_
  have S := S.nil
  refine gsr ?_
  refine ga S fun a S => ?_
  refine gnt ?_
  refine g_ret ?_
  refine ret1 rfl S rfl ?_
  exact ⟨congrArg Value.bool (fork_no hkk hk1 hk2 hpre).symm, H.toExt⟩
end Go.Proofs.YtngocpdmlijnfaaDoor
