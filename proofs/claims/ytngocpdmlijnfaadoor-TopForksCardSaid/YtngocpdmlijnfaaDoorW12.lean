/- The walks. No condition. -/
import Derived.Test.YtngocpdmlijnfaaDoorChecked
import Derived.Test.YtngocpdmlijnfaaDoorGwStrB
import Derived.Test.YtngocpdmlijnfaaDoorShelf
import Derived.Test.YtngocpdmlijnfaaDoorFacts
import Derived.Test.YtngocpdmlijnfaaDoorPlain
import Derived.Test.YtngocpdmlijnfaaDoorW11
namespace Go.Proofs.YtngocpdmlijnfaaDoor
open Go Go.Gw
set_option linter.unusedVariables false
set_option linter.unusedSimpArgs false
set_option maxHeartbeats 1000000 in
/-- foyer/foyertop.w09Titles -/
theorem titles_spec (w0 : World) (hT : Tabs w0) (hD : Dist) :
    Ret Tryd.prog 4 #[] w0 (fun u w => u = .bool true ∧ Ext w0 w) := by
 refine ret_of_wp (nt := 38) Tryd.func4 rfl rfl rfl (fl := []) rfl (fun a S => ?_)
 have H := HSat.start w0
 have H := H.ro0 (TabsA) rfl (hT)
 refine gsr ?_
 refine ga S fun a S => ?_
 refine gnt ?_
 refine gsr ?_
 refine wl_of (op_buildSlice (wn rfl) rfl rfl rfl Tryd.underlying30 Finf9 S H (idx := [0, 1, 2]) rfl rfl rfl (z := [.string ⟨#[]⟩, .string ⟨#[]⟩, .string ⟨#[]⟩]) (by kernel_rfl) (cs := [.string sA, .string sB, .string sC]) rfl fun b4 a w S H => ?_)
 refine wl_of (op_call (wn rfl) rfl rfl S (co_func rfl Tryd.call9 S rfl) (passed_spec (.slice (some ⟨b4, 0, none⟩) 3 3) [sA, sB, sC] _ H.tabs (H.slb b4 [sA, sB, sC] encS 1 rfl rfl (by intro x _; rfl) (by decide)) (by decide) (by decide) (fun i => secret_size _ (by intro x hx; simp only [List.mem_cons, List.not_mem_nil, or_false] at hx; rcases hx with rfl | rfl | rfl <;> decide) i) hD.h3) fun u5 w hc a S => ?_)
 obtain ⟨t1, rfl, hPt1, H1⟩ := hc
 have H := H.call1 H1 rfl
 refine wl_of (op_alloc (wn rfl) rfl rfl rfl S H Fzer24 fun b1 a w S H => ?_)
 refine wl_of (op_storea (wn rfl) rfl rfl S H rfl rfl (encT_one (H.tit t1).sl.one) Fsiz24 rfl (cs' := encT t1) rfl fun a w S H => ?_)
 refine gnt ?_
 refine gsr ?_
 refine wl_of (op_buildSlice (wn rfl) rfl rfl rfl Tryd.underlying30 Finf9 S H (idx := [0, 1]) rfl rfl rfl (z := [.string ⟨#[]⟩, .string ⟨#[]⟩]) (by kernel_rfl) (cs := [.string sA, .string sE]) rfl fun b6 a w S H => ?_)
 refine wl_of (op_call (wn rfl) rfl rfl S (co_func rfl Tryd.call9 S rfl) (passed_spec (.slice (some ⟨b6, 0, none⟩) 2 2) [sA, sE] _ H.tabs (H.slb b6 [sA, sE] encS 1 rfl rfl (by intro x _; rfl) (by decide)) (by decide) (by decide) (fun i => secret_size _ (by intro x hx; simp only [List.mem_cons, List.not_mem_nil, or_false] at hx; rcases hx with rfl | rfl <;> decide) i) (Dist.h2 _ _ hD.ae)) fun u7 w hc a S => ?_)
 obtain ⟨t2, rfl, hPt2, H1⟩ := hc
 have H := H.call1 H1 rfl
 refine wl_of (op_alloc (wn rfl) rfl rfl rfl S H Fzer24 fun b2 a w S H => ?_)
 refine wl_of (op_storea (wn rfl) rfl rfl S H rfl rfl (encT_one (H.tit t2).sl.one) Fsiz24 rfl (cs' := encT t2) rfl fun a w S H => ?_)
 refine gnt ?_
 have S := ((S.nil.cons S 0 rfl).cons S 1 rfl).cons S 2 rfl
 refine gsr ?_
 refine wl_of (op_buildSlice (wn rfl) rfl rfl rfl Tryd.underlying30 Finf9 S H (idx := [0, 1]) rfl rfl rfl (z := [.string ⟨#[]⟩, .string ⟨#[]⟩]) (by kernel_rfl) (cs := [.string sA, .string sB]) rfl fun b8 a w S H => ?_)
 refine wl_of (op_call (wn rfl) rfl rfl S (co_func rfl Tryd.call9 S rfl) (passed_spec (.slice (some ⟨b8, 0, none⟩) 2 2) [sA, sB] _ H.tabs (H.slb b8 [sA, sB] encS 1 rfl rfl (by intro x _; rfl) (by decide)) (by decide) (by decide) (fun i => secret_size _ (by intro x hx; simp only [List.mem_cons, List.not_mem_nil, or_false] at hx; rcases hx with rfl | rfl <;> decide) i) (Dist.h2 _ _ hD.ab)) fun u9 w hc a S => ?_)
 obtain ⟨t3, rfl, hPt3, H1⟩ := hc
 have H := H.call1 H1 rfl
 refine wl_of (op_alloc (wn rfl) rfl rfl rfl S H Fzer24 fun b3 a w S H => ?_)
 refine wl_of (op_storea (wn rfl) rfl rfl S H rfl rfl (encT_one (H.tit t3).sl.one) Fsiz24 rfl (cs' := encT t3) rfl fun a w S H => ?_)
 refine gnt ?_
 refine gsr ?_
 refine gy rfl rfl rfl S (y_load0 rfl S H rfl (by exact Fagg24)) fun a S => ?_
 refine wl_of (op_call (wn rfl) rfl rfl S (co_func rfl Tryd.call6 S rfl) (valid_spec t1 _ (H.tit t1) hPt1.sz H.tabs) fun v w hc a S => ?_)
 obtain ⟨rfl, he⟩ := hc
 have H := H.ext he
 refine gm S fun a S => ?_
 refine' wl_and 2 12 rfl S H rfl rfl rfl rfl rfl rfl rfl (fun _ S => (wn rfl)) (fun h1 kk => ?yh1) (fun a w S H => ?_)
 case yh1 =>
  have h1p := h1; try simp only [DL] at h1p
  refine gz 12 h1 S rfl rfl rfl rfl rfl rfl (y_load0 rfl S H rfl (by exact Fagg24)) fun a S => ?_
  refine wl_of (op_call (wg' 12 rfl rfl S rfl h1 rfl) rfl rfl S (co_func rfl Tryd.call6 S rfl) (valid_spec t2 _ (H.tit t2) hPt2.sz H.tabs) fun v w hc a S => ?_)
  obtain ⟨rfl, he⟩ := hc
  have H := H.ext he
  refine gy rfl rfl rfl S (y_and' rfl h1 S rfl rfl) fun a S => ?_
  exact kk _ _ (S.join 3 15 rfl rfl) H
 refine gm S fun a S => ?_
 refine' wl_and 3 16 rfl S H rfl rfl rfl rfl rfl rfl rfl (fun _ S => (wn rfl)) (fun h2 kk => ?yh2) (fun a w S H => ?_)
 case yh2 =>
  have h2p := h2; try simp only [DL] at h2p
  refine gz 16 h2 S rfl rfl rfl rfl rfl rfl (y_load0 rfl S H rfl (by exact Fagg24)) fun a S => ?_
  refine gz 16 h2 S rfl rfl rfl rfl rfl rfl (y_load0 rfl S H rfl (by exact Fagg24)) fun a S => ?_
  refine wl_of (op_call (wg' 16 rfl rfl S rfl h2 rfl) rfl rfl S (co_func rfl Tryd.call7 S rfl) (extends_spec t1 t3 _ (H.tit t1) (H.tit t3) hPt1.sz hPt3.sz H.tabs) fun v w hc a S => ?_)
  obtain ⟨rfl, he⟩ := hc
  have H := H.ext he
  refine gy rfl rfl rfl S (y_and' rfl h2 S rfl rfl) fun a S => ?_
  exact kk _ _ (S.join 4 20 rfl rfl) H
 refine gm S fun a S => ?_
 refine' wl_and 4 21 rfl S H rfl rfl rfl rfl rfl rfl rfl (fun _ S => (wn rfl)) (fun h3 kk => ?yh3) (fun a w S H => ?_)
 case yh3 =>
  have h3p := h3; try simp only [DL] at h3p
  refine gz 21 h3 S rfl rfl rfl rfl rfl rfl (y_load0 rfl S H rfl (by exact Fagg24)) fun a S => ?_
  refine gz 21 h3 S rfl rfl rfl rfl rfl rfl (y_load0 rfl S H rfl (by exact Fagg24)) fun a S => ?_
  refine wl_of (op_call (wg' 21 rfl rfl S rfl h3 rfl) rfl rfl S (co_func rfl Tryd.call7 S rfl) (extends_spec t1 t2 _ (H.tit t1) (H.tit t2) hPt1.sz hPt2.sz H.tabs) fun v w hc a S => ?_)
  obtain ⟨rfl, he⟩ := hc
  have H := H.ext he
  refine gz 21 h3 S rfl rfl rfl rfl rfl rfl (y_not rfl S rfl) fun a S => ?_
  refine gy rfl rfl rfl S (y_and' rfl h3 S rfl rfl) fun a S => ?_
  exact kk _ _ (S.join 5 26 rfl rfl) H
 refine gm S fun a S => ?_
 refine' wl_and 4 27 rfl S H rfl rfl rfl rfl rfl rfl rfl (fun _ S => (wn rfl)) (fun h4 kk => ?yh4) (fun a w S H => ?_)
 case yh4 =>
  have h4p := h4; try simp only [DL] at h4p
  refine gz 27 h4 S rfl rfl rfl rfl rfl rfl (y_faddrb rfl Ffo24_4 S rfl) fun a S => ?_
  refine gz 27 h4 S rfl rfl rfl rfl rfl rfl (y_load rfl Fsca22 S H rfl rfl) fun a S => ?_
  refine gz 27 h4 S rfl rfl rfl rfl rfl rfl (y_lens rfl Tryd.underlying22 S H rfl) fun a S => ?_
  refine gz 27 h4 S rfl rfl rfl rfl rfl rfl (y_bin rfl S rfl rfl rfl) fun a S => ?_
  refine gy rfl rfl rfl S (y_and' rfl h4 S rfl rfl) fun a S => ?_
  exact kk _ _ (S.join 5 32 rfl rfl) H
 refine gm S fun a S => ?_
 refine' wl_and 3 33 rfl S H rfl rfl rfl rfl rfl rfl rfl (fun _ S => (wn rfl)) (fun h5 kk => ?yh5) (fun a w S H => ?_)
 case yh5 =>
  have h5p := h5; try simp only [DL] at h5p
  refine gz 33 h5 S rfl rfl rfl rfl rfl rfl (y_load0 rfl S H rfl (by exact Fagg24)) fun a S => ?_
  refine gz 33 h5 S rfl rfl rfl rfl rfl rfl (y_load0 rfl S H rfl (by exact Fagg24)) fun a S => ?_
  refine wl_of (op_call (wg' 33 rfl rfl S rfl h5 rfl) rfl rfl S (co_func rfl Tryd.call8 S rfl) (fork_spec t1 t2 _ (H.tit t1) (H.tit t2) hPt1.sz hPt2.sz H.tabs hPt1.valid hPt2.valid (hPt1.serial.trans hPt2.serial.symm) (hPt1.show_.trans hPt2.show_.symm) (hPt1.first.trans hPt2.first.symm)) fun v w hc a S => ?_)
  obtain ⟨rfl, he⟩ := hc
  have H := H.ext he
  refine gy rfl rfl rfl S (y_and' rfl h5 S rfl rfl) fun a S => ?_
  exact kk _ _ (S.join 4 37 rfl rfl) H
 refine ga S fun a S => ?_
 refine gnt ?_
 have S := S.nil.cons S 0 rfl
 refine g_ret ?_
 refine ret1 rfl S rfl ?_
 refine ⟨congrArg Value.bool ?_, H.toExt⟩
 rw [hPt1.valid, hPt2.valid, ps_ext hPt1 hPt3, ps_noext hD hPt1 hPt2, ps_fork hD hPt1 hPt2, hPt1.len]; rfl
set_option maxHeartbeats 1000000 in
/-- foyer/foyertop.TopForks -/
theorem law_spec (p q : TV) (w0 : World) (hp : TOk w0 p) (hq : TOk w0 q) (hrp : RgT p) (hrq : RgT q) (hT : Tabs w0) (hD : Dist) :
    Ret Tryd.prog 3 #[.agg (encT p).toArray, .agg (encT q).toArray] w0 (fun u w => u = .bool true ∧ Ext w0 w) := by
 refine ret_of_wp (nt := 63) Tryd.func3 rfl rfl rfl (fl := [(0, .agg (encT p).toArray), (1, .agg (encT q).toArray)]) rfl (fun a S => ?_)
 have H := HSat.start w0
 have H := H.ro0 (TabsA) rfl (hT)
 have H := H.ro0 (Sl p.cv 2 encX p.chain) rfl (hp.sl)
 have H := H.ro0 (CapA p.cv) rfl (hp.cap)
 have H := H.ro0 (XRows p.chain) rfl (hp.rows)
 have H := H.ro0 (Sl q.cv 2 encX q.chain) rfl (hq.sl)
 have H := H.ro0 (CapA q.cv) rfl (hq.cap)
 have H := H.ro0 (XRows q.chain) rfl (hq.rows)
 have hlp := hp.sl.len
 have hlq := hq.sl.len
 refine gsr ?_
 refine wl_of (op_boxa (wn rfl) rfl rfl rfl S H rfl fun b2 a w S H => ?_)
 refine wl_of (op_boxa (wn rfl) rfl rfl rfl S H rfl fun b3 a w S H => ?_)
 refine ga S fun a S => ?_
 refine gnt ?_
 refine gsr ?_
 refine wl_of (op_call (wn rfl) rfl rfl S (co_func rfl Tryd.call4 S rfl) (titles_spec _ H.tabs hD) fun v w hc a S => ?_)
 obtain ⟨rfl, he⟩ := hc
 have H := H.ext he
 refine ga S fun a S => ?_
 refine gnt ?_
 refine g_seq ?_
 refine gsr ?_
 refine gy rfl rfl rfl S (y_load0 rfl S H rfl (by exact Fagg24)) fun a S => ?_
 refine wl_of (op_call (wn rfl) rfl rfl S (co_func rfl Tryd.call5 S rfl) (few_spec p 4 _ (H.tok p)) fun v w hc a S => ?_)
 obtain ⟨rfl, he⟩ := hc
 have H := H.ext he
 refine gy rfl rfl rfl S (y_not rfl S rfl) fun a S => ?_
 refine gm S fun a S => ?_
 refine' wl_or 3 10 rfl S H rfl rfl rfl rfl rfl rfl rfl (fun _ S => (wn rfl)) (fun h1 kk => ?yh1) (fun a w S H => ?_)
 case yh1 =>
  have h1p := h1; try simp only [DL] at h1p
  refine gz 10 h1 S rfl rfl rfl rfl rfl rfl (y_load0 rfl S H rfl (by exact Fagg24)) fun a S => ?_
  refine wl_of (op_call (wg' 10 rfl rfl S rfl h1 rfl) rfl rfl S (co_func rfl Tryd.call5 S rfl) (few_spec q 4 _ (H.tok q)) fun v w hc a S => ?_)
  obtain ⟨rfl, he⟩ := hc
  have H := H.ext he
  refine gz 10 h1 S rfl rfl rfl rfl rfl rfl (y_not rfl S rfl) fun a S => ?_
  refine gy rfl rfl rfl S (y_or' rfl h1 S rfl rfl) fun a S => ?_
  exact kk _ _ (S.join 4 14 rfl rfl) H
 refine gm S fun a S => ?_
 refine' wl_or 3 15 rfl S H rfl rfl rfl rfl rfl rfl rfl (fun _ S => (wn rfl)) (fun h2 kk => ?yh2) (fun a w S H => ?_)
 case yh2 =>
  have h2p := h2; try simp only [DL] at h2p
  refine gz 15 h2 S rfl rfl rfl rfl rfl rfl (y_load0 rfl S H rfl (by exact Fagg24)) fun a S => ?_
  refine wl_of (op_call (wg' 15 rfl rfl S rfl h2 rfl) rfl rfl S (co_func rfl Tryd.call6 S rfl) (valid_spec p _ (H.tok p) (few_sz hrp (by have h := h2; simp only [Bool.or_eq_false_iff, Bool.not_eq_false'] at h; exact h.1)) H.tabs) fun v w hc a S => ?_)
  obtain ⟨rfl, he⟩ := hc
  have H := H.ext he
  refine gz 15 h2 S rfl rfl rfl rfl rfl rfl (y_not rfl S rfl) fun a S => ?_
  refine gy rfl rfl rfl S (y_or' rfl h2 S rfl rfl) fun a S => ?_
  exact kk _ _ (S.join 4 19 rfl rfl) H
 refine gm S fun a S => ?_
 refine' wl_or 3 20 rfl S H rfl rfl rfl rfl rfl rfl rfl (fun _ S => (wn rfl)) (fun h3 kk => ?yh3) (fun a w S H => ?_)
 case yh3 =>
  have h3p := h3; try simp only [DL] at h3p
  refine gz 20 h3 S rfl rfl rfl rfl rfl rfl (y_load0 rfl S H rfl (by exact Fagg24)) fun a S => ?_
  refine wl_of (op_call (wg' 20 rfl rfl S rfl h3 rfl) rfl rfl S (co_func rfl Tryd.call6 S rfl) (valid_spec q _ (H.tok q) (few_sz hrq (by have h := h3; simp only [Bool.or_eq_false_iff, Bool.not_eq_false'] at h; exact h.1.2)) H.tabs) fun v w hc a S => ?_)
  obtain ⟨rfl, he⟩ := hc
  have H := H.ext he
  refine gz 20 h3 S rfl rfl rfl rfl rfl rfl (y_not rfl S rfl) fun a S => ?_
  refine gy rfl rfl rfl S (y_or' rfl h3 S rfl rfl) fun a S => ?_
  exact kk _ _ (S.join 4 24 rfl rfl) H
 refine gm S fun a S => ?_
 refine' wl_or 5 25 rfl S H rfl rfl rfl rfl rfl rfl rfl (fun _ S => (wn rfl)) (fun h4 kk => ?yh4) (fun a w S H => ?_)
 case yh4 =>
  have h4p := h4; try simp only [DL] at h4p
  refine gz 25 h4 S rfl rfl rfl rfl rfl rfl (y_faddrb rfl Ffo24_0 S rfl) fun a S => ?_
  refine gz 25 h4 S rfl rfl rfl rfl rfl rfl (y_load rfl Fsca3 S H rfl rfl) fun a S => ?_
  refine gz 25 h4 S rfl rfl rfl rfl rfl rfl (y_faddrb rfl Ffo24_0 S rfl) fun a S => ?_
  refine gz 25 h4 S rfl rfl rfl rfl rfl rfl (y_load rfl Fsca3 S H rfl rfl) fun a S => ?_
  refine gz 25 h4 S rfl rfl rfl rfl rfl rfl (y_bin rfl S rfl rfl rfl) fun a S => ?_
  refine gy rfl rfl rfl S (y_or' rfl h4 S rfl rfl) fun a S => ?_
  exact kk _ _ (S.join 6 31 rfl rfl) H
 refine gm S fun a S => ?_
 refine' wl_or 5 32 rfl S H rfl rfl rfl rfl rfl rfl rfl (fun _ S => (wn rfl)) (fun h5 kk => ?yh5) (fun a w S H => ?_)
 case yh5 =>
  have h5p := h5; try simp only [DL] at h5p
  refine gz 32 h5 S rfl rfl rfl rfl rfl rfl (y_faddrb rfl Ffo24_1 S rfl) fun a S => ?_
  refine gz 32 h5 S rfl rfl rfl rfl rfl rfl (y_load rfl Fsca3 S H rfl rfl) fun a S => ?_
  refine gz 32 h5 S rfl rfl rfl rfl rfl rfl (y_faddrb rfl Ffo24_1 S rfl) fun a S => ?_
  refine gz 32 h5 S rfl rfl rfl rfl rfl rfl (y_load rfl Fsca3 S H rfl rfl) fun a S => ?_
  refine gz 32 h5 S rfl rfl rfl rfl rfl rfl (y_bin rfl S rfl rfl rfl) fun a S => ?_
  refine gy rfl rfl rfl S (y_or' rfl h5 S rfl rfl) fun a S => ?_
  exact kk _ _ (S.join 6 38 rfl rfl) H
 refine gm S fun a S => ?_
 refine' wl_or 5 39 rfl S H rfl rfl rfl rfl rfl rfl rfl (fun _ S => (wn rfl)) (fun h6 kk => ?yh6) (fun a w S H => ?_)
 case yh6 =>
  have h6p := h6; try simp only [DL] at h6p
  refine gz 39 h6 S rfl rfl rfl rfl rfl rfl (y_faddrb rfl Ffo24_3 S rfl) fun a S => ?_
  refine gz 39 h6 S rfl rfl rfl rfl rfl rfl (y_load rfl Fsca9 S H rfl rfl) fun a S => ?_
  refine gz 39 h6 S rfl rfl rfl rfl rfl rfl (y_faddrb rfl Ffo24_3 S rfl) fun a S => ?_
  refine gz 39 h6 S rfl rfl rfl rfl rfl rfl (y_load rfl Fsca9 S H rfl rfl) fun a S => ?_
  refine gz 39 h6 S rfl rfl rfl rfl rfl rfl (y_nes rfl Tryd.underlying9 S rfl rfl) fun a S => ?_
  refine gy rfl rfl rfl S (y_or' rfl h6 S rfl rfl) fun a S => ?_
  exact kk _ _ (S.join 6 45 rfl rfl) H
 refine gnt ?_
 have S := ((((S.nil.cons S 2 rfl).cons S 3 rfl).cons S 4 rfl).cons S 5 rfl).cons S 45 rfl
 refine c_if S rfl (fun h7 => ?_) (fun h7 => ?_)
 ·have h7p := h7; try simp only [DL] at h7p
  refine gsr ?_
  refine gm S fun a S => ?_
  refine ga S fun a S => ?_
  refine gnt ?_
  refine g_ret ?_
  refine r_then (ret1 rfl S rfl ?_)
  exact ⟨rfl, H.toExt⟩
 ·have h7p := h7; try simp only [DL] at h7p
  have hh := h7
  simp only [Bool.or_eq_false_iff, Bool.not_eq_false', bne_eq_false_iff_eq, decide_eq_true_eq] at hh
  obtain ⟨⟨⟨⟨⟨⟨hf1, hf2⟩, hvp⟩, hvq⟩, hse⟩, hsh⟩, hfi⟩ := hh
  have hzp := few_sz hrp hf1
  have hzq := few_sz hrq hf2
  refine g_skip ?_
  refine n_then ?_
  refine gsr ?_
  refine gm S fun a S => ?_
  refine gm S fun a S => ?_
  refine gz 48 rfl S rfl rfl rfl rfl rfl rfl (y_load0 rfl S H rfl (by exact Fagg24)) fun a S => ?_
  refine gz 48 rfl S rfl rfl rfl rfl rfl rfl (y_load0 rfl S H rfl (by exact Fagg24)) fun a S => ?_
  refine wl_of (op_call (wg' 48 rfl rfl S rfl rfl rfl) rfl rfl S (co_func rfl Tryd.call7 S rfl) (extends_spec p q _ (H.tok p) (H.tok q) hzp hzq H.tabs) fun v w hc a S => ?_)
  obtain ⟨rfl, he⟩ := hc
  have H := H.ext he
  refine gz 48 rfl S rfl rfl rfl rfl rfl rfl (y_move rfl S rfl) fun a S => ?_
  refine' wl_or 3 52 rfl S H rfl rfl rfl rfl rfl rfl rfl (fun _ S => (wg' 48 rfl rfl S rfl rfl rfl)) (fun h9 kk => ?yh9) (fun a w S H => ?_)
  case yh9 =>
   have h9p := h9; try simp only [DL] at h9p
   refine gz 52 h9 S rfl rfl rfl rfl rfl rfl (y_load0 rfl S H rfl (by exact Fagg24)) fun a S => ?_
   refine gz 52 h9 S rfl rfl rfl rfl rfl rfl (y_load0 rfl S H rfl (by exact Fagg24)) fun a S => ?_
   refine wl_of (op_call (wg' 52 rfl rfl S rfl h9 rfl) rfl rfl S (co_func rfl Tryd.call7 S rfl) (extends_spec q p _ (H.tok q) (H.tok p) hzq hzp H.tabs) fun v w hc a S => ?_)
   obtain ⟨rfl, he⟩ := hc
   have H := H.ext he
   refine gz 48 rfl S rfl rfl rfl rfl rfl rfl (y_or' rfl h9 S rfl rfl) fun a S => ?_
   exact kk _ _ (S.join 4 56 rfl rfl) H
  refine gz 48 rfl S rfl rfl rfl rfl rfl rfl (y_move rfl S rfl) fun a S => ?_
  refine' wl_or 3 57 rfl S H rfl rfl rfl rfl rfl rfl rfl (fun _ S => (wg' 48 rfl rfl S rfl rfl rfl)) (fun h10 kk => ?yh10) (fun a w S H => ?_)
  case yh10 =>
   have h10p := h10; try simp only [DL] at h10p
   refine gz 57 h10 S rfl rfl rfl rfl rfl rfl (y_load0 rfl S H rfl (by exact Fagg24)) fun a S => ?_
   refine gz 57 h10 S rfl rfl rfl rfl rfl rfl (y_load0 rfl S H rfl (by exact Fagg24)) fun a S => ?_
   refine wl_of (op_call (wg' 57 rfl rfl S rfl h10 rfl) rfl rfl S (co_func rfl Tryd.call8 S rfl) (fork_spec p q _ (H.tok p) (H.tok q) hzp hzq H.tabs hvp hvq hse hsh hfi) fun v w hc a S => ?_)
   obtain ⟨rfl, he⟩ := hc
   have H := H.ext he
   refine gz 48 rfl S rfl rfl rfl rfl rfl rfl (y_or' rfl h10 S rfl rfl) fun a S => ?_
   exact kk _ _ (S.join 4 61 rfl rfl) H
  refine gy rfl rfl rfl S (y_and' rfl rfl S rfl rfl) fun a S => ?_
  refine ga S fun a S => ?_
  refine gnt ?_
  have S := S.nil.cons S 4 rfl
  refine g_ret ?_
  refine ret1 rfl S rfl ?_
  exact ⟨congrArg Value.bool (by rw [Bool.true_and, Bool.or_assoc]; exact fork_law hse hsh hfi), H.toExt⟩
end Go.Proofs.YtngocpdmlijnfaaDoor
