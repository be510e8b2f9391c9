/- The walks. No condition. -/
import Derived.Test.YtngocpdmlijnfaaDoorChecked
import Derived.Test.YtngocpdmlijnfaaDoorGwStrB
import Derived.Test.YtngocpdmlijnfaaDoorShelf
import Derived.Test.YtngocpdmlijnfaaDoorFacts
import Derived.Test.YtngocpdmlijnfaaDoorPlain
import Derived.Test.YtngocpdmlijnfaaDoorW9
import Derived.Test.YtngocpdmlijnfaaDoorPlainD
namespace Go.Proofs.YtngocpdmlijnfaaDoor
open Go Go.Gw
set_option linter.unusedVariables false
set_option linter.unusedSimpArgs false
/-- slices.Clone[[]foyer/api.Transfer,foyer/api.Transfer] -/
theorem cloneX_spec (v : Value) (xs : List XV) (w0 : World) (hv : IsSl w0 v 2 encX xs) (ho : ∀ x ∈ xs, x.sv.oneCell' = true) (hl : xs.length ≤ 200000) :
    Ret Tryd.prog 46 #[v] w0 (fun u w => HSat No w0 [OSl 32 u 2 encX xs] w) := by
 refine ret_of_wp (nt := 8) Tryd.func46 rfl rfl rfl (fl := [(0, v)]) rfl (fun a S => ?_)
 have H := HSat.start w0
 obtain ⟨pv, cv, rfl⟩ := hv.shape
 have H := H.ro0 (Sl (.slice pv xs.length cv) 2 encX xs) rfl (hv)
 refine gsr ?_
 refine ga S fun a S => ?_
 refine gnt ?_
 refine g_seq ?_
 refine gsr ?_
 refine gm S fun a S => ?_
 refine gy rfl rfl rfl S (y_eqsl rfl Tryd.underlying22 S rfl rfl) fun a S => ?_
 refine gnt ?_
 refine c_if S rfl (fun h1 => ?_) (fun h1 => ?_)
 ·have h1p := h1; try simp only [DL] at h1p
  have hxs : xs = [] := by
    match xs, hv with
    | [], _ => rfl
    | x :: r, hv => obtain ⟨b, off, c, he, _⟩ := hv.cells 0 (by simp); simp only [Value.slice.injEq] at he; rw [he.1] at h1; simp at h1
  refine gsr ?_
  refine ga S fun a S => ?_
  refine gnt ?_
  refine g_ret ?_
  refine r_then (ret1 rfl S rfl ?_)
  rw [hxs]; exact (H.nilO 32 2 encX).take [OSl 32 (.slice none 0 0) 2 encX []]
 ·have h1p := h1; try simp only [DL] at h1p
  refine g_skip ?_
  refine n_then ?_
  refine gsr ?_
  refine wl_of (op_buildSlice (wn rfl) rfl rfl rfl Tryd.underlying22 Finf32 S H (idx := []) rfl rfl rfl (z := []) (by kernel_rfl) (cs := []) rfl fun b5 a w S H => ?_)
  have H := H.celO [] encX 2 (m := 0) rfl (by simp) rfl (by omega)
  refine gm S fun a S => ?_
  refine wl_of (op_appendT (wn rfl) rfl rfl rfl Tryd.underlying22 Finf32 rfl rfl S H rfl rfl (by intro y hy u hu; simp only [encX, List.mem_cons, List.not_mem_nil, or_false] at hu; rcases hu with rfl | rfl; rfl; exact ho y hy) (by first | assumption | omega | (simp only [LL]; omega)) (by first | assumption | omega | (simp only [LL]; omega)) fun u7 a w S H => ?_)
  refine ga S fun a S => ?_
  refine gnt ?_
  have S := S.nil.cons S 2 rfl
  refine g_ret ?_
  refine ret1 rfl S rfl ?_
  exact H.take [OSl 32 u7 2 encX ([] ++ xs)]
set_option maxHeartbeats 1000000 in
/-- foyer/title.Pass -/
theorem pass_spec (t : TV) (to s : ByteArray) (w0 : World) (ht : TOk w0 t) (hz : TSz t) (hT : Tabs w0) (hs : s.size ≤ 1000) (hv : validB t = true) (hto : isD to = true) (hl : t.chain.length < 50) (hu : usedB t to = false) (hk : pubS s = ownerS t) :
    Ret Tryd.prog 29 #[.agg (encT t).toArray, .string to, .string s] w0 (fun u w => ∃ v sv, u = .tuple #[.agg (encT (passT t to v sv s)).toArray, .int .i64 0] ∧ HSat No w0 [OSl 32 v 2 encX (t.chain ++ [⟨to, sv, signL s (msgS t to)⟩]), OSl 9 sv 1 encS (signL s (msgS t to))] w) := by
 refine ret_of_wp (nt := 50) Tryd.func29 rfl rfl rfl (fl := [(0, .agg (encT t).toArray), (1, .string to), (2, .string s)]) rfl (fun a S => ?_)
 have H := HSat.start w0
 have H := H.ro0 (TabsA) rfl (hT)
 have H := H.ro0 (Sl t.cv 2 encX t.chain) rfl (ht.sl)
 have H := H.ro0 (CapA t.cv) rfl (ht.cap)
 have H := H.ro0 (XRows t.chain) rfl (ht.rows)
 have hlen := ht.sl.len
 have hto16 := isD_size hto
 refine gsr ?_
 refine wl_of (op_boxa (wn rfl) rfl rfl rfl S H rfl fun b3 a w S H => ?_)
 change HSat No w0 (Cel b3 24 [.int .i64 t.serial, .int .i64 t.show_, .int .i64 t.place, .string t.first, t.cv] :: _) w at H
 refine wl_of (op_alloc (wn rfl) rfl rfl rfl S H Fzer24 fun b6 a w S H => ?_)
 refine ga S fun a S => ?_
 refine gnt ?_
 refine g_seq ?_
 refine g_block ?_
 refine gsr ?_
 refine gy rfl rfl rfl S (y_load0 rfl S H rfl (by exact Fagg24)) fun a S => ?_
 refine wl_of (op_call (wn rfl) rfl rfl S (co_func rfl Tryd.call6 S rfl) (valid_spec t _ (H.tok t) hz H.tabs) fun v w hc a S => ?_)
 obtain ⟨rfl, he⟩ := hc
 have H := H.ext he
 refine gy rfl rfl rfl S (y_not rfl S rfl) fun a S => ?_
 refine gm S fun a S => ?_
 refine' wl_or 3 12 rfl S H rfl rfl rfl rfl rfl rfl rfl (fun _ S => (wn rfl)) (fun h1 kk => ?yh1) (fun a w S H => ?_)
 case yh1 =>
  have h1p := h1; try simp only [DL] at h1p
  refine gz 12 h1 S rfl rfl rfl rfl rfl rfl (y_move rfl S rfl) fun a S => ?_
  refine wl_of (op_call (wg' 12 rfl rfl S rfl h1 rfl) rfl rfl S (co_func rfl Tryd.call30 S rfl) (is_spec _ _ (by omega)) fun v w hc a S => ?_)
  obtain ⟨rfl, he⟩ := hc
  have H := H.ext he
  refine gz 12 h1 S rfl rfl rfl rfl rfl rfl (y_not rfl S rfl) fun a S => ?_
  refine gy rfl rfl rfl S (y_or' rfl h1 S rfl rfl) fun a S => ?_
  exact kk _ _ (S.join 4 16 rfl rfl) H
 refine ga S fun a S => ?_
 refine gnt ?_
 have S := (((((S.nil.cons S 2 rfl).cons S 1 rfl).cons S 3 rfl).cons S 6 rfl).cons S 7 rfl).cons S 8 rfl
 refine c_if S rfl (fun h2 => ?_) (fun h2 => ?_)
 ·have h2p := h2; try simp only [DL] at h2p
  all_goals (
    rw [hv, hto] at h2; simp at h2)
 ·have h2p := h2; try simp only [DL] at h2p
  refine gsr ?_
  refine gy rfl rfl rfl S (y_faddrb rfl Ffo24_4 S rfl) fun a S => ?_
  refine gy rfl rfl rfl S (y_load rfl Fsca22 S H rfl rfl) fun a S => ?_
  refine gy rfl rfl rfl S (y_lens rfl Tryd.underlying22 S H rfl) fun a S => ?_
  refine gy rfl rfl rfl S (y_bin rfl S rfl rfl rfl) fun a S => ?_
  refine ga S fun a S => ?_
  refine gnt ?_
  have S := (((((S.nil.cons S 2 rfl).cons S 1 rfl).cons S 3 rfl).cons S 6 rfl).cons S 7 rfl).cons S 18 rfl
  refine c_if S rfl (fun h3 => ?_) (fun h3 => ?_)
  ·have h3p := h3; try simp only [DL] at h3p
   all_goals (
     have := h3p; omega)
  ·have h3p := h3; try simp only [DL] at h3p
   refine gsr ?_
   refine gy rfl rfl rfl S (y_load0 rfl S H rfl (by exact Fagg24)) fun a S => ?_
   refine gm S fun a S => ?_
   refine wl_of (op_call (wn rfl) rfl rfl S (co_func rfl Tryd.call12 S rfl) (used_spec t to _ (H.tok t)) fun v w hc a S => ?_)
   obtain ⟨rfl, he⟩ := hc
   have H := H.ext he
   refine ga S fun a S => ?_
   refine gnt ?_
   have S := (((((S.nil.cons S 2 rfl).cons S 1 rfl).cons S 3 rfl).cons S 6 rfl).cons S 7 rfl).cons S 24 rfl
   refine c_if S rfl (fun h4 => ?_) (fun h4 => ?_)
   ·have h4p := h4; try simp only [DL] at h4p
    all_goals (
      rw [hu] at h4; simp at h4)
   ·have h4p := h4; try simp only [DL] at h4p
    refine g_seq ?_
    refine region_st (loud := []) (tails := []) (free := []) [0, 1, 2, 3, 4, 5] [] Fmo (by kernel_rfl) (by kernel_rfl) rfl H ?_
    refine m_w rfl rfl (wn rfl) rfl rfl S (fun w H => y_move rfl S rfl) fun a S => ?_
    refine m_c rfl rfl (wn rfl) rfl rfl S (fun w => co_func rfl Tryd.call28 S rfl) (fun w H => public_spec s _ H.tabs hs) fun a S => ?_
    refine m_w rfl rfl (wn rfl) rfl rfl S (fun w H => y_load0 rfl S H rfl (by exact Fagg24)) fun a S => ?_
    refine m_c rfl rfl (wn rfl) rfl rfl S (fun w => co_func rfl Tryd.call14 S rfl) (fun w H => owner_spec t _ (H.tok t)) fun a S => ?_
    refine m_w rfl rfl (wn rfl) rfl rfl S (fun w H => y_nes rfl Tryd.underlying9 S rfl rfl) fun a S => ?_
    refine m_w rfl rfl (wn rfl) rfl rfl S (fun w H => y_assign rfl S rfl) fun a S => ?_
    refine m_nil (fun w H => ?_)
    refine n_then ?_
    have S := (((((S.nil.cons S 2 rfl).cons S 1 rfl).cons S 3 rfl).cons S 6 rfl).cons S 7 rfl).cons S 29 rfl
    refine c_if S rfl (fun h5 => ?_) (fun h5 => ?_)
    ·have h5p := h5; try simp only [DL] at h5p
     all_goals (
       rw [hk] at h5; simp at h5)
    ·have h5p := h5; try simp only [DL] at h5p
     refine g_skip ?_
     refine n_block ?_
     refine n_then ?_
     refine g_seq ?_
     refine region_st (loud := [2, 8, 10, 11, 13]) (tails := [11, 13]) (free := []) [0, 1, 3, 4, 5, 6, 2, 7, 8, 9, 10, 11, 12, 13] [] Fmo (by kernel_rfl) (by kernel_rfl) rfl H ?_
     refine m_w rfl rfl (wn rfl) rfl rfl S (fun w H => y_faddrb rfl Ffo24_4 S rfl) fun a S => ?_
     refine m_w rfl rfl (wn rfl) rfl rfl S (fun w H => y_load rfl Fsca22 S H rfl rfl) fun a S => ?_
     refine m_w rfl rfl (wn rfl) rfl rfl S (fun w H => y_move rfl S rfl) fun a S => ?_
     refine m_w rfl rfl (wn rfl) rfl rfl S (fun w H => y_move rfl S rfl) fun a S => ?_
     refine m_w rfl rfl (wn rfl) rfl rfl S (fun w H => y_load0 rfl S H rfl (by exact Fagg24)) fun a S => ?_
     refine m_w rfl rfl (wn rfl) rfl rfl S (fun w H => y_move rfl S rfl) fun a S => ?_
     refine m_l rfl rfl (fun w H => op_call (wn rfl) rfl rfl S (co_func rfl Tryd.call46 S rfl) (cloneX_spec t.cv t.chain _ (H.sl t.cv) (fun x hx => ((H.tok t).rows x hx).one) (by omega)) fun u38 w hc a S => ?_)
     have H1 := hc
     have H := H.call1 H1 rfl
     refine m_next H (by repeat (first | exact List.Sublist.refl _ | apply List.Sublist.cons)) ?_
     refine m_c rfl rfl (wn rfl) rfl rfl S (fun w => co_func rfl Tryd.call15 S rfl) (fun w H => message_spec t to _ (H.tok t) hz (by omega) H.tabs) fun a S => ?_
     refine m_l rfl rfl (fun w H => op_call (wn rfl) rfl rfl S (co_func rfl Tryd.call47 S rfl) (sign_spec s (msgS t to) _ H.tabs hs (by rw [show msgS t to = listS _ from rfl, listS_size]; decide)) fun u44 w hc a S => ?_)
     have H1 := hc
     have H := H.call1 H1 rfl
     obtain ⟨p44, c44, rfl⟩ := (H.sl u44).shape
     refine m_next H (by repeat (first | exact List.Sublist.refl _ | apply List.Sublist.cons)) ?_
     refine m_w rfl rfl (wn rfl) rfl rfl S (fun w H => y_buildf rfl Fbld32 S rfl (idx := [0, 1]) rfl (cs := [.string to, .slice p44 (signL s (msgS t to)).length c44]) rfl) fun a S => ?_
     refine m_l rfl rfl (fun w H => op_buildSlice (wn rfl) rfl rfl rfl Tryd.underlying22 Finf32 S H (idx := [0]) rfl rfl rfl (z := [.string ⟨#[]⟩, .slice none 0 0]) (by kernel_rfl) (cs := [.string to, .slice p44 (signL s (msgS t to)).length c44]) rfl fun b46 a w S H => m_next H (List.sublist_cons_self _ _) ?_)
     refine m_l rfl rfl (fun w H => op_append ([(⟨to, .slice p44 (signL s (msgS t to)).length c44, signL s (msgS t to)⟩ : XV)]) (wn rfl) rfl rfl rfl Tryd.underlying22 Finf32 rfl rfl S H rfl rfl rfl rfl (by simp) (by simp [encX]) (by simp [encX, Value.oneCell']) (by simp only [List.length_cons, List.length_nil]; omega) (by simp only [List.length_cons, List.length_nil]; omega) fun u47 a w hn47 S H => m_tail H rfl ?_)
     refine m_w rfl rfl (wn rfl) rfl rfl S (fun w H => y_faddrb rfl Ffo24_4 S rfl) fun a S => ?_
     refine m_l rfl rfl (fun w H => op_store (wn rfl) rfl rfl S H rfl rfl (H.sl1 _) Fsiz22 rfl fun a w S H => m_tail H rfl ?_)
     dsimp only [List.set, Nat.zero_add, Nat.reduceAdd] at H
     refine m_nil (fun w H => ?_)
     refine n_then ?_
     have S := ((S.nil.cons S 3 rfl).cons S 6 rfl).cons S 7 rfl
     refine gsr ?_
     refine gy rfl rfl rfl S (y_load0 rfl S H rfl (by exact Fagg24)) fun a S => ?_
     refine wl_of (op_storea (wn rfl) rfl rfl S H rfl rfl (encT_one (t := passT t to u47 (.slice p44 (signL s (msgS t to)).length c44) s) (H.sl1 u47)) Fsiz24 rfl (cs' := [_, _, _, _, _]) rfl fun a w S H => ?_)
     refine ga S fun a S => ?_
     refine gnt ?_
     refine g_ret ?_
     refine ret2ct rfl S H rfl rfl (by exact Fagg24) ?_
     exact ⟨u47, .slice p44 (signL s (msgS t to)).length c44, rfl, H.take [OSl 32 u47 2 encX (t.chain ++ [⟨to, .slice p44 (signL s (msgS t to)).length c44, signL s (msgS t to)⟩]), OSl 9 (.slice p44 (signL s (msgS t to)).length c44) 1 encS (signL s (msgS t to))]⟩
/-- foyer/foyertop.w09Step -/
theorem step_spec (a0 b0 : ByteArray) (n : Nat) (w0 : World) (hT : Tabs w0) (h1 : a0.size ≤ 1000) (h2 : b0.size ≤ 1000) (hn : n ≤ 1000) :
    Ret Tryd.prog 25 #[.string a0, .string b0, .int .i64 (n : Int)] w0 (fun u w => u = .bool (stepC a0 b0 n) ∧ Ext w0 w) := by
 refine ret_of_wp (nt := 27) Tryd.func25 rfl rfl rfl (fl := [(0, .string a0), (1, .string b0), (2, .int .i64 (n : Int))]) rfl (fun a S => ?_)
 have H := HSat.start w0
 have H := H.ro0 (TabsA) rfl (hT)
 refine gsr ?_
 refine ga S fun a S => ?_
 refine gnt ?_
 refine g_seq ?_
 refine gsr ?_
 refine ga S fun a S => ?_
 refine gnt ?_
 refine g_block ?_
 have SU := S.nil.cons S 2 rfl
 refine loopW (X := Nat × ByteArray × ByteArray) SU (fun x => [(7, .int .i64 (x.1 : Int)), (0, .string x.2.1), (1, .string x.2.2)]) (fun x w => x.1 ≤ n ∧ stepC x.2.1 x.2.2 (n - x.1) = stepC a0 b0 n ∧ x.2.1.size ≤ 1000 ∧ x.2.2.size ≤ 1000 ∧ HSat No w0 [TabsA] w) (fun x => n - x.1) (0, a0, b0) (((S.nil.cons S 1 rfl).cons S 0 rfl).cons S 7 rfl) (⟨by simp, rfl, h1, h2, H⟩) (fun x a w S hW => ?_)
 simp only [List.cons_append, List.nil_append] at S
 obtain ⟨k, a1, b1⟩ := x
 obtain ⟨hk, hq, hz1, hz2, H⟩ := hW
 dsimp only at S H hk hq hz1 hz2
 refine g_seq ?_
 refine gsr ?_
 refine gm S fun a S => ?_
 refine gm S fun a S => ?_
 refine gy rfl rfl rfl S (y_bin rfl S rfl rfl rfl) fun a S => ?_
 refine gnt ?_
 refine c_if S rfl (fun h1 => ?_) (fun h1 => ?_)
 ·have h1p := h1; try simp only [DL] at h1p
  have hnk : n - k = (n - (k + 1)) + 1 := by omega
  refine g_skip ?_
  refine n_then ?_
  refine g_seq ?_
  refine g_block ?_
  refine g_seq ?_
  refine gsr ?_
  refine gm S fun a S => ?_
  refine gm S fun a S => ?_
  refine gy rfl rfl rfl S (y_nes rfl Tryd.underlying9 S rfl rfl) fun a S => ?_
  refine gm S fun a S => ?_
  refine' wl_and 5 16 rfl S H rfl rfl rfl rfl rfl rfl rfl (fun _ S => (wn rfl)) (fun h2 kk => ?yh2) (fun a w S H => ?_)
  case yh2 =>
   have h2p := h2; try simp only [DL] at h2p
   refine gz 16 h2 S rfl rfl rfl rfl rfl rfl (y_move rfl S rfl) fun a S => ?_
   refine wl_of (op_call (wg' 16 rfl rfl S rfl h2 rfl) rfl rfl S (co_func rfl Tryd.call40 S rfl) (sum_t _ _ H.tabs (by omega)) fun v w hc a S => ?_)
   obtain ⟨rfl, he⟩ := hc
   have H := H.ext he
   refine gz 16 h2 S rfl rfl rfl rfl rfl rfl (y_move rfl S rfl) fun a S => ?_
   refine wl_of (op_call (wg' 16 rfl rfl S rfl h2 rfl) rfl rfl S (co_func rfl Tryd.call40 S rfl) (sum_t _ _ H.tabs (by omega)) fun v w hc a S => ?_)
   obtain ⟨rfl, he⟩ := hc
   have H := H.ext he
   refine gz 16 h2 S rfl rfl rfl rfl rfl rfl (y_eqs rfl Tryd.underlying9 S rfl rfl) fun a S => ?_
   refine gy rfl rfl rfl S (y_and' rfl h2 S rfl rfl) fun a S => ?_
   exact kk _ _ (S.join 6 22 rfl rfl) H
  refine gnt ?_
  have S := ((((S.nil.cons S 2 rfl).cons S 1 rfl).cons S 0 rfl).cons S 7 rfl).cons S 22 rfl
  refine c_if S rfl (fun h3 => ?_) (fun h3 => ?_)
  ·have h3p := h3; try simp only [DL] at h3p
   have hye : (decide (a1 ≠ b1) && decide (sumS a1 = sumS b1)) = true := by have h := h3; rw [← decide_not] at h; exact h
   refine gsr ?_
   refine ga S fun a S => ?_
   refine gnt ?_
   refine g_ret ?_
   refine r_then (r_block (r_then (r_then (r_block (r_then (ret1 rfl S rfl ?_))))))
   exact ⟨congrArg Value.bool (by rw [hnk, stepC_s, hye] at hq; exact hq), H.toExt⟩
  ·have h3p := h3; try simp only [DL] at h3p
   have hne : (decide (a1 ≠ b1) && decide (sumS a1 = sumS b1)) = false := by have h := h3; rw [← decide_not] at h; exact h
   refine g_skip ?_
   refine n_then ?_
   refine gsr ?_
   refine gm S fun a S => ?_
   refine wl_of (op_call (wn rfl) rfl rfl S (co_func rfl Tryd.call40 S rfl) (sum_t _ _ H.tabs (by omega)) fun v w hc a S => ?_)
   obtain ⟨rfl, he⟩ := hc
   have H := H.ext he
   refine ga S fun a S => ?_
   refine gnt ?_
   have S := (((S.nil.cons S 2 rfl).cons S 1 rfl).cons S 7 rfl).cons S 0 rfl
   refine g_region ?_
   refine gm S fun a S => ?_
   refine wl_of (op_call (wn rfl) rfl rfl S (co_func rfl Tryd.call40 S rfl) (sum_t _ _ H.tabs (by omega)) fun v w hc a S => ?_)
   obtain ⟨rfl, he⟩ := hc
   have H := H.ext he
   refine ga S fun a S => ?_
   refine gl_nil ?_
   refine n_block ?_
   refine n_then ?_
   refine g_region ?_
   refine gm S fun a S => ?_
   refine gy rfl rfl rfl S (y_add rfl S rfl rfl (by omega)) fun a S => ?_
   refine ga S fun a S => ?_
   refine gnt ?_
   exact ⟨(k + 1, sumS a1, sumS b1), ((S.nil.cons S 1 rfl).cons S 0 rfl).cons S 7 rfl, S.nil.cons S 2 rfl, ⟨by dsimp only; omega, by rw [hnk, stepC_s, hne, Bool.false_or] at hq; exact hq, (by rw [sumS_size]; decide), (by rw [sumS_size]; decide), H⟩, by dsimp only; omega⟩
 ·have h1p := h1; try simp only [DL] at h1p
  have hnk : n - k = 0 := by omega
  refine g_exit ?_
  refine x_then (x_then (x_eq ?_))
  refine n_then ?_
  have S := S.nil
  refine gsr ?_
  refine ga S fun a S => ?_
  refine gnt ?_
  refine g_ret ?_
  refine ret1 rfl S rfl ?_
  exact ⟨congrArg Value.bool (by rw [hnk] at hq; exact hq), H.toExt⟩
theorem digit_at (m : ByteArray) (k : Nat) (hk : k < 16) (w : World) (h : k < (sumS m).size) : Ret Tryd.prog 41 #[.int .u8 ((sumS m)[k].toNat : Int)] w (fun u w' => u = .int .i64 ((digL (sumN m.data.toList)).getD k 0 : Int) ∧ Ext w w') := by
  have e : (sumS m)[k] = hexD ((digL (sumN m.data.toList)).getD k 0) := by
    rw [← sumS_at m k (by rw [sumS_len]; exact hk)]
    simp [ByteArray.getElem_eq_getElem_data]
  have h2 := digit_spec (sumS m)[k] w
  rwa [show dgt (sumS m)[k] = ((digL (sumN m.data.toList)).getD k 0 : Int) from by rw [e]; exact dgt_hexD _ (digL_lt _ _)] at h2
set_option maxHeartbeats 1000000 in
/-- foyer/foyertop.w09Digits -/
theorem wdigits_spec (m : ByteArray) (w0 : World) (hT : Tabs w0) (hm : m.size ≤ 1000000) :
    Ret Tryd.prog 24 #[.string m] w0 (fun u w => HSat No w0 [OSl 3 u 1 encI (digsI m)] w) := by
 refine ret_of_wp (nt := 36) Tryd.func24 rfl rfl rfl (fl := [(0, .string m)]) rfl (fun a S => ?_)
 have H := HSat.start w0
 have H := H.ro0 (TabsA) rfl (hT)
 have h16 := sumS_size m
 refine gsr ?_
 refine ga S fun a S => ?_
 refine gnt ?_
 refine gsr ?_
 refine gm S fun a S => ?_
 refine wl_of (op_call (wn rfl) rfl rfl S (co_func rfl Tryd.call40 S rfl) (sum_t _ _ H.tabs (by omega)) fun v w hc a S => ?_)
 obtain ⟨rfl, he⟩ := hc
 have H := H.ext he
 refine ga S fun a S => ?_
 refine gnt ?_
 refine gsr ?_
 refine ga S fun a S => ?_
 refine gnt ?_
 refine gsr ?_
 refine ga S fun a S => ?_
 refine gnt ?_
 refine g_seq ?_
 refine gsr ?_
 refine ga S fun a S => ?_
 refine gnt ?_
 refine g_block ?_
 have SU := (S.nil.cons S 2 rfl).cons S 3 rfl
 refine loopW (X := Nat × Value) SU (fun x => [(6, .int .i64 (x.1 : Int)), (4, x.2), (5, .int .i64 (restL (sumN m.data.toList) x.1 : Int))]) (fun x w => x.1 ≤ 16 ∧ HSat No w0 [OSl 3 x.2 1 encI (((digL (sumN m.data.toList)).take (x.1)).map fun n : Nat => (n : Int)), TabsA] w) (fun x => 16 - x.1) (0, .slice none 0 0) (((S.nil.cons S 5 rfl).cons S 4 rfl).cons S 6 rfl) (⟨by simp, (H.nilO 3 1 encI).take [OSl 3 (.slice none 0 0) 1 encI [], TabsA]⟩) (fun x a w S hW => ?_)
 simp only [List.cons_append, List.nil_append] at S
 obtain ⟨k, u⟩ := x
 obtain ⟨hk, H⟩ := hW
 dsimp only at S H hk
 have hrl := restL_le (sumN m.data.toList) k hk
 have hdl := digL_lt (sumN m.data.toList) k
 refine g_seq ?_
 refine gsr ?_
 refine gm S fun a S => ?_
 refine gm S fun a S => ?_
 refine gy rfl rfl rfl S (y_lenstr rfl Tryd.underlying9 S rfl) fun a S => ?_
 refine gy rfl rfl rfl S (y_bin rfl S rfl rfl rfl) fun a S => ?_
 refine gnt ?_
 refine c_if S rfl (fun h1 => ?_) (fun h1 => ?_)
 ·have h1p := h1; try simp only [DL] at h1p
  have hk16 : k < 16 := by omega
  refine g_skip ?_
  refine n_then ?_
  have S := ((((S.nil.cons S 2 rfl).cons S 3 rfl).cons S 5 rfl).cons S 4 rfl).cons S 6 rfl
  refine g_seq ?_
  refine g_block ?_
  refine gsr ?_
  refine gm S fun a S => ?_
  refine gm S fun a S => ?_
  refine gm S fun a S => ?_
  refine gy rfl rfl rfl S (y_idxstr rfl Tryd.underlying9 S rfl rfl (by first | assumption | omega | (simp only [LL]; omega))) fun a S => ?_
  refine wl_of (op_call (wn rfl) rfl rfl S (co_func rfl Tryd.call41 S rfl) (digit_at m k hk16 _ (by omega)) fun v w hc a S => ?_)
  obtain ⟨rfl, he⟩ := hc
  have H := H.ext he
  refine wl_of (op_buildSlice (wn rfl) rfl rfl rfl Tryd.underlying48 Finf3 S H (idx := [0]) rfl rfl rfl (z := [.int .i64 0]) (by kernel_rfl) (cs := [_]) rfl fun b20 a w S H => ?_)
  refine wl_of (op_append ([((digL (sumN m.data.toList)).getD k 0 : Int)]) (wn rfl) rfl rfl rfl Tryd.underlying48 Finf3 rfl rfl S H rfl rfl rfl rfl (by simp) (by simp [encI]) (by simp [encI, Value.oneCell']) (by simp only [List.length_cons, List.length_nil, List.length_map, List.length_take, digL_len]; omega) (by simp only [List.length_cons, List.length_nil, List.length_map, List.length_take, digL_len]; omega) fun u21 a w hn21 S H => ?_)
  have e21 : (((digL (sumN m.data.toList)).take (k)).map fun n : Nat => (n : Int)) ++ [((digL (sumN m.data.toList)).getD k 0 : Int)] = (((digL (sumN m.data.toList)).take (k + 1)).map fun n : Nat => (n : Int)) := by rw [List.take_succ_eq_append_getElem (by rw [digL_len]; exact hk16), List.map_append]; simp [List.getElem?_eq_getElem (show k < (digL (sumN m.data.toList)).length by rw [digL_len]; exact hk16)]
  rw [e21] at H
  refine ga S fun a S => ?_
  refine gnt ?_
  have S := ((((S.nil.cons S 2 rfl).cons S 3 rfl).cons S 5 rfl).cons S 6 rfl).cons S 4 rfl
  refine g_region ?_
  refine gm S fun a S => ?_
  refine gm S fun a S => ?_
  refine gm S fun a S => ?_
  refine gy rfl rfl rfl S (y_idxstr rfl Tryd.underlying9 S rfl rfl (by first | assumption | omega | (simp only [LL]; omega))) fun a S => ?_
  refine wl_of (op_call (wn rfl) rfl rfl S (co_func rfl Tryd.call41 S rfl) (digit_at m k hk16 _ (by omega)) fun v w hc a S => ?_)
  obtain ⟨rfl, he⟩ := hc
  have H := H.ext he
  refine gy rfl rfl rfl S (y_sub rfl S rfl rfl (by omega)) fun a S => ?_
  refine gy rfl rfl rfl S (y_add rfl S rfl rfl (by omega)) fun a S => ?_
  rw [show ((restL (sumN m.data.toList) k : Int) + (15 - ((digL (sumN m.data.toList)).getD k 0 : Int))) = ((restL (sumN m.data.toList) (k + 1) : Nat) : Int) from by rw [restL_s _ _ hk16]; omega] at S
  refine ga S fun a S => ?_
  refine gl_nil ?_
  refine n_block ?_
  refine n_then ?_
  have S := ((((S.nil.cons S 2 rfl).cons S 3 rfl).cons S 6 rfl).cons S 4 rfl).cons S 5 rfl
  refine g_region ?_
  refine gm S fun a S => ?_
  refine gy rfl rfl rfl S (y_add rfl S rfl rfl (by omega)) fun a S => ?_
  refine ga S fun a S => ?_
  refine gnt ?_
  exact ⟨(k + 1, u21), ((S.nil.cons S 5 rfl).cons S 4 rfl).cons S 6 rfl, (by have S := S; exact (S.nil.cons S 2 rfl).cons S 3 rfl), ⟨by dsimp only; omega, H.take [OSl 3 u21 1 encI (((digL (sumN m.data.toList)).take (k + 1)).map fun n : Nat => (n : Int)), TabsA]⟩, by dsimp only; omega⟩
 ·have h1p := h1; try simp only [DL] at h1p
  obtain rfl : k = 16 := by omega
  refine g_exit ?_
  refine x_then (x_then (x_eq ?_))
  refine n_then ?_
  have S := ((S.nil.cons S 2 rfl).cons S 5 rfl).cons S 4 rfl
  refine gsr ?_
  refine gm S fun a S => ?_
  refine gm S fun a S => ?_
  refine gy rfl rfl rfl S (y_quon rfl S rfl rfl (by omega) (by omega) (by omega)) fun a S => ?_
  refine gm S fun a S => ?_
  refine gy rfl rfl rfl S (y_remn rfl S rfl rfl (by omega) (by omega)) fun a S => ?_
  refine wl_of (op_buildSlice (wn rfl) rfl rfl rfl Tryd.underlying48 Finf3 S H (idx := [0, 1]) rfl rfl rfl (z := [.int .i64 0, .int .i64 0]) (by kernel_rfl) (cs := [_, _]) rfl fun b34 a w S H => ?_)
  refine wl_of (op_append ([(restL (sumN m.data.toList) 16 : Int) / 16, (restL (sumN m.data.toList) 16 : Int) % 16]) (wn rfl) rfl rfl rfl Tryd.underlying48 Finf3 rfl rfl S H rfl rfl rfl rfl (by simp) (by simp [encI]) (by simp [encI, Value.oneCell']) (by simp only [List.length_cons, List.length_nil, List.length_map, List.length_take, digL_len]; omega) (by simp only [List.length_cons, List.length_nil, List.length_map, List.length_take, digL_len]; omega) fun u35 a w hn35 S H => ?_)
  refine ga S fun a S => ?_
  refine gnt ?_
  have S := S.nil.cons S 2 rfl
  refine g_ret ?_
  refine ret1 rfl S rfl ?_
  have e35 : (((digL (sumN m.data.toList)).take (16)).map fun n : Nat => (n : Int)) ++ [(restL (sumN m.data.toList) 16 : Int) / 16, (restL (sumN m.data.toList) 16 : Int) % 16] = digsI m := by unfold digsI digs; rw [List.take_of_length_le (by rw [digL_len]; decide), List.map_append]; rfl
  rw [e35] at H
  exact H.take [OSl 3 u35 1 encI (digsI m)]
end Go.Proofs.YtngocpdmlijnfaaDoor
