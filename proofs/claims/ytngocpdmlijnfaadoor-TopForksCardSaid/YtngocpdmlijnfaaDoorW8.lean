/- The walks. No condition. -/
import Derived.Test.YtngocpdmlijnfaaDoorChecked
import Derived.Test.YtngocpdmlijnfaaDoorGwStrB
import Derived.Test.YtngocpdmlijnfaaDoorShelf
import Derived.Test.YtngocpdmlijnfaaDoorFacts
import Derived.Test.YtngocpdmlijnfaaDoorPlain
import Derived.Test.YtngocpdmlijnfaaDoorW7
namespace Go.Proofs.YtngocpdmlijnfaaDoor
open Go Go.Gw
set_option linter.unusedVariables false
set_option linter.unusedSimpArgs false
theorem eqs3 (a b c a' b' c' : ByteArray) (w : World) : (Op.equalIn 10000 40 (.agg [Value.string a, .string b, .string c].toArray) (.agg [Value.string a', .string b', .string c'].toArray)).run Tryd.prog w = .ok (decide (a = a') && decide (b = b') && decide (c = c')) w := by
  have hT : Tryd.prog.underlying 40 = some (.array 3 9) := Tryd.underlying40
  have he : Tryd.prog.underlying 9 = some .string := Tryd.underlying9
  have hsc : scalarB Tryd.prog 9 = true := by simp [scalarB, he]
  obtain ⟨i, hi⟩ := info_of_underlying he
  have hs : (Tryd.prog.info? 9).map (·.size) = some 1 := by kernel_rfl
  have hc : Tryd.prog.cellsOf 9 = 1 := by rw [hi] at hs; simpa [Program.cellsOf, hi] using hs
  have pt : ∀ (cs : Array Value) (o : Nat) (v : Value), cs[o]? = some v → (part 9 cs o).run Tryd.prog w = .ok v w := by
    intro cs o v hv
    simp [part, run_isAgg_scalar hsc, hv]
  have eqi : ∀ (n : Nat) (x y : ByteArray), (Op.equalIn (n + 1) 9 (.string x) (.string y)).run Tryd.prog w = .ok (decide (x = y)) w := by
    intro n x y
    simp [Op.equalIn, run_underlying he]
    rw [Bool.eq_iff_iff, decide_eq_true_eq]
    cases x; cases y
    show ByteArray.beq _ _ = true ↔ _
    simp [ByteArray.beq]
  rw [run_equalIn_array w 9999 _ _ hT hi, hc]
  have p1 := pt #[.string a, .string b, .string c] 0 _ rfl
  have p2 := pt #[.string a, .string b, .string c] 1 _ rfl
  have p3 := pt #[.string a, .string b, .string c] 2 _ rfl
  have q1 := pt #[.string a', .string b', .string c'] 0 _ rfl
  have q2 := pt #[.string a', .string b', .string c'] 1 _ rfl
  have q3 := pt #[.string a', .string b', .string c'] 2 _ rfl
  rw [show List.range 3 = [0, 1, 2] from rfl]
  have e1 := eqi 9998 a a'
  have e2 := eqi 9998 b b'
  have e3 := eqi 9998 c c'
  generalize decide (a = a') = b1 at e1 ⊢; generalize decide (b = b') = b2 at e2 ⊢; generalize decide (c = c') = b3 at e3 ⊢
  simp only [Op.eqItems, Sem.run_bind, Nat.zero_mul, Nat.one_mul, Nat.mul_one, p1, q1, Result.andThen_ok]
  cases b1 <;> cases b2 <;> cases b3 <;> simp [p1, q1, p2, q2, p3, q3, e1, e2, e3]
set_option maxHeartbeats 1000000 in
/-- foyer/title.Extends -/
theorem extends_spec (p q : TV) (w0 : World) (ha : TOk w0 p) (hb : TOk w0 q) (hza : TSz p) (hzb : TSz q) (hT : Tabs w0) :
    Ret Tryd.prog 7 #[.agg (encT p).toArray, .agg (encT q).toArray] w0 (fun u w => u = .bool (extB p q) ∧ Ext w0 w) := by
 refine ret_of_wp (nt := 28) Tryd.func7 rfl rfl rfl (fl := [(0, .agg (encT p).toArray), (1, .agg (encT q).toArray)]) rfl (fun a S => ?_)
 have H := HSat.start w0
 have H := H.ro0 (TabsA) rfl (hT)
 have H := H.ro0 (Sl p.cv 2 encX p.chain) rfl (ha.sl)
 have H := H.ro0 (CapA p.cv) rfl (ha.cap)
 have H := H.ro0 (XRows p.chain) rfl (ha.rows)
 have H := H.ro0 (Sl q.cv 2 encX q.chain) rfl (hb.sl)
 have H := H.ro0 (CapA q.cv) rfl (hb.cap)
 have H := H.ro0 (XRows q.chain) rfl (hb.rows)
 have hla := ha.sl.len
 have hlb := hb.sl.len
 refine gsr ?_
 refine wl_of (op_boxa (wn rfl) rfl rfl rfl S H rfl fun b2 a w S H => ?_)
 refine wl_of (op_boxa (wn rfl) rfl rfl rfl S H rfl fun b3 a w S H => ?_)
 refine ga S fun a S => ?_
 refine gnt ?_
 refine g_seq ?_
 refine g_seq ?_
 refine region_st (loud := []) (tails := []) (free := []) [0, 1, 2, 3, 4, 5, 6, 7, 8, 9, 10, 11, 12, 13] [] Fmo (by kernel_rfl) (by kernel_rfl) rfl H ?_
 refine m_w rfl rfl (wn rfl) rfl rfl S (fun w H => y_load0 rfl S H rfl (by exact Fagg24)) fun a S => ?_
 refine m_c rfl rfl (wn rfl) rfl rfl S (fun w => co_func rfl Tryd.call16 S rfl) (fun w H => identity_spec p _ hza H.tabs) fun a S => ?_
 refine m_w rfl rfl (wn rfl) rfl rfl S (fun w H => y_load0 rfl S H rfl (by exact Fagg24)) fun a S => ?_
 refine m_c rfl rfl (wn rfl) rfl rfl S (fun w => co_func rfl Tryd.call16 S rfl) (fun w H => identity_spec q _ hzb H.tabs) fun a S => ?_
 refine m_w rfl rfl (wn rfl) rfl rfl S (fun w H => y_nea (eqs3 (itoaS p.serial) (itoaS p.show_) p.first (itoaS q.serial) (itoaS q.show_) q.first) rfl Feqg40 S rfl rfl) fun a S => ?_
 refine m_w rfl rfl (wn rfl) rfl rfl S (fun w H => y_move rfl S rfl) fun a S => ?_
 refine' m_orq [6, 7, 8, 9, 10, 11, 12] 10 S rfl rfl rfl rfl rfl rfl rfl rfl rfl (fun _ S => (wn rfl)) (fun h1 kk => ?yh1) (fun a S => ?_)
 case yh1 =>
  have h1p := h1; try simp only [DL] at h1p
  refine m_w rfl rfl (wg' 10 rfl rfl S rfl h1 rfl) rfl rfl S (fun w H => y_faddrb rfl Ffo24_4 S rfl) fun a S => ?_
  refine m_w rfl rfl (wg' 10 rfl rfl S rfl h1 rfl) rfl rfl S (fun w H => y_load rfl Fsca22 S H rfl rfl) fun a S => ?_
  refine m_w rfl rfl (wg' 10 rfl rfl S rfl h1 rfl) rfl rfl S (fun w H => y_lens rfl Tryd.underlying22 S H rfl) fun a S => ?_
  refine m_w rfl rfl (wg' 10 rfl rfl S rfl h1 rfl) rfl rfl S (fun w H => y_faddrb rfl Ffo24_4 S rfl) fun a S => ?_
  refine m_w rfl rfl (wg' 10 rfl rfl S rfl h1 rfl) rfl rfl S (fun w H => y_load rfl Fsca22 S H rfl rfl) fun a S => ?_
  refine m_w rfl rfl (wg' 10 rfl rfl S rfl h1 rfl) rfl rfl S (fun w H => y_lens rfl Tryd.underlying22 S H rfl) fun a S => ?_
  refine m_w rfl rfl (wg' 10 rfl rfl S rfl h1 rfl) rfl rfl S (fun w H => y_bin rfl S rfl rfl rfl) fun a S => ?_
  refine m_w rfl rfl (wn rfl) rfl rfl S (fun w H => y_or' rfl h1 S rfl rfl) fun a S => ?_
  exact kk _ (S.join 8 18 rfl rfl)
 refine m_nil (fun w H => ?_)
 refine n_then ?_
 have S := (((S.nil.cons S 2 rfl).cons S 3 rfl).cons S 4 rfl).cons S 18 rfl
 refine c_if S rfl (fun h2 => ?_) (fun h2 => ?_)
 ·have h2p := h2; try simp only [DL] at h2p
  have hh : (identB p q && decide (q.chain.length ≤ p.chain.length)) = false := by
    have h := h2
    have e : decide ((p.chain.length : Int) < (q.chain.length : Int)) = !decide (q.chain.length ≤ p.chain.length) := by rw [Bool.eq_iff_iff]; simp
    rw [e] at h
    change (!identB p q || _) = true at h
    generalize identB p q = b1 at h ⊢; generalize decide (q.chain.length ≤ p.chain.length) = b2 at h ⊢
    cases b1 <;> cases b2 <;> simp_all
  refine gsr ?_
  refine ga S fun a S => ?_
  refine gnt ?_
  refine g_ret ?_
  refine r_then (ret1 rfl S rfl ?_)
  exact ⟨congrArg Value.bool (by unfold extB; rw [hh]; rfl), H.toExt⟩
 ·have h2p := h2; try simp only [DL] at h2p
  have hh : (identB p q && decide (q.chain.length ≤ p.chain.length)) = true := by
    have h := h2
    have e : decide ((p.chain.length : Int) < (q.chain.length : Int)) = !decide (q.chain.length ≤ p.chain.length) := by rw [Bool.eq_iff_iff]; simp
    rw [e] at h
    change (!identB p q || _) = false at h
    generalize identB p q = b1 at h ⊢; generalize decide (q.chain.length ≤ p.chain.length) = b2 at h ⊢
    cases b1 <;> cases b2 <;> simp_all
  have hle : q.chain.length ≤ p.chain.length := by have := (Bool.and_eq_true_iff.1 hh).2; simpa using this
  refine g_skip ?_
  refine n_then ?_
  refine g_seq ?_
  refine region_st (loud := []) (tails := []) (free := []) [0, 1, 2, 3, 4, 5, 6, 7, 8, 9] [] Fmo (by kernel_rfl) (by kernel_rfl) rfl H ?_
  refine m_w rfl rfl (wn rfl) rfl rfl S (fun w H => y_faddrb rfl Ffo24_4 S rfl) fun a S => ?_
  refine m_w rfl rfl (wn rfl) rfl rfl S (fun w H => y_load rfl Fsca22 S H rfl rfl) fun a S => ?_
  refine m_w rfl rfl (wn rfl) rfl rfl S (fun w H => y_faddrb rfl Ffo24_4 S rfl) fun a S => ?_
  refine m_w rfl rfl (wn rfl) rfl rfl S (fun w H => y_load rfl Fsca22 S H rfl rfl) fun a S => ?_
  refine m_w rfl rfl (wn rfl) rfl rfl S (fun w H => y_lens rfl Tryd.underlying22 S H rfl) fun a S => ?_
  refine m_w rfl rfl (wn rfl) rfl rfl S (fun w H => y_sliceH rfl Tryd.underlying22 Fsiz32 S H rfl rfl (by first | assumption | omega | (simp only [LL]; omega))) fun a S => ?_
  refine m_w rfl rfl (wn rfl) rfl rfl S (fun w H => y_faddrb rfl Ffo24_4 S rfl) fun a S => ?_
  refine m_w rfl rfl (wn rfl) rfl rfl S (fun w H => y_load rfl Fsca22 S H rfl rfl) fun a S => ?_
  refine m_c rfl rfl (wn rfl) rfl rfl S (fun w => co_func rfl Tryd.call17 S rfl) (fun w H => equalX_spec _ q.cv ((p.chain.take q.chain.length).drop 0) q.chain _ (H.sl (subV p.cv 0 q.chain.length 2)) (H.sl q.cv) (fun x hx => (H.tok p).rows x (List.mem_of_mem_take hx)) (H.tok q).rows) fun a S => ?_
  refine m_w rfl rfl (wn rfl) rfl rfl S (fun w H => y_assign rfl S rfl) fun a S => ?_
  refine m_nil (fun w H => ?_)
  refine n_then ?_
  have S := S.nil.cons S 4 rfl
  refine g_ret ?_
  refine ret1 rfl S rfl ?_
  exact ⟨congrArg Value.bool (by unfold extB; rw [hh]; rfl), H.toExt⟩
/-- foyer/title.steps -/
theorem steps_spec (t : TV) (w0 : World) :
    Ret Tryd.prog 11 #[.agg (encT t).toArray] w0 (fun u w => ∃ c1, u = .func (.func 33) #[] #[.pointer (some ⟨c1, 0, none⟩)] ∧ HSat No w0 [Cel c1 24 (encT t)] w) := by
 refine ret_of_wp (nt := 4) Tryd.func11 rfl rfl rfl (fl := [(0, .agg (encT t).toArray)]) rfl (fun a S => ?_)
 have H := HSat.start w0
 refine gsr ?_
 refine wl_of (op_boxa (wn rfl) rfl rfl rfl S H rfl fun b1 a w S H => ?_)
 refine ga S fun a S => ?_
 refine gnt ?_
 refine gsr ?_
 refine gy rfl rfl rfl S (y_makeFunc rfl S rfl rfl) fun a S => ?_
 refine ga S fun a S => ?_
 refine gnt ?_
 have S := S.nil.cons S 2 rfl
 refine g_ret ?_
 refine ret1 rfl S rfl ?_
 exact ⟨_, rfl, H⟩
set_option maxHeartbeats 1000000 in
/-- foyer/title.steps$1 -/
theorem steps_iter {M : Nat → Prop} {u0 : World} {Z : Type} (L : Nat → Z → List Atom) (LS : Z → List Atom) (lb c1 : Nat) (t : TV) (w0 : World)
    (hround : ∀ k (h : k < t.chain.length) z w, HSat M u0 (Atom.ro (Cel c1 24 (encT t)) :: Sl t.cv 2 encX t.chain :: CapA t.cv :: XRows t.chain :: L k z) w → YieldRet Tryd.prog lb #[.agg (encT (cutT t k)).toArray, .agg (encX t.chain[k]).toArray] w (fun u w' => ∃ b, u = .bool b ∧ ∃ z, HSat M u0 (Atom.ro (Cel c1 24 (encT t)) :: Sl t.cv 2 encX t.chain :: CapA t.cv :: XRows t.chain :: cond b (L (k + 1) z) (LS z)) w')) (h0 : ∃ z, HSat M u0 (Atom.ro (Cel c1 24 (encT t)) :: Sl t.cv 2 encX t.chain :: CapA t.cv :: XRows t.chain :: L 0 z) w0) :
    Ret Tryd.prog 33 #[.func (.yield lb) #[] #[], .pointer (some ⟨c1, 0, none⟩)] w0 (fun u w => (∃ z, HSat M u0 (Atom.ro (Cel c1 24 (encT t)) :: Sl t.cv 2 encX t.chain :: CapA t.cv :: XRows t.chain :: L t.chain.length z) w) ∨ (∃ z, HSat M u0 (Atom.ro (Cel c1 24 (encT t)) :: Sl t.cv 2 encX t.chain :: CapA t.cv :: XRows t.chain :: LS z) w)) := by
 refine ret_of_wp (nt := 26) Tryd.func33 rfl rfl rfl (fl := [(0, .func (.yield lb) #[] #[]), (1, .pointer (some ⟨c1, 0, none⟩))]) rfl (fun a S => ?_)
 obtain ⟨z0, H⟩ := h0
 have hlen := (H.sl t.cv (xs := t.chain)).len
 refine gsr ?_
 refine gy rfl rfl rfl S (y_faddrb rfl Ffo24_4 S rfl) fun a S => ?_
 refine gy rfl rfl rfl S (y_load rfl Fsca22 S H rfl rfl) fun a S => ?_
 refine gy rfl rfl rfl S (y_lens rfl Tryd.underlying22 S H rfl) fun a S => ?_
 refine gm S fun a S => ?_
 refine gnt ?_
 refine g_block ?_
 have SU := (((S.nil.cons S 1 rfl).cons S 0 rfl).cons S 7 rfl).cons S 8 rfl
 refine loopW (X := Nat) SU (fun k => [(9, .int .i64 (k : Int))]) (fun k w => k ≤ t.chain.length ∧ ∃ z, HSat M u0 (Atom.ro (Cel c1 24 (encT t)) :: Sl t.cv 2 encX t.chain :: CapA t.cv :: XRows t.chain :: L k z) w) (fun k => t.chain.length - k) 0 (S.nil.cons S 9 rfl) (⟨by omega, z0, H⟩) (fun k a w S hW => ?_)
 simp only [List.cons_append, List.nil_append] at S
 obtain ⟨hk, z, H⟩ := hW
 refine gsr ?_
 refine gy rfl rfl rfl S (y_bin rfl S rfl rfl rfl) fun a S => ?_
 refine gnt ?_
 refine g_seq ?_
 refine c_if S rfl (fun h1 => ?_) (fun h1 => ?_)
 ·have h1p := h1; try simp only [DL] at h1p
  have hkl : k < t.chain.length := by omega
  refine g_skip ?_
  refine n_then ?_
  refine g_seq ?_
  refine g_block ?_
  refine gsr ?_
  refine gm S fun a S => ?_
  refine gy rfl rfl rfl S (y_iaddrn rfl Tryd.underlying22 Fsiz32 S H rfl rfl (by first | assumption | omega | (simp only [LL]; omega))) fun a S => ?_
  refine gy rfl rfl rfl S (y_loadsa _ rfl S H rfl (by exact Fagg32) (by first | assumption | omega | (simp only [LL]; omega))) fun a S => ?_
  refine wl_of (op_alloc (wn rfl) rfl rfl rfl S H Fzer32 fun b4 a w S H => ?_)
  refine ga S fun a S => ?_
  refine wl_of (op_storea (wn rfl) rfl rfl S H rfl rfl (encX_one (w := w) (H.sl1 t.chain[k].sv)) Fsiz32 rfl (cs' := [_, _]) rfl fun a w S H => ?_)
  refine gnt ?_
  have S := ((((((S.nil.cons S 1 rfl).cons S 0 rfl).cons S 7 rfl).cons S 8 rfl).cons S 9 rfl).cons S 4 rfl).cons S 3 rfl
  refine gsr ?_
  refine gy rfl rfl rfl S (y_load0 rfl S H rfl (by exact Fagg24)) fun a S => ?_
  refine wl_of (op_alloc (wn rfl) rfl rfl rfl S H Fzer24 fun b5 a w S H => ?_)
  refine wl_of (op_storea (wn rfl) rfl rfl S H rfl rfl (encT_one (H.sl1 t.cv)) Fsiz24 rfl (cs' := [_, _, _, _, _]) rfl fun a w S H => ?_)
  refine gnt ?_
  refine gsr ?_
  refine gy rfl rfl rfl S (y_faddrb rfl Ffo24_4 S rfl) fun a S => ?_
  refine gy rfl rfl rfl S (y_load rfl Fsca22 S H rfl rfl) fun a S => ?_
  refine gm S fun a S => ?_
  refine gy rfl rfl rfl S (y_sliceH rfl Tryd.underlying22 Fsiz32 S H rfl rfl (by first | assumption | omega | (simp only [LL]; omega))) fun a S => ?_
  refine gy rfl rfl rfl S (y_faddrb rfl Ffo24_4 S rfl) fun a S => ?_
  refine wl_of (op_store (wn rfl) rfl rfl S H rfl rfl (H.sl1 _) Fsiz22 rfl fun a w S H => ?_)
  dsimp only [List.set, Nat.zero_add, Nat.reduceAdd] at H
  refine gnt ?_
  have S := ((((((S.nil.cons S 1 rfl).cons S 0 rfl).cons S 7 rfl).cons S 8 rfl).cons S 9 rfl).cons S 4 rfl).cons S 5 rfl
  refine gsr ?_
  refine gm S fun a S => ?_
  refine gy rfl rfl rfl S (y_load0 rfl S H rfl (by exact Fagg24)) fun a S => ?_
  refine gy rfl rfl rfl S (y_load0 rfl S H rfl (by exact Fagg32)) fun a S => ?_
  refine wl_of (op_yield (wn rfl) rfl rfl rfl S rfl rfl (hround k hkl z _ (H.drop 2)) fun u w hc a S => ?_)
  obtain ⟨b, rfl, z2, H⟩ := hc
  refine gy rfl rfl rfl S (y_not rfl S rfl) fun a S => ?_
  refine gnt ?_
  have S := (((((S.nil.cons S 1 rfl).cons S 0 rfl).cons S 7 rfl).cons S 8 rfl).cons S 9 rfl).cons S 24 rfl
  refine c_if S rfl (fun h2 => ?_) (fun h2 => ?_)
  ·have h2p := h2; try simp only [DL] at h2p
   refine g_ret ?_
   refine r_block (r_then (r_then (r_block (ret0 rfl S ?_))))
   obtain rfl : b = false := by simpa using h2
   exact .inr ⟨z2, H⟩
  ·have h2p := h2; try simp only [DL] at h2p
   refine g_skip ?_
   refine n_block ?_
   refine n_then ?_
   refine g_region ?_
   refine gy rfl rfl rfl S (y_add rfl S rfl rfl (by omega)) fun a S => ?_
   refine gm S fun a S => ?_
   refine gnt ?_
   obtain rfl : b = true := by simpa using h2
   exact ⟨k + 1, S.nil.cons S 9 rfl, (((S.nil.cons S 1 rfl).cons S 0 rfl).cons S 7 rfl).cons S 8 rfl, ⟨by omega, z2, H⟩, by omega⟩
 ·have h1p := h1; try simp only [DL] at h1p
  obtain rfl : k = t.chain.length := by omega
  refine g_exit ?_
  refine x_then (x_then (x_eq ?_))
  refine ret0n rfl S ?_
  exact .inl ⟨z, H⟩
set_option maxHeartbeats 1000000 in
/-- foyer/title.Valid -/
theorem valid_spec (t : TV) (w0 : World) (ht : TOk w0 t) (hz : TSz t) (hT : Tabs w0) :
    Ret Tryd.prog 6 #[.agg (encT t).toArray] w0 (fun u w => u = .bool (validB t) ∧ Ext w0 w) := by
 refine ret_of_wp (nt := 28) Tryd.func6 rfl rfl rfl (fl := [(0, .agg (encT t).toArray)]) rfl (fun a S => ?_)
 have H := HSat.start w0
 have H := H.ro0 (TabsA) rfl (hT)
 have H := H.ro0 (Sl t.cv 2 encX t.chain) rfl (ht.sl)
 have H := H.ro0 (CapA t.cv) rfl (ht.cap)
 have H := H.ro0 (XRows t.chain) rfl (ht.rows)
 have hlen := ht.sl.len
 refine gsr ?_
 refine wl_of (op_boxa (wn rfl) rfl rfl rfl S H rfl fun b1 a w S H => ?_)
 refine wl_of (op_alloc (wn rfl) rfl rfl rfl S H Fzer4 fun b2 a w S H => ?_)
 refine gnt ?_
 refine g_seq ?_
 refine gsr ?_
 refine gy rfl rfl rfl S (y_load0 rfl S H rfl (by exact Fagg24)) fun a S => ?_
 refine wl_of (op_call (wn rfl) rfl rfl S (co_func rfl Tryd.call10 S rfl) (formed_spec t _ (H.tok t) hz) fun v w hc a S => ?_)
 obtain ⟨rfl, he⟩ := hc
 have H := H.ext he
 refine gy rfl rfl rfl S (y_not rfl S rfl) fun a S => ?_
 refine gnt ?_
 refine c_if S rfl (fun h1 => ?_) (fun h1 => ?_)
 ·have h1p := h1; try simp only [DL] at h1p
  have hff : formedB t = false := by simpa using h1
  refine gsr ?_
  refine wl_of (op_store (wn rfl) rfl rfl S H rfl rfl rfl Fsiz4 rfl fun a w S H => ?_)
  dsimp only [List.set, Nat.zero_add, Nat.reduceAdd] at H
  refine gnt ?_
  have S := (S.nil.cons S 1 rfl).cons S 2 rfl
  refine g_ret ?_
  refine r_then (retcsM rfl S (H.defs0) rfl Fsca4 rfl (fun w H => ?_))
  exact ⟨congrArg Value.bool (by unfold validB; rw [hff]; rfl), H.toExt⟩
 ·have h1p := h1; try simp only [DL] at h1p
  have hff : formedB t = true := by simpa using h1
  refine g_skip ?_
  refine n_then ?_
  have S := (S.nil.cons S 1 rfl).cons S 2 rfl
  refine g_seq ?_
  refine gsr ?_
  refine gy rfl rfl rfl S (y_load0 rfl S H rfl (by exact Fagg24)) fun a S => ?_
  refine wl_of (op_call (wn rfl) rfl rfl S (co_func rfl Tryd.call11 S rfl) (steps_spec t _) fun v w hc a S => ?_)
  obtain ⟨c1, rfl, H1⟩ := hc
  have H := H.call1 H1 rfl
  have H := (H.freeze.laid (p := ∀ i, i < 0 → stepB t i = true) (fun i h => absurd h (by omega))).defs0
  refine gnt ?_
  refine g_block ?_
  refine g_range (Φ := fun p l2 => l2 = [Cel b2 4 [.bool false]] ∧ ((p = none ∧ ∀ i, i < t.chain.length → stepB t i = true) ∨ (p = some .ret ∧ ∃ i, i < t.chain.length ∧ stepB t i = false))) S (H.take [DefsA [], PureA (∀ i, i < 0 → stepB t i = true), Atom.ro (Cel c1 24 (encT t)), Sl t.cv 2 encX t.chain, CapA t.cv, XRows t.chain, TabsA, Cel b2 4 [.bool false], Cel b1 24 (encT t)]) rfl Tryd.call33 (fun R lb w1 hrec H1 => ?_) ?_
  ·have SR := S.recd
   refine Ret.mono (steps_iter (M := No) (u0 := w0) (Z := Unit) (fun k _ => Blk lb (.loop R) :: DefsA [R.defers] :: Cel b2 4 [.bool false] :: Cel b1 24 (encT t) :: TabsA :: PureA (∀ i, i < k → stepB t i = true) :: []) (fun _ => Blk lb (.loop { R with state := .done, pending := some .ret }) :: DefsA [R.defers] :: Cel b2 4 [.bool false] :: PureA (∃ i, i < t.chain.length ∧ stepB t i = false) :: []) lb c1 t w1 (fun k hk z w H => ?_) ⟨(), H1.take [Atom.ro (Cel c1 24 (encT t)), Sl t.cv 2 encX t.chain, CapA t.cv, XRows t.chain, Blk lb (.loop R), DefsA [R.defers], Cel b2 4 [.bool false], Cel b1 24 (encT t), TabsA, PureA (∀ i, i < 0 → stepB t i = true)]⟩) ?_
   ·have hxk := hz.x t.chain[k] (List.getElem_mem hk)
    skip
    refine yield2 hrec SR H rfl rfl (fun a S => ?_)
    refine gsr ?_
    refine wl_of (op_alloc (wn rfl) rfl rfl rfl S H Fzer24 fun b3 a w S H => ?_)
    refine wl_of (op_storea (wn rfl) rfl rfl S H rfl rfl (encT_one (t := cutT t k) (H.sl1 (subV t.cv 0 k 2))) Fsiz24 rfl (cs' := [_, _, _, _, _]) rfl fun a w S H => ?_)
    refine gnt ?_
    have S := ((S.nil.cons S 2 rfl).cons S 11 rfl).cons S 3 rfl
    refine g_region ?_
    refine wl_of (op_alloc (wn rfl) rfl rfl rfl S H Fzer32 fun b4 a w S H => ?_)
    refine wl_of (op_storea (wn rfl) rfl rfl S H rfl rfl (encX_one (w := w) (H.sl1 t.chain[k].sv)) Fsiz32 rfl (cs' := [_, _]) rfl fun a w S H => ?_)
    refine gnt ?_
    refine r_begin hrec H (fun w H => ?_)
    refine g_block ?_
    refine g_seq ?_
    refine region_st (loud := []) (tails := []) (free := []) [0, 1, 2, 3, 4, 5, 6, 7, 8, 9, 10, 11, 12, 13, 14, 15] [] Fmo (by kernel_rfl) (by kernel_rfl) rfl H ?_
    refine m_w rfl rfl (wn rfl) rfl rfl S (fun w H => y_load0 rfl S H rfl (by exact Fagg24)) fun a S => ?_
    refine m_w rfl rfl (wn rfl) rfl rfl S (fun w H => y_faddrb rfl Ffo32_0 S rfl) fun a S => ?_
    refine m_w rfl rfl (wn rfl) rfl rfl S (fun w H => y_load rfl Fsca9 S H rfl rfl) fun a S => ?_
    refine m_c rfl rfl (wn rfl) rfl rfl S (fun w => co_func rfl Tryd.call12 S rfl) (fun w H => (by have h := used_spec (cutT t k) t.chain[k].to w ((H.tok t).cut k); unfold encT at h; exact h)) fun a S => ?_
    refine m_w rfl rfl (wn rfl) rfl rfl S (fun w H => y_move rfl S rfl) fun a S => ?_
    refine' m_orq [5, 6, 7, 8, 9, 10, 11, 12, 13, 14] 16 S rfl rfl rfl rfl rfl rfl rfl rfl rfl (fun _ S => (wn rfl)) (fun h2 kk => ?yh2) (fun a S => ?_)
    case yh2 =>
     have h2p := h2; try simp only [DL] at h2p
     refine m_w rfl rfl (wg' 16 rfl rfl S rfl h2 rfl) rfl rfl S (fun w H => y_load0 rfl S H rfl (by exact Fagg24)) fun a S => ?_
     refine m_c rfl rfl (wg' 16 rfl rfl S rfl h2 rfl) rfl rfl S (fun w => co_func rfl Tryd.call14 S rfl) (fun w H => owner_spec (cutT t k) _ ((H.tok t).cut k)) fun a S => ?_
     refine m_w rfl rfl (wg' 16 rfl rfl S rfl h2 rfl) rfl rfl S (fun w H => y_load0 rfl S H rfl (by exact Fagg24)) fun a S => ?_
     refine m_w rfl rfl (wg' 16 rfl rfl S rfl h2 rfl) rfl rfl S (fun w H => y_faddrb rfl Ffo32_0 S rfl) fun a S => ?_
     refine m_w rfl rfl (wg' 16 rfl rfl S rfl h2 rfl) rfl rfl S (fun w H => y_load rfl Fsca9 S H rfl rfl) fun a S => ?_
     refine m_c rfl rfl (wg' 16 rfl rfl S rfl h2 rfl) rfl rfl S (fun w => co_func rfl Tryd.call15 S rfl) (fun w H => (by have h := message_spec (cutT t k) t.chain[k].to w ((H.tok t).cut k) (hz.cut k) hxk.1 H.tabs; unfold encT at h; exact h)) fun a S => ?_
     refine m_w rfl rfl (wg' 16 rfl rfl S rfl h2 rfl) rfl rfl S (fun w H => y_faddrb rfl Ffo32_1 S rfl) fun a S => ?_
     refine m_w rfl rfl (wg' 16 rfl rfl S rfl h2 rfl) rfl rfl S (fun w H => y_load rfl Fsca30 S H rfl rfl) fun a S => ?_
     refine m_c rfl rfl (wg' 16 rfl rfl S rfl h2 rfl) rfl rfl S (fun w => co_func rfl Tryd.call13 S rfl) (fun w H => verify_spec (ownerS (cutT t k)) (msgS (cutT t k) t.chain[k].to) t.chain[k].sv t.chain[k].sig _ H.tabs (by rw [show msgS (cutT t k) t.chain[k].to = listS _ from rfl, listS_size]; decide) hxk.2.2 (H.sl t.chain[k].sv)) fun a S => ?_
     refine m_w rfl rfl (wg' 16 rfl rfl S rfl h2 rfl) rfl rfl S (fun w H => y_not rfl S rfl) fun a S => ?_
     refine m_w rfl rfl (wn rfl) rfl rfl S (fun w H => y_or' rfl h2 S rfl rfl) fun a S => ?_
     exact kk _ (S.join 11 27 rfl rfl)
    refine m_nil (fun w H => ?_)
    refine n_then ?_
    have S := (S.nil.cons S 2 rfl).cons S 27 rfl
    refine c_if S rfl (fun h3 => ?_) (fun h3 => ?_)
    ·have h3p := h3; try simp only [DL] at h3p
     have hst : stepB t k = false := by rw [stepB_at hk]; have h := h3; generalize usedB (cutT t k) t.chain[k].to = b1 at h ⊢; generalize verB (ownerS (cutT t k)) (msgS (cutT t k) t.chain[k].to) t.chain[k].sig = b2 at h ⊢; cases b1 <;> cases b2 <;> simp_all
     refine gsr ?_
     refine wl_of (op_store (wn rfl) rfl rfl S H rfl rfl rfl Fsiz4 rfl fun a w S H => ?_)
     dsimp only [List.set, Nat.zero_add, Nat.reduceAdd] at H
     refine gnt ?_
     refine g_ret ?_
     refine r_block (r_ret H (fun w H => ?_))
     exact ⟨false, rfl, (), by have h := (H.laid (p := ∃ i, i < t.chain.length ∧ stepB t i = false) ⟨k, hk, hst⟩).take [Atom.ro (Cel c1 24 (encT t)), Sl t.cv 2 encX t.chain, CapA t.cv, XRows t.chain, Blk lb (.loop { R with state := .done, pending := some .ret }), DefsA [R.defers], Cel b2 4 [.bool false], PureA (∃ i, i < t.chain.length ∧ stepB t i = false)]; exact h⟩
    ·have h3p := h3; try simp only [DL] at h3p
     have hst : stepB t k = true := by rw [stepB_at hk]; have h := h3; generalize usedB (cutT t k) t.chain[k].to = b1 at h ⊢; generalize verB (ownerS (cutT t k)) (msgS (cutT t k) t.chain[k].to) t.chain[k].sig = b2 at h ⊢; cases b1 <;> cases b2 <;> simp_all
     refine g_skip ?_
     refine n_block ?_
     refine r_end hrec H (fun w H => ?_)
     exact ⟨true, rfl, (), by have h := (H.laid (p := ∀ i, i < k + 1 → stepB t i = true) (fun i hi => by by_cases hik : i < k; exact (H.take [PureA (∀ i, i < k → stepB t i = true)]).fact i hik; (obtain rfl : i = k := by omega); exact hst)).take [Atom.ro (Cel c1 24 (encT t)), Sl t.cv 2 encX t.chain, CapA t.cv, XRows t.chain, Blk lb (.loop R), DefsA [R.defers], Cel b2 4 [.bool false], Cel b1 24 (encT t), TabsA, PureA (∀ i, i < k + 1 → stepB t i = true)]; exact h⟩
   ·rintro _ w2 (⟨_, H2⟩ | ⟨_, H2⟩)
    · have hf := (H2.take [PureA (∀ i, i < t.chain.length → stepB t i = true)]).fact
      exact ⟨.ready, none, _, by simp, ⟨rfl, .inl ⟨rfl, hf⟩⟩, by rw [hrec.same]; exact H2.take [Blk lb (.loop R), DefsA [R.defers], Cel b2 4 [.bool false]]⟩
    · have hf := (H2.take [PureA (∃ i, i < t.chain.length ∧ stepB t i = false)]).fact
      exact ⟨.done, some .ret, _, by simp, ⟨rfl, .inr ⟨rfl, hf⟩⟩, H2.take [Blk lb (.loop { R with state := .done, pending := some .ret }), DefsA [R.defers], Cel b2 4 [.bool false]]⟩
  ·intro bd a w pend l2 S H hΦ
   obtain ⟨rfl, hΦ⟩ := hΦ
   rcases hΦ with ⟨rfl, hall⟩ | ⟨rfl, hbad⟩
   rotate_left
   ·skip
    refine g_ret ?_
    refine r_block (r_then (retcsM rfl S (H.front (DefsA [bd])) rfl Fsca4 rfl (fun w H => ?_)))
    obtain ⟨i, hi, hb⟩ := hbad
    exact ⟨congrArg Value.bool (by unfold validB; rw [show (List.range t.chain.length).all (stepB t) = false from List.all_eq_false.2 ⟨i, List.mem_range.2 hi, by rw [hb]; simp⟩, Bool.and_false]), H.toExt⟩
   refine n_block ?_
   refine n_then ?_
   refine gsr ?_
   refine wl_of (op_store (wn rfl) rfl rfl S H rfl rfl rfl Fsiz4 rfl fun a w S H => ?_)
   dsimp only [List.set, Nat.zero_add, Nat.reduceAdd] at H
   refine gnt ?_
   refine g_ret ?_
   refine retcsM rfl S (H.front (DefsA [bd])) rfl Fsca4 rfl (fun w H => ?_)
   exact ⟨congrArg Value.bool (by unfold validB; rw [hff, show (List.range t.chain.length).all (stepB t) = true from List.all_eq_true.2 fun i hi => hall i (List.mem_range.1 hi)]; rfl), H.toExt⟩
end Go.Proofs.YtngocpdmlijnfaaDoor
