/- Parts of the proof, joined: the program logic, the plain theory, the walks, as they are named inside. No condition. -/
import Derived.Test.YtienaifmlhcijaaGreatDoorChecked
import Derived.Test.YtienaifmlhcijaaGreatDoorM2
import Derived.Test.YtienaifmlhcijaaGreatDoorM3
section
namespace Go.Proofs.YtienaifmlhcijaaGreatDoor
open Go Go.Gw
set_option linter.unusedVariables false
set_option linter.unusedSimpArgs false
/-- foyer/title.steps -/
theorem steps_spec (t : TV) (w0 : World) :
    Ret Tryz.prog 76 #[.agg (encT t).toArray] w0 (fun u w => ∃ c1, u = .func (.func 116) #[] #[.pointer (some ⟨c1, 0, none⟩)] ∧ HSat No w0 [Cel c1 35 (encT t)] w) := by
 refine ret_of_wp (nt := 4) Tryz.func76 rfl rfl rfl (fl := [(0, .agg (encT t).toArray)]) rfl (fun a S => ?_)
 have H := HSat.start w0
 refine gsr ?_
 refine wl_of (op_boxa (wn rfl) rfl rfl rfl S H rfl fun b1 a w S H => ?_)
 refine ga S fun a S => ?_
 refine gnt ?_
 refine gsr ?_
 refine gy rfl rfl rfl S (y_makeFunc rfl S rfl rfl) fun a S => ?_
 refine ga S fun a S => ?_
 refine gnt ?_
 have S := S.nil.cons S 2 rfl
 refine g_ret ?_
 refine ret1 rfl S rfl ?_
 exact ⟨_, rfl, H⟩
set_option maxHeartbeats 1000000 in
/-- foyer/title.steps$1 -/
theorem steps_iter {M : Nat → Prop} {u0 : World} {Z : Type} (L : Nat → Z → List Atom) (LS : Z → List Atom) (lb c1 : Nat) (t : TV) (w0 : World)
    (hround : ∀ k (h : k < t.chain.length) z w, HSat M u0 (Atom.ro (Cel c1 35 (encT t)) :: Sl t.cv 2 encX t.chain :: CapA t.cv :: XRows t.chain :: L k z) w → YieldRet Tryz.prog lb #[.agg (encT (cutT t k)).toArray, .agg (encX t.chain[k]).toArray] w (fun u w' => ∃ b, u = .bool b ∧ ∃ z, HSat M u0 (Atom.ro (Cel c1 35 (encT t)) :: Sl t.cv 2 encX t.chain :: CapA t.cv :: XRows t.chain :: cond b (L (k + 1) z) (LS z)) w')) (h0 : ∃ z, HSat M u0 (Atom.ro (Cel c1 35 (encT t)) :: Sl t.cv 2 encX t.chain :: CapA t.cv :: XRows t.chain :: L 0 z) w0) :
    Ret Tryz.prog 116 #[.func (.yield lb) #[] #[], .pointer (some ⟨c1, 0, none⟩)] w0 (fun u w => (∃ z, HSat M u0 (Atom.ro (Cel c1 35 (encT t)) :: Sl t.cv 2 encX t.chain :: CapA t.cv :: XRows t.chain :: L t.chain.length z) w) ∨ (∃ z, HSat M u0 (Atom.ro (Cel c1 35 (encT t)) :: Sl t.cv 2 encX t.chain :: CapA t.cv :: XRows t.chain :: LS z) w)) := by
 refine ret_of_wp (nt := 26) Tryz.func116 rfl rfl rfl (fl := [(0, .func (.yield lb) #[] #[]), (1, .pointer (some ⟨c1, 0, none⟩))]) rfl (fun a S => ?_)
 obtain ⟨z0, H⟩ := h0
 have hlen := (H.sl t.cv (xs := t.chain)).len
 refine gsr ?_
 refine gy rfl rfl rfl S (y_faddrb rfl Ffo35_4 S rfl) fun a S => ?_
 refine gy rfl rfl rfl S (y_load rfl Fsca33 S H rfl rfl) fun a S => ?_
 refine gy rfl rfl rfl S (y_lens rfl Tryz.underlying33 S H rfl) fun a S => ?_
 refine gm S fun a S => ?_
 refine gnt ?_
 refine g_block ?_
 have SU := (((S.nil.cons S 1 rfl).cons S 0 rfl).cons S 7 rfl).cons S 8 rfl
 refine loopW (X := Nat) SU (fun k => [(9, .int .i64 (k : Int))]) (fun k w => k ≤ t.chain.length ∧ ∃ z, HSat M u0 (Atom.ro (Cel c1 35 (encT t)) :: Sl t.cv 2 encX t.chain :: CapA t.cv :: XRows t.chain :: L k z) w) (fun k => t.chain.length - k) 0 (S.nil.cons S 9 rfl) (⟨by omega, z0, H⟩) (fun k a w S hW => ?_)
 simp only [List.cons_append, List.nil_append] at S
 obtain ⟨hk, z, H⟩ := hW
 refine gsr ?_
 refine gy rfl rfl rfl S (y_bin rfl S rfl rfl rfl) fun a S => ?_
 refine gnt ?_
 refine g_seq ?_
 refine c_if S rfl (fun h1 => ?_) (fun h1 => ?_)
 ·have h1p := h1; try simp only [DL] at h1p
  have hkl : k < t.chain.length := by omega
  refine g_skip ?_
  refine n_then ?_
  refine g_seq ?_
  refine g_block ?_
  refine gsr ?_
  refine gm S fun a S => ?_
  refine gy rfl rfl rfl S (y_iaddrn rfl Tryz.underlying33 Fsiz147 S H rfl rfl (by first | assumption | omega | (simp only [LL]; omega))) fun a S => ?_
  refine gy rfl rfl rfl S (y_loadsa _ rfl S H rfl (by exact Fagg147) (by first | assumption | omega | (simp only [LL]; omega))) fun a S => ?_
  refine wl_of (op_alloc (wn rfl) rfl rfl rfl S H Fzer147 fun b4 a w S H => ?_)
  refine ga S fun a S => ?_
  refine wl_of (op_storea (wn rfl) rfl rfl S H rfl rfl (encX_one (w := w) (H.sl1 t.chain[k].sv)) Fsiz147 rfl (cs' := [_, _]) rfl fun a w S H => ?_)
  refine gnt ?_
  have S := ((((((S.nil.cons S 1 rfl).cons S 0 rfl).cons S 7 rfl).cons S 8 rfl).cons S 9 rfl).cons S 4 rfl).cons S 3 rfl
  refine gsr ?_
  refine gy rfl rfl rfl S (y_load0 rfl S H rfl (by exact Fagg35)) fun a S => ?_
  refine wl_of (op_alloc (wn rfl) rfl rfl rfl S H Fzer35 fun b5 a w S H => ?_)
  refine wl_of (op_storea (wn rfl) rfl rfl S H rfl rfl (encT_one (H.sl1 t.cv)) Fsiz35 rfl (cs' := [_, _, _, _, _]) rfl fun a w S H => ?_)
  refine gnt ?_
  refine gsr ?_
  refine gy rfl rfl rfl S (y_faddrb rfl Ffo35_4 S rfl) fun a S => ?_
  refine gy rfl rfl rfl S (y_load rfl Fsca33 S H rfl rfl) fun a S => ?_
  refine gm S fun a S => ?_
  refine gy rfl rfl rfl S (y_sliceH rfl Tryz.underlying33 Fsiz147 S H rfl rfl (by first | assumption | omega | (simp only [LL]; omega))) fun a S => ?_
  refine gy rfl rfl rfl S (y_faddrb rfl Ffo35_4 S rfl) fun a S => ?_
  refine wl_of (op_store (wn rfl) rfl rfl S H rfl rfl (H.sl1 _) Fsiz33 rfl fun a w S H => ?_)
  dsimp only [List.set, Nat.zero_add, Nat.reduceAdd] at H
  refine gnt ?_
  have S := ((((((S.nil.cons S 1 rfl).cons S 0 rfl).cons S 7 rfl).cons S 8 rfl).cons S 9 rfl).cons S 4 rfl).cons S 5 rfl
  refine gsr ?_
  refine gm S fun a S => ?_
  refine gy rfl rfl rfl S (y_load0 rfl S H rfl (by exact Fagg35)) fun a S => ?_
  refine gy rfl rfl rfl S (y_load0 rfl S H rfl (by exact Fagg147)) fun a S => ?_
  refine wl_of (op_yield (wn rfl) rfl rfl rfl S rfl rfl (hround k hkl z _ (H.drop 2)) fun u w hc a S => ?_)
  obtain ⟨b, rfl, z2, H⟩ := hc
  refine gy rfl rfl rfl S (y_not rfl S rfl) fun a S => ?_
  refine gnt ?_
  have S := (((((S.nil.cons S 1 rfl).cons S 0 rfl).cons S 7 rfl).cons S 8 rfl).cons S 9 rfl).cons S 24 rfl
  refine c_if S rfl (fun h2 => ?_) (fun h2 => ?_)
  ·have h2p := h2; try simp only [DL] at h2p
   refine g_ret ?_
   refine r_block (r_then (r_then (r_block (ret0 rfl S ?_))))
   obtain rfl : b = false := by simpa using h2
   exact .inr ⟨z2, H⟩
  ·have h2p := h2; try simp only [DL] at h2p
   refine g_skip ?_
   refine n_block ?_
   refine n_then ?_
   refine g_region ?_
   refine gy rfl rfl rfl S (y_add rfl S rfl rfl (by omega)) fun a S => ?_
   refine gm S fun a S => ?_
   refine gnt ?_
   obtain rfl : b = true := by simpa using h2
   exact ⟨k + 1, S.nil.cons S 9 rfl, (((S.nil.cons S 1 rfl).cons S 0 rfl).cons S 7 rfl).cons S 8 rfl, ⟨by omega, z2, H⟩, by omega⟩
 ·have h1p := h1; try simp only [DL] at h1p
  obtain rfl : k = t.chain.length := by omega
  refine g_exit ?_
  refine x_then (x_then (x_eq ?_))
  refine ret0n rfl S ?_
  exact .inl ⟨z, H⟩
set_option maxHeartbeats 1000000 in
/-- foyer/title.Valid -/
theorem valid_spec (t : TV) (w0 : World) (ht : TOk w0 t) (hz : TSz t) (hT : Tabs w0) :
    Ret Tryz.prog 49 #[.agg (encT t).toArray] w0 (fun u w => u = .bool (validB t) ∧ Ext w0 w) := by
 refine ret_of_wp (nt := 28) Tryz.func49 rfl rfl rfl (fl := [(0, .agg (encT t).toArray)]) rfl (fun a S => ?_)
 have H := HSat.start w0
 have H := H.ro0 (TabsA) rfl (hT)
 have H := H.ro0 (Sl t.cv 2 encX t.chain) rfl (ht.sl)
 have H := H.ro0 (CapA t.cv) rfl (ht.cap)
 have H := H.ro0 (XRows t.chain) rfl (ht.rows)
 have hlen := ht.sl.len
 refine gsr ?_
 refine wl_of (op_boxa (wn rfl) rfl rfl rfl S H rfl fun b1 a w S H => ?_)
 refine wl_of (op_alloc (wn rfl) rfl rfl rfl S H Fzer4 fun b2 a w S H => ?_)
 refine gnt ?_
 refine g_seq ?_
 refine gsr ?_
 refine gy rfl rfl rfl S (y_load0 rfl S H rfl (by exact Fagg35)) fun a S => ?_
 refine wl_of (op_call (wn rfl) rfl rfl S (co_func rfl Tryz.call75 S rfl) (formed_spec t _ (H.tok t) hz) fun v w hc a S => ?_)
 obtain ⟨rfl, he⟩ := hc
 have H := H.ext he
 refine gy rfl rfl rfl S (y_not rfl S rfl) fun a S => ?_
 refine gnt ?_
 refine c_if S rfl (fun h1 => ?_) (fun h1 => ?_)
 ·have h1p := h1; try simp only [DL] at h1p
  have hff : formedB t = false := by simpa using h1
  refine gsr ?_
  refine wl_of (op_store (wn rfl) rfl rfl S H rfl rfl rfl Fsiz4 rfl fun a w S H => ?_)
  dsimp only [List.set, Nat.zero_add, Nat.reduceAdd] at H
  refine gnt ?_
  have S := (S.nil.cons S 1 rfl).cons S 2 rfl
  refine g_ret ?_
  refine r_then (retcsM rfl S (H.defs0) rfl Fsca4 rfl (fun w H => ?_))
  exact ⟨congrArg Value.bool (by unfold validB; rw [hff]; rfl), H.toExt⟩
 ·have h1p := h1; try simp only [DL] at h1p
  have hff : formedB t = true := by simpa using h1
  refine g_skip ?_
  refine n_then ?_
  have S := (S.nil.cons S 1 rfl).cons S 2 rfl
  refine g_seq ?_
  refine gsr ?_
  refine gy rfl rfl rfl S (y_load0 rfl S H rfl (by exact Fagg35)) fun a S => ?_
  refine wl_of (op_call (wn rfl) rfl rfl S (co_func rfl Tryz.call76 S rfl) (steps_spec t _) fun v w hc a S => ?_)
  obtain ⟨c1, rfl, H1⟩ := hc
  have H := H.call1 H1 rfl
  have H := (H.freeze.laid (p := ∀ i, i < 0 → stepB t i = true) (fun i h => absurd h (by omega))).defs0
  refine gnt ?_
  refine g_block ?_
  refine g_range (Φ := fun p l2 => l2 = [Cel b2 4 [.bool false]] ∧ ((p = none ∧ ∀ i, i < t.chain.length → stepB t i = true) ∨ (p = some .ret ∧ ∃ i, i < t.chain.length ∧ stepB t i = false))) S (H.take [DefsA [], PureA (∀ i, i < 0 → stepB t i = true), Atom.ro (Cel c1 35 (encT t)), Sl t.cv 2 encX t.chain, CapA t.cv, XRows t.chain, TabsA, Cel b2 4 [.bool false], Cel b1 35 (encT t)]) rfl Tryz.call116 (fun R lb w1 hrec H1 => ?_) ?_
  ·have SR := S.recd
   refine Ret.mono (steps_iter (M := No) (u0 := w0) (Z := Unit) (fun k _ => Blk lb (.loop R) :: DefsA [R.defers] :: Cel b2 4 [.bool false] :: Cel b1 35 (encT t) :: TabsA :: PureA (∀ i, i < k → stepB t i = true) :: []) (fun _ => Blk lb (.loop { R with state := .done, pending := some .ret }) :: DefsA [R.defers] :: Cel b2 4 [.bool false] :: PureA (∃ i, i < t.chain.length ∧ stepB t i = false) :: []) lb c1 t w1 (fun k hk z w H => ?_) ⟨(), H1.take [Atom.ro (Cel c1 35 (encT t)), Sl t.cv 2 encX t.chain, CapA t.cv, XRows t.chain, Blk lb (.loop R), DefsA [R.defers], Cel b2 4 [.bool false], Cel b1 35 (encT t), TabsA, PureA (∀ i, i < 0 → stepB t i = true)]⟩) ?_
   ·have hxk := hz.x t.chain[k] (List.getElem_mem hk)
    skip
    refine yield2 hrec SR H rfl rfl (fun a S => ?_)
    refine gsr ?_
    refine wl_of (op_alloc (wn rfl) rfl rfl rfl S H Fzer35 fun b3 a w S H => ?_)
    refine wl_of (op_storea (wn rfl) rfl rfl S H rfl rfl (encT_one (t := cutT t k) (H.sl1 (subV t.cv 0 k 2))) Fsiz35 rfl (cs' := [_, _, _, _, _]) rfl fun a w S H => ?_)
    refine gnt ?_
    have S := ((S.nil.cons S 2 rfl).cons S 11 rfl).cons S 3 rfl
    refine g_region ?_
    refine wl_of (op_alloc (wn rfl) rfl rfl rfl S H Fzer147 fun b4 a w S H => ?_)
    refine wl_of (op_storea (wn rfl) rfl rfl S H rfl rfl (encX_one (w := w) (H.sl1 t.chain[k].sv)) Fsiz147 rfl (cs' := [_, _]) rfl fun a w S H => ?_)
    refine gnt ?_
    refine r_begin hrec H (fun w H => ?_)
    refine g_block ?_
    refine g_seq ?_
    refine region_st (loud := []) (tails := []) (free := []) [0, 1, 2, 3, 4, 5, 6, 7, 8, 9, 10, 11, 12, 13, 14, 15] [] Fmo (by kernel_rfl) (by kernel_rfl) rfl H ?_
    refine m_w rfl rfl (wn rfl) rfl rfl S (fun w H => y_load0 rfl S H rfl (by exact Fagg35)) fun a S => ?_
    refine m_w rfl rfl (wn rfl) rfl rfl S (fun w H => y_faddrb rfl Ffo147_0 S rfl) fun a S => ?_
    refine m_w rfl rfl (wn rfl) rfl rfl S (fun w H => y_load rfl Fsca9 S H rfl rfl) fun a S => ?_
    refine m_c rfl rfl (wn rfl) rfl rfl S (fun w => co_func rfl Tryz.call77 S rfl) (fun w H => (by have h := used_spec (cutT t k) t.chain[k].tw w ((H.tok t).cut k); unfold encT at h; exact h)) fun a S => ?_
    refine m_w rfl rfl (wn rfl) rfl rfl S (fun w H => y_move rfl S rfl) fun a S => ?_
    refine' m_orq [5, 6, 7, 8, 9, 10, 11, 12, 13, 14] 16 S rfl rfl rfl rfl rfl rfl rfl rfl rfl (fun _ S => (wn rfl)) (fun h2 kk => ?yh2) (fun a S => ?_)
    case yh2 =>
     have h2p := h2; try simp only [DL] at h2p
     refine m_w rfl rfl (wg' 16 rfl rfl S rfl h2 rfl) rfl rfl S (fun w H => y_load0 rfl S H rfl (by exact Fagg35)) fun a S => ?_
     refine m_c rfl rfl (wg' 16 rfl rfl S rfl h2 rfl) rfl rfl S (fun w => co_func rfl Tryz.call52 S rfl) (fun w H => owner_spec (cutT t k) _ ((H.tok t).cut k)) fun a S => ?_
     refine m_w rfl rfl (wg' 16 rfl rfl S rfl h2 rfl) rfl rfl S (fun w H => y_load0 rfl S H rfl (by exact Fagg35)) fun a S => ?_
     refine m_w rfl rfl (wg' 16 rfl rfl S rfl h2 rfl) rfl rfl S (fun w H => y_faddrb rfl Ffo147_0 S rfl) fun a S => ?_
     refine m_w rfl rfl (wg' 16 rfl rfl S rfl h2 rfl) rfl rfl S (fun w H => y_load rfl Fsca9 S H rfl rfl) fun a S => ?_
     refine m_c rfl rfl (wg' 16 rfl rfl S rfl h2 rfl) rfl rfl S (fun w => co_func rfl Tryz.call79 S rfl) (fun w H => (by have h := message_spec (cutT t k) t.chain[k].tw w ((H.tok t).cut k) (hz.cut k) hxk.1 H.tabs; unfold encT at h; exact h)) fun a S => ?_
     refine m_w rfl rfl (wg' 16 rfl rfl S rfl h2 rfl) rfl rfl S (fun w H => y_faddrb rfl Ffo147_1 S rfl) fun a S => ?_
     refine m_w rfl rfl (wg' 16 rfl rfl S rfl h2 rfl) rfl rfl S (fun w H => y_load rfl Fsca93 S H rfl rfl) fun a S => ?_
     refine m_c rfl rfl (wg' 16 rfl rfl S rfl h2 rfl) rfl rfl S (fun w => co_func rfl Tryz.call78 S rfl) (fun w H => verify_spec (ownerS (cutT t k)) (msgS (cutT t k) t.chain[k].tw) t.chain[k].sv t.chain[k].sig _ H.tabs (by rw [show msgS (cutT t k) t.chain[k].tw = listS _ from rfl, listS_size]; decide) hxk.2.2 (H.sl t.chain[k].sv)) fun a S => ?_
     refine m_w rfl rfl (wg' 16 rfl rfl S rfl h2 rfl) rfl rfl S (fun w H => y_not rfl S rfl) fun a S => ?_
     refine m_w rfl rfl (wn rfl) rfl rfl S (fun w H => y_or' rfl h2 S rfl rfl) fun a S => ?_
     exact kk _ (S.join 11 27 rfl rfl)
    refine m_nil (fun w H => ?_)
    refine n_then ?_
    have S := (S.nil.cons S 2 rfl).cons S 27 rfl
    refine c_if S rfl (fun h3 => ?_) (fun h3 => ?_)
    ·have h3p := h3; try simp only [DL] at h3p
     have hst : stepB t k = false := by rw [stepB_at hk]; have h := h3; generalize usedB (cutT t k) t.chain[k].tw = b1 at h ⊢; generalize verB (ownerS (cutT t k)) (msgS (cutT t k) t.chain[k].tw) t.chain[k].sig = b2 at h ⊢; cases b1 <;> cases b2 <;> simp_all
     refine gsr ?_
     refine wl_of (op_store (wn rfl) rfl rfl S H rfl rfl rfl Fsiz4 rfl fun a w S H => ?_)
     dsimp only [List.set, Nat.zero_add, Nat.reduceAdd] at H
     refine gnt ?_
     refine g_ret ?_
     refine r_block (r_ret H (fun w H => ?_))
     exact ⟨false, rfl, (), by have h := (H.laid (p := ∃ i, i < t.chain.length ∧ stepB t i = false) ⟨k, hk, hst⟩).take [Atom.ro (Cel c1 35 (encT t)), Sl t.cv 2 encX t.chain, CapA t.cv, XRows t.chain, Blk lb (.loop { R with state := .done, pending := some .ret }), DefsA [R.defers], Cel b2 4 [.bool false], PureA (∃ i, i < t.chain.length ∧ stepB t i = false)]; exact h⟩
    ·have h3p := h3; try simp only [DL] at h3p
     have hst : stepB t k = true := by rw [stepB_at hk]; have h := h3; generalize usedB (cutT t k) t.chain[k].tw = b1 at h ⊢; generalize verB (ownerS (cutT t k)) (msgS (cutT t k) t.chain[k].tw) t.chain[k].sig = b2 at h ⊢; cases b1 <;> cases b2 <;> simp_all
     refine g_skip ?_
     refine n_block ?_
     refine r_end hrec H (fun w H => ?_)
     exact ⟨true, rfl, (), by have h := (H.laid (p := ∀ i, i < k + 1 → stepB t i = true) (fun i hi => by by_cases hik : i < k; exact (H.take [PureA (∀ i, i < k → stepB t i = true)]).fact i hik; (obtain rfl : i = k := by omega); exact hst)).take [Atom.ro (Cel c1 35 (encT t)), Sl t.cv 2 encX t.chain, CapA t.cv, XRows t.chain, Blk lb (.loop R), DefsA [R.defers], Cel b2 4 [.bool false], Cel b1 35 (encT t), TabsA, PureA (∀ i, i < k + 1 → stepB t i = true)]; exact h⟩
   ·rintro _ w2 (⟨_, H2⟩ | ⟨_, H2⟩)
    · have hf := (H2.take [PureA (∀ i, i < t.chain.length → stepB t i = true)]).fact
      exact ⟨.ready, none, _, by simp, ⟨rfl, .inl ⟨rfl, hf⟩⟩, by rw [hrec.same]; exact H2.take [Blk lb (.loop R), DefsA [R.defers], Cel b2 4 [.bool false]]⟩
    · have hf := (H2.take [PureA (∃ i, i < t.chain.length ∧ stepB t i = false)]).fact
      exact ⟨.done, some .ret, _, by simp, ⟨rfl, .inr ⟨rfl, hf⟩⟩, H2.take [Blk lb (.loop { R with state := .done, pending := some .ret }), DefsA [R.defers], Cel b2 4 [.bool false]]⟩
  ·intro bd a w pend l2 S H hΦ
   obtain ⟨rfl, hΦ⟩ := hΦ
   rcases hΦ with ⟨rfl, hall⟩ | ⟨rfl, hbad⟩
   rotate_left
   ·skip
    refine g_ret ?_
    refine r_block (r_then (retcsM rfl S (H.front (DefsA [bd])) rfl Fsca4 rfl (fun w H => ?_)))
    obtain ⟨i, hi, hb⟩ := hbad
    exact ⟨congrArg Value.bool (by unfold validB; rw [show (List.range t.chain.length).all (stepB t) = false from List.all_eq_false.2 ⟨i, List.mem_range.2 hi, by rw [hb]; simp⟩, Bool.and_false]), H.toExt⟩
   refine n_block ?_
   refine n_then ?_
   refine gsr ?_
   refine wl_of (op_store (wn rfl) rfl rfl S H rfl rfl rfl Fsiz4 rfl fun a w S H => ?_)
   dsimp only [List.set, Nat.zero_add, Nat.reduceAdd] at H
   refine gnt ?_
   refine g_ret ?_
   refine retcsM rfl S (H.front (DefsA [bd])) rfl Fsca4 rfl (fun w H => ?_)
   exact ⟨congrArg Value.bool (by unfold validB; rw [hff, show (List.range t.chain.length).all (stepB t) = true from List.all_eq_true.2 fun i hi => hall i (List.mem_range.1 hi)]; rfl), H.toExt⟩
end Go.Proofs.YtienaifmlhcijaaGreatDoor
end
section
namespace Go.Proofs.YtienaifmlhcijaaGreatDoor
open Go Go.Gw
set_option linter.unusedVariables false
set_option linter.unusedSimpArgs false
theorem lower_spec (c : Nat) (h : 97 ≤ c ∧ c ≤ 102) (w : World) : Ret Tryz.prog 181 #[.int .u8 (c : Int)] w (fun u w' => u = .int .u8 (c : Int) ∧ Ext w w') := by
  refine Calls.mono (Tryz.internal_strconv_lower c w) fun e w' ⟨h1, h2⟩ => ⟨_, h1, ?_, h2 ▸ Ext.refl w⟩
  have hc : c = 97 ∨ c = 98 ∨ c = 99 ∨ c = 100 ∨ c = 101 ∨ c = 102 := by omega
  rcases hc with rfl | rfl | rfl | rfl | rfl | rfl <;> rfl
section
variable {P : Program} {o : Oper} {n : Sz} {fl : Slots} {a : Act} {w : World}
theorem y_shlX {T U : TypeId} {x y : Operand} {k2 : IntKind} {m q : Nat} {r : Int} (ho : o.op = .binOp .shl T x y U) (S : St n fl a) (hx : ev fl x = some (.int .u64 (m : Int))) (hy : ev fl y = some (.int k2 (q : Int))) (hq : q ≤ 64) (hr : IntKind.u64.wrap ((m : Int) * 2 ^ q) = r) : Yld P o a w (.int .u64 r) := by
  unfold Yld execOp; rw [ho]; simp only [S.ev hx, S.ev hy]
  have e : min (q : Int).toNat IntKind.u64.bits = q := by
    show min (q : Int).toNat 64 = q
    omega
  simp [eqGuard, binOp, Op.shift, e, hr]
/-- sums, differences, products whose value is known -/
theorem y_binW {op : BinOp} {T U : TypeId} {x y : Operand} {k : IntKind} {m q r : Int} (ho : o.op = .binOp op T x y U) (S : St n fl a) (hx : ev fl x = some (.int k m)) (hy : ev fl y = some (.int k q)) (hv : intOp op k m q = some (.int k r)) : Yld P o a w (.int k r) := y_bin ho S hx hy hv
end
theorem wr8 {m q : Int} {r : Int} (h : m - q = r) (h2 : 0 ≤ r ∧ r < 256) : intOp .sub .u8 m q = some (.int .u8 r) := by
  show some (Value.int .u8 (IntKind.u8.wrap (m - q))) = _
  rw [h]; congr 2
  simp [IntKind.wrap, IntKind.bits, IntKind.signed]; omega
theorem wr8a {m q : Int} {r : Int} (h : m + q = r) (h2 : 0 ≤ r ∧ r < 256) : intOp .add .u8 m q = some (.int .u8 r) := by
  show some (Value.int .u8 (IntKind.u8.wrap (m + q))) = _
  rw [h]; congr 2
  simp [IntKind.wrap, IntKind.bits, IntKind.signed]; omega
theorem wr64m {m q : Int} {r : Int} (h : m * q = r) (h2 : 0 ≤ r ∧ r < 18446744073709551616) : intOp .mul .u64 m q = some (.int .u64 r) := by
  show some (Value.int .u64 (IntKind.u64.wrap (m * q))) = _
  rw [h]; congr 2
  simp [IntKind.wrap, IntKind.bits, IntKind.signed]; omega
theorem wr64a {m q : Int} {r : Int} (h : m + q = r) (h2 : 0 ≤ r ∧ r < 18446744073709551616) : intOp .add .u64 m q = some (.int .u64 r) := by
  show some (Value.int .u64 (IntKind.u64.wrap (m + q))) = _
  rw [h]; congr 2
  simp [IntKind.wrap, IntKind.bits, IntKind.signed]; omega
set_option maxHeartbeats 2000000 in
/-- internal/strconv.ParseUint -/
theorem puint_spec (t : ByteArray) (w0 : World) (hs : 0 < t.size ∧ t.size ≤ 15) (hh : ∀ c ∈ t.data.toList, hexB c) :
    Ret Tryz.prog 165 #[.string t, .int .i64 16, .int .i64 64] w0 (fun u w => u = .tuple #[.int .u64 ((hexN t.data.toList : Nat) : Int), .nilIface] ∧ Ext w0 w) := by
 refine ret_of_wp (nt := 172) Tryz.func165 rfl rfl rfl (fl := [(0, .string t), (1, .int .i64 16), (2, .int .i64 64)]) rfl (fun a S => ?_)
 have H := HSat.start w0
 have hlt : t.data.toList.length = t.size := Array.length_toList
 refine gsr ?_
 refine ga S fun a S => ?_
 refine ga S fun a S => ?_
 refine gnt ?_
 refine g_seq ?_
 refine gsr ?_
 refine gm S fun a S => ?_
 refine gy rfl rfl rfl S (y_eqs rfl Tryz.underlying9 S rfl rfl) fun a S => ?_
 refine gnt ?_
 refine c_if S rfl (fun h1 => ?_) (fun h1 => ?_)
 ·have h1p := h1; try simp only [DL] at h1p
  all_goals (
    exfalso
    have h := h1p
    rw [h] at hs
    exact absurd hs.1 (by decide))
 ·have h1p := h1; try simp only [DL] at h1p
  refine g_skip ?_
  refine n_then ?_
  refine gsr ?_
  refine gm S fun a S => ?_
  refine gy rfl rfl rfl S (y_bin rfl S rfl rfl rfl) fun a S => ?_
  refine ga S fun a S => ?_
  refine gnt ?_
  have S := (((((S.nil.cons S 2 rfl).cons S 1 rfl).cons S 0 rfl).cons S 6 rfl).cons S 7 rfl).cons S 8 rfl
  refine gsr ?_
  refine gm S fun a S => ?_
  refine ga S fun a S => ?_
  refine gnt ?_
  refine g_seq ?_
  refine g_block ?_
  refine gsr ?_
  refine gm S fun a S => ?_
  refine gy rfl rfl rfl S (y_bin rfl S rfl rfl rfl) fun a S => ?_
  refine gm S fun a S => ?_
  refine gz 28 rfl S rfl rfl rfl rfl rfl rfl (y_move rfl S rfl) fun a S => ?_
  refine gz 28 rfl S rfl rfl rfl rfl rfl rfl (y_bin rfl S rfl rfl rfl) fun a S => ?_
  refine gy rfl rfl rfl S (y_and' rfl rfl S rfl rfl) fun a S => ?_
  refine ga S fun a S => ?_
  refine gnt ?_
  have S := (((((((S.nil.cons S 2 rfl).cons S 1 rfl).cons S 0 rfl).cons S 6 rfl).cons S 7 rfl).cons S 8 rfl).cons S 9 rfl).cons S 25 rfl
  refine c_if S rfl (fun h3 => ?_) (fun h3 => ?_)
  ·have h3p := h3; try simp only [DL] at h3p
   refine g_skip ?_
   refine n_block ?_
   refine n_then ?_
   refine g_seq ?_
   refine gsr ?_
   refine gm S fun a S => ?_
   refine gy rfl rfl rfl S (y_bin rfl S rfl rfl rfl) fun a S => ?_
   refine gnt ?_
   refine c_if S rfl (fun h4 => ?_) (fun h4 => ?_)
   ·have h4p := h4; try simp only [DL] at h4p
    all_goals (
      exact absurd h4 (by simp))
   ·have h4p := h4; try simp only [DL] at h4p
    refine gsr ?_
    refine gm S fun a S => ?_
    refine gy rfl rfl rfl S (y_bin rfl S rfl rfl rfl) fun a S => ?_
    refine gm S fun a S => ?_
    refine gz 80 rfl S rfl rfl rfl rfl rfl rfl (y_move rfl S rfl) fun a S => ?_
    refine gz 80 rfl S rfl rfl rfl rfl rfl rfl (y_bin rfl S rfl rfl rfl) fun a S => ?_
    refine gy rfl rfl rfl S (y_or' rfl rfl S rfl rfl) fun a S => ?_
    refine gnt ?_
    have S := (((((((S.nil.cons S 2 rfl).cons S 1 rfl).cons S 0 rfl).cons S 6 rfl).cons S 7 rfl).cons S 8 rfl).cons S 9 rfl).cons S 83 rfl
    refine c_if S rfl (fun h6 => ?_) (fun h6 => ?_)
    ·have h6p := h6; try simp only [DL] at h6p
     all_goals (
       exact absurd h6 (by simp))
    ·have h6p := h6; try simp only [DL] at h6p
     refine g_skip ?_
     refine n_then ?_
     refine gsr ?_
     refine ga S fun a S => ?_
     refine gnt ?_
     refine g_seq ?_
     refine gsr ?_
     refine gm S fun a S => ?_
     refine gnt ?_
     refine g_block ?_
     refine gsr ?_
     refine gy rfl rfl rfl S (y_bin rfl S rfl rfl rfl) fun a S => ?_
     refine ga S fun a S => ?_
     refine gnt ?_
     refine c_if S rfl (fun h7 => ?_) (fun h7 => ?_)
     ·have h7p := h7; try simp only [DL] at h7p
      all_goals (
        exact absurd h7 (by simp))
     ·have h7p := h7; try simp only [DL] at h7p
      refine gsr ?_
      refine gy rfl rfl rfl S (y_bin rfl S rfl rfl rfl) fun a S => ?_
      refine ga S fun a S => ?_
      refine gnt ?_
      have S := ((((((((S.nil.cons S 2 rfl).cons S 1 rfl).cons S 0 rfl).cons S 6 rfl).cons S 7 rfl).cons S 8 rfl).cons S 9 rfl).cons S 10 rfl).cons S 92 rfl
      refine c_if S rfl (fun h8 => ?_) (fun h8 => ?_)
      ·have h8p := h8; try simp only [DL] at h8p
       refine g_region ?_
       refine ga S fun a S => ?_
       refine gl_nil ?_
       refine n_block ?_
       refine n_then ?_
       refine gsr ?_
       refine gm S fun a S => ?_
       refine gy rfl rfl rfl S (y_convg (r := 64) rfl Tryz.underlying3 Tryz.underlying116 S rfl (by rfl)) fun a S => ?_
       refine gy rfl rfl rfl S ((y_shlX (m := 1) (q := 64) (r := 0) rfl S rfl rfl (by decide) rfl)) fun a S => ?_
       refine gy rfl rfl rfl S ((y_binW (r := 18446744073709551615) rfl S rfl rfl rfl)) fun a S => ?_
       refine ga S fun a S => ?_
       refine gnt ?_
       have S := (((((((S.nil.cons S 1 rfl).cons S 0 rfl).cons S 6 rfl).cons S 7 rfl).cons S 8 rfl).cons S 9 rfl).cons S 10 rfl).cons S 11 rfl
       refine gsr ?_
       refine ga S fun a S => ?_
       refine gnt ?_
       refine gsr ?_
       refine ga S fun a S => ?_
       refine gnt ?_
       refine g_seq ?_
       refine gsr ?_
       refine gm S fun a S => ?_
       refine wl_of (op_strBytes (wn rfl) rfl rfl rfl Tryz.underlying9 Tryz.underlying126 Tryz.underlying5 S H rfl (by omega) fun v99 a w S H => ?_)
       refine gy rfl rfl rfl S (y_lens rfl Tryz.underlying126 S H rfl) fun a S => ?_
       refine gm S fun a S => ?_
       refine gnt ?_
       refine g_block ?_
       have SU := ((((((S.nil.cons S 1 rfl).cons S 8 rfl).cons S 9 rfl).cons S 10 rfl).cons S 11 rfl).cons S 99 rfl).cons S 100 rfl
       refine loop_k (X := Nat) SU (fun k => [(12, .bool false), (13, .int .u64 ((hexN (t.data.toList.take k) : Nat) : Int)), (101, .int .i64 (k : Int))]) (fun k => k ≤ t.data.toList.length) (fun k => t.data.toList.length - k) 0 (((S.nil.cons S 101 rfl).cons S 13 rfl).cons S 12 rfl) H (by omega) (fun k a w S H hi => ?_)
       simp only [List.cons_append, List.nil_append] at S hi
       refine gsr ?_
       refine gy rfl rfl rfl S (y_bin rfl S rfl rfl rfl) fun a S => ?_
       refine gnt ?_
       refine g_seq ?_
       refine c_if S rfl (fun h9 => ?_) (fun h9 => ?_)
       ·have h9p := h9; try simp only [DL] at h9p
        have hkl : k < t.data.toList.length := by omega
        have hck := hh _ (List.getElem_mem hkl)
        have hdk := digB_lt hck
        have hdd : digB t.data.toList[k] = if (t.data.toList[k]).toNat ≤ 57 then (t.data.toList[k]).toNat - 48 else (t.data.toList[k]).toNat - 87 := rfl
        have hxk : hexN (t.data.toList.take k) < 72057594037927936 := Nat.lt_of_lt_of_le (hexN_lt hh k (by omega)) (Nat.pow_le_pow_right (by decide) (show k ≤ 14 by omega))
        have hxs := hexN_take hkl
        refine g_skip ?_
        refine n_then ?_
        refine g_seq ?_
        refine g_block ?_
        refine gsr ?_
        refine gy rfl rfl rfl S (y_iaddrn rfl Tryz.underlying126 Fsiz5 S H rfl rfl (by first | assumption | omega | (simp only [LL]; omega))) fun a S => ?_
        refine gy rfl rfl rfl S (y_loads _ rfl Fsca5 S H rfl (by first | assumption | omega | (simp only [LL]; omega)) rfl) fun a S => ?_
        refine ga S fun a S => ?_
        refine gnt ?_
        refine gsr ?_
        refine ga S fun a S => ?_
        refine gnt ?_
        refine g_seq ?_
        refine g_block ?_
        refine gsr ?_
        refine gm S fun a S => ?_
        refine gy rfl rfl rfl S (y_bin rfl S rfl rfl rfl) fun a S => ?_
        refine gm S fun a S => ?_
        refine' wl_and 1 109 rfl S H rfl rfl rfl rfl rfl rfl rfl (fun _ S => (wn rfl)) (fun h10 kk => ?yh10) (fun a w S H => ?_)
        case yh10 =>
         have h10p := h10; try simp only [DL] at h10p
         refine gz 109 h10 S rfl rfl rfl rfl rfl rfl (y_move rfl S rfl) fun a S => ?_
         refine gy rfl rfl rfl S (y_and' rfl h10 S rfl rfl) fun a S => ?_
         exact kk _ _ (S.join 2 111 rfl rfl) H
        refine ga S fun a S => ?_
        refine gnt ?_
        have S := ((((((((((((S.nil.cons S 1 rfl).cons S 8 rfl).cons S 9 rfl).cons S 10 rfl).cons S 11 rfl).cons S 99 rfl).cons S 100 rfl).cons S 101 rfl).cons S 13 rfl).cons S 12 rfl).cons S 15 rfl).cons S 16 rfl).cons S 106 rfl
        refine c_if S rfl (fun h11 => ?_) (fun h11 => ?_)
        ·have h11p := h11; try simp only [DL] at h11p
         all_goals (
           exact absurd h11 (by simp))
        ·have h11p := h11; try simp only [DL] at h11p
         refine gsr ?_
         refine gm S fun a S => ?_
         refine gy rfl rfl rfl S (y_bin rfl S rfl rfl rfl) fun a S => ?_
         refine gm S fun a S => ?_
         refine' wl_and 2 115 rfl S H rfl rfl rfl rfl rfl rfl rfl (fun _ S => (wn rfl)) (fun h12 kk => ?yh12) (fun a w S H => ?_)
         case yh12 =>
          have h12p := h12; try simp only [DL] at h12p
          refine gz 115 h12 S rfl rfl rfl rfl rfl rfl (y_move rfl S rfl) fun a S => ?_
          refine gz 115 h12 S rfl rfl rfl rfl rfl rfl (y_bin rfl S rfl rfl rfl) fun a S => ?_
          refine gy rfl rfl rfl S (y_and' rfl h12 S rfl rfl) fun a S => ?_
          exact kk _ _ (S.join 3 118 rfl rfl) H
         refine ga S fun a S => ?_
         refine gnt ?_
         have S := ((((((((((((S.nil.cons S 1 rfl).cons S 8 rfl).cons S 9 rfl).cons S 10 rfl).cons S 11 rfl).cons S 99 rfl).cons S 100 rfl).cons S 101 rfl).cons S 13 rfl).cons S 12 rfl).cons S 15 rfl).cons S 16 rfl).cons S 112 rfl
         refine c_if S rfl (fun h13 => ?_) (fun h13 => ?_)
         ·have h13p := h13; try simp only [DL] at h13p
          refine g_region ?_
          refine gm S fun a S => ?_
          refine gy rfl rfl rfl S ((y_binW (r := (digB t.data.toList[k] : Int)) rfl S rfl rfl (wr8 (by have h9 := h13p; rw [if_pos (by omega)] at hdd; omega) (by omega)))) fun a S => ?_
          refine ga S fun a S => ?_
          refine gl_nil ?_
          refine n_block ?_
          refine n_then ?_
          have S := ((((((((((S.nil.cons S 1 rfl).cons S 8 rfl).cons S 9 rfl).cons S 10 rfl).cons S 11 rfl).cons S 99 rfl).cons S 100 rfl).cons S 101 rfl).cons S 13 rfl).cons S 12 rfl).cons S 16 rfl
          refine g_seq ?_
          refine gsr ?_
          refine gm S fun a S => ?_
          refine gm S fun a S => ?_
          refine gy rfl rfl rfl S (y_convg (r := 16) rfl Tryz.underlying3 Tryz.underlying5 S rfl (by rfl)) fun a S => ?_
          refine gy rfl rfl rfl S (y_bin rfl S rfl rfl rfl) fun a S => ?_
          refine gnt ?_
          refine c_if S rfl (fun h14 => ?_) (fun h14 => ?_)
          ·have h14p := h14; try simp only [DL] at h14p
           all_goals (
             exfalso
             have h := h14p
             omega)
          ·have h14p := h14; try simp only [DL] at h14p
           refine g_skip ?_
           refine n_then ?_
           have S := ((((((((((S.nil.cons S 1 rfl).cons S 8 rfl).cons S 9 rfl).cons S 10 rfl).cons S 11 rfl).cons S 99 rfl).cons S 100 rfl).cons S 101 rfl).cons S 13 rfl).cons S 12 rfl).cons S 16 rfl
           refine g_seq ?_
           refine gsr ?_
           refine gm S fun a S => ?_
           refine gm S fun a S => ?_
           refine gy rfl rfl rfl S (y_bin rfl S rfl rfl rfl) fun a S => ?_
           refine gnt ?_
           refine c_if S rfl (fun h15 => ?_) (fun h15 => ?_)
           ·have h15p := h15; try simp only [DL] at h15p
            all_goals (
              exfalso
              have h := h15p
              omega)
           ·have h15p := h15; try simp only [DL] at h15p
            refine g_skip ?_
            refine n_then ?_
            refine gsr ?_
            refine gm S fun a S => ?_
            refine gm S fun a S => ?_
            refine gy rfl rfl rfl S (y_convg (r := 16) rfl Tryz.underlying3 Tryz.underlying97 S rfl (by rfl)) fun a S => ?_
            refine gy rfl rfl rfl S ((y_binW (r := ((hexN (t.data.toList.take k) * 16 : Nat) : Int)) rfl S rfl rfl (wr64m (by omega) (by omega)))) fun a S => ?_
            refine ga S fun a S => ?_
            refine gnt ?_
            have S := ((((((((((S.nil.cons S 1 rfl).cons S 8 rfl).cons S 9 rfl).cons S 10 rfl).cons S 11 rfl).cons S 99 rfl).cons S 100 rfl).cons S 101 rfl).cons S 12 rfl).cons S 16 rfl).cons S 13 rfl
            refine gsr ?_
            refine gm S fun a S => ?_
            refine gm S fun a S => ?_
            refine gy rfl rfl rfl S (y_convg (r := (digB t.data.toList[k] : Int)) rfl Tryz.underlying5 Tryz.underlying97 S rfl (by rw [IntKind.wrap_u64]; omega)) fun a S => ?_
            refine gy rfl rfl rfl S ((y_binW (r := ((hexN (t.data.toList.take (k + 1)) : Nat) : Int)) rfl S rfl rfl (wr64a (by omega) (by omega)))) fun a S => ?_
            refine ga S fun a S => ?_
            refine gnt ?_
            have S := ((((((((((S.nil.cons S 1 rfl).cons S 8 rfl).cons S 9 rfl).cons S 10 rfl).cons S 11 rfl).cons S 99 rfl).cons S 100 rfl).cons S 101 rfl).cons S 12 rfl).cons S 13 rfl).cons S 17 rfl
            refine g_seq ?_
            refine gsr ?_
            refine gm S fun a S => ?_
            refine gm S fun a S => ?_
            refine gy rfl rfl rfl S (y_bin rfl S rfl rfl rfl) fun a S => ?_
            refine gm S fun a S => ?_
            refine' wl_or 3 155 rfl S H rfl rfl rfl rfl rfl rfl rfl (fun _ S => (wn rfl)) (fun h16 kk => ?yh16) (fun a w S H => ?_)
            case yh16 =>
             have h16p := h16; try simp only [DL] at h16p
             refine gz 155 h16 S rfl rfl rfl rfl rfl rfl (y_move rfl S rfl) fun a S => ?_
             refine gz 155 h16 S rfl rfl rfl rfl rfl rfl (y_move rfl S rfl) fun a S => ?_
             refine gz 155 h16 S rfl rfl rfl rfl rfl rfl (y_bin rfl S rfl rfl rfl) fun a S => ?_
             refine gy rfl rfl rfl S (y_or' rfl h16 S rfl rfl) fun a S => ?_
             exact kk _ _ (S.join 4 159 rfl rfl) H
            refine gnt ?_
            have S := (((((((((((S.nil.cons S 1 rfl).cons S 8 rfl).cons S 9 rfl).cons S 10 rfl).cons S 11 rfl).cons S 99 rfl).cons S 100 rfl).cons S 101 rfl).cons S 12 rfl).cons S 13 rfl).cons S 17 rfl).cons S 159 rfl
            refine c_if S rfl (fun h17 => ?_) (fun h17 => ?_)
            ·have h17p := h17; try simp only [DL] at h17p
             all_goals (
               exfalso
               have h := h17p
               omega)
            ·have h17p := h17; try simp only [DL] at h17p
             refine g_skip ?_
             refine n_then ?_
             refine g_region ?_
             refine gm S fun a S => ?_
             refine ga S fun a S => ?_
             refine gl_nil ?_
             refine n_block ?_
             refine n_then ?_
             have S := (((((((((S.nil.cons S 1 rfl).cons S 8 rfl).cons S 9 rfl).cons S 10 rfl).cons S 11 rfl).cons S 99 rfl).cons S 100 rfl).cons S 101 rfl).cons S 12 rfl).cons S 13 rfl
             refine g_region ?_
             refine gy rfl rfl rfl S (y_add rfl S rfl rfl (by omega)) fun a S => ?_
             refine gm S fun a S => ?_
             refine gnt ?_
             refine ⟨k + 1, ((S.nil.cons S 101 rfl).cons S 13 rfl).cons S 12 rfl, ((((((S.nil.cons S 1 rfl).cons S 8 rfl).cons S 9 rfl).cons S 10 rfl).cons S 11 rfl).cons S 99 rfl).cons S 100 rfl, H, ?_, ?_⟩
             · omega
             · omega
         ·have h13p := h13; try simp only [DL] at h13p
          refine gsr ?_
          refine gm S fun a S => ?_
          refine wl_of (op_call (wn rfl) rfl rfl S (co_func rfl Tryz.call181 S rfl) (lower_spec (t.data.toList[k]).toNat (by unfold hexB at hck; have h9 := h13p; omega) _) fun v w hc a S => ?_)
          obtain ⟨rfl, he⟩ := hc
          have H := H.ext he
          refine gy rfl rfl rfl S (y_bin rfl S rfl rfl rfl) fun a S => ?_
          refine gm S fun a S => ?_
          refine' wl_and 3 125 rfl S H rfl rfl rfl rfl rfl rfl rfl (fun _ S => (wn rfl)) (fun h18 kk => ?yh18) (fun a w S H => ?_)
          case yh18 =>
           have h18p := h18; try simp only [DL] at h18p
           refine gz 125 h18 S rfl rfl rfl rfl rfl rfl (y_move rfl S rfl) fun a S => ?_
           refine wl_of (op_call (wg' 125 rfl rfl S rfl h18 rfl) rfl rfl S (co_func rfl Tryz.call181 S rfl) (lower_spec (t.data.toList[k]).toNat (by unfold hexB at hck; have h9 := h13p; omega) _) fun v w hc a S => ?_)
           obtain ⟨rfl, he⟩ := hc
           have H := H.ext he
           refine gz 125 h18 S rfl rfl rfl rfl rfl rfl (y_bin rfl S rfl rfl rfl) fun a S => ?_
           refine gy rfl rfl rfl S (y_and' rfl h18 S rfl rfl) fun a S => ?_
           exact kk _ _ (S.join 4 129 rfl rfl) H
          refine ga S fun a S => ?_
          refine gnt ?_
          have S := ((((((((((((S.nil.cons S 1 rfl).cons S 8 rfl).cons S 9 rfl).cons S 10 rfl).cons S 11 rfl).cons S 99 rfl).cons S 100 rfl).cons S 101 rfl).cons S 13 rfl).cons S 12 rfl).cons S 15 rfl).cons S 16 rfl).cons S 121 rfl
          refine c_if S rfl (fun h19 => ?_) (fun h19 => ?_)
          ·have h19p := h19; try simp only [DL] at h19p
           refine g_region ?_
           refine gm S fun a S => ?_
           refine wl_of (op_call (wn rfl) rfl rfl S (co_func rfl Tryz.call181 S rfl) (lower_spec (t.data.toList[k]).toNat (by unfold hexB at hck; have h9 := h13p; omega) _) fun v w hc a S => ?_)
           obtain ⟨rfl, he⟩ := hc
           have H := H.ext he
           refine gy rfl rfl rfl S ((y_binW (r := (((t.data.toList[k]).toNat - 97 : Nat) : Int)) rfl S rfl rfl (wr8 (by unfold hexB at hck; have h9 := h13p; omega) (by omega)))) fun a S => ?_
           refine gy rfl rfl rfl S ((y_binW (r := (digB t.data.toList[k] : Int)) rfl S rfl rfl (wr8a (by unfold hexB at hck; have h9 := h13p; rw [if_neg (by omega)] at hdd; omega) (by omega)))) fun a S => ?_
           refine ga S fun a S => ?_
           refine gl_nil ?_
           refine n_block ?_
           refine n_then ?_
           have S := ((((((((((S.nil.cons S 1 rfl).cons S 8 rfl).cons S 9 rfl).cons S 10 rfl).cons S 11 rfl).cons S 99 rfl).cons S 100 rfl).cons S 101 rfl).cons S 13 rfl).cons S 12 rfl).cons S 16 rfl
           refine g_seq ?_
           refine gsr ?_
           refine gm S fun a S => ?_
           refine gm S fun a S => ?_
           refine gy rfl rfl rfl S (y_convg (r := 16) rfl Tryz.underlying3 Tryz.underlying5 S rfl (by rfl)) fun a S => ?_
           refine gy rfl rfl rfl S (y_bin rfl S rfl rfl rfl) fun a S => ?_
           refine gnt ?_
           refine c_if S rfl (fun h20 => ?_) (fun h20 => ?_)
           ·have h20p := h20; try simp only [DL] at h20p
            all_goals (
              exfalso
              have h := h20p
              omega)
           ·have h20p := h20; try simp only [DL] at h20p
            refine g_skip ?_
            refine n_then ?_
            have S := ((((((((((S.nil.cons S 1 rfl).cons S 8 rfl).cons S 9 rfl).cons S 10 rfl).cons S 11 rfl).cons S 99 rfl).cons S 100 rfl).cons S 101 rfl).cons S 13 rfl).cons S 12 rfl).cons S 16 rfl
            refine g_seq ?_
            refine gsr ?_
            refine gm S fun a S => ?_
            refine gm S fun a S => ?_
            refine gy rfl rfl rfl S (y_bin rfl S rfl rfl rfl) fun a S => ?_
            refine gnt ?_
            refine c_if S rfl (fun h21 => ?_) (fun h21 => ?_)
            ·have h21p := h21; try simp only [DL] at h21p
             all_goals (
               exfalso
               have h := h21p
               omega)
            ·have h21p := h21; try simp only [DL] at h21p
             refine g_skip ?_
             refine n_then ?_
             refine gsr ?_
             refine gm S fun a S => ?_
             refine gm S fun a S => ?_
             refine gy rfl rfl rfl S (y_convg (r := 16) rfl Tryz.underlying3 Tryz.underlying97 S rfl (by rfl)) fun a S => ?_
             refine gy rfl rfl rfl S ((y_binW (r := ((hexN (t.data.toList.take k) * 16 : Nat) : Int)) rfl S rfl rfl (wr64m (by omega) (by omega)))) fun a S => ?_
             refine ga S fun a S => ?_
             refine gnt ?_
             have S := ((((((((((S.nil.cons S 1 rfl).cons S 8 rfl).cons S 9 rfl).cons S 10 rfl).cons S 11 rfl).cons S 99 rfl).cons S 100 rfl).cons S 101 rfl).cons S 12 rfl).cons S 16 rfl).cons S 13 rfl
             refine gsr ?_
             refine gm S fun a S => ?_
             refine gm S fun a S => ?_
             refine gy rfl rfl rfl S (y_convg (r := (digB t.data.toList[k] : Int)) rfl Tryz.underlying5 Tryz.underlying97 S rfl (by rw [IntKind.wrap_u64]; omega)) fun a S => ?_
             refine gy rfl rfl rfl S ((y_binW (r := ((hexN (t.data.toList.take (k + 1)) : Nat) : Int)) rfl S rfl rfl (wr64a (by omega) (by omega)))) fun a S => ?_
             refine ga S fun a S => ?_
             refine gnt ?_
             have S := ((((((((((S.nil.cons S 1 rfl).cons S 8 rfl).cons S 9 rfl).cons S 10 rfl).cons S 11 rfl).cons S 99 rfl).cons S 100 rfl).cons S 101 rfl).cons S 12 rfl).cons S 13 rfl).cons S 17 rfl
             refine g_seq ?_
             refine gsr ?_
             refine gm S fun a S => ?_
             refine gm S fun a S => ?_
             refine gy rfl rfl rfl S (y_bin rfl S rfl rfl rfl) fun a S => ?_
             refine gm S fun a S => ?_
             refine' wl_or 3 155 rfl S H rfl rfl rfl rfl rfl rfl rfl (fun _ S => (wn rfl)) (fun h22 kk => ?yh22) (fun a w S H => ?_)
             case yh22 =>
              have h22p := h22; try simp only [DL] at h22p
              refine gz 155 h22 S rfl rfl rfl rfl rfl rfl (y_move rfl S rfl) fun a S => ?_
              refine gz 155 h22 S rfl rfl rfl rfl rfl rfl (y_move rfl S rfl) fun a S => ?_
              refine gz 155 h22 S rfl rfl rfl rfl rfl rfl (y_bin rfl S rfl rfl rfl) fun a S => ?_
              refine gy rfl rfl rfl S (y_or' rfl h22 S rfl rfl) fun a S => ?_
              exact kk _ _ (S.join 4 159 rfl rfl) H
             refine gnt ?_
             have S := (((((((((((S.nil.cons S 1 rfl).cons S 8 rfl).cons S 9 rfl).cons S 10 rfl).cons S 11 rfl).cons S 99 rfl).cons S 100 rfl).cons S 101 rfl).cons S 12 rfl).cons S 13 rfl).cons S 17 rfl).cons S 159 rfl
             refine c_if S rfl (fun h23 => ?_) (fun h23 => ?_)
             ·have h23p := h23; try simp only [DL] at h23p
              all_goals (
                exfalso
                have h := h23p
                omega)
             ·have h23p := h23; try simp only [DL] at h23p
              refine g_skip ?_
              refine n_then ?_
              refine g_region ?_
              refine gm S fun a S => ?_
              refine ga S fun a S => ?_
              refine gl_nil ?_
              refine n_block ?_
              refine n_then ?_
              have S := (((((((((S.nil.cons S 1 rfl).cons S 8 rfl).cons S 9 rfl).cons S 10 rfl).cons S 11 rfl).cons S 99 rfl).cons S 100 rfl).cons S 101 rfl).cons S 12 rfl).cons S 13 rfl
              refine g_region ?_
              refine gy rfl rfl rfl S (y_add rfl S rfl rfl (by omega)) fun a S => ?_
              refine gm S fun a S => ?_
              refine gnt ?_
              refine ⟨k + 1, ((S.nil.cons S 101 rfl).cons S 13 rfl).cons S 12 rfl, ((((((S.nil.cons S 1 rfl).cons S 8 rfl).cons S 9 rfl).cons S 10 rfl).cons S 11 rfl).cons S 99 rfl).cons S 100 rfl, H, ?_, ?_⟩
              · omega
              · omega
          ·have h19p := h19; try simp only [DL] at h19p
           all_goals (
             exfalso
             have h := h19p
             have h9 := h13p
             unfold hexB at hck
             omega)
       ·have h9p := h9; try simp only [DL] at h9p
        obtain rfl : k = t.data.toList.length := by omega
        rw [List.take_length] at S
        refine g_exit ?_
        refine x_then (x_then (x_eq ?_))
        refine n_then ?_
        have S := ((S.nil.cons S 9 rfl).cons S 13 rfl).cons S 12 rfl
        refine g_seq ?_
        refine gsr ?_
        refine gm S fun a S => ?_
        refine gm S fun a S => ?_
        refine' wl_and (B2 := false) 3 165 rfl S H rfl rfl rfl rfl rfl rfl rfl (fun _ S => (wn rfl)) (fun h24 kk => ?yh24) (fun a w S H => ?_)
        case yh24 => exact absurd h24 (by simp)
        refine gnt ?_
        have S := (S.nil.cons S 13 rfl).cons S 169 rfl
        refine c_if S rfl (fun h25 => ?_) (fun h25 => ?_)
        ·have h25p := h25; try simp only [DL] at h25p
         all_goals (
           exact absurd h25 (by simp))
        ·have h25p := h25; try simp only [DL] at h25p
         refine g_skip ?_
         refine n_then ?_
         refine gsr ?_
         refine gm S fun a S => ?_
         refine ga S fun a S => ?_
         refine ga S fun a S => ?_
         refine gnt ?_
         refine g_ret ?_
         refine ret2 rfl S rfl rfl ?_
         exact ⟨rfl, H.toExt⟩
      ·have h8p := h8; try simp only [DL] at h8p
       all_goals (
         exact absurd h8 (by simp))
  ·have h3p := h3; try simp only [DL] at h3p
   all_goals (
     exact absurd h3 (by simp))
end Go.Proofs.YtienaifmlhcijaaGreatDoor
end
section
namespace Go.Proofs.YtienaifmlhcijaaGreatDoor
open Go Go.Gw
set_option linter.unusedVariables false
set_option linter.unusedSimpArgs false
section
variable {P : Program} {o : Oper} {n : Sz} {fl : Slots} {a : Act} {w : World}
theorem eq_nils {T : TypeId} {ms : Array (String × TypeId)} (hT : P.underlying T = some (.interface ms)) (n : Nat) : (Op.equalIn (n + 1) T .nilIface .nilIface).run P w = .ok true w := by simp [Op.equalIn, run_underlying hT]
theorem y_nenil {T U : TypeId} {x : Operand} {ms : Array (String × TypeId)} (ho : o.op = .binOp .neq T x (.const .nilIface) U) (hT : P.underlying T = some (.interface ms)) (S : St n fl a) (hx : ev fl x = some .nilIface) : Yld P o a w (.bool false) := by
  have h := eq_nils (w := w) hT 9999
  unfold Yld execOp; rw [ho]; simp only [S.ev hx]
  simp [eqGuard, binOp, Op.equal, Act.eval]
  rw [show Op.maxDepth = 9999 + 1 from rfl, h]
  rfl
end
set_option maxHeartbeats 2000000 in
/-- internal/strconv.ParseInt -/
theorem pint_spec (t : ByteArray) (w0 : World) (hs : 0 < t.size ∧ t.size ≤ 15) (hh : ∀ c ∈ t.data.toList, hexB c) :
    Ret Tryz.prog 141 #[.string t, .int .i64 16, .int .i64 64] w0 (fun u w => u = .tuple #[.int .i64 ((hexN t.data.toList : Nat) : Int), .nilIface] ∧ Ext w0 w) := by
 refine ret_of_wp (nt := 73) Tryz.func141 rfl rfl rfl (fl := [(0, .string t), (1, .int .i64 16), (2, .int .i64 64)]) rfl (fun a S => ?_)
 have H := HSat.start w0
 have hxk : hexN t.data.toList < 1152921504606846976 := by
   have h := hexN_lt hh t.data.toList.length (Nat.le_refl _)
   rw [List.take_length] at h
   have hlt : t.data.toList.length = t.size := Array.length_toList
   exact Nat.lt_of_lt_of_le h (Nat.pow_le_pow_right (by decide) (show t.data.toList.length ≤ 15 by omega))
 have hc0 : ∀ h : 0 < t.size, hexB (t[0]'h) := fun h => hh _ (by rw [ByteArray.getElem_eq_getElem_data]; exact Array.getElem_mem_toList _)
 have hc0 := hc0 hs.1
 unfold hexB at hc0
 refine gsr ?_
 refine ga S fun a S => ?_
 refine ga S fun a S => ?_
 refine gnt ?_
 refine g_seq ?_
 refine gsr ?_
 refine gm S fun a S => ?_
 refine gy rfl rfl rfl S (y_eqs rfl Tryz.underlying9 S rfl rfl) fun a S => ?_
 refine gnt ?_
 refine c_if S rfl (fun h1 => ?_) (fun h1 => ?_)
 ·have h1p := h1; try simp only [DL] at h1p
  all_goals (
    exfalso
    have h := h1p
    rw [h] at hs
    exact absurd hs.1 (by decide))
 ·have h1p := h1; try simp only [DL] at h1p
  refine g_skip ?_
  refine n_then ?_
  refine gsr ?_
  refine ga S fun a S => ?_
  refine gnt ?_
  refine g_seq ?_
  refine gsr ?_
  refine gm S fun a S => ?_
  refine gy rfl rfl rfl S (y_idxstr rfl Tryz.underlying9 S rfl rfl (by first | assumption | omega | (simp only [LL]; omega))) fun a S => ?_
  refine gnt ?_
  refine g_block ?_
  refine gsr ?_
  refine gy rfl rfl rfl S (y_bin rfl S rfl rfl rfl) fun a S => ?_
  refine ga S fun a S => ?_
  refine gnt ?_
  have S := (((((((S.nil.cons S 2 rfl).cons S 1 rfl).cons S 0 rfl).cons S 6 rfl).cons S 7 rfl).cons S 8 rfl).cons S 16 rfl).cons S 17 rfl
  refine c_if S rfl (fun h2 => ?_) (fun h2 => ?_)
  ·have h2p := h2; try simp only [DL] at h2p
   all_goals (
     exfalso
     have h := h2p
     omega)
  ·have h2p := h2; try simp only [DL] at h2p
   refine gsr ?_
   refine gy rfl rfl rfl S (y_bin rfl S rfl rfl rfl) fun a S => ?_
   refine ga S fun a S => ?_
   refine gnt ?_
   refine c_if S rfl (fun h3 => ?_) (fun h3 => ?_)
   ·have h3p := h3; try simp only [DL] at h3p
    all_goals (
      exfalso
      have h := h3p
      omega)
   ·have h3p := h3; try simp only [DL] at h3p
    refine g_skip ?_
    refine n_block ?_
    refine n_then ?_
    have S := (((((S.nil.cons S 2 rfl).cons S 1 rfl).cons S 0 rfl).cons S 6 rfl).cons S 7 rfl).cons S 8 rfl
    refine gsr ?_
    refine ga S fun a S => ?_
    refine gnt ?_
    refine gsr ?_
    refine gm S fun a S => ?_
    refine gm S fun a S => ?_
    refine gm S fun a S => ?_
    refine wl_of (op_call (wn rfl) rfl rfl S (co_func rfl Tryz.call165 S rfl) (puint_spec t _ hs hh) fun v w hc a S => ?_)
    obtain ⟨rfl, he⟩ := hc
    have H := H.ext he
    refine gm S fun a S => ?_
    refine gy rfl rfl rfl S (y_extract rfl S rfl rfl) fun a S => ?_
    refine gy rfl rfl rfl S (y_extract rfl S rfl rfl) fun a S => ?_
    refine ga S fun a S => ?_
    refine ga S fun a S => ?_
    refine gnt ?_
    have S := ((((S.nil.cons S 2 rfl).cons S 6 rfl).cons S 8 rfl).cons S 9 rfl).cons S 7 rfl
    refine g_seq ?_
    refine gsr ?_
    refine gm S fun a S => ?_
    refine gy rfl rfl rfl S ((y_nenil rfl Tryz.underlying130 S rfl)) fun a S => ?_
    refine gm S fun a S => ?_
    refine' wl_and (B2 := false) 3 34 rfl S H rfl rfl rfl rfl rfl rfl rfl (fun _ S => (wn rfl)) (fun h4 kk => ?yh4) (fun a w S H => ?_)
    case yh4 => exact absurd h4 (by simp)
    refine gnt ?_
    refine c_if S rfl (fun h5 => ?_) (fun h5 => ?_)
    ·have h5p := h5; try simp only [DL] at h5p
     all_goals (
       exact absurd h5 (by simp))
    ·have h5p := h5; try simp only [DL] at h5p
     refine g_skip ?_
     refine n_then ?_
     have S := ((((S.nil.cons S 2 rfl).cons S 6 rfl).cons S 8 rfl).cons S 9 rfl).cons S 7 rfl
     refine g_seq ?_
     refine gsr ?_
     refine gm S fun a S => ?_
     refine gy rfl rfl rfl S (y_bin rfl S rfl rfl rfl) fun a S => ?_
     refine gnt ?_
     refine c_if S rfl (fun h6 => ?_) (fun h6 => ?_)
     ·have h6p := h6; try simp only [DL] at h6p
      all_goals (
        exact absurd h6 (by simp))
     ·have h6p := h6; try simp only [DL] at h6p
      refine g_skip ?_
      refine n_then ?_
      refine gsr ?_
      refine gm S fun a S => ?_
      refine gy rfl rfl rfl S ((y_binW (r := 63) rfl S rfl rfl rfl)) fun a S => ?_
      refine gy rfl rfl rfl S (y_convg (r := 63) rfl Tryz.underlying3 Tryz.underlying116 S rfl (by rfl)) fun a S => ?_
      refine gy rfl rfl rfl S ((y_shlX (m := 1) (q := 63) (r := 9223372036854775808) rfl S rfl rfl (by decide) rfl)) fun a S => ?_
      refine ga S fun a S => ?_
      refine gnt ?_
      have S := ((((S.nil.cons S 6 rfl).cons S 8 rfl).cons S 9 rfl).cons S 7 rfl).cons S 10 rfl
      refine g_seq ?_
      refine gsr ?_
      refine gm S fun a S => ?_
      refine gy rfl rfl rfl S (y_not rfl S rfl) fun a S => ?_
      refine gm S fun a S => ?_
      refine gz 48 rfl S rfl rfl rfl rfl rfl rfl (y_move rfl S rfl) fun a S => ?_
      refine gz 48 rfl S rfl rfl rfl rfl rfl rfl (y_move rfl S rfl) fun a S => ?_
      refine gz 48 rfl S rfl rfl rfl rfl rfl rfl (y_bin rfl S rfl rfl rfl) fun a S => ?_
      refine gy rfl rfl rfl S (y_and' rfl rfl S rfl rfl) fun a S => ?_
      refine gnt ?_
      have S := (((((S.nil.cons S 6 rfl).cons S 8 rfl).cons S 9 rfl).cons S 7 rfl).cons S 10 rfl).cons S 52 rfl
      refine c_if S rfl (fun h8 => ?_) (fun h8 => ?_)
      ·have h8p := h8; try simp only [DL] at h8p
       all_goals (
         exfalso
         have h := h8p
         omega)
      ·have h8p := h8; try simp only [DL] at h8p
       refine g_skip ?_
       refine n_then ?_
       refine g_seq ?_
       refine gsr ?_
       refine gm S fun a S => ?_
       refine gm S fun a S => ?_
       refine' wl_and (B2 := false) 3 58 rfl S H rfl rfl rfl rfl rfl rfl rfl (fun _ S => (wn rfl)) (fun h9 kk => ?yh9) (fun a w S H => ?_)
       case yh9 => exact absurd h9 (by simp)
       refine gnt ?_
       refine c_if S rfl (fun h10 => ?_) (fun h10 => ?_)
       ·have h10p := h10; try simp only [DL] at h10p
        all_goals (
          exact absurd h10 (by simp))
       ·have h10p := h10; try simp only [DL] at h10p
        refine g_skip ?_
        refine n_then ?_
        have S := (((S.nil.cons S 6 rfl).cons S 8 rfl).cons S 9 rfl).cons S 7 rfl
        refine gsr ?_
        refine gm S fun a S => ?_
        refine gy rfl rfl rfl S (y_convg (r := ((hexN t.data.toList) : Int)) rfl Tryz.underlying97 Tryz.underlying2 S rfl (by exact wrap_in (by omega) (by omega))) fun a S => ?_
        refine ga S fun a S => ?_
        refine gnt ?_
        refine g_seq ?_
        refine gsr ?_
        refine gm S fun a S => ?_
        refine gnt ?_
        have S := (((S.nil.cons S 6 rfl).cons S 7 rfl).cons S 11 rfl).cons S 69 rfl
        refine c_if S rfl (fun h11 => ?_) (fun h11 => ?_)
        ·have h11p := h11; try simp only [DL] at h11p
         all_goals (
           exact absurd h11 (by simp))
        ·have h11p := h11; try simp only [DL] at h11p
         refine g_skip ?_
         refine n_then ?_
         refine gsr ?_
         refine gm S fun a S => ?_
         refine ga S fun a S => ?_
         refine ga S fun a S => ?_
         refine gnt ?_
         have S := (S.nil.cons S 6 rfl).cons S 7 rfl
         refine g_ret ?_
         refine ret2 rfl S rfl rfl ?_
         exact ⟨rfl, H.toExt⟩
/-- strconv.ParseInt -/
theorem sint_spec (t : ByteArray) (w0 : World) (hs : 0 < t.size ∧ t.size ≤ 15) (hh : ∀ c ∈ t.data.toList, hexB c) :
    Ret Tryz.prog 108 #[.string t, .int .i64 16, .int .i64 64] w0 (fun u w => u = .tuple #[.int .i64 ((hexN t.data.toList : Nat) : Int), .nilIface] ∧ Ext w0 w) := by
 refine ret_of_wp (nt := 25) Tryz.func108 rfl rfl rfl (fl := [(0, .string t), (1, .int .i64 16), (2, .int .i64 64)]) rfl (fun a S => ?_)
 have H := HSat.start w0
 refine gsr ?_
 refine ga S fun a S => ?_
 refine ga S fun a S => ?_
 refine gnt ?_
 refine gsr ?_
 refine gm S fun a S => ?_
 refine gm S fun a S => ?_
 refine gm S fun a S => ?_
 refine wl_of (op_call (wn rfl) rfl rfl S (co_func rfl Tryz.call141 S rfl) (pint_spec t _ hs hh) fun v w hc a S => ?_)
 obtain ⟨rfl, he⟩ := hc
 have H := H.ext he
 refine gm S fun a S => ?_
 refine gy rfl rfl rfl S (y_extract rfl S rfl rfl) fun a S => ?_
 refine gy rfl rfl rfl S (y_extract rfl S rfl rfl) fun a S => ?_
 refine ga S fun a S => ?_
 refine ga S fun a S => ?_
 refine gnt ?_
 have S := (((((S.nil.cons S 2 rfl).cons S 1 rfl).cons S 0 rfl).cons S 6 rfl).cons S 8 rfl).cons S 7 rfl
 refine g_seq ?_
 refine gsr ?_
 refine gm S fun a S => ?_
 refine gy rfl rfl rfl S ((y_nenil rfl Tryz.underlying130 S rfl)) fun a S => ?_
 refine gnt ?_
 refine c_if S rfl (fun h1 => ?_) (fun h1 => ?_)
 ·have h1p := h1; try simp only [DL] at h1p
  all_goals (
    exact absurd h1 (by simp))
 ·have h1p := h1; try simp only [DL] at h1p
  refine g_skip ?_
  refine n_then ?_
  have S := ((S.nil.cons S 6 rfl).cons S 8 rfl).cons S 7 rfl
  refine gsr ?_
  refine gm S fun a S => ?_
  refine ga S fun a S => ?_
  refine ga S fun a S => ?_
  refine gnt ?_
  have S := (S.nil.cons S 6 rfl).cons S 7 rfl
  refine g_ret ?_
  refine ret2 rfl S rfl rfl ?_
  exact ⟨rfl, H.toExt⟩
end Go.Proofs.YtienaifmlhcijaaGreatDoor
end
section
namespace Go.Proofs.YtienaifmlhcijaaGreatDoor
open Go Go.Gw
set_option linter.unusedVariables false
set_option linter.unusedSimpArgs false
section
variable {P : Program} {o : Oper} {n : Sz} {fl : Slots} {a : Act} {w : World}
theorem y_slicestrH {T : TypeId} {x hi : Operand} {k2 : IntKind} {j : Nat} {s r : ByteArray} (ho : o.op = .slice T x none (some hi) none) (hT : P.underlying T = some .string) (S : St n fl a) (hx : ev fl x = some (.string s)) (hh : ev fl hi = some (.int k2 (j : Int))) (hj : j ≤ s.size) (hr : s.extract 0 j = r) : Yld P o a w (.string r) := by
  subst hr
  unfold Yld execOp; rw [ho]
  simp only [Option.map_some, Option.map_none, S.ev hx, S.ev hh]
  have h := run_slice_string_to_if (P := P) w T s k2 (j : Int) hT
  rw [if_pos (by omega)] at h
  simp only [Int.toNat_natCast] at h
  simp only [Sem.run_bind, run_sliceAt_string (P := P) w T _ _ _ _ hT, h, Result.andThen_ok, Sem.run_pure]
end
/-- foyer/digest.Below -/
theorem below_spec (t : ByteArray) (n : Nat) (w0 : World) (hn : 1 ≤ n ∧ n ≤ 65536) (hd : isD t = true) :
    Ret Tryz.prog 70 #[.string t, .int .i64 (n : Int)] w0 (fun u w => u = .int .i64 ((belowN t n : Nat) : Int) ∧ Ext w0 w) := by
 refine ret_of_wp (nt := 23) Tryz.func70 rfl rfl rfl (fl := [(0, .string t), (1, .int .i64 (n : Int))]) rfl (fun a S => ?_)
 have H := HSat.start w0
 have hsz := isD_size hd
 have h15 := ext15 t hsz
 refine gsr ?_
 refine ga S fun a S => ?_
 refine gnt ?_
 refine g_seq ?_
 refine gsr ?_
 refine gm S fun a S => ?_
 refine gy rfl rfl rfl S (y_bin rfl S rfl rfl rfl) fun a S => ?_
 refine gm S fun a S => ?_
 refine' wl_or 3 9 rfl S H rfl rfl rfl rfl rfl rfl rfl (fun _ S => (wn rfl)) (fun h1 kk => ?yh1) (fun a w S H => ?_)
 case yh1 =>
  have h1p := h1; try simp only [DL] at h1p
  refine gz 9 h1 S rfl rfl rfl rfl rfl rfl (y_move rfl S rfl) fun a S => ?_
  refine wl_of (op_call (wg' 9 rfl rfl S rfl h1 rfl) rfl rfl S (co_func rfl Tryz.call107 S rfl) (is_spec t _ (by omega)) fun v w hc a S => ?_)
  obtain ⟨rfl, he⟩ := hc
  have H := H.ext he
  refine gz 9 h1 S rfl rfl rfl rfl rfl rfl (y_not rfl S rfl) fun a S => ?_
  refine gy rfl rfl rfl S (y_or' rfl h1 S rfl rfl) fun a S => ?_
  exact kk _ _ (S.join 4 13 rfl rfl) H
 refine gnt ?_
 refine c_if S rfl (fun h2 => ?_) (fun h2 => ?_)
 ·have h2p := h2; try simp only [DL] at h2p
  all_goals (
    exfalso
    have h := h2p
    rw [hd] at h
    simp at h
    omega)
 ·have h2p := h2; try simp only [DL] at h2p
  refine g_skip ?_
  refine n_then ?_
  have S := ((S.nil.cons S 1 rfl).cons S 0 rfl).cons S 4 rfl
  refine gsr ?_
  refine gm S fun a S => ?_
  refine gy rfl rfl rfl S ((y_slicestrH (j := 15) rfl Tryz.underlying9 S rfl rfl (by omega) rfl)) fun a S => ?_
  refine wl_of (op_call (wn rfl) rfl rfl S (co_func rfl Tryz.call108 S rfl) (sint_spec (t.extract 0 15) _ (by omega) (fun c hc => isD_hex hd c (ext15_mem c hc))) fun v w hc a S => ?_)
  obtain ⟨rfl, he⟩ := hc
  have H := H.ext he
  refine gm S fun a S => ?_
  refine gy rfl rfl rfl S (y_extract rfl S rfl rfl) fun a S => ?_
  refine gy rfl rfl rfl S (y_extract rfl S rfl rfl) fun a S => ?_
  refine ga S fun a S => ?_
  refine ga S fun a S => ?_
  refine gnt ?_
  have S := ((S.nil.cons S 1 rfl).cons S 4 rfl).cons S 5 rfl
  refine gsr ?_
  refine gm S fun a S => ?_
  refine gm S fun a S => ?_
  refine gy rfl rfl rfl S (y_remn rfl S rfl rfl (by omega) (by omega)) fun a S => ?_
  refine ga S fun a S => ?_
  refine gnt ?_
  have S := S.nil.cons S 4 rfl
  refine g_ret ?_
  refine ret1 rfl S rfl ?_
  exact ⟨rfl, H.toExt⟩
end Go.Proofs.YtienaifmlhcijaaGreatDoor
end
section
namespace Go.Proofs.YtienaifmlhcijaaGreatDoor
open Go Go.Gw
set_option linter.unusedVariables false
set_option linter.unusedSimpArgs false
/-- foyer/filter.form -/
theorem form_spec (w0 : World) :
    Ret Tryz.prog 38 #[.int .i64 1024, .int .i64 3] w0 (fun u w => u = .bool true ∧ Ext w0 w) := by
 refine ret_of_wp (nt := 24) Tryz.func38 rfl rfl rfl (fl := [(0, .int .i64 1024), (1, .int .i64 3)]) rfl (fun a S => ?_)
 have H := HSat.start w0
 refine gsr ?_
 refine ga S fun a S => ?_
 refine gnt ?_
 refine gsr ?_
 refine gm S fun a S => ?_
 refine gy rfl rfl rfl S (y_bin rfl S rfl rfl rfl) fun a S => ?_
 refine gm S fun a S => ?_
 refine gz 7 rfl S rfl rfl rfl rfl rfl rfl (y_move rfl S rfl) fun a S => ?_
 refine gz 7 rfl S rfl rfl rfl rfl rfl rfl (y_bin rfl S rfl rfl rfl) fun a S => ?_
 refine gy rfl rfl rfl S (y_and' rfl rfl S rfl rfl) fun a S => ?_
 refine gm S fun a S => ?_
 refine gz 11 rfl S rfl rfl rfl rfl rfl rfl (y_move rfl S rfl) fun a S => ?_
 refine gz 11 rfl S rfl rfl rfl rfl rfl rfl ((y_remn (m := 1024) (q := 64) rfl S rfl rfl (by omega) (by omega))) fun a S => ?_
 refine gz 11 rfl S rfl rfl rfl rfl rfl rfl (y_bin rfl S rfl rfl rfl) fun a S => ?_
 refine gy rfl rfl rfl S (y_and' rfl rfl S rfl rfl) fun a S => ?_
 refine gm S fun a S => ?_
 refine gz 16 rfl S rfl rfl rfl rfl rfl rfl (y_move rfl S rfl) fun a S => ?_
 refine gz 16 rfl S rfl rfl rfl rfl rfl rfl (y_bin rfl S rfl rfl rfl) fun a S => ?_
 refine gy rfl rfl rfl S (y_and' rfl rfl S rfl rfl) fun a S => ?_
 refine gm S fun a S => ?_
 refine gz 20 rfl S rfl rfl rfl rfl rfl rfl (y_move rfl S rfl) fun a S => ?_
 refine gz 20 rfl S rfl rfl rfl rfl rfl rfl (y_bin rfl S rfl rfl rfl) fun a S => ?_
 refine gy rfl rfl rfl S (y_and' rfl rfl S rfl rfl) fun a S => ?_
 refine ga S fun a S => ?_
 refine gnt ?_
 have S := S.nil.cons S 4 rfl
 refine g_ret ?_
 refine ret1 rfl S rfl ?_
 exact ⟨rfl, H.toExt⟩
/-- foyer/filter.positions -/
theorem positions_spec (serial bits hashes : Int) (w0 : World) :
    Ret Tryz.prog 40 #[.int .i64 serial, .int .i64 bits, .int .i64 hashes] w0 (fun u w => ∃ b5 b3 b4, u = .func (.func 69) #[] #[.pointer (some ⟨b5, 0, none⟩), .pointer (some ⟨b3, 0, none⟩), .pointer (some ⟨b4, 0, none⟩)] ∧ HSat No w0 [Cel b5 3 [.int .i64 hashes], Cel b4 3 [.int .i64 bits], Cel b3 3 [.int .i64 serial]] w) := by
 refine ret_of_wp (nt := 8) Tryz.func40 rfl rfl rfl (fl := [(0, .int .i64 serial), (1, .int .i64 bits), (2, .int .i64 hashes)]) rfl (fun a S => ?_)
 have H := HSat.start w0
 refine gsr ?_
 refine wl_of (op_box1 (wn rfl) rfl rfl rfl S H rfl rfl fun b3 a w S H => ?_)
 refine wl_of (op_box1 (wn rfl) rfl rfl rfl S H rfl rfl fun b4 a w S H => ?_)
 refine wl_of (op_box1 (wn rfl) rfl rfl rfl S H rfl rfl fun b5 a w S H => ?_)
 refine ga S fun a S => ?_
 refine gnt ?_
 refine gsr ?_
 refine gy rfl rfl rfl S (y_makeFunc rfl S rfl rfl) fun a S => ?_
 refine ga S fun a S => ?_
 refine gnt ?_
 have S := S.nil.cons S 6 rfl
 refine g_ret ?_
 refine ret1 rfl S rfl ?_
 exact ⟨_, _, _, rfl, H⟩
set_option maxHeartbeats 1000000 in
/-- foyer/filter.positions$1 -/
theorem pos_iter {M : Nat → Prop} {u0 : World} {Z : Type} (L : Nat → Z → List Atom) (LS : Z → List Atom) (lb c1 c2 c3 : Nat) (serial : Int) (bits hashes : Nat) (w0 : World) (hser : -9223372036854775808 ≤ serial ∧ serial ≤ 9223372036854775807) (hb : 1 ≤ bits ∧ bits ≤ 65536) (hha : hashes ≤ 8)
    (hround : ∀ k, k < hashes → ∀ z w, HSat M u0 (Atom.ro (Cel c1 3 [.int .i64 ((hashes : Nat) : Int)]) :: Atom.ro (Cel c2 3 [.int .i64 serial]) :: Atom.ro (Cel c3 3 [.int .i64 ((bits : Nat) : Int)]) :: TabsA :: L k z) w → YieldRet Tryz.prog lb #[.int .i64 ((posN serial bits k : Nat) : Int)] w (fun u w' => ∃ b, u = .bool b ∧ ∃ z, HSat M u0 (Atom.ro (Cel c1 3 [.int .i64 ((hashes : Nat) : Int)]) :: Atom.ro (Cel c2 3 [.int .i64 serial]) :: Atom.ro (Cel c3 3 [.int .i64 ((bits : Nat) : Int)]) :: TabsA :: cond b (L (k + 1) z) (LS z)) w')) (h0 : ∃ z, HSat M u0 (Atom.ro (Cel c1 3 [.int .i64 ((hashes : Nat) : Int)]) :: Atom.ro (Cel c2 3 [.int .i64 serial]) :: Atom.ro (Cel c3 3 [.int .i64 ((bits : Nat) : Int)]) :: TabsA :: L 0 z) w0) :
    Ret Tryz.prog 69 #[.func (.yield lb) #[] #[], .pointer (some ⟨c1, 0, none⟩), .pointer (some ⟨c2, 0, none⟩), .pointer (some ⟨c3, 0, none⟩)] w0 (fun u w => (∃ z, HSat M u0 (Atom.ro (Cel c1 3 [.int .i64 ((hashes : Nat) : Int)]) :: Atom.ro (Cel c2 3 [.int .i64 serial]) :: Atom.ro (Cel c3 3 [.int .i64 ((bits : Nat) : Int)]) :: TabsA :: L hashes z) w) ∨ (∃ z, HSat M u0 (Atom.ro (Cel c1 3 [.int .i64 ((hashes : Nat) : Int)]) :: Atom.ro (Cel c2 3 [.int .i64 serial]) :: Atom.ro (Cel c3 3 [.int .i64 ((bits : Nat) : Int)]) :: TabsA :: LS z) w)) := by
 refine ret_of_wp (nt := 22) Tryz.func69 rfl rfl rfl (fl := [(0, .func (.yield lb) #[] #[]), (1, .pointer (some ⟨c1, 0, none⟩)), (2, .pointer (some ⟨c2, 0, none⟩)), (3, .pointer (some ⟨c3, 0, none⟩))]) rfl (fun a S => ?_)
 obtain ⟨z0, H⟩ := h0
 refine gsr ?_
 refine gy rfl rfl rfl S (y_load rfl Fsca3 S H rfl rfl) fun a S => ?_
 refine gm S fun a S => ?_
 refine gnt ?_
 refine g_block ?_
 have SU := (((S.nil.cons S 3 rfl).cons S 2 rfl).cons S 0 rfl).cons S 6 rfl
 refine loopW (X := Nat) SU (fun k => [(7, .int .i64 (k : Int))]) (fun k w => k ≤ hashes ∧ ∃ z, HSat M u0 (Atom.ro (Cel c1 3 [.int .i64 ((hashes : Nat) : Int)]) :: Atom.ro (Cel c2 3 [.int .i64 serial]) :: Atom.ro (Cel c3 3 [.int .i64 ((bits : Nat) : Int)]) :: TabsA :: L k z) w) (fun k => hashes - k) 0 (S.nil.cons S 7 rfl) (⟨by omega, z0, H⟩) (fun k a w S hW => ?_)
 simp only [List.cons_append, List.nil_append] at S
 obtain ⟨hk, z, H⟩ := hW
 refine gsr ?_
 refine gy rfl rfl rfl S (y_bin rfl S rfl rfl rfl) fun a S => ?_
 refine gnt ?_
 refine g_seq ?_
 refine c_if S rfl (fun h1 => ?_) (fun h1 => ?_)
 ·have h1p := h1; try simp only [DL] at h1p
  refine g_skip ?_
  refine n_then ?_
  refine g_seq ?_
  refine g_block ?_
  refine gsr ?_
  refine gm S fun a S => ?_
  refine ga S fun a S => ?_
  refine gnt ?_
  refine g_seq ?_
  refine region_st (loud := [5, 9]) (tails := [9]) (free := []) [0, 1, 2, 3, 4, 7, 5, 6, 8, 9, 10] [] Fmo (by kernel_rfl) (by kernel_rfl) rfl H ?_
  refine m_w rfl rfl (wn rfl) rfl rfl S (fun w H => y_move rfl S rfl) fun a S => ?_
  refine m_w rfl rfl (wn rfl) rfl rfl S (fun w H => y_load rfl Fsca3 S H rfl rfl) fun a S => ?_
  refine m_c rfl rfl (wn rfl) rfl rfl S (fun w => co_func rfl Tryz.call64 S rfl) (fun w H => itoa_t serial hser.1 hser.2 _ H.tabs) fun a S => ?_
  refine m_w rfl rfl (wn rfl) rfl rfl S (fun w H => y_move rfl S rfl) fun a S => ?_
  refine m_c rfl rfl (wn rfl) rfl rfl S (fun w => co_func rfl Tryz.call64 S rfl) (fun w H => itoa_t (k : Int) (by omega) (by omega) _ H.tabs) fun a S => ?_
  refine m_w rfl rfl (wn rfl) rfl rfl S (fun w H => y_load rfl Fsca3 S H rfl rfl) fun a S => ?_
  refine m_l rfl rfl (fun w H => op_buildSlice (wn rfl) rfl rfl rfl Tryz.underlying93 Finf9 S H (idx := [0, 1]) rfl rfl rfl (z := [.string ⟨#[]⟩, .string ⟨#[]⟩]) (by kernel_rfl) (cs := [.string (itoaS serial), .string (itoaS (k : Int))]) (by kernel_rfl) fun b15 a w S H => m_next H (List.sublist_cons_self _ _) ?_)
  refine m_c rfl rfl (wn rfl) rfl rfl S (fun w => co_func rfl Tryz.call34 S rfl) (fun w H => list_t _ [itoaS serial, itoaS (k : Int)] _ H.tabs (H.slb b15 _ encS 1 rfl rfl (by simp [encS]) (by decide)) (list_ok (by intro x hx; simp only [List.mem_cons, List.not_mem_nil, or_false] at hx; rcases hx with rfl | rfl; have := itoaS_size serial hser.1 hser.2; omega; have := itoaS_size (k : Int) (by omega) (by omega); omega) (by simp))) fun a S => ?_
  refine m_c rfl rfl (wn rfl) rfl rfl S (fun w => co_func rfl Tryz.call70 S rfl) (fun w H => below_spec (listS [itoaS serial, itoaS (k : Int)]) bits _ hb (isD_listS _)) fun a S => ?_
  refine m_l rfl rfl (fun w H => op_yield (wn rfl) rfl rfl rfl S rfl rfl (hround k (by omega) z _ H.tail) fun u w hc a S => ?_)
  obtain ⟨b, rfl, z2, H⟩ := hc
  refine m_tail H rfl ?_
  refine m_w rfl rfl (wn rfl) rfl rfl S (fun w H => y_not rfl S rfl) fun a S => ?_
  refine m_nil (fun w H => ?_)
  refine n_then ?_
  have S := (((((S.nil.cons S 3 rfl).cons S 2 rfl).cons S 0 rfl).cons S 6 rfl).cons S 7 rfl).cons S 20 rfl
  refine c_if S rfl (fun h2 => ?_) (fun h2 => ?_)
  ·have h2p := h2; try simp only [DL] at h2p
   refine g_ret ?_
   refine r_block (r_then (r_then (r_block (ret0 rfl S ?_))))
   obtain rfl : b = false := by simpa using h2
   exact .inr ⟨z2, H⟩
  ·have h2p := h2; try simp only [DL] at h2p
   refine g_skip ?_
   refine n_block ?_
   refine n_then ?_
   refine g_region ?_
   refine gy rfl rfl rfl S (y_add rfl S rfl rfl (by omega)) fun a S => ?_
   refine gm S fun a S => ?_
   refine gnt ?_
   obtain rfl : b = true := by simpa using h2
   exact ⟨k + 1, S.nil.cons S 7 rfl, (((S.nil.cons S 3 rfl).cons S 2 rfl).cons S 0 rfl).cons S 6 rfl, ⟨by omega, z2, H⟩, by omega⟩
 ·have h1p := h1; try simp only [DL] at h1p
  obtain rfl : k = hashes := by omega
  refine g_exit ?_
  refine x_then (x_then (x_eq ?_))
  refine ret0n rfl S ?_
  exact .inl ⟨z, H⟩
/-- foyer/filter.valid -/
theorem fvalid_spec (wv : Value) (ws : List Nat) (w0 : World) (hw : IsSl w0 wv 1 encU ws) (hl : ws.length = 16) :
    Ret Tryz.prog 71 #[.agg (encF wv).toArray] w0 (fun u w => u = .bool true ∧ Ext w0 w) := by
 refine ret_of_wp (nt := 17) Tryz.func71 rfl rfl rfl (fl := [(0, .agg (encF wv).toArray)]) rfl (fun a S => ?_)
 have H := HSat.start w0
 have H := H.ro0 (Sl wv 1 encU ws) rfl (hw)
 obtain ⟨pw, cw, hpw⟩ := hw.shape
 refine gsr ?_
 refine wl_of (op_boxa (wn rfl) rfl rfl rfl S H (by rw [hpw]; rfl) fun b1 a w S H => ?_)
 rw [← hpw] at H
 refine ga S fun a S => ?_
 refine gnt ?_
 refine gsr ?_
 refine gy rfl rfl rfl S (y_faddrb rfl Ffo61_0 S rfl) fun a S => ?_
 refine gy rfl rfl rfl S (y_load rfl Fsca3 S H rfl rfl) fun a S => ?_
 refine gy rfl rfl rfl S (y_faddrb rfl Ffo61_1 S rfl) fun a S => ?_
 refine gy rfl rfl rfl S (y_load rfl Fsca3 S H rfl rfl) fun a S => ?_
 refine wl_of (op_call (wn rfl) rfl rfl S (co_func rfl Tryz.call38 S rfl) (form_spec _) fun v w hc a S => ?_)
 obtain ⟨rfl, he⟩ := hc
 have H := H.ext he
 refine gm S fun a S => ?_
 refine gz 8 rfl S rfl rfl rfl rfl rfl rfl (y_faddrb rfl Ffo61_2 S rfl) fun a S => ?_
 refine gz 8 rfl S rfl rfl rfl rfl rfl rfl (y_load rfl Fsca59 S H rfl rfl) fun a S => ?_
 refine gz 8 rfl S rfl rfl rfl rfl rfl rfl (y_lens rfl Tryz.underlying59 S H rfl) fun a S => ?_
 refine gz 8 rfl S rfl rfl rfl rfl rfl rfl (y_faddrb rfl Ffo61_0 S rfl) fun a S => ?_
 refine gz 8 rfl S rfl rfl rfl rfl rfl rfl (y_load rfl Fsca3 S H rfl rfl) fun a S => ?_
 refine gz 8 rfl S rfl rfl rfl rfl rfl rfl ((y_quon rfl S rfl rfl (by omega) (by omega) (by omega))) fun a S => ?_
 refine gz 8 rfl S rfl rfl rfl rfl rfl rfl (y_bin rfl S rfl rfl rfl) fun a S => ?_
 refine gy rfl rfl rfl S (y_and' rfl rfl S rfl rfl) fun a S => ?_
 refine ga S fun a S => ?_
 refine gnt ?_
 have S := S.nil.cons S 2 rfl
 refine g_ret ?_
 refine ret1 rfl S rfl ?_
 exact ⟨by rw [hl]; rfl, H.toExt⟩
end Go.Proofs.YtienaifmlhcijaaGreatDoor
end
section
namespace Go.Proofs.YtienaifmlhcijaaGreatDoor
open Go Go.Gw
set_option linter.unusedVariables false
set_option linter.unusedSimpArgs false
theorem ret2ctM {P : Program} {fl : Slots} {a : Act} {w w0 : World} {v : Value} {M : Nat → Prop} {l : List Atom} {fn : Func} {R : Value → World → Prop} {t u T b : Nat} {cs : List Value} {T' : TypeId} {fz : Nat × Nat} {m : Nat} {ds : List Nat} (hr : fn.results = #[.cell u T, .tmp t]) (S : St ⟨m, ds⟩ fl a) (H : HSat M w0 (DefsA ds :: l) w) (hu : fl.lookup u = some (.pointer (some ⟨b, 0, none⟩))) (hv : fl.lookup t = some v)
    [h : HasRd l b (.cells cs.toArray T' fz)] (hT : aggB P T cs.length = true) (hR : ∀ w, HSat M w0 l w → R (.tuple #[.agg cs.toArray, v]) w) : endP P fn R .ret a w := by
  show LeavesInM Fence.wide 0 P fn a.tmps _ a.defers .returning w
  rw [S.defers]
  refine leavesM (fun w H => ?_) hR ds w H
  have hl := run_loadVar_agg (P := P) (w := w) (p := ⟨b, 0, none⟩) hT (fun j u hu => by rw [add_plain, H.cell h]; simpa using hu)
  have hu' : a.tmps[u]?.getD undef = .pointer (some ⟨b, 0, none⟩) := by rw [← Array.getD_eq_getD_getElem?]; exact S.get u _ hu
  have h1 : a.tmps[t]?.getD undef = v := by rw [← Array.getD_eq_getD_getElem?]; exact S.get t _ hv
  simp [results, hr, hu', h1, asAddr, hl]
/-- foyer/filter.Make$1 -/
theorem set_spec {M : Nat → Prop} {u0 : World} {l : List Atom} (c1 : Nat) (wv : Value) (ws : List Nat) (n : Nat) (w0 : World) (h0 : HSat M u0 (Cel c1 61 (encF wv) :: OSl 97 wv 1 encU (ws) :: l) w0) (hw : WOk ws) (hn : n < 1024) :
    Ret Tryz.prog 39 #[.int .i64 (n : Int), .pointer (some ⟨c1, 0, none⟩)] w0 (fun u w => u = .tuple #[] ∧ HSat M u0 (Cel c1 61 (encF wv) :: OSl 97 wv 1 encU (setW ws n) :: l) w) := by
 refine ret_of_wp (nt := 14) Tryz.func39 rfl rfl rfl (fl := [(0, .int .i64 (n : Int)), (1, .pointer (some ⟨c1, 0, none⟩))]) rfl (fun a S => ?_)
 have H := h0
 have hl := hw.len
 have hi : n / 64 < ws.length := by omega
 have hg : ws.getD (n / 64) 0 = ws[n / 64] := by rw [List.getD_eq_getElem?_getD, List.getElem?_eq_getElem hi]; rfl
 refine region_st (loud := [11]) (tails := [11]) (free := []) [0, 1, 2, 3, 4, 5, 6, 7, 8, 9, 10, 11] [] Fmo (by kernel_rfl) (by kernel_rfl) rfl H ?_
 refine m_w rfl rfl (wn rfl) rfl rfl S (fun w H => y_faddrb rfl Ffo61_2 S rfl) fun a S => ?_
 refine m_w rfl rfl (wn rfl) rfl rfl S (fun w H => y_load rfl Fsca59 S H rfl rfl) fun a S => ?_
 refine m_w rfl rfl (wn rfl) rfl rfl S (fun w H => y_move rfl S rfl) fun a S => ?_
 refine m_w rfl rfl (wn rfl) rfl rfl S (fun w H => (y_quon (m := n) (q := 64) rfl S rfl rfl (by omega) (by omega) (by omega))) fun a S => ?_
 refine m_w rfl rfl (wn rfl) rfl rfl S (fun w H => y_iaddrn rfl Tryz.underlying59 Fsiz97 S H rfl rfl (by first | assumption | omega | (simp only [LL]; omega))) fun a S => ?_
 refine m_loads _ rfl rfl (wn rfl) rfl rfl S rfl Fsca97 rfl (by first | assumption | omega | (simp only [LL]; omega)) rfl fun a S => ?_
 refine m_w rfl rfl (wn rfl) rfl rfl S (fun w H => y_move rfl S rfl) fun a S => ?_
 refine m_w rfl rfl (wn rfl) rfl rfl S (fun w H => (y_remn (m := n) (q := 64) rfl S rfl rfl (by omega) (by omega))) fun a S => ?_
 refine m_w rfl rfl (wn rfl) rfl rfl S (fun w H => (y_shlu (m := 1) (q := n % 64) (r := 1 <<< (n % 64)) rfl S rfl rfl (by omega) rfl (bit_lt n))) fun a S => ?_
 refine m_w rfl rfl (wn rfl) rfl rfl S (fun w H => (y_oru (m := ws[n / 64]) (q := 1 <<< (n % 64)) rfl S rfl rfl (hw.at hi) (bit_lt n) rfl)) fun a S => ?_
 refine m_w rfl rfl (wn rfl) rfl rfl S (fun w H => y_iaddrn rfl Tryz.underlying59 Fsiz97 S H rfl rfl (by first | assumption | omega | (simp only [LL]; omega))) fun a S => ?_
 refine m_l rfl rfl (fun w H => op_store1 _ ((ws[n / 64] ||| (1 <<< (n % 64)))) (wn rfl) rfl rfl S H rfl rfl rfl rfl Fsiz97 (by first | assumption | omega | (simp only [LL]; omega)) (by exact rfl) fun a w S H => m_tail H rfl ?_)
 refine m_nil (fun w H => ?_)
 refine ret0n rfl S ?_
 refine ⟨rfl, ?_⟩
 unfold setW
 rw [hg]
 exact H
set_option maxHeartbeats 2000000 in
/-- foyer/filter.Make -/
theorem make_spec (v : Value) (ns : List Int) (w0 : World) (hv : IsSl w0 v 1 encI ns) (hns : ∀ s ∈ ns, -9223372036854775808 ≤ s ∧ s ≤ 9223372036854775807) (hT : Tabs w0) :
    Ret Tryz.prog 14 #[v, .int .i64 1024, .int .i64 3] w0 (fun u w => ∃ wv, u = .tuple #[.agg (encF wv).toArray, .int .i64 0] ∧ HSat No w0 [OSl 97 wv 1 encU (makeW ns)] w) := by
 refine ret_of_wp (nt := 41) Tryz.func14 rfl rfl rfl (fl := [(0, v), (1, .int .i64 1024), (2, .int .i64 3)]) rfl (fun a S => ?_)
 have H := HSat.start w0
 have H := H.ro0 (TabsA) rfl (hT)
 have H := H.ro0 (Sl v 1 encI ns) rfl (hv)
 have hlen := hv.len
 refine gsr ?_
 refine wl_of (op_alloc (wn rfl) rfl rfl rfl S H Fzer61 fun b6 a w S H => ?_)
 refine ga S fun a S => ?_
 refine gnt ?_
 refine g_seq ?_
 refine gsr ?_
 refine gm S fun a S => ?_
 refine gm S fun a S => ?_
 refine wl_of (op_call (wn rfl) rfl rfl S (co_func rfl Tryz.call38 S rfl) (form_spec _) fun v w hc a S => ?_)
 obtain ⟨rfl, he⟩ := hc
 have H := H.ext he
 refine gy rfl rfl rfl S (y_not rfl S rfl) fun a S => ?_
 refine gnt ?_
 refine c_if S rfl (fun h1 => ?_) (fun h1 => ?_)
 ·have h1p := h1; try simp only [DL] at h1p
  all_goals (
    exact absurd h1 (by simp))
 ·have h1p := h1; try simp only [DL] at h1p
  refine g_skip ?_
  refine n_then ?_
  have S := ((((S.nil.cons S 2 rfl).cons S 1 rfl).cons S 0 rfl).cons S 6 rfl).cons S 7 rfl
  refine gsr ?_
  refine gm S fun a S => ?_
  refine gm S fun a S => ?_
  refine gm S fun a S => ?_
  refine gy rfl rfl rfl S ((y_quon (m := 1024) (q := 64) rfl S rfl rfl (by omega) (by omega) (by omega))) fun a S => ?_
  rw [show ((1024 : Int) / 64) = ((16 : Nat) : Int) from rfl] at S
  refine wl_of (op_make (encU) (0) (wn rfl) rfl rfl rfl Tryz.underlying59 Finf97 rfl rfl S H rfl rfl rfl (by omega) (by omega) fun b22 a w S H => ?_)
  refine gy rfl rfl rfl S (y_buildf rfl Fbld61 S rfl (idx := [0, 1, 2]) rfl (cs := [.int .i64 1024, .int .i64 3, (.slice (some ⟨b22, 0, none⟩) 16 16)]) (by kernel_rfl)) fun a S => ?_
  refine wl_of (op_alloc (wn rfl) rfl rfl rfl S H Fzer61 fun b8 a w S H => ?_)
  refine wl_of (op_storea (wn rfl) rfl rfl S H rfl rfl rfl Fsiz61 rfl (cs' := encF (.slice (some ⟨b22, 0, none⟩) 16 16)) rfl fun a w S H => ?_)
  refine gnt ?_
  have S := (((((S.nil.cons S 2 rfl).cons S 1 rfl).cons S 0 rfl).cons S 6 rfl).cons S 7 rfl).cons S 8 rfl
  refine gsr ?_
  refine gy rfl rfl rfl S (y_makeFunc rfl S rfl rfl) fun a S => ?_
  refine wl_of (op_alloc (wn rfl) rfl rfl rfl S H Fzer98 fun b9 a w S H => ?_)
  refine wl_of (op_store (wn rfl) rfl rfl S H rfl rfl rfl Fsiz98 rfl fun a w S H => ?_)
  dsimp only [List.set, Nat.zero_add, Nat.reduceAdd] at H
  refine gnt ?_
  refine g_seq ?_
  refine gsr ?_
  refine gm S fun a S => ?_
  refine gy rfl rfl rfl S (y_lens rfl Tryz.underlying40 S H rfl) fun a S => ?_
  refine gm S fun a S => ?_
  refine gnt ?_
  refine g_block ?_
  have H := ((H.front (Cel b9 98 [.func (.func 39) #[] #[.pointer (some ⟨b8, 0, none⟩)]])).freeze.defs0).take [DefsA [], Cel b8 61 (encF (.slice (some ⟨b22, 0, none⟩) 16 16)), OSl 97 (.slice (some ⟨b22, 0, none⟩) 16 16) 1 encU (List.replicate 16 0), Atom.ro (Cel b9 98 [.func (.func 39) #[] #[.pointer (some ⟨b8, 0, none⟩)]]), Cel b6 61 [.int .i64 0, .int .i64 0, .slice none 0 0], Sl v 1 encI ns, TabsA]
  have SU := (((((((S.nil.cons S 2 rfl).cons S 1 rfl).cons S 6 rfl).cons S 7 rfl).cons S 8 rfl).cons S 9 rfl).cons S 25 rfl).cons S 26 rfl
  refine loopD (X := Nat × List Nat) (fun x => x.2) (fun x => [(27, .int .i64 (x.1 : Int))]) (fun x w => x.1 ≤ ns.length ∧ HSat No w0 [DefsA x.2, Cel b8 61 (encF (.slice (some ⟨b22, 0, none⟩) 16 16)), OSl 97 (.slice (some ⟨b22, 0, none⟩) 16 16) 1 encU (makeW (ns.take x.1)), Atom.ro (Cel b9 98 [.func (.func 39) #[] #[.pointer (some ⟨b8, 0, none⟩)]]), Cel b6 61 [.int .i64 0, .int .i64 0, .slice none 0 0], Sl v 1 encI ns, TabsA] w) (fun x => ns.length - x.1) (0, []) SU (S.nil.cons S 27 rfl) (⟨Nat.zero_le _, H⟩) (fun x a w S hW => ?_)
  simp only [List.cons_append, List.nil_append] at S
  obtain ⟨i, ds⟩ := x
  obtain ⟨hi, H⟩ := hW
  dsimp only at S H hi
  refine gsr ?_
  refine gy rfl rfl rfl S (y_bin rfl S rfl rfl rfl) fun a S => ?_
  refine gnt ?_
  refine g_seq ?_
  refine c_if S rfl (fun h2 => ?_) (fun h2 => ?_)
  ·have h2p := h2; try simp only [DL] at h2p
   have hil : i < ns.length := by omega
   have hsn := hns _ (List.getElem_mem hil)
   refine g_skip ?_
   refine n_then ?_
   refine g_seq ?_
   refine g_block ?_
   refine gsr ?_
   refine gy rfl rfl rfl S (y_iaddrn rfl Tryz.underlying40 Fsiz3 S H rfl rfl (by first | assumption | omega | (simp only [LL]; omega))) fun a S => ?_
   refine gy rfl rfl rfl S (y_loads _ rfl Fsca3 S H rfl (by first | assumption | omega | (simp only [LL]; omega)) rfl) fun a S => ?_
   refine ga S fun a S => ?_
   refine gnt ?_
   refine gsr ?_
   refine gm S fun a S => ?_
   refine gm S fun a S => ?_
   refine gm S fun a S => ?_
   refine wl_of (op_call (wn rfl) rfl rfl S (co_func rfl Tryz.call40 S rfl) (positions_spec ns[i] 1024 3 _) fun v w hc a S => ?_)
   obtain ⟨b5, b3, b4, rfl, H1⟩ := hc
   have H := H.call H1 (by simp [Blk])
   simp only [List.cons_append, List.nil_append] at H
   have H := ((H.freeze.front (Cel b4 3 [.int .i64 1024])).freeze.front (Cel b3 3 [.int .i64 ns[i]])).freeze
   refine gnt ?_
   have S := (((((((((S.nil.cons S 2 rfl).cons S 1 rfl).cons S 6 rfl).cons S 7 rfl).cons S 8 rfl).cons S 9 rfl).cons S 25 rfl).cons S 26 rfl).cons S 27 rfl).cons S 34 rfl
   refine g_block ?_
   refine g_range (Φ := fun p l2 => p = none ∧ l2 = [Cel b8 61 (encF (.slice (some ⟨b22, 0, none⟩) 16 16)), OSl 97 (.slice (some ⟨b22, 0, none⟩) 16 16) 1 encU (setP (makeW (ns.take i)) ns[i] (3)), Atom.ro (Cel b9 98 [.func (.func 39) #[] #[.pointer (some ⟨b8, 0, none⟩)]]), Cel b6 61 [.int .i64 0, .int .i64 0, .slice none 0 0], Sl v 1 encI ns, TabsA]) S (H.take [DefsA ds, Atom.ro (Cel b5 3 [.int .i64 ((3 : Nat) : Int)]), Atom.ro (Cel b3 3 [.int .i64 ns[i]]), Atom.ro (Cel b4 3 [.int .i64 ((1024 : Nat) : Int)]), TabsA, Cel b8 61 (encF (.slice (some ⟨b22, 0, none⟩) 16 16)), OSl 97 (.slice (some ⟨b22, 0, none⟩) 16 16) 1 encU (makeW (ns.take i)), Atom.ro (Cel b9 98 [.func (.func 39) #[] #[.pointer (some ⟨b8, 0, none⟩)]]), Cel b6 61 [.int .i64 0, .int .i64 0, .slice none 0 0], Sl v 1 encI ns]) rfl Tryz.call69 (fun R lb w1 hrec H1 => ?_) ?_
   ·have SR := S.recd
    refine Ret.mono (pos_iter (M := No) (u0 := w0) (Z := Unit) (fun k _ => Blk lb (.loop R) :: DefsA (R.defers :: ds) :: Cel b8 61 (encF (.slice (some ⟨b22, 0, none⟩) 16 16)) :: OSl 97 (.slice (some ⟨b22, 0, none⟩) 16 16) 1 encU (setP (makeW (ns.take i)) ns[i] (k)) :: Atom.ro (Cel b9 98 [.func (.func 39) #[] #[.pointer (some ⟨b8, 0, none⟩)]]) :: Cel b6 61 [.int .i64 0, .int .i64 0, .slice none 0 0] :: Sl v 1 encI ns :: []) (fun _ => [PureA False]) lb b5 b3 b4 ns[i] 1024 3 w1 hsn (by decide) (by decide) (fun k hk z w H => ?_) ⟨(), by have h := H1.take (Atom.ro (Cel b5 3 [.int .i64 ((3 : Nat) : Int)]) :: Atom.ro (Cel b3 3 [.int .i64 ns[i]]) :: Atom.ro (Cel b4 3 [.int .i64 ((1024 : Nat) : Int)]) :: TabsA :: Blk lb (.loop R) :: DefsA (R.defers :: ds) :: Cel b8 61 (encF (.slice (some ⟨b22, 0, none⟩) 16 16)) :: OSl 97 (.slice (some ⟨b22, 0, none⟩) 16 16) 1 encU (makeW (ns.take i)) :: Atom.ro (Cel b9 98 [.func (.func 39) #[] #[.pointer (some ⟨b8, 0, none⟩)]]) :: Cel b6 61 [.int .i64 0, .int .i64 0, .slice none 0 0] :: Sl v 1 encI ns :: []); exact h⟩) ?_
    ·skip
     skip
     refine yield1 hrec SR H rfl (fun a S => ?_)
     refine g_region ?_
     refine ga S fun a S => ?_
     refine gnt ?_
     refine r_begin hrec H (fun w H => ?_)
     refine g_block ?_
     refine g_region ?_
     refine gy rfl rfl rfl S (y_load rfl Fsca98 S H rfl rfl) fun a S => ?_
     refine gm S fun a S => ?_
     refine wl_of (op_call (wn rfl) rfl rfl S (co_value rfl Tryz.call39 S rfl rfl) (set_spec b8 (.slice (some ⟨b22, 0, none⟩) 16 16) (setP (makeW (ns.take i)) ns[i] (k)) (posN ns[i] 1024 k) _ (H.front2 (Cel b8 61 (encF (.slice (some ⟨b22, 0, none⟩) 16 16))) (OSl 97 (.slice (some ⟨b22, 0, none⟩) 16 16) 1 encU (setP (makeW (ns.take i)) ns[i] (k)))) ((makeW_ok _).setP _ k) (posN_lt _ (by decide) k)) fun v w hc a S => ?_)
     obtain ⟨rfl, H⟩ := hc
     
     refine gl_nil ?_
     refine n_block ?_
     refine r_end hrec H (fun w H => ?_)
     rw [show setW (setP (makeW (ns.take i)) ns[i] (k)) (posN ns[i] 1024 k) = setP (makeW (ns.take i)) ns[i] (k + 1) from rfl] at H
     exact ⟨true, rfl, (), H.take (Atom.ro (Cel b5 3 [.int .i64 ((3 : Nat) : Int)]) :: Atom.ro (Cel b3 3 [.int .i64 ns[i]]) :: Atom.ro (Cel b4 3 [.int .i64 ((1024 : Nat) : Int)]) :: TabsA :: Blk lb (.loop R) :: DefsA (R.defers :: ds) :: Cel b8 61 (encF (.slice (some ⟨b22, 0, none⟩) 16 16)) :: OSl 97 (.slice (some ⟨b22, 0, none⟩) 16 16) 1 encU (setP (makeW (ns.take i)) ns[i] (k + 1)) :: Atom.ro (Cel b9 98 [.func (.func 39) #[] #[.pointer (some ⟨b8, 0, none⟩)]]) :: Cel b6 61 [.int .i64 0, .int .i64 0, .slice none 0 0] :: Sl v 1 encI ns :: [])⟩
    ·rintro _ w2 (⟨_, H2⟩ | ⟨_, H2⟩)
     · exact ⟨.ready, none, _, by simp, ⟨rfl, rfl⟩, by rw [hrec.same]; exact H2.take [Blk lb (.loop R), DefsA (R.defers :: ds), Cel b8 61 (encF (.slice (some ⟨b22, 0, none⟩) 16 16)), OSl 97 (.slice (some ⟨b22, 0, none⟩) 16 16) 1 encU (setP (makeW (ns.take i)) ns[i] (3)), Atom.ro (Cel b9 98 [.func (.func 39) #[] #[.pointer (some ⟨b8, 0, none⟩)]]), Cel b6 61 [.int .i64 0, .int .i64 0, .slice none 0 0], Sl v 1 encI ns, TabsA]⟩
     · exact (H2.take [PureA False]).fact.elim
   ·intro bd a w pend l2 S H hΦ
    obtain ⟨rfl, rfl⟩ := hΦ
    refine n_block ?_
    refine n_block ?_
    refine n_then ?_
    refine g_region ?_
    refine gy rfl rfl rfl S (y_add rfl S rfl rfl (by omega)) fun a S => ?_
    refine gm S fun a S => ?_
    refine gnt ?_
    exact ⟨(i + 1, bd :: ds), S.nil.cons S 27 rfl, (((((((S.nil.cons S 2 rfl).cons S 1 rfl).cons S 6 rfl).cons S 7 rfl).cons S 8 rfl).cons S 9 rfl).cons S 25 rfl).cons S 26 rfl, ⟨by dsimp only; omega, by dsimp only; rw [List.take_succ_eq_append_getElem hil, makeW_snoc]; exact H.take [DefsA (bd :: ds), Cel b8 61 (encF (.slice (some ⟨b22, 0, none⟩) 16 16)), OSl 97 (.slice (some ⟨b22, 0, none⟩) 16 16) 1 encU (setP (makeW (ns.take i)) ns[i] (3)), Atom.ro (Cel b9 98 [.func (.func 39) #[] #[.pointer (some ⟨b8, 0, none⟩)]]), Cel b6 61 [.int .i64 0, .int .i64 0, .slice none 0 0], Sl v 1 encI ns, TabsA]⟩, by dsimp only; omega⟩
  ·have h2p := h2; try simp only [DL] at h2p
   obtain rfl : i = ns.length := by omega
   rw [List.take_length] at H
   refine g_exit ?_
   refine x_then (x_then (x_eq ?_))
   refine n_then ?_
   have S := ((S.nil.cons S 6 rfl).cons S 7 rfl).cons S 8 rfl
   refine gsr ?_
   refine gy rfl rfl rfl S (y_load0 rfl S H rfl (by exact Fagg61)) fun a S => ?_
   refine wl_of (op_storea (wn rfl) rfl rfl S H rfl rfl rfl Fsiz61 rfl (cs' := [_, _, _]) rfl fun a w S H => ?_)
   refine ga S fun a S => ?_
   refine gnt ?_
   refine g_ret ?_
   refine ret2ctM rfl S (H.front (DefsA ds)) rfl rfl (by exact Fagg61) (fun w H => ?_)
   exact ⟨_, rfl, H.take [OSl 97 (.slice (some ⟨b22, 0, none⟩) 16 16) 1 encU (makeW ns)]⟩
end Go.Proofs.YtienaifmlhcijaaGreatDoor
end
section
namespace Go.Proofs.YtienaifmlhcijaaGreatDoor
open Go Go.Gw
set_option linter.unusedVariables false
set_option linter.unusedSimpArgs false
theorem and1 (x : Nat) : x &&& 1 = x % 2 := Nat.and_one_is_mod x
set_option maxHeartbeats 2000000 in
/-- foyer/filter.Has -/
theorem has_spec (wv : Value) (ws : List Nat) (serial : Int) (w0 : World) (hw : IsSl w0 wv 1 encU ws) (hok : WOk ws) (hser : -9223372036854775808 ≤ serial ∧ serial ≤ 9223372036854775807) (hT : Tabs w0) :
    Ret Tryz.prog 47 #[.agg (encF wv).toArray, .int .i64 serial] w0 (fun u w => u = .bool (hasF ws serial) ∧ Ext w0 w) := by
 refine ret_of_wp (nt := 27) Tryz.func47 rfl rfl rfl (fl := [(0, .agg (encF wv).toArray), (1, .int .i64 serial)]) rfl (fun a S => ?_)
 have H := HSat.start w0
 have H := H.ro0 (TabsA) rfl (hT)
 have H := H.ro0 (Sl wv 1 encU ws) rfl (hw)
 obtain ⟨pw, cw, hpw⟩ := hw.shape
 have hl := hok.len
 refine gsr ?_
 refine wl_of (op_boxa (wn rfl) rfl rfl rfl S H (by rw [hpw]; rfl) fun b2 a w S H => ?_)
 rw [← hpw] at H
 refine wl_of (op_alloc (wn rfl) rfl rfl rfl S H Fzer4 fun b4 a w S H => ?_)
 refine gnt ?_
 refine g_seq ?_
 refine gsr ?_
 refine gy rfl rfl rfl S (y_load0 rfl S H rfl (by exact Fagg61)) fun a S => ?_
 refine wl_of (op_call (wn rfl) rfl rfl S (co_func rfl Tryz.call71 S rfl) (fvalid_spec wv ws _ (H.sl wv) hl) fun v w hc a S => ?_)
 obtain ⟨rfl, he⟩ := hc
 have H := H.ext he
 refine gy rfl rfl rfl S (y_not rfl S rfl) fun a S => ?_
 refine gnt ?_
 refine c_if S rfl (fun h1 => ?_) (fun h1 => ?_)
 ·have h1p := h1; try simp only [DL] at h1p
  all_goals (
    exact absurd h1 (by simp))
 ·have h1p := h1; try simp only [DL] at h1p
  refine g_skip ?_
  refine n_then ?_
  have S := ((S.nil.cons S 1 rfl).cons S 2 rfl).cons S 4 rfl
  refine g_seq ?_
  refine gsr ?_
  refine gm S fun a S => ?_
  refine gy rfl rfl rfl S (y_faddrb rfl Ffo61_0 S rfl) fun a S => ?_
  refine gy rfl rfl rfl S (y_load rfl Fsca3 S H rfl rfl) fun a S => ?_
  refine gy rfl rfl rfl S (y_faddrb rfl Ffo61_1 S rfl) fun a S => ?_
  refine gy rfl rfl rfl S (y_load rfl Fsca3 S H rfl rfl) fun a S => ?_
  refine wl_of (op_call (wn rfl) rfl rfl S (co_func rfl Tryz.call40 S rfl) (positions_spec serial 1024 3 _) fun v w hc a S => ?_)
  obtain ⟨b5, b3, b4p, rfl, H1⟩ := hc
  have H := H.call H1 (by simp [Blk])
  simp only [List.cons_append, List.nil_append] at H
  have H := ((H.freeze.front (Cel b4p 3 [.int .i64 1024])).freeze.front (Cel b3 3 [.int .i64 serial])).freeze
  have H := (H.laid (p := ∀ i, i < 0 → bitW ws (posN serial 1024 i) = true) (fun i h => absurd h (by omega))).defs0
  refine gnt ?_
  have S := ((S.nil.cons S 2 rfl).cons S 4 rfl).cons S 14 rfl
  refine g_block ?_
  refine g_range (Φ := fun p l2 => l2 = [Cel b4 4 [.bool false]] ∧ ((p = none ∧ ∀ i, i < 3 → bitW ws (posN serial 1024 i) = true) ∨ (p = some .ret ∧ ∃ i, i < 3 ∧ bitW ws (posN serial 1024 i) = false))) S (H.take [DefsA [], PureA (∀ i, i < 0 → bitW ws (posN serial 1024 i) = true), Atom.ro (Cel b5 3 [.int .i64 ((3 : Nat) : Int)]), Atom.ro (Cel b3 3 [.int .i64 serial]), Atom.ro (Cel b4p 3 [.int .i64 ((1024 : Nat) : Int)]), TabsA, Cel b4 4 [.bool false], Cel b2 61 (encF wv), Sl wv 1 encU ws]) rfl Tryz.call69 (fun R lb w1 hrec H1 => ?_) ?_
  ·have SR := S.recd
   refine Ret.mono (pos_iter (M := No) (u0 := w0) (Z := Unit) (fun k _ => Blk lb (.loop R) :: DefsA [R.defers] :: Cel b4 4 [.bool false] :: Cel b2 61 (encF wv) :: Sl wv 1 encU ws :: PureA (∀ i, i < k → bitW ws (posN serial 1024 i) = true) :: []) (fun _ => Blk lb (.loop { R with state := .done, pending := some .ret }) :: DefsA [R.defers] :: Cel b4 4 [.bool false] :: PureA (∃ i, i < 3 ∧ bitW ws (posN serial 1024 i) = false) :: []) lb b5 b3 b4p serial 1024 3 w1 hser (by decide) (by decide) (fun k hk z w H => ?_) ⟨(), H1.take (Atom.ro (Cel b5 3 [.int .i64 ((3 : Nat) : Int)]) :: Atom.ro (Cel b3 3 [.int .i64 serial]) :: Atom.ro (Cel b4p 3 [.int .i64 ((1024 : Nat) : Int)]) :: TabsA :: Blk lb (.loop R) :: DefsA [R.defers] :: Cel b4 4 [.bool false] :: Cel b2 61 (encF wv) :: Sl wv 1 encU ws :: PureA (∀ i, i < 0 → bitW ws (posN serial 1024 i) = true) :: [])⟩) ?_
   ·have hpl := posN_lt serial (bits := 1024) (by decide) k
    obtain ⟨m, hm⟩ : ∃ m, m = posN serial 1024 k := ⟨_, rfl⟩
    rw [← hm] at hpl ⊢
    refine yield1 hrec SR H rfl (fun a S => ?_)
    refine g_region ?_
    refine ga S fun a S => ?_
    refine gnt ?_
    refine r_begin hrec H (fun w H => ?_)
    refine g_block ?_
    refine gsr ?_
    refine gy rfl rfl rfl S (y_faddrb rfl Ffo61_2 S rfl) fun a S => ?_
    refine gy rfl rfl rfl S (y_load rfl Fsca59 S H rfl rfl) fun a S => ?_
    refine gm S fun a S => ?_
    refine gy rfl rfl rfl S ((y_quon (m := m) (q := 64) rfl S rfl rfl (by omega) (by omega) (by omega))) fun a S => ?_
    refine gy rfl rfl rfl S (y_iaddrn rfl Tryz.underlying59 Fsiz97 S H rfl rfl (by first | assumption | omega | (simp only [LL]; omega))) fun a S => ?_
    refine gy rfl rfl rfl S (y_loads _ rfl Fsca97 S H rfl (by first | assumption | omega | (simp only [LL]; omega)) rfl) fun a S => ?_
    refine gm S fun a S => ?_
    refine gy rfl rfl rfl S ((y_remn (m := m) (q := 64) rfl S rfl rfl (by omega) (by omega))) fun a S => ?_
    refine gy rfl rfl rfl S ((y_shru (m := ws[m / 64]) (q := m % 64) rfl S rfl rfl (by omega) rfl)) fun a S => ?_
    refine gy rfl rfl rfl S ((y_andu (m := ws[m / 64] >>> (m % 64)) (q := 1) rfl S rfl rfl (shr_lt (hok.at (by omega))) (by decide) (and1 _))) fun a S => ?_
    refine gy rfl rfl rfl S (y_bin rfl S rfl rfl rfl) fun a S => ?_
    refine gnt ?_
    have S := (S.nil.cons S 4 rfl).cons S 26 rfl
    refine c_if S rfl (fun h2 => ?_) (fun h2 => ?_)
    ·have h2p := h2; try simp only [DL] at h2p
     have hst : bitW ws (posN serial 1024 k) = false := by rw [← hm, bitW_at (by omega), decide_eq_false_iff_not]; have h := h2p; omega
     refine gsr ?_
     refine wl_of (op_store (wn rfl) rfl rfl S H rfl rfl rfl Fsiz4 rfl fun a w S H => ?_)
     dsimp only [List.set, Nat.zero_add, Nat.reduceAdd] at H
     refine gnt ?_
     refine g_ret ?_
     refine r_block (r_ret H (fun w H => ?_))
     exact ⟨false, rfl, (), by have h := (H.laid (p := ∃ i, i < 3 ∧ bitW ws (posN serial 1024 i) = false) ⟨k, hk, hst⟩).take (Atom.ro (Cel b5 3 [.int .i64 ((3 : Nat) : Int)]) :: Atom.ro (Cel b3 3 [.int .i64 serial]) :: Atom.ro (Cel b4p 3 [.int .i64 ((1024 : Nat) : Int)]) :: TabsA :: Blk lb (.loop { R with state := .done, pending := some .ret }) :: DefsA [R.defers] :: Cel b4 4 [.bool false] :: PureA (∃ i, i < 3 ∧ bitW ws (posN serial 1024 i) = false) :: []); exact h⟩
    ·have h2p := h2; try simp only [DL] at h2p
     have hst : bitW ws (posN serial 1024 k) = true := by rw [← hm, bitW_at (by omega), decide_eq_true_eq]; have h := h2p; omega
     refine g_skip ?_
     refine n_block ?_
     refine r_end hrec H (fun w H => ?_)
     exact ⟨true, rfl, (), by have h := (H.laid (p := ∀ i, i < k + 1 → bitW ws (posN serial 1024 i) = true) (fun i hi => by by_cases hik : i < k; exact (H.take [PureA (∀ i, i < k → bitW ws (posN serial 1024 i) = true)]).fact i hik; (obtain rfl : i = k := by omega); exact hst)).take (Atom.ro (Cel b5 3 [.int .i64 ((3 : Nat) : Int)]) :: Atom.ro (Cel b3 3 [.int .i64 serial]) :: Atom.ro (Cel b4p 3 [.int .i64 ((1024 : Nat) : Int)]) :: TabsA :: Blk lb (.loop R) :: DefsA [R.defers] :: Cel b4 4 [.bool false] :: Cel b2 61 (encF wv) :: Sl wv 1 encU ws :: PureA (∀ i, i < k + 1 → bitW ws (posN serial 1024 i) = true) :: []); exact h⟩
   ·rintro _ w2 (⟨_, H2⟩ | ⟨_, H2⟩)
    · have hf := (H2.take [PureA (∀ i, i < 3 → bitW ws (posN serial 1024 i) = true)]).fact
      exact ⟨.ready, none, _, by simp, ⟨rfl, .inl ⟨rfl, hf⟩⟩, by rw [hrec.same]; exact H2.take [Blk lb (.loop R), DefsA [R.defers], Cel b4 4 [.bool false]]⟩
    · have hf := (H2.take [PureA (∃ i, i < 3 ∧ bitW ws (posN serial 1024 i) = false)]).fact
      exact ⟨.done, some .ret, _, by simp, ⟨rfl, .inr ⟨rfl, hf⟩⟩, H2.take [Blk lb (.loop { R with state := .done, pending := some .ret }), DefsA [R.defers], Cel b4 4 [.bool false]]⟩
  ·intro bd a w pend l2 S H hΦ
   obtain ⟨rfl, hΦ⟩ := hΦ
   rcases hΦ with ⟨rfl, hall⟩ | ⟨rfl, hbad⟩
   rotate_left
   ·skip
    refine g_ret ?_
    refine r_block (r_then (retcsM rfl S (H.front (DefsA [bd])) rfl Fsca4 rfl (fun w H => ?_)))
    obtain ⟨i, hi, hb⟩ := hbad
    exact ⟨congrArg Value.bool (by unfold hasF; rw [List.all_eq_false.2 ⟨i, List.mem_range.2 hi, by rw [hb]; simp⟩]), H.toExt⟩
   refine n_block ?_
   refine n_then ?_
   refine gsr ?_
   refine wl_of (op_store (wn rfl) rfl rfl S H rfl rfl rfl Fsiz4 rfl fun a w S H => ?_)
   dsimp only [List.set, Nat.zero_add, Nat.reduceAdd] at H
   refine gnt ?_
   refine g_ret ?_
   refine retcsM rfl S (H.front (DefsA [bd])) rfl Fsca4 rfl (fun w H => ?_)
   exact ⟨congrArg Value.bool (by unfold hasF; rw [List.all_eq_true.2 fun i hi => hall i (List.mem_range.1 hi)]), H.toExt⟩
end Go.Proofs.YtienaifmlhcijaaGreatDoor
end
section
namespace Go.Proofs.YtienaifmlhcijaaGreatDoor
open Go Go.Gw
set_option linter.unusedVariables false
set_option linter.unusedSimpArgs false
theorem y_negW {P : Program} {o : Oper} {n : Sz} {fl : Slots} {a : Act} {w : World} {T : TypeId} {x : Operand} {k : IntKind} {m r : Int} (ho : o.op = .unOp .neg T x) (S : St n fl a) (hx : ev fl x = some (.int k m)) (hr : k.wrap (-m) = r) : Yld P o a w (.int k r) := by
  unfold Yld execOp; rw [ho]; simp [S.ev hx, Op.unary, Op.intArith, hr]
theorem y_and1615 {P : Program} {o : Oper} {n : Sz} {fl : Slots} {a : Act} {w : World} {T U : TypeId} {x y : Operand} (ho : o.op = .binOp .and T x y U) (S : St n fl a) (hx : ev fl x = some (.int .i64 16)) (hy : ev fl y = some (.int .i64 15)) : Yld P o a w (.int .i64 0) := by
  unfold Yld execOp; rw [ho]; simp only [S.ev hx, S.ev hy]; rfl
theorem tsz (t : List UInt8) : (ByteArray.mk t.toArray).size = t.length := by simp [ByteArray.size]
def dbZ : List Nat := [0, 1, 56, 2, 57, 49, 28, 3, 61, 58, 42, 50, 38, 29, 17, 4, 62, 47, 59, 36, 45, 43, 51, 22, 53, 39, 33, 30, 24, 18, 12, 5, 63, 55, 48, 27, 60, 41, 37, 16, 46, 35, 44, 21, 52, 32, 23, 11, 54, 26, 40, 15, 34, 20, 31, 10, 25, 14, 19, 9, 13, 8, 7, 6]
def dbV : List Value := dbZ.map fun n : Nat => Value.int .u8 (n : Int)
def TabBs (w : World) : Prop := ∃ T fz, w.heap[6]? = some (.cells dbV.toArray T fz)
/-- the table, read alone -/
def TabB : Atom where
  own := false
  fp := (· = 6)
  ok := TabBs
  loc := fun w w' h ⟨T, fz, hk⟩ => ⟨T, fz, (h 6 rfl).trans hk⟩
  lt := fun w b ⟨T, fz, hk⟩ hb => by subst hb; exact (Array.getElem?_eq_some_iff.1 hk).1
instance ROs.tabB (r : List Atom) [h : ROs r] : ROs (TabB :: r) := ⟨by simpa [TabB] using h.all⟩
theorem tabB_of {M : Nat → Prop} {w0 w : World} {l : List Atom} (H : HSat M w0 l w) [h : HasAt l TabB] : TabBs w := H.ok TabB h.mem
theorem TabBs.ext {w w' : World} (e : Ext w w') (h : TabBs w) : TabBs w' := TabB.loc w w' (fun b hb => e.block (TabB.lt w b h hb)) h
/-- math/bits.TrailingZeros64 -/
theorem tz64_spec (w0 : World) (T0 : TypeId) (fz : Nat × Nat) (hG : w0.heap[6]? = some (.cells dbV.toArray T0 fz)) :
    Ret Tryz.prog 186 #[.int .u64 16] w0 (fun u w => u = .int .i64 4 ∧ Ext w0 w) := by
 refine ret_of_wp (nt := 14) Tryz.func186 rfl rfl rfl (fl := [(0, .int .u64 16)]) rfl (fun a S => ?_)
 have H := HSat.start w0
 have H := H.ro0 (Atom.ro (Blk 6 (.cells dbV.toArray T0 fz))) rfl (hG)
 refine gsr ?_
 refine ga S fun a S => ?_
 refine gnt ?_
 refine g_seq ?_
 refine gsr ?_
 refine gm S fun a S => ?_
 refine gy rfl rfl rfl S (y_bin rfl S rfl rfl rfl) fun a S => ?_
 refine gnt ?_
 refine c_if S rfl (fun h1 => ?_) (fun h1 => ?_)
 ·have h1p := h1; try simp only [DL] at h1p
  all_goals (
    exact absurd h1 (by simp))
 ·have h1p := h1; try simp only [DL] at h1p
  refine g_skip ?_
  refine n_then ?_
  refine gsr ?_
  refine gm S fun a S => ?_
  refine gm S fun a S => ?_
  refine gy rfl rfl rfl S ((y_negW (r := 18446744073709551600) rfl S rfl rfl)) fun a S => ?_
  refine gy rfl rfl rfl S ((y_andu (m := 16) (q := 18446744073709551600) rfl S rfl rfl (by decide) (by decide) rfl)) fun a S => ?_
  refine gy rfl rfl rfl S ((y_binW (r := 4573923408821661840) rfl S rfl rfl rfl)) fun a S => ?_
  refine gy rfl rfl rfl S ((y_shru (m := 4573923408821661840) (q := 58) rfl S rfl rfl (by decide) rfl)) fun a S => ?_
  refine gy rfl rfl rfl S (y_iaddra rfl Tryz.underlying256 Fsiz5 S rfl rfl (by omega)) fun a S => ?_
  refine gy rfl rfl rfl S ((y_load (v := .int .u8 4) rfl Fsca5 S H rfl rfl)) fun a S => ?_
  refine gy rfl rfl rfl S (y_convg (r := 4) rfl Tryz.underlying5 Tryz.underlying3 S rfl (by rfl)) fun a S => ?_
  refine ga S fun a S => ?_
  refine gnt ?_
  have S := S.nil.cons S 2 rfl
  refine g_ret ?_
  refine ret1 rfl S rfl ?_
  exact ⟨rfl, H.toExt⟩
/-- internal/strconv.isPowerOfTwo -/
theorem pow2_spec (w0 : World) :
    Ret Tryz.prog 172 #[.int .i64 16] w0 (fun u w => u = .bool true ∧ Ext w0 w) := by
 refine ret_of_wp (nt := 8) Tryz.func172 rfl rfl rfl (fl := [(0, .int .i64 16)]) rfl (fun a S => ?_)
 have H := HSat.start w0
 refine gsr ?_
 refine ga S fun a S => ?_
 refine gnt ?_
 refine gsr ?_
 refine gm S fun a S => ?_
 refine gm S fun a S => ?_
 refine gy rfl rfl rfl S ((y_binW (r := 15) rfl S rfl rfl rfl)) fun a S => ?_
 refine gy rfl rfl rfl S ((y_and1615 rfl S rfl rfl)) fun a S => ?_
 refine gy rfl rfl rfl S (y_bin rfl S rfl rfl rfl) fun a S => ?_
 refine ga S fun a S => ?_
 refine gnt ?_
 have S := S.nil.cons S 2 rfl
 refine g_ret ?_
 refine ret1 rfl S rfl ?_
 exact ⟨rfl, H.toExt⟩
/-- math/bits.TrailingZeros -/
theorem tz_spec (w0 : World) (hB : TabBs w0) :
    Ret Tryz.prog 173 #[.int .u64 16] w0 (fun u w => u = .int .i64 4 ∧ Ext w0 w) := by
 refine ret_of_wp (nt := 8) Tryz.func173 rfl rfl rfl (fl := [(0, .int .u64 16)]) rfl (fun a S => ?_)
 have H := HSat.start w0
 have H := H.ro0 (TabB) rfl (hB)
 refine gsr ?_
 refine ga S fun a S => ?_
 refine gnt ?_
 refine g_seq ?_
 refine c_if S rfl (fun h1 => ?_) (fun h1 => ?_)
 ·have h1p := h1; try simp only [DL] at h1p
  all_goals (
    exact absurd h1 (by simp))
 ·have h1p := h1; try simp only [DL] at h1p
  refine g_skip ?_
  refine n_then ?_
  refine gsr ?_
  refine gm S fun a S => ?_
  refine wl_of (op_call (wn rfl) rfl rfl S (co_func rfl Tryz.call186 S rfl) (Ret.mono (by obtain ⟨T0, fz, hG⟩ := tabB_of H; exact tz64_spec _ T0 fz hG) (fun u w h => h)) fun v w hc a S => ?_)
  obtain ⟨rfl, he⟩ := hc
  have H := H.ext he
  refine ga S fun a S => ?_
  refine gnt ?_
  have S := S.nil.cons S 2 rfl
  refine g_ret ?_
  refine ret1 rfl S rfl ?_
  exact ⟨rfl, H.toExt⟩
theorem shr4 {n k : Nat} : (n >>> (4 * k)) >>> 4 = n >>> (4 * (k + 1)) := by rw [← Nat.shiftRight_add]; rfl
theorem shrlt {n : Nat} (hn : n < 18446744073709551616) {k : Nat} (hk : k ≤ 15) (h : ¬ n >>> (4 * k) < 16) : k ≤ 14 := by
  rcases Nat.lt_or_ge k 15 with h1 | h1
  · omega
  · obtain rfl : k = 15 := by omega
    exfalso; apply h
    rw [Nat.shiftRight_eq_div_pow]; omega
set_option maxHeartbeats 1000000 in
/-- internal/strconv.formatBits -/
theorem fbits_spec (n : Nat) (w0 : World) (hn : n < 18446744073709551616) (hB : TabBs w0) :
    Ret Tryz.prog 146 #[.slice none 0 0, .int .u64 (n : Int), .int .i64 16, .bool false, .bool false] w0 (fun u w => ∃ s : ByteArray, u = .tuple #[.slice none 0 0, .string s] ∧ 1 ≤ s.size ∧ s.size ≤ 16 ∧ Ext w0 w) := by
 refine ret_of_wp (nt := 102) Tryz.func146 rfl rfl rfl (fl := [(0, .slice none 0 0), (1, .int .u64 (n : Int)), (2, .int .i64 16), (3, .bool false), (4, .bool false)]) rfl (fun a S => ?_)
 have H := HSat.start w0
 have H := H.ro0 (TabB) rfl (hB)
 refine gsr ?_
 refine ga S fun a S => ?_
 refine ga S fun a S => ?_
 refine gnt ?_
 refine g_seq ?_
 refine gsr ?_
 refine gm S fun a S => ?_
 refine gy rfl rfl rfl S (y_bin rfl S rfl rfl rfl) fun a S => ?_
 refine gm S fun a S => ?_
 refine gz 21 rfl S rfl rfl rfl rfl rfl rfl (y_move rfl S rfl) fun a S => ?_
 refine gz 21 rfl S rfl rfl rfl rfl rfl rfl (y_bin rfl S rfl rfl rfl) fun a S => ?_
 refine gy rfl rfl rfl S (y_or' rfl rfl S rfl rfl) fun a S => ?_
 refine gm S fun a S => ?_
 refine gz 25 rfl S rfl rfl rfl rfl rfl rfl (y_move rfl S rfl) fun a S => ?_
 refine gz 25 rfl S rfl rfl rfl rfl rfl rfl (y_bin rfl S rfl rfl rfl) fun a S => ?_
 refine gy rfl rfl rfl S (y_or' rfl rfl S rfl rfl) fun a S => ?_
 refine gnt ?_
 have S := (((((((S.nil.cons S 4 rfl).cons S 3 rfl).cons S 2 rfl).cons S 1 rfl).cons S 0 rfl).cons S 10 rfl).cons S 11 rfl).cons S 28 rfl
 refine c_if S rfl (fun h3 => ?_) (fun h3 => ?_)
 ·have h3p := h3; try simp only [DL] at h3p
  all_goals (
    exact absurd h3 (by simp))
 ·have h3p := h3; try simp only [DL] at h3p
  refine g_skip ?_
  refine n_then ?_
  refine gsr ?_
  refine wl_of (op_alloc (wn rfl) rfl rfl rfl S H Fzer240 fun b12 a w S H => ?_)
  refine gnt ?_
  refine gsr ?_
  refine ga S fun a S => ?_
  refine gnt ?_
  refine g_seq ?_
  refine gsr ?_
  refine gm S fun a S => ?_
  refine gnt ?_
  refine c_if S rfl (fun h4 => ?_) (fun h4 => ?_)
  ·have h4p := h4; try simp only [DL] at h4p
   all_goals (
     exact absurd h4 (by simp))
  ·have h4p := h4; try simp only [DL] at h4p
   refine g_skip ?_
   refine n_then ?_
   refine g_seq ?_
   refine gsr ?_
   refine gm S fun a S => ?_
   refine wl_of (op_call (wn rfl) rfl rfl S (co_func rfl Tryz.call172 S rfl) (pow2_spec _) fun v w hc a S => ?_)
   obtain ⟨rfl, he⟩ := hc
   have H := H.ext he
   refine gnt ?_
   refine c_if S rfl (fun h5 => ?_) (fun h5 => ?_)
   ·have h5p := h5; try simp only [DL] at h5p
    refine gsr ?_
    refine gm S fun a S => ?_
    refine gy rfl rfl rfl S (y_convg (r := 16) rfl Tryz.underlying3 Tryz.underlying116 S rfl (by rfl)) fun a S => ?_
    refine wl_of (op_call (wn rfl) rfl rfl S (co_func rfl Tryz.call173 S rfl) (tz_spec _ (tabB_of H)) fun v w hc a S => ?_)
    obtain ⟨rfl, he⟩ := hc
    have H := H.ext he
    refine gy rfl rfl rfl S (y_convg (r := 4) rfl Tryz.underlying3 Tryz.underlying116 S rfl (by rfl)) fun a S => ?_
    refine ga S fun a S => ?_
    refine gnt ?_
    have S := (((((((((S.nil.cons S 4 rfl).cons S 3 rfl).cons S 2 rfl).cons S 1 rfl).cons S 0 rfl).cons S 10 rfl).cons S 11 rfl).cons S 12 rfl).cons S 13 rfl).cons S 14 rfl
    refine gsr ?_
    refine gm S fun a S => ?_
    refine gy rfl rfl rfl S (y_convg (r := 16) rfl Tryz.underlying3 Tryz.underlying97 S rfl (by rfl)) fun a S => ?_
    refine ga S fun a S => ?_
    refine gnt ?_
    refine gsr ?_
    refine gm S fun a S => ?_
    refine gy rfl rfl rfl S (y_convg (r := 16) rfl Tryz.underlying3 Tryz.underlying116 S rfl (by rfl)) fun a S => ?_
    refine gy rfl rfl rfl S ((y_binW (r := 15) rfl S rfl rfl rfl)) fun a S => ?_
    refine ga S fun a S => ?_
    refine gnt ?_
    have S := ((((((((((S.nil.cons S 4 rfl).cons S 3 rfl).cons S 1 rfl).cons S 0 rfl).cons S 10 rfl).cons S 11 rfl).cons S 12 rfl).cons S 13 rfl).cons S 14 rfl).cons S 15 rfl).cons S 16 rfl
    refine g_seq ?_
    refine g_block ?_
    have SU := ((((((((S.nil.cons S 4 rfl).cons S 3 rfl).cons S 0 rfl).cons S 10 rfl).cons S 11 rfl).cons S 12 rfl).cons S 14 rfl).cons S 15 rfl).cons S 16 rfl
    refine loopW (X := Nat × List UInt8) SU (fun x => [(13, .int .i64 ((65 - x.1 : Nat) : Int)), (1, .int .u64 ((n >>> (4 * x.1) : Nat) : Int))]) (fun x w => x.1 ≤ 15 ∧ x.2.length = 65 ∧ HSat No w0 [Cel b12 240 (x.2.map u8V), TabB] w) (fun x => 15 - x.1) (0, List.replicate 65 0) ((S.nil.cons S 1 rfl).cons S 13 rfl) (⟨by decide, by rfl, H⟩) (fun x a w S hW => ?_)
    simp only [List.cons_append, List.nil_append] at S
    obtain ⟨k, bs⟩ := x
    obtain ⟨hk, hl, H⟩ := hW
    dsimp only at S H hk hl
    refine g_seq ?_
    refine gsr ?_
    refine gm S fun a S => ?_
    refine gm S fun a S => ?_
    refine gy rfl rfl rfl S (y_bin rfl S rfl rfl rfl) fun a S => ?_
    refine gnt ?_
    refine c_if S rfl (fun h6 => ?_) (fun h6 => ?_)
    ·have h6p := h6; try simp only [DL] at h6p
     have hk2 := shrlt hn hk (by have h := h6p; omega)
     refine g_skip ?_
     refine n_then ?_
     refine g_block ?_
     refine gsr ?_
     refine gm S fun a S => ?_
     refine gy rfl rfl rfl S ((y_subn (m := 65 - (k + 1)) rfl S rfl rfl (by omega) (by omega))) fun a S => ?_
     refine ga S fun a S => ?_
     refine gnt ?_
     have S := ((((((((((S.nil.cons S 4 rfl).cons S 3 rfl).cons S 0 rfl).cons S 10 rfl).cons S 11 rfl).cons S 12 rfl).cons S 14 rfl).cons S 15 rfl).cons S 16 rfl).cons S 1 rfl).cons S 13 rfl
     refine gsr ?_
     refine gm S fun a S => ?_
     refine gm S fun a S => ?_
     refine gm S fun a S => ?_
     refine gy rfl rfl rfl S ((y_andu (m := n >>> (4 * k)) (q := 15) rfl S rfl rfl (shr_lt hn) (by decide) (and15 _))) fun a S => ?_
     refine gy rfl rfl rfl S ((y_idxstr rfl Tryz.underlying9 S rfl rfl (Nat.lt_of_lt_of_le (Nat.mod_lt _ (by decide)) (by decide)))) fun a S => ?_
     refine gy rfl rfl rfl S (y_iaddra rfl Tryz.underlying240 Fsiz5 S rfl rfl (by omega)) fun a S => ?_
     refine wl_of (op_store (wn rfl) rfl rfl S H rfl rfl rfl Fsiz5 (by simp [hl]; omega) fun a w S H => ?_)
     refine gnt ?_
     have S := ((((((((((S.nil.cons S 4 rfl).cons S 3 rfl).cons S 0 rfl).cons S 10 rfl).cons S 11 rfl).cons S 12 rfl).cons S 14 rfl).cons S 15 rfl).cons S 16 rfl).cons S 1 rfl).cons S 13 rfl
     refine g_region ?_
     refine gm S fun a S => ?_
     refine gm S fun a S => ?_
     refine gy rfl rfl rfl S ((y_shru (m := n >>> (4 * k)) (q := 4) rfl S rfl rfl (by omega) shr4)) fun a S => ?_
     refine ga S fun a S => ?_
     refine gl_nil ?_
     refine n_block ?_
     refine n_then ?_
     simp only [Int.toNat_natCast, Nat.zero_add, Nat.mul_one] at H
     exact ⟨(k + 1, bs.set (65 - (k + 1)) _), (S.nil.cons S 1 rfl).cons S 13 rfl, ((((((((S.nil.cons S 4 rfl).cons S 3 rfl).cons S 0 rfl).cons S 10 rfl).cons S 11 rfl).cons S 12 rfl).cons S 14 rfl).cons S 15 rfl).cons S 16 rfl, ⟨by dsimp only; omega, by simpa using hl, u8set H⟩, by dsimp only; omega⟩
    ·have h6p := h6; try simp only [DL] at h6p
     have hlt : n >>> (4 * k) < 16 := by have h := h6p; omega
     refine g_exit ?_
     refine x_then (x_then (x_eq ?_))
     refine n_then ?_
     have S := (((((((S.nil.cons S 4 rfl).cons S 3 rfl).cons S 0 rfl).cons S 10 rfl).cons S 11 rfl).cons S 12 rfl).cons S 1 rfl).cons S 13 rfl
     refine gsr ?_
     refine gm S fun a S => ?_
     refine gy rfl rfl rfl S ((y_subn (m := 64 - k) rfl S rfl rfl (by omega) (by omega))) fun a S => ?_
     refine ga S fun a S => ?_
     refine gnt ?_
     refine g_region ?_
     refine gm S fun a S => ?_
     refine gm S fun a S => ?_
     refine gy rfl rfl rfl S ((y_idxstr rfl Tryz.underlying9 S rfl rfl (Nat.lt_of_lt_of_le (by omega) (by decide)))) fun a S => ?_
     refine gy rfl rfl rfl S (y_iaddra rfl Tryz.underlying240 Fsiz5 S rfl rfl (by omega)) fun a S => ?_
     refine wl_of (op_store (wn rfl) rfl rfl S H rfl rfl rfl Fsiz5 (by simp [hl]; omega) fun a w S H => ?_)
     refine gnt ?_
     have S := ((((((S.nil.cons S 4 rfl).cons S 3 rfl).cons S 0 rfl).cons S 10 rfl).cons S 11 rfl).cons S 12 rfl).cons S 13 rfl
     refine g_seq ?_
     refine g_seq ?_
     simp only [Int.toNat_natCast, Nat.zero_add, Nat.mul_one] at H
     have H := u8set H
     generalize hbs : bs.set (64 - k) _ = bs2 at H
     have hl2 : bs2.length = 65 := by rw [← hbs]; simpa using hl
     clear hbs hl
     generalize bs2 = bs at *
     ·skip
      refine g_region ?_
      refine gm S fun a S => ?_
      refine gnt ?_
      refine c_if S rfl (fun h7 => ?_) (fun h7 => ?_)
      ·have h7p := h7; try simp only [DL] at h7p
       all_goals (
         exact absurd h7 (by simp))
      ·have h7p := h7; try simp only [DL] at h7p
       refine g_skip ?_
       refine n_then ?_
       refine g_seq ?_
       refine gsr ?_
       refine gm S fun a S => ?_
       refine gnt ?_
       refine c_if S rfl (fun h8 => ?_) (fun h8 => ?_)
       ·have h8p := h8; try simp only [DL] at h8p
        all_goals (
          exact absurd h8 (by simp))
       ·have h8p := h8; try simp only [DL] at h8p
        refine g_skip ?_
        refine n_then ?_
        have S := (((S.nil.cons S 10 rfl).cons S 11 rfl).cons S 12 rfl).cons S 13 rfl
        refine gsr ?_
        refine gm S fun a S => ?_
        refine gy rfl rfl rfl S ((y_arrL (i := 64 - k) rfl Tryz.underlying240 Fsiz5 S rfl rfl (by omega))) fun a S => ?_
        refine gy rfl rfl rfl S ((y_bytestrO (bs.drop (64 - k)) rfl Tryz.underlying126 Tryz.underlying5 Tryz.underlying9 S H rfl (by rw [List.length_drop, hl2]) (fun j hj => by have hj2 := hj; rw [List.length_drop, hl2] at hj2; rw [Nat.mul_one, List.getElem?_map, List.getElem?_eq_getElem (by omega), List.getElem_drop]; rfl))) fun a S => ?_
        refine ga S fun a S => ?_
        refine gnt ?_
        have S := (S.nil.cons S 10 rfl).cons S 11 rfl
        refine g_ret ?_
        refine ret2 rfl S rfl rfl ?_
        exact ⟨_, rfl, by rw [tsz, List.length_drop, hl2]; omega, by rw [tsz, List.length_drop, hl2]; omega, H.toExt⟩
   ·have h5p := h5; try simp only [DL] at h5p
    all_goals (
      exact absurd h5 (by simp))
end Go.Proofs.YtienaifmlhcijaaGreatDoor
end
section
namespace Go.Proofs.YtienaifmlhcijaaGreatDoor
open Go Go.Gw
set_option linter.unusedVariables false
set_option linter.unusedSimpArgs false
theorem lens_le : ∀ {xs : List ByteArray}, (∀ x ∈ xs, x.size ≤ 32) → Go.Lib.lens (xs.map (·.data.toList)) ≤ 32 * xs.length
  | [], _ => by simp [Go.Lib.lens]
  | x :: r, h => by
    have h1 := h x (by simp)
    have h2 := lens_le (xs := r) fun y hy => h y (by simp [hy])
    have e : x.data.toList.length = x.size := Array.length_toList
    simp only [Go.Lib.lens, List.map_cons, List.sum_cons, List.length_cons] at h2 ⊢
    omega
theorem joined {xs : List ByteArray} (h2 : 2 ≤ xs.length) (h : ∀ x ∈ xs, x.size ≤ 32) (hl : xs.length ≤ 1000) : 1 ≤ (Go.Lib.join (xs.map (·.data.toList)) [32]).length ∧ (Go.Lib.join (xs.map (·.data.toList)) [32]).length ≤ 140737488355328 := by
  have hb := lens_le h
  match xs, h2 with
  | x :: y :: r, _ =>
    rw [List.map_cons] at hb ⊢
    rw [Go.Lib.join_length]
    simp only [List.length_cons, List.length_nil, List.length_map] at hl hb ⊢
    omega
theorem join_t {M : Nat → Prop} {u0 w0 : World} {l : List Atom} (v : Value) (xs : List ByteArray) (h0 : HSat M u0 (OSl 9 v 1 encS xs :: l) w0) (h2 : 2 ≤ xs.length) (h : ∀ x ∈ xs, x.size ≤ 32) (hl : xs.length ≤ 1000) :
    Ret Tryz.prog 74 #[v, .string ⟨#[32]⟩] w0 (fun u w => ∃ s : ByteArray, u = .string s ∧ 1 ≤ s.size ∧ Ext w0 w) := by
  obtain ⟨g, c, rfl, hc⟩ := h0.ownG (by omega)
  obtain ⟨j1, j2⟩ := joined h2 h hl
  have ho : IsOSl w0 9 (.slice (some ⟨g, 0, none⟩) xs.length c) 1 encS xs := h0.hd
  have hg : g < w0.heap.size := by
    rcases ho.row.2 with ⟨e, _⟩ | ⟨g', cap, cur, e, _, hg, _⟩
    · cases e
    · simp only [Value.slice.injEq, Option.some.injEq, Addr.mk.injEq, and_true, true_and] at e
      rw [e.1]; exact (Array.getElem?_eq_some_iff.1 hg).1
  refine Calls.mono (Tryz.strings_Join g 0 c xs ⟨#[32]⟩ w0 (fun j x hx => ?_) hg (by omega) hc j2) fun e w' ⟨he, hb⟩ => ⟨_, he, _, rfl, ?_, ext_below hb⟩
  · obtain ⟨hj, rfl⟩ := List.getElem?_eq_some_iff.1 hx
    have := ho.cells 0 j (.string xs[j]) (Nat.zero_le _) (by
      rw [List.drop_zero]
      have := flatMap_at (enc := encS) (sz := 1) (xs := xs) (fun x _ => rfl) j hj 0 (by decide)
      simpa [encS] using this)
    simpa using this
  · show 1 ≤ (Go.Lib.join (xs.map (·.data.toList)) [32]).toArray.size
    simpa using j1
theorem repeat_t (c : Nat) (hc : c ≤ 16) (w0 : World) : Ret Tryz.prog 73 #[.string ⟨#[48]⟩, .int .i64 (c : Int)] w0 (fun u w => ∃ s : ByteArray, u = .string s ∧ s.size = c ∧ Ext w0 w) := by
  refine Calls.mono (Tryz.strings_Repeat ⟨#[48]⟩ c w0 (by omega) (by show 1 * c ≤ _; omega)) fun e w' ⟨he, hb⟩ => ⟨_, he, _, rfl, ?_, ext_below hb⟩
  show (Go.Lib.repeatL [48] c).toArray.size = c
  rw [List.size_toArray, Go.Lib.repeatL_length]; simp
/-- internal/strconv.FormatUint -/
theorem ifuint_spec (n : Nat) (w0 : World) (hn : n < 18446744073709551616) (hB : TabBs w0) :
    Ret Tryz.prog 109 #[.int .u64 (n : Int), .int .i64 16] w0 (fun u w => ∃ s : ByteArray, u = .string s ∧ 1 ≤ s.size ∧ s.size ≤ 16 ∧ Ext w0 w) := by
 refine ret_of_wp (nt := 32) Tryz.func109 rfl rfl rfl (fl := [(0, .int .u64 (n : Int)), (1, .int .i64 16)]) rfl (fun a S => ?_)
 have H := HSat.start w0
 have H := H.ro0 (TabB) rfl (hB)
 refine gsr ?_
 refine ga S fun a S => ?_
 refine gnt ?_
 refine g_seq ?_
 refine gsr ?_
 refine gm S fun a S => ?_
 refine gy rfl rfl rfl S (y_bin rfl S rfl rfl rfl) fun a S => ?_
 refine gnt ?_
 refine c_if S rfl (fun h1 => ?_) (fun h1 => ?_)
 ·have h1p := h1; try simp only [DL] at h1p
  all_goals (
    exact absurd h1 (by simp))
 ·have h1p := h1; try simp only [DL] at h1p
  refine g_skip ?_
  refine n_then ?_
  refine gsr ?_
  refine gm S fun a S => ?_
  refine gm S fun a S => ?_
  refine wl_of (op_call (wn rfl) rfl rfl S (co_func rfl Tryz.call146 S rfl) (fbits_spec n _ hn (tabB_of H)) fun v w hc a S => ?_)
  obtain ⟨s, rfl, hs1, hs2, he⟩ := hc
  have H := H.ext he
  refine gm S fun a S => ?_
  refine gy rfl rfl rfl S (y_extract rfl S rfl rfl) fun a S => ?_
  refine gy rfl rfl rfl S (y_extract rfl S rfl rfl) fun a S => ?_
  refine ga S fun a S => ?_
  refine ga S fun a S => ?_
  refine gnt ?_
  have S := (S.nil.cons S 4 rfl).cons S 8 rfl
  refine gsr ?_
  refine gm S fun a S => ?_
  refine ga S fun a S => ?_
  refine gnt ?_
  refine g_ret ?_
  refine ret1 rfl S rfl ?_
  exact ⟨s, rfl, hs1, hs2, H.toExt⟩
/-- strconv.FormatUint -/
theorem fuint_spec (n : Nat) (w0 : World) (hn : n < 18446744073709551616) (hB : TabBs w0) :
    Ret Tryz.prog 72 #[.int .u64 (n : Int), .int .i64 16] w0 (fun u w => ∃ s : ByteArray, u = .string s ∧ 1 ≤ s.size ∧ s.size ≤ 16 ∧ Ext w0 w) := by
 refine ret_of_wp (nt := 8) Tryz.func72 rfl rfl rfl (fl := [(0, .int .u64 (n : Int)), (1, .int .i64 16)]) rfl (fun a S => ?_)
 have H := HSat.start w0
 have H := H.ro0 (TabB) rfl (hB)
 refine gsr ?_
 refine ga S fun a S => ?_
 refine gnt ?_
 refine gsr ?_
 refine gm S fun a S => ?_
 refine gm S fun a S => ?_
 refine wl_of (op_call (wn rfl) rfl rfl S (co_func rfl Tryz.call109 S rfl) (ifuint_spec n _ hn (tabB_of H)) fun v w hc a S => ?_)
 obtain ⟨s, rfl, hs1, hs2, he⟩ := hc
 have H := H.ext he
 refine ga S fun a S => ?_
 refine gnt ?_
 have S := S.nil.cons S 4 rfl
 refine g_ret ?_
 refine ret1 rfl S rfl ?_
 exact ⟨s, rfl, hs1, hs2, H.toExt⟩
set_option maxHeartbeats 1000000 in
/-- foyer/filter.Text -/
theorem text_ne (wv : Value) (ws : List Nat) (w0 : World) (hw : IsSl w0 wv 1 encU ws) (hok : WOk ws) (hT : Tabs w0) (hB : TabBs w0) :
    Ret Tryz.prog 42 #[.agg (encF wv).toArray] w0 (fun u w => ∃ s : ByteArray, u = .string s ∧ 1 ≤ s.size ∧ Ext w0 w) := by
 refine ret_of_wp (nt := 40) Tryz.func42 rfl rfl rfl (fl := [(0, .agg (encF wv).toArray)]) rfl (fun a S => ?_)
 have H := HSat.start w0
 have H := H.ro0 (TabsA) rfl (hT)
 have H := H.ro0 (TabB) rfl (hB)
 have H := H.ro0 (Sl wv 1 encU ws) rfl (hw)
 obtain ⟨pw, cw, hpw⟩ := hw.shape
 have hl := hok.len
 refine gsr ?_
 refine wl_of (op_boxa (wn rfl) rfl rfl rfl S H (by rw [hpw]; rfl) fun b1 a w S H => ?_)
 rw [← hpw] at H
 refine ga S fun a S => ?_
 refine gnt ?_
 refine g_seq ?_
 refine gsr ?_
 refine gy rfl rfl rfl S (y_load0 rfl S H rfl (by exact Fagg61)) fun a S => ?_
 refine wl_of (op_call (wn rfl) rfl rfl S (co_func rfl Tryz.call71 S rfl) (fvalid_spec wv ws _ (H.sl wv) hl) fun v w hc a S => ?_)
 obtain ⟨rfl, he⟩ := hc
 have H := H.ext he
 refine gy rfl rfl rfl S (y_not rfl S rfl) fun a S => ?_
 refine gnt ?_
 refine c_if S rfl (fun h1 => ?_) (fun h1 => ?_)
 ·have h1p := h1; try simp only [DL] at h1p
  all_goals (
    exact absurd h1 (by simp))
 ·have h1p := h1; try simp only [DL] at h1p
  refine g_skip ?_
  refine n_then ?_
  have S := (S.nil.cons S 1 rfl).cons S 2 rfl
  refine g_seq ?_
  refine region_st (loud := [6]) (tails := []) (free := []) [0, 1, 2, 3, 4, 5, 6, 7] [] Fmo (by kernel_rfl) (by kernel_rfl) rfl H ?_
  refine m_w rfl rfl (wn rfl) rfl rfl S (fun w H => y_faddrb rfl Ffo61_0 S rfl) fun a S => ?_
  refine m_w rfl rfl (wn rfl) rfl rfl S (fun w H => y_load rfl Fsca3 S H rfl rfl) fun a S => ?_
  refine m_c rfl rfl (wn rfl) rfl rfl S (fun w => co_func rfl Tryz.call64 S rfl) (fun w H => itoa_t 1024 (by decide) (by decide) _ H.tabs) fun a S => ?_
  refine m_w rfl rfl (wn rfl) rfl rfl S (fun w H => y_faddrb rfl Ffo61_1 S rfl) fun a S => ?_
  refine m_w rfl rfl (wn rfl) rfl rfl S (fun w H => y_load rfl Fsca3 S H rfl rfl) fun a S => ?_
  refine m_c rfl rfl (wn rfl) rfl rfl S (fun w => co_func rfl Tryz.call64 S rfl) (fun w H => itoa_t 3 (by decide) (by decide) _ H.tabs) fun a S => ?_
  refine m_l rfl rfl (fun w H => op_buildSlice (wn rfl) rfl rfl rfl Tryz.underlying93 Finf9 S H (idx := [0, 1]) rfl rfl rfl (z := [.string ⟨#[]⟩, .string ⟨#[]⟩]) (by kernel_rfl) (cs := [.string (itoaS 1024), .string (itoaS 3)]) rfl fun b15 a w S H => m_next H (List.sublist_cons_self _ _) ?_)
  refine m_w rfl rfl (wn rfl) rfl rfl S (fun w H => y_assign rfl S rfl) fun a S => ?_
  refine m_nil (fun w H => ?_)
  refine n_then ?_
  have S := ((S.nil.cons S 1 rfl).cons S 2 rfl).cons S 3 rfl
  refine g_seq ?_
  refine gsr ?_
  refine gy rfl rfl rfl S (y_faddrb rfl Ffo61_0 S rfl) fun a S => ?_
  refine gy rfl rfl rfl S (y_load rfl Fsca3 S H rfl rfl) fun a S => ?_
  refine gy rfl rfl rfl S ((y_quon (m := 1024) (q := 64) rfl S rfl rfl (by omega) (by omega) (by omega))) fun a S => ?_
  rw [show ((1024 : Int) / 64) = ((16 : Nat) : Int) from rfl] at S
  refine gm S fun a S => ?_
  refine gnt ?_
  refine g_block ?_
  have H := (H.front (Cel b15 9 [.string (itoaS 1024), .string (itoaS 3)])).celO [itoaS 1024, itoaS 3] encS 1 (m := 2) rfl (fun _ _ => rfl) rfl (by decide)
  have SU := ((S.nil.cons S 1 rfl).cons S 2 rfl).cons S 18 rfl
  refine loopW (X := Nat × Value × List ByteArray) SU (fun x => [(19, .int .i64 (x.1 : Int)), (3, x.2.1)]) (fun x w => x.1 ≤ 16 ∧ x.2.2.length = x.1 + 2 ∧ (∀ y ∈ x.2.2, y.size ≤ 32) ∧ HSat No w0 [OSl 9 x.2.1 1 encS x.2.2, Cel b1 61 (encF wv), Sl wv 1 encU ws, TabsA, TabB] w) (fun x => 16 - x.1) (0, .slice (some ⟨b15, 0, none⟩) 2 2, [itoaS 1024, itoaS 3]) ((S.nil.cons S 3 rfl).cons S 19 rfl) (⟨Nat.zero_le _, rfl, fun y hy => by simp only [List.mem_cons, List.not_mem_nil, or_false] at hy; have h1 := itoaS_size 1024 (by decide) (by decide); have h2 := itoaS_size 3 (by decide) (by decide); rcases hy with rfl | rfl <;> omega, H.take [OSl 9 (.slice (some ⟨b15, 0, none⟩) 2 2) 1 encS [itoaS 1024, itoaS 3], Cel b1 61 (encF wv), Sl wv 1 encU ws, TabsA, TabB]⟩) (fun x a w S hW => ?_)
  simp only [List.cons_append, List.nil_append] at S
  obtain ⟨k, v, xs⟩ := x
  obtain ⟨hk, hxl, hx, H⟩ := hW
  dsimp only at S H hk hxl hx
  refine gsr ?_
  refine gy rfl rfl rfl S (y_bin rfl S rfl rfl rfl) fun a S => ?_
  refine gnt ?_
  refine g_seq ?_
  refine c_if S rfl (fun h2 => ?_) (fun h2 => ?_)
  ·have h2p := h2; try simp only [DL] at h2p
   have hk16 : k < 16 := by omega
   refine g_skip ?_
   refine n_then ?_
   refine g_seq ?_
   refine g_block ?_
   refine gsr ?_
   refine gm S fun a S => ?_
   refine ga S fun a S => ?_
   refine gnt ?_
   refine gsr ?_
   refine gy rfl rfl rfl S (y_faddrb rfl Ffo61_2 S rfl) fun a S => ?_
   refine gy rfl rfl rfl S (y_load rfl Fsca59 S H rfl rfl) fun a S => ?_
   refine gm S fun a S => ?_
   refine gy rfl rfl rfl S (y_iaddrn rfl Tryz.underlying59 Fsiz97 S H rfl rfl (by first | assumption | omega | (simp only [LL]; omega))) fun a S => ?_
   refine gy rfl rfl rfl S (y_loads _ rfl Fsca97 S H rfl (by first | assumption | omega | (simp only [LL]; omega)) rfl) fun a S => ?_
   refine wl_of (op_call (wn rfl) rfl rfl S (co_func rfl Tryz.call72 S rfl) (fuint_spec ws[k] _ (hok.at (by omega)) (tabB_of H)) fun v w hc a S => ?_)
   obtain ⟨sd, rfl, hsd1, hsd2, he⟩ := hc
   have H := H.ext he
   refine ga S fun a S => ?_
   refine gnt ?_
   have S := (((((S.nil.cons S 1 rfl).cons S 2 rfl).cons S 18 rfl).cons S 3 rfl).cons S 19 rfl).cons S 5 rfl
   refine g_region ?_
   refine gm S fun a S => ?_
   refine gm S fun a S => ?_
   refine gy rfl rfl rfl S (y_lenstr rfl Tryz.underlying9 S rfl) fun a S => ?_
   refine gy rfl rfl rfl S ((y_subn (p := 16) (q := (sd.size : Int)) (m := 16 - sd.size) rfl S rfl rfl (by omega) (by omega))) fun a S => ?_
   refine wl_of (op_call (wn rfl) rfl rfl S (co_func rfl Tryz.call73 S rfl) (repeat_t (16 - sd.size) (by omega) _) fun v w hc a S => ?_)
   obtain ⟨sr, rfl, hsr, he⟩ := hc
   have H := H.ext he
   refine gm S fun a S => ?_
   refine gy rfl rfl rfl S (y_adds rfl S rfl rfl (by omega)) fun a S => ?_
   refine wl_of (op_buildSlice (wn rfl) rfl rfl rfl Tryz.underlying93 Finf9 S H (idx := [0]) rfl rfl rfl (z := [.string ⟨#[]⟩]) (by kernel_rfl) (cs := [.string (sr ++ sd)]) rfl fun b35 a w S H => ?_)
   refine wl_of (op_append ([sr ++ sd]) (wn rfl) rfl rfl rfl Tryz.underlying93 Finf9 rfl rfl S H rfl rfl rfl rfl (by simp) (by simp [encS]) (by simp [encS, Value.oneCell']) (by simp only [List.length_singleton]; omega) (by simp only [List.length_singleton]; omega) fun u36 a w hn36 S H => ?_)
   refine ga S fun a S => ?_
   refine gl_nil ?_
   refine n_block ?_
   refine n_then ?_
   have S := ((((S.nil.cons S 1 rfl).cons S 2 rfl).cons S 18 rfl).cons S 19 rfl).cons S 3 rfl
   refine g_region ?_
   refine gy rfl rfl rfl S (y_add rfl S rfl rfl (by omega)) fun a S => ?_
   refine gm S fun a S => ?_
   refine gnt ?_
   exact ⟨(k + 1, u36, xs ++ [sr ++ sd]), (S.nil.cons S 3 rfl).cons S 19 rfl, ((S.nil.cons S 1 rfl).cons S 2 rfl).cons S 18 rfl, ⟨by dsimp only; omega, by simp [hxl], fun y hy => by simp only [List.mem_append, List.mem_singleton] at hy; rcases hy with hy | rfl; exact hx y hy; rw [ByteArray.size_append]; omega, H.take [OSl 9 u36 1 encS (xs ++ [sr ++ sd]), Cel b1 61 (encF wv), Sl wv 1 encU ws, TabsA, TabB]⟩, by dsimp only; omega⟩
  ·have h2p := h2; try simp only [DL] at h2p
   refine g_exit ?_
   refine x_then (x_then (x_eq ?_))
   refine n_then ?_
   have S := (S.nil.cons S 2 rfl).cons S 3 rfl
   refine gsr ?_
   refine gm S fun a S => ?_
   refine wl_of (op_call (wn rfl) rfl rfl S (co_func rfl Tryz.call74 S rfl) (join_t v xs H (by omega) hx (by omega)) fun v w hc a S => ?_)
   obtain ⟨s, rfl, hs, he⟩ := hc
   have H := H.ext he
   refine ga S fun a S => ?_
   refine gnt ?_
   have S := S.nil.cons S 2 rfl
   refine g_ret ?_
   refine ret1 rfl S rfl ?_
   exact ⟨s, rfl, hs, H.toExt⟩
end Go.Proofs.YtienaifmlhcijaaGreatDoor
end
section
namespace Go.Proofs.YtienaifmlhcijaaGreatDoor
open Go Go.Gw
set_option linter.unusedVariables false
set_option linter.unusedSimpArgs false
theorem all3 {x y : Int} {v : Value} (h : v.oneCell' = true) : ([Value.int .i64 x, .int .i64 y, v].all fun u => u.oneCell') = true := by simp only [List.all_cons, List.all_nil, h]; rfl
/-- a gate in memory -/
def GateL (b mb : Nat) (wv lv : Value) (c : Nat) (g : GSt) : List Atom := [Cel b 91 [.int .i64 g.id, .int .i64 0, .int .i64 50, .int .i64 g.now, .bool g.synced, .int .i64 g.since, .int .i64 g.bits, .int .i64 g.hs, wv, .map (some mb), lv], OSl 97 wv 1 encU g.ws, MapA mb (fun n : Int => Value.int .i64 n) (fun s : ByteArray => Value.string s) g.ins c, OSl 32 lv 6 encSV g.log]
theorem GateL_own (b mb : Nat) (wv lv : Value) (c : Nat) (g : GSt) : ∀ x ∈ GateL b mb wv lv c g, x.own = true := by simp [GateL, OSl, Blk, MapA]
theorem gateReads {M : Nat → Prop} {u0 w : World} {l : List Atom} {b mb : Nat} {wv lv : Value} {c : Nat} {g : GSt} (h : HSat M u0 (GateL b mb wv lv c g ++ l) w) : HSat No w [Atom.ro (Cel b 91 [.int .i64 g.id, .int .i64 0, .int .i64 50, .int .i64 g.now, .bool g.synced, .int .i64 g.since, .int .i64 g.bits, .int .i64 g.hs, wv, .map (some mb), lv]), Atom.ro (OSl 32 lv 6 encSV g.log)] w := by
  simp only [GateL, List.cons_append, List.nil_append] at h
  exact (h.take [Cel b 91 [.int .i64 g.id, .int .i64 0, .int .i64 50, .int .i64 g.now, .bool g.synced, .int .i64 g.since, .int .i64 g.bits, .int .i64 g.hs, wv, .map (some mb), lv], OSl 32 lv 6 encSV g.log]).reads
/-- foyer/gate.time -/
theorem time_spec (n : Int) (hn : 0 ≤ n ∧ n ≤ 1000000000) (w0 : World) :
    Ret Tryz.prog 33 #[.int .i64 n] w0 (fun u w => u = .bool true ∧ Ext w0 w) := by
 refine ret_of_wp (nt := 9) Tryz.func33 rfl rfl rfl (fl := [(0, .int .i64 n)]) rfl (fun a S => ?_)
 have H := HSat.start w0
 refine gsr ?_
 refine ga S fun a S => ?_
 refine gnt ?_
 refine gsr ?_
 refine gm S fun a S => ?_
 refine gy rfl rfl rfl S (y_bin rfl S rfl rfl rfl) fun a S => ?_
 refine gm S fun a S => ?_
 refine' wl_and 2 5 rfl S H rfl rfl rfl rfl rfl rfl rfl (fun _ S => (wn rfl)) (fun h1 kk => ?yh1) (fun a w S H => ?_)
 case yh1 =>
  have h1p := h1; try simp only [DL] at h1p
  refine gz 5 h1 S rfl rfl rfl rfl rfl rfl (y_move rfl S rfl) fun a S => ?_
  refine gz 5 h1 S rfl rfl rfl rfl rfl rfl (y_bin rfl S rfl rfl rfl) fun a S => ?_
  refine gy rfl rfl rfl S (y_and' rfl h1 S rfl rfl) fun a S => ?_
  exact kk _ _ (S.join 3 8 rfl rfl) H
 refine ga S fun a S => ?_
 refine gnt ?_
 have S := S.nil.cons S 2 rfl
 refine g_ret ?_
 refine ret1 rfl S rfl ?_
 exact ⟨congrArg Value.bool (by simp [hn.1, hn.2]), H.toExt⟩
/-- (*foyer/gate.Gate).come -/
theorem come_spec (b mb : Nat) (wv lv : Value) (g : GSt) (t : Int) (w0 : World) (hG : HSat No w0 [Atom.ro (Cel b 91 [.int .i64 g.id, .int .i64 0, .int .i64 50, .int .i64 g.now, .bool g.synced, .int .i64 g.since, .int .i64 g.bits, .int .i64 g.hs, wv, .map (some mb), lv])] w0) (hn : 0 ≤ t ∧ t ≤ 1000000000) (hle : g.now ≤ t) :
    Ret Tryz.prog 41 #[.pointer (some ⟨b, 0, none⟩), .int .i64 t] w0 (fun u w => u = .int .i64 0 ∧ Ext w0 w) := by
 refine ret_of_wp (nt := 20) Tryz.func41 rfl rfl rfl (fl := [(0, .pointer (some ⟨b, 0, none⟩)), (1, .int .i64 t)]) rfl (fun a S => ?_)
 have H := hG
 refine gsr ?_
 refine ga S fun a S => ?_
 refine gnt ?_
 refine g_seq ?_
 refine g_block ?_
 refine gsr ?_
 refine gm S fun a S => ?_
 refine gy rfl rfl rfl S (y_eqp rfl Tryz.underlying53 S rfl rfl) fun a S => ?_
 refine gm S fun a S => ?_
 refine gz 8 rfl S rfl rfl rfl rfl rfl rfl (y_move rfl S rfl) fun a S => ?_
 refine wl_of (op_call (wg' 8 rfl rfl S rfl rfl rfl) rfl rfl S (co_func rfl Tryz.call33 S rfl) (time_spec t hn _) fun v w hc a S => ?_)
 obtain ⟨rfl, he⟩ := hc
 have H := H.ext he
 refine gz 8 rfl S rfl rfl rfl rfl rfl rfl (y_not rfl S rfl) fun a S => ?_
 refine gy rfl rfl rfl S (y_or' rfl rfl S rfl rfl) fun a S => ?_
 refine ga S fun a S => ?_
 refine gnt ?_
 have S := (((S.nil.cons S 1 rfl).cons S 0 rfl).cons S 4 rfl).cons S 5 rfl
 refine c_if S rfl (fun h2 => ?_) (fun h2 => ?_)
 ·have h2p := h2; try simp only [DL] at h2p
  all_goals (
    exact absurd h2 (by simp))
 ·have h2p := h2; try simp only [DL] at h2p
  refine gsr ?_
  refine gm S fun a S => ?_
  refine gm S fun a S => ?_
  refine gy rfl rfl rfl S (y_nilCheck rfl S rfl) fun a S => ?_
  refine gy rfl rfl rfl S (y_faddrb rfl Ffo91_3 S rfl) fun a S => ?_
  refine gy rfl rfl rfl S (y_load rfl Fsca3 S H rfl rfl) fun a S => ?_
  refine gy rfl rfl rfl S (y_bin rfl S rfl rfl rfl) fun a S => ?_
  refine ga S fun a S => ?_
  refine gnt ?_
  have S := (S.nil.cons S 4 rfl).cons S 13 rfl
  refine c_if S rfl (fun h3 => ?_) (fun h3 => ?_)
  ·have h3p := h3; try simp only [DL] at h3p
   all_goals (
     exfalso
     have h := h3p
     omega)
  ·have h3p := h3; try simp only [DL] at h3p
   refine g_skip ?_
   refine n_block ?_
   refine n_then ?_
   refine gsr ?_
   refine ga S fun a S => ?_
   refine gnt ?_
   refine g_ret ?_
   refine ret1 rfl S rfl ?_
   exact ⟨rfl, H.toExt⟩
/-- foyer/gate.New -/
theorem gnew_spec (id : Int) (w0 : World) (hid : 0 ≤ id ∧ id ≤ 999) :
    Ret Tryz.prog 11 #[.int .i64 id, .int .i64 0, .int .i64 50] w0 (fun u w => ∃ b mb, u = .tuple #[.pointer (some ⟨b, 0, none⟩), .int .i64 0] ∧ HSat No w0 (GateL b mb (.slice none 0 0) (.slice none 0 0) 0 (GSt.new id)) w) := by
 refine ret_of_wp (nt := 33) Tryz.func11 rfl rfl rfl (fl := [(0, .int .i64 id), (1, .int .i64 0), (2, .int .i64 50)]) rfl (fun a S => ?_)
 have H := HSat.start w0
 refine gsr ?_
 refine ga S fun a S => ?_
 refine ga S fun a S => ?_
 refine gnt ?_
 refine g_seq ?_
 refine gsr ?_
 refine gm S fun a S => ?_
 refine gy rfl rfl rfl S (y_bin rfl S rfl rfl rfl) fun a S => ?_
 refine gm S fun a S => ?_
 refine' wl_or 2 10 rfl S H rfl rfl rfl rfl rfl rfl rfl (fun _ S => (wn rfl)) (fun h1 kk => ?yh1) (fun a w S H => ?_)
 case yh1 =>
  have h1p := h1; try simp only [DL] at h1p
  refine gz 10 h1 S rfl rfl rfl rfl rfl rfl (y_move rfl S rfl) fun a S => ?_
  refine gz 10 h1 S rfl rfl rfl rfl rfl rfl (y_bin rfl S rfl rfl rfl) fun a S => ?_
  refine gy rfl rfl rfl S (y_or' rfl h1 S rfl rfl) fun a S => ?_
  exact kk _ _ (S.join 3 13 rfl rfl) H
 refine gm S fun a S => ?_
 refine' wl_or 2 14 rfl S H rfl rfl rfl rfl rfl rfl rfl (fun _ S => (wn rfl)) (fun h2 kk => ?yh2) (fun a w S H => ?_)
 case yh2 =>
  have h2p := h2; try simp only [DL] at h2p
  refine gz 14 h2 S rfl rfl rfl rfl rfl rfl (y_move rfl S rfl) fun a S => ?_
  refine gz 14 h2 S rfl rfl rfl rfl rfl rfl (y_bin rfl S rfl rfl rfl) fun a S => ?_
  refine gy rfl rfl rfl S (y_or' rfl h2 S rfl rfl) fun a S => ?_
  exact kk _ _ (S.join 3 17 rfl rfl) H
 refine gm S fun a S => ?_
 refine' wl_or 2 18 rfl S H rfl rfl rfl rfl rfl rfl rfl (fun _ S => (wn rfl)) (fun h3 kk => ?yh3) (fun a w S H => ?_)
 case yh3 =>
  have h3p := h3; try simp only [DL] at h3p
  refine gz 18 h3 S rfl rfl rfl rfl rfl rfl (y_move rfl S rfl) fun a S => ?_
  refine gz 18 h3 S rfl rfl rfl rfl rfl rfl (y_bin rfl S rfl rfl rfl) fun a S => ?_
  refine gy rfl rfl rfl S (y_or' rfl h3 S rfl rfl) fun a S => ?_
  exact kk _ _ (S.join 3 21 rfl rfl) H
 refine gm S fun a S => ?_
 refine' wl_or 3 22 rfl S H rfl rfl rfl rfl rfl rfl rfl (fun _ S => (wn rfl)) (fun h4 kk => ?yh4) (fun a w S H => ?_)
 case yh4 =>
  have h4p := h4; try simp only [DL] at h4p
  refine gz 22 h4 S rfl rfl rfl rfl rfl rfl (y_move rfl S rfl) fun a S => ?_
  refine wl_of (op_call (wg' 22 rfl rfl S rfl h4 rfl) rfl rfl S (co_func rfl Tryz.call33 S rfl) (time_spec 50 (by decide) _) fun v w hc a S => ?_)
  obtain ⟨rfl, he⟩ := hc
  have H := H.ext he
  refine gz 22 h4 S rfl rfl rfl rfl rfl rfl (y_not rfl S rfl) fun a S => ?_
  refine gy rfl rfl rfl S (y_or' rfl h4 S rfl rfl) fun a S => ?_
  exact kk _ _ (S.join 4 26 rfl rfl) H
 refine gnt ?_
 have S := (((((S.nil.cons S 2 rfl).cons S 1 rfl).cons S 0 rfl).cons S 6 rfl).cons S 7 rfl).cons S 26 rfl
 refine c_if S rfl (fun h5 => ?_) (fun h5 => ?_)
 ·have h5p := h5; try simp only [DL] at h5p
  all_goals (
    exfalso
    have h := h5p
    omega)
 ·have h5p := h5; try simp only [DL] at h5p
  refine g_skip ?_
  refine n_then ?_
  refine gsr ?_
  refine gm S fun a S => ?_
  refine gm S fun a S => ?_
  refine gm S fun a S => ?_
  refine wl_of (op_makeMap ((fun n : Int => Value.int .i64 n)) ((fun s : ByteArray => Value.string s)) (wn rfl) rfl rfl rfl S H fun b30 a w S H => ?_)
  refine gy rfl rfl rfl S (y_buildf rfl Fbld91 S rfl (idx := [0, 1, 2, 7]) rfl (cs := [_, _, _, _, _, _, _, _, _, _, _]) rfl) fun a S => ?_
  refine wl_of (op_boxa (wn rfl) rfl rfl rfl S H rfl fun b32 a w S H => ?_)
  refine ga S fun a S => ?_
  refine ga S fun a S => ?_
  refine gnt ?_
  have S := (S.nil.cons S 6 rfl).cons S 7 rfl
  refine g_ret ?_
  refine ret2 rfl S rfl rfl ?_
  have H : HSat No w0 (Cel b32 91 [.int .i64 id, .int .i64 0, .int .i64 50, .int .i64 0, .bool false, .int .i64 0, .int .i64 0, .int .i64 0, (.slice none 0 0), .map (some b30), (.slice none 0 0)] :: _) w := H
  exact ⟨b32, b30, rfl, ((H.nilO 97 1 encU).nilO 32 6 encSV).take [Cel b32 91 [.int .i64 id, .int .i64 0, .int .i64 50, .int .i64 0, .bool false, .int .i64 0, .int .i64 0, .int .i64 0, (.slice none 0 0), .map (some b30), (.slice none 0 0)], OSl 97 (.slice none 0 0) 1 encU [], MapA b30 (fun n : Int => Value.int .i64 n) (fun s : ByteArray => Value.string s) (fun _ => none) 0, OSl 32 (.slice none 0 0) 6 encSV []]⟩
/-- slices.Clone[[]foyer/api.Scan,foyer/api.Scan] -/
theorem cloneS_spec (v : Value) (xs : List SV) (w0 : World) (hv : IsSl w0 v 6 encSV xs) (hl : xs.length ≤ 200000) :
    Ret Tryz.prog 37 #[v] w0 (fun u w => HSat No w0 [OSl 32 u 6 encSV xs] w) := by
 refine ret_of_wp (nt := 8) Tryz.func37 rfl rfl rfl (fl := [(0, v)]) rfl (fun a S => ?_)
 have H := HSat.start w0
 obtain ⟨pv, cv, rfl⟩ := hv.shape
 have H := H.ro0 (Sl (.slice pv xs.length cv) 6 encSV xs) rfl (hv)
 refine gsr ?_
 refine ga S fun a S => ?_
 refine gnt ?_
 refine g_seq ?_
 refine gsr ?_
 refine gm S fun a S => ?_
 refine gy rfl rfl rfl S (y_eqsl rfl Tryz.underlying29 S rfl rfl) fun a S => ?_
 refine gnt ?_
 refine c_if S rfl (fun h1 => ?_) (fun h1 => ?_)
 ·have h1p := h1; try simp only [DL] at h1p
  have hxs : xs = [] := by
    match xs, hv with
    | [], _ => rfl
    | x :: r, hv => obtain ⟨b, off, c, he, _⟩ := hv.cells 0 (by simp); simp only [Value.slice.injEq] at he; rw [he.1] at h1; simp at h1
  refine gsr ?_
  refine ga S fun a S => ?_
  refine gnt ?_
  refine g_ret ?_
  refine r_then (ret1 rfl S rfl ?_)
  rw [hxs]; exact (H.nilO 32 6 encSV).take [OSl 32 (.slice none 0 0) 6 encSV []]
 ·have h1p := h1; try simp only [DL] at h1p
  refine g_skip ?_
  refine n_then ?_
  refine gsr ?_
  refine wl_of (op_buildSlice (wn rfl) rfl rfl rfl Tryz.underlying29 Finf32 S H (idx := []) rfl rfl rfl (z := []) (by kernel_rfl) (cs := []) rfl fun b5 a w S H => ?_)
  have H := H.celO [] encSV 6 (m := 0) rfl (by simp) rfl (by omega)
  refine gm S fun a S => ?_
  refine wl_of (op_appendT (wn rfl) rfl rfl rfl Tryz.underlying29 Finf32 rfl rfl S H rfl rfl (by simp [encSV, Value.oneCell']) (by first | assumption | omega | (simp only [LL]; omega)) (by first | assumption | omega | (simp only [LL]; omega)) fun u7 a w S H => ?_)
  refine ga S fun a S => ?_
  refine gnt ?_
  have S := S.nil.cons S 2 rfl
  refine g_ret ?_
  refine ret1 rfl S rfl ?_
  exact H.take [OSl 32 u7 6 encSV ([] ++ xs)]
/-- slices.Clone[[]uint64,uint64] -/
theorem cloneU_spec (v : Value) (xs : List Nat) (w0 : World) (hv : IsSl w0 v 1 encU xs) (hl : xs.length ≤ 200000) :
    Ret Tryz.prog 43 #[v] w0 (fun u w => HSat No w0 [OSl 97 u 1 encU xs] w) := by
 refine ret_of_wp (nt := 8) Tryz.func43 rfl rfl rfl (fl := [(0, v)]) rfl (fun a S => ?_)
 have H := HSat.start w0
 obtain ⟨pv, cv, rfl⟩ := hv.shape
 have H := H.ro0 (Sl (.slice pv xs.length cv) 1 encU xs) rfl (hv)
 refine gsr ?_
 refine ga S fun a S => ?_
 refine gnt ?_
 refine g_seq ?_
 refine gsr ?_
 refine gm S fun a S => ?_
 refine gy rfl rfl rfl S (y_eqsl rfl Tryz.underlying59 S rfl rfl) fun a S => ?_
 refine gnt ?_
 refine c_if S rfl (fun h1 => ?_) (fun h1 => ?_)
 ·have h1p := h1; try simp only [DL] at h1p
  have hxs : xs = [] := by
    match xs, hv with
    | [], _ => rfl
    | x :: r, hv => obtain ⟨b, off, c, he, _⟩ := hv.cells 0 (by simp); simp only [Value.slice.injEq] at he; rw [he.1] at h1; simp at h1
  refine gsr ?_
  refine ga S fun a S => ?_
  refine gnt ?_
  refine g_ret ?_
  refine r_then (ret1 rfl S rfl ?_)
  rw [hxs]; exact (H.nilO 97 1 encU).take [OSl 97 (.slice none 0 0) 1 encU []]
 ·have h1p := h1; try simp only [DL] at h1p
  refine g_skip ?_
  refine n_then ?_
  refine gsr ?_
  refine wl_of (op_buildSlice (wn rfl) rfl rfl rfl Tryz.underlying59 Finf97 S H (idx := []) rfl rfl rfl (z := []) (by kernel_rfl) (cs := []) rfl fun b5 a w S H => ?_)
  have H := H.celO [] encU 1 (m := 0) rfl (by simp) rfl (by omega)
  refine gm S fun a S => ?_
  refine wl_of (op_appendT (wn rfl) rfl rfl rfl Tryz.underlying59 Finf97 rfl rfl S H rfl rfl (by simp [encU, Value.oneCell']) (by first | assumption | omega | (simp only [LL]; omega)) (by first | assumption | omega | (simp only [LL]; omega)) fun u7 a w S H => ?_)
  refine ga S fun a S => ?_
  refine gnt ?_
  have S := S.nil.cons S 2 rfl
  refine g_ret ?_
  refine ret1 rfl S rfl ?_
  exact H.take [OSl 97 u7 1 encU ([] ++ xs)]
/-- (*foyer/gate.Gate).Log -/
theorem log_spec {M : Nat → Prop} {u0 : World} {l : List Atom} (b mb : Nat) (wv lv : Value) (c : Nat) (g : GSt) (w0 : World) (h0 : HSat M u0 (GateL b mb wv lv c g ++ l) w0) (hl : g.log.length ≤ 4000) :
    Ret Tryz.prog 13 #[.pointer (some ⟨b, 0, none⟩)] w0 (fun u w => HSat No w0 [OSl 32 u 6 encSV g.log] w) := by
 refine ret_of_wp (nt := 10) Tryz.func13 rfl rfl rfl (fl := [(0, .pointer (some ⟨b, 0, none⟩))]) rfl (fun a S => ?_)
 have H := gateReads h0
 refine gsr ?_
 refine ga S fun a S => ?_
 refine gnt ?_
 refine g_seq ?_
 refine gsr ?_
 refine gm S fun a S => ?_
 refine gy rfl rfl rfl S (y_eqp rfl Tryz.underlying53 S rfl rfl) fun a S => ?_
 refine gnt ?_
 refine c_if S rfl (fun h1 => ?_) (fun h1 => ?_)
 ·have h1p := h1; try simp only [DL] at h1p
  all_goals (
    exact absurd h1 (by simp))
 ·have h1p := h1; try simp only [DL] at h1p
  refine g_skip ?_
  refine n_then ?_
  refine gsr ?_
  refine gm S fun a S => ?_
  refine gy rfl rfl rfl S (y_nilCheck rfl S rfl) fun a S => ?_
  refine gy rfl rfl rfl S (y_faddrb rfl Ffo91_8 S rfl) fun a S => ?_
  refine gy rfl rfl rfl S (y_load rfl Fsca29 S H rfl rfl) fun a S => ?_
  refine wl_of (op_call (wn rfl) rfl rfl S (co_func rfl Tryz.call37 S rfl) (cloneS_spec lv g.log _ (H.sl lv) (by omega)) fun u9 w hc a S => ?_)
  have H1 := hc
  have H := H.call1 H1 rfl
  refine ga S fun a S => ?_
  refine gnt ?_
  have S := S.nil.cons S 2 rfl
  refine g_ret ?_
  refine ret1 rfl S rfl ?_
  exact H.take [OSl 32 u9 6 encSV g.log]
set_option maxHeartbeats 1000000 in
/-- (*foyer/gate.Gate).write -/
theorem gwrite_spec {M : Nat → Prop} {u0 : World} {l : List Atom} (b mb : Nat) (wv lv : Value) (c : Nat) (g : GSt) (kind serial t : Int) (owner : ByteArray) (w0 : World) (h0 : HSat M u0 (GateL b mb wv lv c g ++ l) w0) (hl : g.log.length ≤ 4000) :
    Ret Tryz.prog 53 #[.pointer (some ⟨b, 0, none⟩), .int .i64 kind, .int .i64 serial, .string owner, .int .i64 t] w0 (fun u w => u = .tuple #[] ∧ ∃ lv2, HSat M u0 (GateL b mb wv lv2 c (g.write kind serial owner t) ++ l) w) := by
 refine ret_of_wp (nt := 38) Tryz.func53 rfl rfl rfl (fl := [(0, .pointer (some ⟨b, 0, none⟩)), (1, .int .i64 kind), (2, .int .i64 serial), (3, .string owner), (4, .int .i64 t)]) rfl (fun a S => ?_)
 have H := h0
 simp only [GateL, List.cons_append, List.nil_append] at H
 refine gsr ?_
 refine gm S fun a S => ?_
 refine gm S fun a S => ?_
 refine gy rfl rfl rfl S (y_nilCheck rfl S rfl) fun a S => ?_
 refine gy rfl rfl rfl S (y_faddrb rfl Ffo91_3 S rfl) fun a S => ?_
 refine wl_of (op_store (wn rfl) rfl rfl S H rfl rfl rfl Fsiz3 rfl fun a w S H => ?_)
 dsimp only [List.set, Nat.zero_add, Nat.reduceAdd] at H
 refine gnt ?_
 have S := ((((S.nil.cons S 4 rfl).cons S 3 rfl).cons S 2 rfl).cons S 1 rfl).cons S 0 rfl
 refine region_st (loud := [20, 21, 24]) (tails := [21, 24]) (free := [0]) [0, 1, 2, 3, 4, 5, 6, 7, 8, 9, 10, 11, 12, 13, 14, 15, 16, 17, 18, 19, 20, 21, 22, 23, 24] [] Fmo (by kernel_rfl) (by kernel_rfl) rfl H ?_
 refine m_f rfl rfl (wn rfl) rfl rfl S (fun w H => y_move rfl S rfl) fun a S => ?_
 refine m_w rfl rfl (wn rfl) rfl rfl S (fun w H => y_move rfl S rfl) fun a S => ?_
 refine m_w rfl rfl (wn rfl) rfl rfl S (fun w H => y_nilCheck rfl S rfl) fun a S => ?_
 refine m_w rfl rfl (wn rfl) rfl rfl S (fun w H => y_faddrb rfl Ffo91_8 S rfl) fun a S => ?_
 refine m_w rfl rfl (wn rfl) rfl rfl S (fun w H => y_load rfl Fsca29 S H rfl rfl) fun a S => ?_
 refine m_w rfl rfl (wn rfl) rfl rfl S (fun w H => y_move rfl S rfl) fun a S => ?_
 refine m_w rfl rfl (wn rfl) rfl rfl S (fun w H => y_nilCheck rfl S rfl) fun a S => ?_
 refine m_w rfl rfl (wn rfl) rfl rfl S (fun w H => y_faddrb rfl Ffo91_0 S rfl) fun a S => ?_
 refine m_w rfl rfl (wn rfl) rfl rfl S (fun w H => y_load rfl Fsca3 S H rfl rfl) fun a S => ?_
 refine m_w rfl rfl (wn rfl) rfl rfl S (fun w H => y_move rfl S rfl) fun a S => ?_
 refine m_w rfl rfl (wn rfl) rfl rfl S (fun w H => y_nilCheck rfl S rfl) fun a S => ?_
 refine m_w rfl rfl (wn rfl) rfl rfl S (fun w H => y_faddrb rfl Ffo91_8 S rfl) fun a S => ?_
 refine m_w rfl rfl (wn rfl) rfl rfl S (fun w H => y_load rfl Fsca29 S H rfl rfl) fun a S => ?_
 refine m_w rfl rfl (wn rfl) rfl rfl S (fun w H => y_lens rfl Tryz.underlying29 S H rfl) fun a S => ?_
 refine m_w rfl rfl (wn rfl) rfl rfl S (fun w H => y_add rfl S rfl rfl (by omega)) fun a S => ?_
 refine m_w rfl rfl (wn rfl) rfl rfl S (fun w H => y_move rfl S rfl) fun a S => ?_
 refine m_w rfl rfl (wn rfl) rfl rfl S (fun w H => y_move rfl S rfl) fun a S => ?_
 refine m_w rfl rfl (wn rfl) rfl rfl S (fun w H => y_move rfl S rfl) fun a S => ?_
 refine m_w rfl rfl (wn rfl) rfl rfl S (fun w H => y_move rfl S rfl) fun a S => ?_
 refine m_w rfl rfl (wn rfl) rfl rfl S (fun w H => y_buildf rfl Fbld32 S rfl (idx := [0, 1, 2, 3, 4, 5]) rfl (cs := [_, _, _, _, _, _]) rfl) fun a S => ?_
 refine m_l rfl rfl (fun w H => op_buildSlice (wn rfl) rfl rfl rfl Tryz.underlying29 Finf32 S H (idx := [0]) rfl rfl rfl (z := [.int .i64 0, .int .i64 0, .int .i64 0, .int .i64 0, .int .i64 0, .string ⟨#[]⟩]) (by kernel_rfl) (cs := [.int .i64 g.id, .int .i64 ((g.log.length : Int) + 1), .int .i64 t, .int .i64 serial, .int .i64 kind, .string owner]) (by kernel_rfl) fun b34 a w S H => m_next H (List.sublist_cons_self _ _) ?_)
 refine m_l rfl rfl (fun w H => op_append ([(⟨g.id, (g.log.length : Int) + 1, t, serial, kind, owner⟩ : SV)]) (wn rfl) rfl rfl rfl Tryz.underlying29 Finf32 rfl rfl S H rfl rfl rfl rfl (by simp) (by simp [encSV]) (by simp [encSV, Value.oneCell']) (by simp only [List.length_singleton]; omega) (by simp only [List.length_singleton]; omega) fun u35 a w hn35 S H => m_tail H rfl ?_)
 refine m_w rfl rfl (wn rfl) rfl rfl S (fun w H => y_nilCheck rfl S rfl) fun a S => ?_
 refine m_w rfl rfl (wn rfl) rfl rfl S (fun w H => y_faddrb rfl Ffo91_8 S rfl) fun a S => ?_
 refine m_l rfl rfl (fun w H => op_store (wn rfl) rfl rfl S H rfl rfl (H.sl1 _) Fsiz29 rfl fun a w S H => m_tail H rfl ?_)
 dsimp only [List.set, Nat.zero_add, Nat.reduceAdd] at H
 refine m_nil (fun w H => ?_)
 refine ret0n rfl S ?_
 exact ⟨rfl, u35, H.tail⟩
set_option maxHeartbeats 1000000 in
/-- (*foyer/gate.Gate).Sync -/
theorem sync_spec {M : Nat → Prop} {u0 : World} {l : List Atom} (b mb : Nat) (wv lv : Value) (c : Nat) (g : GSt) (nv : Value) (ws : List Nat) (t : Int) (w0 : World) (h0 : HSat M u0 (GateL b mb wv lv c g ++ l) w0) [hS : HasSl l nv 1 Nat encU ws] [hTA : HasAt l TabsA] [hTB : HasAt l TabB] (hok : WOk ws) (hn : 0 ≤ t ∧ t ≤ 1000000000) (hle : g.now ≤ t) :
    Ret Tryz.prog 15 #[.pointer (some ⟨b, 0, none⟩), .agg (encF nv).toArray, .int .i64 t] w0 (fun u w => u = .int .i64 0 ∧ ∃ wv2, HSat M u0 (GateL b mb wv2 lv c (g.sync ws t) ++ l) w) := by
 refine ret_of_wp (nt := 40) Tryz.func15 rfl rfl rfl (fl := [(0, .pointer (some ⟨b, 0, none⟩)), (1, .agg (encF nv).toArray), (2, .int .i64 t)]) rfl (fun a S => ?_)
 have H := h0
 simp only [GateL, List.cons_append, List.nil_append] at H
 obtain ⟨pn, cn, hpn⟩ := (H.sl nv).shape
 have hlw := hok.len
 refine gsr ?_
 refine wl_of (op_boxa (wn rfl) rfl rfl rfl S H (by rw [hpn]; rfl) fun b4 a w S H => ?_)
 rw [← hpn] at H
 refine ga S fun a S => ?_
 refine gnt ?_
 refine gsr ?_
 refine gm S fun a S => ?_
 refine gm S fun a S => ?_
 refine wl_of (op_call (wn rfl) rfl rfl S (co_func rfl Tryz.call41 S rfl) (come_spec b mb wv lv g t _ (H.take [Cel b 91 [.int .i64 g.id, .int .i64 0, .int .i64 50, .int .i64 g.now, .bool g.synced, .int .i64 g.since, .int .i64 g.bits, .int .i64 g.hs, wv, .map (some mb), lv]]).reads hn hle) fun v w hc a S => ?_)
 obtain ⟨rfl, he⟩ := hc
 have H := H.ext he
 refine ga S fun a S => ?_
 refine gnt ?_
 have S := ((((S.nil.cons S 2 rfl).cons S 0 rfl).cons S 4 rfl).cons S 6 rfl).cons S 7 rfl
 refine g_seq ?_
 refine gsr ?_
 refine gm S fun a S => ?_
 refine gy rfl rfl rfl S (y_bin rfl S rfl rfl rfl) fun a S => ?_
 refine gm S fun a S => ?_
 refine gz 13 rfl S rfl rfl rfl rfl rfl rfl (y_load0 rfl S H rfl (by exact Fagg61)) fun a S => ?_
 refine wl_of (op_call (wg' 13 rfl rfl S rfl rfl rfl) rfl rfl S (co_func rfl Tryz.call42 S rfl) (text_ne nv ws _ (H.sl nv) hok H.tabs (tabB_of H)) fun v w hc a S => ?_)
 obtain ⟨s, rfl, hs, he⟩ := hc
 have H := H.ext he
 refine gz 13 rfl S rfl rfl rfl rfl rfl rfl (y_eqs rfl Tryz.underlying9 S rfl rfl) fun a S => ?_
 refine gy rfl rfl rfl S (y_or' rfl rfl S rfl rfl) fun a S => ?_
 refine gnt ?_
 have S := (((((S.nil.cons S 2 rfl).cons S 0 rfl).cons S 4 rfl).cons S 6 rfl).cons S 7 rfl).cons S 17 rfl
 refine c_if S rfl (fun h2 => ?_) (fun h2 => ?_)
 ·have h2p := h2; try simp only [DL] at h2p
  all_goals (
    exfalso
    have h := h2p
    have h2 : s = ⟨#[]⟩ := by simpa using h
    subst h2
    exact absurd hs (by decide))
 ·have h2p := h2; try simp only [DL] at h2p
  refine g_skip ?_
  refine n_then ?_
  refine g_seq ?_
  refine gsr ?_
  refine gm S fun a S => ?_
  refine gy rfl rfl rfl S (y_bin rfl S rfl rfl rfl) fun a S => ?_
  refine gnt ?_
  refine c_if S rfl (fun h3 => ?_) (fun h3 => ?_)
  ·have h3p := h3; try simp only [DL] at h3p
   refine gsr ?_
   refine gy rfl rfl rfl S (y_faddrb rfl Ffo61_2 S rfl) fun a S => ?_
   refine gy rfl rfl rfl S (y_load rfl Fsca59 S H rfl rfl) fun a S => ?_
   refine wl_of (op_call (wn rfl) rfl rfl S (co_func rfl Tryz.call43 S rfl) (cloneU_spec nv ws _ (H.sl nv) (by omega)) fun u22 w hc a S => ?_)
   have H1 := hc
   have H := H.call1 H1 rfl
   refine gy rfl rfl rfl S (y_faddrb rfl Ffo61_2 S rfl) fun a S => ?_
   refine wl_of (op_store (wn rfl) rfl rfl S H rfl rfl (H.sl1 _) Fsiz59 rfl fun a w S H => ?_)
   simp only [encF, List.set, Nat.zero_add, Nat.reduceAdd] at H
   refine gnt ?_
   have S := ((((S.nil.cons S 2 rfl).cons S 0 rfl).cons S 4 rfl).cons S 6 rfl).cons S 7 rfl
   have H := (H.front (Cel b4 61 [.int .i64 1024, .int .i64 3, u22])).freeze
   ·skip
    refine region_st (loud := [9, 12, 15, 18]) (tails := [9, 12, 15, 18]) (free := [1, 2, 3, 5, 6]) [0, 1, 2, 3, 4, 5, 6, 7, 8, 9, 10, 11, 12, 13, 14, 15, 16, 17, 18] [Atom.ro (Cel b4 61 [.int .i64 1024, .int .i64 3, u22])] Fmo (by kernel_rfl) (by kernel_rfl) rfl H ?_
    refine m_w rfl rfl (wn rfl) rfl rfl S (fun w H => y_move rfl S rfl) fun a S => ?_
    refine m_f rfl rfl (wn rfl) rfl rfl S (fun w H => y_move rfl S rfl) fun a S => ?_
    refine m_f rfl rfl (wn rfl) rfl rfl S (fun w H => y_move rfl S rfl) fun a S => ?_
    refine m_f rfl rfl (wn rfl) rfl rfl S (fun w H => y_move rfl S rfl) fun a S => ?_
    refine m_w rfl rfl (wn rfl) rfl rfl S (fun w H => y_move rfl S rfl) fun a S => ?_
    refine m_f rfl rfl (wn rfl) rfl rfl S (fun w H => y_move rfl S rfl) fun a S => ?_
    refine m_f rfl rfl (wn rfl) rfl rfl S (fun w H => y_load0 rfl S H rfl (by exact Fagg61)) fun a S => ?_
    refine m_w rfl rfl (wn rfl) rfl rfl S (fun w H => y_nilCheck rfl S rfl) fun a S => ?_
    refine m_w rfl rfl (wn rfl) rfl rfl S (fun w H => y_faddrb rfl Ffo91_3 S rfl) fun a S => ?_
    refine m_l rfl rfl (fun w H => op_store (wn rfl) rfl rfl S H rfl rfl rfl Fsiz3 rfl fun a w S H => m_tail H rfl ?_)
    dsimp only [List.set, Nat.zero_add, Nat.reduceAdd] at H
    refine m_w rfl rfl (wn rfl) rfl rfl S (fun w H => y_nilCheck rfl S rfl) fun a S => ?_
    refine m_w rfl rfl (wn rfl) rfl rfl S (fun w H => y_faddrb rfl Ffo91_5 S rfl) fun a S => ?_
    refine m_l rfl rfl (fun w H => op_store (wn rfl) rfl rfl S H rfl rfl rfl Fsiz3 rfl fun a w S H => m_tail H rfl ?_)
    dsimp only [List.set, Nat.zero_add, Nat.reduceAdd] at H
    refine m_w rfl rfl (wn rfl) rfl rfl S (fun w H => y_nilCheck rfl S rfl) fun a S => ?_
    refine m_w rfl rfl (wn rfl) rfl rfl S (fun w H => y_faddrb rfl Ffo91_4 S rfl) fun a S => ?_
    refine m_l rfl rfl (fun w H => op_store (wn rfl) rfl rfl S H rfl rfl rfl Fsiz4 rfl fun a w S H => m_tail H rfl ?_)
    dsimp only [List.set, Nat.zero_add, Nat.reduceAdd] at H
    refine m_w rfl rfl (wn rfl) rfl rfl S (fun w H => y_nilCheck rfl S rfl) fun a S => ?_
    refine m_w rfl rfl (wn rfl) rfl rfl S (fun w H => y_faddrb rfl Ffo91_6 S rfl) fun a S => ?_
    refine m_l rfl rfl (fun w H => op_storea (wn rfl) rfl rfl S H rfl rfl (all3 (H.sl1 u22)) Fsiz61 rfl (cs' := [_, _, _, _, _, _, _, _, _, _, _]) rfl fun a w S H => m_tail H rfl ?_)
    refine m_nil (fun w H => ?_)
    refine n_then ?_
    have S := (S.nil.cons S 6 rfl).cons S 7 rfl
    refine gsr ?_
    refine gm S fun a S => ?_
    refine ga S fun a S => ?_
    refine gnt ?_
    refine g_ret ?_
    refine ret1 rfl S rfl ?_
    exact ⟨rfl, u22, H.takeT [Cel b 91 [.int .i64 g.id, .int .i64 0, .int .i64 50, .int .i64 t, .bool true, .int .i64 t, .int .i64 1024, .int .i64 3, u22, .map (some mb), lv], OSl 97 u22 1 encU ws, MapA mb (fun n : Int => Value.int .i64 n) (fun s : ByteArray => Value.string s) g.ins c, OSl 32 lv 6 encSV g.log] l⟩
  ·have h3p := h3; try simp only [DL] at h3p
   all_goals (
     exact absurd h3 (by simp))
end Go.Proofs.YtienaifmlhcijaaGreatDoor
end
section
namespace Go.Proofs.YtienaifmlhcijaaGreatDoor
open Go Go.Gw
set_option linter.unusedVariables false
set_option linter.unusedSimpArgs false
/-- a title that was never handed on -/
def titF (serial place : Int) (first : ByteArray) : TV := ⟨serial, 0, place, first, .slice none 0 0, []⟩
theorem titF_ok (w : World) (serial place : Int) (first : ByteArray) : TOk w (titF serial place first) := ⟨IsSl.nil w 2 encX, by simp [titF, capOK], by simp [titF]⟩
structure TitOK (serial place : Int) (first : ByteArray) : Prop where
  s : 10001 ≤ serial ∧ serial ≤ 19999
  p : 0 ≤ place ∧ place ≤ 3999
  f : isD first = true
theorem TitOK.sz {s p : Int} {f : ByteArray} (h : TitOK s p f) : TSz (titF s p f) := by
  have h1 := h.s
  have h2 := h.p
  have h3 := isD_size h.f
  exact ⟨by simp only [titF]; omega, by simp only [titF]; omega, by simp only [titF]; omega, by simp only [titF]; omega, by simp [titF], by simp [titF]⟩
theorem TitOK.valid {s p : Int} {f : ByteArray} (h : TitOK s p f) : validB (titF s p f) = true := by
  have h1 := h.s
  have h2 := h.p
  have hn : numT (titF s p f) = s - 10000 := by
    unfold numT titF
    dsimp only
    rw [wrap_in (m := 0 + 1) (by decide) (by decide), wrap_in (m := (0 + 1) * 10000) (by decide) (by decide), wrap_in (by omega) (by omega)]
    omega
  unfold validB formedB headB
  rw [hn]
  simp only [titF, h.f, List.all_nil, List.length_nil, List.range_zero, Bool.and_true, Bool.not_true, Bool.or_false, Int.ofNat_zero]
  simp
  exact ⟨⟨⟨by omega, by omega⟩, decide_eq_false (by omega)⟩, by omega⟩
def fun1 (p : Value × Bool) : List Value := [p.1]
noncomputable def GSt.scanR (g : GSt) (serial t : Int) : Int × Int :=
  if g.synced = false ∨ t - g.since > 50 then (0, 26)
  else if (g.ins serial).isSome = true ∨ hasF g.ws serial = true then (3, 0) else (1, 0)
/-- (*foyer/gate.Gate).Scan$1 -/
theorem ref1_spec (b : Nat) (r : Bool) (w0 : World) (h0 : HSat No w0 [Atom.ro (Cel b 4 [.bool r])] w0) :
    Ret Tryz.prog 44 #[.pointer (some ⟨b, 0, none⟩)] w0 (fun u w => u = .bool r ∧ Ext w0 w) := by
 refine ret_of_wp (nt := 3) Tryz.func44 rfl rfl rfl (fl := [(0, .pointer (some ⟨b, 0, none⟩))]) rfl (fun a S => ?_)
 have H := h0
 refine gsr ?_
 refine ga S fun a S => ?_
 refine gnt ?_
 refine gsr ?_
 refine gy rfl rfl rfl S (y_load rfl Fsca4 S H rfl rfl) fun a S => ?_
 refine ga S fun a S => ?_
 refine gnt ?_
 refine g_ret ?_
 refine ret1 rfl S rfl ?_
 exact ⟨rfl, H.toExt⟩
/-- (*foyer/gate.Gate).Scan$2 -/
theorem ref2_spec (b b3 b4 mb : Nat) (wv lv : Value) (g : GSt) (serial place : Int) (first : ByteArray) (w0 : World) (h0 : HSat No w0 [Atom.ro (Cel b3 53 [.pointer (some ⟨b, 0, none⟩)]), Atom.ro (Cel b4 35 [.int .i64 serial, .int .i64 0, .int .i64 place, .string first, .slice none 0 0]), Atom.ro (Cel b 91 [.int .i64 g.id, .int .i64 0, .int .i64 50, .int .i64 g.now, .bool g.synced, .int .i64 g.since, .int .i64 g.bits, .int .i64 g.hs, wv, .map (some mb), lv])] w0) :
    Ret Tryz.prog 45 #[.pointer (some ⟨b4, 0, none⟩), .pointer (some ⟨b3, 0, none⟩)] w0 (fun u w => u = .bool false ∧ Ext w0 w) := by
 refine ret_of_wp (nt := 10) Tryz.func45 rfl rfl rfl (fl := [(0, .pointer (some ⟨b4, 0, none⟩)), (1, .pointer (some ⟨b3, 0, none⟩))]) rfl (fun a S => ?_)
 have H := h0
 refine gsr ?_
 refine ga S fun a S => ?_
 refine gnt ?_
 refine g_seq ?_
 refine region_st (loud := []) (tails := []) (free := []) [0, 1, 2, 3, 4, 5, 6, 7] [] Fmo (by kernel_rfl) (by kernel_rfl) rfl H ?_
 refine m_w rfl rfl (wn rfl) rfl rfl S (fun w H => y_faddrb rfl Ffo35_1 S rfl) fun a S => ?_
 refine m_w rfl rfl (wn rfl) rfl rfl S (fun w H => y_load rfl Fsca3 S H rfl rfl) fun a S => ?_
 refine m_w rfl rfl (wn rfl) rfl rfl S (fun w H => y_load rfl Fsca53 S H rfl rfl) fun a S => ?_
 refine m_w rfl rfl (wn rfl) rfl rfl S (fun w H => y_nilCheck rfl S rfl) fun a S => ?_
 refine m_w rfl rfl (wn rfl) rfl rfl S (fun w H => y_faddrb rfl Ffo91_1 S rfl) fun a S => ?_
 refine m_w rfl rfl (wn rfl) rfl rfl S (fun w H => y_load rfl Fsca3 S H rfl rfl) fun a S => ?_
 refine m_w rfl rfl (wn rfl) rfl rfl S (fun w H => y_bin rfl S rfl rfl rfl) fun a S => ?_
 refine m_w rfl rfl (wn rfl) rfl rfl S (fun w H => y_assign rfl S rfl) fun a S => ?_
 refine m_nil (fun w H => ?_)
 refine n_then ?_
 have S := S.nil.cons S 2 rfl
 refine g_ret ?_
 refine ret1 rfl S rfl ?_
 exact ⟨rfl, H.toExt⟩
/-- (*foyer/gate.Gate).Scan$3 -/
theorem ref3_spec (b b3 b4 mb : Nat) (wv lv : Value) (g : GSt) (serial place : Int) (first : ByteArray) (w0 : World) (h0 : HSat No w0 [TabsA, Atom.ro (Cel b3 53 [.pointer (some ⟨b, 0, none⟩)]), Atom.ro (Cel b4 35 [.int .i64 serial, .int .i64 0, .int .i64 place, .string first, .slice none 0 0]), Atom.ro (Cel b 91 [.int .i64 g.id, .int .i64 0, .int .i64 50, .int .i64 g.now, .bool g.synced, .int .i64 g.since, .int .i64 1024, .int .i64 3, wv, .map (some mb), lv]), Atom.ro (OSl 97 wv 1 encU g.ws)] w0) (hok : WOk g.ws) (hs : 10001 ≤ serial ∧ serial ≤ 19999) :
    Ret Tryz.prog 46 #[.pointer (some ⟨b3, 0, none⟩), .pointer (some ⟨b4, 0, none⟩)] w0 (fun u w => u = .bool (hasF g.ws serial) ∧ Ext w0 w) := by
 refine ret_of_wp (nt := 10) Tryz.func46 rfl rfl rfl (fl := [(0, .pointer (some ⟨b3, 0, none⟩)), (1, .pointer (some ⟨b4, 0, none⟩))]) rfl (fun a S => ?_)
 have H := h0
 refine gsr ?_
 refine ga S fun a S => ?_
 refine gnt ?_
 refine g_seq ?_
 refine region_st (loud := []) (tails := []) (free := []) [0, 1, 2, 3, 4, 5, 6, 7] [] Fmo (by kernel_rfl) (by kernel_rfl) rfl H ?_
 refine m_w rfl rfl (wn rfl) rfl rfl S (fun w H => y_load rfl Fsca53 S H rfl rfl) fun a S => ?_
 refine m_w rfl rfl (wn rfl) rfl rfl S (fun w H => y_nilCheck rfl S rfl) fun a S => ?_
 refine m_w rfl rfl (wn rfl) rfl rfl S (fun w H => y_faddrb rfl Ffo91_6 S rfl) fun a S => ?_
 refine m_w rfl rfl (wn rfl) rfl rfl S (fun w H => (y_loadp (vs := encF wv) rfl S H rfl (by exact Fagg61) rfl)) fun a S => ?_
 refine m_w rfl rfl (wn rfl) rfl rfl S (fun w H => y_faddrb rfl Ffo35_0 S rfl) fun a S => ?_
 refine m_w rfl rfl (wn rfl) rfl rfl S (fun w H => y_load rfl Fsca3 S H rfl rfl) fun a S => ?_
 refine m_c rfl rfl (wn rfl) rfl rfl S (fun w => co_func rfl Tryz.call47 S rfl) (fun w H => has_spec wv g.ws serial _ (H.sl wv) hok (by omega) H.tabs) fun a S => ?_
 refine m_w rfl rfl (wn rfl) rfl rfl S (fun w H => y_assign rfl S rfl) fun a S => ?_
 refine m_nil (fun w H => ?_)
 refine n_then ?_
 have S := S.nil.cons S 2 rfl
 refine g_ret ?_
 refine ret1 rfl S rfl ?_
 exact ⟨rfl, H.toExt⟩
/-- (*foyer/gate.Gate).Scan$4 -/
theorem ref4_spec (b4 : Nat) (serial place : Int) (first : ByteArray) (w0 : World) (h0 : HSat No w0 [TabsA, Atom.ro (Cel b4 35 [.int .i64 serial, .int .i64 0, .int .i64 place, .string first, .slice none 0 0])] w0) (hv : TitOK serial place first) :
    Ret Tryz.prog 48 #[.pointer (some ⟨b4, 0, none⟩)] w0 (fun u w => u = .bool false ∧ Ext w0 w) := by
 refine ret_of_wp (nt := 5) Tryz.func48 rfl rfl rfl (fl := [(0, .pointer (some ⟨b4, 0, none⟩))]) rfl (fun a S => ?_)
 have H := h0
 refine gsr ?_
 refine ga S fun a S => ?_
 refine gnt ?_
 refine gsr ?_
 refine gy rfl rfl rfl S (y_load0 rfl S H rfl (by exact Fagg35)) fun a S => ?_
 refine wl_of (op_call (wn rfl) rfl rfl S (co_func rfl Tryz.call49 S rfl) ((by have h := valid_spec (titF serial place first) w0 (titF_ok _ _ _ _) hv.sz H.tabs; rw [hv.valid] at h; exact h)) fun v w hc a S => ?_)
 obtain ⟨rfl, he⟩ := hc
 have H := H.ext he
 refine gy rfl rfl rfl S (y_not rfl S rfl) fun a S => ?_
 refine ga S fun a S => ?_
 refine gnt ?_
 have S := S.nil.cons S 1 rfl
 refine g_ret ?_
 refine ret1 rfl S rfl ?_
 exact ⟨rfl, H.toExt⟩
/-- (*foyer/gate.Gate).Scan$5 -/
theorem ref5_spec (f : FuncId) (cap : List Value) (he : Enters Tryz.prog f) (r : Bool) (w0 : World) (hr : Ret Tryz.prog f cap.toArray w0 (fun u w => u = .bool r ∧ Ext w0 w)) :
    Ret Tryz.prog 51 #[.func (.func f) #[] cap.toArray] w0 (fun u w => u = .bool r ∧ Ext w0 w) := by
 refine ret_of_wp (nt := 5) Tryz.func51 rfl rfl rfl (fl := [(0, .func (.func f) #[] cap.toArray)]) rfl (fun a S => ?_)
 have H := HSat.start w0
 refine gsr ?_
 refine ga S fun a S => ?_
 refine gnt ?_
 refine gsr ?_
 refine gm S fun a S => ?_
 refine wl_of (op_call (wn rfl) rfl rfl S (co_value rfl he S rfl rfl) ((by simpa using hr)) fun v w hc a S => ?_)
 obtain ⟨rfl, he⟩ := hc
 have H := H.ext he
 refine ga S fun a S => ?_
 refine gnt ?_
 have S := S.nil.cons S 2 rfl
 refine g_ret ?_
 refine ret1 rfl S rfl ?_
 exact ⟨rfl, H.toExt⟩
/-- slices.IndexFunc[[]func() bool,func() bool] -/
theorem idxf_spec (v : Value) (xs : List (Value × Bool)) (f : FuncId) (cap : List Value) (he : Enters Tryz.prog f) (pr : (Value × Bool) → Bool) (w0 : World) (hv : IsSl w0 v 1 fun1 xs)
    (hstep : ∀ x ∈ xs, ∀ w, Ext w0 w → Ret Tryz.prog f ([x.1] ++ cap).toArray w (fun u w' => u = .bool (pr x) ∧ Ext w w')) :
    Ret Tryz.prog 80 #[v, .func (.func f) #[] cap.toArray] w0 (fun u w => (u = .int .i64 (-1) ∧ xs.any pr = false ∧ Ext w0 w) ∨ (∃ j : Nat, u = .int .i64 (j : Int) ∧ xs.any pr = true ∧ Ext w0 w)) := by
 refine ret_of_wp (nt := 19) Tryz.func80 rfl rfl rfl (fl := [(0, v), (1, .func (.func f) #[] cap.toArray)]) rfl (fun a S => ?_)
 have H := HSat.start w0
 have H := H.ro0 (Sl v 1 fun1 xs) rfl (hv)
 have hlen := hv.len
 refine gsr ?_
 refine ga S fun a S => ?_
 refine gnt ?_
 refine g_seq ?_
 refine gsr ?_
 refine gm S fun a S => ?_
 refine gy rfl rfl rfl S (y_lens rfl Tryz.underlying108 S H rfl) fun a S => ?_
 refine gm S fun a S => ?_
 refine gnt ?_
 refine g_block ?_
 have SU := ((S.nil.cons S 1 rfl).cons S 0 rfl).cons S 7 rfl
 refine loop_k (X := Nat) SU (fun k => [(8, .int .i64 (k : Int))]) (fun k => k ≤ xs.length ∧ (∀ j (h : j < xs.length), j < k → pr xs[j] = false)) (fun k => xs.length - k) 0 (S.nil.cons S 8 rfl) H (⟨by omega, fun j h hj => by omega⟩) (fun k a w S H hi => ?_)
 simp only [List.cons_append, List.nil_append] at S hi
 obtain ⟨hk, hpr⟩ := hi
 refine gsr ?_
 refine gy rfl rfl rfl S (y_bin rfl S rfl rfl rfl) fun a S => ?_
 refine gnt ?_
 refine g_seq ?_
 refine c_if S rfl (fun h1 => ?_) (fun h1 => ?_)
 ·have h1p := h1; try simp only [DL] at h1p
  refine g_skip ?_
  refine n_then ?_
  refine g_seq ?_
  refine g_block ?_
  refine gsr ?_
  refine gm S fun a S => ?_
  refine ga S fun a S => ?_
  refine gnt ?_
  refine gsr ?_
  refine gm S fun a S => ?_
  refine gm S fun a S => ?_
  refine gm S fun a S => ?_
  refine gy rfl rfl rfl S (y_iaddrn rfl Tryz.underlying108 Fsiz23 S H rfl rfl (by first | assumption | omega | (simp only [LL]; omega))) fun a S => ?_
  refine gy rfl rfl rfl S (y_loads _ rfl Fsca23 S H rfl (by first | assumption | omega | (simp only [LL]; omega)) rfl) fun a S => ?_
  refine wl_of (op_call (wn rfl) rfl rfl S (co_value rfl he S rfl rfl) (hstep _ (List.getElem_mem (by omega)) w H.toExt) fun v w hc a S => ?_)
  obtain ⟨rfl, he1⟩ := hc
  have H := H.ext he1
  refine gnt ?_
  have S := (((((S.nil.cons S 1 rfl).cons S 0 rfl).cons S 7 rfl).cons S 8 rfl).cons S 5 rfl).cons S 16 rfl
  refine c_if S rfl (fun h2 => ?_) (fun h2 => ?_)
  ·have h2p := h2; try simp only [DL] at h2p
   refine gsr ?_
   refine gm S fun a S => ?_
   refine ga S fun a S => ?_
   refine gnt ?_
   refine g_ret ?_
   refine r_block (r_then (r_then (r_block (r_then (ret1 rfl S rfl ?_)))))
   exact .inr ⟨k, rfl, List.any_eq_true.2 ⟨_, List.getElem_mem (by omega), h2⟩, H.toExt⟩
  ·have h2p := h2; try simp only [DL] at h2p
   refine g_skip ?_
   refine n_block ?_
   refine n_then ?_
   refine g_region ?_
   refine gy rfl rfl rfl S (y_add rfl S rfl rfl (by omega)) fun a S => ?_
   refine gm S fun a S => ?_
   refine gnt ?_
   refine ⟨k + 1, S.nil.cons S 8 rfl, ((S.nil.cons S 1 rfl).cons S 0 rfl).cons S 7 rfl, H, ?_, ?_⟩
   · exact ⟨by omega, fun j h hj => by by_cases hjk : j < k; exact hpr j h hjk; (obtain rfl : j = k := by omega); exact h2⟩
   · omega
 ·have h1p := h1; try simp only [DL] at h1p
  refine g_exit ?_
  refine x_then (x_then (x_eq ?_))
  refine n_then ?_
  have S := S.nil
  refine gsr ?_
  refine ga S fun a S => ?_
  refine gnt ?_
  refine g_ret ?_
  refine ret1 rfl S rfl ?_
  obtain rfl : k = xs.length := by omega
  exact .inl ⟨rfl, List.any_eq_false.2 (fun x hx => by obtain ⟨j, hj, rfl⟩ := List.getElem_of_mem hx; simp [hpr j hj hj]), H.toExt⟩
/-- slices.ContainsFunc[[]func() bool,func() bool] -/
theorem conf_spec (v : Value) (xs : List (Value × Bool)) (f : FuncId) (cap : List Value) (he : Enters Tryz.prog f) (pr : (Value × Bool) → Bool) (w0 : World) (hv : IsSl w0 v 1 fun1 xs)
    (hstep : ∀ x ∈ xs, ∀ w, Ext w0 w → Ret Tryz.prog f ([x.1] ++ cap).toArray w (fun u w' => u = .bool (pr x) ∧ Ext w w')) :
    Ret Tryz.prog 50 #[v, .func (.func f) #[] cap.toArray] w0 (fun u w => u = .bool (xs.any pr) ∧ Ext w0 w) := by
 refine ret_of_wp (nt := 9) Tryz.func50 rfl rfl rfl (fl := [(0, v), (1, .func (.func f) #[] cap.toArray)]) rfl (fun a S => ?_)
 have H := HSat.start w0
 refine gsr ?_
 refine ga S fun a S => ?_
 refine gnt ?_
 refine gsr ?_
 refine gm S fun a S => ?_
 refine gm S fun a S => ?_
 refine wl_of (op_call (wn rfl) rfl rfl S (co_func rfl Tryz.call80 S rfl) (Ret.mono (idxf_spec v xs f cap he pr w0 hv hstep) (fun u w h => (show ∃ i : Int, u = .int .i64 i ∧ xs.any pr = decide (i ≥ 0) ∧ Ext w0 w from by rcases h with ⟨h1, h2, h3⟩ | ⟨j, h1, h2, h3⟩; exact ⟨-1, h1, by rw [h2]; rfl, h3⟩; exact ⟨j, h1, by rw [h2]; simp, h3⟩))) fun v w hc a S => ?_)
 obtain ⟨i, rfl, hany, he1⟩ := hc
 have H := H.ext he1
 refine gy rfl rfl rfl S (y_bin rfl S rfl rfl rfl) fun a S => ?_
 refine ga S fun a S => ?_
 refine gnt ?_
 have S := S.nil.cons S 4 rfl
 refine g_ret ?_
 refine ret1 rfl S rfl ?_
 exact ⟨by rw [hany], H.toExt⟩
end Go.Proofs.YtienaifmlhcijaaGreatDoor
end
section
namespace Go.Proofs.YtienaifmlhcijaaGreatDoor
open Go Go.Gw
set_option linter.unusedVariables false
set_option linter.unusedSimpArgs false
theorem own_t (serial place : Int) (first : ByteArray) (w0 : World) : Ret Tryz.prog 52 #[.agg ([.int .i64 serial, .int .i64 0, .int .i64 place, .string first, .slice none 0 0] : List Value).toArray] w0 (fun u w => u = .string first ∧ Ext w0 w) := owner_spec (titF serial place first) w0 (titF_ok _ _ _ _)
def GSt.leaveR (g : GSt) (serial : Int) : Int := if (g.ins serial).isSome = true then 0 else 11
section
variable {g : GSt} {serial t : Int} {first : ByteArray}
theorem scan_stale (h : g.synced = false ∨ t - g.since > 50) : g.scanR serial t = (0, 26) ∧ g.scan serial first t = g := by unfold GSt.scanR GSt.scan; rw [if_pos h, if_pos h]; exact ⟨rfl, rfl⟩
theorem scan_ref (h : ¬ (g.synced = false ∨ t - g.since > 50)) (h2 : (g.ins serial).isSome = true ∨ hasF g.ws serial = true) : (3 : Int) = (g.scanR serial t).1 ∧ (g.scanR serial t).2 = 0 ∧ g.scan serial first t = ({ g with ins := g.ins } : GSt).write 3 serial first t := by unfold GSt.scanR GSt.scan; rw [if_neg h, if_neg h, if_pos h2, if_pos h2]; exact ⟨rfl, rfl, rfl⟩
theorem scan_in (h : ¬ (g.synced = false ∨ t - g.since > 50)) (h2 : ¬ ((g.ins serial).isSome = true ∨ hasF g.ws serial = true)) : (1 : Int) = (g.scanR serial t).1 ∧ (g.scanR serial t).2 = 0 ∧ g.scan serial first t = ({ g with ins := upd g.ins serial first } : GSt).write 1 serial first t := by unfold GSt.scanR GSt.scan; rw [if_neg h, if_neg h, if_neg h2, if_neg h2]; exact ⟨rfl, rfl, rfl⟩
end
set_option maxHeartbeats 2000000 in
/-- (*foyer/gate.Gate).Scan -/
theorem scan_spec {M : Nat → Prop} {u0 : World} {l : List Atom} (b mb : Nat) (wv lv : Value) (c : Nat) (g : GSt) (serial place t : Int) (first : ByteArray) (w0 : World) (h0 : HSat M u0 (GateL b mb wv lv c g ++ l) w0) [hTA : HasAt l TabsA] (hv : TitOK serial place first) (hok : g.synced = true → g.bits = 1024 ∧ g.hs = 3 ∧ WOk g.ws) (hn : 0 ≤ t ∧ t ≤ 1000000000) (hle : g.now ≤ t) (hsi : 0 ≤ g.since ∧ g.since ≤ 1000000000) (hl : g.log.length < 4000) :
    Ret Tryz.prog 16 #[.pointer (some ⟨b, 0, none⟩), .agg ([.int .i64 serial, .int .i64 0, .int .i64 place, .string first, .slice none 0 0] : List Value).toArray, .int .i64 t] w0 (fun u w => u = .tuple #[.int .i64 (g.scanR serial t).1, .int .i64 (g.scanR serial t).2] ∧ ∃ lv2 c2, HSat M u0 (GateL b mb wv lv2 c2 (g.scan serial first t) ++ l) w) := by
 refine ret_of_wp (nt := 80) Tryz.func16 rfl rfl rfl (fl := [(0, .pointer (some ⟨b, 0, none⟩)), (1, .agg ([.int .i64 serial, .int .i64 0, .int .i64 place, .string first, .slice none 0 0] : List Value).toArray), (2, .int .i64 t)]) rfl (fun a S => ?_)
 have H := h0
 simp only [GateL, List.cons_append, List.nil_append] at H
 refine gsr ?_
 refine wl_of (op_box1 (wn rfl) rfl rfl rfl S H rfl rfl fun b3 a w S H => ?_)
 refine wl_of (op_boxa (wn rfl) rfl rfl rfl S H rfl fun b4 a w S H => ?_)
 refine ga S fun a S => ?_
 refine ga S fun a S => ?_
 refine gnt ?_
 refine gsr ?_
 refine gy rfl rfl rfl S (y_load rfl Fsca53 S H rfl rfl) fun a S => ?_
 refine gm S fun a S => ?_
 refine wl_of (op_call (wn rfl) rfl rfl S (co_func rfl Tryz.call41 S rfl) (come_spec b mb wv lv g t _ (H.take [Cel b 91 [.int .i64 g.id, .int .i64 0, .int .i64 50, .int .i64 g.now, .bool g.synced, .int .i64 g.since, .int .i64 g.bits, .int .i64 g.hs, wv, .map (some mb), lv]]).reads hn hle) fun v w hc a S => ?_)
 obtain ⟨rfl, he⟩ := hc
 have H := H.ext he
 refine ga S fun a S => ?_
 refine gnt ?_
 have S := (((((S.nil.cons S 2 rfl).cons S 3 rfl).cons S 4 rfl).cons S 6 rfl).cons S 7 rfl).cons S 8 rfl
 refine g_seq ?_
 refine g_block ?_
 refine gsr ?_
 refine gm S fun a S => ?_
 refine gy rfl rfl rfl S (y_bin rfl S rfl rfl rfl) fun a S => ?_
 refine ga S fun a S => ?_
 refine gnt ?_
 refine c_if S rfl (fun h1 => ?_) (fun h1 => ?_)
 ·have h1p := h1; try simp only [DL] at h1p
  all_goals (
    exact absurd h1 (by simp))
 ·have h1p := h1; try simp only [DL] at h1p
  refine g_seq ?_
  refine region_st (loud := []) (tails := []) (free := []) [0, 1, 2, 3, 4, 5, 6, 7, 8, 9, 10, 11, 12, 13, 14, 15, 16, 17, 18] [] Fmo (by kernel_rfl) (by kernel_rfl) rfl H ?_
  refine m_w rfl rfl (wn rfl) rfl rfl S (fun w H => y_load rfl Fsca53 S H rfl rfl) fun a S => ?_
  refine m_w rfl rfl (wn rfl) rfl rfl S (fun w H => y_nilCheck rfl S rfl) fun a S => ?_
  refine m_w rfl rfl (wn rfl) rfl rfl S (fun w H => y_faddrb rfl Ffo91_4 S rfl) fun a S => ?_
  refine m_w rfl rfl (wn rfl) rfl rfl S (fun w H => y_load rfl Fsca4 S H rfl rfl) fun a S => ?_
  refine m_w rfl rfl (wn rfl) rfl rfl S (fun w H => y_not rfl S rfl) fun a S => ?_
  refine m_w rfl rfl (wn rfl) rfl rfl S (fun w H => y_move rfl S rfl) fun a S => ?_
  refine' m_orq [6, 7, 8, 9, 10, 11, 12, 13, 14, 15, 16] 26 S rfl rfl rfl rfl rfl rfl rfl rfl rfl (fun _ S => (wn rfl)) (fun h2 kk => ?yh2) (fun a S => ?_)
  case yh2 =>
   have h2p := h2; try simp only [DL] at h2p
   refine m_w rfl rfl (wg' 26 rfl rfl S rfl h2 rfl) rfl rfl S (fun w H => y_move rfl S rfl) fun a S => ?_
   refine m_w rfl rfl (wg' 26 rfl rfl S rfl h2 rfl) rfl rfl S (fun w H => y_load rfl Fsca53 S H rfl rfl) fun a S => ?_
   refine m_w rfl rfl (wg' 26 rfl rfl S rfl h2 rfl) rfl rfl S (fun w H => y_nilCheck rfl S rfl) fun a S => ?_
   refine m_w rfl rfl (wg' 26 rfl rfl S rfl h2 rfl) rfl rfl S (fun w H => y_faddrb rfl Ffo91_5 S rfl) fun a S => ?_
   refine m_w rfl rfl (wg' 26 rfl rfl S rfl h2 rfl) rfl rfl S (fun w H => y_load rfl Fsca3 S H rfl rfl) fun a S => ?_
   refine m_w rfl rfl (wg' 26 rfl rfl S rfl h2 rfl) rfl rfl S (fun w H => y_sub rfl S rfl rfl (by omega)) fun a S => ?_
   refine m_w rfl rfl (wg' 26 rfl rfl S rfl h2 rfl) rfl rfl S (fun w H => y_load rfl Fsca53 S H rfl rfl) fun a S => ?_
   refine m_w rfl rfl (wg' 26 rfl rfl S rfl h2 rfl) rfl rfl S (fun w H => y_nilCheck rfl S rfl) fun a S => ?_
   refine m_w rfl rfl (wg' 26 rfl rfl S rfl h2 rfl) rfl rfl S (fun w H => y_faddrb rfl Ffo91_2 S rfl) fun a S => ?_
   refine m_w rfl rfl (wg' 26 rfl rfl S rfl h2 rfl) rfl rfl S (fun w H => y_load rfl Fsca3 S H rfl rfl) fun a S => ?_
   refine m_w rfl rfl (wg' 26 rfl rfl S rfl h2 rfl) rfl rfl S (fun w H => y_bin rfl S rfl rfl rfl) fun a S => ?_
   refine m_w rfl rfl (wn rfl) rfl rfl S (fun w H => y_or' rfl h2 S rfl rfl) fun a S => ?_
   exact kk _ (S.join 12 38 rfl rfl)
  refine m_w rfl rfl (wn rfl) rfl rfl S (fun w H => y_assign rfl S rfl) fun a S => ?_
  refine m_nil (fun w H => ?_)
  refine n_then ?_
  have S := (((((S.nil.cons S 2 rfl).cons S 3 rfl).cons S 4 rfl).cons S 6 rfl).cons S 7 rfl).cons S 20 rfl
  refine c_if S rfl (fun h3 => ?_) (fun h3 => ?_)
  ·have h3p := h3; try simp only [DL] at h3p
   have hst : g.synced = false ∨ t - g.since > 50 := by have h := h3p; simpa using h
   refine gsr ?_
   refine ga S fun a S => ?_
   refine ga S fun a S => ?_
   refine gnt ?_
   refine g_ret ?_
   refine r_block (r_then (ret2 rfl S rfl rfl ?_))
   have hsc := scan_stale (serial := serial) (first := first) hst
   rw [hsc.1, hsc.2]
   exact ⟨rfl, lv, c, H.takeT [Cel b 91 [.int .i64 g.id, .int .i64 0, .int .i64 50, .int .i64 g.now, .bool g.synced, .int .i64 g.since, .int .i64 g.bits, .int .i64 g.hs, wv, .map (some mb), lv], OSl 97 wv 1 encU g.ws, MapA mb (fun n : Int => Value.int .i64 n) (fun s : ByteArray => Value.string s) g.ins c, OSl 32 lv 6 encSV g.log] l⟩
  ·have h3p := h3; try simp only [DL] at h3p
   have hst : ¬ (g.synced = false ∨ t - g.since > 50) := by have h := h3; simpa using h
   have hfk := hok (by cases hs : g.synced with | true => rfl | false => exact absurd (.inl hs) hst)
   refine gsr ?_
   refine gy rfl rfl rfl S (y_load rfl Fsca53 S H rfl rfl) fun a S => ?_
   refine gy rfl rfl rfl S (y_nilCheck rfl S rfl) fun a S => ?_
   refine gy rfl rfl rfl S (y_faddrb rfl Ffo91_8 S rfl) fun a S => ?_
   refine gy rfl rfl rfl S (y_load rfl Fsca29 S H rfl rfl) fun a S => ?_
   refine gy rfl rfl rfl S (y_lens rfl Tryz.underlying29 S H rfl) fun a S => ?_
   refine gy rfl rfl rfl S (y_bin rfl S rfl rfl rfl) fun a S => ?_
   refine ga S fun a S => ?_
   refine gnt ?_
   have S := (((((S.nil.cons S 2 rfl).cons S 3 rfl).cons S 4 rfl).cons S 6 rfl).cons S 7 rfl).cons S 39 rfl
   refine c_if S rfl (fun h4 => ?_) (fun h4 => ?_)
   ·have h4p := h4; try simp only [DL] at h4p
    all_goals (
      exfalso
      have h := h4p
      omega)
   ·have h4p := h4; try simp only [DL] at h4p
    refine g_skip ?_
    refine n_block ?_
    refine n_then ?_
    refine g_seq ?_
    refine region_st (loud := [10, 12]) (tails := [12]) (free := []) [0, 1, 2, 3, 4, 5, 6, 7, 8, 9, 10, 11, 12] [] Fmo (by kernel_rfl) (by kernel_rfl) rfl H ?_
    refine m_w rfl rfl (wn rfl) rfl rfl S (fun w H => y_load rfl Fsca53 S H rfl rfl) fun a S => ?_
    refine m_w rfl rfl (wn rfl) rfl rfl S (fun w H => y_nilCheck rfl S rfl) fun a S => ?_
    refine m_w rfl rfl (wn rfl) rfl rfl S (fun w H => y_faddrb rfl Ffo91_7 S rfl) fun a S => ?_
    refine m_w rfl rfl (wn rfl) rfl rfl S (fun w H => y_load rfl Fsca89 S H rfl rfl) fun a S => ?_
    refine m_w rfl rfl (wn rfl) rfl rfl S (fun w H => y_faddrb rfl Ffo35_0 S rfl) fun a S => ?_
    refine m_w rfl rfl (wn rfl) rfl rfl S (fun w H => y_load rfl Fsca3 S H rfl rfl) fun a S => ?_
    refine m_w rfl rfl (wn rfl) rfl rfl S (fun w H => y_lookupok (_) ((⟨#[]⟩ : ByteArray)) rfl Tryz.underlying89 Finf9 S H rfl (keyOK_int Tryz.underlying3) (by exact rfl) (by exact rfl)) fun a S => ?_
    refine m_w rfl rfl (wn rfl) rfl rfl S (fun w H => y_move rfl S rfl) fun a S => ?_
    refine m_w rfl rfl (wn rfl) rfl rfl S (fun w H => y_extract rfl S rfl rfl) fun a S => ?_
    refine m_w rfl rfl (wn rfl) rfl rfl S (fun w H => y_extract rfl S rfl rfl) fun a S => ?_
    refine m_l rfl rfl (fun w H => op_alloc (wn rfl) rfl rfl rfl S H Fzer4 fun b10 a w S H => m_next H (List.sublist_cons_self _ _) ?_)
    refine m_w rfl rfl (wn rfl) rfl rfl S (fun w H => y_assign rfl S rfl) fun a S => ?_
    refine m_l rfl rfl (fun w H => op_store (wn rfl) rfl rfl S H rfl rfl rfl Fsiz4 rfl fun a w S H => m_tail H rfl ?_)
    dsimp only [List.set, Nat.zero_add, Nat.reduceAdd] at H
    refine m_nil (fun w H => ?_)
    refine n_then ?_
    have S := (((((S.nil.cons S 2 rfl).cons S 3 rfl).cons S 4 rfl).cons S 6 rfl).cons S 7 rfl).cons S 10 rfl
    refine g_seq ?_
    dsimp only [List.set] at H
    ·skip
     refine g_region ?_
     refine gy rfl rfl rfl S (y_makeFunc rfl S rfl rfl) fun a S => ?_
     refine gy rfl rfl rfl S (y_makeFunc rfl S rfl rfl) fun a S => ?_
     refine gy rfl rfl rfl S (y_makeFunc rfl S rfl rfl) fun a S => ?_
     refine gy rfl rfl rfl S (y_makeFunc rfl S rfl rfl) fun a S => ?_
     refine wl_of (op_buildSlice (wn rfl) rfl rfl rfl Tryz.underlying108 Finf23 S H (idx := [0, 1, 2, 3]) rfl rfl rfl (z := [.nilFunc, .nilFunc, .nilFunc, .nilFunc]) (by kernel_rfl) (cs := [.func (.func 44) #[] #[.pointer (some ⟨b10, 0, none⟩)], .func (.func 45) #[] #[.pointer (some ⟨b4, 0, none⟩), .pointer (some ⟨b3, 0, none⟩)], .func (.func 46) #[] #[.pointer (some ⟨b3, 0, none⟩), .pointer (some ⟨b4, 0, none⟩)], .func (.func 48) #[] #[.pointer (some ⟨b4, 0, none⟩)]]) rfl fun b60 a w S H => ?_)
     refine ga S fun a S => ?_
     refine gnt ?_
     have S := (((((S.nil.cons S 2 rfl).cons S 3 rfl).cons S 4 rfl).cons S 6 rfl).cons S 7 rfl).cons S 11 rfl
     refine gsr ?_
     refine ga S fun a S => ?_
     refine gnt ?_
     refine g_seq ?_
     refine gsr ?_
     refine gm S fun a S => ?_
     refine wl_of (op_call (wn rfl) rfl rfl S (co_func rfl Tryz.call50 S rfl) (conf_spec _ ([(.func (.func 44) #[] #[.pointer (some ⟨b10, 0, none⟩)], (g.ins serial).isSome), (.func (.func 45) #[] #[.pointer (some ⟨b4, 0, none⟩), .pointer (some ⟨b3, 0, none⟩)], false), (.func (.func 46) #[] #[.pointer (some ⟨b3, 0, none⟩), .pointer (some ⟨b4, 0, none⟩)], hasF g.ws serial), (.func (.func 48) #[] #[.pointer (some ⟨b4, 0, none⟩)], false)]) 51 [] Tryz.call51 (fun p => p.2) _ (H.slb b60 ([(.func (.func 44) #[] #[.pointer (some ⟨b10, 0, none⟩)], (g.ins serial).isSome), (.func (.func 45) #[] #[.pointer (some ⟨b4, 0, none⟩), .pointer (some ⟨b3, 0, none⟩)], false), (.func (.func 46) #[] #[.pointer (some ⟨b3, 0, none⟩), .pointer (some ⟨b4, 0, none⟩)], hasF g.ws serial), (.func (.func 48) #[] #[.pointer (some ⟨b4, 0, none⟩)], false)]) fun1 1 rfl rfl (by intro x _; rfl) (by show 4 ≤ 9223372036854775807; decide)) (fun x hx w1 e => by
       have H := H.ext e
       simp only [List.mem_cons, List.not_mem_nil, or_false] at hx
       rcases hx with rfl | rfl | rfl | rfl
       · exact ref5_spec 44 [.pointer (some ⟨b10, 0, none⟩)] Tryz.call44 _ w1 (ref1_spec b10 _ w1 (H.take [Cel b10 4 [.bool (g.ins serial).isSome]]).reads)
       · exact ref5_spec 45 [.pointer (some ⟨b4, 0, none⟩), .pointer (some ⟨b3, 0, none⟩)] Tryz.call45 false w1 (ref2_spec b b3 b4 mb wv lv g serial place first w1 (H.take [Cel b3 53 [.pointer (some ⟨b, 0, none⟩)], Cel b4 35 [.int .i64 serial, .int .i64 0, .int .i64 place, .string first, .slice none 0 0], Cel b 91 [.int .i64 g.id, .int .i64 0, .int .i64 50, .int .i64 g.now, .bool g.synced, .int .i64 g.since, .int .i64 g.bits, .int .i64 g.hs, wv, .map (some mb), lv]]).reads)
       · exact ref5_spec 46 [.pointer (some ⟨b3, 0, none⟩), .pointer (some ⟨b4, 0, none⟩)] Tryz.call46 _ w1 (by rw [hfk.1, hfk.2.1] at H; exact ref3_spec b b3 b4 mb wv lv g serial place first w1 ((H.take [Cel b3 53 [.pointer (some ⟨b, 0, none⟩)], Cel b4 35 [.int .i64 serial, .int .i64 0, .int .i64 place, .string first, .slice none 0 0], Cel b 91 [.int .i64 g.id, .int .i64 0, .int .i64 50, .int .i64 g.now, .bool g.synced, .int .i64 g.since, .int .i64 1024, .int .i64 3, wv, .map (some mb), lv], OSl 97 wv 1 encU g.ws]).reads.ro0 TabsA rfl H.tabs) hfk.2.2 hv.s)
       · exact ref5_spec 48 [.pointer (some ⟨b4, 0, none⟩)] Tryz.call48 false w1 (ref4_spec b4 serial place first w1 ((H.take [Cel b4 35 [.int .i64 serial, .int .i64 0, .int .i64 place, .string first, .slice none 0 0]]).reads.ro0 TabsA rfl H.tabs) hv))) fun v w hc a S => ?_)
     obtain ⟨rfl, he⟩ := hc
     have H := H.ext he
     refine gnt ?_
     refine cut (fun a w => ∃ (kd : Int) (ins2 : Int → Option ByteArray) (c2 : Nat), (kd = (g.scanR serial t).1 ∧ (g.scanR serial t).2 = 0 ∧ g.scan serial first t = ({ g with ins := ins2 } : GSt).write kd serial first t) ∧ St 80 [(12, .int .i64 kd), (2, .int .i64 t), (3, .pointer (some ⟨b3, 0, none⟩)), (4, .pointer (some ⟨b4, 0, none⟩))] a ∧ HSat M u0 (Cel b4 35 [.int .i64 serial, .int .i64 0, .int .i64 place, .string first, .slice none 0 0] :: Cel b3 53 [.pointer (some ⟨b, 0, none⟩)] :: Cel b 91 [.int .i64 g.id, .int .i64 0, .int .i64 50, .int .i64 g.now, .bool g.synced, .int .i64 g.since, .int .i64 g.bits, .int .i64 g.hs, wv, .map (some mb), lv] :: OSl 97 wv 1 encU g.ws :: MapA mb (fun n : Int => Value.int .i64 n) (fun s : ByteArray => Value.string s) ins2 c2 :: OSl 32 lv 6 encSV g.log :: l) w) ?_ ?_
     ·skip
      refine c_if S rfl (fun h5 => ?_) (fun h5 => ?_)
      ·have h5p := h5; try simp only [DL] at h5p
       have hsc := scan_ref (first := first) hst (by simpa using h5)
       refine g_region ?_
       refine ga S fun a S => ?_
       refine gnt ?_
       first
       | exact ⟨3, g.ins, c, hsc, (((S.nil.cons S 4 rfl).cons S 3 rfl).cons S 2 rfl).cons S 12 rfl, H.takeT [Cel b4 35 [.int .i64 serial, .int .i64 0, .int .i64 place, .string first, .slice none 0 0], Cel b3 53 [.pointer (some ⟨b, 0, none⟩)], Cel b 91 [.int .i64 g.id, .int .i64 0, .int .i64 50, .int .i64 g.now, .bool g.synced, .int .i64 g.since, .int .i64 g.bits, .int .i64 g.hs, wv, .map (some mb), lv], OSl 97 wv 1 encU g.ws, MapA mb (fun n : Int => Value.int .i64 n) (fun s : ByteArray => Value.string s) g.ins c, OSl 32 lv 6 encSV g.log] l⟩
       | exact ⟨1, upd g.ins serial first, (if (g.ins serial).isSome = true then c else c + 1), hsc, (((S.nil.cons S 4 rfl).cons S 3 rfl).cons S 2 rfl).cons S 12 rfl, H.takeT [Cel b4 35 [.int .i64 serial, .int .i64 0, .int .i64 place, .string first, .slice none 0 0], Cel b3 53 [.pointer (some ⟨b, 0, none⟩)], Cel b 91 [.int .i64 g.id, .int .i64 0, .int .i64 50, .int .i64 g.now, .bool g.synced, .int .i64 g.since, .int .i64 g.bits, .int .i64 g.hs, wv, .map (some mb), lv], OSl 97 wv 1 encU g.ws, MapA mb (fun n : Int => Value.int .i64 n) (fun s : ByteArray => Value.string s) (upd g.ins serial first) (if (g.ins serial).isSome = true then c else c + 1), OSl 32 lv 6 encSV g.log] l⟩
      ·have h5p := h5; try simp only [DL] at h5p
       have hsc := scan_in (first := first) hst (by simpa using h5)
       refine region_st (loud := [8]) (tails := [8]) (free := []) [0, 1, 2, 3, 4, 5, 6, 7, 8] [] Fmo (by kernel_rfl) (by kernel_rfl) rfl H ?_
       refine m_w rfl rfl (wn rfl) rfl rfl S (fun w H => y_load rfl Fsca53 S H rfl rfl) fun a S => ?_
       refine m_w rfl rfl (wn rfl) rfl rfl S (fun w H => y_nilCheck rfl S rfl) fun a S => ?_
       refine m_w rfl rfl (wn rfl) rfl rfl S (fun w H => y_faddrb rfl Ffo91_7 S rfl) fun a S => ?_
       refine m_w rfl rfl (wn rfl) rfl rfl S (fun w H => y_load rfl Fsca89 S H rfl rfl) fun a S => ?_
       refine m_w rfl rfl (wn rfl) rfl rfl S (fun w H => y_faddrb rfl Ffo35_0 S rfl) fun a S => ?_
       refine m_w rfl rfl (wn rfl) rfl rfl S (fun w H => y_load rfl Fsca3 S H rfl rfl) fun a S => ?_
       refine m_w rfl rfl (wn rfl) rfl rfl S (fun w H => y_load0 rfl S H rfl (by exact Fagg35)) fun a S => ?_
       refine m_c rfl rfl (wn rfl) rfl rfl S (fun w => co_func rfl Tryz.call52 S rfl) (fun w H => own_t serial place first _) fun a S => ?_
       refine m_l rfl rfl (fun w H => op_mapUpdate (serial) (first) (wn rfl) rfl rfl Tryz.underlying89 S H rfl (keyOK_int Tryz.underlying3) (by exact rfl) (by exact rfl) fun a w S H => m_tail H rfl ?_)
       refine m_nil (fun w H => ?_)
       refine n_then ?_
       first
       | exact ⟨3, g.ins, c, hsc, (((S.nil.cons S 4 rfl).cons S 3 rfl).cons S 2 rfl).cons S 12 rfl, H.takeT [Cel b4 35 [.int .i64 serial, .int .i64 0, .int .i64 place, .string first, .slice none 0 0], Cel b3 53 [.pointer (some ⟨b, 0, none⟩)], Cel b 91 [.int .i64 g.id, .int .i64 0, .int .i64 50, .int .i64 g.now, .bool g.synced, .int .i64 g.since, .int .i64 g.bits, .int .i64 g.hs, wv, .map (some mb), lv], OSl 97 wv 1 encU g.ws, MapA mb (fun n : Int => Value.int .i64 n) (fun s : ByteArray => Value.string s) g.ins c, OSl 32 lv 6 encSV g.log] l⟩
       | exact ⟨1, upd g.ins serial first, (if (g.ins serial).isSome = true then c else c + 1), hsc, (((S.nil.cons S 4 rfl).cons S 3 rfl).cons S 2 rfl).cons S 12 rfl, H.takeT [Cel b4 35 [.int .i64 serial, .int .i64 0, .int .i64 place, .string first, .slice none 0 0], Cel b3 53 [.pointer (some ⟨b, 0, none⟩)], Cel b 91 [.int .i64 g.id, .int .i64 0, .int .i64 50, .int .i64 g.now, .bool g.synced, .int .i64 g.since, .int .i64 g.bits, .int .i64 g.hs, wv, .map (some mb), lv], OSl 97 wv 1 encU g.ws, MapA mb (fun n : Int => Value.int .i64 n) (fun s : ByteArray => Value.string s) (upd g.ins serial first) (if (g.ins serial).isSome = true then c else c + 1), OSl 32 lv 6 encSV g.log] l⟩
     rintro a w ⟨kd, ins2, c2, hsc, S, H⟩
     refine g_seq ?_
     refine region_st (loud := [7]) (tails := [7]) (free := []) [0, 1, 2, 3, 4, 5, 6, 7] [] Fmo (by kernel_rfl) (by kernel_rfl) rfl H ?_
     refine m_w rfl rfl (wn rfl) rfl rfl S (fun w H => y_load rfl Fsca53 S H rfl rfl) fun a S => ?_
     refine m_w rfl rfl (wn rfl) rfl rfl S (fun w H => y_move rfl S rfl) fun a S => ?_
     refine m_w rfl rfl (wn rfl) rfl rfl S (fun w H => y_faddrb rfl Ffo35_0 S rfl) fun a S => ?_
     refine m_w rfl rfl (wn rfl) rfl rfl S (fun w H => y_load rfl Fsca3 S H rfl rfl) fun a S => ?_
     refine m_w rfl rfl (wn rfl) rfl rfl S (fun w H => y_load0 rfl S H rfl (by exact Fagg35)) fun a S => ?_
     refine m_c rfl rfl (wn rfl) rfl rfl S (fun w => co_func rfl Tryz.call52 S rfl) (fun w H => own_t serial place first _) fun a S => ?_
     refine m_w rfl rfl (wn rfl) rfl rfl S (fun w H => y_move rfl S rfl) fun a S => ?_
     refine m_l rfl rfl (fun w H => op_call (wn rfl) rfl rfl S (co_func rfl Tryz.call53 S rfl) (gwrite_spec b mb wv lv c2 ({ g with ins := ins2 } : GSt) kd serial t first _ (H.pick [Cel b 91 [.int .i64 g.id, .int .i64 0, .int .i64 50, .int .i64 g.now, .bool g.synced, .int .i64 g.since, .int .i64 g.bits, .int .i64 g.hs, wv, .map (some mb), lv], OSl 97 wv 1 encU g.ws, MapA mb (fun n : Int => Value.int .i64 n) (fun s : ByteArray => Value.string s) ins2 c2, OSl 32 lv 6 encSV g.log]) (by show g.log.length ≤ 4000; omega)) fun v w hc a S => ?_)
     obtain ⟨rfl, lv2, H⟩ := hc
     
     refine m_tail H rfl ?_
     refine m_nil (fun w H => ?_)
     refine n_then ?_
     have S := S.nil.cons S 12 rfl
     refine gsr ?_
     refine gm S fun a S => ?_
     refine ga S fun a S => ?_
     refine ga S fun a S => ?_
     refine gnt ?_
     refine g_ret ?_
     refine ret2 rfl S rfl rfl ?_
     rw [hsc.2.1, ← hsc.1, hsc.2.2]
     exact ⟨rfl, lv2, c2, H.mid.mid⟩
set_option maxHeartbeats 1000000 in
/-- (*foyer/gate.Gate).Leave -/
theorem leave_spec {M : Nat → Prop} {u0 : World} {l : List Atom} (b mb : Nat) (wv lv : Value) (c : Nat) (g : GSt) (serial t : Int) (w0 : World) (h0 : HSat M u0 (GateL b mb wv lv c g ++ l) w0) (hn : 0 ≤ t ∧ t ≤ 1000000000) (hle : g.now ≤ t) (hl : g.log.length < 4000) :
    Ret Tryz.prog 17 #[.pointer (some ⟨b, 0, none⟩), .int .i64 serial, .int .i64 t] w0 (fun u w => u = .int .i64 (g.leaveR serial) ∧ ∃ lv2 c2, HSat M u0 (GateL b mb wv lv2 c2 (g.leave serial t) ++ l) w) := by
 refine ret_of_wp (nt := 45) Tryz.func17 rfl rfl rfl (fl := [(0, .pointer (some ⟨b, 0, none⟩)), (1, .int .i64 serial), (2, .int .i64 t)]) rfl (fun a S => ?_)
 have H := h0
 simp only [GateL, List.cons_append, List.nil_append] at H
 refine gsr ?_
 refine ga S fun a S => ?_
 refine gnt ?_
 refine g_seq ?_
 refine gsr ?_
 refine gm S fun a S => ?_
 refine gm S fun a S => ?_
 refine wl_of (op_call (wn rfl) rfl rfl S (co_func rfl Tryz.call41 S rfl) (come_spec b mb wv lv g t _ (H.take [Cel b 91 [.int .i64 g.id, .int .i64 0, .int .i64 50, .int .i64 g.now, .bool g.synced, .int .i64 g.since, .int .i64 g.bits, .int .i64 g.hs, wv, .map (some mb), lv]]).reads hn hle) fun v w hc a S => ?_)
 obtain ⟨rfl, he⟩ := hc
 have H := H.ext he
 refine ga S fun a S => ?_
 refine gnt ?_
 refine gsr ?_
 refine gm S fun a S => ?_
 refine gy rfl rfl rfl S (y_bin rfl S rfl rfl rfl) fun a S => ?_
 refine gnt ?_
 have S := (((((S.nil.cons S 2 rfl).cons S 1 rfl).cons S 0 rfl).cons S 6 rfl).cons S 7 rfl).cons S 14 rfl
 refine c_if S rfl (fun h1 => ?_) (fun h1 => ?_)
 ·have h1p := h1; try simp only [DL] at h1p
  all_goals (
    exact absurd h1 (by simp))
 ·have h1p := h1; try simp only [DL] at h1p
  refine g_skip ?_
  refine n_then ?_
  refine gsr ?_
  refine gm S fun a S => ?_
  refine gy rfl rfl rfl S (y_nilCheck rfl S rfl) fun a S => ?_
  refine gy rfl rfl rfl S (y_faddrb rfl Ffo91_7 S rfl) fun a S => ?_
  refine gy rfl rfl rfl S (y_load rfl Fsca89 S H rfl rfl) fun a S => ?_
  refine gm S fun a S => ?_
  refine gy rfl rfl rfl S (y_lookupok (_) ((⟨#[]⟩ : ByteArray)) rfl Tryz.underlying89 Finf9 S H rfl (keyOK_int Tryz.underlying3) (by exact rfl) (by exact rfl)) fun a S => ?_
  refine gm S fun a S => ?_
  refine gy rfl rfl rfl S (y_extract rfl S rfl rfl) fun a S => ?_
  refine gy rfl rfl rfl S (y_extract rfl S rfl rfl) fun a S => ?_
  refine ga S fun a S => ?_
  refine ga S fun a S => ?_
  refine gnt ?_
  have S := (((((S.nil.cons S 2 rfl).cons S 1 rfl).cons S 0 rfl).cons S 6 rfl).cons S 8 rfl).cons S 9 rfl
  refine g_seq ?_
  refine g_block ?_
  refine gsr ?_
  refine gm S fun a S => ?_
  refine gy rfl rfl rfl S (y_not rfl S rfl) fun a S => ?_
  refine ga S fun a S => ?_
  refine gnt ?_
  refine c_if S rfl (fun h2 => ?_) (fun h2 => ?_)
  ·have h2p := h2; try simp only [DL] at h2p
   have hi : g.ins serial = none := by have h := h2; simpa using h
   refine gsr ?_
   refine ga S fun a S => ?_
   refine gnt ?_
   have S := ((((S.nil.cons S 2 rfl).cons S 1 rfl).cons S 0 rfl).cons S 8 rfl).cons S 6 rfl
   refine g_ret ?_
   refine r_block (r_then (ret1 rfl S rfl ?_))
   unfold GSt.leaveR GSt.leave
   rw [hi]
   exact ⟨rfl, lv, c, H.takeT [Cel b 91 [.int .i64 g.id, .int .i64 0, .int .i64 50, .int .i64 g.now, .bool g.synced, .int .i64 g.since, .int .i64 g.bits, .int .i64 g.hs, wv, .map (some mb), lv], OSl 97 wv 1 encU g.ws, MapA mb (fun n : Int => Value.int .i64 n) (fun s : ByteArray => Value.string s) g.ins c, OSl 32 lv 6 encSV g.log] l⟩
  ·have h2p := h2; try simp only [DL] at h2p
   obtain ⟨o, ho⟩ : ∃ o, g.ins serial = some o := Option.isSome_iff_exists.1 (by have h := h2; simpa using h)
   rw [show ((g.ins serial).getD (⟨#[]⟩ : ByteArray)) = o by rw [ho]; rfl] at S
   refine gsr ?_
   refine gm S fun a S => ?_
   refine gy rfl rfl rfl S (y_nilCheck rfl S rfl) fun a S => ?_
   refine gy rfl rfl rfl S (y_faddrb rfl Ffo91_8 S rfl) fun a S => ?_
   refine gy rfl rfl rfl S (y_load rfl Fsca29 S H rfl rfl) fun a S => ?_
   refine gy rfl rfl rfl S (y_lens rfl Tryz.underlying29 S H rfl) fun a S => ?_
   refine gy rfl rfl rfl S (y_bin rfl S rfl rfl rfl) fun a S => ?_
   refine ga S fun a S => ?_
   refine gnt ?_
   have S := (((((S.nil.cons S 2 rfl).cons S 1 rfl).cons S 0 rfl).cons S 6 rfl).cons S 8 rfl).cons S 28 rfl
   refine c_if S rfl (fun h3 => ?_) (fun h3 => ?_)
   ·have h3p := h3; try simp only [DL] at h3p
    all_goals (
      exfalso
      have h := h3p
      omega)
   ·have h3p := h3; try simp only [DL] at h3p
    refine g_skip ?_
    refine n_block ?_
    refine n_then ?_
    refine gsr ?_
    refine gm S fun a S => ?_
    refine gy rfl rfl rfl S (y_nilCheck rfl S rfl) fun a S => ?_
    refine gy rfl rfl rfl S (y_faddrb rfl Ffo91_7 S rfl) fun a S => ?_
    refine gy rfl rfl rfl S (y_load rfl Fsca89 S H rfl rfl) fun a S => ?_
    refine gm S fun a S => ?_
    refine wl_of (op_deleteM serial (wn rfl) rfl rfl Tryz.underlying89 S H rfl (keyOK_int Tryz.underlying3) rfl fun a w S H => ?_)
    refine gnt ?_
    have S := ((((S.nil.cons S 2 rfl).cons S 1 rfl).cons S 0 rfl).cons S 6 rfl).cons S 8 rfl
    refine gsr ?_
    refine gm S fun a S => ?_
    refine gm S fun a S => ?_
    refine gm S fun a S => ?_
    refine gm S fun a S => ?_
    refine wl_of (op_call (wn rfl) rfl rfl S (co_func rfl Tryz.call53 S rfl) (gwrite_spec b mb wv lv _ ({ g with ins := delK g.ins serial } : GSt) 2 serial t o _ (H.pick [Cel b 91 [.int .i64 g.id, .int .i64 0, .int .i64 50, .int .i64 g.now, .bool g.synced, .int .i64 g.since, .int .i64 g.bits, .int .i64 g.hs, wv, .map (some mb), lv], OSl 97 wv 1 encU g.ws, MapA mb (fun n : Int => Value.int .i64 n) (fun s : ByteArray => Value.string s) (delK g.ins serial) (if (g.ins serial).isSome = true then c - 1 else c), OSl 32 lv 6 encSV g.log]) (by show g.log.length ≤ 4000; omega)) fun v w hc a S => ?_)
    obtain ⟨rfl, lv2, H⟩ := hc
    
    refine gnt ?_
    have S := S.nil.cons S 6 rfl
    refine gsr ?_
    refine ga S fun a S => ?_
    refine gnt ?_
    refine g_ret ?_
    refine ret1 rfl S rfl ?_
    unfold GSt.leaveR GSt.leave
    rw [ho]
    exact ⟨rfl, lv2, _, H⟩
end Go.Proofs.YtienaifmlhcijaaGreatDoor
end
section
namespace Go.Proofs.YtienaifmlhcijaaGreatDoor
open Go Go.Gw
set_option linter.unusedSimpArgs false
set_option linter.unusedVariables false
def encP (b : Nat) : List Value := [.pointer (some ⟨b, 0, none⟩)]
def encE (e : Ev) : List Value := [.int .u8 (e.kind : Int), .int .u8 (e.gate : Int), .int .u8 (e.title : Int), .int .u8 (e.after : Int)]
def ownerN (k : Nat) : ByteArray := ⟨#[111, 119, 110, 101, 114, 32]⟩ ++ ⟨#[UInt8.ofNat (97 + k)]⟩
noncomputable def keyF (k : Nat) : ByteArray := pubS (ownerN k)
theorem ownerN_size (k : Nat) : (ownerN k).size = 7 := by unfold ownerN; rw [ByteArray.size_append]; rfl
theorem keyF_D (k : Nat) : isD (keyF k) = true := isD_listS _
noncomputable def titA (g : List Int) (k : Nat) : OV := ⟨titF (serK k) (k : Int) (keyF k), g.getD k 0⟩
noncomputable def titL (g : List Int) : List OV := (List.range 5).map (titA g)
theorem titL_len (g : List Int) : (titL g).length = 5 := by simp [titL]
theorem titL_at (g : List Int) (k : Nat) (h : k < (titL g).length) : (titL g)[k] = titA g k := by simp [titL]
theorem titL_set {g : List Int} (hg : g.length = 5) {k : Nat} (hk : k < 5) (v : Int) : (titL g).set k ⟨titF (serK k) (k : Int) (keyF k), v⟩ = titL (g.set k v) := by
  apply List.ext_getElem
  · simp [titL]
  · intro i h1 h2
    rw [titL_at, List.getElem_set]
    unfold titA
    split
    · rename_i e; subst e
      rw [getD_set (by omega), if_pos rfl]
    · rename_i e
      rw [titL_at, getD_set (by omega), if_neg (fun h => e h.symm)]; rfl
theorem titL_pairs (s : Ply) : pairsO (titL s.gone) = s.pairs := rfl
theorem tit_ok {k : Nat} (hk : k < 5) : TitOK (serK k) (k : Int) (keyF k) := ⟨by unfold serK; omega, by omega, keyF_D k⟩
section
variable {key : Nat → ByteArray} {s : Ply} {e : Ev}
theorem mid0 (h : e.kind % 4 = 0) (h0 : s.gone.getD (e.title % 5) 0 = 0) : s.mid key e = { s with now := s.now + (1 + (e.after : Int)), gone := s.gone.set (e.title % 5) (s.now + (1 + (e.after : Int))), revoked := s.revoked ++ [serK (e.title % 5)] } := by
  unfold Ply.mid; dsimp only; rw [if_pos h, if_pos h0]
theorem mid0' (h : e.kind % 4 = 0) (h0 : ¬ s.gone.getD (e.title % 5) 0 = 0) : s.mid key e = { s with now := s.now + (1 + (e.after : Int)) } := by
  unfold Ply.mid; dsimp only; rw [if_pos h, if_neg h0]
theorem mid1 (h : e.kind % 4 = 1) : s.mid key e = Ply.putG { s with now := s.now + (1 + (e.after : Int)) } (e.gate % 3) ((s.gs (e.gate % 3)).sync (makeW s.revoked) (s.now + (1 + (e.after : Int)))) := by
  unfold Ply.mid; dsimp only; rw [if_neg (by omega), if_pos h]
theorem mid2 (h : e.kind % 4 = 2) : s.mid key e = Ply.putG { s with now := s.now + (1 + (e.after : Int)) } (e.gate % 3) ((s.gs (e.gate % 3)).scan (serK (e.title % 5)) (key (e.title % 5)) (s.now + (1 + (e.after : Int)))) := by
  unfold Ply.mid; dsimp only; rw [if_neg (by omega), if_neg (by omega), if_pos h]
theorem mid3 (h : e.kind % 4 = 3) : s.mid key e = Ply.putG { s with now := s.now + (1 + (e.after : Int)) } (e.gate % 3) ((s.gs (e.gate % 3)).leave (serK (e.title % 5)) (s.now + (1 + (e.after : Int)))) := by
  unfold Ply.mid; dsimp only; rw [if_neg (by omega), if_neg (by omega), if_neg (by omega)]
theorem kind4 (e : Ev) : e.kind % 4 = 0 ∨ e.kind % 4 = 1 ∨ e.kind % 4 = 2 ∨ e.kind % 4 = 3 := by omega
theorem scan_log (g : GSt) (serial : Int) (f : ByteArray) (t : Int) : (g.scan serial f t).log = g.log ∨ ∃ x, (g.scan serial f t).log = g.log ++ [x] := by
  unfold GSt.scan GSt.write
  split
  · exact .inl rfl
  · split <;> exact .inr ⟨_, rfl⟩
theorem leave_log (g : GSt) (serial t : Int) : (g.leave serial t).log = g.log ∨ ∃ x, (g.leave serial t).log = g.log ++ [x] := by
  unfold GSt.leave GSt.write
  split
  · exact .inl rfl
  · exact .inr ⟨_, rfl⟩
theorem mid_log : ((s.mid key e).gs (e.gate % 3)).log = (s.gs (e.gate % 3)).log ∨ ∃ x, ((s.mid key e).gs (e.gate % 3)).log = (s.gs (e.gate % 3)).log ++ [x] := by
  rcases kind4 e with h | h | h | h
  · by_cases h0 : s.gone.getD (e.title % 5) 0 = 0
    · rw [mid0 h h0]; exact .inl rfl
    · rw [mid0' h h0]; exact .inl rfl
  · rw [mid1 h, putG_same]; exact .inl rfl
  · rw [mid2 h, putG_same]; exact scan_log _ _ _ _
  · rw [mid3 h, putG_same]; exact leave_log _ _ _
theorem mid_last : (s.mid key e).last = s.last := by
  rcases kind4 e with h | h | h | h
  · by_cases h0 : s.gone.getD (e.title % 5) 0 = 0
    · rw [mid0 h h0]
    · rw [mid0' h h0]
  · rw [mid1 h]; rfl
  · rw [mid2 h]; rfl
  · rw [mid3 h]; rfl
theorem mid_want : (s.mid key e).want = s.want := by
  rcases kind4 e with h | h | h | h
  · by_cases h0 : s.gone.getD (e.title % 5) 0 = 0
    · rw [mid0 h h0]
    · rw [mid0' h h0]
  · rw [mid1 h]; rfl
  · rw [mid2 h]; rfl
  · rw [mid3 h]; rfl
theorem mid_now : (s.mid key e).now = s.now + (1 + (e.after : Int)) := by
  rcases kind4 e with h | h | h | h
  · by_cases h0 : s.gone.getD (e.title % 5) 0 = 0
    · rw [mid0 h h0]
    · rw [mid0' h h0]
  · rw [mid1 h]; rfl
  · rw [mid2 h]; rfl
  · rw [mid3 h]; rfl
theorem fin_yes {j k n : Nat} {x : SV} (h : n < (s.gs j).log.length) (hn : (s.gs j).log.length ≠ n) (hx : (s.gs j).log[n] = x) : s.fin n j k = { s with want := s.want ++ newW x (s.last.getD k SV.z), last := if x.kind = 1 ∨ x.kind = 2 then s.last.set k x else s.last } := by
  unfold Ply.fin
  rw [if_neg hn]
  have : (s.gs j).log.getD n SV.z = x := by rw [List.getD_eq_getElem?_getD, List.getElem?_eq_getElem h, Option.getD_some, hx]
  rw [this]
theorem fin_now {j k n : Nat} : (s.fin n j k).now = s.now := by unfold Ply.fin; split <;> rfl
theorem fin_rev {j k n : Nat} : (s.fin n j k).revoked = s.revoked := by unfold Ply.fin; split <;> rfl
theorem fin_want {j k n : Nat} : (s.fin n j k).want.length ≤ s.want.length + 1 := by
  unfold Ply.fin; split
  · omega
  · simp only [List.length_append, newW]; split <;> simp
theorem mid_rev : (s.mid key e).revoked.length ≤ s.revoked.length + 1 := by
  rcases kind4 e with h | h | h | h
  · by_cases h0 : s.gone.getD (e.title % 5) 0 = 0
    · rw [mid0 h h0]; simp
    · rw [mid0' h h0]; simp
  · rw [mid1 h]; exact Nat.le_succ _
  · rw [mid2 h]; exact Nat.le_succ _
  · rw [mid3 h]; exact Nat.le_succ _
end
theorem play_take (key : Nat → ByteArray) (es : List Ev) {i : Nat} (h : i < es.length) : play key (es.take (i + 1)) = (play key (es.take i)).step key es[i] := by
  rw [List.take_succ_eq_append_getElem h, play_snoc]
theorem play_small (key : Nat → ByteArray) (es : List Ev) : ∀ i, i ≤ es.length → (play key (es.take i)).revoked.length ≤ i ∧ (play key (es.take i)).want.length ≤ i
  | 0, _ => by simp [play, Ply.zero]
  | i + 1, h => by
    have ih := play_small key es i (by omega)
    rw [play_take key es (by omega)]
    unfold Ply.step
    rw [fin_rev]
    have h1 := mid_rev (key := key) (s := play key (es.take i)) (e := es[i])
    have h2 := fin_want (s := (play key (es.take i)).mid key es[i]) (n := ((play key (es.take i)).gs (es[i].gate % 3)).log.length) (j := es[i].gate % 3) (k := es[i].title % 5)
    rw [mid_want] at h2
    omega
end Go.Proofs.YtienaifmlhcijaaGreatDoor
end
section
namespace Go.Proofs.YtienaifmlhcijaaGreatDoor
open Go Go.Gw
set_option linter.unusedSimpArgs false
set_option linter.unusedVariables false
def exE : List Ev := [⟨1, 0, 0, 0⟩, ⟨1, 1, 0, 0⟩, ⟨2, 0, 0, 0⟩, ⟨2, 1, 0, 0⟩, ⟨0, 0, 0, 0⟩, ⟨1, 0, 0, 0⟩, ⟨3, 0, 0, 0⟩, ⟨2, 0, 0, 0⟩, ⟨3, 1, 0, 100⟩, ⟨2, 1, 0, 0⟩]
noncomputable def x1 : SV := ⟨1, 1, 4, 10001, 1, keyF 0⟩
noncomputable def x2 : SV := ⟨2, 1, 5, 10001, 1, keyF 0⟩
noncomputable def x3 : SV := ⟨1, 2, 8, 10001, 2, keyF 0⟩
noncomputable def x4 : SV := ⟨1, 3, 9, 10001, 3, keyF 0⟩
noncomputable def x5 : SV := ⟨2, 2, 110, 10001, 2, keyF 0⟩
def exB : BV := ⟨1, 10001, 2, 1, 1, 1⟩
noncomputable def ex1 : Ply := Ply.putG { Ply.zero with now := 2 } 0 ⟨1, 2, true, 2, 1024, 3, makeW [], fun _ => none, []⟩
noncomputable def ex2 : Ply := Ply.putG { ex1 with now := 3 } 1 ⟨2, 3, true, 3, 1024, 3, makeW [], fun _ => none, []⟩
noncomputable def ex3 : Ply := Ply.putG { ex2 with now := 4, last := [x1, SV.z, SV.z, SV.z, SV.z] } 0 ⟨1, 4, true, 2, 1024, 3, makeW [], upd (fun _ => none) 10001 (keyF 0), [x1]⟩
noncomputable def ex4 : Ply := Ply.putG { ex3 with now := 5, last := [x2, SV.z, SV.z, SV.z, SV.z], want := [exB] } 1 ⟨2, 5, true, 3, 1024, 3, makeW [], upd (fun _ => none) 10001 (keyF 0), [x2]⟩
noncomputable def ex5 : Ply := { ex4 with now := 6, gone := [6, 0, 0, 0, 0], revoked := [10001] }
noncomputable def ex6 : Ply := Ply.putG { ex5 with now := 7 } 0 ⟨1, 7, true, 7, 1024, 3, makeW [10001], upd (fun _ => none) 10001 (keyF 0), [x1]⟩
noncomputable def ex7 : Ply := Ply.putG { ex6 with now := 8, last := [x3, SV.z, SV.z, SV.z, SV.z] } 0 ⟨1, 8, true, 7, 1024, 3, makeW [10001], delK (upd (fun _ => none) 10001 (keyF 0)) 10001, [x1, x3]⟩
noncomputable def ex8 : Ply := Ply.putG { ex7 with now := 9 } 0 ⟨1, 9, true, 7, 1024, 3, makeW [10001], delK (upd (fun _ => none) 10001 (keyF 0)) 10001, [x1, x3, x4]⟩
noncomputable def ex9 : Ply := Ply.putG { ex8 with now := 110, last := [x5, SV.z, SV.z, SV.z, SV.z] } 1 ⟨2, 110, true, 3, 1024, 3, makeW [], delK (upd (fun _ => none) 10001 (keyF 0)) 10001, [x2, x5]⟩
theorem st1 : Ply.step keyF Ply.zero ⟨1, 0, 0, 0⟩ = ex1 := by unfold Ply.step; rw [mid1 rfl]; rfl
theorem st2 : Ply.step keyF ex1 ⟨1, 1, 0, 0⟩ = ex2 := by unfold Ply.step; rw [mid1 rfl]; rfl
theorem no_has : ¬ hasF (makeW []) 10001 = true := by rw [has_nil]; decide
theorem step2 {key : Nat → ByteArray} {s : Ply} {e : Ev} {g : GSt} (h : e.kind % 4 = 2) (hg : (s.gs (e.gate % 3)).scan (serK (e.title % 5)) (key (e.title % 5)) (s.now + (1 + (e.after : Int))) = g) : s.step key e = (Ply.putG { s with now := s.now + (1 + (e.after : Int)) } (e.gate % 3) g).fin (s.gs (e.gate % 3)).log.length (e.gate % 3) (e.title % 5) := by unfold Ply.step; rw [mid2 h, hg]
theorem st3 : Ply.step keyF ex2 ⟨2, 0, 0, 0⟩ = ex3 := (step2 rfl (scan_in (g := ex2.gs 0) (serial := serK 0) (t := 4) (first := keyF 0) (by show ¬ (true = false ∨ (4 : Int) - 2 > 50); decide) (by rintro (h | h); cases h; exact no_has h)).2.2).trans rfl
theorem st4 : Ply.step keyF ex3 ⟨2, 1, 0, 0⟩ = ex4 := (step2 rfl (scan_in (g := ex3.gs 1) (serial := serK 0) (t := 5) (first := keyF 0) (by show ¬ (true = false ∨ (5 : Int) - 3 > 50); decide) (by rintro (h | h); cases h; exact no_has h)).2.2).trans rfl
theorem st5 : Ply.step keyF ex4 ⟨0, 0, 0, 0⟩ = ex5 := by unfold Ply.step; rw [mid0 rfl rfl]; rfl
theorem st6 : Ply.step keyF ex5 ⟨1, 0, 0, 0⟩ = ex6 := by unfold Ply.step; rw [mid1 rfl]; rfl
theorem st7 : Ply.step keyF ex6 ⟨3, 0, 0, 0⟩ = ex7 := by unfold Ply.step; rw [mid3 rfl]; rfl
theorem st8 : Ply.step keyF ex7 ⟨2, 0, 0, 0⟩ = ex8 := (step2 rfl (scan_ref (g := ex7.gs 0) (serial := serK 0) (t := 9) (first := keyF 0) (by show ¬ (true = false ∨ (9 : Int) - 7 > 50); decide) (.inr (has_make (by show (10001 : Int) ∈ [10001]; simp)))).2.2).trans rfl
theorem st9 : Ply.step keyF ex8 ⟨3, 1, 0, 100⟩ = ex9 := by unfold Ply.step; rw [mid3 rfl]; rfl
theorem st10 : Ply.step keyF ex9 ⟨2, 1, 0, 0⟩ = Ply.putG { ex9 with now := 111 } 1 (ex9.gs 1) := (step2 rfl (scan_stale (g := ex9.gs 1) (serial := serK 0) (t := 111) (first := keyF 0) (.inr (by show (111 : Int) - 3 > 50; decide))).2).trans rfl
theorem ex_play : play keyF exE = Ply.putG { ex9 with now := 111 } 1 (ex9.gs 1) := by
  unfold play exE
  simp only [List.foldl_cons, List.foldl_nil]
  rw [st1, st2, st3, st4, st5, st6, st7, st8, st9, st10]
theorem ex_logs : (play keyF exE).logs = [[x1, x3, x4], [x2, x5], []] := by rw [ex_play]; rfl
theorem ex_want : (play keyF exE).want = [exB] := by rw [ex_play]; rfl
theorem ex_gone : (play keyF exE).gone = [6, 0, 0, 0, 0] := by rw [ex_play]; rfl
end Go.Proofs.YtienaifmlhcijaaGreatDoor
end
section
namespace Go.Proofs.YtienaifmlhcijaaGreatDoor
open Go Go.Gw
set_option linter.unusedVariables false
set_option linter.unusedSimpArgs false
abbrev GZ := Nat × Value × Value × Nat
/-- a gate in memory, as one -/
def GateA (b : Nat) (g : GSt) (z : GZ) : Atom := Bun (GateL b z.1 z.2.1 z.2.2.1 z.2.2.2 g)
section
variable {M : Nat → Prop} {u0 w0 : World} {l : List Atom} {b : Nat} {g : GSt} {z : GZ}
theorem log_at (h0 : HSat M u0 (GateA b g z :: l) w0) (hl : g.log.length ≤ 4000) : Ret Tryz.prog 13 #[.pointer (some ⟨b, 0, none⟩)] w0 (fun u w => HSat No w0 [OSl 32 u 6 encSV g.log] w) := log_spec b z.1 z.2.1 z.2.2.1 z.2.2.2 g w0 h0.unfold hl
theorem sync_at (nv : Value) (ws : List Nat) (t : Int) (h0 : HSat M u0 (GateA b g z :: l) w0) [hS : HasSl l nv 1 Nat encU ws] [hTA : HasAt l TabsA] [hTB : HasAt l TabB] (hok : WOk ws) (hn : 0 ≤ t ∧ t ≤ 1000000000) (hle : g.now ≤ t) :
    Ret Tryz.prog 15 #[.pointer (some ⟨b, 0, none⟩), .agg (encF nv).toArray, .int .i64 t] w0 (fun u w => u = .int .i64 0 ∧ ∃ z2, HSat M u0 (GateA b (g.sync ws t) z2 :: l) w) :=
  Ret.mono (sync_spec b z.1 z.2.1 z.2.2.1 z.2.2.2 g nv ws t w0 h0.unfold hok hn hle) fun u w ⟨e, wv2, H⟩ => ⟨e, (z.1, wv2, z.2.2.1, z.2.2.2), HSat.fold (ls := GateL b z.1 wv2 z.2.2.1 z.2.2.2 (g.sync ws t)) H (GateL_own _ _ _ _ _ _)⟩
theorem scan_at (serial place t : Int) (first : ByteArray) (h0 : HSat M u0 (GateA b g z :: l) w0) [hTA : HasAt l TabsA] (hv : TitOK serial place first) (hok : g.synced = true → g.bits = 1024 ∧ g.hs = 3 ∧ WOk g.ws) (hn : 0 ≤ t ∧ t ≤ 1000000000) (hle : g.now ≤ t) (hsi : 0 ≤ g.since ∧ g.since ≤ 1000000000) (hl : g.log.length < 4000) :
    Ret Tryz.prog 16 #[.pointer (some ⟨b, 0, none⟩), .agg ([.int .i64 serial, .int .i64 0, .int .i64 place, .string first, .slice none 0 0] : List Value).toArray, .int .i64 t] w0 (fun u w => u = .tuple #[.int .i64 (g.scanR serial t).1, .int .i64 (g.scanR serial t).2] ∧ ∃ z2, HSat M u0 (GateA b (g.scan serial first t) z2 :: l) w) :=
  Ret.mono (scan_spec b z.1 z.2.1 z.2.2.1 z.2.2.2 g serial place t first w0 h0.unfold hv hok hn hle hsi hl) fun u w ⟨e, lv2, c2, H⟩ => ⟨e, (z.1, z.2.1, lv2, c2), HSat.fold (ls := GateL b z.1 z.2.1 lv2 c2 (g.scan serial first t)) H (GateL_own _ _ _ _ _ _)⟩
theorem leave_at (serial t : Int) (h0 : HSat M u0 (GateA b g z :: l) w0) (hn : 0 ≤ t ∧ t ≤ 1000000000) (hle : g.now ≤ t) (hl : g.log.length < 4000) :
    Ret Tryz.prog 17 #[.pointer (some ⟨b, 0, none⟩), .int .i64 serial, .int .i64 t] w0 (fun u w => u = .int .i64 (g.leaveR serial) ∧ ∃ z2, HSat M u0 (GateA b (g.leave serial t) z2 :: l) w) :=
  Ret.mono (leave_spec b z.1 z.2.1 z.2.2.1 z.2.2.2 g serial t w0 h0.unfold hn hle hl) fun u w ⟨e, lv2, c2, H⟩ => ⟨e, (z.1, z.2.1, lv2, c2), HSat.fold (ls := GateL b z.1 z.2.1 lv2 c2 (g.leave serial t)) H (GateL_own _ _ _ _ _ _)⟩
theorem gnew_at (id : Int) (w0 : World) (hid : 0 ≤ id ∧ id ≤ 999) : Ret Tryz.prog 11 #[.int .i64 id, .int .i64 0, .int .i64 50] w0 (fun u w => ∃ b z, u = .tuple #[.pointer (some ⟨b, 0, none⟩), .int .i64 0] ∧ HSat No w0 [GateA b (GSt.new id) z] w) :=
  Ret.mono (gnew_spec id w0 hid) fun u w ⟨b, mb, e, H⟩ => ⟨b, (mb, .slice none 0 0, .slice none 0 0, 0), e, HSat.fold (ls := GateL b mb _ _ 0 (GSt.new id)) (by rw [List.append_nil]; exact H) (GateL_own _ _ _ _ _ _)⟩
variable {bs : Nat → Nat} {gs : Nat → GSt} {zs : Nat → GZ} {j : Nat}
/-- a call at one of three gates -/
theorem gate_at {f : FuncId} {args : Array Value} {R : Value → Prop} {g2 : GSt} (H : HSat M u0 (FamA [0, 1, 2] (fun i => GateA (bs i) (gs i) (zs i)) :: l) w0) (hj : j ∈ [0, 1, 2])
    (h : HSat M u0 (GateA (bs j) (gs j) (zs j) :: FamA ([0, 1, 2].erase j) (fun i => GateA (bs i) (gs i) (zs i)) :: l) w0 → Ret Tryz.prog f args w0 (fun u w => R u ∧ ∃ z2, HSat M u0 (GateA (bs j) g2 z2 :: FamA ([0, 1, 2].erase j) (fun i => GateA (bs i) (gs i) (zs i)) :: l) w)) :
    Ret Tryz.prog f args w0 (fun u w => R u ∧ ∃ zs2 : Nat → GZ, HSat M u0 (FamA [0, 1, 2] (fun i => GateA (bs i) (if i = j then g2 else gs i) (zs2 i)) :: l) w) :=
  Ret.mono (h (H.famOut hj)) fun u w ⟨e, z2, H⟩ => ⟨e, fun i => if i = j then z2 else zs i, H.famIn _ hj (by decide) rfl (by simp) (fun i _ hi => by simp [hi])⟩
end
theorem titZ5 : ((List.range 5).map fun i => (⟨titF (serK i) (i : Int) (keyF i), 0⟩ : OV)) = titL (List.replicate 5 0) := rfl
theorem rangeMap {α : Type} (f : Nat → α) (k : Nat) (b : α) : (List.range (k + 1)).map (fun i => if i = k then b else f i) = (List.range k).map f ++ [b] := by
  rw [List.range_succ, List.map_append]
  congr 1
  · exact List.map_congr_left fun i hi => by have := List.mem_range.1 hi; rw [if_neg (by omega)]
  · simp
theorem gat {bs : Nat → Nat} {j : Nat} (h : j < 3) (h2 : j < [bs 0, bs 1, bs 2].length) : (encP ([bs 0, bs 1, bs 2][j]'h2))[0]? = some (.pointer (some ⟨bs j, 0, none⟩)) := by
  match j, h with
  | 0, _ => rfl
  | 1, _ => rfl
  | 2, _ => rfl
theorem rune_str (k : Nat) (hk : k < 5) (w : World) : (convert 21 9 (.int .i32 ((97 + k : Nat) : Int))).run Tryz.prog w = .ok (.string ⟨#[UInt8.ofNat (97 + k)]⟩) w := by
  obtain rfl | rfl | rfl | rfl | rfl : k = 0 ∨ k = 1 ∨ k = 2 ∨ k = 3 ∨ k = 4 := by omega
  · kernel_rfl
  · kernel_rfl
  · kernel_rfl
  · kernel_rfl
  · kernel_rfl
theorem conv_rune (k : Nat) (hk : k < 5) (w : World) : (convert 3 21 (.int .i64 ((97 + k : Nat) : Int))).run Tryz.prog w = .ok (.int .i32 ((97 + k : Nat) : Int)) w := by
  obtain rfl | rfl | rfl | rfl | rfl : k = 0 ∨ k = 1 ∨ k = 2 ∨ k = 3 ∨ k = 4 := by omega
  · kernel_rfl
  · kernel_rfl
  · kernel_rfl
  · kernel_rfl
  · kernel_rfl
theorem y_addn {P : Program} {o : Oper} {n : Sz} {fl : Slots} {a : Act} {w : World} {T U : TypeId} {x y : Operand} {m q : Nat} (ho : o.op = .binOp .add T x y U) (S : St n fl a) (hx : ev fl x = some (.int .i64 (m : Int))) (hy : ev fl y = some (.int .i64 (q : Int))) (hb : m + q ≤ 9223372036854775807) : Yld P o a w (.int .i64 ((m + q : Nat) : Int)) := by
  have := y_add (P := P) (w := w) ho S hx hy (by omega)
  rwa [← Int.natCast_add] at this
theorem famStep {M : Nat → Prop} {w0 w : World} {l : List Atom} {k b : Nat} {z : GZ} {u : Value} {bs : Nat → Nat} {zs : Nat → GZ} (H : HSat M w0 (GateA b (GSt.new ((k : Int) + 1)) z :: OSl 53 u 1 encP ((List.range k).map bs ++ [b]) :: FamA (List.range k) (fun i => GateA (bs i) (GSt.new ((i : Int) + 1)) (zs i)) :: l) w) :
    HSat M w0 (OSl 53 u 1 encP ((List.range (k + 1)).map fun i => if i = k then b else bs i) :: FamA (List.range (k + 1)) (fun i => GateA (if i = k then b else bs i) (GSt.new ((i : Int) + 1)) (if i = k then z else zs i)) :: l) w := by
  rw [rangeMap, List.range_succ]
  have H2 := (H.perm p3c).famSnoc (fun i => GateA (if i = k then b else bs i) (GSt.new ((i : Int) + 1)) (if i = k then z else zs i)) rfl (by rw [if_pos rfl, if_pos rfl]) (fun j hj => by have := List.mem_range.1 hj; rw [if_neg (by omega), if_neg (by omega)])
  exact H2.swap2
theorem logs_step {s : Ply} {k : Nat} {ps : List (Value × List SV)} {u : Value} (h : ps.map (·.2) = s.logs.take k) (hk : k < 3) : (ps ++ [(u, (s.gs k).log)]).map (·.2) = s.logs.take (k + 1) := by
  rw [List.map_append, h]
  match k, hk with
  | 0, _ => rfl
  | 1, _ => rfl
  | 2, _ => rfl
theorem addr0 {v : Value} {i sz : Nat} : elemAddr v i sz = (elemAddr v i sz).add 0 := by unfold elemAddr; split <;> simp [Addr.add]
end Go.Proofs.YtienaifmlhcijaaGreatDoor
end
