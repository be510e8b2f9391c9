/- Layer 30: titles that are handed on, forks. No program in sight. No condition. -/
import Derived.Test.YtngocpdmlijnfaaDoorPlainC
namespace Go.Proofs.YtngocpdmlijnfaaDoor
open Go Go.Gw
set_option linter.unusedSimpArgs false
set_option linter.unusedVariables false
theorem hexD_in : ∀ d, d < 16 → hexCut.contains (hexD d) = true
  | 0, _ => by decide | 1, _ => by decide | 2, _ => by decide | 3, _ => by decide | 4, _ => by decide | 5, _ => by decide | 6, _ => by decide | 7, _ => by decide
  | 8, _ => by decide | 9, _ => by decide | 10, _ => by decide | 11, _ => by decide | 12, _ => by decide | 13, _ => by decide | 14, _ => by decide | 15, _ => by decide
  | n + 16, h => by omega
theorem isD_sumS (t : ByteArray) : isD (sumS t) = true := by
  unfold isD
  rw [decide_eq_true (sumS_size t), Bool.true_and, sumS_list, List.all_map]
  refine List.all_eq_true.2 fun x hx => ?_
  unfold digL at hx
  obtain ⟨i, _, rfl⟩ := List.mem_map.1 hx
  exact hexD_in _ (Nat.mod_lt _ (by decide))
theorem isD_chainS {t : ByteArray} (h : isD t = true) : ∀ n, isD (chainS t n) = true
  | 0 => h
  | n + 1 => isD_sumS _
theorem isD_listS (xs : List ByteArray) : isD (listS xs) = true := isD_sumS _
theorem isD_walkK (s : ByteArray) (d : Nat → Nat) (k : Nat) : (walkK s d k).all isD = true := by
  refine List.all_eq_true.2 fun x hx => ?_
  unfold walkK at hx
  obtain ⟨i, _, rfl⟩ := List.mem_map.1 hx
  exact isD_chainS (isD_listS _) _
theorem walkK_get (s : ByteArray) (d : Nat → Nat) (k i : Nat) (h : i < k) (z : ByteArray) : (walkK s d k).getD i z = chainS (startS s i) (d i) := by
  unfold walkK
  rw [List.getD_eq_getElem?_getD, List.getElem?_map, List.getElem?_range h]; rfl
/-- what Sign makes, Verify accepts -/
theorem ver_sign (s m : ByteArray) : verB (pubS s) m (signL s m) = true := by
  unfold verB
  have h1 : (signL s m).length = 18 := walkK_len _ _ _
  rw [decide_eq_true h1, show (signL s m).all isD = true from isD_walkK _ _ _, Bool.true_and, Bool.true_and, decide_eq_true_eq]
  have h2 : endsK m (signL s m) 18 = walkK s (fun _ => 15) 18 := by
    unfold endsK walkK
    refine List.map_congr_left fun i hi => ?_
    have hi := List.mem_range.1 hi
    unfold signL
    rw [walkK_get _ _ _ _ hi, chainS_add]
    have := digs_le m i
    congr 1
    dsimp only
    omega
  rw [h2]; rfl
def encI (n : Int) : List Value := [.int .i64 n]
noncomputable def digsI (m : ByteArray) : List Int := (digs m).map fun n : Nat => (n : Int)
noncomputable def passT (t : TV) (to : ByteArray) (v sv : Value) (s : ByteArray) : TV := { t with cv := v, chain := t.chain ++ [⟨to, sv, signL s (msgS t to)⟩] }
theorem msgS_congr {t t' : TV} (h1 : t.serial = t'.serial) (h2 : t.show_ = t'.show_) (h3 : t.first = t'.first) (h4 : t.chain.map (·.to) = t'.chain.map (·.to)) (to : ByteArray) : msgS t to = msgS t' to := by
  unfold msgS msgL; rw [h1, h2, h3, h4]
theorem ownerS_congr {t t' : TV} (h3 : t.first = t'.first) (h4 : t.chain.map (·.to) = t'.chain.map (·.to)) : ownerS t = ownerS t' := by
  have e : ∀ t : TV, ownerS t = (t.chain.map (·.to)).getLast?.getD t.first := fun t => by
    unfold ownerS; rw [List.getLast?_map]; cases t.chain.getLast? <;> rfl
  rw [e, e, h3, h4]
theorem usedB_congr {t t' : TV} (h3 : t.first = t'.first) (h4 : t.chain.map (·.to) = t'.chain.map (·.to)) (key : ByteArray) : usedB t key = usedB t' key := by
  have e : ∀ t : TV, usedB t key = (decide (t.first = key) || (t.chain.map (·.to)).any (fun x => decide (x = key))) := fun t => by
    unfold usedB; rw [List.any_map]; rfl
  rw [e, e, h3, h4]
theorem stepB_pass {t : TV} {to : ByteArray} {v sv : Value} {s : ByteArray} {i : Nat} (h : i < t.chain.length) : stepB (passT t to v sv s) i = stepB t i := by
  have hl : i < (passT t to v sv s).chain.length := by simp only [passT, List.length_append, List.length_cons, List.length_nil]; omega
  have e1 : (passT t to v sv s).chain[i] = t.chain[i] := by simp only [passT]; exact List.getElem_append_left h
  have e2 : (cutT (passT t to v sv s) i).chain = (cutT t i).chain := by simp only [cutT, passT]; rw [List.take_append_of_le_length (by omega)]
  rw [stepB_at hl, stepB_at h, e1, usedB_congr (t := cutT (passT t to v sv s) i) (t' := cutT t i) rfl (by rw [e2]), ownerS_congr (t := cutT (passT t to v sv s) i) (t' := cutT t i) rfl (by rw [e2]), msgS_congr (t := cutT (passT t to v sv s) i) (t' := cutT t i) rfl rfl rfl (by rw [e2])]
theorem valid_pass {t : TV} {to : ByteArray} {v sv : Value} {s : ByteArray} (hv : validB t = true) (hto : isD to = true) (hl : t.chain.length < 50) (hu : usedB t to = false) (hk : pubS s = ownerS t) : validB (passT t to v sv s) = true := by
  unfold validB at hv ⊢
  rw [Bool.and_eq_true] at hv ⊢
  obtain ⟨hf, hs⟩ := hv
  constructor
  · unfold formedB at hf ⊢
    rw [Bool.and_eq_true] at hf ⊢
    constructor
    · have h1 := hf.1
      unfold headB at h1 ⊢
      simp only [Bool.not_eq_true', Bool.or_eq_false_iff] at h1 ⊢
      obtain ⟨h2, h3⟩ := h1
      refine ⟨h2, ?_⟩
      rw [decide_eq_false_iff_not]
      simp only [passT, List.length_append, List.length_cons, List.length_nil]; omega
    · simp only [passT, List.all_append, hf.2, Bool.true_and, List.all_cons, List.all_nil, Bool.and_true]
      unfold formX
      have h1 : (signL s (msgS t to)).length = 18 := walkK_len _ _ _
      simp only [h1, hto, decide_true, Bool.true_and]
      exact isD_walkK _ _ _
  · refine List.all_eq_true.2 fun i hi => ?_
    have hi : i < (passT t to v sv s).chain.length := List.mem_range.1 hi
    by_cases h : i < t.chain.length
    · rw [stepB_pass h]; exact List.all_eq_true.1 hs i (List.mem_range.2 h)
    · have hi2 : i = t.chain.length := by simp only [passT, List.length_append, List.length_cons, List.length_nil] at hi; omega
      subst hi2
      have e1 : (passT t to v sv s).chain[t.chain.length] = ⟨to, sv, signL s (msgS t to)⟩ := by simp only [passT]; exact List.getElem_concat_length rfl _
      have e2 : (cutT (passT t to v sv s) t.chain.length).chain = t.chain := by simp only [cutT, passT]; rw [List.take_append_of_le_length (Nat.le_refl _), List.take_length]
      rw [stepB_at hi, e1, usedB_congr (t := cutT (passT t to v sv s) t.chain.length) (t' := t) rfl (by rw [e2]), ownerS_congr (t := cutT (passT t to v sv s) t.chain.length) (t' := t) rfl (by rw [e2]), msgS_congr (t := cutT (passT t to v sv s) t.chain.length) (t' := t) rfl rfl rfl (by rw [e2])]
      dsimp only
      rw [hu, ← hk, ver_sign]; rfl
/-- two different texts lead to one digest within n steps -/
noncomputable def stepC (a b : ByteArray) : Nat → Bool
  | 0 => false
  | n + 1 => (decide (a ≠ b) && decide (sumS a = sumS b)) || stepC (sumS a) (sumS b) n
theorem stepC_s (a b : ByteArray) (n : Nat) : stepC a b (n + 1) = ((decide (a ≠ b) && decide (sumS a = sumS b)) || stepC (sumS a) (sumS b) n) := rfl
theorem stepC_no {a b : ByteArray} : ∀ {n : Nat}, stepC a b n = false → chainS a n = chainS b n → a = b := by
  intro n
  induction n generalizing a b with
  | zero => intro _ h; exact h
  | succ n ih =>
    intro h hc
    have hs : ∀ (x : ByteArray) k, chainS (sumS x) k = chainS x (k + 1) := fun x k => by
      have := chainS_add x 1 k
      rw [Nat.add_comm] at this; exact this
    unfold stepC at h
    rw [Bool.or_eq_false_iff] at h
    have h2 := ih h.2 (by rw [hs, hs]; exact hc)
    rcases Decidable.em (a = b) with e | e
    · exact e
    · simp [e, h2] at h
/-- a title's memory, of the call's own, that nobody writes any more -/
def TitO (t : TV) : Atom where
  own := true
  fp := fun b => (t.cv.ownBlock = some b ∧ t.chain ≠ []) ∨ ∃ x ∈ t.chain, x.sv.ownBlock = some b ∧ 0 < 1 ∧ x.sig ≠ []
  ok := fun w => TOk w t
  loc := fun w w' h hok => ⟨(Sl t.cv 2 encX t.chain).loc w w' (fun b hb => h b (.inl ⟨hb.1, hb.2.2⟩)) hok.sl, hok.cap, (XRows t.chain).loc w w' (fun b hb => h b (.inr hb)) hok.rows⟩
  lt := fun w b hok hb => by
    rcases hb with hb | hb
    · exact (Sl t.cv 2 encX t.chain).lt w b hok.sl ⟨hb.1, by decide, hb.2⟩
    · exact (XRows t.chain).lt w b hok.rows hb
class HasTit (l : List Atom) (t : TV) : Prop where
  at_ : ∀ w, (∀ x ∈ l, x.ok w) → TOk w t
instance (priority := 2000) HasTit.here (l : List Atom) (t : TV) : HasTit (TitO t :: l) t := ⟨fun w h => h (TitO t) (List.mem_cons_self ..)⟩
instance (priority := 2000) HasTit.hereRo (l : List Atom) (t : TV) : HasTit (Atom.ro (TitO t) :: l) t := ⟨fun w h => h (Atom.ro (TitO t)) (List.mem_cons_self ..)⟩
instance HasTit.there (l : List Atom) (x : Atom) (t : TV) [h : HasTit l t] : HasTit (x :: l) t := ⟨fun w hw => h.at_ w (fun y hy => hw y (List.mem_cons_of_mem _ hy))⟩
theorem _root_.Go.Gw.HSat.tit {M : Nat → Prop} {w0 w : World} {l : List Atom} (H : HSat M w0 l w) (t : TV) [h : HasTit l t] : TOk w t := h.at_ w H.ok
instance HasTit.sl (l : List Atom) (t : TV) [h : HasTit l t] : HasSl l t.cv 2 XV encX t.chain := ⟨fun w hw => (h.at_ w hw).sl⟩
/-- the parts of a title that has been handed on become one atom -/
theorem titPass {M : Nat → Prop} {w0 w : World} {l : List Atom} {t : TV} {to : ByteArray} {v sv : Value} {s : ByteArray} (H : HSat M w0 (OSl 32 v 2 encX (t.chain ++ [⟨to, sv, signL s (msgS t to)⟩]) :: OSl 9 sv 1 encS (signL s (msgS t to)) :: TitO t :: l) w) : HSat M w0 (TitO (passT t to v sv s) :: l) w := by
  have H1 := HSat.fold (ls := [OSl 32 v 2 encX (t.chain ++ [⟨to, sv, signL s (msgS t to)⟩]), OSl 9 sv 1 encS (signL s (msgS t to)), TitO t]) H (by intro x hx; simp only [List.mem_cons, List.not_mem_nil, or_false] at hx; rcases hx with rfl | rfl | rfl <;> rfl)
  refine H1.conv (fun _ => rfl) (fun b hb => ?_) (fun hok => ?_)
  · rcases hb with ⟨hb, _⟩ | ⟨x, hx, hb⟩
    · exact ⟨_, List.mem_cons_self .., rfl, hb⟩
    · rcases List.mem_append.1 hx with hx | hx
      · exact ⟨TitO t, by simp, rfl, .inr ⟨x, hx, hb⟩⟩
      · obtain rfl := List.mem_singleton.1 hx
        exact ⟨OSl 9 sv 1 encS (signL s (msgS t to)), by simp, rfl, hb.1⟩
  · have h1 := (hok.1 (OSl 32 v 2 encX (t.chain ++ [⟨to, sv, signL s (msgS t to)⟩])) (by simp)).2
    have h2 := (hok.1 (OSl 9 sv 1 encS (signL s (msgS t to))) (by simp)).2
    have h3 := (hok.1 (TitO t) (by simp)).2
    refine ⟨IsOSl.sl h1, IsOSl.cap h1, fun x hx => ?_⟩
    rcases List.mem_append.1 hx with hx | hx
    · exact TOk.rows h3 x hx
    · obtain rfl := List.mem_singleton.1 hx
      exact IsOSl.sl h2
/-- the transfers of a title that was handed on to the owners of some secrets -/
noncomputable def passedP (xs : List ByteArray) : Nat → List (ByteArray × List ByteArray)
  | 0 => []
  | k + 1 => passedP xs k ++ [(pubS (xs.getD (k + 1) ⟨#[]⟩), signL (xs.getD k ⟨#[]⟩) (listS ([itoaS 10001, itoaS 0, pubS (xs.getD 0 ⟨#[]⟩)] ++ (passedP xs k).map (fun p : ByteArray × List ByteArray => p.1) ++ [pubS (xs.getD (k + 1) ⟨#[]⟩)])))]
theorem passedP_s (xs : List ByteArray) (k : Nat) : passedP xs (k + 1) = passedP xs k ++ [(pubS (xs.getD (k + 1) ⟨#[]⟩), signL (xs.getD k ⟨#[]⟩) (listS ([itoaS 10001, itoaS 0, pubS (xs.getD 0 ⟨#[]⟩)] ++ (passedP xs k).map (fun p : ByteArray × List ByteArray => p.1) ++ [pubS (xs.getD (k + 1) ⟨#[]⟩)])))] := rfl
theorem passedP_len (xs : List ByteArray) : ∀ k, (passedP xs k).length = k
  | 0 => rfl
  | k + 1 => by rw [passedP_s, List.length_append, passedP_len xs k]; rfl
theorem passedP_to (xs : List ByteArray) : ∀ k, (passedP xs k).map (fun p => p.1) = (List.range k).map fun i => pubS (xs.getD (i + 1) ⟨#[]⟩)
  | 0 => rfl
  | k + 1 => by rw [passedP_s, List.map_append, passedP_to xs k, List.range_succ, List.map_append]; simp only [List.map_cons, List.map_nil]
structure PS (xs : List ByteArray) (k : Nat) (t : TV) : Prop where
  serial : t.serial = 10001
  show_ : t.show_ = 0
  place : t.place = 3
  first : t.first = pubS (xs.getD 0 ⟨#[]⟩)
  xfs : t.chain.map xf = passedP xs k
  valid : validB t = true
  sz : TSz t
theorem xf_to (xs : List XV) : (xs.map xf).map (fun p => p.1) = xs.map (·.to) := by rw [List.map_map]; rfl
theorem PS.to {xs : List ByteArray} {k : Nat} {t : TV} (h : PS xs k t) : t.chain.map (·.to) = (List.range k).map fun i => pubS (xs.getD (i + 1) ⟨#[]⟩) := by rw [← xf_to, h.xfs, passedP_to]
theorem PS.len {xs : List ByteArray} {k : Nat} {t : TV} (h : PS xs k t) : t.chain.length = k := by
  have := congrArg List.length h.xfs
  rwa [List.length_map, passedP_len] at this
theorem pubS_size (s : ByteArray) : (pubS s).size = 16 := sumS_size _
theorem isD_pubS (s : ByteArray) : isD (pubS s) = true := isD_listS _
theorem PS.zero (xs : List ByteArray) : PS xs 0 ⟨10001, 0, 3, pubS (xs.getD 0 ⟨#[]⟩), .slice none 0 0, []⟩ := by
  refine ⟨rfl, rfl, rfl, rfl, rfl, ?_, ⟨by dsimp only; decide, by dsimp only; decide, by dsimp only; decide, by dsimp only; rw [pubS_size]; decide, by simp, by simp⟩⟩
  unfold validB formedB headB numT
  dsimp only
  rw [isD_pubS]
  rfl
theorem PS.owner {xs : List ByteArray} {k : Nat} {t : TV} (h : PS xs k t) : ownerS t = pubS (xs.getD k ⟨#[]⟩) := by
  have hl := h.len
  have e : ownerS t = (t.chain.map (·.to)).getLast?.getD t.first := by unfold ownerS; rw [List.getLast?_map]; cases t.chain.getLast? <;> rfl
  rw [e, h.to, h.first]
  cases k with
  | zero => rfl
  | succ k => rw [List.range_succ, List.map_append]; simp
theorem PS.used {xs : List ByteArray} {k : Nat} {t : TV} (h : PS xs k t) (hd : ∀ i, i ≤ k → pubS (xs.getD i ⟨#[]⟩) ≠ pubS (xs.getD (k + 1) ⟨#[]⟩)) : usedB t (pubS (xs.getD (k + 1) ⟨#[]⟩)) = false := by
  have e : ∀ key, usedB t key = (decide (t.first = key) || (t.chain.map (·.to)).any (fun x => decide (x = key))) := fun key => by
    unfold usedB; rw [List.any_map]; rfl
  rw [e, h.first, h.to, Bool.or_eq_false_iff]
  refine ⟨by rw [decide_eq_false_iff_not]; exact hd 0 (by omega), List.any_eq_false.2 fun x hx => ?_⟩
  obtain ⟨i, hi, rfl⟩ := List.mem_map.1 hx
  have hi := List.mem_range.1 hi
  rw [decide_eq_true_eq]
  exact hd (i + 1) (by omega)
theorem PS.next {xs : List ByteArray} {k : Nat} {t : TV} (h : PS xs k t) (hk : k < 50) (hd : ∀ i, i ≤ k → pubS (xs.getD i ⟨#[]⟩) ≠ pubS (xs.getD (k + 1) ⟨#[]⟩)) (v sv : Value) : PS xs (k + 1) (passT t (pubS (xs.getD (k + 1) ⟨#[]⟩)) v sv (xs.getD k ⟨#[]⟩)) := by
  have hl := h.len
  refine ⟨h.serial, h.show_, h.place, h.first, ?_, valid_pass h.valid (isD_pubS _) (by omega) (h.used hd) h.owner.symm, ⟨h.sz.s0, h.sz.s1, h.sz.s2, h.sz.first, ?_, ?_⟩⟩
  · have hm : msgS t (pubS (xs.getD (k + 1) ⟨#[]⟩)) = listS ([itoaS 10001, itoaS 0, pubS (xs.getD 0 ⟨#[]⟩)] ++ (passedP xs k).map (fun p : ByteArray × List ByteArray => p.1) ++ [pubS (xs.getD (k + 1) ⟨#[]⟩)]) := by
      unfold msgS msgL
      rw [h.serial, h.show_, h.first, h.to, passedP_to]
    rw [passedP_s, ← hm, ← h.xfs]
    simp only [passT, List.map_append, List.map_cons, List.map_nil, xf]
  · show (t.chain ++ [_]).length ≤ 1000
    rw [List.length_append, List.length_cons, List.length_nil]; omega
  · intro x hx
    rcases List.mem_append.1 hx with hx | hx
    · exact h.sz.x x hx
    · obtain rfl := List.mem_singleton.1 hx
      refine ⟨by rw [pubS_size]; decide, ?_, fun y hy => ?_⟩
      · dsimp only
        unfold signL
        rw [walkK_len]; decide
      · have := walkK_size _ _ _ y hy; omega
end Go.Proofs.YtngocpdmlijnfaaDoor
