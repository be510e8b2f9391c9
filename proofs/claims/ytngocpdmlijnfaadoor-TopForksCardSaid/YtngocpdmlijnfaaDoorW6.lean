/- The walks. No condition. -/
import Derived.Test.YtngocpdmlijnfaaDoorChecked
import Derived.Test.YtngocpdmlijnfaaDoorGwStrB
import Derived.Test.YtngocpdmlijnfaaDoorShelf
import Derived.Test.YtngocpdmlijnfaaDoorFacts
import Derived.Test.YtngocpdmlijnfaaDoorPlain
import Derived.Test.YtngocpdmlijnfaaDoorW5
namespace Go.Proofs.YtngocpdmlijnfaaDoor
open Go Go.Gw
set_option linter.unusedVariables false
set_option linter.unusedSimpArgs false
set_option maxHeartbeats 1000000 in
/-- foyer/sign.Verify -/
theorem verify_spec (pub m : ByteArray) (v : Value) (xs : List ByteArray) (w0 : World) (hT : Tabs w0) (hm : m.size ≤ 1000000) (hx : ∀ x ∈ xs, x.size ≤ 1000) (hv : IsSl w0 v 1 encS xs) :
    Ret Tryd.prog 13 #[.string pub, .string m, v] w0 (fun u w => u = .bool (verB pub m xs) ∧ Ext w0 w) := by
 refine ret_of_wp (nt := 40) Tryd.func13 rfl rfl rfl (fl := [(0, .string pub), (1, .string m), (2, v)]) rfl (fun a S => ?_)
 have H := HSat.start w0
 have H := H.ro0 (TabsA) rfl (hT)
 have H := H.ro0 (Sl v 1 encS xs) rfl (hv)
 have hlen := hv.len
 refine gsr ?_
 refine ga S fun a S => ?_
 refine gnt ?_
 refine g_seq ?_
 refine gsr ?_
 refine gm S fun a S => ?_
 refine gy rfl rfl rfl S (y_lens rfl Tryd.underlying30 S H rfl) fun a S => ?_
 refine gy rfl rfl rfl S (y_bin rfl S rfl rfl rfl) fun a S => ?_
 refine gnt ?_
 refine c_if S rfl (fun h1 => ?_) (fun h1 => ?_)
 ·have h1p := h1; try simp only [DL] at h1p
  have hno : xs.length ≠ 18 := by omega
  refine gsr ?_
  refine ga S fun a S => ?_
  refine gnt ?_
  have S := (((S.nil.cons S 2 rfl).cons S 1 rfl).cons S 0 rfl).cons S 6 rfl
  refine g_ret ?_
  refine r_then (ret1 rfl S rfl ?_)
  refine ⟨congrArg Value.bool ?_, H.toExt⟩
  unfold verB; rw [decide_eq_false hno]; rfl
 ·have h1p := h1; try simp only [DL] at h1p
  have h18 : xs.length = 18 := by omega
  refine g_skip ?_
  refine n_then ?_
  refine gsr ?_
  refine gm S fun a S => ?_
  refine wl_of (op_call (wn rfl) rfl rfl S (co_func rfl Tryd.call36 S rfl) (digits_spec _ _ H.tabs (by first | assumption | omega)) fun v w hc a S => ?_)
  obtain ⟨rfl, he⟩ := hc
  have H := H.ext he
  refine wl_of (op_alloc (wn rfl) rfl rfl rfl S H Fzer61 fun b7 a w S H => ?_)
  refine wl_of (op_storea (wn rfl) rfl rfl S H rfl rfl (digV_one m) (by rw [digV_len]; exact Fsiz61) (by rw [digV_len]; rfl) (cs' := digV m) (by simp [digV_len]) fun a w S H => ?_)
  refine gnt ?_
  have S := (((S.nil.cons S 2 rfl).cons S 0 rfl).cons S 6 rfl).cons S 7 rfl
  refine gsr ?_
  refine ga S fun a S => ?_
  refine gnt ?_
  refine g_seq ?_
  refine gsr ?_
  refine gm S fun a S => ?_
  refine gy rfl rfl rfl S (y_lens rfl Tryd.underlying30 S H rfl) fun a S => ?_
  refine gm S fun a S => ?_
  refine gnt ?_
  refine g_block ?_
  have SU := (((S.nil.cons S 0 rfl).cons S 7 rfl).cons S 16 rfl).cons S 17 rfl
  refine loopW (X := Nat × Value) SU (fun x => [(18, .int .i64 (x.1 : Int)), (8, x.2)]) (fun x w => x.1 ≤ 18 ∧ (∀ i (h : i < xs.length), i < x.1 → isD xs[i] = true) ∧ HSat No w0 [OSl 9 x.2 1 encS (endsK m xs x.1), Cel b7 61 (digV m), Sl v 1 encS xs, TabsA] w) (fun x => 18 - x.1) (0, .slice none 0 0) ((S.nil.cons S 8 rfl).cons S 18 rfl) (⟨by simp, fun i _ h => absurd h (by simp), by have h := (H.nilO 9 1 encS).take [OSl 9 (.slice none 0 0) 1 encS [], Cel b7 61 (digV m), Sl v 1 encS xs, TabsA]; exact h⟩) (fun x a w S hW => ?_)
  simp only [List.cons_append, List.nil_append] at S
  obtain ⟨k, u⟩ := x
  obtain ⟨hk, hok, H⟩ := hW
  dsimp only at S H hk hok
  refine gsr ?_
  refine gy rfl rfl rfl S (y_bin rfl S rfl rfl rfl) fun a S => ?_
  refine gnt ?_
  refine g_seq ?_
  refine c_if S rfl (fun h2 => ?_) (fun h2 => ?_)
  ·have h2p := h2; try simp only [DL] at h2p
   have hk18 : k < 18 := by omega
   have hkx : k < xs.length := by omega
   have hsk : xs[k].size ≤ 9223372036854775807 := by have := hx xs[k] (List.getElem_mem hkx); omega
   refine g_skip ?_
   refine n_then ?_
   refine g_seq ?_
   refine g_block ?_
   refine gsr ?_
   refine gm S fun a S => ?_
   refine gy rfl rfl rfl S (y_iaddrn rfl Tryd.underlying30 Fsiz9 S H rfl rfl (by first | assumption | omega | (simp only [LL]; omega))) fun a S => ?_
   refine gy rfl rfl rfl S (y_loads _ rfl Fsca9 S H rfl (by first | assumption | omega | (simp only [LL]; omega)) rfl) fun a S => ?_
   refine ga S fun a S => ?_
   refine ga S fun a S => ?_
   refine gnt ?_
   have S := (((((((S.nil.cons S 0 rfl).cons S 7 rfl).cons S 16 rfl).cons S 17 rfl).cons S 8 rfl).cons S 18 rfl).cons S 9 rfl).cons S 10 rfl
   refine g_seq ?_
   refine gsr ?_
   refine gm S fun a S => ?_
   refine wl_of (op_call (wn rfl) rfl rfl S (co_func rfl Tryd.call30 S rfl) (is_spec _ _ hsk) fun v w hc a S => ?_)
   obtain ⟨rfl, he⟩ := hc
   have H := H.ext he
   refine gy rfl rfl rfl S (y_not rfl S rfl) fun a S => ?_
   refine gnt ?_
   refine c_if S rfl (fun h3 => ?_) (fun h3 => ?_)
   ·have h3p := h3; try simp only [DL] at h3p
    refine gsr ?_
    refine ga S fun a S => ?_
    refine gnt ?_
    refine g_ret ?_
    refine r_then (r_block (r_then (r_then (r_block (r_then (ret1 rfl S rfl ?_))))))
    refine ⟨congrArg Value.bool ?_, H.toExt⟩
    have hno : xs.all isD = false := List.all_eq_false.2 ⟨xs[k], List.getElem_mem hkx, by simpa using h3⟩
    unfold verB; rw [hno, Bool.and_false]; rfl
   ·have h3p := h3; try simp only [DL] at h3p
    refine g_skip ?_
    refine n_then ?_
    refine g_region ?_
    refine gm S fun a S => ?_
    refine gm S fun a S => ?_
    refine gm S fun a S => ?_
    refine gy rfl rfl rfl S (y_iaddra rfl Tryd.underlying61 Fsiz3 S rfl rfl (by omega)) fun a S => ?_
    refine gy rfl rfl rfl S ((y_load (v := .int .i64 ((digs m).getD k 0 : Int)) rfl Fsca3 S H rfl (by have h := digV_get m k hk18; simpa only [Int.toNat_natCast, Nat.zero_add, Nat.mul_one] using h))) fun a S => ?_
    refine gy rfl rfl rfl S ((y_subn (m := 15 - (digs m).getD k 0) rfl S rfl rfl (by have := digs_le m k; omega) (by omega))) fun a S => ?_
    refine wl_of (op_call (wn rfl) rfl rfl S (co_func rfl Tryd.call26 S rfl) (chain_t _ (15 - (digs m).getD k 0) _ H.tabs hsk (by omega)) fun v w hc a S => ?_)
    obtain ⟨rfl, he⟩ := hc
    have H := H.ext he
    refine wl_of (op_buildSlice (wn rfl) rfl rfl rfl Tryd.underlying30 Finf9 S H (idx := [0]) rfl rfl rfl (z := [.string ⟨#[]⟩]) (by kernel_rfl) (cs := [_]) rfl fun b33 a w S H => ?_)
    refine wl_of (op_append ([chainS xs[k] (15 - (digs m).getD k 0)]) (wn rfl) rfl rfl rfl Tryd.underlying30 Finf9 rfl rfl S H rfl rfl rfl rfl (by simp) (by simp [encS]) (by simp [encS, Value.oneCell']) (by simp only [List.length_cons, List.length_nil, endsK_len]; omega) (by simp only [List.length_cons, List.length_nil, endsK_len]; omega) fun u34 a w hn34 S H => ?_)
    refine ga S fun a S => ?_
    refine gl_nil ?_
    refine n_block ?_
    refine n_then ?_
    have S := (((((S.nil.cons S 0 rfl).cons S 7 rfl).cons S 16 rfl).cons S 17 rfl).cons S 18 rfl).cons S 8 rfl
    refine g_region ?_
    refine gy rfl rfl rfl S (y_add rfl S rfl rfl (by omega)) fun a S => ?_
    refine gm S fun a S => ?_
    refine gnt ?_
    rw [endsK_s m xs k hkx] at H
    exact ⟨(k + 1, u34), (S.nil.cons S 8 rfl).cons S 18 rfl, (((S.nil.cons S 0 rfl).cons S 7 rfl).cons S 16 rfl).cons S 17 rfl, ⟨by dsimp only; omega, fun i hi hik => by (by_cases hjk : i < k; exact hok i hi hjk; (obtain rfl : i = k := by dsimp only at hik; omega); simpa using h3), H.take [OSl 9 u34 1 encS (endsK m xs (k + 1)), Cel b7 61 (digV m), Sl v 1 encS xs, TabsA]⟩, by dsimp only; omega⟩
  ·have h2p := h2; try simp only [DL] at h2p
   obtain rfl : k = 18 := by omega
   have hall : xs.all isD = true := List.all_eq_true.2 fun x hx => by obtain ⟨i, hi, rfl⟩ := List.getElem_of_mem hx; exact hok i hi (by omega)
   have hjl := list_ok (xs := endsK m xs 18) (fun x hx => by have := endsK_size (m := m) (by omega) hok x hx; omega) (by rw [endsK_len]; decide)
   refine g_exit ?_
   refine x_then (x_then (x_eq ?_))
   refine n_then ?_
   have S := (S.nil.cons S 0 rfl).cons S 8 rfl
   refine gsr ?_
   refine gm S fun a S => ?_
   refine wl_of (op_call (wn rfl) rfl rfl S (co_func rfl Tryd.call27 S rfl) (list_t u (endsK m xs 18) _ H.tabs (H.sl u) hjl) fun v w hc a S => ?_)
   obtain ⟨rfl, he⟩ := hc
   have H := H.ext he
   refine gm S fun a S => ?_
   refine gy rfl rfl rfl S (y_eqs rfl Tryd.underlying9 S rfl rfl) fun a S => ?_
   refine ga S fun a S => ?_
   refine gnt ?_
   have S := S.nil.cons S 6 rfl
   refine g_ret ?_
   refine ret1 rfl S rfl ?_
   refine ⟨congrArg Value.bool ?_, H.toExt⟩
   unfold verB; rw [hall, decide_eq_true h18]; rfl
/-- foyer/sign.starts -/
theorem starts_spec (s : ByteArray) (w0 : World) :
    Ret Tryd.prog 58 #[.string s] w0 (fun u w => ∃ b1, u = .func (.func 71) #[] #[.pointer (some ⟨b1, 0, none⟩)] ∧ HSat No w0 [Cel b1 9 [.string s]] w) := by
 refine ret_of_wp (nt := 4) Tryd.func58 rfl rfl rfl (fl := [(0, .string s)]) rfl (fun a S => ?_)
 have H := HSat.start w0
 refine gsr ?_
 refine wl_of (op_box1 (wn rfl) rfl rfl rfl S H rfl rfl fun b1 a w S H => ?_)
 refine ga S fun a S => ?_
 refine gnt ?_
 refine gsr ?_
 refine gy rfl rfl rfl S (y_makeFunc rfl S rfl rfl) fun a S => ?_
 refine ga S fun a S => ?_
 refine gnt ?_
 have S := S.nil.cons S 2 rfl
 refine g_ret ?_
 refine ret1 rfl S rfl ?_
 exact ⟨_, rfl, H⟩
/-- foyer/sign.starts$1 -/
theorem starts_iter {M : Nat → Prop} {u0 : World} {Z : Type} (L : Nat → Z → List Atom) (lb b1 : Nat) (s : ByteArray) (w0 : World) (hs : s.size ≤ 1000)
    (hround : ∀ k, k < 18 → ∀ z w, HSat M u0 (Atom.ro (Cel b1 9 [.string s]) :: TabsA :: L (k) z) w → YieldRet Tryd.prog lb #[.int .i64 (k : Int), .string (startS s k)] w (fun u w' => u = .bool true ∧ ∃ z, HSat M u0 (Atom.ro (Cel b1 9 [.string s]) :: TabsA :: L (k + 1) z) w')) (h0 : ∃ z, HSat M u0 (Atom.ro (Cel b1 9 [.string s]) :: TabsA :: L (0) z) w0) :
    Ret Tryd.prog 71 #[.func (.yield lb) #[] #[], .pointer (some ⟨b1, 0, none⟩)] w0 (fun u w => ∃ z, HSat M u0 (Atom.ro (Cel b1 9 [.string s]) :: TabsA :: L (18) z) w) := by
 refine ret_of_wp (nt := 17) Tryd.func71 rfl rfl rfl (fl := [(0, .func (.yield lb) #[] #[]), (1, .pointer (some ⟨b1, 0, none⟩))]) rfl (fun a S => ?_)
 obtain ⟨z0, H⟩ := h0
 refine gsr ?_
 refine gm S fun a S => ?_
 refine gnt ?_
 refine g_block ?_
 have SU := (S.nil.cons S 1 rfl).cons S 0 rfl
 refine loopW (X := Nat) SU (fun k => [(4, .int .i64 (k : Int))]) (fun k w => k ≤ 18 ∧ ∃ z, HSat M u0 (Atom.ro (Cel b1 9 [.string s]) :: TabsA :: L (k) z) w) (fun k => 18 - k) 0 (S.nil.cons S 4 rfl) (⟨by omega, z0, H⟩) (fun k a w S hW => ?_)
 simp only [List.cons_append, List.nil_append] at S
 obtain ⟨hk, z, H⟩ := hW
 refine gsr ?_
 refine gy rfl rfl rfl S (y_bin rfl S rfl rfl rfl) fun a S => ?_
 refine gnt ?_
 refine g_seq ?_
 refine c_if S rfl (fun h1 => ?_) (fun h1 => ?_)
 ·have h1p := h1; try simp only [DL] at h1p
  refine g_skip ?_
  refine n_then ?_
  refine g_seq ?_
  refine g_block ?_
  refine gsr ?_
  refine gm S fun a S => ?_
  refine ga S fun a S => ?_
  refine gnt ?_
  refine g_seq ?_
  refine region_st (loud := [5, 7]) (tails := [7]) (free := []) [0, 1, 2, 3, 4, 5, 6, 7, 8] [] Fmo (by kernel_rfl) (by kernel_rfl) rfl H ?_
  refine m_w rfl rfl (wn rfl) rfl rfl S (fun w H => y_move rfl S rfl) fun a S => ?_
  refine m_w rfl rfl (wn rfl) rfl rfl S (fun w H => y_move rfl S rfl) fun a S => ?_
  refine m_w rfl rfl (wn rfl) rfl rfl S (fun w H => y_load rfl Fsca9 S H rfl rfl) fun a S => ?_
  refine m_w rfl rfl (wn rfl) rfl rfl S (fun w H => y_move rfl S rfl) fun a S => ?_
  refine m_c rfl rfl (wn rfl) rfl rfl S (fun w => co_func rfl Tryd.call37 S rfl) (fun w H => itoa_t (k : Int) (by omega) (by omega) _ H.tabs) fun a S => ?_
  refine m_l rfl rfl (fun w H => op_buildSlice (wn rfl) rfl rfl rfl Tryd.underlying30 Finf9 S H (idx := [0, 1]) rfl rfl rfl (z := [.string ⟨#[]⟩, .string ⟨#[]⟩]) (by kernel_rfl) (cs := [.string s, .string (itoaS (k : Int))]) rfl fun b12 a w S H => m_next H (List.sublist_cons_self _ _) ?_)
  refine m_c rfl rfl (wn rfl) rfl rfl S (fun w => co_func rfl Tryd.call27 S rfl) (fun w H => list_t _ [s, itoaS (k : Int)] _ H.tabs (H.slb b12 _ encS 1 rfl rfl (by simp [encS]) (by decide)) (list_ok (by intro x hx; simp only [List.mem_cons, List.not_mem_nil, or_false] at hx; rcases hx with rfl | rfl; exact hs; have := itoaS_size (k : Int) (by omega) (by omega); omega) (by simp))) fun a S => ?_
  refine m_l rfl rfl (fun w H => op_yield (wn rfl) rfl rfl rfl S rfl rfl (hround k (by omega) z _ H.tail) fun u w hc a S => ?_)
  obtain ⟨rfl, z2, H⟩ := hc
  refine m_tail H rfl ?_
  refine m_w rfl rfl (wn rfl) rfl rfl S (fun w H => y_not rfl S rfl) fun a S => ?_
  refine m_nil (fun w H => ?_)
  refine n_then ?_
  have S := (((S.nil.cons S 1 rfl).cons S 0 rfl).cons S 4 rfl).cons S 15 rfl
  refine c_if S rfl (fun h2 => ?_) (fun h2 => ?_)
  ·have h2p := h2; try simp only [DL] at h2p
   all_goals (
     exact absurd h2 (by simp))
  ·have h2p := h2; try simp only [DL] at h2p
   refine g_skip ?_
   refine n_block ?_
   refine n_then ?_
   refine g_region ?_
   refine gy rfl rfl rfl S (y_add rfl S rfl rfl (by omega)) fun a S => ?_
   refine gm S fun a S => ?_
   refine gnt ?_
   exact ⟨k + 1, S.nil.cons S 4 rfl, (S.nil.cons S 1 rfl).cons S 0 rfl, ⟨by omega, z2, H⟩, by omega⟩
 ·have h1p := h1; try simp only [DL] at h1p
  obtain rfl : k = 18 := by omega
  refine g_exit ?_
  refine x_then (x_then (x_eq ?_))
  refine ret0n rfl S ?_
  exact ⟨z, H⟩
set_option maxHeartbeats 1000000 in
/-- foyer/sign.walk -/
theorem walk_spec (s : ByteArray) (f : FuncId) (cap : List Value) (he : Enters Tryd.prog f) (d : Nat → Nat) (w0 : World) (hT : Tabs w0) (hs : s.size ≤ 1000) (hd : ∀ k, k < 18 → d k ≤ 15)
    (hl : ∀ k : Nat, k < 18 → ∀ w, Ext w0 w → Ret Tryd.prog f ([Value.int .i64 (k : Int)] ++ cap).toArray w (fun u w' => u = .int .i64 (d k : Int) ∧ Ext w w')) :
    Ret Tryd.prog 44 #[.string s, .func (.func f) #[] cap.toArray] w0 (fun u w => HSat No w0 [OSl 9 u 1 encS (walkK s d 18)] w) := by
 refine ret_of_wp (nt := 21) Tryd.func44 rfl rfl rfl (fl := [(0, .string s), (1, .func (.func f) #[] cap.toArray)]) rfl (fun a S => ?_)
 have H := HSat.start w0
 have H := H.ro0 (TabsA) rfl (hT)
 refine gsr ?_
 refine wl_of (op_box1 (wn rfl) rfl rfl rfl S H rfl rfl fun b3 a w S H => ?_)
 refine ga S fun a S => ?_
 refine gnt ?_
 refine gsr ?_
 refine wl_of (op_alloc (wn rfl) rfl rfl rfl S H Fzer30 fun b5 a w S H => ?_)
 refine gnt ?_
 refine g_seq ?_
 refine gsr ?_
 refine gm S fun a S => ?_
 refine wl_of (op_call (wn rfl) rfl rfl S (co_func rfl Tryd.call58 S rfl) (starts_spec s _) fun v w hc a S => ?_)
 obtain ⟨b1, rfl, H1⟩ := hc
 have H := H.call H1 (by simp [Blk])
 simp only [List.cons_append, List.nil_append] at H
 have H := (H.freeze.nilO 9 1 encS).defs0
 refine gnt ?_
 refine g_block ?_
 refine g_range (Φ := fun p l2 => p = none ∧ ∃ z, l2 = [Cel b5 30 [z], OSl 9 z 1 encS (walkK s d 18)]) S (H.take [DefsA [], Atom.ro (Cel b1 9 [.string s]), TabsA, Cel b5 30 [.slice none 0 0], OSl 9 (.slice none 0 0) 1 encS [], Cel b3 75 [.func (.func f) #[] cap.toArray]]) rfl Tryd.call71 (fun R lb w1 hrec H1 => ?_) ?_
 ·have SR := S.recd
  refine Ret.mono (starts_iter (M := No) (u0 := w0) (Z := Value) (fun k z => Blk lb (.loop R) :: DefsA [R.defers] :: Cel b5 30 [z] :: OSl 9 z 1 encS (walkK s d (k)) :: Cel b3 75 [.func (.func f) #[] cap.toArray] :: []) lb b1 s w1 hs (fun k hk z w H => ?_) ⟨.slice none 0 0, by have h := H1.take (Atom.ro (Cel b1 9 [.string s]) :: TabsA :: Blk lb (.loop R) :: DefsA [R.defers] :: Cel b5 30 [(.slice none 0 0)] :: OSl 9 (.slice none 0 0) 1 encS [] :: Cel b3 75 [.func (.func f) #[] cap.toArray] :: []); exact h⟩) ?_
  ·skip
   skip
   refine yield2 hrec SR H rfl rfl (fun a S => ?_)
   refine gsr ?_
   refine ga S fun a S => ?_
   refine gnt ?_
   have S := ((((S.nil.cons S 3 rfl).cons S 4 rfl).cons S 5 rfl).cons S 11 rfl).cons S 6 rfl
   refine g_region ?_
   refine ga S fun a S => ?_
   refine gnt ?_
   refine r_begin hrec H (fun w H => ?_)
   refine g_block ?_
   refine region_st (loud := [6, 7, 8]) (tails := [7, 8]) (free := []) [0, 1, 2, 3, 4, 5, 6, 7, 8] [] Fmo (by kernel_rfl) (by kernel_rfl) rfl H ?_
   refine m_w rfl rfl (wn rfl) rfl rfl S (fun w H => y_load rfl Fsca30 S H rfl rfl) fun a S => ?_
   refine m_w rfl rfl (wn rfl) rfl rfl S (fun w H => y_move rfl S rfl) fun a S => ?_
   refine m_w rfl rfl (wn rfl) rfl rfl S (fun w H => y_load rfl Fsca75 S H rfl rfl) fun a S => ?_
   refine m_w rfl rfl (wn rfl) rfl rfl S (fun w H => y_move rfl S rfl) fun a S => ?_
   refine m_c rfl rfl (wn rfl) rfl rfl S (fun w => co_value rfl he S rfl rfl) (fun w H => hl k hk w H.toExt) fun a S => ?_
   refine m_c rfl rfl (wn rfl) rfl rfl S (fun w => co_func rfl Tryd.call26 S rfl) (fun w H => chain_t _ (d k) _ H.tabs (by rw [show startS s k = listS _ from rfl, listS_size]; decide) (by have := hd k hk; omega)) fun a S => ?_
   refine m_l rfl rfl (fun w H => op_buildSlice (wn rfl) rfl rfl rfl Tryd.underlying30 Finf9 S H (idx := [0]) rfl rfl rfl (z := [.string ⟨#[]⟩]) (by kernel_rfl) (cs := [_]) rfl fun b18 a w S H => m_next H (List.sublist_cons_self _ _) ?_)
   refine m_l rfl rfl (fun w H => op_append ([chainS (startS s k) (d k)]) (wn rfl) rfl rfl rfl Tryd.underlying30 Finf9 rfl rfl S H rfl rfl rfl rfl (by simp) (by simp [encS]) (by simp [encS, Value.oneCell']) (by simp only [List.length_cons, List.length_nil, walkK_len]; omega) (by simp only [List.length_cons, List.length_nil, walkK_len]; omega) fun u19 a w hn19 S H => ?_)
   rw [walkK_s] at H
   refine m_tail H rfl ?_
   refine m_l rfl rfl (fun w H => op_store (wn rfl) rfl rfl S H rfl rfl (H.sl1 _) Fsiz30 rfl fun a w S H => m_tail H rfl ?_)
   dsimp only [List.set, Nat.zero_add, Nat.reduceAdd] at H
   refine m_nil (fun w H => ?_)
   refine n_block ?_
   refine r_end hrec H (fun w H => ?_)
   dsimp only [List.set] at H
   exact ⟨rfl, u19, H.take (Atom.ro (Cel b1 9 [.string s]) :: TabsA :: Blk lb (.loop R) :: DefsA [R.defers] :: Cel b5 30 [u19] :: OSl 9 u19 1 encS (walkK s d (k + 1)) :: Cel b3 75 [.func (.func f) #[] cap.toArray] :: [])⟩
  ·rintro _ w2 ⟨z, H2⟩
   exact ⟨.ready, none, _, by simp, ⟨rfl, z, rfl⟩, by rw [hrec.same]; exact H2.take [Blk lb (.loop R), DefsA [R.defers], Cel b5 30 [z], OSl 9 z 1 encS (walkK s d 18)]⟩
 ·intro bd a w pend l2 S H hΦ
  obtain ⟨rfl, z, rfl⟩ := hΦ
  refine n_block ?_
  refine n_then ?_
  have S := (S.nil.cons S 4 rfl).cons S 5 rfl
  refine gsr ?_
  refine gy rfl rfl rfl S (y_load rfl Fsca30 S H rfl rfl) fun a S => ?_
  refine ga S fun a S => ?_
  refine gnt ?_
  refine g_ret ?_
  refine ret1M rfl S H rfl (fun w H => ?_)
  exact H.take [OSl 9 z 1 encS (walkK s d 18)]
/-- foyer/sign.Public$1 -/
theorem pub1_spec (i : Int) (w0 : World) :
    Ret Tryd.prog 45 #[.int .i64 i] w0 (fun u w => u = .int .i64 ((15 : Nat) : Int) ∧ Ext w0 w) := by
 refine ret_of_wp (nt := 3) Tryd.func45 rfl rfl rfl (fl := [(0, .int .i64 i)]) rfl (fun a S => ?_)
 have H := HSat.start w0
 refine gsr ?_
 refine ga S fun a S => ?_
 refine gnt ?_
 refine gsr ?_
 refine ga S fun a S => ?_
 refine gnt ?_
 refine g_ret ?_
 refine ret1 rfl S rfl ?_
 exact ⟨rfl, H.toExt⟩
/-- foyer/sign.Public -/
theorem public_spec (s : ByteArray) (w0 : World) (hT : Tabs w0) (hs : s.size ≤ 1000) :
    Ret Tryd.prog 28 #[.string s] w0 (fun u w => u = .string (pubS s) ∧ Ext w0 w) := by
 refine ret_of_wp (nt := 6) Tryd.func28 rfl rfl rfl (fl := [(0, .string s)]) rfl (fun a S => ?_)
 have H := HSat.start w0
 have H := H.ro0 (TabsA) rfl (hT)
 refine gsr ?_
 refine ga S fun a S => ?_
 refine gnt ?_
 refine gsr ?_
 refine gm S fun a S => ?_
 refine wl_of (op_call (wn rfl) rfl rfl S (co_func rfl Tryd.call44 S rfl) (walk_spec s 45 [] Tryd.call45 (fun _ => 15) _ H.tabs hs (fun _ _ => by decide) (fun k hk w _ => pub1_spec _ _)) fun u4 w hc a S => ?_)
 have H1 := hc
 have H := H.call H1 (by simp [OSl, Blk])
 simp only [List.cons_append, List.nil_append] at H
 refine wl_of (op_call (wn rfl) rfl rfl S (co_func rfl Tryd.call27 S rfl) (list_t u4 _ _ H.tabs (H.sl u4) (list_ok (fun x hx => by have := walkK_size _ _ _ x hx; omega) (by rw [walkK_len]; decide))) fun v w hc a S => ?_)
 obtain ⟨rfl, he⟩ := hc
 have H := H.ext he
 refine ga S fun a S => ?_
 refine gnt ?_
 have S := S.nil.cons S 2 rfl
 refine g_ret ?_
 refine ret1 rfl S rfl ?_
 exact ⟨rfl, H.toExt⟩
/-- foyer/sign.Sign$1 -/
theorem sign1_spec (k b : Nat) (m : ByteArray) (w0 : World) (hk : k < 18) (hb : w0.heap[b]? = some (.cells (digV m).toArray 61 (0, 0))) :
    Ret Tryd.prog 59 #[.int .i64 (k : Int), .pointer (some ⟨b, 0, none⟩)] w0 (fun u w => u = .int .i64 ((digs m).getD k 0 : Int) ∧ Ext w0 w) := by
 refine ret_of_wp (nt := 7) Tryd.func59 rfl rfl rfl (fl := [(0, .int .i64 (k : Int)), (1, .pointer (some ⟨b, 0, none⟩))]) rfl (fun a S => ?_)
 have H := HSat.start w0
 have H := H.ro0 (Atom.ro (Cel b 61 (digV m))) rfl (hb)
 refine gsr ?_
 refine ga S fun a S => ?_
 refine gnt ?_
 refine gsr ?_
 refine gm S fun a S => ?_
 refine gy rfl rfl rfl S (y_iaddra rfl Tryd.underlying61 Fsiz3 S rfl rfl (by omega)) fun a S => ?_
 refine gy rfl rfl rfl S ((y_load (v := .int .i64 ((digs m).getD k 0 : Int)) rfl Fsca3 S H rfl (by have h := digV_get m k hk; simpa only [Int.toNat_natCast, Nat.zero_add, Nat.mul_one] using h))) fun a S => ?_
 refine ga S fun a S => ?_
 refine gnt ?_
 have S := S.nil.cons S 3 rfl
 refine g_ret ?_
 refine ret1 rfl S rfl ?_
 exact ⟨rfl, H.toExt⟩
/-- foyer/sign.Sign -/
theorem sign_spec (s m : ByteArray) (w0 : World) (hT : Tabs w0) (hs : s.size ≤ 1000) (hm : m.size ≤ 1000000) :
    Ret Tryd.prog 47 #[.string s, .string m] w0 (fun u w => HSat No w0 [OSl 9 u 1 encS (signL s m)] w) := by
 refine ret_of_wp (nt := 11) Tryd.func47 rfl rfl rfl (fl := [(0, .string s), (1, .string m)]) rfl (fun a S => ?_)
 have H := HSat.start w0
 have H := H.ro0 (TabsA) rfl (hT)
 refine gsr ?_
 refine ga S fun a S => ?_
 refine gnt ?_
 refine gsr ?_
 refine gm S fun a S => ?_
 refine wl_of (op_call (wn rfl) rfl rfl S (co_func rfl Tryd.call36 S rfl) (digits_spec _ _ H.tabs (by first | assumption | omega)) fun v w hc a S => ?_)
 obtain ⟨rfl, he⟩ := hc
 have H := H.ext he
 refine wl_of (op_alloc (wn rfl) rfl rfl rfl S H Fzer61 fun b5 a w S H => ?_)
 refine wl_of (op_storea (wn rfl) rfl rfl S H rfl rfl (digV_one m) (by rw [digV_len]; exact Fsiz61) (by rw [digV_len]; rfl) (cs' := digV m) (by simp [digV_len]) fun a w S H => ?_)
 refine gnt ?_
 refine gsr ?_
 refine gm S fun a S => ?_
 refine gy rfl rfl rfl S (y_makeFunc rfl S rfl rfl) fun a S => ?_
 refine wl_of (op_call (wn rfl) rfl rfl S (co_func rfl Tryd.call44 S rfl) (walk_spec s 59 [.pointer (some ⟨b5, 0, none⟩)] Tryd.call59 (fun i => (digs m).getD i 0) _ H.tabs hs (fun k _ => digs_le m k) (fun k hk w' e => sign1_spec k b5 m w' hk ((e.block (Array.getElem?_eq_some_iff.1 (H.rd b5)).1).trans (H.rd b5)))) fun u10 w hc a S => ?_)
 have H1 := hc
 have H := H.call H1 (by simp [OSl, Blk])
 simp only [List.cons_append, List.nil_append] at H
 refine ga S fun a S => ?_
 refine gnt ?_
 have S := S.nil.cons S 4 rfl
 refine g_ret ?_
 refine ret1 rfl S rfl ?_
 exact H.take [OSl 9 u10 1 encS (walkK s (fun i => (digs m).getD i 0) 18)]
end Go.Proofs.YtngocpdmlijnfaaDoor
