/- The walks. No condition. -/
import Derived.Test.YtngocpdmlijnfaaDoorChecked
import Derived.Test.YtngocpdmlijnfaaDoorGwStrB
import Derived.Test.YtngocpdmlijnfaaDoorShelf
import Derived.Shelf.Strings.SlTrimAscii
import Derived.Test.YtngocpdmlijnfaaDoorFacts
import Derived.Test.YtngocpdmlijnfaaDoorPlain
import Derived.Test.YtngocpdmlijnfaaDoorW4
import Derived.Test.YtngocpdmlijnfaaDoorPlainB
namespace Go.Proofs.YtngocpdmlijnfaaDoor
open Go Go.Gw
set_option linter.unusedVariables false
set_option linter.unusedSimpArgs false
theorem ext_below {w w' : World} (h : Go.RowKit.Below w.heap.size w w') : Ext w w' := ⟨h.os, h.tape, h.output, h.size, fun k hk _ => h.block k hk, fun k hk ht => by rw [h.block k hk]; exact ht⟩
theorem trim_spec (s cs : ByteArray) (w : World) (hs : s.size ≤ 9223372036854775807) (hcs : cs.size < 4294967281) (ha : cs.data.toList.all (fun b => decide (b.toNat < 128)) = true) :
    Ret Tryd.prog 48 #[.string s, .string cs] w (fun u w' => u = .string ⟨(Go.Lib.trimS s.data.toList cs.data.toList).toArray⟩ ∧ Ext w w') :=
  Calls.mono (Any.strings_Trim_laid Tryd.lays160 (by kernel_rfl) s cs w hs hcs (ascii_of_all ha)) fun e w' ⟨he, hb⟩ => ⟨_, he, rfl, ext_below hb⟩
/-- the tables of digest and strconv stand -/
def Tabs (w : World) : Prop := (∃ T0 fz, w.heap[0]? = some (.cells hexTab.toArray T0 fz)) ∧ Go.Lib.TabIs Tryd.prog w "internal/strconv.uint64pow10" .u64 Go.Lib.pow10Tab
theorem tab_named : Tryd.prog.globalNamed "internal/strconv.uint64pow10" = some 2 := by kernel_rfl
def TabsA : Atom where
  own := false
  fp := fun b => b = 0 ∨ b = 2
  ok := Tabs
  loc := fun w w' h hok => by
    refine ⟨?_, ?_⟩
    · rw [h 0 (.inl rfl)]; exact hok.1
    · have h2 := hok.2
      unfold Go.Lib.TabIs World.var? at h2 ⊢
      rw [tab_named] at h2 ⊢
      simp only [Option.bind_some] at h2 ⊢
      rw [h 2 (.inr rfl)]; exact h2
  lt := fun w b hok hb => by
    rcases hb with rfl | rfl
    · obtain ⟨T0, fz, h⟩ := hok.1
      exact (Array.getElem?_eq_some_iff.1 h).1
    · have h2 := hok.2
      unfold Go.Lib.TabIs World.var? at h2
      rw [tab_named] at h2
      simp only [Option.bind_some] at h2
      rcases Nat.lt_or_ge 2 w.heap.size with h3 | h3
      · exact h3
      · rw [Array.getElem?_eq_none h3] at h2; cases h2
instance ROs.tabs (r : List Atom) [h : ROs r] : ROs (TabsA :: r) := ⟨by simpa [TabsA] using h.all⟩
theorem _root_.Go.Gw.HSat.tabs {M : Nat → Prop} {w0 w : World} {l : List Atom} (H : HSat M w0 l w) [h : HasAt l TabsA] : Tabs w := H.ok TabsA h.mem
theorem Tabs.ext {w w' : World} (e : Ext w w') (h : Tabs w) : Tabs w' := TabsA.loc w w' (fun b hb => e.block (TabsA.lt w b h hb)) h
theorem idx_spec (d : Nat) (h : d < 16) (w : World) : Ret Tryd.prog 51 #[.string ⟨#[48, 49, 50, 51, 52, 53, 54, 55, 56, 57, 97, 98, 99, 100, 101, 102]⟩, .int .u8 ((hexD d).toNat : Int)] w (fun u w' => u = .int .i64 (d : Int) ∧ Ext w w') :=
  Calls.mono (Tryd.strings_IndexByte _ _ _) fun e w' ⟨h1, h2⟩ => ⟨_, h1, congrArg (Value.int .i64) (idx_hexD d h), h2 ▸ Ext.refl _⟩
theorem sum_t (t : ByteArray) (w : World) (hT : Tabs w) (hs : t.size ≤ 9223372036854775807) : Ret Tryd.prog 40 #[.string t] w (fun u w' => u = .string (sumS t) ∧ Ext w w') := by
  obtain ⟨⟨T0, fz, hG⟩, _⟩ := hT
  exact sum_spec t w T0 fz hG hs
theorem chain_t (t : ByteArray) (n : Nat) (w : World) (hT : Tabs w) (hs : t.size ≤ 9223372036854775807) (hn : n ≤ 1000) : Ret Tryd.prog 26 #[.string t, .int .i64 (n : Int)] w (fun u w' => u = .string (chainS t n) ∧ Ext w w') := by
  obtain ⟨⟨T0, fz, hG⟩, _⟩ := hT
  exact chain_spec t n w T0 fz hG hs hn
theorem list_t (va : Value) (xs : List ByteArray) (w : World) (hT : Tabs w) (ha : IsSl w va 1 encS xs) (hb : (joinL xs).length ≤ 140737488355328) : Ret Tryd.prog 27 #[va] w (fun u w' => u = .string (listS xs) ∧ Ext w w') := by
  obtain ⟨⟨T0, fz, hG⟩, htab⟩ := hT
  exact list_spec va xs w T0 fz hG htab ha hb
theorem itoa_t (n : Int) (h0 : -9223372036854775808 ≤ n) (h1 : n ≤ 9223372036854775807) (w : World) (hT : Tabs w) : Ret Tryd.prog 37 #[.int .i64 n] w (fun u w' => u = .string (itoaS n) ∧ Ext w w') := itoa_spec n h0 h1 w hT.2
/-- foyer/digest.Is -/
theorem is_spec (t : ByteArray) (w0 : World) (hs : t.size ≤ 9223372036854775807) :
    Ret Tryd.prog 30 #[.string t] w0 (fun u w => u = .bool (isD t) ∧ Ext w0 w) := by
 refine ret_of_wp (nt := 11) Tryd.func30 rfl rfl rfl (fl := [(0, .string t)]) rfl (fun a S => ?_)
 have H := HSat.start w0
 refine gsr ?_
 refine ga S fun a S => ?_
 refine gnt ?_
 refine gsr ?_
 refine gm S fun a S => ?_
 refine gy rfl rfl rfl S (y_lenstr rfl Tryd.underlying9 S rfl) fun a S => ?_
 refine gy rfl rfl rfl S (y_bin rfl S rfl rfl rfl) fun a S => ?_
 refine gm S fun a S => ?_
 refine' wl_and 3 6 rfl S H rfl rfl rfl rfl rfl rfl rfl (fun _ S => (wn rfl)) (fun h1 kk => ?yh1) (fun a w S H => ?_)
 case yh1 =>
  have h1p := h1; try simp only [DL] at h1p
  refine gz 6 h1 S rfl rfl rfl rfl rfl rfl (y_move rfl S rfl) fun a S => ?_
  refine wl_of (op_call (wg' 6 rfl rfl S rfl h1 rfl) rfl rfl S (co_func rfl Tryd.call48 S rfl) (trim_spec t _ _ hs (by decide) (by decide)) fun v w hc a S => ?_)
  obtain ⟨rfl, he⟩ := hc
  have H := H.ext he
  refine gz 6 h1 S rfl rfl rfl rfl rfl rfl (y_eqs rfl Tryd.underlying9 S rfl rfl) fun a S => ?_
  refine gy rfl rfl rfl S (y_and' rfl h1 S rfl rfl) fun a S => ?_
  exact kk _ _ (S.join 4 10 rfl rfl) H
 refine ga S fun a S => ?_
 refine gnt ?_
 have S := S.nil.cons S 2 rfl
 refine g_ret ?_
 refine ret1 rfl S rfl ?_
 refine ⟨congrArg Value.bool ?_, H.toExt⟩
 rw [trim_nil]
 unfold isD
 have e : (((t.size : Int)) == 16) = decide (t.size = 16) := by rw [Bool.eq_iff_iff]; simp; omega
 rw [e]; rfl
/-- foyer/foyerref02.Digit -/
theorem digit_spec (c : UInt8) (w0 : World) :
    Ret Tryd.prog 41 #[.int .u8 (c.toNat : Int)] w0 (fun u w => u = .int .i64 (dgt c) ∧ Ext w0 w) := by
 refine ret_of_wp (nt := 22) Tryd.func41 rfl rfl rfl (fl := [(0, .int .u8 (c.toNat : Int))]) rfl (fun a S => ?_)
 have H := HSat.start w0
 have hc := c.toNat_lt
 refine gsr ?_
 refine ga S fun a S => ?_
 refine gnt ?_
 refine g_seq ?_
 refine gsr ?_
 refine gm S fun a S => ?_
 refine gy rfl rfl rfl S (y_bin rfl S rfl rfl rfl) fun a S => ?_
 refine gm S fun a S => ?_
 refine' wl_and 2 5 rfl S H rfl rfl rfl rfl rfl rfl rfl (fun _ S => (wn rfl)) (fun h1 kk => ?yh1) (fun a w S H => ?_)
 case yh1 =>
  have h1p := h1; try simp only [DL] at h1p
  refine gz 5 h1 S rfl rfl rfl rfl rfl rfl (y_move rfl S rfl) fun a S => ?_
  refine gz 5 h1 S rfl rfl rfl rfl rfl rfl (y_bin rfl S rfl rfl rfl) fun a S => ?_
  refine gy rfl rfl rfl S (y_and' rfl h1 S rfl rfl) fun a S => ?_
  exact kk _ _ (S.join 3 8 rfl rfl) H
 refine gnt ?_
 refine c_if S rfl (fun h2 => ?_) (fun h2 => ?_)
 ·have h2p := h2; try simp only [DL] at h2p
  refine gsr ?_
  refine gm S fun a S => ?_
  refine gy rfl rfl rfl S ((y_bin rfl S rfl rfl (v := .int .u8 ((c.toNat : Int) - 48)) (by simp only [intOp, IntKind.wrap_u8]; congr 2; omega))) fun a S => ?_
  refine gy rfl rfl rfl S (y_conv rfl Tryd.underlying5 Tryd.underlying3 S rfl (by omega)) fun a S => ?_
  refine ga S fun a S => ?_
  refine gnt ?_
  have S := (S.nil.cons S 0 rfl).cons S 2 rfl
  refine g_ret ?_
  refine r_then (ret1 rfl S rfl ?_)
  refine ⟨congrArg (Value.int .i64) ?_, H.toExt⟩
  unfold dgt; rw [if_pos (by omega)]
 ·have h2p := h2; try simp only [DL] at h2p
  refine g_skip ?_
  refine n_then ?_
  have S := (S.nil.cons S 0 rfl).cons S 2 rfl
  refine g_seq ?_
  refine gsr ?_
  refine gm S fun a S => ?_
  refine gy rfl rfl rfl S (y_bin rfl S rfl rfl rfl) fun a S => ?_
  refine gm S fun a S => ?_
  refine' wl_and 2 14 rfl S H rfl rfl rfl rfl rfl rfl rfl (fun _ S => (wn rfl)) (fun h3 kk => ?yh3) (fun a w S H => ?_)
  case yh3 =>
   have h3p := h3; try simp only [DL] at h3p
   refine gz 14 h3 S rfl rfl rfl rfl rfl rfl (y_move rfl S rfl) fun a S => ?_
   refine gz 14 h3 S rfl rfl rfl rfl rfl rfl (y_bin rfl S rfl rfl rfl) fun a S => ?_
   refine gy rfl rfl rfl S (y_and' rfl h3 S rfl rfl) fun a S => ?_
   exact kk _ _ (S.join 3 17 rfl rfl) H
  refine gnt ?_
  refine c_if S rfl (fun h4 => ?_) (fun h4 => ?_)
  ·have h4p := h4; try simp only [DL] at h4p
   refine gsr ?_
   refine gm S fun a S => ?_
   refine gy rfl rfl rfl S ((y_bin rfl S rfl rfl (v := .int .u8 ((c.toNat : Int) - 97)) (by simp only [intOp, IntKind.wrap_u8]; congr 2; omega))) fun a S => ?_
   refine gy rfl rfl rfl S (y_conv rfl Tryd.underlying5 Tryd.underlying3 S rfl (by omega)) fun a S => ?_
   refine gy rfl rfl rfl S (y_add rfl S rfl rfl (by omega)) fun a S => ?_
   refine ga S fun a S => ?_
   refine gnt ?_
   have S := S.nil.cons S 2 rfl
   refine g_ret ?_
   refine r_then (ret1 rfl S rfl ?_)
   refine ⟨congrArg (Value.int .i64) ?_, H.toExt⟩
   unfold dgt; rw [if_neg (by omega), if_pos (by omega)]; omega
  ·have h4p := h4; try simp only [DL] at h4p
   refine g_skip ?_
   refine n_then ?_
   have S := S.nil.cons S 2 rfl
   refine gsr ?_
   refine ga S fun a S => ?_
   refine gnt ?_
   refine g_ret ?_
   refine ret1 rfl S rfl ?_
   refine ⟨congrArg (Value.int .i64) ?_, H.toExt⟩
   unfold dgt; rw [if_neg (by omega), if_neg (by omega)]
set_option maxHeartbeats 1000000 in
/-- foyer/sign.digits -/
theorem digits_spec (m : ByteArray) (w0 : World) (hT : Tabs w0) (hs : m.size ≤ 9223372036854775807) :
    Ret Tryd.prog 36 #[.string m] w0 (fun u w => u = .agg (digV m).toArray ∧ Ext w0 w) := by
 refine ret_of_wp (nt := 36) Tryd.func36 rfl rfl rfl (fl := [(0, .string m)]) rfl (fun a S => ?_)
 have H := HSat.start w0
 have H := H.ro0 (TabsA) rfl (hT)
 have hlen := sumS_len m
 refine gsr ?_
 refine wl_of (op_alloc (wn rfl) rfl rfl rfl S H Fzer61 fun b2 a w S H => ?_)
 refine gnt ?_
 refine gsr ?_
 refine wl_of (op_alloc (wn rfl) rfl rfl rfl S H Fzer61 fun b3 a w S H => ?_)
 refine gnt ?_
 refine gsr ?_
 refine ga S fun a S => ?_
 refine gnt ?_
 refine g_seq ?_
 refine gsr ?_
 refine gm S fun a S => ?_
 refine wl_of (op_call (wn rfl) rfl rfl S (co_func rfl Tryd.call40 S rfl) (sum_t _ _ H.tabs (by first | assumption | omega)) fun v w hc a S => ?_)
 obtain ⟨rfl, he⟩ := hc
 have H := H.ext he
 refine wl_of (op_strBytes (wn rfl) rfl rfl rfl Tryd.underlying9 Tryd.underlying64 Tryd.underlying5 S H rfl (by rw [sumS_size]; decide) fun v9 a w S H => ?_)
 refine gy rfl rfl rfl S (y_lens rfl Tryd.underlying64 S H rfl) fun a S => ?_
 refine gm S fun a S => ?_
 refine gnt ?_
 refine g_block ?_
 have H : HSat No w0 [Sl v9 1 encB (sumS m).data.toList, Cel b3 61 (digC (sumN m.data.toList) 0), Cel b2 61 (digC 0 0), TabsA] w := H
 have SU := (((S.nil.cons S 2 rfl).cons S 3 rfl).cons S 9 rfl).cons S 10 rfl
 refine loopW (X := Nat) SU (fun k => [(11, .int .i64 (k : Int)), (4, .int .i64 (restL (sumN m.data.toList) k : Int))]) (fun k w => k ≤ 16 ∧ HSat No w0 [Cel b3 61 (digC (sumN m.data.toList) k), Cel b2 61 (digC 0 0), Sl v9 1 encB (sumS m).data.toList] w) (fun k => 16 - k) 0 ((S.nil.cons S 4 rfl).cons S 11 rfl) (⟨by omega, H.take [Cel b3 61 (digC (sumN m.data.toList) 0), Cel b2 61 (digC 0 0), Sl v9 1 encB (sumS m).data.toList]⟩) (fun k a w S hW => ?_)
 simp only [List.cons_append, List.nil_append] at S
 obtain ⟨hk, H⟩ := hW
 have hrl := restL_le (sumN m.data.toList) k hk
 have hdl := digL_lt (sumN m.data.toList) k
 refine gsr ?_
 refine gy rfl rfl rfl S (y_bin rfl S rfl rfl rfl) fun a S => ?_
 refine gnt ?_
 refine g_seq ?_
 refine c_if S rfl (fun h1 => ?_) (fun h1 => ?_)
 ·have h1p := h1; try simp only [DL] at h1p
  have hk16 : k < 16 := by omega
  refine g_skip ?_
  refine n_then ?_
  refine g_seq ?_
  refine g_block ?_
  refine gsr ?_
  refine gm S fun a S => ?_
  refine gy rfl rfl rfl S (y_iaddrn rfl Tryd.underlying64 Fsiz5 S H rfl rfl (by first | assumption | omega | (simp only [LL]; omega))) fun a S => ?_
  refine gy rfl rfl rfl S ((y_loads v9 rfl Fsca5 S H rfl (by omega) rfl)) fun a S => ?_
  rw [sumS_at m k (by omega)] at S
  refine ga S fun a S => ?_
  refine ga S fun a S => ?_
  refine gnt ?_
  have S := (((((((S.nil.cons S 2 rfl).cons S 3 rfl).cons S 9 rfl).cons S 10 rfl).cons S 4 rfl).cons S 11 rfl).cons S 5 rfl).cons S 6 rfl
  refine gsr ?_
  refine gm S fun a S => ?_
  refine gy rfl rfl rfl S (y_bin rfl S rfl rfl rfl) fun a S => ?_
  refine gnt ?_
  refine c_if S rfl (fun h2 => ?_) (fun h2 => ?_)
  ·have h2p := h2; try simp only [DL] at h2p
   refine gsr ?_
   refine gm S fun a S => ?_
   refine gm S fun a S => ?_
   refine wl_of (op_call (wn rfl) rfl rfl S (co_func rfl Tryd.call51 S rfl) (idx_spec _ (digL_lt _ _) _) fun v w hc a S => ?_)
   obtain ⟨rfl, he⟩ := hc
   have H := H.ext he
   refine gy rfl rfl rfl S (y_iaddra rfl Tryd.underlying61 Fsiz3 S rfl rfl (by omega)) fun a S => ?_
   refine wl_of (op_store (wn rfl) rfl rfl S H rfl rfl rfl Fsiz3 (by rw [digC_len]; simp; omega) fun a w S H => ?_)
   simp only [Int.toNat_natCast, Nat.zero_add, Nat.mul_one] at H
   rw [digC_set (sumN m.data.toList) k hk16] at H
   refine gnt ?_
   have S := ((((((S.nil.cons S 2 rfl).cons S 3 rfl).cons S 9 rfl).cons S 10 rfl).cons S 4 rfl).cons S 11 rfl).cons S 5 rfl
   refine g_region ?_
   refine gm S fun a S => ?_
   refine gm S fun a S => ?_
   refine gy rfl rfl rfl S (y_iaddra rfl Tryd.underlying61 Fsiz3 S rfl rfl (by omega)) fun a S => ?_
   refine gy rfl rfl rfl S ((y_load (v := .int .i64 ((digL (sumN m.data.toList)).getD k 0 : Int)) rfl Fsca3 S H rfl (by have h := digC_get (sumN m.data.toList) k hk16; simpa only [Int.toNat_natCast, Nat.zero_add, Nat.mul_one] using h))) fun a S => ?_
   refine gy rfl rfl rfl S (y_sub rfl S rfl rfl (by omega)) fun a S => ?_
   refine gy rfl rfl rfl S (y_add rfl S rfl rfl (by omega)) fun a S => ?_
   rw [show ((restL (sumN m.data.toList) k : Int) + (15 - ((digL (sumN m.data.toList)).getD k 0 : Int))) = ((restL (sumN m.data.toList) (k + 1) : Nat) : Int) from by rw [restL_s _ _ hk16]; omega] at S
   refine ga S fun a S => ?_
   refine gl_nil ?_
   refine n_block ?_
   refine n_then ?_
   have S := (((((S.nil.cons S 2 rfl).cons S 3 rfl).cons S 9 rfl).cons S 10 rfl).cons S 11 rfl).cons S 4 rfl
   refine g_region ?_
   refine gy rfl rfl rfl S (y_add rfl S rfl rfl (by omega)) fun a S => ?_
   refine gm S fun a S => ?_
   refine gnt ?_
   exact ⟨k + 1, (S.nil.cons S 4 rfl).cons S 11 rfl, (by have S := S; exact (((S.nil.cons S 2 rfl).cons S 3 rfl).cons S 9 rfl).cons S 10 rfl), ⟨by omega, H⟩, by omega⟩
  ·have h2p := h2; try simp only [DL] at h2p
   all_goals (
     exfalso; omega)
 ·have h1p := h1; try simp only [DL] at h1p
  obtain rfl : k = 16 := by omega
  refine g_exit ?_
  refine x_then (x_then (x_eq ?_))
  refine n_then ?_
  have S := ((S.nil.cons S 2 rfl).cons S 3 rfl).cons S 4 rfl
  refine gsr ?_
  refine gm S fun a S => ?_
  refine gy rfl rfl rfl S (y_quon rfl S rfl rfl (by omega) (by omega) (by omega)) fun a S => ?_
  refine gm S fun a S => ?_
  refine gy rfl rfl rfl S (y_remn rfl S rfl rfl (by omega) (by omega)) fun a S => ?_
  refine gy rfl rfl rfl S (y_iaddra rfl Tryd.underlying61 Fsiz3 S rfl rfl (by omega)) fun a S => ?_
  refine wl_of (op_store (wn rfl) rfl rfl S H rfl rfl rfl Fsiz3 (by rw [digC_len]; rfl) fun a w S H => ?_)
  refine gy rfl rfl rfl S (y_iaddra rfl Tryd.underlying61 Fsiz3 S rfl rfl (by omega)) fun a S => ?_
  refine wl_of (op_store (wn rfl) rfl rfl S H rfl rfl rfl Fsiz3 (by rw [List.length_set, digC_len]; rfl) fun a w S H => ?_)
  have e : ((digC (sumN m.data.toList) 16).set 16 (.int .i64 ((restL (sumN m.data.toList) 16 : Int) / 16))).set 17 (.int .i64 ((restL (sumN m.data.toList) 16 : Int) % 16)) = digV m := digV_fin m (sumN m.data.toList) (restL (sumN m.data.toList) 16 / 16) (restL (sumN m.data.toList) 16 % 16) rfl rfl rfl
  change HSat _ _ (Cel b3 61 (((digC (sumN m.data.toList) 16).set 16 (.int .i64 ((restL (sumN m.data.toList) 16 : Int) / 16))).set 17 (.int .i64 ((restL (sumN m.data.toList) 16 : Int) % 16))) :: _) w at H
  rw [e] at H
  refine gnt ?_
  have S := (S.nil.cons S 2 rfl).cons S 3 rfl
  refine gsr ?_
  refine gy rfl rfl rfl S ((y_load0 rfl S H rfl (by rw [digV_len]; exact Fagg61))) fun a S => ?_
  refine wl_of (op_storea (wn rfl) rfl rfl S H rfl rfl (digV_one m) (by rw [digV_len]; exact Fsiz61) (by rw [digV_len]; rfl) (cs' := digV m) (by simp [digV_len, digC_len]) fun a w S H => ?_)
  refine gnt ?_
  refine g_ret ?_
  refine retc rfl S H rfl (by exact Fagg61) ?_
  exact ⟨rfl, H.toExt⟩
end Go.Proofs.YtngocpdmlijnfaaDoor
