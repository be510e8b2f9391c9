/- The walks. No condition. -/
import Derived.Test.YtngocpdmlijnfaaDoorChecked
import Derived.Test.YtngocpdmlijnfaaDoorGwStrApp
import Derived.Test.YtngocpdmlijnfaaDoorShelf
import Derived.Test.YtngocpdmlijnfaaDoorFacts
import Derived.Test.YtngocpdmlijnfaaDoorPlain
import Derived.Test.YtngocpdmlijnfaaDoorW3
namespace Go.Proofs.YtngocpdmlijnfaaDoor
open Go Go.Gw
set_option linter.unusedVariables false
set_option linter.unusedSimpArgs false
theorem tab_ext {w w' : World} (he : Ext w w') (h : Go.Lib.TabIs Tryd.prog w "internal/strconv.uint64pow10" .u64 Go.Lib.pow10Tab) : Go.Lib.TabIs Tryd.prog w' "internal/strconv.uint64pow10" .u64 Go.Lib.pow10Tab := by
  have hn : Tryd.prog.globalNamed "internal/strconv.uint64pow10" = some 2 := by kernel_rfl
  unfold Go.Lib.TabIs World.var? at h ⊢
  rw [hn] at h ⊢
  simp only [Option.bind_some] at h ⊢
  have hlt : 2 < w.heap.size := by
    rcases Nat.lt_or_ge 2 w.heap.size with h2 | h2
    · exact h2
    · rw [Array.getElem?_eq_none h2] at h; cases h
  rw [he.block hlt]; exact h
set_option maxHeartbeats 1000000 in
/-- foyer/digest.List -/
theorem list_spec (va : Value) (xs : List ByteArray) (w0 : World) (T0 : TypeId) (fz : Nat × Nat) (hG : w0.heap[0]? = some (.cells hexTab.toArray T0 fz)) (htab : Go.Lib.TabIs Tryd.prog w0 "internal/strconv.uint64pow10" .u64 Go.Lib.pow10Tab) (ha : IsSl w0 va 1 encS xs) (hb : (joinL xs).length ≤ 140737488355328) :
    Ret Tryd.prog 27 #[va] w0 (fun u w => u = .string (listS xs) ∧ Ext w0 w) := by
 refine ret_of_wp (nt := 22) Tryd.func27 rfl rfl rfl (fl := [(0, va)]) rfl (fun a S => ?_)
 have H := HSat.start w0
 have H := H.ro0 (Sl va 1 encS xs) rfl (ha)
 have hlen := ha.len
 have hsz : (⟨(joinL xs).toArray⟩ : ByteArray).size ≤ 9223372036854775807 := by show (joinL xs).toArray.size ≤ _; rw [List.size_toArray]; omega
 have hG2 : ∀ {w : World}, Ext w0 w → w.heap[0]? = some (.cells hexTab.toArray T0 fz) := fun he => (he.block (Array.getElem?_eq_some_iff.1 hG).1).trans hG
 refine gsr ?_
 refine ga S fun a S => ?_
 refine gnt ?_
 refine gsr ?_
 refine wl_of (op_alloc (wn rfl) rfl rfl rfl S H Fzer68 fun b3 a w S H => ?_)
 refine gnt ?_
 refine g_seq ?_
 refine gsr ?_
 refine gm S fun a S => ?_
 refine gy rfl rfl rfl S (y_lens rfl Tryd.underlying30 S H rfl) fun a S => ?_
 refine gm S fun a S => ?_
 refine gnt ?_
 refine g_block ?_
 have SU := (((S.nil.cons S 2 rfl).cons S 3 rfl).cons S 6 rfl).cons S 7 rfl
 refine loopW (X := Nat × Value) SU (fun x => [(8, .int .i64 (x.1 : Int))]) (fun x w => x.1 ≤ xs.length ∧ HSat No w0 [Cel b3 68 [.pointer (if decide (0 < x.1) = true then some ⟨b3, 0, none⟩ else none), x.2], OSl 5 x.2 1 encB (joinL (xs.take x.1)), Sl va 1 encS xs] w) (fun x => xs.length - x.1) (0, .slice none 0 0) (S.nil.cons S 8 rfl) (⟨Nat.zero_le _, (H.nilO 5 1 encB).take [Cel b3 68 [.pointer none, .slice none 0 0], OSl 5 (.slice none 0 0) 1 encB [], Sl va 1 encS xs]⟩) (fun x a w S hW => ?_)
 simp only [List.cons_append, List.nil_append] at S
 obtain ⟨k, v⟩ := x
 obtain ⟨hk, H⟩ := hW
 dsimp only at S H hk
 refine gsr ?_
 refine gy rfl rfl rfl S (y_bin rfl S rfl rfl rfl) fun a S => ?_
 refine gnt ?_
 refine g_seq ?_
 refine c_if S rfl (fun h1 => ?_) (fun h1 => ?_)
 ·have h1p := h1; try simp only [DL] at h1p
  refine g_skip ?_
  refine n_then ?_
  refine g_seq ?_
  refine g_block ?_
  refine gsr ?_
  refine gy rfl rfl rfl S (y_iaddrn rfl Tryd.underlying30 Fsiz9 S H rfl rfl (by first | assumption | omega | (simp only [LL]; omega))) fun a S => ?_
  refine gy rfl rfl rfl S (y_loads _ rfl Fsca9 S H rfl (by first | assumption | omega | (simp only [LL]; omega)) rfl) fun a S => ?_
  refine ga S fun a S => ?_
  refine gnt ?_
  have hkl : k < xs.length := by have := h1p; omega
  have hle := joinL_le hkl
  have hpl := partL_len xs[k]
  have hit : (⟨(Go.Lib.itoa (xs[k].size : Int)).toArray⟩ : ByteArray).size = (Go.Lib.itoa (xs[k].size : Int)).length := by show (Go.Lib.itoa (xs[k].size : Int)).toArray.size = _; simp
  ·skip
   refine g_region ?_
   refine gm S fun a S => ?_
   refine gy rfl rfl rfl S (y_lenstr rfl Tryd.underlying9 S rfl) fun a S => ?_
   refine wl_of (op_call (wn rfl) rfl rfl S (co_func rfl Tryd.call37 S rfl) (itoa_spec (xs[k].size : Int) (by omega) (by omega) _ (tab_ext H.toExt htab)) fun v w hc a S => ?_)
   obtain ⟨rfl, he⟩ := hc
   have H := H.ext he
   refine gy rfl rfl rfl S (y_adds rfl S rfl rfl (by first | omega | (rw [ByteArray.size_append]; have h1 : (⟨#[58]⟩ : ByteArray).size = 1 := rfl; omega) | (have h1 : (⟨#[58]⟩ : ByteArray).size = 1 := rfl; omega))) fun a S => ?_
   refine gm S fun a S => ?_
   refine gy rfl rfl rfl S (y_adds rfl S rfl rfl (by first | omega | (rw [ByteArray.size_append]; have h1 : (⟨#[58]⟩ : ByteArray).size = 1 := rfl; omega) | (have h1 : (⟨#[58]⟩ : ByteArray).size = 1 := rfl; omega))) fun a S => ?_
   refine wl_of (op_call (wn rfl) rfl rfl S (co_func rfl Tryd.call42 S rfl) (write_spec b3 (decide (0 < k)) v (joinL (xs.take k)) ((⟨(Go.Lib.itoa (xs[k].size : Int)).toArray⟩ : ByteArray) ++ (⟨#[58]⟩ : ByteArray) ++ xs[k]) _ H (by rw [partL_size]; omega) (.inl (by rw [partL_size, partL_len]; omega))) fun v w hc a S => ?_)
   obtain ⟨rfl, v2, hn2, H⟩ := hc
   rw [partL_text, ← joinL_take hkl] at H
   refine gl_nil ?_
   refine n_block ?_
   refine n_then ?_
   have S := ((((S.nil.cons S 2 rfl).cons S 3 rfl).cons S 6 rfl).cons S 7 rfl).cons S 8 rfl
   refine g_region ?_
   refine gy rfl rfl rfl S (y_add rfl S rfl rfl (by first | omega | (rw [ByteArray.size_append]; have h1 : (⟨#[58]⟩ : ByteArray).size = 1 := rfl; omega) | (have h1 : (⟨#[58]⟩ : ByteArray).size = 1 := rfl; omega))) fun a S => ?_
   refine gm S fun a S => ?_
   refine gnt ?_
   exact ⟨(k + 1, v2), S.nil.cons S 8 rfl, (((S.nil.cons S 2 rfl).cons S 3 rfl).cons S 6 rfl).cons S 7 rfl, ⟨by dsimp only; omega, by dsimp only; rw [decide_eq_true (by omega : 0 < k + 1)]; exact H⟩, by dsimp only; omega⟩
 ·have h1p := h1; try simp only [DL] at h1p
  refine g_exit ?_
  refine x_then (x_then (x_eq ?_))
  refine n_then ?_
  have S := (S.nil.cons S 2 rfl).cons S 3 rfl
  refine g_seq ?_
  have hk2 : xs.take k = xs := List.take_of_length_le (by have := h1p; omega)
  rw [hk2] at H
  ·skip
   refine g_region ?_
   refine wl_of (op_call (wn rfl) rfl rfl S (co_func rfl Tryd.call43 S rfl) (string_spec b3 (decide (0 < k)) v (joinL xs) w0 _ (H.take [Cel b3 68 [.pointer (if decide (0 < k) = true then some ⟨b3, 0, none⟩ else none), v], OSl 5 v 1 encB (joinL xs)])) fun v w hc a S => ?_)
   obtain ⟨rfl, he⟩ := hc
   have H := (HSat.start w0).ext he
   refine wl_of (op_call (wn rfl) rfl rfl S (co_func rfl Tryd.call40 S rfl) (sum_spec ⟨(joinL xs).toArray⟩ _ T0 fz (hG2 H.toExt) hsz) fun v w hc a S => ?_)
   obtain ⟨rfl, he⟩ := hc
   have H := H.ext he
   refine ga S fun a S => ?_
   refine gnt ?_
   have S := S.nil.cons S 2 rfl
   refine g_ret ?_
   refine ret1 rfl S rfl ?_
   exact ⟨rfl, H.toExt⟩
end Go.Proofs.YtngocpdmlijnfaaDoor
