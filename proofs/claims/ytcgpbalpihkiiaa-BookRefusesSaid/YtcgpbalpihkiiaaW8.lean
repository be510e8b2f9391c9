/- The walks. No condition. -/
import Derived.Test.YtcgpbalpihkiiaaChecked
import Derived.Test.YtcgpbalpihkiiaaGwIns
import Derived.Test.YtcgpbalpihkiiaaFacts
import Derived.Test.YtcgpbalpihkiiaaPlain
import Derived.Test.YtcgpbalpihkiiaaPlainB
import Derived.Test.YtcgpbalpihkiiaaW5
namespace Go.Proofs.Ytcgpbalpihkiiaa
open Go Go.Gw
set_option linter.unusedVariables false
set_option linter.unusedSimpArgs false
def BookA (b mb : Nat) (s : Bk) (vv : Value × Value) : Atom := Bun (BookL b mb vv.1 vv.2 s)
theorem place_at {M : Nat → Prop} {u0 w0 : World} {l : List Atom} {b mb : Nat} {s : Bk} {vv : Value × Value} (o : Ord) {N : Nat} (hi : Inv s N) (hN : N ≤ 1000) (ho : o.ok) (h0 : HSat M u0 (BookA b mb s vv :: l) w0) :
    Ret Try.prog 13 #[.pointer (some ⟨b, 0, none⟩), .agg (Ord.enc o).toArray] w0 (fun u w => u = .tuple #[.agg (Trd.enc (placeR s o).1).toArray, .bool (placeR s o).2.1, .int .i64 (placeR s o).2.2] ∧ ∃ z, HSat M u0 (BookA b mb (placeS s o) z :: l) w) := by
  have hl := hi.len
  refine Ret.mono (place_spec b mb vv.1 vv.2 s o w0 h0.unfold ho (by omega) (by omega) hi.srt) (fun u w h => ?_)
  obtain ⟨e, vo, vb, H⟩ := h
  exact ⟨e, (vo, vb), HSat.fold (ls := BookL b mb vo vb (placeS s o)) H (BookL_own _ _ _ _ _)⟩
theorem cancel_at {M : Nat → Prop} {u0 w0 : World} {l : List Atom} {b mb : Nat} {s : Bk} {vv : Value × Value} (i : Int) (p : ByteArray) {N : Nat} (hi : Inv s N) (hN : N ≤ 1000) (h0 : HSat M u0 (BookA b mb s vv :: l) w0) :
    Ret Try.prog 11 #[.pointer (some ⟨b, 0, none⟩), .int .i64 i, .string p] w0 (fun u w => u = .int .i64 (cancelR s i p) ∧ ∃ z, HSat M u0 (BookA b mb (cancelS s i p) z :: l) w) := by
  have hl := hi.len
  refine Ret.mono (cancel_spec b mb vv.1 vv.2 s i p w0 h0.unfold (by omega) (by omega)) (fun u w h => ?_)
  obtain ⟨e, vo, vb, H⟩ := h
  exact ⟨e, (vo, vb), HSat.fold (ls := BookL b mb vo vb (cancelS s i p)) H (BookL_own _ _ _ _ _)⟩
theorem orders_at {M : Nat → Prop} {u0 w0 : World} {l : List Atom} {b mb : Nat} {s : Bk} {vv : Value × Value} {N : Nat} (hi : Inv s N) (hN : N ≤ 1000) (h0 : HSat M u0 (BookA b mb s vv :: l) w0) :
    Ret Try.prog 16 #[.pointer (some ⟨b, 0, none⟩)] w0 (fun u w => HSat No w0 [OSl 29 u 5 Ord.enc (s.offers ++ s.bids)] w) := by
  have hl := hi.len
  exact orders_spec b mb vv.1 vv.2 s w0 h0.unfold (by omega) (by omega)
theorem new_at (w0 : World) : Ret Try.prog 9 #[] w0 (fun u w => ∃ b mb, u = .pointer (some ⟨b, 0, none⟩) ∧ HSat No w0 [BookA b mb Bk.z (.slice none 0 0, .slice none 0 0)] w) :=
  Ret.mono (new_spec w0) (fun u w ⟨b, mb, e, H⟩ => ⟨b, mb, e, HSat.fold (ls := BookL b mb _ _ Bk.z) (by rw [List.append_nil]; exact H) (BookL_own _ _ _ _ _)⟩)
def ordr (i p : Int) (sell : Bool) (n : ByteArray) : Ord := ⟨i, p, sell, n, if sell = true then i else 0⟩
/-- foyer/foyerlaw33.order -/
theorem order_spec (i p : Int) (sell : Bool) (n : ByteArray) (w0 : World) :
    Ret Try.prog 22 #[.int .i64 i, .int .i64 p, .bool sell, .string n] w0 (fun u w => u = .agg (Ord.enc (ordr i p sell n)).toArray ∧ Ext w0 w) := by
 refine ret_of_wp (nt := 19) Try.func22 rfl rfl rfl (fl := [(0, .int .i64 i), (1, .int .i64 p), (2, .bool sell), (3, .string n)]) rfl (fun a S => ?_)
 have H := HSat.start w0
 refine gsr ?_
 refine wl_of (op_alloc (wn rfl) rfl rfl rfl S H Fzer29 fun b8 a w S H => ?_)
 refine gnt ?_
 refine gsr ?_
 refine gm S fun a S => ?_
 refine gm S fun a S => ?_
 refine gm S fun a S => ?_
 refine gm S fun a S => ?_
 refine gy rfl rfl rfl S (y_buildf rfl Fbld29 S rfl (idx := [0, 1, 2, 3]) rfl (cs := [.int .i64 i, .int .i64 p, .bool sell, .string n, .int .i64 0]) (by kernel_rfl)) fun a S => ?_
 refine wl_of (op_alloc (wn rfl) rfl rfl rfl S H Fzer29 fun b9 a w S H => ?_)
 refine wl_of (op_storea (wn rfl) rfl rfl S H rfl rfl rfl Fsiz29 rfl (cs' := [_, _, _, _, _]) rfl fun a w S H => ?_)
 refine gnt ?_
 have S := (((S.nil.cons S 2 rfl).cons S 0 rfl).cons S 8 rfl).cons S 9 rfl
 refine g_seq ?_
 refine gsr ?_
 refine gm S fun a S => ?_
 refine gnt ?_
 refine c_if S rfl (fun h1 => ?_) (fun h1 => ?_)
 ·have h1p := h1; try simp only [DL] at h1p
  refine g_region ?_
  refine gm S fun a S => ?_
  refine gy rfl rfl rfl S (y_faddrb rfl Ffo29_4 S rfl) fun a S => ?_
  refine wl_of (op_store (wn rfl) rfl rfl S H rfl rfl rfl Fsiz3 rfl fun a w S H => ?_)
  dsimp only [List.set, Nat.zero_add, Nat.reduceAdd] at H
  refine gnt ?_
  have S := (S.nil.cons S 8 rfl).cons S 9 rfl
  refine gsr ?_
  refine gy rfl rfl rfl S (y_load0 rfl S H rfl (by exact Fagg29)) fun a S => ?_
  refine wl_of (op_storea (wn rfl) rfl rfl S H rfl rfl rfl Fsiz29 rfl (cs' := [_, _, _, _, _]) rfl fun a w S H => ?_)
  refine gnt ?_
  refine g_ret ?_
  refine retc rfl S H rfl (by exact Fagg29) ?_
  obtain rfl : sell = true := h1
  exact ⟨rfl, H.toExt⟩
 ·have h1p := h1; try simp only [DL] at h1p
  refine g_skip ?_
  refine n_then ?_
  refine gsr ?_
  refine gy rfl rfl rfl S (y_load0 rfl S H rfl (by exact Fagg29)) fun a S => ?_
  refine wl_of (op_storea (wn rfl) rfl rfl S H rfl rfl rfl Fsiz29 rfl (cs' := [_, _, _, _, _]) rfl fun a w S H => ?_)
  refine gnt ?_
  have S := S.nil.cons S 8 rfl
  refine g_ret ?_
  refine retc rfl S H rfl (by exact Fagg29) ?_
  obtain rfl : sell = false := h1
  exact ⟨rfl, H.toExt⟩
end Go.Proofs.Ytcgpbalpihkiiaa
