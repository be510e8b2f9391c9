/- The walks. No condition. -/
import Derived.Test.YtcgpbalpihkiiaaChecked
import Derived.Test.YtcgpbalpihkiiaaGwIns
import Derived.Test.YtcgpbalpihkiiaaFacts
import Derived.Test.YtcgpbalpihkiiaaPlain
import Derived.Test.YtcgpbalpihkiiaaPlainB
import Derived.Test.YtcgpbalpihkiiaaW5
namespace Go.Proofs.Ytcgpbalpihkiiaa
open Go Go.Gw
set_option linter.unusedVariables false
set_option linter.unusedSimpArgs false
def BookA (b mb : Nat) (s : Bk) (vv : Value × Value) : Atom := Bun (BookL b mb vv.1 vv.2 s)
theorem place_at {M : Nat → Prop} {u0 w0 : World} {l : List Atom} {b mb : Nat} {s : Bk} {vv : Value × Value} (o : Ord) {N : Nat} (hi : Inv s N) (hN : N ≤ 1000) (ho : o.ok) (h0 : HSat M u0 (BookA b mb s vv :: l) w0) :
    Ret Try.prog 13 #[.pointer (some ⟨b, 0, none⟩), .agg (Ord.enc o).toArray] w0 (fun u w => u = .tuple #[.agg (Trd.enc (placeR s o).1).toArray, .bool (placeR s o).2.1, .int .i64 (placeR s o).2.2] ∧ ∃ z, HSat M u0 (BookA b mb (placeS s o) z :: l) w) := by
  have hl := hi.len
  refine Ret.mono (place_spec b mb vv.1 vv.2 s o w0 h0.unfold ho (by omega) (by omega) hi.srt) (fun u w h => ?_)
  obtain ⟨e, vo, vb, H⟩ := h
  exact ⟨e, (vo, vb), HSat.fold (ls := BookL b mb vo vb (placeS s o)) H (BookL_own _ _ _ _ _)⟩
theorem cancel_at {M : Nat → Prop} {u0 w0 : World} {l : List Atom} {b mb : Nat} {s : Bk} {vv : Value × Value} (i : Int) (p : ByteArray) {N : Nat} (hi : Inv s N) (hN : N ≤ 1000) (h0 : HSat M u0 (BookA b mb s vv :: l) w0) :
    Ret Try.prog 11 #[.pointer (some ⟨b, 0, none⟩), .int .i64 i, .string p] w0 (fun u w => u = .int .i64 (cancelR s i p) ∧ ∃ z, HSat M u0 (BookA b mb (cancelS s i p) z :: l) w) := by
  have hl := hi.len
  refine Ret.mono (cancel_spec b mb vv.1 vv.2 s i p w0 h0.unfold (by omega) (by omega)) (fun u w h => ?_)
  obtain ⟨e, vo, vb, H⟩ := h
  exact ⟨e, (vo, vb), HSat.fold (ls := BookL b mb vo vb (cancelS s i p)) H (BookL_own _ _ _ _ _)⟩
theorem orders_at {M : Nat → Prop} {u0 w0 : World} {l : List Atom} {b mb : Nat} {s : Bk} {vv : Value × Value} {N : Nat} (hi : Inv s N) (hN : N ≤ 1000) (h0 : HSat M u0 (BookA b mb s vv :: l) w0) :
    Ret Try.prog 16 #[.pointer (some ⟨b, 0, none⟩)] w0 (fun u w => HSat No w0 [OSl 29 u 5 Ord.enc (s.offers ++ s.bids)] w) := by
  have hl := hi.len
  exact orders_spec b mb vv.1 vv.2 s w0 h0.unfold (by omega) (by omega)
theorem new_at (w0 : World) : Ret Try.prog 9 #[] w0 (fun u w => ∃ b mb, u = .pointer (some ⟨b, 0, none⟩) ∧ HSat No w0 [BookA b mb Bk.z (.slice none 0 0, .slice none 0 0)] w) :=
  Ret.mono (new_spec w0) (fun u w ⟨b, mb, e, H⟩ => ⟨b, mb, e, HSat.fold (ls := BookL b mb _ _ Bk.z) (by rw [List.append_nil]; exact H) (BookL_own _ _ _ _ _)⟩)
def ordr (i p : Int) (sell : Bool) (n : ByteArray) : Ord := ⟨i, p, sell, n, if sell = true then i else 0⟩
/-- foyer/foyerlaw33.order -/
theorem order_spec (i p : Int) (sell : Bool) (n : ByteArray) (w0 : World) :
    Ret Try.prog 22 #[.int .i64 i, .int .i64 p, .bool sell, .string n] w0 (fun u w => u = .agg (Ord.enc (ordr i p sell n)).toArray ∧ Ext w0 w) := by
 refine ret_of_wp (nt := 19) Try.func22 rfl rfl rfl (fl := [(0, .int .i64 i), (1, .int .i64 p), (2, .bool sell), (3, .string n)]) rfl (fun a S => ?_)
 have H := HSat.start w0
 refine gsr ?_
 refine wl_of (op_alloc (wn rfl) rfl rfl rfl S H Fzer29 fun b8 a w S H => ?_)
 refine gnt ?_
 refine gsr ?_
 refine gm S fun a S => ?_
 refine gm S fun a S => ?_
 refine gm S fun a S => ?_
 refine gm S fun a S => ?_
 refine gy rfl rfl rfl S (y_buildf rfl Fbld29 S rfl (idx := [0, 1, 2, 3]) rfl (cs := [.int .i64 i, .int .i64 p, .bool sell, .string n, .int .i64 0]) (by kernel_rfl)) fun a S => ?_
 refine wl_of (op_alloc (wn rfl) rfl rfl rfl S H Fzer29 fun b9 a w S H => ?_)
 refine wl_of (op_storea (wn rfl) rfl rfl S H rfl rfl rfl Fsiz29 rfl (cs' := [_, _, _, _, _]) rfl fun a w S H => ?_)
 refine gnt ?_
 have S := (((S.nil.cons S 2 rfl).cons S 0 rfl).cons S 8 rfl).cons S 9 rfl
 refine g_seq ?_
 refine gsr ?_
 refine gm S fun a S => ?_
 refine gnt ?_
 refine c_if S rfl (fun h1 => ?_) (fun h1 => ?_)
 ·have h1p := h1; try simp only [DL] at h1p
  refine g_region ?_
  refine gm S fun a S => ?_
  refine gy rfl rfl rfl S (y_faddrb rfl Ffo29_4 S rfl) fun a S => ?_
  refine wl_of (op_store (wn rfl) rfl rfl S H rfl rfl rfl Fsiz3 rfl fun a w S H => ?_)
  dsimp only [List.set, Nat.zero_add, Nat.reduceAdd] at H
  refine gnt ?_
  have S := (S.nil.cons S 8 rfl).cons S 9 rfl
  refine gsr ?_
  refine gy rfl rfl rfl S (y_load0 rfl S H rfl (by exact Fagg29)) fun a S => ?_
  refine wl_of (op_storea (wn rfl) rfl rfl S H rfl rfl rfl Fsiz29 rfl (cs' := [_, _, _, _, _]) rfl fun a w S H => ?_)
  refine gnt ?_
  refine g_ret ?_
  refine retc rfl S H rfl (by exact Fagg29) ?_
  obtain rfl : sell = true := h1
  exact ⟨rfl, H.toExt⟩
 ·have h1p := h1; try simp only [DL] at h1p
  refine g_skip ?_
  refine n_then ?_
  refine gsr ?_
  refine gy rfl rfl rfl S (y_load0 rfl S H rfl (by exact Fagg29)) fun a S => ?_
  refine wl_of (op_storea (wn rfl) rfl rfl S H rfl rfl rfl Fsiz29 rfl (cs' := [_, _, _, _, _]) rfl fun a w S H => ?_)
  refine gnt ?_
  have S := S.nil.cons S 8 rfl
  refine g_ret ?_
  refine retc rfl S H rfl (by exact Fagg29) ?_
  obtain rfl : sell = false := h1
  exact ⟨rfl, H.toExt⟩
set_option maxHeartbeats 1000000 in
/-- foyer/foyerlaw33.do -/
theorem do_spec {M : Nat → Prop} {u0 : World} {l : List Atom} (b mb : Nat) (s : Bk) (vv : Value × Value) (v : Value) (ps : List Opn) (N : Nat) (w0 : World) (h0 : HSat M u0 (BookA b mb s vv :: l) w0) [hv : HasSl l v 6 Opn Opn.enc ps] (hok : ∀ p ∈ ps, p.ok) (hi : Inv s N) (hN : N + ps.length ≤ 500) :
    Ret Try.prog 18 #[.pointer (some ⟨b, 0, none⟩), v] w0 (fun u w => True ∧ ∃ z, HSat M u0 (BookA b mb (runs s ps) z :: l) w) := by
 refine ret_of_wp (nt := 37) Try.func18 rfl rfl rfl (fl := [(0, .pointer (some ⟨b, 0, none⟩)), (1, v)]) rfl (fun a S => ?_)
 have H := h0
 have hlv := (H.sl v).len
 refine gsr ?_
 refine ga S fun a S => ?_
 refine gnt ?_
 refine g_block ?_
 have SU := (S.nil.cons S 1 rfl).cons S 0 rfl
 refine loopW (X := Nat × Value × Value) SU (fun x => [(4, .int .i64 (x.1 : Int))]) (fun x w => x.1 ≤ ps.length ∧ HSat M u0 (BookA b mb (runs s (ps.take x.1)) x.2 :: l) w) (fun x => ps.length - x.1) (0, vv) (S.nil.cons S 4 rfl) (⟨Nat.zero_le _, H⟩) (fun x a w S hW => ?_)
 simp only [List.cons_append, List.nil_append] at S
 obtain ⟨k, vk⟩ := x
 obtain ⟨hk, H⟩ := hW
 dsimp only at S H hk
 refine g_seq ?_
 refine gsr ?_
 refine gm S fun a S => ?_
 refine gm S fun a S => ?_
 refine gy rfl rfl rfl S (y_lens rfl Try.underlying22 S H rfl) fun a S => ?_
 refine gy rfl rfl rfl S (y_bin rfl S rfl rfl rfl) fun a S => ?_
 refine gnt ?_
 refine c_if S rfl (fun h1 => ?_) (fun h1 => ?_)
 ·have h1p := h1; try simp only [DL] at h1p
  have hkl : k < ps.length := by omega
  have hrt := runs_take (s := s) hkl
  have hik := (inv_runs hi (ps.take k)).mono (N' := 500) (by rw [List.length_take]; omega)
  refine g_skip ?_
  refine n_then ?_
  have S := ((S.nil.cons S 1 rfl).cons S 0 rfl).cons S 4 rfl
  refine g_seq ?_
  refine g_block ?_
  refine gsr ?_
  refine gm S fun a S => ?_
  refine gm S fun a S => ?_
  refine gy rfl rfl rfl S (y_iaddrn rfl Try.underlying22 Fsiz31 S H rfl rfl (by first | assumption | omega | (simp only [LL]; omega))) fun a S => ?_
  refine gy rfl rfl rfl S (y_faddr rfl Ffo31_0 S rfl) fun a S => ?_
  refine gy rfl rfl rfl S (y_loadsf _ rfl Fsca4 S H rfl (by first | assumption | omega | (simp only [LL]; omega)) rfl) fun a S => ?_
  refine gnt ?_
  have S := (((S.nil.cons S 1 rfl).cons S 0 rfl).cons S 4 rfl).cons S 15 rfl
  refine c_if S rfl (fun h2 => ?_) (fun h2 => ?_)
  ·have h2p := h2; try simp only [DL] at h2p
   have hst : stepB (runs s (ps.take k)) ps[k] = cancelS (runs s (ps.take k)) ps[k].ord.id ps[k].ord.person := by rw [stepB, if_pos h2]
   refine region_st (loud := [13]) (tails := [13]) (free := []) [0, 1, 2, 3, 4, 5, 6, 7, 8, 9, 10, 11, 12, 13] [] Fmo (by kernel_rfl) (by kernel_rfl) rfl H ?_
   refine m_w rfl rfl (wn rfl) rfl rfl S (fun w H => y_move rfl S rfl) fun a S => ?_
   refine m_w rfl rfl (wn rfl) rfl rfl S (fun w H => y_move rfl S rfl) fun a S => ?_
   refine m_w rfl rfl (wn rfl) rfl rfl S (fun w H => y_move rfl S rfl) fun a S => ?_
   refine m_w rfl rfl (wn rfl) rfl rfl S (fun w H => y_iaddrn rfl Try.underlying22 Fsiz31 S H rfl rfl (by first | assumption | omega | (simp only [LL]; omega))) fun a S => ?_
   refine m_w rfl rfl (wn rfl) rfl rfl S (fun w H => y_faddr rfl Ffo31_1 S rfl) fun a S => ?_
   refine m_w rfl rfl (wn rfl) rfl rfl S (fun w H => y_faddr rfl Ffo29_0 S rfl) fun a S => ?_
   refine m_loadsff _ rfl rfl (wn rfl) rfl rfl S rfl Fsca3 rfl (by first | assumption | omega | (simp only [LL]; omega)) rfl fun a S => ?_
   refine m_w rfl rfl (wn rfl) rfl rfl S (fun w H => y_move rfl S rfl) fun a S => ?_
   refine m_w rfl rfl (wn rfl) rfl rfl S (fun w H => y_move rfl S rfl) fun a S => ?_
   refine m_w rfl rfl (wn rfl) rfl rfl S (fun w H => y_iaddrn rfl Try.underlying22 Fsiz31 S H rfl rfl (by first | assumption | omega | (simp only [LL]; omega))) fun a S => ?_
   refine m_w rfl rfl (wn rfl) rfl rfl S (fun w H => y_faddr rfl Ffo31_1 S rfl) fun a S => ?_
   refine m_w rfl rfl (wn rfl) rfl rfl S (fun w H => y_faddr rfl Ffo29_3 S rfl) fun a S => ?_
   refine m_loadsff _ rfl rfl (wn rfl) rfl rfl S rfl Fsca9 rfl (by first | assumption | omega | (simp only [LL]; omega)) rfl fun a S => ?_
   refine m_l rfl rfl (fun w H => op_call (wn rfl) rfl rfl S (co_func rfl Try.call11 S rfl) (cancel_at ps[k].ord.id ps[k].ord.person hik (by omega) H) fun v w hc a S => ?_)
   obtain ⟨rfl, z, H⟩ := hc
   
   refine m_tail H rfl ?_
   refine m_nil (fun w H => ?_)
   refine n_block ?_
   refine n_then ?_
   have S := ((S.nil.cons S 1 rfl).cons S 0 rfl).cons S 4 rfl
   refine g_region ?_
   refine gm S fun a S => ?_
   refine gy rfl rfl rfl S (y_add rfl S rfl rfl (by omega)) fun a S => ?_
   refine ga S fun a S => ?_
   refine gnt ?_
   rw [← hst, ← hrt] at H
   exact ⟨(k + 1, z), S.nil.cons S 4 rfl, (S.nil.cons S 1 rfl).cons S 0 rfl, ⟨by dsimp only; omega, H⟩, by dsimp only; omega⟩
  ·have h2p := h2; try simp only [DL] at h2p
   have hst : stepB (runs s (ps.take k)) ps[k] = placeS (runs s (ps.take k)) ps[k].ord := by rw [stepB, if_neg (by rw [show ps[k].cancel = false from h2]; simp)]
   refine g_region ?_
   refine gm S fun a S => ?_
   refine gm S fun a S => ?_
   refine gm S fun a S => ?_
   refine gy rfl rfl rfl S (y_iaddrn rfl Try.underlying22 Fsiz31 S H rfl rfl (by first | assumption | omega | (simp only [LL]; omega))) fun a S => ?_
   refine gy rfl rfl rfl S (y_faddr rfl Ffo31_1 S rfl) fun a S => ?_
   refine gy rfl rfl rfl S (y_loadsfa v rfl S H rfl (vs := Ord.enc ps[k].ord) (by exact Fagg29) (by omega) rfl) fun a S => ?_
   refine wl_of (op_call (wn rfl) rfl rfl S (co_func rfl Try.call13 S rfl) (place_at ps[k].ord hik (by omega) (hok _ (List.getElem_mem hkl)) H) fun v w hc a S => ?_)
   obtain ⟨rfl, z, H⟩ := hc
   
   refine gl_nil ?_
   refine n_block ?_
   refine n_then ?_
   have S := ((S.nil.cons S 1 rfl).cons S 0 rfl).cons S 4 rfl
   refine g_region ?_
   refine gm S fun a S => ?_
   refine gy rfl rfl rfl S (y_add rfl S rfl rfl (by omega)) fun a S => ?_
   refine ga S fun a S => ?_
   refine gnt ?_
   rw [← hst, ← hrt] at H
   exact ⟨(k + 1, z), S.nil.cons S 4 rfl, (S.nil.cons S 1 rfl).cons S 0 rfl, ⟨by dsimp only; omega, H⟩, by dsimp only; omega⟩
 ·have h1p := h1; try simp only [DL] at h1p
  obtain rfl : k = ps.length := by omega
  rw [List.take_length] at H
  refine g_exit ?_
  refine x_then (x_then (x_eq ?_))
  refine ret0n rfl S ?_
  exact ⟨trivial, _, H⟩
end Go.Proofs.Ytcgpbalpihkiiaa
