/- The walks. No condition. -/
import Derived.Test.YtngocpdmlijnfaaDoorChecked
import Derived.Test.YtngocpdmlijnfaaDoorGwWord
import Derived.Test.YtngocpdmlijnfaaDoorShelf
import Derived.Test.YtngocpdmlijnfaaDoorFacts
import Derived.Test.YtngocpdmlijnfaaDoorPlain
namespace Go.Proofs.YtngocpdmlijnfaaDoor
open Go Go.Gw
set_option linter.unusedVariables false
set_option linter.unusedSimpArgs false
theorem ix0 (p q r s : Value) (w : World) : (Instr.index 101 (.agg #[p, q, r, s]) (.int .i64 0)).run Tryd.prog w = .ok (.agg #[p, q]) w := by kernel_rfl
theorem ix1 (p q r s : Value) (w : World) : (Instr.index 101 (.agg #[p, q, r, s]) (.int .i64 1)).run Tryd.prog w = .ok (.agg #[r, s]) w := by kernel_rfl
theorem mul64 (x y : Nat) (hx : x < 18446744073709551616) (hy : y < 18446744073709551616) (w : World) : Ret Tryd.prog 69 #[.int .u64 (x : Int), .int .u64 (y : Int)] w (fun u w' => u = .tuple #[.int .u64 ((x * y / 18446744073709551616 : Nat) : Int), .int .u64 ((x * y % 18446744073709551616 : Nat) : Int)] ∧ Ext w w') :=
  Calls.mono (Tryd.bits_Mul64 x y hx hy w) fun e w' ⟨h1, h2⟩ => ⟨_, h1, rfl, h2 ▸ Ext.refl w⟩
/-- (*foyer/digest.state).take -/
theorem take_spec {M : Nat → Prop} {u0 : World} {l : List Atom} (pb s c : Nat) (w0 : World) (h0 : HSat M u0 (Cel pb 84 [.int .u64 (s : Int)] :: l) w0) (hs : s < 18446744073709551616) (hc : c < 18446744073709551616) :
    Ret Tryd.prog 55 #[.pointer (some ⟨pb, 0, none⟩), .int .u64 (c : Int)] w0 (fun u w => u = .tuple #[] ∧ HSat M u0 (Cel pb 84 [.int .u64 (take64 s c : Int)] :: l) w) := by
 refine ret_of_wp (nt := 38) Tryd.func55 rfl rfl rfl (fl := [(0, .pointer (some ⟨pb, 0, none⟩)), (1, .int .u64 (c : Int))]) rfl (fun a S => ?_)
 have H := h0
 refine gsr ?_
 refine gm S fun a S => ?_
 refine gy rfl rfl rfl S (y_nilCheck rfl S rfl) fun a S => ?_
 refine gy rfl rfl rfl S (y_load rfl Fsca84 S H rfl rfl) fun a S => ?_
 refine gm S fun a S => ?_
 refine gy rfl rfl rfl S ((y_xoru (m := s) (q := c) rfl S rfl rfl hs hc rfl)) fun a S => ?_
 refine ga S fun a S => ?_
 refine gnt ?_
 have S := (S.nil.cons S 0 rfl).cons S 4 rfl
 refine g_seq ?_
 refine gsr ?_
 refine gy rfl rfl rfl S (y_buildf rfl Fbld100 S rfl (idx := [0, 1]) rfl (cs := [_, _]) rfl) fun a S => ?_
 refine gy rfl rfl rfl S (y_buildf rfl Fbld100 S rfl (idx := [0, 1]) rfl (cs := [_, _]) rfl) fun a S => ?_
 refine gy rfl rfl rfl S (y_buildf rfl Fbld101 S rfl (idx := [0, 1]) rfl (cs := [_, _, _, _]) rfl) fun a S => ?_
 refine gm S fun a S => ?_
 refine gnt ?_
 refine g_block ?_
 rw [← stp0 (s ^^^ c)] at S
 have SU := (S.nil.cons S 0 rfl).cons S 14 rfl
 refine loop_k (X := Nat) SU (fun k => [(4, .int .u64 ((stp k (s ^^^ c) : Nat) : Int)), (15, .int .i64 (k : Int))]) (fun k => k ≤ 2) (fun k => 2 - k) 0 ((S.nil.cons S 15 rfl).cons S 4 rfl) H (by omega) (fun k a w S H hi => ?_)
 simp only [List.cons_append, List.nil_append] at S hi
 refine gsr ?_
 refine gy rfl rfl rfl S (y_bin rfl S rfl rfl rfl) fun a S => ?_
 refine gnt ?_
 refine g_seq ?_
 refine c_if S rfl (fun h1 => ?_) (fun h1 => ?_)
 ·have h1p := h1; try simp only [DL] at h1p
  refine g_skip ?_
  refine n_then ?_
  refine g_seq ?_
  refine g_block ?_
  refine g_seq ?_
  have hkk : k = 0 ∨ k = 1 := by omega
  rcases hkk with rfl | rfl
  ·rw [stp0] at S
   have hx : (s ^^^ c) < 18446744073709551616 := xor_lt hs hc
   have hy : ((s ^^^ c) ^^^ ((s ^^^ c) >>> 32)) < 18446744073709551616 := xor_lt hx (shr_lt hx)
   refine g_region ?_
   refine gy rfl rfl rfl S ((y_index rfl S rfl rfl (ix0 _ _ _ _ _))) fun a S => ?_
   refine wl_of (op_alloc (wn rfl) rfl rfl rfl S H Fzer100 fun b6 a w S H => ?_)
   refine wl_of (op_storea (wn rfl) rfl rfl S H rfl rfl rfl Fsiz100 rfl (cs' := [_, _]) rfl fun a w S H => ?_)
   refine gnt ?_
   refine gsr ?_
   refine gm S fun a S => ?_
   refine gm S fun a S => ?_
   refine gy rfl rfl rfl S (y_iaddra rfl Tryd.underlying100 Fsiz83 S rfl rfl (by omega)) fun a S => ?_
   refine gy rfl rfl rfl S (y_load rfl Fsca83 S H rfl rfl) fun a S => ?_
   refine gy rfl rfl rfl S ((y_shru (m := (s ^^^ c)) (q := 32) rfl S rfl rfl (by decide) rfl)) fun a S => ?_
   refine gy rfl rfl rfl S ((y_xoru (m := (s ^^^ c)) (q := (s ^^^ c) >>> 32) rfl S rfl rfl hx (shr_lt hx) rfl)) fun a S => ?_
   refine ga S fun a S => ?_
   refine gnt ?_
   have S := ((((S.nil.cons S 0 rfl).cons S 14 rfl).cons S 15 rfl).cons S 6 rfl).cons S 4 rfl
   refine g_region ?_
   refine gm S fun a S => ?_
   refine gy rfl rfl rfl S (y_iaddra rfl Tryd.underlying100 Fsiz83 S rfl rfl (by omega)) fun a S => ?_
   refine gy rfl rfl rfl S (y_load rfl Fsca83 S H rfl rfl) fun a S => ?_
   refine wl_of (op_call (wn rfl) rfl rfl S (co_func rfl Tryd.call69 S rfl) (mul64 ((s ^^^ c) ^^^ ((s ^^^ c) >>> 32)) 11400714819323198485 hy (by decide) _) fun v w hc a S => ?_)
   obtain ⟨rfl, he⟩ := hc
   have H := H.ext he
   rw [mixA_def (s ^^^ c)] at S
   refine gm S fun a S => ?_
   refine gy rfl rfl rfl S (y_extract rfl S rfl rfl) fun a S => ?_
   refine gy rfl rfl rfl S (y_extract rfl S rfl rfl) fun a S => ?_
   refine ga S fun a S => ?_
   refine gl_nil ?_
   refine n_block ?_
   refine n_then ?_
   have S := (((S.nil.cons S 0 rfl).cons S 14 rfl).cons S 15 rfl).cons S 4 rfl
   refine g_region ?_
   refine gy rfl rfl rfl S (y_add rfl S rfl rfl (by omega)) fun a S => ?_
   refine gm S fun a S => ?_
   refine gnt ?_
   rw [← stp1 (s ^^^ c)] at S
   exact ⟨1, (S.nil.cons S 15 rfl).cons S 4 rfl, (S.nil.cons S 0 rfl).cons S 14 rfl, H.tail, by omega, by omega⟩
  ·rw [stp1] at S
   have hx : (mixA (s ^^^ c)) < 18446744073709551616 := mixA_lt _
   have hy : ((mixA (s ^^^ c)) ^^^ ((mixA (s ^^^ c)) >>> 29)) < 18446744073709551616 := xor_lt hx (shr_lt hx)
   refine g_region ?_
   refine gy rfl rfl rfl S ((y_index rfl S rfl rfl (ix1 _ _ _ _ _))) fun a S => ?_
   refine wl_of (op_alloc (wn rfl) rfl rfl rfl S H Fzer100 fun b6 a w S H => ?_)
   refine wl_of (op_storea (wn rfl) rfl rfl S H rfl rfl rfl Fsiz100 rfl (cs' := [_, _]) rfl fun a w S H => ?_)
   refine gnt ?_
   refine gsr ?_
   refine gm S fun a S => ?_
   refine gm S fun a S => ?_
   refine gy rfl rfl rfl S (y_iaddra rfl Tryd.underlying100 Fsiz83 S rfl rfl (by omega)) fun a S => ?_
   refine gy rfl rfl rfl S (y_load rfl Fsca83 S H rfl rfl) fun a S => ?_
   refine gy rfl rfl rfl S ((y_shru (m := (mixA (s ^^^ c))) (q := 29) rfl S rfl rfl (by decide) rfl)) fun a S => ?_
   refine gy rfl rfl rfl S ((y_xoru (m := (mixA (s ^^^ c))) (q := (mixA (s ^^^ c)) >>> 29) rfl S rfl rfl hx (shr_lt hx) rfl)) fun a S => ?_
   refine ga S fun a S => ?_
   refine gnt ?_
   have S := ((((S.nil.cons S 0 rfl).cons S 14 rfl).cons S 15 rfl).cons S 6 rfl).cons S 4 rfl
   refine g_region ?_
   refine gm S fun a S => ?_
   refine gy rfl rfl rfl S (y_iaddra rfl Tryd.underlying100 Fsiz83 S rfl rfl (by omega)) fun a S => ?_
   refine gy rfl rfl rfl S (y_load rfl Fsca83 S H rfl rfl) fun a S => ?_
   refine wl_of (op_call (wn rfl) rfl rfl S (co_func rfl Tryd.call69 S rfl) (mul64 ((mixA (s ^^^ c)) ^^^ ((mixA (s ^^^ c)) >>> 29)) 13787848793156543929 hy (by decide) _) fun v w hc a S => ?_)
   obtain ⟨rfl, he⟩ := hc
   have H := H.ext he
   rw [mixB_def (mixA (s ^^^ c))] at S
   refine gm S fun a S => ?_
   refine gy rfl rfl rfl S (y_extract rfl S rfl rfl) fun a S => ?_
   refine gy rfl rfl rfl S (y_extract rfl S rfl rfl) fun a S => ?_
   refine ga S fun a S => ?_
   refine gl_nil ?_
   refine n_block ?_
   refine n_then ?_
   have S := (((S.nil.cons S 0 rfl).cons S 14 rfl).cons S 15 rfl).cons S 4 rfl
   refine g_region ?_
   refine gy rfl rfl rfl S (y_add rfl S rfl rfl (by omega)) fun a S => ?_
   refine gm S fun a S => ?_
   refine gnt ?_
   rw [← stp2 (s ^^^ c)] at S
   exact ⟨2, (S.nil.cons S 15 rfl).cons S 4 rfl, (S.nil.cons S 0 rfl).cons S 14 rfl, H.tail, by omega, by omega⟩
 ·have h1p := h1; try simp only [DL] at h1p
  refine g_exit ?_
  refine x_then (x_then (x_eq ?_))
  refine n_then ?_
  have hk2 : k = 2 := by have := h1p; omega
  rw [hk2, stp2] at S
  ·skip
   refine g_region ?_
   refine gm S fun a S => ?_
   refine gm S fun a S => ?_
   refine gm S fun a S => ?_
   refine gy rfl rfl rfl S ((y_shru (m := (mixB (mixA (s ^^^ c)))) (q := 32) rfl S rfl rfl (by decide) rfl)) fun a S => ?_
   refine gy rfl rfl rfl S ((y_xoru (m := (mixB (mixA (s ^^^ c)))) (q := (mixB (mixA (s ^^^ c))) >>> 32) rfl S rfl rfl (mixB_lt _) (shr_lt (mixB_lt _)) rfl)) fun a S => ?_
   refine gy rfl rfl rfl S (y_nilCheck rfl S rfl) fun a S => ?_
   refine wl_of (op_store (wn rfl) rfl rfl S H rfl rfl rfl Fsiz84 rfl fun a w S H => ?_)
   dsimp only [List.set, Nat.zero_add, Nat.reduceAdd] at H
   refine gl_nil ?_
   refine ret0n rfl S ?_
   rw [take64_def] at H
   exact ⟨rfl, H⟩
/-- foyer/digest.Sum$1 -/
theorem add_spec {M : Nat → Prop} {u0 : World} {l : List Atom} (bb nb sb : Nat) (d : DS) (c : Nat) (w0 : World) (h0 : HSat M u0 (Cel bb 83 [.int .u64 ((d).b : Int)] :: Cel nb 3 [.int .i64 ((d).n : Int)] :: Cel sb 84 [.int .u64 ((d).s : Int)] :: l) w0) (hd : d.ok) (hc : c < 256) :
    Ret Tryd.prog 54 #[.int .u8 (c : Int), .pointer (some ⟨bb, 0, none⟩), .pointer (some ⟨nb, 0, none⟩), .pointer (some ⟨sb, 0, none⟩)] w0 (fun u w => u = .tuple #[] ∧ HSat M u0 (Cel bb 83 [.int .u64 ((d.add c).b : Int)] :: Cel nb 3 [.int .i64 ((d.add c).n : Int)] :: Cel sb 84 [.int .u64 ((d.add c).s : Int)] :: l) w) := by
 refine ret_of_wp (nt := 18) Tryd.func54 rfl rfl rfl (fl := [(0, .int .u8 (c : Int)), (1, .pointer (some ⟨bb, 0, none⟩)), (2, .pointer (some ⟨nb, 0, none⟩)), (3, .pointer (some ⟨sb, 0, none⟩))]) rfl (fun a S => ?_)
 have H := h0
 have hn8 := hd.n
 refine g_seq ?_
 refine region_st (loud := [7]) (tails := [7]) (free := []) [0, 1, 2, 3, 4, 5, 6, 7] [] Fmo (by kernel_rfl) (by kernel_rfl) rfl H ?_
 refine m_w rfl rfl (wn rfl) rfl rfl S (fun w H => y_load rfl Fsca83 S H rfl rfl) fun a S => ?_
 refine m_w rfl rfl (wn rfl) rfl rfl S (fun w H => y_move rfl S rfl) fun a S => ?_
 refine m_w rfl rfl (wn rfl) rfl rfl S (fun w H => (y_convg (k := .u8) (r := (c : Int)) rfl Tryd.underlying5 Tryd.underlying83 S rfl (by rw [IntKind.wrap_u64]; omega))) fun a S => ?_
 refine m_w rfl rfl (wn rfl) rfl rfl S (fun w H => y_load rfl Fsca3 S H rfl rfl) fun a S => ?_
 refine m_w rfl rfl (wn rfl) rfl rfl S (fun w H => (y_muln (m := 8) (q := d.n) rfl S rfl rfl rfl (by omega))) fun a S => ?_
 refine m_w rfl rfl (wn rfl) rfl rfl S (fun w H => (y_shlu (m := c) (q := 8 * d.n) rfl S rfl rfl (by omega) rfl (DS.shl_lt hd hc))) fun a S => ?_
 refine m_w rfl rfl (wn rfl) rfl rfl S (fun w H => (y_oru (m := d.b) (q := c <<< (8 * d.n)) rfl S rfl rfl (DS.b_lt hd) (DS.shl_lt hd hc) rfl)) fun a S => ?_
 refine m_l rfl rfl (fun w H => op_store (wn rfl) rfl rfl S H rfl rfl rfl Fsiz83 rfl fun a w S H => m_tail H rfl ?_)
 dsimp only [List.set, Nat.zero_add, Nat.reduceAdd] at H
 refine m_nil (fun w H => ?_)
 refine n_then ?_
 have S := ((S.nil.cons S 3 rfl).cons S 2 rfl).cons S 1 rfl
 refine gsr ?_
 refine gy rfl rfl rfl S (y_load rfl Fsca3 S H rfl rfl) fun a S => ?_
 refine gy rfl rfl rfl S (y_add rfl S rfl rfl (by omega)) fun a S => ?_
 refine wl_of (op_store (wn rfl) rfl rfl S H rfl rfl rfl Fsiz3 rfl fun a w S H => ?_)
 dsimp only [List.set, Nat.zero_add, Nat.reduceAdd] at H
 refine gnt ?_
 refine gsr ?_
 refine gy rfl rfl rfl S (y_load rfl Fsca3 S H rfl rfl) fun a S => ?_
 refine gy rfl rfl rfl S (y_bin rfl S rfl rfl rfl) fun a S => ?_
 refine gnt ?_
 refine c_if S rfl (fun h1 => ?_) (fun h1 => ?_)
 ·have h1p := h1; try simp only [DL] at h1p
  refine gsr ?_
  refine gy rfl rfl rfl S (y_load rfl Fsca83 S H rfl rfl) fun a S => ?_
  refine wl_of (op_call (wn rfl) rfl rfl S (co_func rfl Tryd.call55 S rfl) (take_spec sb d.s (d.b ||| (c <<< (8 * d.n))) _ (H.takeT [Cel sb 84 [.int .u64 (d.s : Int)]] (Cel bb 83 [.int .u64 ((d.b ||| (c <<< (8 * d.n))) : Int)] :: Cel nb 3 [.int .i64 ((d.n : Int) + 1)] :: l)) hd.s (DS.or64 hd hc)) fun v w hc a S => ?_)
  obtain ⟨rfl, H⟩ := hc
  simp only [List.append_eq, List.nil_append] at H
  have H := H.takeT [Cel bb 83 [.int .u64 ((d.b ||| (c <<< (8 * d.n))) : Int)], Cel nb 3 [.int .i64 ((d.n : Int) + 1)], Cel sb 84 [.int .u64 (take64 d.s (d.b ||| (c <<< (8 * d.n))) : Int)]] l
  simp only [List.cons_append, List.nil_append] at H
  refine gnt ?_
  have S := (S.nil.cons S 2 rfl).cons S 1 rfl
  refine g_region ?_
  refine wl_of (op_store (wn rfl) rfl rfl S H rfl rfl rfl Fsiz83 rfl fun a w S H => ?_)
  dsimp only [List.set, Nat.zero_add, Nat.reduceAdd] at H
  refine wl_of (op_store (wn rfl) rfl rfl S H rfl rfl rfl Fsiz3 rfl fun a w S H => ?_)
  dsimp only [List.set, Nat.zero_add, Nat.reduceAdd] at H
  refine gl_nil ?_
  refine ret0n rfl S ?_
  rw [DS.add_full (by omega)]
  exact ⟨rfl, H⟩
 ·have h1p := h1; try simp only [DL] at h1p
  refine g_skip ?_
  refine ret0n rfl S ?_
  rw [DS.add_part (by omega)]
  dsimp only
  rw [Int.natCast_add]
  exact ⟨rfl, H⟩
theorem slA (b : Nat) (w : World) : (Instr.sliceAt 105 (.pointer (some ⟨b, 0, none⟩)) none none none).run Tryd.prog w = .ok (.slice (some ⟨b, 0, none⟩) 16 16) w := by kernel_rfl
theorem and15 (x : Nat) : x &&& 15 = x % 16 := Nat.and_two_pow_sub_one_eq_mod x 4
/-- (foyer/digest.state).text -/
theorem text_spec (s : Nat) (w0 : World) (hs : s < 18446744073709551616) (T0 : TypeId) (fz : Nat × Nat) (hG : w0.heap[0]? = some (.cells hexTab.toArray T0 fz)) :
    Ret Tryd.prog 56 #[.int .u64 (s : Int)] w0 (fun u w => u = .string (hexS s) ∧ Ext w0 w) := by
 refine ret_of_wp (nt := 21) Tryd.func56 rfl rfl rfl (fl := [(0, .int .u64 (s : Int))]) rfl (fun a S => ?_)
 have H := HSat.start w0
 have H := H.ro0 (Atom.ro (Blk 0 (.cells hexTab.toArray T0 fz))) rfl (hG)
 refine gsr ?_
 refine ga S fun a S => ?_
 refine gnt ?_
 refine gsr ?_
 refine wl_of (op_alloc (wn rfl) rfl rfl rfl S H Fzer105 fun b3 a w S H => ?_)
 refine gnt ?_
 refine g_seq ?_
 refine gsr ?_
 refine gm S fun a S => ?_
 refine gnt ?_
 refine g_block ?_
 have SU := ((S.nil.cons S 0 rfl).cons S 2 rfl).cons S 3 rfl
 refine loopW (X := Nat) SU (fun k => [(5, .int .i64 (k : Int))]) (fun k w => k ≤ 16 ∧ HSat No w0 [Cel b3 105 (hexC s k), Atom.ro (Blk 0 (.cells hexTab.toArray T0 fz))] w) (fun k => 16 - k) 0 (S.nil.cons S 5 rfl) (⟨Nat.zero_le _, H⟩) (fun k a w S hW => ?_)
 simp only [List.cons_append, List.nil_append] at S
 obtain ⟨hk, H⟩ := hW
 refine gsr ?_
 refine gy rfl rfl rfl S (y_bin rfl S rfl rfl rfl) fun a S => ?_
 refine gnt ?_
 refine g_seq ?_
 refine c_if S rfl (fun h1 => ?_) (fun h1 => ?_)
 ·have h1p := h1; try simp only [DL] at h1p
  refine g_skip ?_
  refine n_then ?_
  refine g_seq ?_
  refine g_block ?_
  refine gsr ?_
  refine gm S fun a S => ?_
  refine ga S fun a S => ?_
  refine gnt ?_
  refine g_region ?_
  refine gm S fun a S => ?_
  refine gm S fun a S => ?_
  refine gm S fun a S => ?_
  refine gy rfl rfl rfl S ((y_muln (m := 4) (q := k) rfl S rfl rfl rfl (by omega))) fun a S => ?_
  refine gy rfl rfl rfl S ((y_subn (m := 60 - 4 * k) rfl S rfl rfl (by omega) (by omega))) fun a S => ?_
  refine gy rfl rfl rfl S ((y_shru (m := s) (q := 60 - 4 * k) rfl S rfl rfl (by omega) rfl)) fun a S => ?_
  refine gy rfl rfl rfl S ((y_andu (m := s >>> (60 - 4 * k)) (q := 15) rfl S rfl rfl (shr_lt hs) (by decide) (and15 _))) fun a S => ?_
  refine gy rfl rfl rfl S (y_iaddra rfl Tryd.underlying105 Fsiz5 S rfl rfl (by omega)) fun a S => ?_
  refine gy rfl rfl rfl S ((y_load rfl Fsca5 S H rfl (hexTab_get _ (by simp; omega)))) fun a S => ?_
  refine gy rfl rfl rfl S (y_iaddra rfl Tryd.underlying105 Fsiz5 S rfl rfl (by omega)) fun a S => ?_
  refine wl_of (op_store (wn rfl) rfl rfl S H rfl rfl rfl Fsiz5 (by simp [hexC_len]; omega) fun a w S H => ?_)
  refine gl_nil ?_
  refine n_block ?_
  refine n_then ?_
  have S := (((S.nil.cons S 0 rfl).cons S 2 rfl).cons S 3 rfl).cons S 5 rfl
  refine g_region ?_
  refine gy rfl rfl rfl S (y_add rfl S rfl rfl (by omega)) fun a S => ?_
  refine gm S fun a S => ?_
  refine gnt ?_
  simp only [Int.toNat_natCast, Nat.zero_add, Nat.mul_one] at H
  rw [hexC_set s k (by omega)] at H
  exact ⟨k + 1, S.nil.cons S 5 rfl, ((S.nil.cons S 0 rfl).cons S 2 rfl).cons S 3 rfl, ⟨by omega, H⟩, by omega⟩
 ·have h1p := h1; try simp only [DL] at h1p
  refine g_exit ?_
  refine x_then (x_then (x_eq ?_))
  refine n_then ?_
  refine g_seq ?_
  have hk2 : k = 16 := by have := h1p; omega
  rw [hk2] at H
  ·skip
   refine g_region ?_
   refine gy rfl rfl rfl S ((y_sliceA rfl S rfl (slA _ _))) fun a S => ?_
   refine gy rfl rfl rfl S ((y_bytestr (hexL s) rfl Tryd.underlying64 Tryd.underlying5 Tryd.underlying9 S H rfl (by simp [hexL]) (hexC_get s))) fun a S => ?_
   refine ga S fun a S => ?_
   refine gnt ?_
   have S := S.nil.cons S 2 rfl
   refine g_ret ?_
   refine ret1 rfl S rfl ?_
   exact ⟨rfl, H.toExt⟩
set_option maxHeartbeats 1000000 in
/-- foyer/digest.Sum -/
theorem sum_spec (t : ByteArray) (w0 : World) (T0 : TypeId) (fz : Nat × Nat) (hG : w0.heap[0]? = some (.cells hexTab.toArray T0 fz)) (hs : t.size ≤ 9223372036854775807) :
    Ret Tryd.prog 40 #[.string t] w0 (fun u w => u = .string (sumS t) ∧ Ext w0 w) := by
 refine ret_of_wp (nt := 28) Tryd.func40 rfl rfl rfl (fl := [(0, .string t)]) rfl (fun a S => ?_)
 have H := HSat.start w0
 refine gsr ?_
 refine ga S fun a S => ?_
 refine gnt ?_
 refine gsr ?_
 refine wl_of (op_alloc (wn rfl) rfl rfl rfl S H Fzer84 fun b3 a w S H => ?_)
 refine wl_of (op_store (wn rfl) rfl rfl S H rfl rfl rfl Fsiz84 rfl fun a w S H => ?_)
 dsimp only [List.set, Nat.zero_add, Nat.reduceAdd] at H
 refine gnt ?_
 refine gsr ?_
 refine wl_of (op_alloc (wn rfl) rfl rfl rfl S H Fzer83 fun b4 a w S H => ?_)
 refine wl_of (op_alloc (wn rfl) rfl rfl rfl S H Fzer3 fun b5 a w S H => ?_)
 refine wl_of (op_store (wn rfl) rfl rfl S H rfl rfl rfl Fsiz83 rfl fun a w S H => ?_)
 dsimp only [List.set, Nat.zero_add, Nat.reduceAdd] at H
 refine wl_of (op_store (wn rfl) rfl rfl S H rfl rfl rfl Fsiz3 rfl fun a w S H => ?_)
 dsimp only [List.set, Nat.zero_add, Nat.reduceAdd] at H
 refine gnt ?_
 refine gsr ?_
 refine gy rfl rfl rfl S (y_makeFunc rfl S rfl rfl) fun a S => ?_
 refine ga S fun a S => ?_
 refine gnt ?_
 refine g_seq ?_
 refine gsr ?_
 refine gm S fun a S => ?_
 refine gy rfl rfl rfl S (y_lenstr rfl Tryd.underlying9 S rfl) fun a S => ?_
 refine gm S fun a S => ?_
 refine gnt ?_
 refine g_block ?_
 have SU := (((((S.nil.cons S 0 rfl).cons S 2 rfl).cons S 3 rfl).cons S 5 rfl).cons S 6 rfl).cons S 10 rfl
 refine loopW (X := Nat) SU (fun k => [(11, .int .i64 (k : Int))]) (fun k w => k ≤ t.size ∧ HSat No w0 [Cel b4 83 [.int .u64 (((DS.z.adds (t.data.toList.take k))).b : Int)], Cel b5 3 [.int .i64 (((DS.z.adds (t.data.toList.take k))).n : Int)], Cel b3 84 [.int .u64 (((DS.z.adds (t.data.toList.take k))).s : Int)]] w) (fun k => t.size - k) 0 (S.nil.cons S 11 rfl) (⟨Nat.zero_le _, by rw [show DS.z.adds (t.data.toList.take 0) = DS.z from rfl]; exact H.take [Cel b4 83 [.int .u64 0], Cel b5 3 [.int .i64 0], Cel b3 84 [.int .u64 7046029254386353131]]⟩) (fun k a w S hW => ?_)
 simp only [List.cons_append, List.nil_append] at S
 obtain ⟨hk, H⟩ := hW
 have hd : ((DS.z.adds (t.data.toList.take k))).ok := DS.adds_ok DS.z_ok _
 refine gsr ?_
 refine gy rfl rfl rfl S (y_bin rfl S rfl rfl rfl) fun a S => ?_
 refine gnt ?_
 refine g_seq ?_
 refine c_if S rfl (fun h1 => ?_) (fun h1 => ?_)
 ·have h1p := h1; try simp only [DL] at h1p
  refine g_skip ?_
  refine n_then ?_
  refine g_seq ?_
  refine g_block ?_
  refine gsr ?_
  refine gm S fun a S => ?_
  refine ga S fun a S => ?_
  refine gnt ?_
  refine g_region ?_
  refine gm S fun a S => ?_
  refine gm S fun a S => ?_
  refine gm S fun a S => ?_
  refine gy rfl rfl rfl S (y_idxstr rfl Tryd.underlying9 S rfl rfl (by first | assumption | omega | (simp only [LL]; omega))) fun a S => ?_
  refine wl_of (op_call (wn rfl) rfl rfl S (co_value rfl Tryd.call54 S rfl rfl) (add_spec b4 b5 b3 (DS.z.adds (t.data.toList.take k)) t[k].toNat _ H hd t[k].toNat_lt) fun v w hc a S => ?_)
  obtain ⟨rfl, H⟩ := hc
  
  refine gl_nil ?_
  refine n_block ?_
  refine n_then ?_
  have S := ((((((S.nil.cons S 0 rfl).cons S 2 rfl).cons S 3 rfl).cons S 5 rfl).cons S 6 rfl).cons S 10 rfl).cons S 11 rfl
  refine g_region ?_
  refine gy rfl rfl rfl S (y_add rfl S rfl rfl (by omega)) fun a S => ?_
  refine gm S fun a S => ?_
  refine gnt ?_
  have e := DS.adds_take DS.z t.data.toList k (by simpa using (by omega : k < t.size))
  rw [show t[k].toNat = (t.data.toList[k]'(by simpa using (by omega : k < t.size))).toNat from by simp [ByteArray.getElem_eq_getElem_data], ← e] at H
  exact ⟨k + 1, S.nil.cons S 11 rfl, (((((S.nil.cons S 0 rfl).cons S 2 rfl).cons S 3 rfl).cons S 5 rfl).cons S 6 rfl).cons S 10 rfl, ⟨by omega, H⟩, by omega⟩
 ·have h1p := h1; try simp only [DL] at h1p
  refine g_exit ?_
  refine x_then (x_then (x_eq ?_))
  refine n_then ?_
  have S := (((S.nil.cons S 2 rfl).cons S 3 rfl).cons S 5 rfl).cons S 6 rfl
  refine g_seq ?_
  refine g_seq ?_
  have hk2 : k = t.size := by have := h1p; omega
  have e9 : t.data.toList.take k = t.data.toList := List.take_of_length_le (by simp [hk2])
  rw [e9] at H
  have hd1 : (DS.z.adds t.data.toList).ok := DS.adds_ok DS.z_ok _
  ·skip
   refine g_region ?_
   refine gm S fun a S => ?_
   refine wl_of (op_call (wn rfl) rfl rfl S (co_value rfl Tryd.call54 S rfl rfl) (add_spec b4 b5 b3 (DS.z.adds t.data.toList) 1 _ H hd1 (by decide)) fun v w hc a S => ?_)
   obtain ⟨rfl, H⟩ := hc
   
   refine gnt ?_
   refine g_block ?_
   have SU := (((S.nil.cons S 2 rfl).cons S 3 rfl).cons S 5 rfl).cons S 6 rfl
   refine loopW (X := DS × Nat) SU (fun x => []) (fun x w => x.1.ok ∧ (DS.fill x.2 x.1) = DS.fill 8 ((DS.z.adds t.data.toList).add 1) ∧ (x.1.n ≠ 0 → 8 ≤ x.1.n + x.2) ∧ HSat No w0 [Cel b4 83 [.int .u64 ((x.1).b : Int)], Cel b5 3 [.int .i64 ((x.1).n : Int)], Cel b3 84 [.int .u64 ((x.1).s : Int)]] w) (fun x => x.2) (((DS.z.adds t.data.toList).add 1), 8) (S.nil) (⟨DS.add_ok hd1 (by decide), rfl, fun _ => by dsimp only; omega, H⟩) (fun x a w S hW => ?_)
   simp only [List.cons_append, List.nil_append] at S
   obtain ⟨d, j⟩ := x
   obtain ⟨hd, hf, hj, H⟩ := hW
   dsimp only at S H hd hf hj
   refine g_seq ?_
   refine gsr ?_
   refine gy rfl rfl rfl S (y_load rfl Fsca3 S H rfl rfl) fun a S => ?_
   refine gy rfl rfl rfl S (y_bin rfl S rfl rfl rfl) fun a S => ?_
   refine gnt ?_
   refine c_if S rfl (fun h2 => ?_) (fun h2 => ?_)
   ·have h2p := h2; try simp only [DL] at h2p
    refine g_skip ?_
    refine n_then ?_
    refine g_block ?_
    refine g_region ?_
    refine gm S fun a S => ?_
    refine wl_of (op_call (wn rfl) rfl rfl S (co_value rfl Tryd.call54 S rfl rfl) (add_spec b4 b5 b3 d 0 _ H hd (by decide)) fun v w hc a S => ?_)
    obtain ⟨rfl, H⟩ := hc
    
    refine gl_nil ?_
    refine n_block ?_
    refine n_then ?_
    have hn0 : d.n ≠ 0 := by have := h2p; omega
    have hn8 := hd.n
    have hj8 := hj hn0
    obtain ⟨i, rfl⟩ : ∃ i, j = i + 1 := ⟨j - 1, by omega⟩
    rw [DS.fill_s hn0] at hf
    exact ⟨(d.add 0, i), S.nil, (((S.nil.cons S 2 rfl).cons S 3 rfl).cons S 5 rfl).cons S 6 rfl, ⟨DS.add_ok hd (by decide), hf, fun h => by dsimp only at h ⊢; rw [DS.add_n] at h ⊢; split at h <;> rename_i hh <;> (try rw [if_neg hh]) <;> omega, H⟩, by dsimp only; omega⟩
   ·have h2p := h2; try simp only [DL] at h2p
    refine g_exit ?_
    refine x_then (x_then (x_eq ?_))
    refine n_then ?_
    have S := (S.nil.cons S 2 rfl).cons S 3 rfl
    refine g_seq ?_
    have hn0 : d.n = 0 := by have := h2p; omega
    rw [DS.fill_z hn0] at hf
    have hG2 : ∀ {w : World}, Ext w0 w → w.heap[0]? = some (.cells hexTab.toArray T0 fz) := fun he => (he.block (Array.getElem?_eq_some_iff.1 hG).1).trans hG
    ·skip
     refine g_region ?_
     refine gy rfl rfl rfl S (y_load rfl Fsca84 S H rfl rfl) fun a S => ?_
     refine wl_of (op_call (wn rfl) rfl rfl S (co_func rfl Tryd.call56 S rfl) (text_spec d.s _ hd.s T0 fz (hG2 (H.toExt))) fun v w hc a S => ?_)
     obtain ⟨rfl, he⟩ := hc
     have H := H.ext he
     refine ga S fun a S => ?_
     refine gnt ?_
     have S := S.nil.cons S 2 rfl
     refine g_ret ?_
     refine ret1 rfl S rfl ?_
     exact ⟨by rw [hf]; rfl, H.toExt⟩
end Go.Proofs.YtngocpdmlijnfaaDoor
