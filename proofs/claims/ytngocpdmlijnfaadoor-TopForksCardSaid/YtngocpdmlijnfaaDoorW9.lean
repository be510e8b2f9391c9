/- The walks. No condition. -/
import Derived.Test.YtngocpdmlijnfaaDoorChecked
import Derived.Test.YtngocpdmlijnfaaDoorGwStrB
import Derived.Test.YtngocpdmlijnfaaDoorShelf
import Derived.Test.YtngocpdmlijnfaaDoorFacts
import Derived.Test.YtngocpdmlijnfaaDoorPlain
import Derived.Test.YtngocpdmlijnfaaDoorW8
import Derived.Test.YtngocpdmlijnfaaDoorPlainC
namespace Go.Proofs.YtngocpdmlijnfaaDoor
open Go Go.Gw
set_option linter.unusedVariables false
set_option linter.unusedSimpArgs false
theorem y_quoU {P : Program} {o : Oper} {n : Sz} {fl : Slots} {a : Act} {w : World} {T U : TypeId} {x y : Operand} {m q : Nat} (ho : o.op = .binOp .quo T x y U) (S : St n fl a) (hx : ev fl x = some (.int .u64 (m : Int))) (hy : ev fl y = some (.int .u64 (q : Int))) (hq : 0 < q) (hm : m < 18446744073709551616) : Yld P o a w (.int .u64 ((m / q : Nat) : Int)) := by
  unfold Yld execOp; rw [ho]; simp only [S.ev hx, S.ev hy]
  have h1 : (m : Int).tdiv (q : Int) = ((m / q : Nat) : Int) := rfl
  have h2 : IntKind.u64.wrap ((m / q : Nat) : Int) = ((m / q : Nat) : Int) := by
    have h : m / q ≤ m := Nat.div_le_self _ _
    generalize m / q = r at h ⊢
    rw [IntKind.wrap_u64]
    omega
  have h3 : q ≠ 0 := by omega
  rw [Int.natCast_ediv] at h2
  simp [eqGuard, binOp, Op.intDiv, h3, h2]
/-- foyer/foyerref30.decimal -/
theorem decimal_step (k : Nat) (ih : ∀ (n : Int) (w : World), -9223372036854775808 ≤ n → n ≤ 9223372036854775807 → okD k n → Ret Tryd.prog 39 #[.int .i64 n] w (fun u w' => u = .string (decF k n) ∧ Ext w w')) (n : Int) (w0 : World) (h0 : -9223372036854775808 ≤ n) (h1 : n ≤ 9223372036854775807) (hn : okD (k + 1) n) (hk : k ≤ 20) :
    Ret Tryd.prog 39 #[.int .i64 n] w0 (fun u w => u = .string (decF (k + 1) n) ∧ Ext w0 w) := by
 refine ret_of_wp (nt := 39) Tryd.func39 rfl rfl rfl (fl := [(0, .int .i64 n)]) rfl (fun a S => ?_)
 have H := HSat.start w0
 have hsz : ∀ m, (decF k m).size ≤ 1048576 := fun m => Nat.le_trans (decF_size k m) (Nat.le_trans (Nat.pow_le_pow_right (by decide) hk) (by decide))
 have h45 : (⟨#[45]⟩ : ByteArray).size = 1 := rfl
 refine gsr ?_
 refine ga S fun a S => ?_
 refine gnt ?_
 refine g_seq ?_
 refine gsr ?_
 refine gm S fun a S => ?_
 refine gy rfl rfl rfl S (y_bin rfl S rfl rfl rfl) fun a S => ?_
 refine gnt ?_
 refine c_if S rfl (fun h1 => ?_) (fun h1 => ?_)
 ·have h1p := h1; try simp only [DL] at h1p
  have hneg : n < 0 := by simpa using h1
  refine g_seq ?_
  refine gsr ?_
  refine gm S fun a S => ?_
  refine gy rfl rfl rfl S ((y_quo rfl S rfl rfl (by decide) (by rw [tdiv10 hneg]; omega))) fun a S => ?_
  refine gy rfl rfl rfl S (y_bin rfl S rfl rfl rfl) fun a S => ?_
  refine gnt ?_
  have S := ((S.nil.cons S 0 rfl).cons S 2 rfl).cons S 8 rfl
  refine c_if S rfl (fun h2 => ?_) (fun h2 => ?_)
  ·have h2p := h2; try simp only [DL] at h2p
   have hq0 : n.tdiv 10 = 0 := by simpa using h2
   have hlt : -10 < n := by have hq := hq0; rw [tdiv10 hneg] at hq; omega
   refine gsr ?_
   refine gm S fun a S => ?_
   refine gy rfl rfl rfl S ((y_neg rfl S rfl (by omega))) fun a S => ?_
   refine wl_of (op_call (wn rfl) rfl rfl S (co_func rfl Tryd.call39 S rfl) (ih (-n) _ (by omega) (by omega) (okD_neg hn hneg)) fun v w hc a S => ?_)
   obtain ⟨rfl, he⟩ := hc
   have H := H.ext he
   refine gy rfl rfl rfl S ((y_adds rfl S rfl rfl (by have := hsz (-n); omega))) fun a S => ?_
   refine ga S fun a S => ?_
   refine gnt ?_
   have S := (S.nil.cons S 0 rfl).cons S 2 rfl
   refine g_ret ?_
   refine r_then (r_then (ret1 rfl S rfl ?_))
   exact ⟨by rw [decF_s, if_pos hneg, if_pos hq0], H.toExt⟩
  ·have h2p := h2; try simp only [DL] at h2p
   have hq0 : n.tdiv 10 ≠ 0 := by simpa using h2
   have hlt : n < -9 := by have hq := hq0; rw [tdiv10 hneg] at hq; omega
   refine g_skip ?_
   refine n_then ?_
   refine gsr ?_
   refine gm S fun a S => ?_
   refine gy rfl rfl rfl S ((y_quo rfl S rfl rfl (by decide) (by rw [tdiv10 hneg]; omega))) fun a S => ?_
   refine wl_of (op_call (wn rfl) rfl rfl S (co_func rfl Tryd.call39 S rfl) (ih _ _ (by rw [tdiv10 hneg]; omega) (by rw [tdiv10 hneg]; omega) (okD_div hn hneg hq0).1) fun v w hc a S => ?_)
   obtain ⟨rfl, he⟩ := hc
   have H := H.ext he
   refine gm S fun a S => ?_
   refine gy rfl rfl rfl S ((y_rem rfl S rfl rfl (by decide))) fun a S => ?_
   refine gy rfl rfl rfl S ((y_neg rfl S rfl (by rw [tmod10 hneg]; omega))) fun a S => ?_
   refine wl_of (op_call (wn rfl) rfl rfl S (co_func rfl Tryd.call39 S rfl) (ih _ _ (by rw [tmod10 hneg]; omega) (by rw [tmod10 hneg]; omega) (okD_div hn hneg hq0).2) fun v w hc a S => ?_)
   obtain ⟨rfl, he⟩ := hc
   have H := H.ext he
   refine gy rfl rfl rfl S ((y_adds rfl S rfl rfl (by have := hsz (n.tdiv 10); have := hsz (-(n.tmod 10)); omega))) fun a S => ?_
   refine ga S fun a S => ?_
   refine gnt ?_
   have S := (S.nil.cons S 0 rfl).cons S 2 rfl
   refine g_ret ?_
   refine r_then (ret1 rfl S rfl ?_)
   exact ⟨by rw [decF_s, if_pos hneg, if_neg hq0], H.toExt⟩
 ·have h1p := h1; try simp only [DL] at h1p
  have hpos : ¬ n < 0 := by simpa using h1
  refine g_skip ?_
  refine n_then ?_
  refine gsr ?_
  refine ga S fun a S => ?_
  refine gnt ?_
  refine g_seq ?_
  refine gsr ?_
  refine gm S fun a S => ?_
  refine gy rfl rfl rfl S (y_bin rfl S rfl rfl rfl) fun a S => ?_
  refine gnt ?_
  refine c_if S rfl (fun h3 => ?_) (fun h3 => ?_)
  ·have h3p := h3; try simp only [DL] at h3p
   have hlt : n < 10 := by simpa using h3
   refine gsr ?_
   refine gm S fun a S => ?_
   refine gm S fun a S => ?_
   refine gm S fun a S => ?_
   refine gy rfl rfl rfl S (y_add rfl S rfl rfl (by omega)) fun a S => ?_
   refine gy rfl rfl rfl S ((y_slicestr (i := n.toNat) (j := n.toNat + 1) rfl Tryd.underlying9 S rfl (by rw [show ((n.toNat : Nat) : Int) = n from by omega]; rfl) (by rw [show ((n.toNat + 1 : Nat) : Int) = n + 1 from by omega]; rfl) (by omega) (by show _ ≤ 10; omega) rfl)) fun a S => ?_
   refine ga S fun a S => ?_
   refine gnt ?_
   have S := ((S.nil.cons S 0 rfl).cons S 3 rfl).cons S 2 rfl
   refine g_ret ?_
   refine r_then (ret1 rfl S rfl ?_)
   exact ⟨by rw [decF_s, if_neg hpos, if_pos hlt]; rfl, H.toExt⟩
  ·have h3p := h3; try simp only [DL] at h3p
   have hlt : ¬ n < 10 := by simpa using h3
   refine g_skip ?_
   refine n_then ?_
   have S := ((S.nil.cons S 0 rfl).cons S 2 rfl).cons S 3 rfl
   refine g_seq ?_
   refine region_st (loud := []) (tails := []) (free := []) [0, 1, 2, 3, 4, 5, 6, 7, 8, 9, 10, 11] [] Fmo (by kernel_rfl) (by kernel_rfl) rfl H ?_
   refine m_w rfl rfl (wn rfl) rfl rfl S (fun w H => y_move rfl S rfl) fun a S => ?_
   refine m_w rfl rfl (wn rfl) rfl rfl S (fun w H => y_quon rfl S rfl rfl (by omega) (by omega) (by omega)) fun a S => ?_
   refine m_c rfl rfl (wn rfl) rfl rfl S (fun w => co_func rfl Tryd.call39 S rfl) (fun w H => ih _ _ (by omega) (by omega) (okD_pos hn hpos hlt)) fun a S => ?_
   refine m_w rfl rfl (wn rfl) rfl rfl S (fun w H => y_move rfl S rfl) fun a S => ?_
   refine m_w rfl rfl (wn rfl) rfl rfl S (fun w H => y_move rfl S rfl) fun a S => ?_
   refine m_w rfl rfl (wn rfl) rfl rfl S (fun w H => y_remn rfl S rfl rfl (by omega) (by omega)) fun a S => ?_
   refine m_w rfl rfl (wn rfl) rfl rfl S (fun w H => y_move rfl S rfl) fun a S => ?_
   refine m_w rfl rfl (wn rfl) rfl rfl S (fun w H => y_remn rfl S rfl rfl (by omega) (by omega)) fun a S => ?_
   refine m_w rfl rfl (wn rfl) rfl rfl S (fun w H => y_add rfl S rfl rfl (by omega)) fun a S => ?_
   refine m_w rfl rfl (wn rfl) rfl rfl S (fun w H => (y_slicestr (i := (n % 10).toNat) (j := (n % 10).toNat + 1) rfl Tryd.underlying9 S rfl (by rw [show (((n % 10).toNat : Nat) : Int) = n % 10 from by omega]; rfl) (by rw [show (((n % 10).toNat + 1 : Nat) : Int) = n % 10 + 1 from by omega]; rfl) (by omega) (by show _ ≤ 10; omega) rfl)) fun a S => ?_
   refine m_w rfl rfl (wn rfl) rfl rfl S (fun w H => (y_adds rfl S rfl rfl (by have := hsz (n / 10); have := dgS_size (n % 10).toNat; change _ + (dgS (n % 10).toNat).size ≤ _; omega))) fun a S => ?_
   refine m_w rfl rfl (wn rfl) rfl rfl S (fun w H => y_assign rfl S rfl) fun a S => ?_
   refine m_nil (fun w H => ?_)
   refine n_then ?_
   have S := S.nil.cons S 2 rfl
   refine g_ret ?_
   refine ret1 rfl S rfl ?_
   exact ⟨by rw [decF_s, if_neg hpos, if_neg hlt]; rfl, H.toExt⟩
theorem decimal_all : ∀ (k : Nat), k ≤ 21 → ∀ (n : Int) (w : World), -9223372036854775808 ≤ n → n ≤ 9223372036854775807 → okD k n → Ret Tryd.prog 39 #[.int .i64 n] w (fun u w' => u = .string (decF k n) ∧ Ext w w')
  | 0, _, n, w, _, _, h => by
    exfalso
    rcases h with ⟨_, h2, _⟩ | ⟨_, h2, _⟩
    · omega
    · omega
  | k + 1, hk, n, w, h0, h1, h => decimal_step k (fun n w a b c => decimal_all k (by omega) n w a b c) n w h0 h1 h (by omega)
theorem decimal_spec (n : Int) (h0 : -9223372036854775808 ≤ n) (h1 : n ≤ 9223372036854775807) (w : World) : Ret Tryd.prog 39 #[.int .i64 n] w (fun u w' => u = .string (decF 21 n) ∧ Ext w w') := decimal_all 21 (by decide) n w h0 h1 (okD_21 h0 h1)
/-- foyer/foyerref02.digits -/
theorem rdigits_spec (n : Nat) (w0 : World) (hn : n ≤ 1000000000) :
    Ret Tryd.prog 53 #[.int .u64 (n : Int)] w0 (fun u w => u = .string (decS n) ∧ Ext w0 w) := by
 refine ret_of_wp (nt := 25) Tryd.func53 rfl rfl rfl (fl := [(0, .int .u64 (n : Int))]) rfl (fun a S => ?_)
 have H := HSat.start w0
 refine gsr ?_
 refine ga S fun a S => ?_
 refine gnt ?_
 refine gsr ?_
 refine gm S fun a S => ?_
 refine gy rfl rfl rfl S ((y_remN (m := n) (q := 10) rfl S rfl rfl (by decide))) fun a S => ?_
 refine gm S fun a S => ?_
 refine gy rfl rfl rfl S ((y_remN (m := n) (q := 10) rfl S rfl rfl (by decide))) fun a S => ?_
 refine gy rfl rfl rfl S ((y_bin (v := .int .u64 ((n % 10 + 1 : Nat) : Int)) rfl S rfl rfl (by simp only [intOp, IntKind.wrap_u64]; congr 2; omega))) fun a S => ?_
 refine gy rfl rfl rfl S ((y_slicestr (i := n % 10) (j := n % 10 + 1) rfl Tryd.underlying9 S rfl rfl rfl (by omega) (by show _ ≤ 10; omega) rfl)) fun a S => ?_
 refine ga S fun a S => ?_
 refine gnt ?_
 have S := ((S.nil.cons S 0 rfl).cons S 2 rfl).cons S 3 rfl
 refine g_seq ?_
 refine gsr ?_
 refine gm S fun a S => ?_
 refine gy rfl rfl rfl S ((y_quoU (m := n) (q := 10) rfl S rfl rfl (by decide) (by omega))) fun a S => ?_
 refine ga S fun a S => ?_
 refine gnt ?_
 refine g_block ?_
 have SU := S.nil.cons S 2 rfl
 refine loopW (X := Nat × ByteArray) SU (fun x => [(0, .int .u64 (x.1 : Int)), (3, .string x.2)]) (fun x w => dgR x.1 x.2 = decS n ∧ x.1 + x.2.size ≤ 1000000001 ∧ HSat No w0 [] w) (fun x => x.1) (n / 10, dgS (n % 10)) ((S.nil.cons S 3 rfl).cons S 0 rfl) (⟨rfl, by dsimp only; have := dgS_size (n % 10); omega, H⟩) (fun x a w S hW => ?_)
 simp only [List.cons_append, List.nil_append] at S
 obtain ⟨m, s⟩ := x
 obtain ⟨he, hb, H⟩ := hW
 dsimp only at S H he hb
 refine g_seq ?_
 refine gsr ?_
 refine gm S fun a S => ?_
 refine gy rfl rfl rfl S (y_bin rfl S rfl rfl rfl) fun a S => ?_
 refine gnt ?_
 refine c_if S rfl (fun h1 => ?_) (fun h1 => ?_)
 ·have h1p := h1; try simp only [DL] at h1p
  have hm0 : m ≠ 0 := by have := h1p; omega
  refine g_skip ?_
  refine n_then ?_
  refine g_seq ?_
  refine g_block ?_
  refine g_region ?_
  refine gm S fun a S => ?_
  refine gy rfl rfl rfl S ((y_remN (m := m) (q := 10) rfl S rfl rfl (by decide))) fun a S => ?_
  refine gm S fun a S => ?_
  refine gy rfl rfl rfl S ((y_remN (m := m) (q := 10) rfl S rfl rfl (by decide))) fun a S => ?_
  refine gy rfl rfl rfl S ((y_bin (v := .int .u64 ((m % 10 + 1 : Nat) : Int)) rfl S rfl rfl (by simp only [intOp, IntKind.wrap_u64]; congr 2; omega))) fun a S => ?_
  refine gy rfl rfl rfl S ((y_slicestr (i := m % 10) (j := m % 10 + 1) rfl Tryd.underlying9 S rfl rfl rfl (by omega) (by show _ ≤ 10; omega) rfl)) fun a S => ?_
  refine gm S fun a S => ?_
  refine gy rfl rfl rfl S ((y_adds rfl S rfl rfl (by have := dgS_size (m % 10); change (dgS (m % 10)).size + _ ≤ _; omega))) fun a S => ?_
  refine ga S fun a S => ?_
  refine gl_nil ?_
  refine n_block ?_
  refine n_then ?_
  have S := ((S.nil.cons S 2 rfl).cons S 0 rfl).cons S 3 rfl
  refine g_region ?_
  refine gm S fun a S => ?_
  refine gy rfl rfl rfl S ((y_quoU (m := m) (q := 10) rfl S rfl rfl (by decide) (by omega))) fun a S => ?_
  refine ga S fun a S => ?_
  refine gnt ?_
  exact ⟨(m / 10, dgS (m % 10) ++ s), (S.nil.cons S 3 rfl).cons S 0 rfl, S.nil.cons S 2 rfl, ⟨by rw [dgR_s hm0] at he; exact he, by dsimp only; rw [ByteArray.size_append]; have := dgS_size (m % 10); omega, H⟩, by dsimp only; omega⟩
 ·have h1p := h1; try simp only [DL] at h1p
  have hm0 : m = 0 := by have := h1p; omega
  refine g_exit ?_
  refine x_then (x_then (x_eq ?_))
  refine n_then ?_
  refine gsr ?_
  refine gm S fun a S => ?_
  refine ga S fun a S => ?_
  refine gnt ?_
  have S := S.nil.cons S 2 rfl
  refine g_ret ?_
  refine ret1 rfl S rfl ?_
  rw [hm0, dgR_z] at he
  exact ⟨by rw [he], H.toExt⟩
/-- foyer/foyerref02.Decimal -/
theorem rdecimal_spec (n : Nat) (w0 : World) (hn : n ≤ 1000000000) :
    Ret Tryd.prog 38 #[.int .i64 (n : Int)] w0 (fun u w => u = .string (decS n) ∧ Ext w0 w) := by
 refine ret_of_wp (nt := 15) Tryd.func38 rfl rfl rfl (fl := [(0, .int .i64 (n : Int))]) rfl (fun a S => ?_)
 have H := HSat.start w0
 refine gsr ?_
 refine ga S fun a S => ?_
 refine gnt ?_
 refine g_seq ?_
 refine gsr ?_
 refine gm S fun a S => ?_
 refine gy rfl rfl rfl S (y_bin rfl S rfl rfl rfl) fun a S => ?_
 refine gnt ?_
 refine c_if S rfl (fun h1 => ?_) (fun h1 => ?_)
 ·have h1p := h1; try simp only [DL] at h1p
  all_goals (
    exfalso; have := h1p; omega)
 ·have h1p := h1; try simp only [DL] at h1p
  refine g_skip ?_
  refine n_then ?_
  refine gsr ?_
  refine gm S fun a S => ?_
  refine gy rfl rfl rfl S ((y_convg (r := (n : Int)) rfl Tryd.underlying3 Tryd.underlying83 S rfl (by rw [IntKind.wrap_u64]; omega))) fun a S => ?_
  refine wl_of (op_call (wn rfl) rfl rfl S (co_func rfl Tryd.call53 S rfl) (rdigits_spec n _ hn) fun v w hc a S => ?_)
  obtain ⟨rfl, he⟩ := hc
  have H := H.ext he
  refine ga S fun a S => ?_
  refine gnt ?_
  have S := S.nil.cons S 2 rfl
  refine g_ret ?_
  refine ret1 rfl S rfl ?_
  exact ⟨rfl, H.toExt⟩
/-- foyer/foyerref30.Cut -/
theorem cut_spec (t : TV) (i : Nat) (w0 : World) (ht : TOk w0 t) (hi : i ≤ t.chain.length) :
    Ret Tryd.prog 21 #[.agg (encT t).toArray, .int .i64 (i : Int)] w0 (fun u w => u = .agg (encT (cutT t i)).toArray ∧ Ext w0 w) := by
 refine ret_of_wp (nt := 11) Tryd.func21 rfl rfl rfl (fl := [(0, .agg (encT t).toArray), (1, .int .i64 (i : Int))]) rfl (fun a S => ?_)
 have H := HSat.start w0
 have H := H.ro0 (Sl t.cv 2 encX t.chain) rfl (ht.sl)
 have H := H.ro0 (CapA t.cv) rfl (ht.cap)
 have H := H.ro0 (XRows t.chain) rfl (ht.rows)
 refine gsr ?_
 refine wl_of (op_boxa (wn rfl) rfl rfl rfl S H rfl fun b2 a w S H => ?_)
 change HSat No w0 (Cel b2 24 [.int .i64 t.serial, .int .i64 t.show_, .int .i64 t.place, .string t.first, t.cv] :: _) w at H
 refine wl_of (op_alloc (wn rfl) rfl rfl rfl S H Fzer24 fun b4 a w S H => ?_)
 refine gnt ?_
 refine gsr ?_
 refine gy rfl rfl rfl S (y_faddrb rfl Ffo24_4 S rfl) fun a S => ?_
 refine gy rfl rfl rfl S (y_load rfl Fsca22 S H rfl rfl) fun a S => ?_
 refine gm S fun a S => ?_
 refine gy rfl rfl rfl S (y_sliceH rfl Tryd.underlying22 Fsiz32 S H rfl rfl (by first | assumption | omega | (simp only [LL]; omega))) fun a S => ?_
 refine gy rfl rfl rfl S (y_faddrb rfl Ffo24_4 S rfl) fun a S => ?_
 refine wl_of (op_store (wn rfl) rfl rfl S H rfl rfl (H.sl1 _) Fsiz22 rfl fun a w S H => ?_)
 dsimp only [List.set, Nat.zero_add, Nat.reduceAdd] at H
 refine gnt ?_
 have S := (S.nil.cons S 2 rfl).cons S 4 rfl
 refine gsr ?_
 refine gy rfl rfl rfl S (y_load0 rfl S H rfl (by exact Fagg24)) fun a S => ?_
 refine wl_of (op_storea (wn rfl) rfl rfl S H rfl rfl (encT_one (t := cutT t i) (H.sl1 (subV t.cv 0 i 2))) Fsiz24 rfl (cs' := [_, _, _, _, _]) rfl fun a w S H => ?_)
 refine gnt ?_
 refine g_ret ?_
 refine retc rfl S H rfl (by exact Fagg24) ?_
 exact ⟨rfl, H.toExt⟩
set_option maxHeartbeats 1000000 in
/-- foyer/foyerref30.Fields -/
theorem fields_spec (t : TV) (to : ByteArray) (w0 : World) (ht : TOk w0 t) (hz : TSz t) (hto : to.size ≤ 1000) :
    Ret Tryd.prog 23 #[.agg (encT t).toArray, .string to] w0 (fun u w => HSat No w0 [OSl 9 u 1 encS (fieldsL t to)] w) := by
 refine ret_of_wp (nt := 36) Tryd.func23 rfl rfl rfl (fl := [(0, .agg (encT t).toArray), (1, .string to)]) rfl (fun a S => ?_)
 have H := HSat.start w0
 have H := H.ro0 (Sl t.cv 2 encX t.chain) rfl (ht.sl)
 have H := H.ro0 (CapA t.cv) rfl (ht.cap)
 have H := H.ro0 (XRows t.chain) rfl (ht.rows)
 have hlen := ht.sl.len
 refine gsr ?_
 refine wl_of (op_boxa (wn rfl) rfl rfl rfl S H rfl fun b2 a w S H => ?_)
 refine ga S fun a S => ?_
 refine gnt ?_
 refine g_seq ?_
 refine region_st (loud := [8]) (tails := []) (free := []) [0, 1, 2, 3, 4, 5, 6, 7, 8, 9] [] Fmo (by kernel_rfl) (by kernel_rfl) rfl H ?_
 refine m_w rfl rfl (wn rfl) rfl rfl S (fun w H => y_faddrb rfl Ffo24_0 S rfl) fun a S => ?_
 refine m_w rfl rfl (wn rfl) rfl rfl S (fun w H => y_load rfl Fsca3 S H rfl rfl) fun a S => ?_
 refine m_c rfl rfl (wn rfl) rfl rfl S (fun w => co_func rfl Tryd.call39 S rfl) (fun w H => decimal_spec t.serial hz.s0.1 hz.s0.2 _) fun a S => ?_
 refine m_w rfl rfl (wn rfl) rfl rfl S (fun w H => y_faddrb rfl Ffo24_1 S rfl) fun a S => ?_
 refine m_w rfl rfl (wn rfl) rfl rfl S (fun w H => y_load rfl Fsca3 S H rfl rfl) fun a S => ?_
 refine m_c rfl rfl (wn rfl) rfl rfl S (fun w => co_func rfl Tryd.call39 S rfl) (fun w H => decimal_spec t.show_ hz.s1.1 hz.s1.2 _) fun a S => ?_
 refine m_w rfl rfl (wn rfl) rfl rfl S (fun w H => y_faddrb rfl Ffo24_3 S rfl) fun a S => ?_
 refine m_w rfl rfl (wn rfl) rfl rfl S (fun w H => y_load rfl Fsca9 S H rfl rfl) fun a S => ?_
 refine m_l rfl rfl (fun w H => op_buildSlice (wn rfl) rfl rfl rfl Tryd.underlying30 Finf9 S H (idx := [0, 1, 2]) rfl rfl rfl (z := [.string ⟨#[]⟩, .string ⟨#[]⟩, .string ⟨#[]⟩]) (by kernel_rfl) (cs := [.string (decF 21 t.serial), .string (decF 21 t.show_), .string t.first]) rfl fun b15 a w S H => m_next H (List.sublist_cons_self _ _) ?_)
 refine m_w rfl rfl (wn rfl) rfl rfl S (fun w H => y_assign rfl S rfl) fun a S => ?_
 refine m_nil (fun w H => ?_)
 refine n_then ?_
 have S := (((S.nil.cons S 1 rfl).cons S 2 rfl).cons S 4 rfl).cons S 5 rfl
 refine g_seq ?_
 refine gsr ?_
 refine ga S fun a S => ?_
 refine gnt ?_
 refine g_block ?_
 have H := ((H.take [Cel b15 9 [.string (decF 21 t.serial), .string (decF 21 t.show_), .string t.first], Cel b2 24 (encT t), Sl t.cv 2 encX t.chain, CapA t.cv, XRows t.chain]).celO [decF 21 t.serial, decF 21 t.show_, t.first] encS 1 (m := 3) rfl (by intro x _; rfl) rfl (by omega)).take [OSl 9 (.slice (some ⟨b15, 0, none⟩) 3 3) 1 encS [decF 21 t.serial, decF 21 t.show_, t.first], Cel b2 24 (encT t), Sl t.cv 2 encX t.chain, CapA t.cv, XRows t.chain]
 have SU := ((S.nil.cons S 1 rfl).cons S 2 rfl).cons S 4 rfl
 refine loopW (X := Nat × Value) SU (fun x => [(6, .int .i64 (x.1 : Int)), (5, x.2)]) (fun x w => x.1 ≤ t.chain.length ∧ HSat No w0 [OSl 9 x.2 1 encS ([decF 21 t.serial, decF 21 t.show_, t.first] ++ (t.chain.take (x.1)).map (·.to)), Cel b2 24 (encT t), Sl t.cv 2 encX t.chain, CapA t.cv, XRows t.chain] w) (fun x => t.chain.length - x.1) (0, .slice (some ⟨b15, 0, none⟩) 3 3) ((S.nil.cons S 5 rfl).cons S 6 rfl) (⟨by simp, H⟩) (fun x a w S hW => ?_)
 simp only [List.cons_append, List.nil_append] at S
 obtain ⟨k, u⟩ := x
 obtain ⟨hk, H⟩ := hW
 dsimp only at S H hk
 refine g_seq ?_
 refine gsr ?_
 refine gm S fun a S => ?_
 refine gy rfl rfl rfl S (y_faddrb rfl Ffo24_4 S rfl) fun a S => ?_
 refine gy rfl rfl rfl S (y_load rfl Fsca22 S H rfl rfl) fun a S => ?_
 refine gy rfl rfl rfl S (y_lens rfl Tryd.underlying22 S H rfl) fun a S => ?_
 refine gy rfl rfl rfl S (y_bin rfl S rfl rfl rfl) fun a S => ?_
 refine gnt ?_
 have S := (((((S.nil.cons S 1 rfl).cons S 2 rfl).cons S 4 rfl).cons S 5 rfl).cons S 6 rfl).cons S 20 rfl
 refine c_if S rfl (fun h1 => ?_) (fun h1 => ?_)
 ·have h1p := h1; try simp only [DL] at h1p
  refine g_skip ?_
  refine n_then ?_
  refine g_seq ?_
  refine g_block ?_
  refine g_region ?_
  refine gm S fun a S => ?_
  refine gy rfl rfl rfl S (y_faddrb rfl Ffo24_4 S rfl) fun a S => ?_
  refine gy rfl rfl rfl S (y_load rfl Fsca22 S H rfl rfl) fun a S => ?_
  refine gm S fun a S => ?_
  refine gy rfl rfl rfl S (y_iaddrn rfl Tryd.underlying22 Fsiz32 S H rfl rfl (by first | assumption | omega | (simp only [LL]; omega))) fun a S => ?_
  refine gy rfl rfl rfl S (y_faddr rfl Ffo32_0 S rfl) fun a S => ?_
  refine gy rfl rfl rfl S (y_loadsf _ rfl Fsca9 S H rfl (by first | assumption | omega | (simp only [LL]; omega)) rfl) fun a S => ?_
  refine wl_of (op_buildSlice (wn rfl) rfl rfl rfl Tryd.underlying30 Finf9 S H (idx := [0]) rfl rfl rfl (z := [.string ⟨#[]⟩]) (by kernel_rfl) (cs := [_]) rfl fun b30 a w S H => ?_)
  refine wl_of (op_append ([t.chain[k].to]) (wn rfl) rfl rfl rfl Tryd.underlying30 Finf9 rfl rfl S H rfl rfl rfl rfl (by simp) (by simp [encS]) (by simp [encS, Value.oneCell']) (by simp only [List.length_append, List.length_cons, List.length_nil, List.length_map, List.length_take]; have := hz.len; omega) (by simp only [List.length_append, List.length_cons, List.length_nil, List.length_map, List.length_take]; have := hz.len; omega) fun u31 a w hn31 S H => ?_)
  have e28 : ([decF 21 t.serial, decF 21 t.show_, t.first] ++ (t.chain.take (k)).map (·.to)) ++ [t.chain[k].to] = ([decF 21 t.serial, decF 21 t.show_, t.first] ++ (t.chain.take (k + 1)).map (·.to)) := by rw [List.take_succ_eq_append_getElem (by omega), List.map_append, List.append_assoc]; rfl
  rw [e28] at H
  refine ga S fun a S => ?_
  refine gl_nil ?_
  refine n_block ?_
  refine n_then ?_
  have S := ((((S.nil.cons S 1 rfl).cons S 2 rfl).cons S 4 rfl).cons S 6 rfl).cons S 5 rfl
  refine g_region ?_
  refine gm S fun a S => ?_
  refine gy rfl rfl rfl S (y_add rfl S rfl rfl (by omega)) fun a S => ?_
  refine ga S fun a S => ?_
  refine gnt ?_
  exact ⟨(k + 1, u31), (S.nil.cons S 5 rfl).cons S 6 rfl, ((S.nil.cons S 1 rfl).cons S 2 rfl).cons S 4 rfl, ⟨by dsimp only; omega, H.take [OSl 9 u31 1 encS ([decF 21 t.serial, decF 21 t.show_, t.first] ++ (t.chain.take (k + 1)).map (·.to)), Cel b2 24 (encT t), Sl t.cv 2 encX t.chain, CapA t.cv, XRows t.chain]⟩, by dsimp only; omega⟩
 ·have h1p := h1; try simp only [DL] at h1p
  obtain rfl : k = t.chain.length := by omega
  rw [List.take_length] at H
  refine g_exit ?_
  refine x_then (x_then (x_eq ?_))
  refine n_then ?_
  refine gsr ?_
  refine gm S fun a S => ?_
  refine gm S fun a S => ?_
  refine wl_of (op_buildSlice (wn rfl) rfl rfl rfl Tryd.underlying30 Finf9 S H (idx := [0]) rfl rfl rfl (z := [.string ⟨#[]⟩]) (by kernel_rfl) (cs := [_]) rfl fun b34 a w S H => ?_)
  refine wl_of (op_append ([to]) (wn rfl) rfl rfl rfl Tryd.underlying30 Finf9 rfl rfl S H rfl rfl rfl rfl (by simp) (by simp [encS]) (by simp [encS, Value.oneCell']) (by simp only [List.length_append, List.length_cons, List.length_nil, List.length_map, List.length_take]; have := hz.len; omega) (by simp only [List.length_append, List.length_cons, List.length_nil, List.length_map, List.length_take]; have := hz.len; omega) fun u35 a w hn35 S H => ?_)
  refine ga S fun a S => ?_
  refine gnt ?_
  have S := S.nil.cons S 4 rfl
  refine g_ret ?_
  refine ret1 rfl S rfl ?_
  have H : HSat No w0 (_ :: OSl 9 u35 1 encS (fieldsL t to) :: _) w := H
  exact H.take [OSl 9 u35 1 encS (fieldsL t to)]
set_option maxHeartbeats 1000000 in
/-- foyer/foyerref02.Joined -/
theorem joined_spec (v : Value) (xs : List ByteArray) (w0 : World) (hv : IsSl w0 v 1 encS xs) (hl : xs.length ≤ 10000) (hx0 : ∀ x ∈ xs, x.size ≤ 3000000) :
    Ret Tryd.prog 22 #[v] w0 (fun u w => u = .string (joinRS xs) ∧ Ext w0 w) := by
 refine ret_of_wp (nt := 48) Tryd.func22 rfl rfl rfl (fl := [(0, v)]) rfl (fun a S => ?_)
 have H := HSat.start w0
 have H := H.ro0 (Sl v 1 encS xs) rfl (hv)
 refine gsr ?_
 refine ga S fun a S => ?_
 refine gnt ?_
 refine gsr ?_
 refine ga S fun a S => ?_
 refine gnt ?_
 refine g_seq ?_
 refine gsr ?_
 refine ga S fun a S => ?_
 refine gnt ?_
 refine g_block ?_
 have SU := (S.nil.cons S 0 rfl).cons S 2 rfl
 refine loopW (X := Nat × Nat) SU (fun x => [(4, .int .i64 (x.1 : Int)), (3, .int .i64 (x.2 : Int))]) (fun x w => x.1 ≤ xs.length ∧ x.2 ≤ x.1 * 3000021 ∧ HSat No w0 [Sl v 1 encS xs] w) (fun x => xs.length - x.1) (0, 0) ((S.nil.cons S 3 rfl).cons S 4 rfl) (⟨by simp, by simp, H⟩) (fun x a w S hW => ?_)
 simp only [List.cons_append, List.nil_append] at S
 obtain ⟨k, q⟩ := x
 obtain ⟨hk, hq, H⟩ := hW
 dsimp only at S H hk hq
 refine g_seq ?_
 refine gsr ?_
 refine gm S fun a S => ?_
 refine gm S fun a S => ?_
 refine gy rfl rfl rfl S (y_lens rfl Tryd.underlying30 S H rfl) fun a S => ?_
 refine gy rfl rfl rfl S (y_bin rfl S rfl rfl rfl) fun a S => ?_
 refine gnt ?_
 refine c_if S rfl (fun h1 => ?_) (fun h1 => ?_)
 ·have h1p := h1; try simp only [DL] at h1p
  have hkl : k < xs.length := by omega
  have hxk := hx0 xs[k] (List.getElem_mem hkl)
  refine g_skip ?_
  refine n_then ?_
  have S := (((S.nil.cons S 0 rfl).cons S 2 rfl).cons S 3 rfl).cons S 4 rfl
  refine g_seq ?_
  refine g_block ?_
  refine g_region ?_
  refine gm S fun a S => ?_
  refine gm S fun a S => ?_
  refine gm S fun a S => ?_
  refine gy rfl rfl rfl S (y_iaddrn rfl Tryd.underlying30 Fsiz9 S H rfl rfl (by first | assumption | omega | (simp only [LL]; omega))) fun a S => ?_
  refine gy rfl rfl rfl S (y_loads _ rfl Fsca9 S H rfl (by first | assumption | omega | (simp only [LL]; omega)) rfl) fun a S => ?_
  refine gy rfl rfl rfl S (y_lenstr rfl Tryd.underlying9 S rfl) fun a S => ?_
  refine gy rfl rfl rfl S (y_add rfl S rfl rfl (by omega)) fun a S => ?_
  refine gy rfl rfl rfl S (y_add rfl S rfl rfl (by omega)) fun a S => ?_
  refine ga S fun a S => ?_
  refine gl_nil ?_
  refine n_block ?_
  refine n_then ?_
  have S := (((S.nil.cons S 0 rfl).cons S 2 rfl).cons S 4 rfl).cons S 3 rfl
  refine g_region ?_
  refine gm S fun a S => ?_
  refine gy rfl rfl rfl S (y_add rfl S rfl rfl (by omega)) fun a S => ?_
  refine ga S fun a S => ?_
  refine gnt ?_
  exact ⟨(k + 1, q + (xs[k].size + 21)), (S.nil.cons S 3 rfl).cons S 4 rfl, (S.nil.cons S 0 rfl).cons S 2 rfl, ⟨by dsimp only; omega, by dsimp only; rw [Nat.add_mul]; omega, H⟩, by dsimp only; omega⟩
 ·have h1p := h1; try simp only [DL] at h1p
  refine g_exit ?_
  refine x_then (x_then (x_eq ?_))
  refine n_then ?_
  have S := ((S.nil.cons S 0 rfl).cons S 2 rfl).cons S 3 rfl
  refine gsr ?_
  refine gm S fun a S => ?_
  refine wl_of (op_make0 (m := q) encB (wn rfl) rfl rfl rfl Tryd.underlying64 Finf5 rfl S H rfl rfl (by omega) (by omega) fun u22 a w hn22 S H => ?_)
  refine ga S fun a S => ?_
  refine gnt ?_
  refine g_seq ?_
  refine gsr ?_
  refine ga S fun a S => ?_
  refine gnt ?_
  refine g_block ?_
  have SU := (S.nil.cons S 0 rfl).cons S 2 rfl
  refine loopW (X := Nat × Value) SU (fun x => [(6, .int .i64 (x.1 : Int)), (5, x.2)]) (fun x w => x.1 ≤ xs.length ∧ x.2 ≠ .slice none 0 0 ∧ HSat No w0 [OSl 5 x.2 1 encB (joinR (xs.take (x.1))), Sl v 1 encS xs] w) (fun x => xs.length - x.1) (0, u22) ((S.nil.cons S 5 rfl).cons S 6 rfl) (⟨by simp, hn22, by have h := H.take [OSl 5 u22 1 encB [], Sl v 1 encS xs]; exact h⟩) (fun x a w S hW => ?_)
  simp only [List.cons_append, List.nil_append] at S
  obtain ⟨k, u⟩ := x
  obtain ⟨hk, hn, H⟩ := hW
  dsimp only at S H hk hn
  refine g_seq ?_
  refine gsr ?_
  refine gm S fun a S => ?_
  refine gm S fun a S => ?_
  refine gy rfl rfl rfl S (y_lens rfl Tryd.underlying30 S H rfl) fun a S => ?_
  refine gy rfl rfl rfl S (y_bin rfl S rfl rfl rfl) fun a S => ?_
  refine gnt ?_
  refine c_if S rfl (fun h2 => ?_) (fun h2 => ?_)
  ·have h2p := h2; try simp only [DL] at h2p
   have hkl : k < xs.length := by omega
   have hjb := joinR_bound (xs := xs.take k) (fun x hx => hx0 x (List.mem_of_mem_take hx))
   rw [List.length_take, Nat.min_eq_left hk] at hjb
   have hxk := hx0 xs[k] (List.getElem_mem hkl)
   have hds := decS_size xs[k].size
   refine g_skip ?_
   refine n_then ?_
   have S := (((S.nil.cons S 0 rfl).cons S 2 rfl).cons S 5 rfl).cons S 6 rfl
   refine g_seq ?_
   refine g_block ?_
   refine gsr ?_
   refine gm S fun a S => ?_
   refine gm S fun a S => ?_
   refine gm S fun a S => ?_
   refine gy rfl rfl rfl S (y_iaddrn rfl Tryd.underlying30 Fsiz9 S H rfl rfl (by first | assumption | omega | (simp only [LL]; omega))) fun a S => ?_
   refine gy rfl rfl rfl S (y_loads _ rfl Fsca9 S H rfl (by first | assumption | omega | (simp only [LL]; omega)) rfl) fun a S => ?_
   refine gy rfl rfl rfl S (y_lenstr rfl Tryd.underlying9 S rfl) fun a S => ?_
   refine wl_of (op_call (wn rfl) rfl rfl S (co_func rfl Tryd.call38 S rfl) (rdecimal_spec xs[k].size _ (by omega)) fun v w hc a S => ?_)
   obtain ⟨rfl, he⟩ := hc
   have H := H.ext he
   refine wl_of (op_appendStr (decS xs[k].size) (wn rfl) rfl rfl rfl Tryd.underlying64 Tryd.underlying9 Finf5 rfl S H rfl rfl (by omega) (.inr hn) fun u36 a w hn36 S H => ?_)
   refine ga S fun a S => ?_
   refine gnt ?_
   have S := (((S.nil.cons S 0 rfl).cons S 2 rfl).cons S 6 rfl).cons S 5 rfl
   refine gsr ?_
   refine gm S fun a S => ?_
   refine wl_of (op_buildSlice (wn rfl) rfl rfl rfl Tryd.underlying64 Finf5 S H (idx := [0]) rfl rfl rfl (z := [.int .u8 0]) (by kernel_rfl) (cs := [_]) rfl fun b38 a w S H => ?_)
   refine wl_of (op_append ([(58 : UInt8)]) (wn rfl) rfl rfl rfl Tryd.underlying64 Finf5 rfl rfl S H rfl rfl rfl rfl (by simp) (by simp [encB]) (by simp [encB, Value.oneCell']) (by simp only [List.length_append, size_toList, List.length_cons, List.length_nil]; omega) (by simp only [List.length_append, size_toList, List.length_cons, List.length_nil]; omega) fun u39 a w hn39 S H => ?_)
   refine ga S fun a S => ?_
   refine gnt ?_
   have S := (((S.nil.cons S 0 rfl).cons S 2 rfl).cons S 6 rfl).cons S 5 rfl
   refine g_region ?_
   refine gm S fun a S => ?_
   refine gm S fun a S => ?_
   refine gm S fun a S => ?_
   refine gy rfl rfl rfl S (y_iaddrn rfl Tryd.underlying30 Fsiz9 S H rfl rfl (by first | assumption | omega | (simp only [LL]; omega))) fun a S => ?_
   refine gy rfl rfl rfl S (y_loads _ rfl Fsca9 S H rfl (by first | assumption | omega | (simp only [LL]; omega)) rfl) fun a S => ?_
   refine wl_of (op_appendStr xs[k] (wn rfl) rfl rfl rfl Tryd.underlying64 Tryd.underlying9 Finf5 rfl S H rfl rfl (by simp only [List.length_append, size_toList, List.length_cons, List.length_nil]; omega) (.inr hn39) fun u45 a w hn45 S H => ?_)
   refine ga S fun a S => ?_
   refine gl_nil ?_
   refine n_block ?_
   refine n_then ?_
   have S := (((S.nil.cons S 0 rfl).cons S 2 rfl).cons S 6 rfl).cons S 5 rfl
   refine g_region ?_
   refine gm S fun a S => ?_
   refine gy rfl rfl rfl S (y_add rfl S rfl rfl (by omega)) fun a S => ?_
   refine ga S fun a S => ?_
   refine gnt ?_
   rw [← joinR_take hkl] at H
   exact ⟨(k + 1, u45), (S.nil.cons S 5 rfl).cons S 6 rfl, (S.nil.cons S 0 rfl).cons S 2 rfl, ⟨by dsimp only; omega, hn45, H.take [OSl 5 u45 1 encB (joinR (xs.take (k + 1))), Sl v 1 encS xs]⟩, by dsimp only; omega⟩
  ·have h2p := h2; try simp only [DL] at h2p
   obtain rfl : k = xs.length := by omega
   rw [List.take_length] at H
   refine g_exit ?_
   refine x_then (x_then (x_eq ?_))
   refine n_then ?_
   have S := (S.nil.cons S 2 rfl).cons S 5 rfl
   refine gsr ?_
   refine gm S fun a S => ?_
   refine gy rfl rfl rfl S ((y_slstr rfl Tryd.underlying64 Tryd.underlying5 Tryd.underlying9 S H rfl)) fun a S => ?_
   refine ga S fun a S => ?_
   refine gnt ?_
   have S := S.nil.cons S 2 rfl
   refine g_ret ?_
   refine ret1 rfl S rfl ?_
   exact ⟨rfl, H.toExt⟩
set_option maxHeartbeats 1000000 in
/-- foyer/foyerref30.Few -/
theorem few_spec (t : TV) (m : Nat) (w0 : World) (ht : TOk w0 t) :
    Ret Tryd.prog 5 #[.agg (encT t).toArray, .int .i64 (m : Int)] w0 (fun u w => u = .bool (fewB t m) ∧ Ext w0 w) := by
 refine ret_of_wp (nt := 65) Tryd.func5 rfl rfl rfl (fl := [(0, .agg (encT t).toArray), (1, .int .i64 (m : Int))]) rfl (fun a S => ?_)
 have H := HSat.start w0
 have H := H.ro0 (Sl t.cv 2 encX t.chain) rfl (ht.sl)
 have H := H.ro0 (CapA t.cv) rfl (ht.cap)
 have H := H.ro0 (XRows t.chain) rfl (ht.rows)
 have hlen := ht.sl.len
 refine gsr ?_
 refine wl_of (op_boxa (wn rfl) rfl rfl rfl S H rfl fun b2 a w S H => ?_)
 refine ga S fun a S => ?_
 refine gnt ?_
 refine g_seq ?_
 refine gsr ?_
 refine gy rfl rfl rfl S (y_faddrb rfl Ffo24_4 S rfl) fun a S => ?_
 refine gy rfl rfl rfl S (y_load rfl Fsca22 S H rfl rfl) fun a S => ?_
 refine gy rfl rfl rfl S (y_lens rfl Tryd.underlying22 S H rfl) fun a S => ?_
 refine gm S fun a S => ?_
 refine gy rfl rfl rfl S (y_bin rfl S rfl rfl rfl) fun a S => ?_
 refine gm S fun a S => ?_
 refine' wl_or 4 12 rfl S H rfl rfl rfl rfl rfl rfl rfl (fun _ S => (wn rfl)) (fun h1 kk => ?yh1) (fun a w S H => ?_)
 case yh1 =>
  have h1p := h1; try simp only [DL] at h1p
  refine gz 12 h1 S rfl rfl rfl rfl rfl rfl (y_faddrb rfl Ffo24_3 S rfl) fun a S => ?_
  refine gz 12 h1 S rfl rfl rfl rfl rfl rfl (y_load rfl Fsca9 S H rfl rfl) fun a S => ?_
  refine gz 12 h1 S rfl rfl rfl rfl rfl rfl (y_lenstr rfl Tryd.underlying9 S rfl) fun a S => ?_
  refine gz 12 h1 S rfl rfl rfl rfl rfl rfl (y_bin rfl S rfl rfl rfl) fun a S => ?_
  refine gy rfl rfl rfl S (y_or' rfl h1 S rfl rfl) fun a S => ?_
  exact kk _ _ (S.join 5 17 rfl rfl) H
 refine gnt ?_
 have S := ((S.nil.cons S 2 rfl).cons S 4 rfl).cons S 17 rfl
 refine c_if S rfl (fun h2 => ?_) (fun h2 => ?_)
 ·have h2p := h2; try simp only [DL] at h2p
  have hno : (decide (t.chain.length ≤ m) && decide (t.first.size ≤ 40)) = false := by rw [Bool.and_eq_false_iff]; simp only [decide_eq_false_iff_not]; simp at h2; omega
  refine gsr ?_
  refine ga S fun a S => ?_
  refine gnt ?_
  refine g_ret ?_
  refine r_then (ret1 rfl S rfl ?_)
  exact ⟨congrArg Value.bool (by unfold fewB; rw [hno]; rfl), H.toExt⟩
 ·have h2p := h2; try simp only [DL] at h2p
  have hyes : (decide (t.chain.length ≤ m) && decide (t.first.size ≤ 40)) = true := by rw [Bool.and_eq_true]; simp only [decide_eq_true_eq]; simp at h2; omega
  refine g_skip ?_
  refine n_then ?_
  refine g_seq ?_
  refine gsr ?_
  refine ga S fun a S => ?_
  refine gnt ?_
  refine g_block ?_
  have SU := S.nil.cons S 2 rfl
  refine loop_k (X := Nat) SU (fun k => [(5, .int .i64 (k : Int))]) (fun k => k ≤ t.chain.length ∧ ∀ i (h : i < t.chain.length), i < k → fewX t.chain[i] = true) (fun k => t.chain.length - k) 0 (S.nil.cons S 5 rfl) H (⟨by omega, fun i _ h => absurd h (by omega)⟩) (fun k a w S H hi => ?_)
  simp only [List.cons_append, List.nil_append] at S hi
  obtain ⟨hk, hok⟩ := hi
  refine g_seq ?_
  refine gsr ?_
  refine gm S fun a S => ?_
  refine gy rfl rfl rfl S (y_faddrb rfl Ffo24_4 S rfl) fun a S => ?_
  refine gy rfl rfl rfl S (y_load rfl Fsca22 S H rfl rfl) fun a S => ?_
  refine gy rfl rfl rfl S (y_lens rfl Tryd.underlying22 S H rfl) fun a S => ?_
  refine gy rfl rfl rfl S (y_bin rfl S rfl rfl rfl) fun a S => ?_
  refine gnt ?_
  have S := ((S.nil.cons S 2 rfl).cons S 5 rfl).cons S 22 rfl
  refine c_if S rfl (fun h3 => ?_) (fun h3 => ?_)
  ·have h3p := h3; try simp only [DL] at h3p
   have hkl : k < t.chain.length := by omega
   have hsl := (ht.rows t.chain[k] (List.getElem_mem hkl)).len
   refine g_skip ?_
   refine n_then ?_
   refine g_seq ?_
   refine g_block ?_
   refine g_seq ?_
   refine gsr ?_
   refine gy rfl rfl rfl S (y_faddrb rfl Ffo24_4 S rfl) fun a S => ?_
   refine gy rfl rfl rfl S (y_load rfl Fsca22 S H rfl rfl) fun a S => ?_
   refine gm S fun a S => ?_
   refine gy rfl rfl rfl S (y_iaddrn rfl Tryd.underlying22 Fsiz32 S H rfl rfl (by first | assumption | omega | (simp only [LL]; omega))) fun a S => ?_
   refine gy rfl rfl rfl S (y_faddr rfl Ffo32_1 S rfl) fun a S => ?_
   refine gy rfl rfl rfl S (y_loadsf _ rfl Fsca30 S H rfl (by first | assumption | omega | (simp only [LL]; omega)) rfl) fun a S => ?_
   refine gy rfl rfl rfl S (y_lens rfl Tryd.underlying30 S H rfl) fun a S => ?_
   refine gy rfl rfl rfl S (y_bin rfl S rfl rfl rfl) fun a S => ?_
   refine gm S fun a S => ?_
   refine' wl_or 8 33 rfl S H rfl rfl rfl rfl rfl rfl rfl (fun _ S => (wn rfl)) (fun h4 kk => ?yh4) (fun a w S H => ?_)
   case yh4 =>
    have h4p := h4; try simp only [DL] at h4p
    refine gz 33 h4 S rfl rfl rfl rfl rfl rfl (y_faddrb rfl Ffo24_4 S rfl) fun a S => ?_
    refine gz 33 h4 S rfl rfl rfl rfl rfl rfl (y_load rfl Fsca22 S H rfl rfl) fun a S => ?_
    refine gz 33 h4 S rfl rfl rfl rfl rfl rfl (y_move rfl S rfl) fun a S => ?_
    refine gz 33 h4 S rfl rfl rfl rfl rfl rfl (y_iaddrn rfl Tryd.underlying22 Fsiz32 S H rfl rfl (by first | assumption | omega | (simp only [LL]; omega))) fun a S => ?_
    refine gz 33 h4 S rfl rfl rfl rfl rfl rfl (y_faddr rfl Ffo32_0 S rfl) fun a S => ?_
    refine gz 33 h4 S rfl rfl rfl rfl rfl rfl (y_loadsf _ rfl Fsca9 S H rfl (by first | assumption | omega | (simp only [LL]; omega)) rfl) fun a S => ?_
    refine gz 33 h4 S rfl rfl rfl rfl rfl rfl (y_lenstr rfl Tryd.underlying9 S rfl) fun a S => ?_
    refine gz 33 h4 S rfl rfl rfl rfl rfl rfl (y_bin rfl S rfl rfl rfl) fun a S => ?_
    refine gy rfl rfl rfl S (y_or' rfl h4 S rfl rfl) fun a S => ?_
    exact kk _ _ (S.join 9 42 rfl rfl) H
   refine gnt ?_
   have S := ((S.nil.cons S 2 rfl).cons S 5 rfl).cons S 42 rfl
   refine c_if S rfl (fun h5 => ?_) (fun h5 => ?_)
   ·have h5p := h5; try simp only [DL] at h5p
    have hfx : fewX t.chain[k] = false := by unfold fewX; rw [Bool.and_eq_false_iff, Bool.and_eq_false_iff]; simp only [decide_eq_false_iff_not]; simp at h5; omega
    refine gsr ?_
    refine ga S fun a S => ?_
    refine gnt ?_
    refine g_ret ?_
    refine r_then (r_block (r_then (r_then (r_block (r_then (ret1 rfl S rfl ?_))))))
    exact ⟨congrArg Value.bool (by unfold fewB; rw [show t.chain.all fewX = false from List.all_eq_false.2 ⟨_, List.getElem_mem hkl, by rw [hfx]; simp⟩, Bool.and_false]), H.toExt⟩
   ·have h5p := h5; try simp only [DL] at h5p
    have hfa : t.chain[k].sig.length ≤ 20 ∧ t.chain[k].to.size ≤ 40 := by simp at h5; omega
    refine g_skip ?_
    refine n_then ?_
    refine gsr ?_
    refine ga S fun a S => ?_
    refine gnt ?_
    refine g_block ?_
    have SU := (S.nil.cons S 2 rfl).cons S 5 rfl
    refine loop_k (X := Nat) SU (fun j => [(6, .int .i64 (j : Int))]) (fun j => j ≤ t.chain[k].sig.length ∧ ∀ i (h : i < t.chain[k].sig.length), i < j → t.chain[k].sig[i].size ≤ 40) (fun j => t.chain[k].sig.length - j) 0 (S.nil.cons S 6 rfl) H (⟨by omega, fun i _ h => absurd h (by omega)⟩) (fun j a w S H hi => ?_)
    simp only [List.cons_append, List.nil_append] at S hi
    obtain ⟨hj, hsk⟩ := hi
    refine g_seq ?_
    refine gsr ?_
    refine gm S fun a S => ?_
    refine gy rfl rfl rfl S (y_faddrb rfl Ffo24_4 S rfl) fun a S => ?_
    refine gy rfl rfl rfl S (y_load rfl Fsca22 S H rfl rfl) fun a S => ?_
    refine gm S fun a S => ?_
    refine gy rfl rfl rfl S (y_iaddrn rfl Tryd.underlying22 Fsiz32 S H rfl rfl (by first | assumption | omega | (simp only [LL]; omega))) fun a S => ?_
    refine gy rfl rfl rfl S (y_faddr rfl Ffo32_1 S rfl) fun a S => ?_
    refine gy rfl rfl rfl S (y_loadsf _ rfl Fsca30 S H rfl (by first | assumption | omega | (simp only [LL]; omega)) rfl) fun a S => ?_
    refine gy rfl rfl rfl S (y_lens rfl Tryd.underlying30 S H rfl) fun a S => ?_
    refine gy rfl rfl rfl S (y_bin rfl S rfl rfl rfl) fun a S => ?_
    refine gnt ?_
    have S := (((S.nil.cons S 2 rfl).cons S 5 rfl).cons S 6 rfl).cons S 51 rfl
    refine c_if S rfl (fun h6 => ?_) (fun h6 => ?_)
    ·have h6p := h6; try simp only [DL] at h6p
     have hjl : j < t.chain[k].sig.length := by omega
     refine g_skip ?_
     refine n_then ?_
     refine g_seq ?_
     refine g_block ?_
     refine gsr ?_
     refine gy rfl rfl rfl S (y_faddrb rfl Ffo24_4 S rfl) fun a S => ?_
     refine gy rfl rfl rfl S (y_load rfl Fsca22 S H rfl rfl) fun a S => ?_
     refine gm S fun a S => ?_
     refine gy rfl rfl rfl S (y_iaddrn rfl Tryd.underlying22 Fsiz32 S H rfl rfl (by first | assumption | omega | (simp only [LL]; omega))) fun a S => ?_
     refine gy rfl rfl rfl S (y_faddr rfl Ffo32_1 S rfl) fun a S => ?_
     refine gy rfl rfl rfl S (y_loadsf _ rfl Fsca30 S H rfl (by first | assumption | omega | (simp only [LL]; omega)) rfl) fun a S => ?_
     refine gm S fun a S => ?_
     refine gy rfl rfl rfl S (y_iaddrn rfl Tryd.underlying30 Fsiz9 S H rfl rfl (by first | assumption | omega | (simp only [LL]; omega))) fun a S => ?_
     refine gy rfl rfl rfl S (y_loads _ rfl Fsca9 S H rfl (by first | assumption | omega | (simp only [LL]; omega)) rfl) fun a S => ?_
     refine gy rfl rfl rfl S (y_lenstr rfl Tryd.underlying9 S rfl) fun a S => ?_
     refine gy rfl rfl rfl S (y_bin rfl S rfl rfl rfl) fun a S => ?_
     refine gnt ?_
     have S := (((S.nil.cons S 2 rfl).cons S 5 rfl).cons S 6 rfl).cons S 64 rfl
     refine c_if S rfl (fun h7 => ?_) (fun h7 => ?_)
     ·have h7p := h7; try simp only [DL] at h7p
      have hfx : fewX t.chain[k] = false := by unfold fewX; rw [Bool.and_eq_false_iff]; exact .inr (List.all_eq_false.2 ⟨_, List.getElem_mem hjl, by simp; omega⟩)
      refine gsr ?_
      refine ga S fun a S => ?_
      refine gnt ?_
      refine g_ret ?_
      refine r_block (r_then (r_then (r_block (r_block (r_then (r_then (r_block (r_then (ret1 rfl S rfl ?_)))))))))
      exact ⟨congrArg Value.bool (by unfold fewB; rw [show t.chain.all fewX = false from List.all_eq_false.2 ⟨_, List.getElem_mem hkl, by rw [hfx]; simp⟩, Bool.and_false]), H.toExt⟩
     ·have h7p := h7; try simp only [DL] at h7p
      refine g_skip ?_
      refine n_block ?_
      refine n_then ?_
      refine g_region ?_
      refine gm S fun a S => ?_
      refine gy rfl rfl rfl S (y_add rfl S rfl rfl (by omega)) fun a S => ?_
      refine ga S fun a S => ?_
      refine gnt ?_
      refine ⟨j + 1, S.nil.cons S 6 rfl, (S.nil.cons S 2 rfl).cons S 5 rfl, H, ?_, ?_⟩
      · exact ⟨by omega, fun i hi hik => by by_cases hjk : i < j; exact hsk i hi hjk; (obtain rfl : i = j := by omega); omega⟩
      · omega
    ·have h6p := h6; try simp only [DL] at h6p
     obtain rfl : j = t.chain[k].sig.length := by omega
     have hfx : fewX t.chain[k] = true := by unfold fewX; rw [decide_eq_true hfa.1, decide_eq_true hfa.2, Bool.true_and, Bool.true_and]; exact List.all_eq_true.2 fun x hx => by obtain ⟨i, hi, rfl⟩ := List.getElem_of_mem hx; exact decide_eq_true (hsk i hi hi)
     refine g_exit ?_
     refine x_then (x_then (x_eq ?_))
     refine n_block ?_
     refine n_then ?_
     refine g_region ?_
     refine gm S fun a S => ?_
     refine gy rfl rfl rfl S (y_add rfl S rfl rfl (by omega)) fun a S => ?_
     refine ga S fun a S => ?_
     refine gnt ?_
     refine ⟨k + 1, S.nil.cons S 5 rfl, S.nil.cons S 2 rfl, H, ?_, ?_⟩
     · exact ⟨by omega, fun i hi hik => by by_cases hjk : i < k; exact hok i hi hjk; (obtain rfl : i = k := by omega); exact hfx⟩
     · omega
  ·have h3p := h3; try simp only [DL] at h3p
   obtain rfl : k = t.chain.length := by omega
   refine g_exit ?_
   refine x_then (x_then (x_eq ?_))
   refine n_then ?_
   refine gsr ?_
   refine ga S fun a S => ?_
   refine gnt ?_
   refine g_ret ?_
   refine ret1 rfl S rfl ?_
   exact ⟨congrArg Value.bool (by unfold fewB; rw [hyes, show t.chain.all fewX = true from List.all_eq_true.2 fun x hx => by obtain ⟨i, hi, rfl⟩ := List.getElem_of_mem hx; exact hok i hi hi]; rfl), H.toExt⟩
end Go.Proofs.YtngocpdmlijnfaaDoor
