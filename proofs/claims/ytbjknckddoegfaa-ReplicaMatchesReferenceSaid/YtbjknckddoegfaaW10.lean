/- The walks. No condition. -/
import Derived.Test.YtbjknckddoegfaaChecked
import Derived.Test.YtbjknckddoegfaaGwFam
import Derived.Test.YtbjknckddoegfaaFacts
import Derived.Test.YtbjknckddoegfaaPlainN
import Derived.Test.YtbjknckddoegfaaW1
namespace Go.Proofs.Ytbjknckddoegfaa
open Go Go.Gw
set_option linter.unusedVariables false
set_option linter.unusedSimpArgs false
/-- foyer/foyerref48.last -/
theorem rlast_spec (v : Value) (lg : List Ent) (w0 : World) (hl : IsSl w0 v 2 Ent.enc lg) :
    Ret Try.prog 33 #[v] w0 (fun u w => u = .int .i64 (lastT lg) ∧ Ext w0 w) := by
 refine ret_of_wp (nt := 13) Try.func33 rfl rfl rfl (fl := [(0, v)]) rfl (fun a S => ?_)
 have H := HSat.start w0
 have H := H.ro0 (Sl v 2 Ent.enc lg) rfl (hl)
 have hlen := hl.len
 refine gsr ?_
 refine ga S fun a S => ?_
 refine gnt ?_
 refine g_seq ?_
 refine gsr ?_
 refine gm S fun a S => ?_
 refine gy rfl rfl rfl S (y_lens rfl Try.underlying64 S H rfl) fun a S => ?_
 refine gy rfl rfl rfl S (y_bin rfl S rfl rfl rfl) fun a S => ?_
 refine gnt ?_
 refine c_if S rfl (fun h1 => ?_) (fun h1 => ?_)
 ·have h1p := h1; try simp only [DL] at h1p
  refine gsr ?_
  refine ga S fun a S => ?_
  refine gnt ?_
  have S := (S.nil.cons S 0 rfl).cons S 2 rfl
  refine g_ret ?_
  refine r_then (ret1 rfl S rfl ?_)
  exact ⟨by have e : lg = [] := List.eq_nil_of_length_eq_zero (by simpa using h1p); rw [e]; rfl, H.toExt⟩
 ·have h1p := h1; try simp only [DL] at h1p
  refine g_skip ?_
  refine n_then ?_
  refine gsr ?_
  refine gm S fun a S => ?_
  refine gm S fun a S => ?_
  refine gy rfl rfl rfl S (y_lens rfl Try.underlying64 S H rfl) fun a S => ?_
  refine gy rfl rfl rfl S (y_sub rfl S rfl rfl (by omega)) fun a S => ?_
  refine gy rfl rfl rfl S (y_iaddrs rfl Try.underlying64 Fsiz89 S H rfl rfl (by first | assumption | omega | (simp only [LL]; omega))) fun a S => ?_
  refine gy rfl rfl rfl S (y_faddr rfl Ffo89_0 S rfl) fun a S => ?_
  refine gy rfl rfl rfl S (y_loadsf _ rfl Fsca3 S H rfl (by first | assumption | omega | (simp only [LL]; omega)) rfl) fun a S => ?_
  refine ga S fun a S => ?_
  refine gnt ?_
  have S := S.nil.cons S 2 rfl
  refine g_ret ?_
  refine ret1 rfl S rfl ?_
  have hne : lg ≠ [] := fun e => by rw [e] at h1; simp at h1
  exact ⟨by rw [lastT_eq hne]; simp, H.toExt⟩
/-- (*foyer/foyerref48.Group).has -/
theorem rhas_spec (b n : Nat) (pv mv : Value) (pb : Nat → Nat) (i : Int) (w0 : World) (hb : w0.heap[b]? = some (.cells [pv, mv].toArray 62 (0, 0))) (hp : IsSl w0 pv 1 (encPt pb) (List.range n)) :
    Ret Try.prog 27 #[.pointer (some ⟨b, 0, none⟩), .int .i64 i] w0 (fun u w => u = .bool (hasB n i) ∧ Ext w0 w) := by
 refine ret_of_wp (nt := 20) Try.func27 rfl rfl rfl (fl := [(0, .pointer (some ⟨b, 0, none⟩)), (1, .int .i64 i)]) rfl (fun a S => ?_)
 have H := HSat.start w0
 have H := H.ro0 (Atom.ro (Cel b 62 [pv, mv])) rfl (hb)
 have H := H.ro0 (Sl pv 1 (encPt pb) (List.range n)) rfl (hp)
 refine gsr ?_
 refine ga S fun a S => ?_
 refine gnt ?_
 refine gsr ?_
 refine gm S fun a S => ?_
 refine gy rfl rfl rfl S (y_nep rfl Try.underlying29 S rfl rfl) fun a S => ?_
 refine gm S fun a S => ?_
 refine' wl_and 2 7 rfl S H rfl rfl rfl rfl rfl rfl rfl (fun _ S => (wn rfl)) (fun h1 kk => ?yh1) (fun a w S H => ?_)
 case yh1 =>
  have h1p := h1; try simp only [DL] at h1p
  refine gz 7 h1 S rfl rfl rfl rfl rfl rfl (y_move rfl S rfl) fun a S => ?_
  refine gz 7 h1 S rfl rfl rfl rfl rfl rfl (y_bin rfl S rfl rfl rfl) fun a S => ?_
  refine gy rfl rfl rfl S (y_and' rfl h1 S rfl rfl) fun a S => ?_
  exact kk _ _ (S.join 3 10 rfl rfl) H
 refine gm S fun a S => ?_
 refine' wl_and 7 11 rfl S H rfl rfl rfl rfl rfl rfl rfl (fun _ S => (wn rfl)) (fun h2 kk => ?yh2) (fun a w S H => ?_)
 case yh2 =>
  have h2p := h2; try simp only [DL] at h2p
  refine gz 11 h2 S rfl rfl rfl rfl rfl rfl (y_move rfl S rfl) fun a S => ?_
  refine gz 11 h2 S rfl rfl rfl rfl rfl rfl (y_move rfl S rfl) fun a S => ?_
  refine gz 11 h2 S rfl rfl rfl rfl rfl rfl (y_nilCheck rfl S rfl) fun a S => ?_
  refine gz 11 h2 S rfl rfl rfl rfl rfl rfl (y_faddrb rfl Ffo62_0 S rfl) fun a S => ?_
  refine gz 11 h2 S rfl rfl rfl rfl rfl rfl (y_load rfl Fsca60 S H rfl rfl) fun a S => ?_
  refine gz 11 h2 S rfl rfl rfl rfl rfl rfl (y_lens rfl Try.underlying60 S H rfl) fun a S => ?_
  refine gz 11 h2 S rfl rfl rfl rfl rfl rfl (y_bin rfl S rfl rfl rfl) fun a S => ?_
  refine gy rfl rfl rfl S (y_and' rfl h2 S rfl rfl) fun a S => ?_
  exact kk _ _ (S.join 8 19 rfl rfl) H
 refine ga S fun a S => ?_
 refine gnt ?_
 have S := S.nil.cons S 4 rfl
 refine g_ret ?_
 refine ret1 rfl S rfl ?_
 exact ⟨congrArg Value.bool (by simp [hasB]), H.toExt⟩
set_option maxHeartbeats 1000000 in
/-- (*foyer/foyerref48.Group).send -/
theorem rsend_spec {M : Nat → Prop} {u0 : World} {l : List Atom} (c : RC) (n : Nat) (g : Grp) (z : RGV) (i j : Nat) (m : MV) (w0 : World) (h0 : HSat M u0 (RGrpA c n g z :: RCel c :: RPts c n :: l) w0) (hi : i < n) (hj : j < n) (hm : ∀ t l d, m.1 = .share t l d → (m.2, l) ∈ z.bag) (hone : (mV m.1 m.2).oneCell' = true) (hq : (g.q i j).length ≤ 1000000) :
    Ret Try.prog 41 #[.pointer (some ⟨c.b, 0, none⟩), .int .i64 (i : Int), .int .i64 (j : Int), .agg [.int .i64 (mK m.1), .int .i64 m.1.term, .int .i64 (mL m.1), .int .i64 (mN m.1), .bool (mB m.1), mV m.1 m.2, .int .i64 (mD m.1)].toArray] w0 (fun u w => u = .tuple #[] ∧ ∃ z', z'.bag = z.bag ∧ HSat M u0 (RGrpA c n (g.send i j m.1) z' :: RCel c :: RPts c n :: l) w) := by
 refine ret_of_wp (nt := 36) Try.func41 rfl rfl rfl (fl := [(0, .pointer (some ⟨c.b, 0, none⟩)), (1, .int .i64 (i : Int)), (2, .int .i64 (j : Int)), (3, .agg [.int .i64 (mK m.1), .int .i64 m.1.term, .int .i64 (mL m.1), .int .i64 (mN m.1), .bool (mB m.1), mV m.1 m.2, .int .i64 (mD m.1)].toArray)]) rfl (fun a S => ?_)
 obtain ⟨H, hz⟩ := rgrpOut h0
 have hn7 := hz.n7
 have hx := idx_lt hi hj
 have hm1 : i * n ≤ 7 * 7 := Nat.mul_le_mul (by omega) hn7
 have hxl : i * n + j < z.qs.length := by rw [hz.ql]; exact hx
 obtain ⟨rv, rx, hrw⟩ : ∃ rv rx, z.row n i j = (rv, rx) := ⟨_, _, rfl⟩
 have hrm := hz.row_mem hi hj
 have hre := hz.qe i j hi hj
 rw [hrw] at hrm hre
 have hql : rx.length ≤ 1000000 := by have := congrArg List.length hre; rw [List.length_map] at this; dsimp only at this; omega
 have iQ : ∀ l, HasSl (BagA 7 encRM z.mb :: l) rv 7 MV encRM rx := bagSl (hz.qb _ hrm)
 have hons := rmOne (hz.sh _ hrm) (H.ok (BagA 2 Ent.enc z.bag) (by simp))
 refine gsr ?_
 refine wl_of (op_boxa (wn rfl) rfl rfl rfl S H rfl fun b7 a w S H => ?_)
 refine gnt ?_
 refine gsr ?_
 refine gm S fun a S => ?_
 refine gm S fun a S => ?_
 refine gy rfl rfl rfl S (y_nilCheck rfl S rfl) fun a S => ?_
 refine gy rfl rfl rfl S (y_faddrb rfl Ffo62_0 S rfl) fun a S => ?_
 refine gy rfl rfl rfl S (y_load rfl Fsca60 S H rfl rfl) fun a S => ?_
 refine gy rfl rfl rfl S (y_lens rfl Try.underlying60 S H rfl) fun a S => ?_
 rw [List.length_range] at S
 refine gy rfl rfl rfl S (y_mul rfl S rfl rfl (by omega)) fun a S => ?_
 rw [← Int.natCast_mul] at S
 refine gm S fun a S => ?_
 refine gy rfl rfl rfl S (y_add rfl S rfl rfl (by omega)) fun a S => ?_
 rw [← Int.natCast_add] at S
 refine ga S fun a S => ?_
 refine gnt ?_
 have S := ((S.nil.cons S 0 rfl).cons S 7 rfl).cons S 8 rfl
 refine cutQ (fun a w => ∃ u34, St 36 [] a ∧ HSat M u0 ([RPrs c n g z, OSl 74 c.qv 1 encRow (z.qs.set (i * n + j) (u34, rx ++ [m])), OSl 76 u34 7 encRM (rx ++ [m]), BagA 7 encRM z.mb, BagA 2 Ent.enc z.bag] ++ (RCel c :: RPts c n :: l)) w) ?_ ?_
 ·skip
  refine t_st (tails := [13, 16, 18]) [] Fmo H ?_
  refine t_p 0 rfl (by kernel_rfl) (rem' := [1, 2, 3, 4, 5, 6, 7, 8, 9, 10, 11, 12, 13, 14, 15, 16, 17, 18]) rfl rfl rfl rfl S (fun w => y_move rfl S rfl) fun a S => ?_
  refine t_p 1 rfl (by kernel_rfl) (rem' := [2, 3, 4, 5, 6, 7, 8, 9, 10, 11, 12, 13, 14, 15, 16, 17, 18]) rfl rfl rfl rfl S (fun w => y_nilCheck rfl S rfl) fun a S => ?_
  refine t_p 2 rfl (by kernel_rfl) (rem' := [3, 4, 5, 6, 7, 8, 9, 10, 11, 12, 13, 14, 15, 16, 17, 18]) rfl rfl rfl rfl S (fun w => y_faddrb rfl Ffo62_1 S rfl) fun a S => ?_
  refine t_p 4 rfl (by kernel_rfl) (rem' := [3, 5, 6, 7, 8, 9, 10, 11, 12, 13, 14, 15, 16, 17, 18]) rfl rfl rfl rfl S (fun w => y_move rfl S rfl) fun a S => ?_
  refine t_q 6 rfl (by kernel_rfl) (rem' := [3, 5, 7, 8, 9, 10, 11, 12, 13, 14, 15, 16, 17, 18]) rfl rfl rfl rfl S (fun w H => y_move rfl S rfl) fun a S => ?_
  refine t_q 7 rfl (by kernel_rfl) (rem' := [3, 5, 8, 9, 10, 11, 12, 13, 14, 15, 16, 17, 18]) rfl rfl rfl rfl S (fun w H => y_nilCheck rfl S rfl) fun a S => ?_
  refine t_q 8 rfl (by kernel_rfl) (rem' := [3, 5, 9, 10, 11, 12, 13, 14, 15, 16, 17, 18]) rfl rfl rfl rfl S (fun w H => y_faddrb rfl Ffo62_1 S rfl) fun a S => ?_
  refine t_q 9 rfl (by kernel_rfl) (rem' := [3, 5, 10, 11, 12, 13, 14, 15, 16, 17, 18]) rfl rfl rfl rfl S (fun w H => y_load rfl Fsca59 S H rfl rfl) fun a S => ?_
  refine t_q 10 rfl (by kernel_rfl) (rem' := [3, 5, 11, 12, 13, 14, 15, 16, 17, 18]) rfl rfl rfl rfl S (fun w H => y_move rfl S rfl) fun a S => ?_
  refine t_q 11 rfl (by kernel_rfl) (rem' := [3, 5, 12, 13, 14, 15, 16, 17, 18]) rfl rfl rfl rfl S (fun w H => y_iaddrn rfl Try.underlying59 Fsiz74 S H rfl rfl (by first | assumption | omega | (simp only [List.length_range]; omega) | (simp only [List.length_replicate]; omega) | (simp only [List.length_cons]; omega))) fun a S => ?_
  refine t_q 12 rfl (by kernel_rfl) (rem' := [3, 5, 13, 14, 15, 16, 17, 18]) rfl rfl rfl rfl S (fun w H => (y_loadsD c.qv (.slice none 0 0, []) rfl Fsca74 S H rfl (by omega) (show (encRow (z.row n i j))[0]? = some rv by rw [hrw]; rfl))) fun a S => ?_
  refine t_b [3, 5, 14] (by kernel_rfl) rfl (fa3 ?_ ?_ ?_)
  ·refine ⟨_, rfl, fun w H => ?_⟩
   refine op_y (wn rfl) rfl rfl S (y_load rfl Fsca59 S H rfl rfl) fun a S => ?_
   refine t_n H (rem' := [5, 13, 14, 15, 16, 17, 18]) rfl ?_
   refine t_b [5, 14] (by kernel_rfl) rfl (fa2 ?_ ?_)
   ·refine ⟨_, rfl, fun w H => ?_⟩
    refine op_buildSlice (wn rfl) rfl rfl rfl Try.underlying74 Finf76 S H (idx := []) rfl rfl rfl (z := []) (by kernel_rfl) (cs := []) rfl fun b23 a w S H => ?_
    have H := H.celO [] encRM 7 (m := 0) rfl (by simp) rfl (by omega)
    refine t_n H (rem' := [13, 14, 15, 16, 17, 18]) rfl ?_
    refine t_b [13, 14] (by kernel_rfl) rfl (fa2 ?_ ?_)
    ·refine ⟨_, rfl, fun w H => ?_⟩
     refine op_appendT (wn rfl) rfl rfl rfl Try.underlying74 Finf76 rfl rfl S H rfl rfl (by simp; exact fun a b hab => hons (a, b) hab) (by simp only [List.length_nil]; omega) (by simp only [List.length_nil]; omega) fun u31 a w S H => ?_
     refine t_tail H rfl (rem' := [14, 15, 16, 17, 18]) rfl ?_
     refine t_q 14 rfl (by kernel_rfl) (rem' := [15, 16, 17, 18]) rfl rfl rfl rfl S (fun w H => y_load0 rfl S H rfl (by exact Fagg76)) fun a S => ?_
     refine t_b1 15 (by kernel_rfl) rfl fun w H => ?_
     refine op_buildSlice (wn rfl) rfl rfl rfl Try.underlying74 Finf76 S H (idx := [0]) rfl rfl rfl (z := [.int .i64 0, .int .i64 0, .int .i64 0, .int .i64 0, .bool false, .slice none 0 0, .int .i64 0]) (by kernel_rfl) (cs := [.int .i64 (mK m.1), .int .i64 m.1.term, .int .i64 (mL m.1), .int .i64 (mN m.1), .bool (mB m.1), mV m.1 m.2, .int .i64 (mD m.1)]) (fillRM hone) fun b33 a w S H => ?_
     refine t_n H (rem' := [16, 17, 18]) rfl ?_
     refine t_b1 16 (by kernel_rfl) rfl fun w H => ?_
     refine op_append ([m]) (wn rfl) rfl rfl rfl Try.underlying74 Finf76 rfl rfl S H rfl rfl rfl rfl (by simp) (by simp [encRM, rmC]) (by simp [encRM, rmC, Value.oneCell']; exact hone) (by simp only [List.nil_append, List.length_singleton]; omega) (by simp only [List.nil_append, List.length_singleton]; omega) fun u34 a w hn34 S H => ?_
     refine t_tail H rfl (rem' := [17, 18]) rfl ?_
     refine t_q 17 rfl (by kernel_rfl) (rem' := [18]) rfl rfl rfl rfl S (fun w H => y_iaddrn rfl Try.underlying59 Fsiz74 S H rfl rfl (by first | assumption | omega | (simp only [List.length_range]; omega) | (simp only [List.length_replicate]; omega) | (simp only [List.length_cons]; omega))) fun a S => ?_
     refine t_b1 18 (by kernel_rfl) rfl fun w H => ?_
     refine op_store1 _ ((u34, rx ++ [m])) (wn rfl) rfl rfl S H rfl rfl (H.slc _) (H.sl1 _) Fsiz74 (by first | assumption | omega | (simp only [List.length_range]; omega) | (simp only [List.length_replicate]; omega) | (simp only [List.length_cons]; omega)) (by exact rfl) fun a w S H => ?_
     refine t_tail H rfl (rem' := []) rfl ?_
     refine t_nil (fun w H => ?_)
     rw [List.nil_append] at H
     exact ⟨u34, S.nil, H.takeT [RPrs c n g z, OSl 74 c.qv 1 encRow (z.qs.set (i * n + j) (u34, rx ++ [m])), OSl 76 u34 7 encRM (rx ++ [m]), BagA 7 encRM z.mb, BagA 2 Ent.enc z.bag] (RCel c :: RPts c n :: l)⟩
    ·refine ⟨_, rfl, fun w H => ?_⟩
     refine op_y (wn rfl) rfl rfl S (y_load0 rfl S H rfl (by exact Fagg76)) fun a S => ?_
     refine t_n H (rem' := [13, 15, 16, 17, 18]) rfl ?_
     refine t_b [13, 15] (by kernel_rfl) rfl (fa2 ?_ ?_)
     ·refine ⟨_, rfl, fun w H => ?_⟩
      refine op_appendT (wn rfl) rfl rfl rfl Try.underlying74 Finf76 rfl rfl S H rfl rfl (by simp; exact fun a b hab => hons (a, b) hab) (by simp only [List.length_nil]; omega) (by simp only [List.length_nil]; omega) fun u31 a w S H => ?_
      refine t_tail H rfl (rem' := [15, 16, 17, 18]) rfl ?_
      refine t_b1 15 (by kernel_rfl) rfl fun w H => ?_
      refine op_buildSlice (wn rfl) rfl rfl rfl Try.underlying74 Finf76 S H (idx := [0]) rfl rfl rfl (z := [.int .i64 0, .int .i64 0, .int .i64 0, .int .i64 0, .bool false, .slice none 0 0, .int .i64 0]) (by kernel_rfl) (cs := [.int .i64 (mK m.1), .int .i64 m.1.term, .int .i64 (mL m.1), .int .i64 (mN m.1), .bool (mB m.1), mV m.1 m.2, .int .i64 (mD m.1)]) (fillRM hone) fun b33 a w S H => ?_
      refine t_n H (rem' := [16, 17, 18]) rfl ?_
      refine t_b1 16 (by kernel_rfl) rfl fun w H => ?_
      refine op_append ([m]) (wn rfl) rfl rfl rfl Try.underlying74 Finf76 rfl rfl S H rfl rfl rfl rfl (by simp) (by simp [encRM, rmC]) (by simp [encRM, rmC, Value.oneCell']; exact hone) (by simp only [List.nil_append, List.length_singleton]; omega) (by simp only [List.nil_append, List.length_singleton]; omega) fun u34 a w hn34 S H => ?_
      refine t_tail H rfl (rem' := [17, 18]) rfl ?_
      refine t_q 17 rfl (by kernel_rfl) (rem' := [18]) rfl rfl rfl rfl S (fun w H => y_iaddrn rfl Try.underlying59 Fsiz74 S H rfl rfl (by first | assumption | omega | (simp only [List.length_range]; omega) | (simp only [List.length_replicate]; omega) | (simp only [List.length_cons]; omega))) fun a S => ?_
      refine t_b1 18 (by kernel_rfl) rfl fun w H => ?_
      refine op_store1 _ ((u34, rx ++ [m])) (wn rfl) rfl rfl S H rfl rfl (H.slc _) (H.sl1 _) Fsiz74 (by first | assumption | omega | (simp only [List.length_range]; omega) | (simp only [List.length_replicate]; omega) | (simp only [List.length_cons]; omega)) (by exact rfl) fun a w S H => ?_
      refine t_tail H rfl (rem' := []) rfl ?_
      refine t_nil (fun w H => ?_)
      rw [List.nil_append] at H
      exact ⟨u34, S.nil, H.takeT [RPrs c n g z, OSl 74 c.qv 1 encRow (z.qs.set (i * n + j) (u34, rx ++ [m])), OSl 76 u34 7 encRM (rx ++ [m]), BagA 7 encRM z.mb, BagA 2 Ent.enc z.bag] (RCel c :: RPts c n :: l)⟩
     ·refine ⟨_, rfl, fun w H => ?_⟩
      refine op_buildSlice (wn rfl) rfl rfl rfl Try.underlying74 Finf76 S H (idx := [0]) rfl rfl rfl (z := [.int .i64 0, .int .i64 0, .int .i64 0, .int .i64 0, .bool false, .slice none 0 0, .int .i64 0]) (by kernel_rfl) (cs := [.int .i64 (mK m.1), .int .i64 m.1.term, .int .i64 (mL m.1), .int .i64 (mN m.1), .bool (mB m.1), mV m.1 m.2, .int .i64 (mD m.1)]) (fillRM hone) fun b33 a w S H => ?_
      refine t_n H (rem' := [13, 16, 17, 18]) rfl ?_
      refine t_b1 13 (by kernel_rfl) rfl fun w H => ?_
      refine op_appendT (wn rfl) rfl rfl rfl Try.underlying74 Finf76 rfl rfl S H rfl rfl (by simp; exact fun a b hab => hons (a, b) hab) (by simp only [List.length_nil]; omega) (by simp only [List.length_nil]; omega) fun u31 a w S H => ?_
      refine t_tail H rfl (rem' := [16, 17, 18]) rfl ?_
      refine t_b1 16 (by kernel_rfl) rfl fun w H => ?_
      refine op_append ([m]) (wn rfl) rfl rfl rfl Try.underlying74 Finf76 rfl rfl S H rfl rfl rfl rfl (by simp) (by simp [encRM, rmC]) (by simp [encRM, rmC, Value.oneCell']; exact hone) (by simp only [List.nil_append, List.length_singleton]; omega) (by simp only [List.nil_append, List.length_singleton]; omega) fun u34 a w hn34 S H => ?_
      refine t_tail H rfl (rem' := [17, 18]) rfl ?_
      refine t_q 17 rfl (by kernel_rfl) (rem' := [18]) rfl rfl rfl rfl S (fun w H => y_iaddrn rfl Try.underlying59 Fsiz74 S H rfl rfl (by first | assumption | omega | (simp only [List.length_range]; omega) | (simp only [List.length_replicate]; omega) | (simp only [List.length_cons]; omega))) fun a S => ?_
      refine t_b1 18 (by kernel_rfl) rfl fun w H => ?_
      refine op_store1 _ ((u34, rx ++ [m])) (wn rfl) rfl rfl S H rfl rfl (H.slc _) (H.sl1 _) Fsiz74 (by first | assumption | omega | (simp only [List.length_range]; omega) | (simp only [List.length_replicate]; omega) | (simp only [List.length_cons]; omega)) (by exact rfl) fun a w S H => ?_
      refine t_tail H rfl (rem' := []) rfl ?_
      refine t_nil (fun w H => ?_)
      rw [List.nil_append] at H
      exact ⟨u34, S.nil, H.takeT [RPrs c n g z, OSl 74 c.qv 1 encRow (z.qs.set (i * n + j) (u34, rx ++ [m])), OSl 76 u34 7 encRM (rx ++ [m]), BagA 7 encRM z.mb, BagA 2 Ent.enc z.bag] (RCel c :: RPts c n :: l)⟩
   ·refine ⟨_, rfl, fun w H => ?_⟩
    refine op_y (wn rfl) rfl rfl S (y_load0 rfl S H rfl (by exact Fagg76)) fun a S => ?_
    refine t_n H (rem' := [5, 13, 15, 16, 17, 18]) rfl ?_
    refine t_b [5, 15] (by kernel_rfl) rfl (fa2 ?_ ?_)
    ·refine ⟨_, rfl, fun w H => ?_⟩
     refine op_buildSlice (wn rfl) rfl rfl rfl Try.underlying74 Finf76 S H (idx := []) rfl rfl rfl (z := []) (by kernel_rfl) (cs := []) rfl fun b23 a w S H => ?_
     have H := H.celO [] encRM 7 (m := 0) rfl (by simp) rfl (by omega)
     refine t_n H (rem' := [13, 15, 16, 17, 18]) rfl ?_
     refine t_b [13, 15] (by kernel_rfl) rfl (fa2 ?_ ?_)
     ·refine ⟨_, rfl, fun w H => ?_⟩
      refine op_appendT (wn rfl) rfl rfl rfl Try.underlying74 Finf76 rfl rfl S H rfl rfl (by simp; exact fun a b hab => hons (a, b) hab) (by simp only [List.length_nil]; omega) (by simp only [List.length_nil]; omega) fun u31 a w S H => ?_
      refine t_tail H rfl (rem' := [15, 16, 17, 18]) rfl ?_
      refine t_b1 15 (by kernel_rfl) rfl fun w H => ?_
      refine op_buildSlice (wn rfl) rfl rfl rfl Try.underlying74 Finf76 S H (idx := [0]) rfl rfl rfl (z := [.int .i64 0, .int .i64 0, .int .i64 0, .int .i64 0, .bool false, .slice none 0 0, .int .i64 0]) (by kernel_rfl) (cs := [.int .i64 (mK m.1), .int .i64 m.1.term, .int .i64 (mL m.1), .int .i64 (mN m.1), .bool (mB m.1), mV m.1 m.2, .int .i64 (mD m.1)]) (fillRM hone) fun b33 a w S H => ?_
      refine t_n H (rem' := [16, 17, 18]) rfl ?_
      refine t_b1 16 (by kernel_rfl) rfl fun w H => ?_
      refine op_append ([m]) (wn rfl) rfl rfl rfl Try.underlying74 Finf76 rfl rfl S H rfl rfl rfl rfl (by simp) (by simp [encRM, rmC]) (by simp [encRM, rmC, Value.oneCell']; exact hone) (by simp only [List.nil_append, List.length_singleton]; omega) (by simp only [List.nil_append, List.length_singleton]; omega) fun u34 a w hn34 S H => ?_
      refine t_tail H rfl (rem' := [17, 18]) rfl ?_
      refine t_q 17 rfl (by kernel_rfl) (rem' := [18]) rfl rfl rfl rfl S (fun w H => y_iaddrn rfl Try.underlying59 Fsiz74 S H rfl rfl (by first | assumption | omega | (simp only [List.length_range]; omega) | (simp only [List.length_replicate]; omega) | (simp only [List.length_cons]; omega))) fun a S => ?_
      refine t_b1 18 (by kernel_rfl) rfl fun w H => ?_
      refine op_store1 _ ((u34, rx ++ [m])) (wn rfl) rfl rfl S H rfl rfl (H.slc _) (H.sl1 _) Fsiz74 (by first | assumption | omega | (simp only [List.length_range]; omega) | (simp only [List.length_replicate]; omega) | (simp only [List.length_cons]; omega)) (by exact rfl) fun a w S H => ?_
      refine t_tail H rfl (rem' := []) rfl ?_
      refine t_nil (fun w H => ?_)
      rw [List.nil_append] at H
      exact ⟨u34, S.nil, H.takeT [RPrs c n g z, OSl 74 c.qv 1 encRow (z.qs.set (i * n + j) (u34, rx ++ [m])), OSl 76 u34 7 encRM (rx ++ [m]), BagA 7 encRM z.mb, BagA 2 Ent.enc z.bag] (RCel c :: RPts c n :: l)⟩
     ·refine ⟨_, rfl, fun w H => ?_⟩
      refine op_buildSlice (wn rfl) rfl rfl rfl Try.underlying74 Finf76 S H (idx := [0]) rfl rfl rfl (z := [.int .i64 0, .int .i64 0, .int .i64 0, .int .i64 0, .bool false, .slice none 0 0, .int .i64 0]) (by kernel_rfl) (cs := [.int .i64 (mK m.1), .int .i64 m.1.term, .int .i64 (mL m.1), .int .i64 (mN m.1), .bool (mB m.1), mV m.1 m.2, .int .i64 (mD m.1)]) (fillRM hone) fun b33 a w S H => ?_
      refine t_n H (rem' := [13, 16, 17, 18]) rfl ?_
      refine t_b1 13 (by kernel_rfl) rfl fun w H => ?_
      refine op_appendT (wn rfl) rfl rfl rfl Try.underlying74 Finf76 rfl rfl S H rfl rfl (by simp; exact fun a b hab => hons (a, b) hab) (by simp only [List.length_nil]; omega) (by simp only [List.length_nil]; omega) fun u31 a w S H => ?_
      refine t_tail H rfl (rem' := [16, 17, 18]) rfl ?_
      refine t_b1 16 (by kernel_rfl) rfl fun w H => ?_
      refine op_append ([m]) (wn rfl) rfl rfl rfl Try.underlying74 Finf76 rfl rfl S H rfl rfl rfl rfl (by simp) (by simp [encRM, rmC]) (by simp [encRM, rmC, Value.oneCell']; exact hone) (by simp only [List.nil_append, List.length_singleton]; omega) (by simp only [List.nil_append, List.length_singleton]; omega) fun u34 a w hn34 S H => ?_
      refine t_tail H rfl (rem' := [17, 18]) rfl ?_
      refine t_q 17 rfl (by kernel_rfl) (rem' := [18]) rfl rfl rfl rfl S (fun w H => y_iaddrn rfl Try.underlying59 Fsiz74 S H rfl rfl (by first | assumption | omega | (simp only [List.length_range]; omega) | (simp only [List.length_replicate]; omega) | (simp only [List.length_cons]; omega))) fun a S => ?_
      refine t_b1 18 (by kernel_rfl) rfl fun w H => ?_
      refine op_store1 _ ((u34, rx ++ [m])) (wn rfl) rfl rfl S H rfl rfl (H.slc _) (H.sl1 _) Fsiz74 (by first | assumption | omega | (simp only [List.length_range]; omega) | (simp only [List.length_replicate]; omega) | (simp only [List.length_cons]; omega)) (by exact rfl) fun a w S H => ?_
      refine t_tail H rfl (rem' := []) rfl ?_
      refine t_nil (fun w H => ?_)
      rw [List.nil_append] at H
      exact ⟨u34, S.nil, H.takeT [RPrs c n g z, OSl 74 c.qv 1 encRow (z.qs.set (i * n + j) (u34, rx ++ [m])), OSl 76 u34 7 encRM (rx ++ [m]), BagA 7 encRM z.mb, BagA 2 Ent.enc z.bag] (RCel c :: RPts c n :: l)⟩
    ·refine ⟨_, rfl, fun w H => ?_⟩
     refine op_buildSlice (wn rfl) rfl rfl rfl Try.underlying74 Finf76 S H (idx := [0]) rfl rfl rfl (z := [.int .i64 0, .int .i64 0, .int .i64 0, .int .i64 0, .bool false, .slice none 0 0, .int .i64 0]) (by kernel_rfl) (cs := [.int .i64 (mK m.1), .int .i64 m.1.term, .int .i64 (mL m.1), .int .i64 (mN m.1), .bool (mB m.1), mV m.1 m.2, .int .i64 (mD m.1)]) (fillRM hone) fun b33 a w S H => ?_
     refine t_n H (rem' := [5, 13, 16, 17, 18]) rfl ?_
     refine t_b1 5 (by kernel_rfl) rfl fun w H => ?_
     refine op_buildSlice (wn rfl) rfl rfl rfl Try.underlying74 Finf76 S H (idx := []) rfl rfl rfl (z := []) (by kernel_rfl) (cs := []) rfl fun b23 a w S H => ?_
     have H := H.celO [] encRM 7 (m := 0) rfl (by simp) rfl (by omega)
     refine t_n H (rem' := [13, 16, 17, 18]) rfl ?_
     refine t_b1 13 (by kernel_rfl) rfl fun w H => ?_
     refine op_appendT (wn rfl) rfl rfl rfl Try.underlying74 Finf76 rfl rfl S H rfl rfl (by simp; exact fun a b hab => hons (a, b) hab) (by simp only [List.length_nil]; omega) (by simp only [List.length_nil]; omega) fun u31 a w S H => ?_
     refine t_tail H rfl (rem' := [16, 17, 18]) rfl ?_
     refine t_b1 16 (by kernel_rfl) rfl fun w H => ?_
     refine op_append ([m]) (wn rfl) rfl rfl rfl Try.underlying74 Finf76 rfl rfl S H rfl rfl rfl rfl (by simp) (by simp [encRM, rmC]) (by simp [encRM, rmC, Value.oneCell']; exact hone) (by simp only [List.nil_append, List.length_singleton]; omega) (by simp only [List.nil_append, List.length_singleton]; omega) fun u34 a w hn34 S H => ?_
     refine t_tail H rfl (rem' := [17, 18]) rfl ?_
     refine t_q 17 rfl (by kernel_rfl) (rem' := [18]) rfl rfl rfl rfl S (fun w H => y_iaddrn rfl Try.underlying59 Fsiz74 S H rfl rfl (by first | assumption | omega | (simp only [List.length_range]; omega) | (simp only [List.length_replicate]; omega) | (simp only [List.length_cons]; omega))) fun a S => ?_
     refine t_b1 18 (by kernel_rfl) rfl fun w H => ?_
     refine op_store1 _ ((u34, rx ++ [m])) (wn rfl) rfl rfl S H rfl rfl (H.slc _) (H.sl1 _) Fsiz74 (by first | assumption | omega | (simp only [List.length_range]; omega) | (simp only [List.length_replicate]; omega) | (simp only [List.length_cons]; omega)) (by exact rfl) fun a w S H => ?_
     refine t_tail H rfl (rem' := []) rfl ?_
     refine t_nil (fun w H => ?_)
     rw [List.nil_append] at H
     exact ⟨u34, S.nil, H.takeT [RPrs c n g z, OSl 74 c.qv 1 encRow (z.qs.set (i * n + j) (u34, rx ++ [m])), OSl 76 u34 7 encRM (rx ++ [m]), BagA 7 encRM z.mb, BagA 2 Ent.enc z.bag] (RCel c :: RPts c n :: l)⟩
  ·refine ⟨_, rfl, fun w H => ?_⟩
   refine op_buildSlice (wn rfl) rfl rfl rfl Try.underlying74 Finf76 S H (idx := []) rfl rfl rfl (z := []) (by kernel_rfl) (cs := []) rfl fun b23 a w S H => ?_
   have H := H.celO [] encRM 7 (m := 0) rfl (by simp) rfl (by omega)
   refine t_n H (rem' := [3, 13, 14, 15, 16, 17, 18]) rfl ?_
   refine t_b [3, 13, 14] (by kernel_rfl) rfl (fa3 ?_ ?_ ?_)
   ·refine ⟨_, rfl, fun w H => ?_⟩
    refine op_y (wn rfl) rfl rfl S (y_load rfl Fsca59 S H rfl rfl) fun a S => ?_
    refine t_n H (rem' := [13, 14, 15, 16, 17, 18]) rfl ?_
    refine t_b [13, 14] (by kernel_rfl) rfl (fa2 ?_ ?_)
    ·refine ⟨_, rfl, fun w H => ?_⟩
     refine op_appendT (wn rfl) rfl rfl rfl Try.underlying74 Finf76 rfl rfl S H rfl rfl (by simp; exact fun a b hab => hons (a, b) hab) (by simp only [List.length_nil]; omega) (by simp only [List.length_nil]; omega) fun u31 a w S H => ?_
     refine t_tail H rfl (rem' := [14, 15, 16, 17, 18]) rfl ?_
     refine t_q 14 rfl (by kernel_rfl) (rem' := [15, 16, 17, 18]) rfl rfl rfl rfl S (fun w H => y_load0 rfl S H rfl (by exact Fagg76)) fun a S => ?_
     refine t_b1 15 (by kernel_rfl) rfl fun w H => ?_
     refine op_buildSlice (wn rfl) rfl rfl rfl Try.underlying74 Finf76 S H (idx := [0]) rfl rfl rfl (z := [.int .i64 0, .int .i64 0, .int .i64 0, .int .i64 0, .bool false, .slice none 0 0, .int .i64 0]) (by kernel_rfl) (cs := [.int .i64 (mK m.1), .int .i64 m.1.term, .int .i64 (mL m.1), .int .i64 (mN m.1), .bool (mB m.1), mV m.1 m.2, .int .i64 (mD m.1)]) (fillRM hone) fun b33 a w S H => ?_
     refine t_n H (rem' := [16, 17, 18]) rfl ?_
     refine t_b1 16 (by kernel_rfl) rfl fun w H => ?_
     refine op_append ([m]) (wn rfl) rfl rfl rfl Try.underlying74 Finf76 rfl rfl S H rfl rfl rfl rfl (by simp) (by simp [encRM, rmC]) (by simp [encRM, rmC, Value.oneCell']; exact hone) (by simp only [List.nil_append, List.length_singleton]; omega) (by simp only [List.nil_append, List.length_singleton]; omega) fun u34 a w hn34 S H => ?_
     refine t_tail H rfl (rem' := [17, 18]) rfl ?_
     refine t_q 17 rfl (by kernel_rfl) (rem' := [18]) rfl rfl rfl rfl S (fun w H => y_iaddrn rfl Try.underlying59 Fsiz74 S H rfl rfl (by first | assumption | omega | (simp only [List.length_range]; omega) | (simp only [List.length_replicate]; omega) | (simp only [List.length_cons]; omega))) fun a S => ?_
     refine t_b1 18 (by kernel_rfl) rfl fun w H => ?_
     refine op_store1 _ ((u34, rx ++ [m])) (wn rfl) rfl rfl S H rfl rfl (H.slc _) (H.sl1 _) Fsiz74 (by first | assumption | omega | (simp only [List.length_range]; omega) | (simp only [List.length_replicate]; omega) | (simp only [List.length_cons]; omega)) (by exact rfl) fun a w S H => ?_
     refine t_tail H rfl (rem' := []) rfl ?_
     refine t_nil (fun w H => ?_)
     rw [List.nil_append] at H
     exact ⟨u34, S.nil, H.takeT [RPrs c n g z, OSl 74 c.qv 1 encRow (z.qs.set (i * n + j) (u34, rx ++ [m])), OSl 76 u34 7 encRM (rx ++ [m]), BagA 7 encRM z.mb, BagA 2 Ent.enc z.bag] (RCel c :: RPts c n :: l)⟩
    ·refine ⟨_, rfl, fun w H => ?_⟩
     refine op_y (wn rfl) rfl rfl S (y_load0 rfl S H rfl (by exact Fagg76)) fun a S => ?_
     refine t_n H (rem' := [13, 15, 16, 17, 18]) rfl ?_
     refine t_b [13, 15] (by kernel_rfl) rfl (fa2 ?_ ?_)
     ·refine ⟨_, rfl, fun w H => ?_⟩
      refine op_appendT (wn rfl) rfl rfl rfl Try.underlying74 Finf76 rfl rfl S H rfl rfl (by simp; exact fun a b hab => hons (a, b) hab) (by simp only [List.length_nil]; omega) (by simp only [List.length_nil]; omega) fun u31 a w S H => ?_
      refine t_tail H rfl (rem' := [15, 16, 17, 18]) rfl ?_
      refine t_b1 15 (by kernel_rfl) rfl fun w H => ?_
      refine op_buildSlice (wn rfl) rfl rfl rfl Try.underlying74 Finf76 S H (idx := [0]) rfl rfl rfl (z := [.int .i64 0, .int .i64 0, .int .i64 0, .int .i64 0, .bool false, .slice none 0 0, .int .i64 0]) (by kernel_rfl) (cs := [.int .i64 (mK m.1), .int .i64 m.1.term, .int .i64 (mL m.1), .int .i64 (mN m.1), .bool (mB m.1), mV m.1 m.2, .int .i64 (mD m.1)]) (fillRM hone) fun b33 a w S H => ?_
      refine t_n H (rem' := [16, 17, 18]) rfl ?_
      refine t_b1 16 (by kernel_rfl) rfl fun w H => ?_
      refine op_append ([m]) (wn rfl) rfl rfl rfl Try.underlying74 Finf76 rfl rfl S H rfl rfl rfl rfl (by simp) (by simp [encRM, rmC]) (by simp [encRM, rmC, Value.oneCell']; exact hone) (by simp only [List.nil_append, List.length_singleton]; omega) (by simp only [List.nil_append, List.length_singleton]; omega) fun u34 a w hn34 S H => ?_
      refine t_tail H rfl (rem' := [17, 18]) rfl ?_
      refine t_q 17 rfl (by kernel_rfl) (rem' := [18]) rfl rfl rfl rfl S (fun w H => y_iaddrn rfl Try.underlying59 Fsiz74 S H rfl rfl (by first | assumption | omega | (simp only [List.length_range]; omega) | (simp only [List.length_replicate]; omega) | (simp only [List.length_cons]; omega))) fun a S => ?_
      refine t_b1 18 (by kernel_rfl) rfl fun w H => ?_
      refine op_store1 _ ((u34, rx ++ [m])) (wn rfl) rfl rfl S H rfl rfl (H.slc _) (H.sl1 _) Fsiz74 (by first | assumption | omega | (simp only [List.length_range]; omega) | (simp only [List.length_replicate]; omega) | (simp only [List.length_cons]; omega)) (by exact rfl) fun a w S H => ?_
      refine t_tail H rfl (rem' := []) rfl ?_
      refine t_nil (fun w H => ?_)
      rw [List.nil_append] at H
      exact ⟨u34, S.nil, H.takeT [RPrs c n g z, OSl 74 c.qv 1 encRow (z.qs.set (i * n + j) (u34, rx ++ [m])), OSl 76 u34 7 encRM (rx ++ [m]), BagA 7 encRM z.mb, BagA 2 Ent.enc z.bag] (RCel c :: RPts c n :: l)⟩
     ·refine ⟨_, rfl, fun w H => ?_⟩
      refine op_buildSlice (wn rfl) rfl rfl rfl Try.underlying74 Finf76 S H (idx := [0]) rfl rfl rfl (z := [.int .i64 0, .int .i64 0, .int .i64 0, .int .i64 0, .bool false, .slice none 0 0, .int .i64 0]) (by kernel_rfl) (cs := [.int .i64 (mK m.1), .int .i64 m.1.term, .int .i64 (mL m.1), .int .i64 (mN m.1), .bool (mB m.1), mV m.1 m.2, .int .i64 (mD m.1)]) (fillRM hone) fun b33 a w S H => ?_
      refine t_n H (rem' := [13, 16, 17, 18]) rfl ?_
      refine t_b1 13 (by kernel_rfl) rfl fun w H => ?_
      refine op_appendT (wn rfl) rfl rfl rfl Try.underlying74 Finf76 rfl rfl S H rfl rfl (by simp; exact fun a b hab => hons (a, b) hab) (by simp only [List.length_nil]; omega) (by simp only [List.length_nil]; omega) fun u31 a w S H => ?_
      refine t_tail H rfl (rem' := [16, 17, 18]) rfl ?_
      refine t_b1 16 (by kernel_rfl) rfl fun w H => ?_
      refine op_append ([m]) (wn rfl) rfl rfl rfl Try.underlying74 Finf76 rfl rfl S H rfl rfl rfl rfl (by simp) (by simp [encRM, rmC]) (by simp [encRM, rmC, Value.oneCell']; exact hone) (by simp only [List.nil_append, List.length_singleton]; omega) (by simp only [List.nil_append, List.length_singleton]; omega) fun u34 a w hn34 S H => ?_
      refine t_tail H rfl (rem' := [17, 18]) rfl ?_
      refine t_q 17 rfl (by kernel_rfl) (rem' := [18]) rfl rfl rfl rfl S (fun w H => y_iaddrn rfl Try.underlying59 Fsiz74 S H rfl rfl (by first | assumption | omega | (simp only [List.length_range]; omega) | (simp only [List.length_replicate]; omega) | (simp only [List.length_cons]; omega))) fun a S => ?_
      refine t_b1 18 (by kernel_rfl) rfl fun w H => ?_
      refine op_store1 _ ((u34, rx ++ [m])) (wn rfl) rfl rfl S H rfl rfl (H.slc _) (H.sl1 _) Fsiz74 (by first | assumption | omega | (simp only [List.length_range]; omega) | (simp only [List.length_replicate]; omega) | (simp only [List.length_cons]; omega)) (by exact rfl) fun a w S H => ?_
      refine t_tail H rfl (rem' := []) rfl ?_
      refine t_nil (fun w H => ?_)
      rw [List.nil_append] at H
      exact ⟨u34, S.nil, H.takeT [RPrs c n g z, OSl 74 c.qv 1 encRow (z.qs.set (i * n + j) (u34, rx ++ [m])), OSl 76 u34 7 encRM (rx ++ [m]), BagA 7 encRM z.mb, BagA 2 Ent.enc z.bag] (RCel c :: RPts c n :: l)⟩
   ·refine ⟨_, rfl, fun w H => ?_⟩
    refine op_appendT (wn rfl) rfl rfl rfl Try.underlying74 Finf76 rfl rfl S H rfl rfl (by simp; exact fun a b hab => hons (a, b) hab) (by simp only [List.length_nil]; omega) (by simp only [List.length_nil]; omega) fun u31 a w S H => ?_
    refine t_tail H rfl (rem' := [3, 14, 15, 16, 17, 18]) rfl ?_
    refine t_q 14 rfl (by kernel_rfl) (rem' := [3, 15, 16, 17, 18]) rfl rfl rfl rfl S (fun w H => y_load0 rfl S H rfl (by exact Fagg76)) fun a S => ?_
    refine t_b [3, 15] (by kernel_rfl) rfl (fa2 ?_ ?_)
    ·refine ⟨_, rfl, fun w H => ?_⟩
     refine op_y (wn rfl) rfl rfl S (y_load rfl Fsca59 S H rfl rfl) fun a S => ?_
     refine t_n H (rem' := [15, 16, 17, 18]) rfl ?_
     refine t_b1 15 (by kernel_rfl) rfl fun w H => ?_
     refine op_buildSlice (wn rfl) rfl rfl rfl Try.underlying74 Finf76 S H (idx := [0]) rfl rfl rfl (z := [.int .i64 0, .int .i64 0, .int .i64 0, .int .i64 0, .bool false, .slice none 0 0, .int .i64 0]) (by kernel_rfl) (cs := [.int .i64 (mK m.1), .int .i64 m.1.term, .int .i64 (mL m.1), .int .i64 (mN m.1), .bool (mB m.1), mV m.1 m.2, .int .i64 (mD m.1)]) (fillRM hone) fun b33 a w S H => ?_
     refine t_n H (rem' := [16, 17, 18]) rfl ?_
     refine t_b1 16 (by kernel_rfl) rfl fun w H => ?_
     refine op_append ([m]) (wn rfl) rfl rfl rfl Try.underlying74 Finf76 rfl rfl S H rfl rfl rfl rfl (by simp) (by simp [encRM, rmC]) (by simp [encRM, rmC, Value.oneCell']; exact hone) (by simp only [List.nil_append, List.length_singleton]; omega) (by simp only [List.nil_append, List.length_singleton]; omega) fun u34 a w hn34 S H => ?_
     refine t_tail H rfl (rem' := [17, 18]) rfl ?_
     refine t_q 17 rfl (by kernel_rfl) (rem' := [18]) rfl rfl rfl rfl S (fun w H => y_iaddrn rfl Try.underlying59 Fsiz74 S H rfl rfl (by first | assumption | omega | (simp only [List.length_range]; omega) | (simp only [List.length_replicate]; omega) | (simp only [List.length_cons]; omega))) fun a S => ?_
     refine t_b1 18 (by kernel_rfl) rfl fun w H => ?_
     refine op_store1 _ ((u34, rx ++ [m])) (wn rfl) rfl rfl S H rfl rfl (H.slc _) (H.sl1 _) Fsiz74 (by first | assumption | omega | (simp only [List.length_range]; omega) | (simp only [List.length_replicate]; omega) | (simp only [List.length_cons]; omega)) (by exact rfl) fun a w S H => ?_
     refine t_tail H rfl (rem' := []) rfl ?_
     refine t_nil (fun w H => ?_)
     rw [List.nil_append] at H
     exact ⟨u34, S.nil, H.takeT [RPrs c n g z, OSl 74 c.qv 1 encRow (z.qs.set (i * n + j) (u34, rx ++ [m])), OSl 76 u34 7 encRM (rx ++ [m]), BagA 7 encRM z.mb, BagA 2 Ent.enc z.bag] (RCel c :: RPts c n :: l)⟩
    ·refine ⟨_, rfl, fun w H => ?_⟩
     refine op_buildSlice (wn rfl) rfl rfl rfl Try.underlying74 Finf76 S H (idx := [0]) rfl rfl rfl (z := [.int .i64 0, .int .i64 0, .int .i64 0, .int .i64 0, .bool false, .slice none 0 0, .int .i64 0]) (by kernel_rfl) (cs := [.int .i64 (mK m.1), .int .i64 m.1.term, .int .i64 (mL m.1), .int .i64 (mN m.1), .bool (mB m.1), mV m.1 m.2, .int .i64 (mD m.1)]) (fillRM hone) fun b33 a w S H => ?_
     refine t_n H (rem' := [3, 16, 17, 18]) rfl ?_
     refine t_b [3, 16] (by kernel_rfl) rfl (fa2 ?_ ?_)
     ·refine ⟨_, rfl, fun w H => ?_⟩
      refine op_y (wn rfl) rfl rfl S (y_load rfl Fsca59 S H rfl rfl) fun a S => ?_
      refine t_n H (rem' := [16, 17, 18]) rfl ?_
      refine t_b1 16 (by kernel_rfl) rfl fun w H => ?_
      refine op_append ([m]) (wn rfl) rfl rfl rfl Try.underlying74 Finf76 rfl rfl S H rfl rfl rfl rfl (by simp) (by simp [encRM, rmC]) (by simp [encRM, rmC, Value.oneCell']; exact hone) (by simp only [List.nil_append, List.length_singleton]; omega) (by simp only [List.nil_append, List.length_singleton]; omega) fun u34 a w hn34 S H => ?_
      refine t_tail H rfl (rem' := [17, 18]) rfl ?_
      refine t_q 17 rfl (by kernel_rfl) (rem' := [18]) rfl rfl rfl rfl S (fun w H => y_iaddrn rfl Try.underlying59 Fsiz74 S H rfl rfl (by first | assumption | omega | (simp only [List.length_range]; omega) | (simp only [List.length_replicate]; omega) | (simp only [List.length_cons]; omega))) fun a S => ?_
      refine t_b1 18 (by kernel_rfl) rfl fun w H => ?_
      refine op_store1 _ ((u34, rx ++ [m])) (wn rfl) rfl rfl S H rfl rfl (H.slc _) (H.sl1 _) Fsiz74 (by first | assumption | omega | (simp only [List.length_range]; omega) | (simp only [List.length_replicate]; omega) | (simp only [List.length_cons]; omega)) (by exact rfl) fun a w S H => ?_
      refine t_tail H rfl (rem' := []) rfl ?_
      refine t_nil (fun w H => ?_)
      rw [List.nil_append] at H
      exact ⟨u34, S.nil, H.takeT [RPrs c n g z, OSl 74 c.qv 1 encRow (z.qs.set (i * n + j) (u34, rx ++ [m])), OSl 76 u34 7 encRM (rx ++ [m]), BagA 7 encRM z.mb, BagA 2 Ent.enc z.bag] (RCel c :: RPts c n :: l)⟩
     ·refine ⟨_, rfl, fun w H => ?_⟩
      refine op_append ([m]) (wn rfl) rfl rfl rfl Try.underlying74 Finf76 rfl rfl S H rfl rfl rfl rfl (by simp) (by simp [encRM, rmC]) (by simp [encRM, rmC, Value.oneCell']; exact hone) (by simp only [List.nil_append, List.length_singleton]; omega) (by simp only [List.nil_append, List.length_singleton]; omega) fun u34 a w hn34 S H => ?_
      refine t_tail H rfl (rem' := [3, 17, 18]) rfl ?_
      refine t_q 3 rfl (by kernel_rfl) (rem' := [17, 18]) rfl rfl rfl rfl S (fun w H => y_load rfl Fsca59 S H rfl rfl) fun a S => ?_
      refine t_q 17 rfl (by kernel_rfl) (rem' := [18]) rfl rfl rfl rfl S (fun w H => y_iaddrn rfl Try.underlying59 Fsiz74 S H rfl rfl (by first | assumption | omega | (simp only [List.length_range]; omega) | (simp only [List.length_replicate]; omega) | (simp only [List.length_cons]; omega))) fun a S => ?_
      refine t_b1 18 (by kernel_rfl) rfl fun w H => ?_
      refine op_store1 _ ((u34, rx ++ [m])) (wn rfl) rfl rfl S H rfl rfl (H.slc _) (H.sl1 _) Fsiz74 (by first | assumption | omega | (simp only [List.length_range]; omega) | (simp only [List.length_replicate]; omega) | (simp only [List.length_cons]; omega)) (by exact rfl) fun a w S H => ?_
      refine t_tail H rfl (rem' := []) rfl ?_
      refine t_nil (fun w H => ?_)
      rw [List.nil_append] at H
      exact ⟨u34, S.nil, H.takeT [RPrs c n g z, OSl 74 c.qv 1 encRow (z.qs.set (i * n + j) (u34, rx ++ [m])), OSl 76 u34 7 encRM (rx ++ [m]), BagA 7 encRM z.mb, BagA 2 Ent.enc z.bag] (RCel c :: RPts c n :: l)⟩
   ·refine ⟨_, rfl, fun w H => ?_⟩
    refine op_y (wn rfl) rfl rfl S (y_load0 rfl S H rfl (by exact Fagg76)) fun a S => ?_
    refine t_n H (rem' := [3, 13, 15, 16, 17, 18]) rfl ?_
    refine t_b [3, 13, 15] (by kernel_rfl) rfl (fa3 ?_ ?_ ?_)
    ·refine ⟨_, rfl, fun w H => ?_⟩
     refine op_y (wn rfl) rfl rfl S (y_load rfl Fsca59 S H rfl rfl) fun a S => ?_
     refine t_n H (rem' := [13, 15, 16, 17, 18]) rfl ?_
     refine t_b [13, 15] (by kernel_rfl) rfl (fa2 ?_ ?_)
     ·refine ⟨_, rfl, fun w H => ?_⟩
      refine op_appendT (wn rfl) rfl rfl rfl Try.underlying74 Finf76 rfl rfl S H rfl rfl (by simp; exact fun a b hab => hons (a, b) hab) (by simp only [List.length_nil]; omega) (by simp only [List.length_nil]; omega) fun u31 a w S H => ?_
      refine t_tail H rfl (rem' := [15, 16, 17, 18]) rfl ?_
      refine t_b1 15 (by kernel_rfl) rfl fun w H => ?_
      refine op_buildSlice (wn rfl) rfl rfl rfl Try.underlying74 Finf76 S H (idx := [0]) rfl rfl rfl (z := [.int .i64 0, .int .i64 0, .int .i64 0, .int .i64 0, .bool false, .slice none 0 0, .int .i64 0]) (by kernel_rfl) (cs := [.int .i64 (mK m.1), .int .i64 m.1.term, .int .i64 (mL m.1), .int .i64 (mN m.1), .bool (mB m.1), mV m.1 m.2, .int .i64 (mD m.1)]) (fillRM hone) fun b33 a w S H => ?_
      refine t_n H (rem' := [16, 17, 18]) rfl ?_
      refine t_b1 16 (by kernel_rfl) rfl fun w H => ?_
      refine op_append ([m]) (wn rfl) rfl rfl rfl Try.underlying74 Finf76 rfl rfl S H rfl rfl rfl rfl (by simp) (by simp [encRM, rmC]) (by simp [encRM, rmC, Value.oneCell']; exact hone) (by simp only [List.nil_append, List.length_singleton]; omega) (by simp only [List.nil_append, List.length_singleton]; omega) fun u34 a w hn34 S H => ?_
      refine t_tail H rfl (rem' := [17, 18]) rfl ?_
      refine t_q 17 rfl (by kernel_rfl) (rem' := [18]) rfl rfl rfl rfl S (fun w H => y_iaddrn rfl Try.underlying59 Fsiz74 S H rfl rfl (by first | assumption | omega | (simp only [List.length_range]; omega) | (simp only [List.length_replicate]; omega) | (simp only [List.length_cons]; omega))) fun a S => ?_
      refine t_b1 18 (by kernel_rfl) rfl fun w H => ?_
      refine op_store1 _ ((u34, rx ++ [m])) (wn rfl) rfl rfl S H rfl rfl (H.slc _) (H.sl1 _) Fsiz74 (by first | assumption | omega | (simp only [List.length_range]; omega) | (simp only [List.length_replicate]; omega) | (simp only [List.length_cons]; omega)) (by exact rfl) fun a w S H => ?_
      refine t_tail H rfl (rem' := []) rfl ?_
      refine t_nil (fun w H => ?_)
      rw [List.nil_append] at H
      exact ⟨u34, S.nil, H.takeT [RPrs c n g z, OSl 74 c.qv 1 encRow (z.qs.set (i * n + j) (u34, rx ++ [m])), OSl 76 u34 7 encRM (rx ++ [m]), BagA 7 encRM z.mb, BagA 2 Ent.enc z.bag] (RCel c :: RPts c n :: l)⟩
     ·refine ⟨_, rfl, fun w H => ?_⟩
      refine op_buildSlice (wn rfl) rfl rfl rfl Try.underlying74 Finf76 S H (idx := [0]) rfl rfl rfl (z := [.int .i64 0, .int .i64 0, .int .i64 0, .int .i64 0, .bool false, .slice none 0 0, .int .i64 0]) (by kernel_rfl) (cs := [.int .i64 (mK m.1), .int .i64 m.1.term, .int .i64 (mL m.1), .int .i64 (mN m.1), .bool (mB m.1), mV m.1 m.2, .int .i64 (mD m.1)]) (fillRM hone) fun b33 a w S H => ?_
      refine t_n H (rem' := [13, 16, 17, 18]) rfl ?_
      refine t_b1 13 (by kernel_rfl) rfl fun w H => ?_
      refine op_appendT (wn rfl) rfl rfl rfl Try.underlying74 Finf76 rfl rfl S H rfl rfl (by simp; exact fun a b hab => hons (a, b) hab) (by simp only [List.length_nil]; omega) (by simp only [List.length_nil]; omega) fun u31 a w S H => ?_
      refine t_tail H rfl (rem' := [16, 17, 18]) rfl ?_
      refine t_b1 16 (by kernel_rfl) rfl fun w H => ?_
      refine op_append ([m]) (wn rfl) rfl rfl rfl Try.underlying74 Finf76 rfl rfl S H rfl rfl rfl rfl (by simp) (by simp [encRM, rmC]) (by simp [encRM, rmC, Value.oneCell']; exact hone) (by simp only [List.nil_append, List.length_singleton]; omega) (by simp only [List.nil_append, List.length_singleton]; omega) fun u34 a w hn34 S H => ?_
      refine t_tail H rfl (rem' := [17, 18]) rfl ?_
      refine t_q 17 rfl (by kernel_rfl) (rem' := [18]) rfl rfl rfl rfl S (fun w H => y_iaddrn rfl Try.underlying59 Fsiz74 S H rfl rfl (by first | assumption | omega | (simp only [List.length_range]; omega) | (simp only [List.length_replicate]; omega) | (simp only [List.length_cons]; omega))) fun a S => ?_
      refine t_b1 18 (by kernel_rfl) rfl fun w H => ?_
      refine op_store1 _ ((u34, rx ++ [m])) (wn rfl) rfl rfl S H rfl rfl (H.slc _) (H.sl1 _) Fsiz74 (by first | assumption | omega | (simp only [List.length_range]; omega) | (simp only [List.length_replicate]; omega) | (simp only [List.length_cons]; omega)) (by exact rfl) fun a w S H => ?_
      refine t_tail H rfl (rem' := []) rfl ?_
      refine t_nil (fun w H => ?_)
      rw [List.nil_append] at H
      exact ⟨u34, S.nil, H.takeT [RPrs c n g z, OSl 74 c.qv 1 encRow (z.qs.set (i * n + j) (u34, rx ++ [m])), OSl 76 u34 7 encRM (rx ++ [m]), BagA 7 encRM z.mb, BagA 2 Ent.enc z.bag] (RCel c :: RPts c n :: l)⟩
    ·refine ⟨_, rfl, fun w H => ?_⟩
     refine op_appendT (wn rfl) rfl rfl rfl Try.underlying74 Finf76 rfl rfl S H rfl rfl (by simp; exact fun a b hab => hons (a, b) hab) (by simp only [List.length_nil]; omega) (by simp only [List.length_nil]; omega) fun u31 a w S H => ?_
     refine t_tail H rfl (rem' := [3, 15, 16, 17, 18]) rfl ?_
     refine t_b [3, 15] (by kernel_rfl) rfl (fa2 ?_ ?_)
     ·refine ⟨_, rfl, fun w H => ?_⟩
      refine op_y (wn rfl) rfl rfl S (y_load rfl Fsca59 S H rfl rfl) fun a S => ?_
      refine t_n H (rem' := [15, 16, 17, 18]) rfl ?_
      refine t_b1 15 (by kernel_rfl) rfl fun w H => ?_
      refine op_buildSlice (wn rfl) rfl rfl rfl Try.underlying74 Finf76 S H (idx := [0]) rfl rfl rfl (z := [.int .i64 0, .int .i64 0, .int .i64 0, .int .i64 0, .bool false, .slice none 0 0, .int .i64 0]) (by kernel_rfl) (cs := [.int .i64 (mK m.1), .int .i64 m.1.term, .int .i64 (mL m.1), .int .i64 (mN m.1), .bool (mB m.1), mV m.1 m.2, .int .i64 (mD m.1)]) (fillRM hone) fun b33 a w S H => ?_
      refine t_n H (rem' := [16, 17, 18]) rfl ?_
      refine t_b1 16 (by kernel_rfl) rfl fun w H => ?_
      refine op_append ([m]) (wn rfl) rfl rfl rfl Try.underlying74 Finf76 rfl rfl S H rfl rfl rfl rfl (by simp) (by simp [encRM, rmC]) (by simp [encRM, rmC, Value.oneCell']; exact hone) (by simp only [List.nil_append, List.length_singleton]; omega) (by simp only [List.nil_append, List.length_singleton]; omega) fun u34 a w hn34 S H => ?_
      refine t_tail H rfl (rem' := [17, 18]) rfl ?_
      refine t_q 17 rfl (by kernel_rfl) (rem' := [18]) rfl rfl rfl rfl S (fun w H => y_iaddrn rfl Try.underlying59 Fsiz74 S H rfl rfl (by first | assumption | omega | (simp only [List.length_range]; omega) | (simp only [List.length_replicate]; omega) | (simp only [List.length_cons]; omega))) fun a S => ?_
      refine t_b1 18 (by kernel_rfl) rfl fun w H => ?_
      refine op_store1 _ ((u34, rx ++ [m])) (wn rfl) rfl rfl S H rfl rfl (H.slc _) (H.sl1 _) Fsiz74 (by first | assumption | omega | (simp only [List.length_range]; omega) | (simp only [List.length_replicate]; omega) | (simp only [List.length_cons]; omega)) (by exact rfl) fun a w S H => ?_
      refine t_tail H rfl (rem' := []) rfl ?_
      refine t_nil (fun w H => ?_)
      rw [List.nil_append] at H
      exact ⟨u34, S.nil, H.takeT [RPrs c n g z, OSl 74 c.qv 1 encRow (z.qs.set (i * n + j) (u34, rx ++ [m])), OSl 76 u34 7 encRM (rx ++ [m]), BagA 7 encRM z.mb, BagA 2 Ent.enc z.bag] (RCel c :: RPts c n :: l)⟩
     ·refine ⟨_, rfl, fun w H => ?_⟩
      refine op_buildSlice (wn rfl) rfl rfl rfl Try.underlying74 Finf76 S H (idx := [0]) rfl rfl rfl (z := [.int .i64 0, .int .i64 0, .int .i64 0, .int .i64 0, .bool false, .slice none 0 0, .int .i64 0]) (by kernel_rfl) (cs := [.int .i64 (mK m.1), .int .i64 m.1.term, .int .i64 (mL m.1), .int .i64 (mN m.1), .bool (mB m.1), mV m.1 m.2, .int .i64 (mD m.1)]) (fillRM hone) fun b33 a w S H => ?_
      refine t_n H (rem' := [3, 16, 17, 18]) rfl ?_
      refine t_b [3, 16] (by kernel_rfl) rfl (fa2 ?_ ?_)
      ·refine ⟨_, rfl, fun w H => ?_⟩
       refine op_y (wn rfl) rfl rfl S (y_load rfl Fsca59 S H rfl rfl) fun a S => ?_
       refine t_n H (rem' := [16, 17, 18]) rfl ?_
       refine t_b1 16 (by kernel_rfl) rfl fun w H => ?_
       refine op_append ([m]) (wn rfl) rfl rfl rfl Try.underlying74 Finf76 rfl rfl S H rfl rfl rfl rfl (by simp) (by simp [encRM, rmC]) (by simp [encRM, rmC, Value.oneCell']; exact hone) (by simp only [List.nil_append, List.length_singleton]; omega) (by simp only [List.nil_append, List.length_singleton]; omega) fun u34 a w hn34 S H => ?_
       refine t_tail H rfl (rem' := [17, 18]) rfl ?_
       refine t_q 17 rfl (by kernel_rfl) (rem' := [18]) rfl rfl rfl rfl S (fun w H => y_iaddrn rfl Try.underlying59 Fsiz74 S H rfl rfl (by first | assumption | omega | (simp only [List.length_range]; omega) | (simp only [List.length_replicate]; omega) | (simp only [List.length_cons]; omega))) fun a S => ?_
       refine t_b1 18 (by kernel_rfl) rfl fun w H => ?_
       refine op_store1 _ ((u34, rx ++ [m])) (wn rfl) rfl rfl S H rfl rfl (H.slc _) (H.sl1 _) Fsiz74 (by first | assumption | omega | (simp only [List.length_range]; omega) | (simp only [List.length_replicate]; omega) | (simp only [List.length_cons]; omega)) (by exact rfl) fun a w S H => ?_
       refine t_tail H rfl (rem' := []) rfl ?_
       refine t_nil (fun w H => ?_)
       rw [List.nil_append] at H
       exact ⟨u34, S.nil, H.takeT [RPrs c n g z, OSl 74 c.qv 1 encRow (z.qs.set (i * n + j) (u34, rx ++ [m])), OSl 76 u34 7 encRM (rx ++ [m]), BagA 7 encRM z.mb, BagA 2 Ent.enc z.bag] (RCel c :: RPts c n :: l)⟩
      ·refine ⟨_, rfl, fun w H => ?_⟩
       refine op_append ([m]) (wn rfl) rfl rfl rfl Try.underlying74 Finf76 rfl rfl S H rfl rfl rfl rfl (by simp) (by simp [encRM, rmC]) (by simp [encRM, rmC, Value.oneCell']; exact hone) (by simp only [List.nil_append, List.length_singleton]; omega) (by simp only [List.nil_append, List.length_singleton]; omega) fun u34 a w hn34 S H => ?_
       refine t_tail H rfl (rem' := [3, 17, 18]) rfl ?_
       refine t_q 3 rfl (by kernel_rfl) (rem' := [17, 18]) rfl rfl rfl rfl S (fun w H => y_load rfl Fsca59 S H rfl rfl) fun a S => ?_
       refine t_q 17 rfl (by kernel_rfl) (rem' := [18]) rfl rfl rfl rfl S (fun w H => y_iaddrn rfl Try.underlying59 Fsiz74 S H rfl rfl (by first | assumption | omega | (simp only [List.length_range]; omega) | (simp only [List.length_replicate]; omega) | (simp only [List.length_cons]; omega))) fun a S => ?_
       refine t_b1 18 (by kernel_rfl) rfl fun w H => ?_
       refine op_store1 _ ((u34, rx ++ [m])) (wn rfl) rfl rfl S H rfl rfl (H.slc _) (H.sl1 _) Fsiz74 (by first | assumption | omega | (simp only [List.length_range]; omega) | (simp only [List.length_replicate]; omega) | (simp only [List.length_cons]; omega)) (by exact rfl) fun a w S H => ?_
       refine t_tail H rfl (rem' := []) rfl ?_
       refine t_nil (fun w H => ?_)
       rw [List.nil_append] at H
       exact ⟨u34, S.nil, H.takeT [RPrs c n g z, OSl 74 c.qv 1 encRow (z.qs.set (i * n + j) (u34, rx ++ [m])), OSl 76 u34 7 encRM (rx ++ [m]), BagA 7 encRM z.mb, BagA 2 Ent.enc z.bag] (RCel c :: RPts c n :: l)⟩
    ·refine ⟨_, rfl, fun w H => ?_⟩
     refine op_buildSlice (wn rfl) rfl rfl rfl Try.underlying74 Finf76 S H (idx := [0]) rfl rfl rfl (z := [.int .i64 0, .int .i64 0, .int .i64 0, .int .i64 0, .bool false, .slice none 0 0, .int .i64 0]) (by kernel_rfl) (cs := [.int .i64 (mK m.1), .int .i64 m.1.term, .int .i64 (mL m.1), .int .i64 (mN m.1), .bool (mB m.1), mV m.1 m.2, .int .i64 (mD m.1)]) (fillRM hone) fun b33 a w S H => ?_
     refine t_n H (rem' := [3, 13, 16, 17, 18]) rfl ?_
     refine t_b [3, 13] (by kernel_rfl) rfl (fa2 ?_ ?_)
     ·refine ⟨_, rfl, fun w H => ?_⟩
      refine op_y (wn rfl) rfl rfl S (y_load rfl Fsca59 S H rfl rfl) fun a S => ?_
      refine t_n H (rem' := [13, 16, 17, 18]) rfl ?_
      refine t_b1 13 (by kernel_rfl) rfl fun w H => ?_
      refine op_appendT (wn rfl) rfl rfl rfl Try.underlying74 Finf76 rfl rfl S H rfl rfl (by simp; exact fun a b hab => hons (a, b) hab) (by simp only [List.length_nil]; omega) (by simp only [List.length_nil]; omega) fun u31 a w S H => ?_
      refine t_tail H rfl (rem' := [16, 17, 18]) rfl ?_
      refine t_b1 16 (by kernel_rfl) rfl fun w H => ?_
      refine op_append ([m]) (wn rfl) rfl rfl rfl Try.underlying74 Finf76 rfl rfl S H rfl rfl rfl rfl (by simp) (by simp [encRM, rmC]) (by simp [encRM, rmC, Value.oneCell']; exact hone) (by simp only [List.nil_append, List.length_singleton]; omega) (by simp only [List.nil_append, List.length_singleton]; omega) fun u34 a w hn34 S H => ?_
      refine t_tail H rfl (rem' := [17, 18]) rfl ?_
      refine t_q 17 rfl (by kernel_rfl) (rem' := [18]) rfl rfl rfl rfl S (fun w H => y_iaddrn rfl Try.underlying59 Fsiz74 S H rfl rfl (by first | assumption | omega | (simp only [List.length_range]; omega) | (simp only [List.length_replicate]; omega) | (simp only [List.length_cons]; omega))) fun a S => ?_
      refine t_b1 18 (by kernel_rfl) rfl fun w H => ?_
      refine op_store1 _ ((u34, rx ++ [m])) (wn rfl) rfl rfl S H rfl rfl (H.slc _) (H.sl1 _) Fsiz74 (by first | assumption | omega | (simp only [List.length_range]; omega) | (simp only [List.length_replicate]; omega) | (simp only [List.length_cons]; omega)) (by exact rfl) fun a w S H => ?_
      refine t_tail H rfl (rem' := []) rfl ?_
      refine t_nil (fun w H => ?_)
      rw [List.nil_append] at H
      exact ⟨u34, S.nil, H.takeT [RPrs c n g z, OSl 74 c.qv 1 encRow (z.qs.set (i * n + j) (u34, rx ++ [m])), OSl 76 u34 7 encRM (rx ++ [m]), BagA 7 encRM z.mb, BagA 2 Ent.enc z.bag] (RCel c :: RPts c n :: l)⟩
     ·refine ⟨_, rfl, fun w H => ?_⟩
      refine op_appendT (wn rfl) rfl rfl rfl Try.underlying74 Finf76 rfl rfl S H rfl rfl (by simp; exact fun a b hab => hons (a, b) hab) (by simp only [List.length_nil]; omega) (by simp only [List.length_nil]; omega) fun u31 a w S H => ?_
      refine t_tail H rfl (rem' := [3, 16, 17, 18]) rfl ?_
      refine t_b [3, 16] (by kernel_rfl) rfl (fa2 ?_ ?_)
      ·refine ⟨_, rfl, fun w H => ?_⟩
       refine op_y (wn rfl) rfl rfl S (y_load rfl Fsca59 S H rfl rfl) fun a S => ?_
       refine t_n H (rem' := [16, 17, 18]) rfl ?_
       refine t_b1 16 (by kernel_rfl) rfl fun w H => ?_
       refine op_append ([m]) (wn rfl) rfl rfl rfl Try.underlying74 Finf76 rfl rfl S H rfl rfl rfl rfl (by simp) (by simp [encRM, rmC]) (by simp [encRM, rmC, Value.oneCell']; exact hone) (by simp only [List.nil_append, List.length_singleton]; omega) (by simp only [List.nil_append, List.length_singleton]; omega) fun u34 a w hn34 S H => ?_
       refine t_tail H rfl (rem' := [17, 18]) rfl ?_
       refine t_q 17 rfl (by kernel_rfl) (rem' := [18]) rfl rfl rfl rfl S (fun w H => y_iaddrn rfl Try.underlying59 Fsiz74 S H rfl rfl (by first | assumption | omega | (simp only [List.length_range]; omega) | (simp only [List.length_replicate]; omega) | (simp only [List.length_cons]; omega))) fun a S => ?_
       refine t_b1 18 (by kernel_rfl) rfl fun w H => ?_
       refine op_store1 _ ((u34, rx ++ [m])) (wn rfl) rfl rfl S H rfl rfl (H.slc _) (H.sl1 _) Fsiz74 (by first | assumption | omega | (simp only [List.length_range]; omega) | (simp only [List.length_replicate]; omega) | (simp only [List.length_cons]; omega)) (by exact rfl) fun a w S H => ?_
       refine t_tail H rfl (rem' := []) rfl ?_
       refine t_nil (fun w H => ?_)
       rw [List.nil_append] at H
       exact ⟨u34, S.nil, H.takeT [RPrs c n g z, OSl 74 c.qv 1 encRow (z.qs.set (i * n + j) (u34, rx ++ [m])), OSl 76 u34 7 encRM (rx ++ [m]), BagA 7 encRM z.mb, BagA 2 Ent.enc z.bag] (RCel c :: RPts c n :: l)⟩
      ·refine ⟨_, rfl, fun w H => ?_⟩
       refine op_append ([m]) (wn rfl) rfl rfl rfl Try.underlying74 Finf76 rfl rfl S H rfl rfl rfl rfl (by simp) (by simp [encRM, rmC]) (by simp [encRM, rmC, Value.oneCell']; exact hone) (by simp only [List.nil_append, List.length_singleton]; omega) (by simp only [List.nil_append, List.length_singleton]; omega) fun u34 a w hn34 S H => ?_
       refine t_tail H rfl (rem' := [3, 17, 18]) rfl ?_
       refine t_q 3 rfl (by kernel_rfl) (rem' := [17, 18]) rfl rfl rfl rfl S (fun w H => y_load rfl Fsca59 S H rfl rfl) fun a S => ?_
       refine t_q 17 rfl (by kernel_rfl) (rem' := [18]) rfl rfl rfl rfl S (fun w H => y_iaddrn rfl Try.underlying59 Fsiz74 S H rfl rfl (by first | assumption | omega | (simp only [List.length_range]; omega) | (simp only [List.length_replicate]; omega) | (simp only [List.length_cons]; omega))) fun a S => ?_
       refine t_b1 18 (by kernel_rfl) rfl fun w H => ?_
       refine op_store1 _ ((u34, rx ++ [m])) (wn rfl) rfl rfl S H rfl rfl (H.slc _) (H.sl1 _) Fsiz74 (by first | assumption | omega | (simp only [List.length_range]; omega) | (simp only [List.length_replicate]; omega) | (simp only [List.length_cons]; omega)) (by exact rfl) fun a w S H => ?_
       refine t_tail H rfl (rem' := []) rfl ?_
       refine t_nil (fun w H => ?_)
       rw [List.nil_append] at H
       exact ⟨u34, S.nil, H.takeT [RPrs c n g z, OSl 74 c.qv 1 encRow (z.qs.set (i * n + j) (u34, rx ++ [m])), OSl 76 u34 7 encRM (rx ++ [m]), BagA 7 encRM z.mb, BagA 2 Ent.enc z.bag] (RCel c :: RPts c n :: l)⟩
  ·refine ⟨_, rfl, fun w H => ?_⟩
   refine op_y (wn rfl) rfl rfl S (y_load0 rfl S H rfl (by exact Fagg76)) fun a S => ?_
   refine t_n H (rem' := [3, 5, 13, 15, 16, 17, 18]) rfl ?_
   refine t_b [3, 5, 15] (by kernel_rfl) rfl (fa3 ?_ ?_ ?_)
   ·refine ⟨_, rfl, fun w H => ?_⟩
    refine op_y (wn rfl) rfl rfl S (y_load rfl Fsca59 S H rfl rfl) fun a S => ?_
    refine t_n H (rem' := [5, 13, 15, 16, 17, 18]) rfl ?_
    refine t_b [5, 15] (by kernel_rfl) rfl (fa2 ?_ ?_)
    ·refine ⟨_, rfl, fun w H => ?_⟩
     refine op_buildSlice (wn rfl) rfl rfl rfl Try.underlying74 Finf76 S H (idx := []) rfl rfl rfl (z := []) (by kernel_rfl) (cs := []) rfl fun b23 a w S H => ?_
     have H := H.celO [] encRM 7 (m := 0) rfl (by simp) rfl (by omega)
     refine t_n H (rem' := [13, 15, 16, 17, 18]) rfl ?_
     refine t_b [13, 15] (by kernel_rfl) rfl (fa2 ?_ ?_)
     ·refine ⟨_, rfl, fun w H => ?_⟩
      refine op_appendT (wn rfl) rfl rfl rfl Try.underlying74 Finf76 rfl rfl S H rfl rfl (by simp; exact fun a b hab => hons (a, b) hab) (by simp only [List.length_nil]; omega) (by simp only [List.length_nil]; omega) fun u31 a w S H => ?_
      refine t_tail H rfl (rem' := [15, 16, 17, 18]) rfl ?_
      refine t_b1 15 (by kernel_rfl) rfl fun w H => ?_
      refine op_buildSlice (wn rfl) rfl rfl rfl Try.underlying74 Finf76 S H (idx := [0]) rfl rfl rfl (z := [.int .i64 0, .int .i64 0, .int .i64 0, .int .i64 0, .bool false, .slice none 0 0, .int .i64 0]) (by kernel_rfl) (cs := [.int .i64 (mK m.1), .int .i64 m.1.term, .int .i64 (mL m.1), .int .i64 (mN m.1), .bool (mB m.1), mV m.1 m.2, .int .i64 (mD m.1)]) (fillRM hone) fun b33 a w S H => ?_
      refine t_n H (rem' := [16, 17, 18]) rfl ?_
      refine t_b1 16 (by kernel_rfl) rfl fun w H => ?_
      refine op_append ([m]) (wn rfl) rfl rfl rfl Try.underlying74 Finf76 rfl rfl S H rfl rfl rfl rfl (by simp) (by simp [encRM, rmC]) (by simp [encRM, rmC, Value.oneCell']; exact hone) (by simp only [List.nil_append, List.length_singleton]; omega) (by simp only [List.nil_append, List.length_singleton]; omega) fun u34 a w hn34 S H => ?_
      refine t_tail H rfl (rem' := [17, 18]) rfl ?_
      refine t_q 17 rfl (by kernel_rfl) (rem' := [18]) rfl rfl rfl rfl S (fun w H => y_iaddrn rfl Try.underlying59 Fsiz74 S H rfl rfl (by first | assumption | omega | (simp only [List.length_range]; omega) | (simp only [List.length_replicate]; omega) | (simp only [List.length_cons]; omega))) fun a S => ?_
      refine t_b1 18 (by kernel_rfl) rfl fun w H => ?_
      refine op_store1 _ ((u34, rx ++ [m])) (wn rfl) rfl rfl S H rfl rfl (H.slc _) (H.sl1 _) Fsiz74 (by first | assumption | omega | (simp only [List.length_range]; omega) | (simp only [List.length_replicate]; omega) | (simp only [List.length_cons]; omega)) (by exact rfl) fun a w S H => ?_
      refine t_tail H rfl (rem' := []) rfl ?_
      refine t_nil (fun w H => ?_)
      rw [List.nil_append] at H
      exact ⟨u34, S.nil, H.takeT [RPrs c n g z, OSl 74 c.qv 1 encRow (z.qs.set (i * n + j) (u34, rx ++ [m])), OSl 76 u34 7 encRM (rx ++ [m]), BagA 7 encRM z.mb, BagA 2 Ent.enc z.bag] (RCel c :: RPts c n :: l)⟩
     ·refine ⟨_, rfl, fun w H => ?_⟩
      refine op_buildSlice (wn rfl) rfl rfl rfl Try.underlying74 Finf76 S H (idx := [0]) rfl rfl rfl (z := [.int .i64 0, .int .i64 0, .int .i64 0, .int .i64 0, .bool false, .slice none 0 0, .int .i64 0]) (by kernel_rfl) (cs := [.int .i64 (mK m.1), .int .i64 m.1.term, .int .i64 (mL m.1), .int .i64 (mN m.1), .bool (mB m.1), mV m.1 m.2, .int .i64 (mD m.1)]) (fillRM hone) fun b33 a w S H => ?_
      refine t_n H (rem' := [13, 16, 17, 18]) rfl ?_
      refine t_b1 13 (by kernel_rfl) rfl fun w H => ?_
      refine op_appendT (wn rfl) rfl rfl rfl Try.underlying74 Finf76 rfl rfl S H rfl rfl (by simp; exact fun a b hab => hons (a, b) hab) (by simp only [List.length_nil]; omega) (by simp only [List.length_nil]; omega) fun u31 a w S H => ?_
      refine t_tail H rfl (rem' := [16, 17, 18]) rfl ?_
      refine t_b1 16 (by kernel_rfl) rfl fun w H => ?_
      refine op_append ([m]) (wn rfl) rfl rfl rfl Try.underlying74 Finf76 rfl rfl S H rfl rfl rfl rfl (by simp) (by simp [encRM, rmC]) (by simp [encRM, rmC, Value.oneCell']; exact hone) (by simp only [List.nil_append, List.length_singleton]; omega) (by simp only [List.nil_append, List.length_singleton]; omega) fun u34 a w hn34 S H => ?_
      refine t_tail H rfl (rem' := [17, 18]) rfl ?_
      refine t_q 17 rfl (by kernel_rfl) (rem' := [18]) rfl rfl rfl rfl S (fun w H => y_iaddrn rfl Try.underlying59 Fsiz74 S H rfl rfl (by first | assumption | omega | (simp only [List.length_range]; omega) | (simp only [List.length_replicate]; omega) | (simp only [List.length_cons]; omega))) fun a S => ?_
      refine t_b1 18 (by kernel_rfl) rfl fun w H => ?_
      refine op_store1 _ ((u34, rx ++ [m])) (wn rfl) rfl rfl S H rfl rfl (H.slc _) (H.sl1 _) Fsiz74 (by first | assumption | omega | (simp only [List.length_range]; omega) | (simp only [List.length_replicate]; omega) | (simp only [List.length_cons]; omega)) (by exact rfl) fun a w S H => ?_
      refine t_tail H rfl (rem' := []) rfl ?_
      refine t_nil (fun w H => ?_)
      rw [List.nil_append] at H
      exact ⟨u34, S.nil, H.takeT [RPrs c n g z, OSl 74 c.qv 1 encRow (z.qs.set (i * n + j) (u34, rx ++ [m])), OSl 76 u34 7 encRM (rx ++ [m]), BagA 7 encRM z.mb, BagA 2 Ent.enc z.bag] (RCel c :: RPts c n :: l)⟩
    ·refine ⟨_, rfl, fun w H => ?_⟩
     refine op_buildSlice (wn rfl) rfl rfl rfl Try.underlying74 Finf76 S H (idx := [0]) rfl rfl rfl (z := [.int .i64 0, .int .i64 0, .int .i64 0, .int .i64 0, .bool false, .slice none 0 0, .int .i64 0]) (by kernel_rfl) (cs := [.int .i64 (mK m.1), .int .i64 m.1.term, .int .i64 (mL m.1), .int .i64 (mN m.1), .bool (mB m.1), mV m.1 m.2, .int .i64 (mD m.1)]) (fillRM hone) fun b33 a w S H => ?_
     refine t_n H (rem' := [5, 13, 16, 17, 18]) rfl ?_
     refine t_b1 5 (by kernel_rfl) rfl fun w H => ?_
     refine op_buildSlice (wn rfl) rfl rfl rfl Try.underlying74 Finf76 S H (idx := []) rfl rfl rfl (z := []) (by kernel_rfl) (cs := []) rfl fun b23 a w S H => ?_
     have H := H.celO [] encRM 7 (m := 0) rfl (by simp) rfl (by omega)
     refine t_n H (rem' := [13, 16, 17, 18]) rfl ?_
     refine t_b1 13 (by kernel_rfl) rfl fun w H => ?_
     refine op_appendT (wn rfl) rfl rfl rfl Try.underlying74 Finf76 rfl rfl S H rfl rfl (by simp; exact fun a b hab => hons (a, b) hab) (by simp only [List.length_nil]; omega) (by simp only [List.length_nil]; omega) fun u31 a w S H => ?_
     refine t_tail H rfl (rem' := [16, 17, 18]) rfl ?_
     refine t_b1 16 (by kernel_rfl) rfl fun w H => ?_
     refine op_append ([m]) (wn rfl) rfl rfl rfl Try.underlying74 Finf76 rfl rfl S H rfl rfl rfl rfl (by simp) (by simp [encRM, rmC]) (by simp [encRM, rmC, Value.oneCell']; exact hone) (by simp only [List.nil_append, List.length_singleton]; omega) (by simp only [List.nil_append, List.length_singleton]; omega) fun u34 a w hn34 S H => ?_
     refine t_tail H rfl (rem' := [17, 18]) rfl ?_
     refine t_q 17 rfl (by kernel_rfl) (rem' := [18]) rfl rfl rfl rfl S (fun w H => y_iaddrn rfl Try.underlying59 Fsiz74 S H rfl rfl (by first | assumption | omega | (simp only [List.length_range]; omega) | (simp only [List.length_replicate]; omega) | (simp only [List.length_cons]; omega))) fun a S => ?_
     refine t_b1 18 (by kernel_rfl) rfl fun w H => ?_
     refine op_store1 _ ((u34, rx ++ [m])) (wn rfl) rfl rfl S H rfl rfl (H.slc _) (H.sl1 _) Fsiz74 (by first | assumption | omega | (simp only [List.length_range]; omega) | (simp only [List.length_replicate]; omega) | (simp only [List.length_cons]; omega)) (by exact rfl) fun a w S H => ?_
     refine t_tail H rfl (rem' := []) rfl ?_
     refine t_nil (fun w H => ?_)
     rw [List.nil_append] at H
     exact ⟨u34, S.nil, H.takeT [RPrs c n g z, OSl 74 c.qv 1 encRow (z.qs.set (i * n + j) (u34, rx ++ [m])), OSl 76 u34 7 encRM (rx ++ [m]), BagA 7 encRM z.mb, BagA 2 Ent.enc z.bag] (RCel c :: RPts c n :: l)⟩
   ·refine ⟨_, rfl, fun w H => ?_⟩
    refine op_buildSlice (wn rfl) rfl rfl rfl Try.underlying74 Finf76 S H (idx := []) rfl rfl rfl (z := []) (by kernel_rfl) (cs := []) rfl fun b23 a w S H => ?_
    have H := H.celO [] encRM 7 (m := 0) rfl (by simp) rfl (by omega)
    refine t_n H (rem' := [3, 13, 15, 16, 17, 18]) rfl ?_
    refine t_b [3, 13, 15] (by kernel_rfl) rfl (fa3 ?_ ?_ ?_)
    ·refine ⟨_, rfl, fun w H => ?_⟩
     refine op_y (wn rfl) rfl rfl S (y_load rfl Fsca59 S H rfl rfl) fun a S => ?_
     refine t_n H (rem' := [13, 15, 16, 17, 18]) rfl ?_
     refine t_b [13, 15] (by kernel_rfl) rfl (fa2 ?_ ?_)
     ·refine ⟨_, rfl, fun w H => ?_⟩
      refine op_appendT (wn rfl) rfl rfl rfl Try.underlying74 Finf76 rfl rfl S H rfl rfl (by simp; exact fun a b hab => hons (a, b) hab) (by simp only [List.length_nil]; omega) (by simp only [List.length_nil]; omega) fun u31 a w S H => ?_
      refine t_tail H rfl (rem' := [15, 16, 17, 18]) rfl ?_
      refine t_b1 15 (by kernel_rfl) rfl fun w H => ?_
      refine op_buildSlice (wn rfl) rfl rfl rfl Try.underlying74 Finf76 S H (idx := [0]) rfl rfl rfl (z := [.int .i64 0, .int .i64 0, .int .i64 0, .int .i64 0, .bool false, .slice none 0 0, .int .i64 0]) (by kernel_rfl) (cs := [.int .i64 (mK m.1), .int .i64 m.1.term, .int .i64 (mL m.1), .int .i64 (mN m.1), .bool (mB m.1), mV m.1 m.2, .int .i64 (mD m.1)]) (fillRM hone) fun b33 a w S H => ?_
      refine t_n H (rem' := [16, 17, 18]) rfl ?_
      refine t_b1 16 (by kernel_rfl) rfl fun w H => ?_
      refine op_append ([m]) (wn rfl) rfl rfl rfl Try.underlying74 Finf76 rfl rfl S H rfl rfl rfl rfl (by simp) (by simp [encRM, rmC]) (by simp [encRM, rmC, Value.oneCell']; exact hone) (by simp only [List.nil_append, List.length_singleton]; omega) (by simp only [List.nil_append, List.length_singleton]; omega) fun u34 a w hn34 S H => ?_
      refine t_tail H rfl (rem' := [17, 18]) rfl ?_
      refine t_q 17 rfl (by kernel_rfl) (rem' := [18]) rfl rfl rfl rfl S (fun w H => y_iaddrn rfl Try.underlying59 Fsiz74 S H rfl rfl (by first | assumption | omega | (simp only [List.length_range]; omega) | (simp only [List.length_replicate]; omega) | (simp only [List.length_cons]; omega))) fun a S => ?_
      refine t_b1 18 (by kernel_rfl) rfl fun w H => ?_
      refine op_store1 _ ((u34, rx ++ [m])) (wn rfl) rfl rfl S H rfl rfl (H.slc _) (H.sl1 _) Fsiz74 (by first | assumption | omega | (simp only [List.length_range]; omega) | (simp only [List.length_replicate]; omega) | (simp only [List.length_cons]; omega)) (by exact rfl) fun a w S H => ?_
      refine t_tail H rfl (rem' := []) rfl ?_
      refine t_nil (fun w H => ?_)
      rw [List.nil_append] at H
      exact ⟨u34, S.nil, H.takeT [RPrs c n g z, OSl 74 c.qv 1 encRow (z.qs.set (i * n + j) (u34, rx ++ [m])), OSl 76 u34 7 encRM (rx ++ [m]), BagA 7 encRM z.mb, BagA 2 Ent.enc z.bag] (RCel c :: RPts c n :: l)⟩
     ·refine ⟨_, rfl, fun w H => ?_⟩
      refine op_buildSlice (wn rfl) rfl rfl rfl Try.underlying74 Finf76 S H (idx := [0]) rfl rfl rfl (z := [.int .i64 0, .int .i64 0, .int .i64 0, .int .i64 0, .bool false, .slice none 0 0, .int .i64 0]) (by kernel_rfl) (cs := [.int .i64 (mK m.1), .int .i64 m.1.term, .int .i64 (mL m.1), .int .i64 (mN m.1), .bool (mB m.1), mV m.1 m.2, .int .i64 (mD m.1)]) (fillRM hone) fun b33 a w S H => ?_
      refine t_n H (rem' := [13, 16, 17, 18]) rfl ?_
      refine t_b1 13 (by kernel_rfl) rfl fun w H => ?_
      refine op_appendT (wn rfl) rfl rfl rfl Try.underlying74 Finf76 rfl rfl S H rfl rfl (by simp; exact fun a b hab => hons (a, b) hab) (by simp only [List.length_nil]; omega) (by simp only [List.length_nil]; omega) fun u31 a w S H => ?_
      refine t_tail H rfl (rem' := [16, 17, 18]) rfl ?_
      refine t_b1 16 (by kernel_rfl) rfl fun w H => ?_
      refine op_append ([m]) (wn rfl) rfl rfl rfl Try.underlying74 Finf76 rfl rfl S H rfl rfl rfl rfl (by simp) (by simp [encRM, rmC]) (by simp [encRM, rmC, Value.oneCell']; exact hone) (by simp only [List.nil_append, List.length_singleton]; omega) (by simp only [List.nil_append, List.length_singleton]; omega) fun u34 a w hn34 S H => ?_
      refine t_tail H rfl (rem' := [17, 18]) rfl ?_
      refine t_q 17 rfl (by kernel_rfl) (rem' := [18]) rfl rfl rfl rfl S (fun w H => y_iaddrn rfl Try.underlying59 Fsiz74 S H rfl rfl (by first | assumption | omega | (simp only [List.length_range]; omega) | (simp only [List.length_replicate]; omega) | (simp only [List.length_cons]; omega))) fun a S => ?_
      refine t_b1 18 (by kernel_rfl) rfl fun w H => ?_
      refine op_store1 _ ((u34, rx ++ [m])) (wn rfl) rfl rfl S H rfl rfl (H.slc _) (H.sl1 _) Fsiz74 (by first | assumption | omega | (simp only [List.length_range]; omega) | (simp only [List.length_replicate]; omega) | (simp only [List.length_cons]; omega)) (by exact rfl) fun a w S H => ?_
      refine t_tail H rfl (rem' := []) rfl ?_
      refine t_nil (fun w H => ?_)
      rw [List.nil_append] at H
      exact ⟨u34, S.nil, H.takeT [RPrs c n g z, OSl 74 c.qv 1 encRow (z.qs.set (i * n + j) (u34, rx ++ [m])), OSl 76 u34 7 encRM (rx ++ [m]), BagA 7 encRM z.mb, BagA 2 Ent.enc z.bag] (RCel c :: RPts c n :: l)⟩
    ·refine ⟨_, rfl, fun w H => ?_⟩
     refine op_appendT (wn rfl) rfl rfl rfl Try.underlying74 Finf76 rfl rfl S H rfl rfl (by simp; exact fun a b hab => hons (a, b) hab) (by simp only [List.length_nil]; omega) (by simp only [List.length_nil]; omega) fun u31 a w S H => ?_
     refine t_tail H rfl (rem' := [3, 15, 16, 17, 18]) rfl ?_
     refine t_b [3, 15] (by kernel_rfl) rfl (fa2 ?_ ?_)
     ·refine ⟨_, rfl, fun w H => ?_⟩
      refine op_y (wn rfl) rfl rfl S (y_load rfl Fsca59 S H rfl rfl) fun a S => ?_
      refine t_n H (rem' := [15, 16, 17, 18]) rfl ?_
      refine t_b1 15 (by kernel_rfl) rfl fun w H => ?_
      refine op_buildSlice (wn rfl) rfl rfl rfl Try.underlying74 Finf76 S H (idx := [0]) rfl rfl rfl (z := [.int .i64 0, .int .i64 0, .int .i64 0, .int .i64 0, .bool false, .slice none 0 0, .int .i64 0]) (by kernel_rfl) (cs := [.int .i64 (mK m.1), .int .i64 m.1.term, .int .i64 (mL m.1), .int .i64 (mN m.1), .bool (mB m.1), mV m.1 m.2, .int .i64 (mD m.1)]) (fillRM hone) fun b33 a w S H => ?_
      refine t_n H (rem' := [16, 17, 18]) rfl ?_
      refine t_b1 16 (by kernel_rfl) rfl fun w H => ?_
      refine op_append ([m]) (wn rfl) rfl rfl rfl Try.underlying74 Finf76 rfl rfl S H rfl rfl rfl rfl (by simp) (by simp [encRM, rmC]) (by simp [encRM, rmC, Value.oneCell']; exact hone) (by simp only [List.nil_append, List.length_singleton]; omega) (by simp only [List.nil_append, List.length_singleton]; omega) fun u34 a w hn34 S H => ?_
      refine t_tail H rfl (rem' := [17, 18]) rfl ?_
      refine t_q 17 rfl (by kernel_rfl) (rem' := [18]) rfl rfl rfl rfl S (fun w H => y_iaddrn rfl Try.underlying59 Fsiz74 S H rfl rfl (by first | assumption | omega | (simp only [List.length_range]; omega) | (simp only [List.length_replicate]; omega) | (simp only [List.length_cons]; omega))) fun a S => ?_
      refine t_b1 18 (by kernel_rfl) rfl fun w H => ?_
      refine op_store1 _ ((u34, rx ++ [m])) (wn rfl) rfl rfl S H rfl rfl (H.slc _) (H.sl1 _) Fsiz74 (by first | assumption | omega | (simp only [List.length_range]; omega) | (simp only [List.length_replicate]; omega) | (simp only [List.length_cons]; omega)) (by exact rfl) fun a w S H => ?_
      refine t_tail H rfl (rem' := []) rfl ?_
      refine t_nil (fun w H => ?_)
      rw [List.nil_append] at H
      exact ⟨u34, S.nil, H.takeT [RPrs c n g z, OSl 74 c.qv 1 encRow (z.qs.set (i * n + j) (u34, rx ++ [m])), OSl 76 u34 7 encRM (rx ++ [m]), BagA 7 encRM z.mb, BagA 2 Ent.enc z.bag] (RCel c :: RPts c n :: l)⟩
     ·refine ⟨_, rfl, fun w H => ?_⟩
      refine op_buildSlice (wn rfl) rfl rfl rfl Try.underlying74 Finf76 S H (idx := [0]) rfl rfl rfl (z := [.int .i64 0, .int .i64 0, .int .i64 0, .int .i64 0, .bool false, .slice none 0 0, .int .i64 0]) (by kernel_rfl) (cs := [.int .i64 (mK m.1), .int .i64 m.1.term, .int .i64 (mL m.1), .int .i64 (mN m.1), .bool (mB m.1), mV m.1 m.2, .int .i64 (mD m.1)]) (fillRM hone) fun b33 a w S H => ?_
      refine t_n H (rem' := [3, 16, 17, 18]) rfl ?_
      refine t_b [3, 16] (by kernel_rfl) rfl (fa2 ?_ ?_)
      ·refine ⟨_, rfl, fun w H => ?_⟩
       refine op_y (wn rfl) rfl rfl S (y_load rfl Fsca59 S H rfl rfl) fun a S => ?_
       refine t_n H (rem' := [16, 17, 18]) rfl ?_
       refine t_b1 16 (by kernel_rfl) rfl fun w H => ?_
       refine op_append ([m]) (wn rfl) rfl rfl rfl Try.underlying74 Finf76 rfl rfl S H rfl rfl rfl rfl (by simp) (by simp [encRM, rmC]) (by simp [encRM, rmC, Value.oneCell']; exact hone) (by simp only [List.nil_append, List.length_singleton]; omega) (by simp only [List.nil_append, List.length_singleton]; omega) fun u34 a w hn34 S H => ?_
       refine t_tail H rfl (rem' := [17, 18]) rfl ?_
       refine t_q 17 rfl (by kernel_rfl) (rem' := [18]) rfl rfl rfl rfl S (fun w H => y_iaddrn rfl Try.underlying59 Fsiz74 S H rfl rfl (by first | assumption | omega | (simp only [List.length_range]; omega) | (simp only [List.length_replicate]; omega) | (simp only [List.length_cons]; omega))) fun a S => ?_
       refine t_b1 18 (by kernel_rfl) rfl fun w H => ?_
       refine op_store1 _ ((u34, rx ++ [m])) (wn rfl) rfl rfl S H rfl rfl (H.slc _) (H.sl1 _) Fsiz74 (by first | assumption | omega | (simp only [List.length_range]; omega) | (simp only [List.length_replicate]; omega) | (simp only [List.length_cons]; omega)) (by exact rfl) fun a w S H => ?_
       refine t_tail H rfl (rem' := []) rfl ?_
       refine t_nil (fun w H => ?_)
       rw [List.nil_append] at H
       exact ⟨u34, S.nil, H.takeT [RPrs c n g z, OSl 74 c.qv 1 encRow (z.qs.set (i * n + j) (u34, rx ++ [m])), OSl 76 u34 7 encRM (rx ++ [m]), BagA 7 encRM z.mb, BagA 2 Ent.enc z.bag] (RCel c :: RPts c n :: l)⟩
      ·refine ⟨_, rfl, fun w H => ?_⟩
       refine op_append ([m]) (wn rfl) rfl rfl rfl Try.underlying74 Finf76 rfl rfl S H rfl rfl rfl rfl (by simp) (by simp [encRM, rmC]) (by simp [encRM, rmC, Value.oneCell']; exact hone) (by simp only [List.nil_append, List.length_singleton]; omega) (by simp only [List.nil_append, List.length_singleton]; omega) fun u34 a w hn34 S H => ?_
       refine t_tail H rfl (rem' := [3, 17, 18]) rfl ?_
       refine t_q 3 rfl (by kernel_rfl) (rem' := [17, 18]) rfl rfl rfl rfl S (fun w H => y_load rfl Fsca59 S H rfl rfl) fun a S => ?_
       refine t_q 17 rfl (by kernel_rfl) (rem' := [18]) rfl rfl rfl rfl S (fun w H => y_iaddrn rfl Try.underlying59 Fsiz74 S H rfl rfl (by first | assumption | omega | (simp only [List.length_range]; omega) | (simp only [List.length_replicate]; omega) | (simp only [List.length_cons]; omega))) fun a S => ?_
       refine t_b1 18 (by kernel_rfl) rfl fun w H => ?_
       refine op_store1 _ ((u34, rx ++ [m])) (wn rfl) rfl rfl S H rfl rfl (H.slc _) (H.sl1 _) Fsiz74 (by first | assumption | omega | (simp only [List.length_range]; omega) | (simp only [List.length_replicate]; omega) | (simp only [List.length_cons]; omega)) (by exact rfl) fun a w S H => ?_
       refine t_tail H rfl (rem' := []) rfl ?_
       refine t_nil (fun w H => ?_)
       rw [List.nil_append] at H
       exact ⟨u34, S.nil, H.takeT [RPrs c n g z, OSl 74 c.qv 1 encRow (z.qs.set (i * n + j) (u34, rx ++ [m])), OSl 76 u34 7 encRM (rx ++ [m]), BagA 7 encRM z.mb, BagA 2 Ent.enc z.bag] (RCel c :: RPts c n :: l)⟩
    ·refine ⟨_, rfl, fun w H => ?_⟩
     refine op_buildSlice (wn rfl) rfl rfl rfl Try.underlying74 Finf76 S H (idx := [0]) rfl rfl rfl (z := [.int .i64 0, .int .i64 0, .int .i64 0, .int .i64 0, .bool false, .slice none 0 0, .int .i64 0]) (by kernel_rfl) (cs := [.int .i64 (mK m.1), .int .i64 m.1.term, .int .i64 (mL m.1), .int .i64 (mN m.1), .bool (mB m.1), mV m.1 m.2, .int .i64 (mD m.1)]) (fillRM hone) fun b33 a w S H => ?_
     refine t_n H (rem' := [3, 13, 16, 17, 18]) rfl ?_
     refine t_b [3, 13] (by kernel_rfl) rfl (fa2 ?_ ?_)
     ·refine ⟨_, rfl, fun w H => ?_⟩
      refine op_y (wn rfl) rfl rfl S (y_load rfl Fsca59 S H rfl rfl) fun a S => ?_
      refine t_n H (rem' := [13, 16, 17, 18]) rfl ?_
      refine t_b1 13 (by kernel_rfl) rfl fun w H => ?_
      refine op_appendT (wn rfl) rfl rfl rfl Try.underlying74 Finf76 rfl rfl S H rfl rfl (by simp; exact fun a b hab => hons (a, b) hab) (by simp only [List.length_nil]; omega) (by simp only [List.length_nil]; omega) fun u31 a w S H => ?_
      refine t_tail H rfl (rem' := [16, 17, 18]) rfl ?_
      refine t_b1 16 (by kernel_rfl) rfl fun w H => ?_
      refine op_append ([m]) (wn rfl) rfl rfl rfl Try.underlying74 Finf76 rfl rfl S H rfl rfl rfl rfl (by simp) (by simp [encRM, rmC]) (by simp [encRM, rmC, Value.oneCell']; exact hone) (by simp only [List.nil_append, List.length_singleton]; omega) (by simp only [List.nil_append, List.length_singleton]; omega) fun u34 a w hn34 S H => ?_
      refine t_tail H rfl (rem' := [17, 18]) rfl ?_
      refine t_q 17 rfl (by kernel_rfl) (rem' := [18]) rfl rfl rfl rfl S (fun w H => y_iaddrn rfl Try.underlying59 Fsiz74 S H rfl rfl (by first | assumption | omega | (simp only [List.length_range]; omega) | (simp only [List.length_replicate]; omega) | (simp only [List.length_cons]; omega))) fun a S => ?_
      refine t_b1 18 (by kernel_rfl) rfl fun w H => ?_
      refine op_store1 _ ((u34, rx ++ [m])) (wn rfl) rfl rfl S H rfl rfl (H.slc _) (H.sl1 _) Fsiz74 (by first | assumption | omega | (simp only [List.length_range]; omega) | (simp only [List.length_replicate]; omega) | (simp only [List.length_cons]; omega)) (by exact rfl) fun a w S H => ?_
      refine t_tail H rfl (rem' := []) rfl ?_
      refine t_nil (fun w H => ?_)
      rw [List.nil_append] at H
      exact ⟨u34, S.nil, H.takeT [RPrs c n g z, OSl 74 c.qv 1 encRow (z.qs.set (i * n + j) (u34, rx ++ [m])), OSl 76 u34 7 encRM (rx ++ [m]), BagA 7 encRM z.mb, BagA 2 Ent.enc z.bag] (RCel c :: RPts c n :: l)⟩
     ·refine ⟨_, rfl, fun w H => ?_⟩
      refine op_appendT (wn rfl) rfl rfl rfl Try.underlying74 Finf76 rfl rfl S H rfl rfl (by simp; exact fun a b hab => hons (a, b) hab) (by simp only [List.length_nil]; omega) (by simp only [List.length_nil]; omega) fun u31 a w S H => ?_
      refine t_tail H rfl (rem' := [3, 16, 17, 18]) rfl ?_
      refine t_b [3, 16] (by kernel_rfl) rfl (fa2 ?_ ?_)
      ·refine ⟨_, rfl, fun w H => ?_⟩
       refine op_y (wn rfl) rfl rfl S (y_load rfl Fsca59 S H rfl rfl) fun a S => ?_
       refine t_n H (rem' := [16, 17, 18]) rfl ?_
       refine t_b1 16 (by kernel_rfl) rfl fun w H => ?_
       refine op_append ([m]) (wn rfl) rfl rfl rfl Try.underlying74 Finf76 rfl rfl S H rfl rfl rfl rfl (by simp) (by simp [encRM, rmC]) (by simp [encRM, rmC, Value.oneCell']; exact hone) (by simp only [List.nil_append, List.length_singleton]; omega) (by simp only [List.nil_append, List.length_singleton]; omega) fun u34 a w hn34 S H => ?_
       refine t_tail H rfl (rem' := [17, 18]) rfl ?_
       refine t_q 17 rfl (by kernel_rfl) (rem' := [18]) rfl rfl rfl rfl S (fun w H => y_iaddrn rfl Try.underlying59 Fsiz74 S H rfl rfl (by first | assumption | omega | (simp only [List.length_range]; omega) | (simp only [List.length_replicate]; omega) | (simp only [List.length_cons]; omega))) fun a S => ?_
       refine t_b1 18 (by kernel_rfl) rfl fun w H => ?_
       refine op_store1 _ ((u34, rx ++ [m])) (wn rfl) rfl rfl S H rfl rfl (H.slc _) (H.sl1 _) Fsiz74 (by first | assumption | omega | (simp only [List.length_range]; omega) | (simp only [List.length_replicate]; omega) | (simp only [List.length_cons]; omega)) (by exact rfl) fun a w S H => ?_
       refine t_tail H rfl (rem' := []) rfl ?_
       refine t_nil (fun w H => ?_)
       rw [List.nil_append] at H
       exact ⟨u34, S.nil, H.takeT [RPrs c n g z, OSl 74 c.qv 1 encRow (z.qs.set (i * n + j) (u34, rx ++ [m])), OSl 76 u34 7 encRM (rx ++ [m]), BagA 7 encRM z.mb, BagA 2 Ent.enc z.bag] (RCel c :: RPts c n :: l)⟩
      ·refine ⟨_, rfl, fun w H => ?_⟩
       refine op_append ([m]) (wn rfl) rfl rfl rfl Try.underlying74 Finf76 rfl rfl S H rfl rfl rfl rfl (by simp) (by simp [encRM, rmC]) (by simp [encRM, rmC, Value.oneCell']; exact hone) (by simp only [List.nil_append, List.length_singleton]; omega) (by simp only [List.nil_append, List.length_singleton]; omega) fun u34 a w hn34 S H => ?_
       refine t_tail H rfl (rem' := [3, 17, 18]) rfl ?_
       refine t_q 3 rfl (by kernel_rfl) (rem' := [17, 18]) rfl rfl rfl rfl S (fun w H => y_load rfl Fsca59 S H rfl rfl) fun a S => ?_
       refine t_q 17 rfl (by kernel_rfl) (rem' := [18]) rfl rfl rfl rfl S (fun w H => y_iaddrn rfl Try.underlying59 Fsiz74 S H rfl rfl (by first | assumption | omega | (simp only [List.length_range]; omega) | (simp only [List.length_replicate]; omega) | (simp only [List.length_cons]; omega))) fun a S => ?_
       refine t_b1 18 (by kernel_rfl) rfl fun w H => ?_
       refine op_store1 _ ((u34, rx ++ [m])) (wn rfl) rfl rfl S H rfl rfl (H.slc _) (H.sl1 _) Fsiz74 (by first | assumption | omega | (simp only [List.length_range]; omega) | (simp only [List.length_replicate]; omega) | (simp only [List.length_cons]; omega)) (by exact rfl) fun a w S H => ?_
       refine t_tail H rfl (rem' := []) rfl ?_
       refine t_nil (fun w H => ?_)
       rw [List.nil_append] at H
       exact ⟨u34, S.nil, H.takeT [RPrs c n g z, OSl 74 c.qv 1 encRow (z.qs.set (i * n + j) (u34, rx ++ [m])), OSl 76 u34 7 encRM (rx ++ [m]), BagA 7 encRM z.mb, BagA 2 Ent.enc z.bag] (RCel c :: RPts c n :: l)⟩
   ·refine ⟨_, rfl, fun w H => ?_⟩
    refine op_buildSlice (wn rfl) rfl rfl rfl Try.underlying74 Finf76 S H (idx := [0]) rfl rfl rfl (z := [.int .i64 0, .int .i64 0, .int .i64 0, .int .i64 0, .bool false, .slice none 0 0, .int .i64 0]) (by kernel_rfl) (cs := [.int .i64 (mK m.1), .int .i64 m.1.term, .int .i64 (mL m.1), .int .i64 (mN m.1), .bool (mB m.1), mV m.1 m.2, .int .i64 (mD m.1)]) (fillRM hone) fun b33 a w S H => ?_
    refine t_n H (rem' := [3, 5, 13, 16, 17, 18]) rfl ?_
    refine t_b [3, 5] (by kernel_rfl) rfl (fa2 ?_ ?_)
    ·refine ⟨_, rfl, fun w H => ?_⟩
     refine op_y (wn rfl) rfl rfl S (y_load rfl Fsca59 S H rfl rfl) fun a S => ?_
     refine t_n H (rem' := [5, 13, 16, 17, 18]) rfl ?_
     refine t_b1 5 (by kernel_rfl) rfl fun w H => ?_
     refine op_buildSlice (wn rfl) rfl rfl rfl Try.underlying74 Finf76 S H (idx := []) rfl rfl rfl (z := []) (by kernel_rfl) (cs := []) rfl fun b23 a w S H => ?_
     have H := H.celO [] encRM 7 (m := 0) rfl (by simp) rfl (by omega)
     refine t_n H (rem' := [13, 16, 17, 18]) rfl ?_
     refine t_b1 13 (by kernel_rfl) rfl fun w H => ?_
     refine op_appendT (wn rfl) rfl rfl rfl Try.underlying74 Finf76 rfl rfl S H rfl rfl (by simp; exact fun a b hab => hons (a, b) hab) (by simp only [List.length_nil]; omega) (by simp only [List.length_nil]; omega) fun u31 a w S H => ?_
     refine t_tail H rfl (rem' := [16, 17, 18]) rfl ?_
     refine t_b1 16 (by kernel_rfl) rfl fun w H => ?_
     refine op_append ([m]) (wn rfl) rfl rfl rfl Try.underlying74 Finf76 rfl rfl S H rfl rfl rfl rfl (by simp) (by simp [encRM, rmC]) (by simp [encRM, rmC, Value.oneCell']; exact hone) (by simp only [List.nil_append, List.length_singleton]; omega) (by simp only [List.nil_append, List.length_singleton]; omega) fun u34 a w hn34 S H => ?_
     refine t_tail H rfl (rem' := [17, 18]) rfl ?_
     refine t_q 17 rfl (by kernel_rfl) (rem' := [18]) rfl rfl rfl rfl S (fun w H => y_iaddrn rfl Try.underlying59 Fsiz74 S H rfl rfl (by first | assumption | omega | (simp only [List.length_range]; omega) | (simp only [List.length_replicate]; omega) | (simp only [List.length_cons]; omega))) fun a S => ?_
     refine t_b1 18 (by kernel_rfl) rfl fun w H => ?_
     refine op_store1 _ ((u34, rx ++ [m])) (wn rfl) rfl rfl S H rfl rfl (H.slc _) (H.sl1 _) Fsiz74 (by first | assumption | omega | (simp only [List.length_range]; omega) | (simp only [List.length_replicate]; omega) | (simp only [List.length_cons]; omega)) (by exact rfl) fun a w S H => ?_
     refine t_tail H rfl (rem' := []) rfl ?_
     refine t_nil (fun w H => ?_)
     rw [List.nil_append] at H
     exact ⟨u34, S.nil, H.takeT [RPrs c n g z, OSl 74 c.qv 1 encRow (z.qs.set (i * n + j) (u34, rx ++ [m])), OSl 76 u34 7 encRM (rx ++ [m]), BagA 7 encRM z.mb, BagA 2 Ent.enc z.bag] (RCel c :: RPts c n :: l)⟩
    ·refine ⟨_, rfl, fun w H => ?_⟩
     refine op_buildSlice (wn rfl) rfl rfl rfl Try.underlying74 Finf76 S H (idx := []) rfl rfl rfl (z := []) (by kernel_rfl) (cs := []) rfl fun b23 a w S H => ?_
     have H := H.celO [] encRM 7 (m := 0) rfl (by simp) rfl (by omega)
     refine t_n H (rem' := [3, 13, 16, 17, 18]) rfl ?_
     refine t_b [3, 13] (by kernel_rfl) rfl (fa2 ?_ ?_)
     ·refine ⟨_, rfl, fun w H => ?_⟩
      refine op_y (wn rfl) rfl rfl S (y_load rfl Fsca59 S H rfl rfl) fun a S => ?_
      refine t_n H (rem' := [13, 16, 17, 18]) rfl ?_
      refine t_b1 13 (by kernel_rfl) rfl fun w H => ?_
      refine op_appendT (wn rfl) rfl rfl rfl Try.underlying74 Finf76 rfl rfl S H rfl rfl (by simp; exact fun a b hab => hons (a, b) hab) (by simp only [List.length_nil]; omega) (by simp only [List.length_nil]; omega) fun u31 a w S H => ?_
      refine t_tail H rfl (rem' := [16, 17, 18]) rfl ?_
      refine t_b1 16 (by kernel_rfl) rfl fun w H => ?_
      refine op_append ([m]) (wn rfl) rfl rfl rfl Try.underlying74 Finf76 rfl rfl S H rfl rfl rfl rfl (by simp) (by simp [encRM, rmC]) (by simp [encRM, rmC, Value.oneCell']; exact hone) (by simp only [List.nil_append, List.length_singleton]; omega) (by simp only [List.nil_append, List.length_singleton]; omega) fun u34 a w hn34 S H => ?_
      refine t_tail H rfl (rem' := [17, 18]) rfl ?_
      refine t_q 17 rfl (by kernel_rfl) (rem' := [18]) rfl rfl rfl rfl S (fun w H => y_iaddrn rfl Try.underlying59 Fsiz74 S H rfl rfl (by first | assumption | omega | (simp only [List.length_range]; omega) | (simp only [List.length_replicate]; omega) | (simp only [List.length_cons]; omega))) fun a S => ?_
      refine t_b1 18 (by kernel_rfl) rfl fun w H => ?_
      refine op_store1 _ ((u34, rx ++ [m])) (wn rfl) rfl rfl S H rfl rfl (H.slc _) (H.sl1 _) Fsiz74 (by first | assumption | omega | (simp only [List.length_range]; omega) | (simp only [List.length_replicate]; omega) | (simp only [List.length_cons]; omega)) (by exact rfl) fun a w S H => ?_
      refine t_tail H rfl (rem' := []) rfl ?_
      refine t_nil (fun w H => ?_)
      rw [List.nil_append] at H
      exact ⟨u34, S.nil, H.takeT [RPrs c n g z, OSl 74 c.qv 1 encRow (z.qs.set (i * n + j) (u34, rx ++ [m])), OSl 76 u34 7 encRM (rx ++ [m]), BagA 7 encRM z.mb, BagA 2 Ent.enc z.bag] (RCel c :: RPts c n :: l)⟩
     ·refine ⟨_, rfl, fun w H => ?_⟩
      refine op_appendT (wn rfl) rfl rfl rfl Try.underlying74 Finf76 rfl rfl S H rfl rfl (by simp; exact fun a b hab => hons (a, b) hab) (by simp only [List.length_nil]; omega) (by simp only [List.length_nil]; omega) fun u31 a w S H => ?_
      refine t_tail H rfl (rem' := [3, 16, 17, 18]) rfl ?_
      refine t_b [3, 16] (by kernel_rfl) rfl (fa2 ?_ ?_)
      ·refine ⟨_, rfl, fun w H => ?_⟩
       refine op_y (wn rfl) rfl rfl S (y_load rfl Fsca59 S H rfl rfl) fun a S => ?_
       refine t_n H (rem' := [16, 17, 18]) rfl ?_
       refine t_b1 16 (by kernel_rfl) rfl fun w H => ?_
       refine op_append ([m]) (wn rfl) rfl rfl rfl Try.underlying74 Finf76 rfl rfl S H rfl rfl rfl rfl (by simp) (by simp [encRM, rmC]) (by simp [encRM, rmC, Value.oneCell']; exact hone) (by simp only [List.nil_append, List.length_singleton]; omega) (by simp only [List.nil_append, List.length_singleton]; omega) fun u34 a w hn34 S H => ?_
       refine t_tail H rfl (rem' := [17, 18]) rfl ?_
       refine t_q 17 rfl (by kernel_rfl) (rem' := [18]) rfl rfl rfl rfl S (fun w H => y_iaddrn rfl Try.underlying59 Fsiz74 S H rfl rfl (by first | assumption | omega | (simp only [List.length_range]; omega) | (simp only [List.length_replicate]; omega) | (simp only [List.length_cons]; omega))) fun a S => ?_
       refine t_b1 18 (by kernel_rfl) rfl fun w H => ?_
       refine op_store1 _ ((u34, rx ++ [m])) (wn rfl) rfl rfl S H rfl rfl (H.slc _) (H.sl1 _) Fsiz74 (by first | assumption | omega | (simp only [List.length_range]; omega) | (simp only [List.length_replicate]; omega) | (simp only [List.length_cons]; omega)) (by exact rfl) fun a w S H => ?_
       refine t_tail H rfl (rem' := []) rfl ?_
       refine t_nil (fun w H => ?_)
       rw [List.nil_append] at H
       exact ⟨u34, S.nil, H.takeT [RPrs c n g z, OSl 74 c.qv 1 encRow (z.qs.set (i * n + j) (u34, rx ++ [m])), OSl 76 u34 7 encRM (rx ++ [m]), BagA 7 encRM z.mb, BagA 2 Ent.enc z.bag] (RCel c :: RPts c n :: l)⟩
      ·refine ⟨_, rfl, fun w H => ?_⟩
       refine op_append ([m]) (wn rfl) rfl rfl rfl Try.underlying74 Finf76 rfl rfl S H rfl rfl rfl rfl (by simp) (by simp [encRM, rmC]) (by simp [encRM, rmC, Value.oneCell']; exact hone) (by simp only [List.nil_append, List.length_singleton]; omega) (by simp only [List.nil_append, List.length_singleton]; omega) fun u34 a w hn34 S H => ?_
       refine t_tail H rfl (rem' := [3, 17, 18]) rfl ?_
       refine t_q 3 rfl (by kernel_rfl) (rem' := [17, 18]) rfl rfl rfl rfl S (fun w H => y_load rfl Fsca59 S H rfl rfl) fun a S => ?_
       refine t_q 17 rfl (by kernel_rfl) (rem' := [18]) rfl rfl rfl rfl S (fun w H => y_iaddrn rfl Try.underlying59 Fsiz74 S H rfl rfl (by first | assumption | omega | (simp only [List.length_range]; omega) | (simp only [List.length_replicate]; omega) | (simp only [List.length_cons]; omega))) fun a S => ?_
       refine t_b1 18 (by kernel_rfl) rfl fun w H => ?_
       refine op_store1 _ ((u34, rx ++ [m])) (wn rfl) rfl rfl S H rfl rfl (H.slc _) (H.sl1 _) Fsiz74 (by first | assumption | omega | (simp only [List.length_range]; omega) | (simp only [List.length_replicate]; omega) | (simp only [List.length_cons]; omega)) (by exact rfl) fun a w S H => ?_
       refine t_tail H rfl (rem' := []) rfl ?_
       refine t_nil (fun w H => ?_)
       rw [List.nil_append] at H
       exact ⟨u34, S.nil, H.takeT [RPrs c n g z, OSl 74 c.qv 1 encRow (z.qs.set (i * n + j) (u34, rx ++ [m])), OSl 76 u34 7 encRM (rx ++ [m]), BagA 7 encRM z.mb, BagA 2 Ent.enc z.bag] (RCel c :: RPts c n :: l)⟩
 rintro a w ⟨u34, S, H⟩
 refine ret0n rfl S ?_
 exact ⟨rfl, rsendIn H hz hi hj hrw hm⟩
/-- (*foyer/foyerref48.Group).all -/
theorem rall_spec {M : Nat → Prop} {u0 : World} {l : List Atom} (c : RC) (n : Nat) (g : Grp) (z : RGV) (i : Nat) (m : MV) (w0 : World) (h0 : HSat M u0 (RGrpA c n g z :: RCel c :: RPts c n :: l) w0) (hi : i < n) (hm : ∀ t l d, m.1 = .share t l d → (m.2, l) ∈ z.bag) (hone : (mV m.1 m.2).oneCell' = true) (hq : ∀ j, (g.q i j).length ≤ 1000000) :
    Ret Try.prog 32 #[.pointer (some ⟨c.b, 0, none⟩), .int .i64 (i : Int), .agg [.int .i64 (mK m.1), .int .i64 m.1.term, .int .i64 (mL m.1), .int .i64 (mN m.1), .bool (mB m.1), mV m.1 m.2, .int .i64 (mD m.1)].toArray] w0 (fun u w => u = .tuple #[] ∧ ∃ z', z'.bag = z.bag ∧ HSat M u0 (RGrpA c n (g.all i m.1) z' :: RCel c :: RPts c n :: l) w) := by
 refine ret_of_wp (nt := 24) Try.func32 rfl rfl rfl (fl := [(0, .pointer (some ⟨c.b, 0, none⟩)), (1, .int .i64 (i : Int)), (2, .agg [.int .i64 (mK m.1), .int .i64 m.1.term, .int .i64 (mL m.1), .int .i64 (mN m.1), .bool (mB m.1), mV m.1 m.2, .int .i64 (mD m.1)].toArray)]) rfl (fun a S => ?_)
 have H := h0
 have hz := (rgrpOut H).2
 have hn7 := hz.n7
 refine gsr ?_
 refine wl_of (op_boxa (wn rfl) rfl rfl rfl S H rfl fun b5 a w S H => ?_)
 refine gnt ?_
 refine gsr ?_
 refine ga S fun a S => ?_
 refine gnt ?_
 refine g_block ?_
 have SU := ((S.nil.cons S 1 rfl).cons S 0 rfl).cons S 5 rfl
 refine loopW (X := Nat × RGV) SU (fun x => [(6, .int .i64 (x.1 : Int))]) (fun x w => x.1 ≤ n ∧ x.2.bag = z.bag ∧ HSat M u0 (Cel b5 76 [.int .i64 (mK m.1), .int .i64 m.1.term, .int .i64 (mL m.1), .int .i64 (mN m.1), .bool (mB m.1), mV m.1 m.2, .int .i64 (mD m.1)] :: RGrpA c n (g.allTo i m.1 x.1) x.2 :: RCel c :: RPts c n :: l) w) (fun x => n - x.1) (0, z) (S.nil.cons S 6 rfl) (⟨Nat.zero_le _, rfl, by rw [Grp.allTo_zero]; exact H⟩) (fun x a w S hW => ?_)
 simp only [List.cons_append, List.nil_append] at S
 obtain ⟨k, zk⟩ := x
 obtain ⟨hk, hb, H⟩ := hW
 dsimp only at S H hk hb
 refine g_seq ?_
 refine gsr ?_
 refine gm S fun a S => ?_
 refine gm S fun a S => ?_
 refine gy rfl rfl rfl S (y_nilCheck rfl S rfl) fun a S => ?_
 refine gy rfl rfl rfl S (y_faddrb rfl Ffo62_0 S rfl) fun a S => ?_
 refine gy rfl rfl rfl S (y_load rfl Fsca60 S H rfl rfl) fun a S => ?_
 refine gy rfl rfl rfl S (y_lens rfl Try.underlying60 S H rfl) fun a S => ?_
 rw [List.length_range] at S
 refine gy rfl rfl rfl S (y_bin rfl S rfl rfl rfl) fun a S => ?_
 refine gnt ?_
 have S := ((((S.nil.cons S 1 rfl).cons S 0 rfl).cons S 5 rfl).cons S 6 rfl).cons S 13 rfl
 refine c_if S rfl (fun h1 => ?_) (fun h1 => ?_)
 ·have h1p := h1; try simp only [DL] at h1p
  refine g_skip ?_
  refine n_then ?_
  refine g_seq ?_
  refine g_block ?_
  refine gsr ?_
  refine gm S fun a S => ?_
  refine gm S fun a S => ?_
  refine gy rfl rfl rfl S (y_bin rfl S rfl rfl rfl) fun a S => ?_
  refine gnt ?_
  refine c_if S rfl (fun h2 => ?_) (fun h2 => ?_)
  ·have h2p := h2; try simp only [DL] at h2p
   refine g_region ?_
   refine gm S fun a S => ?_
   refine gm S fun a S => ?_
   refine gm S fun a S => ?_
   refine gy rfl rfl rfl S (y_load0 rfl S H rfl (by exact Fagg76)) fun a S => ?_
   refine wl_of (op_call (wn rfl) rfl rfl S (co_func rfl Try.call41 S rfl) (rsend_spec c n (g.allTo i m.1 k) zk i k m _ (H.takeT [RGrpA c n (g.allTo i m.1 k) zk, RCel c, RPts c n] (Cel b5 76 [.int .i64 (mK m.1), .int .i64 m.1.term, .int .i64 (mL m.1), .int .i64 (mN m.1), .bool (mB m.1), mV m.1 m.2, .int .i64 (mD m.1)] :: l)) hi (by omega) (fun t l d e => by rw [hb]; exact hm t l d e) hone (by rw [Grp.allTo_q]; exact hq k)) fun v w hc a S => ?_)
   obtain ⟨rfl, zk', hb', H⟩ := hc
   simp only [List.append_eq, List.nil_append] at H
   refine gl_nil ?_
   refine n_block ?_
   refine n_then ?_
   have S := (((S.nil.cons S 1 rfl).cons S 0 rfl).cons S 5 rfl).cons S 6 rfl
   refine g_region ?_
   refine gm S fun a S => ?_
   refine gy rfl rfl rfl S (y_add rfl S rfl rfl (by omega)) fun a S => ?_
   refine ga S fun a S => ?_
   refine gnt ?_
   first
   | exact ⟨(k + 1, zk'), S.nil.cons S 6 rfl, ((S.nil.cons S 1 rfl).cons S 0 rfl).cons S 5 rfl, ⟨by dsimp only; omega, hb'.trans hb, by rw [(Grp.allTo_succ g i m.1 k).1 (by omega)] at H; exact H.takeT [Cel b5 76 [.int .i64 (mK m.1), .int .i64 m.1.term, .int .i64 (mL m.1), .int .i64 (mN m.1), .bool (mB m.1), mV m.1 m.2, .int .i64 (mD m.1)], RGrpA c n (g.allTo i m.1 (k + 1)) zk'] (RCel c :: RPts c n :: l)⟩, by dsimp only; omega⟩
   | exact ⟨(k + 1, zk), S.nil.cons S 6 rfl, ((S.nil.cons S 1 rfl).cons S 0 rfl).cons S 5 rfl, ⟨by dsimp only; omega, hb, by rw [(Grp.allTo_succ g i m.1 k).2 (by omega)]; exact H⟩, by dsimp only; omega⟩
  ·have h2p := h2; try simp only [DL] at h2p
   refine g_skip ?_
   refine n_block ?_
   refine n_then ?_
   have S := (((S.nil.cons S 1 rfl).cons S 0 rfl).cons S 5 rfl).cons S 6 rfl
   refine g_region ?_
   refine gm S fun a S => ?_
   refine gy rfl rfl rfl S (y_add rfl S rfl rfl (by omega)) fun a S => ?_
   refine ga S fun a S => ?_
   refine gnt ?_
   first
   | exact ⟨(k + 1, zk'), S.nil.cons S 6 rfl, ((S.nil.cons S 1 rfl).cons S 0 rfl).cons S 5 rfl, ⟨by dsimp only; omega, hb'.trans hb, by rw [(Grp.allTo_succ g i m.1 k).1 (by omega)] at H; exact H.takeT [Cel b5 76 [.int .i64 (mK m.1), .int .i64 m.1.term, .int .i64 (mL m.1), .int .i64 (mN m.1), .bool (mB m.1), mV m.1 m.2, .int .i64 (mD m.1)], RGrpA c n (g.allTo i m.1 (k + 1)) zk'] (RCel c :: RPts c n :: l)⟩, by dsimp only; omega⟩
   | exact ⟨(k + 1, zk), S.nil.cons S 6 rfl, ((S.nil.cons S 1 rfl).cons S 0 rfl).cons S 5 rfl, ⟨by dsimp only; omega, hb, by rw [(Grp.allTo_succ g i m.1 k).2 (by omega)]; exact H⟩, by dsimp only; omega⟩
 ·have h1p := h1; try simp only [DL] at h1p
  refine g_exit ?_
  refine x_then (x_then (x_eq ?_))
  refine ret0n rfl S ?_
  obtain rfl : k = n := by omega
  exact ⟨rfl, zk, hb, by rw [show g.all i m.1 = g.allTo i m.1 k by rw [← hz.en]; rfl]; exact H.tail⟩
set_option maxHeartbeats 1000000 in
/-- (*foyer/foyerref48.Group).share -/
theorem rshare_spec {M : Nat → Prop} {u0 : World} {l : List Atom} (c : RC) (n : Nat) (g : Grp) (z : RGV) (i : Nat) (w0 : World) (h0 : HSat M u0 (RGrpA c n g z :: RCel c :: RPts c n :: l) w0) (hi : i < n) (hq : ∀ j, (g.q i j).length ≤ 900000) (hlen : (g.at_ i).log.length ≤ 200000) :
    Ret Try.prog 38 #[.pointer (some ⟨c.b, 0, none⟩), .int .i64 (i : Int)] w0 (fun u w => u = .tuple #[] ∧ ∃ z', HSat M u0 (RGrpA c n (g.share i) z' :: RCel c :: RPts c n :: l) w) := by
 refine ret_of_wp (nt := 30) Try.func38 rfl rfl rfl (fl := [(0, .pointer (some ⟨c.b, 0, none⟩)), (1, .int .i64 (i : Int))]) rfl (fun a S => ?_)
 obtain ⟨H, hz⟩ := rgrpOut h0
 obtain ⟨H, hf⟩ := replOut H hi
 have hn7 := hz.n7
 have hin : i < g.n := by rw [hz.en]; exact hi
 have iS : ∀ l, HasSl (BagA 2 Ent.enc z.bag :: l) (z.p i).lv 2 Ent Ent.enc (g.at_ i).log := bagSl (hz.lg i hi)
 refine gsr ?_
 refine gm S fun a S => ?_
 refine gy rfl rfl rfl S (y_nilCheck rfl S rfl) fun a S => ?_
 refine gy rfl rfl rfl S (y_faddrb rfl Ffo62_0 S rfl) fun a S => ?_
 refine gy rfl rfl rfl S (y_load rfl Fsca60 S H rfl rfl) fun a S => ?_
 refine gm S fun a S => ?_
 refine gy rfl rfl rfl S (y_iaddrn rfl Try.underlying60 Fsiz63 S H rfl rfl (by first | assumption | omega | (simp only [List.length_range]; omega) | (simp only [List.length_replicate]; omega) | (simp only [List.length_cons]; omega))) fun a S => ?_
 refine gy rfl rfl rfl S ((y_loadsD c.av 0 rfl Fsca63 S H rfl (by simp only [List.length_range]; omega) (ldPt hi))) fun a S => ?_
 refine ga S fun a S => ?_
 refine gnt ?_
 have S := ((S.nil.cons S 1 rfl).cons S 0 rfl).cons S 4 rfl
 refine cutQ (fun a w => ∃ z', St 30 [] a ∧ HSat M u0 (RGrpA c n (g.share i) z' :: RCel c :: RPts c n :: l) w) ?_ ?_
 ·skip
  refine t_st (tails := [11, 17]) [] Fmo H ?_
  refine t_p 0 rfl (by kernel_rfl) (rem' := [1, 2, 3, 4, 5, 6, 7, 8, 9, 10, 11, 12, 13, 14, 15, 16, 17]) rfl rfl rfl rfl S (fun w => y_move rfl S rfl) fun a S => ?_
  refine t_p 1 rfl (by kernel_rfl) (rem' := [2, 3, 4, 5, 6, 7, 8, 9, 10, 11, 12, 13, 14, 15, 16, 17]) rfl rfl rfl rfl S (fun w => y_move rfl S rfl) fun a S => ?_
  refine t_p 2 rfl (by kernel_rfl) (rem' := [3, 4, 5, 6, 7, 8, 9, 10, 11, 12, 13, 14, 15, 16, 17]) rfl rfl rfl rfl S (fun w => y_move rfl S rfl) fun a S => ?_
  refine t_p 3 rfl (by kernel_rfl) (rem' := [4, 5, 6, 7, 8, 9, 10, 11, 12, 13, 14, 15, 16, 17]) rfl rfl rfl rfl S (fun w => y_nilCheck rfl S rfl) fun a S => ?_
  refine t_p 4 rfl (by kernel_rfl) (rem' := [5, 6, 7, 8, 9, 10, 11, 12, 13, 14, 15, 16, 17]) rfl rfl rfl rfl S (fun w => y_faddrb rfl Ffo67_0 S rfl) fun a S => ?_
  refine t_q 7 rfl (by kernel_rfl) (rem' := [5, 6, 8, 9, 10, 11, 12, 13, 14, 15, 16, 17]) rfl rfl rfl rfl S (fun w H => y_move rfl S rfl) fun a S => ?_
  refine t_q 8 rfl (by kernel_rfl) (rem' := [5, 6, 9, 10, 11, 12, 13, 14, 15, 16, 17]) rfl rfl rfl rfl S (fun w H => y_nilCheck rfl S rfl) fun a S => ?_
  refine t_q 9 rfl (by kernel_rfl) (rem' := [5, 6, 10, 11, 12, 13, 14, 15, 16, 17]) rfl rfl rfl rfl S (fun w H => y_faddrb rfl Ffo67_2 S rfl) fun a S => ?_
  refine t_q 10 rfl (by kernel_rfl) (rem' := [5, 6, 11, 12, 13, 14, 15, 16, 17]) rfl rfl rfl rfl S (fun w H => y_load rfl Fsca64 S H rfl rfl) fun a S => ?_
  refine t_p 12 rfl (by kernel_rfl) (rem' := [5, 6, 11, 13, 14, 15, 16, 17]) rfl rfl rfl rfl S (fun w => y_move rfl S rfl) fun a S => ?_
  refine t_p 13 rfl (by kernel_rfl) (rem' := [5, 6, 11, 14, 15, 16, 17]) rfl rfl rfl rfl S (fun w => y_nilCheck rfl S rfl) fun a S => ?_
  refine t_p 14 rfl (by kernel_rfl) (rem' := [5, 6, 11, 15, 16, 17]) rfl rfl rfl rfl S (fun w => y_faddrb rfl Ffo67_5 S rfl) fun a S => ?_
  refine t_b [5, 6, 15] (by kernel_rfl) rfl (fa3 ?_ ?_ ?_)
  ·refine ⟨_, rfl, fun w H => ?_⟩
   refine op_y (wn rfl) rfl rfl S (y_load rfl Fsca3 S H rfl rfl) fun a S => ?_
   refine t_n H (rem' := [6, 11, 15, 16, 17]) rfl ?_
   refine t_b [6, 15] (by kernel_rfl) rfl (fa2 ?_ ?_)
   ·refine ⟨_, rfl, fun w H => ?_⟩
    refine op_buildSlice (wn rfl) rfl rfl rfl Try.underlying64 Finf89 S H (idx := []) rfl rfl rfl (z := []) (by kernel_rfl) (cs := []) rfl fun b18 a w S H => ?_
    have H := H.celO [] Ent.enc 2 (m := 0) rfl (by simp) rfl (by omega)
    refine t_n H (rem' := [11, 15, 16, 17]) rfl ?_
    refine t_b [11, 15] (by kernel_rfl) rfl (fa2 ?_ ?_)
    ·refine ⟨_, rfl, fun w H => ?_⟩
     refine op_appendT (wn rfl) rfl rfl rfl Try.underlying64 Finf89 rfl rfl S H rfl rfl (by simp [Ent.enc, Value.oneCell']) (by simp only [List.length_nil]; omega) (by simp only [List.length_nil]; omega) fun u23 a w S H => ?_
     rw [List.nil_append] at H
     obtain ⟨pu, cu, rfl⟩ := (H.sl u23).shape
     refine t_tail H rfl (rem' := [15, 16, 17]) rfl ?_
     refine t_q 15 rfl (by kernel_rfl) (rem' := [16, 17]) rfl rfl rfl rfl S (fun w H => y_load rfl Fsca3 S H rfl rfl) fun a S => ?_
     refine t_q 16 rfl (by kernel_rfl) (rem' := [17]) rfl rfl rfl rfl S (fun w H => y_buildf rfl Fbld76 S rfl (idx := [0, 1, 5, 6]) rfl (cs := [.int .i64 3, .int .i64 (g.at_ i).term, .int .i64 0, .int .i64 0, .bool false, .slice pu (g.at_ i).log.length cu, .int .i64 ((g.at_ i).done : Int)]) rfl) fun a S => ?_
     refine t_b1 17 (by kernel_rfl) rfl fun w H => ?_
     refine op_call (wn rfl) rfl rfl S (co_func rfl Try.call32 S rfl) (rall_spec c n g { z with bag := (.slice pu (g.at_ i).log.length cu, (g.at_ i).log) :: z.bag } i (.share (g.at_ i).term (g.at_ i).log (g.at_ i).done, .slice pu (g.at_ i).log.length cu) _ (rshareIn (H.takeT [OSl 89 (.slice pu (g.at_ i).log.length cu) 2 Ent.enc (g.at_ i).log, RPCel (c.pb i) (z.p i) (g.at_ i), OSl 4 (z.p i).vv 1 eB1 (z.p i).vs, OSl 3 (z.p i).aw 1 encI (z.p i).ak, RRest c n g z i, RQs c z, BagA 7 encRM z.mb, BagA 2 Ent.enc z.bag] (RCel c :: RPts c n :: l)) hz hi hf) hi (fun t l d e => by cases e; exact List.mem_cons_self ..) rfl (fun j => by have := hq j; omega)) fun v w hc a S => ?_
     obtain ⟨rfl, z', _, H⟩ := hc
     
     refine t_tail H rfl (rem' := []) rfl ?_
     refine t_nil (fun w H => ?_)
     exact ⟨z', S.nil, H⟩
    ·refine ⟨_, rfl, fun w H => ?_⟩
     refine op_y (wn rfl) rfl rfl S (y_load rfl Fsca3 S H rfl rfl) fun a S => ?_
     refine t_n H (rem' := [11, 16, 17]) rfl ?_
     refine t_b1 11 (by kernel_rfl) rfl fun w H => ?_
     refine op_appendT (wn rfl) rfl rfl rfl Try.underlying64 Finf89 rfl rfl S H rfl rfl (by simp [Ent.enc, Value.oneCell']) (by simp only [List.length_nil]; omega) (by simp only [List.length_nil]; omega) fun u23 a w S H => ?_
     rw [List.nil_append] at H
     obtain ⟨pu, cu, rfl⟩ := (H.sl u23).shape
     refine t_tail H rfl (rem' := [16, 17]) rfl ?_
     refine t_q 16 rfl (by kernel_rfl) (rem' := [17]) rfl rfl rfl rfl S (fun w H => y_buildf rfl Fbld76 S rfl (idx := [0, 1, 5, 6]) rfl (cs := [.int .i64 3, .int .i64 (g.at_ i).term, .int .i64 0, .int .i64 0, .bool false, .slice pu (g.at_ i).log.length cu, .int .i64 ((g.at_ i).done : Int)]) rfl) fun a S => ?_
     refine t_b1 17 (by kernel_rfl) rfl fun w H => ?_
     refine op_call (wn rfl) rfl rfl S (co_func rfl Try.call32 S rfl) (rall_spec c n g { z with bag := (.slice pu (g.at_ i).log.length cu, (g.at_ i).log) :: z.bag } i (.share (g.at_ i).term (g.at_ i).log (g.at_ i).done, .slice pu (g.at_ i).log.length cu) _ (rshareIn (H.takeT [OSl 89 (.slice pu (g.at_ i).log.length cu) 2 Ent.enc (g.at_ i).log, RPCel (c.pb i) (z.p i) (g.at_ i), OSl 4 (z.p i).vv 1 eB1 (z.p i).vs, OSl 3 (z.p i).aw 1 encI (z.p i).ak, RRest c n g z i, RQs c z, BagA 7 encRM z.mb, BagA 2 Ent.enc z.bag] (RCel c :: RPts c n :: l)) hz hi hf) hi (fun t l d e => by cases e; exact List.mem_cons_self ..) rfl (fun j => by have := hq j; omega)) fun v w hc a S => ?_
     obtain ⟨rfl, z', _, H⟩ := hc
     
     refine t_tail H rfl (rem' := []) rfl ?_
     refine t_nil (fun w H => ?_)
     exact ⟨z', S.nil, H⟩
   ·refine ⟨_, rfl, fun w H => ?_⟩
    refine op_y (wn rfl) rfl rfl S (y_load rfl Fsca3 S H rfl rfl) fun a S => ?_
    refine t_n H (rem' := [6, 11, 16, 17]) rfl ?_
    refine t_b1 6 (by kernel_rfl) rfl fun w H => ?_
    refine op_buildSlice (wn rfl) rfl rfl rfl Try.underlying64 Finf89 S H (idx := []) rfl rfl rfl (z := []) (by kernel_rfl) (cs := []) rfl fun b18 a w S H => ?_
    have H := H.celO [] Ent.enc 2 (m := 0) rfl (by simp) rfl (by omega)
    refine t_n H (rem' := [11, 16, 17]) rfl ?_
    refine t_b1 11 (by kernel_rfl) rfl fun w H => ?_
    refine op_appendT (wn rfl) rfl rfl rfl Try.underlying64 Finf89 rfl rfl S H rfl rfl (by simp [Ent.enc, Value.oneCell']) (by simp only [List.length_nil]; omega) (by simp only [List.length_nil]; omega) fun u23 a w S H => ?_
    rw [List.nil_append] at H
    obtain ⟨pu, cu, rfl⟩ := (H.sl u23).shape
    refine t_tail H rfl (rem' := [16, 17]) rfl ?_
    refine t_q 16 rfl (by kernel_rfl) (rem' := [17]) rfl rfl rfl rfl S (fun w H => y_buildf rfl Fbld76 S rfl (idx := [0, 1, 5, 6]) rfl (cs := [.int .i64 3, .int .i64 (g.at_ i).term, .int .i64 0, .int .i64 0, .bool false, .slice pu (g.at_ i).log.length cu, .int .i64 ((g.at_ i).done : Int)]) rfl) fun a S => ?_
    refine t_b1 17 (by kernel_rfl) rfl fun w H => ?_
    refine op_call (wn rfl) rfl rfl S (co_func rfl Try.call32 S rfl) (rall_spec c n g { z with bag := (.slice pu (g.at_ i).log.length cu, (g.at_ i).log) :: z.bag } i (.share (g.at_ i).term (g.at_ i).log (g.at_ i).done, .slice pu (g.at_ i).log.length cu) _ (rshareIn (H.takeT [OSl 89 (.slice pu (g.at_ i).log.length cu) 2 Ent.enc (g.at_ i).log, RPCel (c.pb i) (z.p i) (g.at_ i), OSl 4 (z.p i).vv 1 eB1 (z.p i).vs, OSl 3 (z.p i).aw 1 encI (z.p i).ak, RRest c n g z i, RQs c z, BagA 7 encRM z.mb, BagA 2 Ent.enc z.bag] (RCel c :: RPts c n :: l)) hz hi hf) hi (fun t l d e => by cases e; exact List.mem_cons_self ..) rfl (fun j => by have := hq j; omega)) fun v w hc a S => ?_
    obtain ⟨rfl, z', _, H⟩ := hc
    
    refine t_tail H rfl (rem' := []) rfl ?_
    refine t_nil (fun w H => ?_)
    exact ⟨z', S.nil, H⟩
  ·refine ⟨_, rfl, fun w H => ?_⟩
   refine op_buildSlice (wn rfl) rfl rfl rfl Try.underlying64 Finf89 S H (idx := []) rfl rfl rfl (z := []) (by kernel_rfl) (cs := []) rfl fun b18 a w S H => ?_
   have H := H.celO [] Ent.enc 2 (m := 0) rfl (by simp) rfl (by omega)
   refine t_n H (rem' := [5, 11, 15, 16, 17]) rfl ?_
   refine t_b [5, 11, 15] (by kernel_rfl) rfl (fa3 ?_ ?_ ?_)
   ·refine ⟨_, rfl, fun w H => ?_⟩
    refine op_y (wn rfl) rfl rfl S (y_load rfl Fsca3 S H rfl rfl) fun a S => ?_
    refine t_n H (rem' := [11, 15, 16, 17]) rfl ?_
    refine t_b [11, 15] (by kernel_rfl) rfl (fa2 ?_ ?_)
    ·refine ⟨_, rfl, fun w H => ?_⟩
     refine op_appendT (wn rfl) rfl rfl rfl Try.underlying64 Finf89 rfl rfl S H rfl rfl (by simp [Ent.enc, Value.oneCell']) (by simp only [List.length_nil]; omega) (by simp only [List.length_nil]; omega) fun u23 a w S H => ?_
     rw [List.nil_append] at H
     obtain ⟨pu, cu, rfl⟩ := (H.sl u23).shape
     refine t_tail H rfl (rem' := [15, 16, 17]) rfl ?_
     refine t_q 15 rfl (by kernel_rfl) (rem' := [16, 17]) rfl rfl rfl rfl S (fun w H => y_load rfl Fsca3 S H rfl rfl) fun a S => ?_
     refine t_q 16 rfl (by kernel_rfl) (rem' := [17]) rfl rfl rfl rfl S (fun w H => y_buildf rfl Fbld76 S rfl (idx := [0, 1, 5, 6]) rfl (cs := [.int .i64 3, .int .i64 (g.at_ i).term, .int .i64 0, .int .i64 0, .bool false, .slice pu (g.at_ i).log.length cu, .int .i64 ((g.at_ i).done : Int)]) rfl) fun a S => ?_
     refine t_b1 17 (by kernel_rfl) rfl fun w H => ?_
     refine op_call (wn rfl) rfl rfl S (co_func rfl Try.call32 S rfl) (rall_spec c n g { z with bag := (.slice pu (g.at_ i).log.length cu, (g.at_ i).log) :: z.bag } i (.share (g.at_ i).term (g.at_ i).log (g.at_ i).done, .slice pu (g.at_ i).log.length cu) _ (rshareIn (H.takeT [OSl 89 (.slice pu (g.at_ i).log.length cu) 2 Ent.enc (g.at_ i).log, RPCel (c.pb i) (z.p i) (g.at_ i), OSl 4 (z.p i).vv 1 eB1 (z.p i).vs, OSl 3 (z.p i).aw 1 encI (z.p i).ak, RRest c n g z i, RQs c z, BagA 7 encRM z.mb, BagA 2 Ent.enc z.bag] (RCel c :: RPts c n :: l)) hz hi hf) hi (fun t l d e => by cases e; exact List.mem_cons_self ..) rfl (fun j => by have := hq j; omega)) fun v w hc a S => ?_
     obtain ⟨rfl, z', _, H⟩ := hc
     
     refine t_tail H rfl (rem' := []) rfl ?_
     refine t_nil (fun w H => ?_)
     exact ⟨z', S.nil, H⟩
    ·refine ⟨_, rfl, fun w H => ?_⟩
     refine op_y (wn rfl) rfl rfl S (y_load rfl Fsca3 S H rfl rfl) fun a S => ?_
     refine t_n H (rem' := [11, 16, 17]) rfl ?_
     refine t_b1 11 (by kernel_rfl) rfl fun w H => ?_
     refine op_appendT (wn rfl) rfl rfl rfl Try.underlying64 Finf89 rfl rfl S H rfl rfl (by simp [Ent.enc, Value.oneCell']) (by simp only [List.length_nil]; omega) (by simp only [List.length_nil]; omega) fun u23 a w S H => ?_
     rw [List.nil_append] at H
     obtain ⟨pu, cu, rfl⟩ := (H.sl u23).shape
     refine t_tail H rfl (rem' := [16, 17]) rfl ?_
     refine t_q 16 rfl (by kernel_rfl) (rem' := [17]) rfl rfl rfl rfl S (fun w H => y_buildf rfl Fbld76 S rfl (idx := [0, 1, 5, 6]) rfl (cs := [.int .i64 3, .int .i64 (g.at_ i).term, .int .i64 0, .int .i64 0, .bool false, .slice pu (g.at_ i).log.length cu, .int .i64 ((g.at_ i).done : Int)]) rfl) fun a S => ?_
     refine t_b1 17 (by kernel_rfl) rfl fun w H => ?_
     refine op_call (wn rfl) rfl rfl S (co_func rfl Try.call32 S rfl) (rall_spec c n g { z with bag := (.slice pu (g.at_ i).log.length cu, (g.at_ i).log) :: z.bag } i (.share (g.at_ i).term (g.at_ i).log (g.at_ i).done, .slice pu (g.at_ i).log.length cu) _ (rshareIn (H.takeT [OSl 89 (.slice pu (g.at_ i).log.length cu) 2 Ent.enc (g.at_ i).log, RPCel (c.pb i) (z.p i) (g.at_ i), OSl 4 (z.p i).vv 1 eB1 (z.p i).vs, OSl 3 (z.p i).aw 1 encI (z.p i).ak, RRest c n g z i, RQs c z, BagA 7 encRM z.mb, BagA 2 Ent.enc z.bag] (RCel c :: RPts c n :: l)) hz hi hf) hi (fun t l d e => by cases e; exact List.mem_cons_self ..) rfl (fun j => by have := hq j; omega)) fun v w hc a S => ?_
     obtain ⟨rfl, z', _, H⟩ := hc
     
     refine t_tail H rfl (rem' := []) rfl ?_
     refine t_nil (fun w H => ?_)
     exact ⟨z', S.nil, H⟩
   ·refine ⟨_, rfl, fun w H => ?_⟩
    refine op_appendT (wn rfl) rfl rfl rfl Try.underlying64 Finf89 rfl rfl S H rfl rfl (by simp [Ent.enc, Value.oneCell']) (by simp only [List.length_nil]; omega) (by simp only [List.length_nil]; omega) fun u23 a w S H => ?_
    rw [List.nil_append] at H
    obtain ⟨pu, cu, rfl⟩ := (H.sl u23).shape
    refine t_tail H rfl (rem' := [5, 15, 16, 17]) rfl ?_
    refine t_q 5 rfl (by kernel_rfl) (rem' := [15, 16, 17]) rfl rfl rfl rfl S (fun w H => y_load rfl Fsca3 S H rfl rfl) fun a S => ?_
    refine t_q 15 rfl (by kernel_rfl) (rem' := [16, 17]) rfl rfl rfl rfl S (fun w H => y_load rfl Fsca3 S H rfl rfl) fun a S => ?_
    refine t_q 16 rfl (by kernel_rfl) (rem' := [17]) rfl rfl rfl rfl S (fun w H => y_buildf rfl Fbld76 S rfl (idx := [0, 1, 5, 6]) rfl (cs := [.int .i64 3, .int .i64 (g.at_ i).term, .int .i64 0, .int .i64 0, .bool false, .slice pu (g.at_ i).log.length cu, .int .i64 ((g.at_ i).done : Int)]) rfl) fun a S => ?_
    refine t_b1 17 (by kernel_rfl) rfl fun w H => ?_
    refine op_call (wn rfl) rfl rfl S (co_func rfl Try.call32 S rfl) (rall_spec c n g { z with bag := (.slice pu (g.at_ i).log.length cu, (g.at_ i).log) :: z.bag } i (.share (g.at_ i).term (g.at_ i).log (g.at_ i).done, .slice pu (g.at_ i).log.length cu) _ (rshareIn (H.takeT [OSl 89 (.slice pu (g.at_ i).log.length cu) 2 Ent.enc (g.at_ i).log, RPCel (c.pb i) (z.p i) (g.at_ i), OSl 4 (z.p i).vv 1 eB1 (z.p i).vs, OSl 3 (z.p i).aw 1 encI (z.p i).ak, RRest c n g z i, RQs c z, BagA 7 encRM z.mb, BagA 2 Ent.enc z.bag] (RCel c :: RPts c n :: l)) hz hi hf) hi (fun t l d e => by cases e; exact List.mem_cons_self ..) rfl (fun j => by have := hq j; omega)) fun v w hc a S => ?_
    obtain ⟨rfl, z', _, H⟩ := hc
    
    refine t_tail H rfl (rem' := []) rfl ?_
    refine t_nil (fun w H => ?_)
    exact ⟨z', S.nil, H⟩
   ·refine ⟨_, rfl, fun w H => ?_⟩
    refine op_y (wn rfl) rfl rfl S (y_load rfl Fsca3 S H rfl rfl) fun a S => ?_
    refine t_n H (rem' := [5, 11, 16, 17]) rfl ?_
    refine t_b [5, 11] (by kernel_rfl) rfl (fa2 ?_ ?_)
    ·refine ⟨_, rfl, fun w H => ?_⟩
     refine op_y (wn rfl) rfl rfl S (y_load rfl Fsca3 S H rfl rfl) fun a S => ?_
     refine t_n H (rem' := [11, 16, 17]) rfl ?_
     refine t_b1 11 (by kernel_rfl) rfl fun w H => ?_
     refine op_appendT (wn rfl) rfl rfl rfl Try.underlying64 Finf89 rfl rfl S H rfl rfl (by simp [Ent.enc, Value.oneCell']) (by simp only [List.length_nil]; omega) (by simp only [List.length_nil]; omega) fun u23 a w S H => ?_
     rw [List.nil_append] at H
     obtain ⟨pu, cu, rfl⟩ := (H.sl u23).shape
     refine t_tail H rfl (rem' := [16, 17]) rfl ?_
     refine t_q 16 rfl (by kernel_rfl) (rem' := [17]) rfl rfl rfl rfl S (fun w H => y_buildf rfl Fbld76 S rfl (idx := [0, 1, 5, 6]) rfl (cs := [.int .i64 3, .int .i64 (g.at_ i).term, .int .i64 0, .int .i64 0, .bool false, .slice pu (g.at_ i).log.length cu, .int .i64 ((g.at_ i).done : Int)]) rfl) fun a S => ?_
     refine t_b1 17 (by kernel_rfl) rfl fun w H => ?_
     refine op_call (wn rfl) rfl rfl S (co_func rfl Try.call32 S rfl) (rall_spec c n g { z with bag := (.slice pu (g.at_ i).log.length cu, (g.at_ i).log) :: z.bag } i (.share (g.at_ i).term (g.at_ i).log (g.at_ i).done, .slice pu (g.at_ i).log.length cu) _ (rshareIn (H.takeT [OSl 89 (.slice pu (g.at_ i).log.length cu) 2 Ent.enc (g.at_ i).log, RPCel (c.pb i) (z.p i) (g.at_ i), OSl 4 (z.p i).vv 1 eB1 (z.p i).vs, OSl 3 (z.p i).aw 1 encI (z.p i).ak, RRest c n g z i, RQs c z, BagA 7 encRM z.mb, BagA 2 Ent.enc z.bag] (RCel c :: RPts c n :: l)) hz hi hf) hi (fun t l d e => by cases e; exact List.mem_cons_self ..) rfl (fun j => by have := hq j; omega)) fun v w hc a S => ?_
     obtain ⟨rfl, z', _, H⟩ := hc
     
     refine t_tail H rfl (rem' := []) rfl ?_
     refine t_nil (fun w H => ?_)
     exact ⟨z', S.nil, H⟩
    ·refine ⟨_, rfl, fun w H => ?_⟩
     refine op_appendT (wn rfl) rfl rfl rfl Try.underlying64 Finf89 rfl rfl S H rfl rfl (by simp [Ent.enc, Value.oneCell']) (by simp only [List.length_nil]; omega) (by simp only [List.length_nil]; omega) fun u23 a w S H => ?_
     rw [List.nil_append] at H
     obtain ⟨pu, cu, rfl⟩ := (H.sl u23).shape
     refine t_tail H rfl (rem' := [5, 16, 17]) rfl ?_
     refine t_q 5 rfl (by kernel_rfl) (rem' := [16, 17]) rfl rfl rfl rfl S (fun w H => y_load rfl Fsca3 S H rfl rfl) fun a S => ?_
     refine t_q 16 rfl (by kernel_rfl) (rem' := [17]) rfl rfl rfl rfl S (fun w H => y_buildf rfl Fbld76 S rfl (idx := [0, 1, 5, 6]) rfl (cs := [.int .i64 3, .int .i64 (g.at_ i).term, .int .i64 0, .int .i64 0, .bool false, .slice pu (g.at_ i).log.length cu, .int .i64 ((g.at_ i).done : Int)]) rfl) fun a S => ?_
     refine t_b1 17 (by kernel_rfl) rfl fun w H => ?_
     refine op_call (wn rfl) rfl rfl S (co_func rfl Try.call32 S rfl) (rall_spec c n g { z with bag := (.slice pu (g.at_ i).log.length cu, (g.at_ i).log) :: z.bag } i (.share (g.at_ i).term (g.at_ i).log (g.at_ i).done, .slice pu (g.at_ i).log.length cu) _ (rshareIn (H.takeT [OSl 89 (.slice pu (g.at_ i).log.length cu) 2 Ent.enc (g.at_ i).log, RPCel (c.pb i) (z.p i) (g.at_ i), OSl 4 (z.p i).vv 1 eB1 (z.p i).vs, OSl 3 (z.p i).aw 1 encI (z.p i).ak, RRest c n g z i, RQs c z, BagA 7 encRM z.mb, BagA 2 Ent.enc z.bag] (RCel c :: RPts c n :: l)) hz hi hf) hi (fun t l d e => by cases e; exact List.mem_cons_self ..) rfl (fun j => by have := hq j; omega)) fun v w hc a S => ?_
     obtain ⟨rfl, z', _, H⟩ := hc
     
     refine t_tail H rfl (rem' := []) rfl ?_
     refine t_nil (fun w H => ?_)
     exact ⟨z', S.nil, H⟩
  ·refine ⟨_, rfl, fun w H => ?_⟩
   refine op_y (wn rfl) rfl rfl S (y_load rfl Fsca3 S H rfl rfl) fun a S => ?_
   refine t_n H (rem' := [5, 6, 11, 16, 17]) rfl ?_
   refine t_b [5, 6] (by kernel_rfl) rfl (fa2 ?_ ?_)
   ·refine ⟨_, rfl, fun w H => ?_⟩
    refine op_y (wn rfl) rfl rfl S (y_load rfl Fsca3 S H rfl rfl) fun a S => ?_
    refine t_n H (rem' := [6, 11, 16, 17]) rfl ?_
    refine t_b1 6 (by kernel_rfl) rfl fun w H => ?_
    refine op_buildSlice (wn rfl) rfl rfl rfl Try.underlying64 Finf89 S H (idx := []) rfl rfl rfl (z := []) (by kernel_rfl) (cs := []) rfl fun b18 a w S H => ?_
    have H := H.celO [] Ent.enc 2 (m := 0) rfl (by simp) rfl (by omega)
    refine t_n H (rem' := [11, 16, 17]) rfl ?_
    refine t_b1 11 (by kernel_rfl) rfl fun w H => ?_
    refine op_appendT (wn rfl) rfl rfl rfl Try.underlying64 Finf89 rfl rfl S H rfl rfl (by simp [Ent.enc, Value.oneCell']) (by simp only [List.length_nil]; omega) (by simp only [List.length_nil]; omega) fun u23 a w S H => ?_
    rw [List.nil_append] at H
    obtain ⟨pu, cu, rfl⟩ := (H.sl u23).shape
    refine t_tail H rfl (rem' := [16, 17]) rfl ?_
    refine t_q 16 rfl (by kernel_rfl) (rem' := [17]) rfl rfl rfl rfl S (fun w H => y_buildf rfl Fbld76 S rfl (idx := [0, 1, 5, 6]) rfl (cs := [.int .i64 3, .int .i64 (g.at_ i).term, .int .i64 0, .int .i64 0, .bool false, .slice pu (g.at_ i).log.length cu, .int .i64 ((g.at_ i).done : Int)]) rfl) fun a S => ?_
    refine t_b1 17 (by kernel_rfl) rfl fun w H => ?_
    refine op_call (wn rfl) rfl rfl S (co_func rfl Try.call32 S rfl) (rall_spec c n g { z with bag := (.slice pu (g.at_ i).log.length cu, (g.at_ i).log) :: z.bag } i (.share (g.at_ i).term (g.at_ i).log (g.at_ i).done, .slice pu (g.at_ i).log.length cu) _ (rshareIn (H.takeT [OSl 89 (.slice pu (g.at_ i).log.length cu) 2 Ent.enc (g.at_ i).log, RPCel (c.pb i) (z.p i) (g.at_ i), OSl 4 (z.p i).vv 1 eB1 (z.p i).vs, OSl 3 (z.p i).aw 1 encI (z.p i).ak, RRest c n g z i, RQs c z, BagA 7 encRM z.mb, BagA 2 Ent.enc z.bag] (RCel c :: RPts c n :: l)) hz hi hf) hi (fun t l d e => by cases e; exact List.mem_cons_self ..) rfl (fun j => by have := hq j; omega)) fun v w hc a S => ?_
    obtain ⟨rfl, z', _, H⟩ := hc
    
    refine t_tail H rfl (rem' := []) rfl ?_
    refine t_nil (fun w H => ?_)
    exact ⟨z', S.nil, H⟩
   ·refine ⟨_, rfl, fun w H => ?_⟩
    refine op_buildSlice (wn rfl) rfl rfl rfl Try.underlying64 Finf89 S H (idx := []) rfl rfl rfl (z := []) (by kernel_rfl) (cs := []) rfl fun b18 a w S H => ?_
    have H := H.celO [] Ent.enc 2 (m := 0) rfl (by simp) rfl (by omega)
    refine t_n H (rem' := [5, 11, 16, 17]) rfl ?_
    refine t_b [5, 11] (by kernel_rfl) rfl (fa2 ?_ ?_)
    ·refine ⟨_, rfl, fun w H => ?_⟩
     refine op_y (wn rfl) rfl rfl S (y_load rfl Fsca3 S H rfl rfl) fun a S => ?_
     refine t_n H (rem' := [11, 16, 17]) rfl ?_
     refine t_b1 11 (by kernel_rfl) rfl fun w H => ?_
     refine op_appendT (wn rfl) rfl rfl rfl Try.underlying64 Finf89 rfl rfl S H rfl rfl (by simp [Ent.enc, Value.oneCell']) (by simp only [List.length_nil]; omega) (by simp only [List.length_nil]; omega) fun u23 a w S H => ?_
     rw [List.nil_append] at H
     obtain ⟨pu, cu, rfl⟩ := (H.sl u23).shape
     refine t_tail H rfl (rem' := [16, 17]) rfl ?_
     refine t_q 16 rfl (by kernel_rfl) (rem' := [17]) rfl rfl rfl rfl S (fun w H => y_buildf rfl Fbld76 S rfl (idx := [0, 1, 5, 6]) rfl (cs := [.int .i64 3, .int .i64 (g.at_ i).term, .int .i64 0, .int .i64 0, .bool false, .slice pu (g.at_ i).log.length cu, .int .i64 ((g.at_ i).done : Int)]) rfl) fun a S => ?_
     refine t_b1 17 (by kernel_rfl) rfl fun w H => ?_
     refine op_call (wn rfl) rfl rfl S (co_func rfl Try.call32 S rfl) (rall_spec c n g { z with bag := (.slice pu (g.at_ i).log.length cu, (g.at_ i).log) :: z.bag } i (.share (g.at_ i).term (g.at_ i).log (g.at_ i).done, .slice pu (g.at_ i).log.length cu) _ (rshareIn (H.takeT [OSl 89 (.slice pu (g.at_ i).log.length cu) 2 Ent.enc (g.at_ i).log, RPCel (c.pb i) (z.p i) (g.at_ i), OSl 4 (z.p i).vv 1 eB1 (z.p i).vs, OSl 3 (z.p i).aw 1 encI (z.p i).ak, RRest c n g z i, RQs c z, BagA 7 encRM z.mb, BagA 2 Ent.enc z.bag] (RCel c :: RPts c n :: l)) hz hi hf) hi (fun t l d e => by cases e; exact List.mem_cons_self ..) rfl (fun j => by have := hq j; omega)) fun v w hc a S => ?_
     obtain ⟨rfl, z', _, H⟩ := hc
     
     refine t_tail H rfl (rem' := []) rfl ?_
     refine t_nil (fun w H => ?_)
     exact ⟨z', S.nil, H⟩
    ·refine ⟨_, rfl, fun w H => ?_⟩
     refine op_appendT (wn rfl) rfl rfl rfl Try.underlying64 Finf89 rfl rfl S H rfl rfl (by simp [Ent.enc, Value.oneCell']) (by simp only [List.length_nil]; omega) (by simp only [List.length_nil]; omega) fun u23 a w S H => ?_
     rw [List.nil_append] at H
     obtain ⟨pu, cu, rfl⟩ := (H.sl u23).shape
     refine t_tail H rfl (rem' := [5, 16, 17]) rfl ?_
     refine t_q 5 rfl (by kernel_rfl) (rem' := [16, 17]) rfl rfl rfl rfl S (fun w H => y_load rfl Fsca3 S H rfl rfl) fun a S => ?_
     refine t_q 16 rfl (by kernel_rfl) (rem' := [17]) rfl rfl rfl rfl S (fun w H => y_buildf rfl Fbld76 S rfl (idx := [0, 1, 5, 6]) rfl (cs := [.int .i64 3, .int .i64 (g.at_ i).term, .int .i64 0, .int .i64 0, .bool false, .slice pu (g.at_ i).log.length cu, .int .i64 ((g.at_ i).done : Int)]) rfl) fun a S => ?_
     refine t_b1 17 (by kernel_rfl) rfl fun w H => ?_
     refine op_call (wn rfl) rfl rfl S (co_func rfl Try.call32 S rfl) (rall_spec c n g { z with bag := (.slice pu (g.at_ i).log.length cu, (g.at_ i).log) :: z.bag } i (.share (g.at_ i).term (g.at_ i).log (g.at_ i).done, .slice pu (g.at_ i).log.length cu) _ (rshareIn (H.takeT [OSl 89 (.slice pu (g.at_ i).log.length cu) 2 Ent.enc (g.at_ i).log, RPCel (c.pb i) (z.p i) (g.at_ i), OSl 4 (z.p i).vv 1 eB1 (z.p i).vs, OSl 3 (z.p i).aw 1 encI (z.p i).ak, RRest c n g z i, RQs c z, BagA 7 encRM z.mb, BagA 2 Ent.enc z.bag] (RCel c :: RPts c n :: l)) hz hi hf) hi (fun t l d e => by cases e; exact List.mem_cons_self ..) rfl (fun j => by have := hq j; omega)) fun v w hc a S => ?_
     obtain ⟨rfl, z', _, H⟩ := hc
     
     refine t_tail H rfl (rem' := []) rfl ?_
     refine t_nil (fun w H => ?_)
     exact ⟨z', S.nil, H⟩
 rintro a w ⟨z', S, H⟩
 refine ret0n rfl S ?_
 exact ⟨rfl, z', H⟩
set_option maxHeartbeats 1000000 in
/-- (*foyer/foyerref48.Group).lead -/
theorem rlead_spec {M : Nat → Prop} {u0 : World} {l : List Atom} (c : RC) (n : Nat) (g : Grp) (z : RGV) (i : Nat) (w0 : World) (h0 : HSat M u0 (RGrpA c n g z :: RCel c :: RPts c n :: l) w0) (hi : i < n) (hr : (g.at_ i).role = 1) (hq : ∀ j, (g.q i j).length ≤ 900000) (hlen : (g.at_ i).log.length ≤ 200000) :
    Ret Try.prog 34 #[.pointer (some ⟨c.b, 0, none⟩), .int .i64 (i : Int)] w0 (fun u w => u = .tuple #[] ∧ ∃ z', HSat M u0 (RGrpA c n (g.lead i) z' :: RCel c :: RPts c n :: l) w) := by
 refine ret_of_wp (nt := 55) Try.func34 rfl rfl rfl (fl := [(0, .pointer (some ⟨c.b, 0, none⟩)), (1, .int .i64 (i : Int))]) rfl (fun a S => ?_)
 obtain ⟨H, hz⟩ := rgrpOut h0
 obtain ⟨H, hf⟩ := replOut H hi
 have hn7 := hz.n7
 have hin : i < g.n := by rw [hz.en]; exact hi
 have iS : ∀ l, HasSl (BagA 2 Ent.enc z.bag :: l) (z.p i).lv 2 Ent Ent.enc (g.at_ i).log := bagSl (hz.lg i hi)
 have hii := hi
 obtain ⟨hvl, hvt⟩ := hf.v hr
 refine gsr ?_
 refine gm S fun a S => ?_
 refine gy rfl rfl rfl S (y_nilCheck rfl S rfl) fun a S => ?_
 refine gy rfl rfl rfl S (y_faddrb rfl Ffo62_0 S rfl) fun a S => ?_
 refine gy rfl rfl rfl S (y_load rfl Fsca60 S H rfl rfl) fun a S => ?_
 refine gm S fun a S => ?_
 refine gy rfl rfl rfl S (y_iaddrn rfl Try.underlying60 Fsiz63 S H rfl rfl (by first | assumption | omega | (simp only [List.length_range]; omega) | (simp only [List.length_replicate]; omega) | (simp only [List.length_cons]; omega))) fun a S => ?_
 refine gy rfl rfl rfl S ((y_loadsD c.av 0 rfl Fsca63 S H rfl (by simp only [List.length_range]; omega) (ldPt hi))) fun a S => ?_
 refine ga S fun a S => ?_
 refine gnt ?_
 have S := ((S.nil.cons S 1 rfl).cons S 0 rfl).cons S 4 rfl
 refine gsr ?_
 refine ga S fun a S => ?_
 refine gnt ?_
 refine g_seq ?_
 refine gsr ?_
 refine ga S fun a S => ?_
 refine gnt ?_
 refine g_block ?_
 have SU := ((S.nil.cons S 1 rfl).cons S 0 rfl).cons S 4 rfl
 refine loop_k (X := Nat) SU (fun k => [(5, .int .i64 (count k (g.at_ i).votes : Int)), (6, .int .i64 (k : Int))]) (fun k => k ≤ n) (fun k => n - k) 0 ((S.nil.cons S 6 rfl).cons S 5 rfl) H (Nat.zero_le _) (fun k a w S H hi => ?_)
 simp only [List.cons_append, List.nil_append] at S hi
 have hk := hi
 have hcl := count_le k (g.at_ i).votes
 refine g_seq ?_
 refine gsr ?_
 refine gm S fun a S => ?_
 refine gm S fun a S => ?_
 refine gy rfl rfl rfl S (y_nilCheck rfl S rfl) fun a S => ?_
 refine gy rfl rfl rfl S (y_faddrb rfl Ffo62_0 S rfl) fun a S => ?_
 refine gy rfl rfl rfl S (y_load rfl Fsca60 S H rfl rfl) fun a S => ?_
 refine gy rfl rfl rfl S (y_lens rfl Try.underlying60 S H rfl) fun a S => ?_
 rw [List.length_range] at S
 refine gy rfl rfl rfl S (y_bin rfl S rfl rfl rfl) fun a S => ?_
 refine gnt ?_
 have S := (((((S.nil.cons S 1 rfl).cons S 0 rfl).cons S 4 rfl).cons S 6 rfl).cons S 5 rfl).cons S 20 rfl
 refine c_if S rfl (fun h1 => ?_) (fun h1 => ?_)
 ·have h1p := h1; try simp only [DL] at h1p
  refine g_skip ?_
  refine n_then ?_
  refine g_seq ?_
  refine g_block ?_
  refine gsr ?_
  refine gm S fun a S => ?_
  refine gy rfl rfl rfl S (y_nilCheck rfl S rfl) fun a S => ?_
  refine gy rfl rfl rfl S (y_faddrb rfl Ffo67_6 S rfl) fun a S => ?_
  refine gy rfl rfl rfl S (y_load rfl Fsca65 S H rfl rfl) fun a S => ?_
  refine gm S fun a S => ?_
  refine gy rfl rfl rfl S (y_iaddrn rfl Try.underlying65 Fsiz4 S H rfl rfl (by first | assumption | omega | (simp only [List.length_range]; omega) | (simp only [List.length_replicate]; omega) | (simp only [List.length_cons]; omega))) fun a S => ?_
  refine gy rfl rfl rfl S ((y_loadsD (z.p i).vv false rfl Fsca4 S H rfl (by omega) (show (eB1 ((z.p i).vs.getD k false))[0]? = some (.bool ((g.at_ i).votes k)) by rw [hvt k (by omega)]; rfl))) fun a S => ?_
  refine gnt ?_
  have S := (((((S.nil.cons S 1 rfl).cons S 0 rfl).cons S 4 rfl).cons S 6 rfl).cons S 5 rfl).cons S 29 rfl
  refine c_if S rfl (fun h2 => ?_) (fun h2 => ?_)
  ·have h2p := h2; try simp only [DL] at h2p
   refine g_region ?_
   refine gm S fun a S => ?_
   refine gy rfl rfl rfl S (y_add rfl S rfl rfl (by omega)) fun a S => ?_
   refine ga S fun a S => ?_
   refine gl_nil ?_
   refine n_block ?_
   refine n_then ?_
   have S := ((((S.nil.cons S 1 rfl).cons S 0 rfl).cons S 4 rfl).cons S 6 rfl).cons S 5 rfl
   refine g_region ?_
   refine gm S fun a S => ?_
   refine gy rfl rfl rfl S (y_add rfl S rfl rfl (by omega)) fun a S => ?_
   refine ga S fun a S => ?_
   refine gnt ?_
   first
   | exact ⟨k + 1, (S.nil.cons S 6 rfl).cons S 5 (by rw [count_succ, if_pos h2]; rfl), ((S.nil.cons S 1 rfl).cons S 0 rfl).cons S 4 rfl, H, by omega, by omega⟩
   | exact ⟨k + 1, (S.nil.cons S 6 rfl).cons S 5 (by rw [count_succ, if_neg (by simp [h2])]; rfl), ((S.nil.cons S 1 rfl).cons S 0 rfl).cons S 4 rfl, H, by omega, by omega⟩
  ·have h2p := h2; try simp only [DL] at h2p
   refine g_skip ?_
   refine n_block ?_
   refine n_then ?_
   refine g_region ?_
   refine gm S fun a S => ?_
   refine gy rfl rfl rfl S (y_add rfl S rfl rfl (by omega)) fun a S => ?_
   refine ga S fun a S => ?_
   refine gnt ?_
   first
   | exact ⟨k + 1, (S.nil.cons S 6 rfl).cons S 5 (by rw [count_succ, if_pos h2]; rfl), ((S.nil.cons S 1 rfl).cons S 0 rfl).cons S 4 rfl, H, by omega, by omega⟩
   | exact ⟨k + 1, (S.nil.cons S 6 rfl).cons S 5 (by rw [count_succ, if_neg (by simp [h2])]; rfl), ((S.nil.cons S 1 rfl).cons S 0 rfl).cons S 4 rfl, H, by omega, by omega⟩
 ·have h1p := h1; try simp only [DL] at h1p
  obtain rfl : n = k := by have := h1p; omega
  refine g_exit ?_
  refine x_then (x_then (x_eq ?_))
  refine n_then ?_
  refine gsr ?_
  refine gm S fun a S => ?_
  refine gy rfl rfl rfl S (y_mul rfl S rfl rfl (by omega)) fun a S => ?_
  refine gm S fun a S => ?_
  refine gy rfl rfl rfl S (y_nilCheck rfl S rfl) fun a S => ?_
  refine gy rfl rfl rfl S (y_faddrb rfl Ffo62_0 S rfl) fun a S => ?_
  refine gy rfl rfl rfl S (y_load rfl Fsca60 S H rfl rfl) fun a S => ?_
  refine gy rfl rfl rfl S (y_lens rfl Try.underlying60 S H rfl) fun a S => ?_
  rw [List.length_range] at S
  refine gy rfl rfl rfl S (y_bin rfl S rfl rfl rfl) fun a S => ?_
  refine gnt ?_
  have S := (((S.nil.cons S 1 rfl).cons S 0 rfl).cons S 4 rfl).cons S 39 rfl
  refine c_if S rfl (fun h3 => ?_) (fun h3 => ?_)
  ·have h3p := h3; try simp only [DL] at h3p
   have hmj : maj g.n (g.at_ i).votes = true := by rw [hz.en]; unfold maj; rw [decide_eq_true_eq]; have := h3p; omega
   refine gsr ?_
   refine gm S fun a S => ?_
   refine gy rfl rfl rfl S (y_nilCheck rfl S rfl) fun a S => ?_
   refine gy rfl rfl rfl S (y_faddrb rfl Ffo67_4 S rfl) fun a S => ?_
   refine wl_of (op_store (wn rfl) rfl rfl S H rfl rfl rfl Fsiz3 rfl fun a w S H => ?_)
   dsimp only [List.set, Nat.zero_add, Nat.reduceAdd] at H
   refine gnt ?_
   have S := ((S.nil.cons S 1 rfl).cons S 0 rfl).cons S 4 rfl
   refine gsr ?_
   refine gm S fun a S => ?_
   refine gm S fun a S => ?_
   refine gy rfl rfl rfl S (y_nilCheck rfl S rfl) fun a S => ?_
   refine gy rfl rfl rfl S (y_faddrb rfl Ffo62_0 S rfl) fun a S => ?_
   refine gy rfl rfl rfl S (y_load rfl Fsca60 S H rfl rfl) fun a S => ?_
   refine gy rfl rfl rfl S (y_lens rfl Try.underlying60 S H rfl) fun a S => ?_
   rw [List.length_range] at S
   refine wl_of (op_make (encI) (0) (wn rfl) rfl rfl rfl Try.underlying45 Finf3 rfl rfl S H rfl rfl rfl (by omega) (by omega) fun b49 a w S H => ?_)
   refine gy rfl rfl rfl S (y_nilCheck rfl S rfl) fun a S => ?_
   refine gy rfl rfl rfl S (y_faddrb rfl Ffo67_7 S rfl) fun a S => ?_
   refine wl_of (op_store (wn rfl) rfl rfl S H rfl rfl (H.sl1 _) Fsiz45 rfl fun a w S H => ?_)
   dsimp only [List.set, Nat.zero_add, Nat.reduceAdd] at H
   refine gnt ?_
   have S := (S.nil.cons S 1 rfl).cons S 0 rfl
   refine g_region ?_
   refine gm S fun a S => ?_
   refine gm S fun a S => ?_
   refine wl_of (op_call (wn rfl) rfl rfl S (co_func rfl Try.call38 S rfl) (rshare_spec c n (g.put i (g.at_ i).lead) { z with p := fun v => if v = i then ({ z.p i with aw := .slice (some ⟨b49, 0, none⟩) n n, ak := List.replicate n 0 } : RV) else z.p v, bag := z.bag } i _ (rputIn ({ z.p i with aw := .slice (some ⟨b49, 0, none⟩) n n, ak := List.replicate n 0 } : RV) (g.at_ i).lead (H.takeT [Cel (c.pb i) 67 [.int .i64 (g.at_ i).term, .int .i64 (g.at_ i).vote, (z.p i).lv, .bool (g.at_ i).down, .int .i64 2, .int .i64 ((g.at_ i).done : Int), (z.p i).vv, .slice (some ⟨b49, 0, none⟩) n n], OSl 4 (z.p i).vv 1 eB1 (z.p i).vs, OSl 3 (.slice (some ⟨b49, 0, none⟩) n n) 1 encI (List.replicate n 0), RRest c n g z i, RQs c z, BagA 7 encRM z.mb, BagA 2 Ent.enc z.bag] (RCel c :: RPts c n :: l)) hz hii ⟨(fun h => by cases h), fun _ => ⟨List.length_replicate, fun k hk => by rw [List.getD_eq_getElem?_getD, List.getElem?_replicate, if_pos hk]; rfl⟩, hf.t⟩ (fun _ h => h) (hz.lg i hii)) hii hq (by rw [Grp.put_same _ hin]; exact hlen)) fun v w hc a S => ?_)
   obtain ⟨rfl, z', H⟩ := hc
   
   refine gl_nil ?_
   refine ret0n rfl S ?_
   exact ⟨rfl, z', by unfold Grp.lead; rw [if_pos hmj]; exact H⟩
  ·have h3p := h3; try simp only [DL] at h3p
   have hmj : ¬ maj g.n (g.at_ i).votes = true := by rw [hz.en]; unfold maj; rw [decide_eq_true_eq]; have := h3p; omega
   refine g_skip ?_
   refine ret0n rfl S ?_
   exact ⟨rfl, _, by unfold Grp.lead; rw [if_neg hmj]; exact rputSame (H.takeT [RPCel (c.pb i) (z.p i) (g.at_ i), OSl 4 (z.p i).vv 1 eB1 (z.p i).vs, OSl 3 (z.p i).aw 1 encI (z.p i).ak, RRest c n g z i, RQs c z, BagA 7 encRM z.mb, BagA 2 Ent.enc z.bag] (RCel c :: RPts c n :: l)) hz hii hf (fun _ h => h)⟩
set_option maxHeartbeats 1000000 in
/-- (*foyer/foyerref48.Group).commit -/
theorem rcommit_spec {M : Nat → Prop} {u0 : World} {l : List Atom} (c : RC) (n : Nat) (g : Grp) (z : RGV) (i : Nat) (w0 : World) (h0 : HSat M u0 (RGrpA c n g z :: RCel c :: RPts c n :: l) w0) (hi : i < n) (hr : (g.at_ i).role = 2) (hq : ∀ j, (g.q i j).length ≤ 900000) (hlen : (g.at_ i).log.length ≤ 200000) :
    Ret Try.prog 39 #[.pointer (some ⟨c.b, 0, none⟩), .int .i64 (i : Int)] w0 (fun u w => u = .tuple #[] ∧ ∃ z', HSat M u0 (RGrpA c n (g.commit i) z' :: RCel c :: RPts c n :: l) w) := by
 refine ret_of_wp (nt := 84) Try.func39 rfl rfl rfl (fl := [(0, .pointer (some ⟨c.b, 0, none⟩)), (1, .int .i64 (i : Int))]) rfl (fun a S => ?_)
 obtain ⟨H, hz⟩ := rgrpOut h0
 obtain ⟨H, hf⟩ := replOut H hi
 have hn7 := hz.n7
 have hin : i < g.n := by rw [hz.en]; exact hi
 have iS : ∀ l, HasSl (BagA 2 Ent.enc z.bag :: l) (z.p i).lv 2 Ent Ent.enc (g.at_ i).log := bagSl (hz.lg i hi)
 have hii := hi
 obtain ⟨hal, hat⟩ := hf.a hr
 refine gsr ?_
 refine gm S fun a S => ?_
 refine gy rfl rfl rfl S (y_nilCheck rfl S rfl) fun a S => ?_
 refine gy rfl rfl rfl S (y_faddrb rfl Ffo62_0 S rfl) fun a S => ?_
 refine gy rfl rfl rfl S (y_load rfl Fsca60 S H rfl rfl) fun a S => ?_
 refine gm S fun a S => ?_
 refine gy rfl rfl rfl S (y_iaddrn rfl Try.underlying60 Fsiz63 S H rfl rfl (by first | assumption | omega | (simp only [List.length_range]; omega) | (simp only [List.length_replicate]; omega) | (simp only [List.length_cons]; omega))) fun a S => ?_
 refine gy rfl rfl rfl S ((y_loadsD c.av 0 rfl Fsca63 S H rfl (by simp only [List.length_range]; omega) (ldPt hi))) fun a S => ?_
 refine ga S fun a S => ?_
 refine gnt ?_
 have S := ((S.nil.cons S 1 rfl).cons S 0 rfl).cons S 4 rfl
 refine gsr ?_
 refine gm S fun a S => ?_
 refine gy rfl rfl rfl S (y_nilCheck rfl S rfl) fun a S => ?_
 refine gy rfl rfl rfl S (y_faddrb rfl Ffo67_2 S rfl) fun a S => ?_
 refine gy rfl rfl rfl S (y_load rfl Fsca64 S H rfl rfl) fun a S => ?_
 refine gy rfl rfl rfl S (y_lens rfl Try.underlying64 S H rfl) fun a S => ?_
 refine ga S fun a S => ?_
 refine gnt ?_
 have S := (((S.nil.cons S 1 rfl).cons S 0 rfl).cons S 4 rfl).cons S 5 rfl
 refine g_block ?_
 have SU := ((S.nil.cons S 1 rfl).cons S 0 rfl).cons S 4 rfl
 refine loop_k (X := Nat) SU (fun k => [(5, .int .i64 (k : Int))]) (fun k => k ≤ (g.at_ i).log.length ∧ comK (comOk g i) (g.at_ i).done (g.at_ i).log.length = comK (comOk g i) (g.at_ i).done k) (fun k => k) (g.at_ i).log.length (S.nil.cons S 5 rfl) H (⟨Nat.le_refl _, rfl⟩) (fun k a w S H hi => ?_)
 simp only [List.cons_append, List.nil_append] at S hi
 obtain ⟨hk, hcm⟩ := hi
 refine g_seq ?_
 refine gsr ?_
 refine gm S fun a S => ?_
 refine gm S fun a S => ?_
 refine gy rfl rfl rfl S (y_nilCheck rfl S rfl) fun a S => ?_
 refine gy rfl rfl rfl S (y_faddrb rfl Ffo67_5 S rfl) fun a S => ?_
 refine gy rfl rfl rfl S (y_load rfl Fsca3 S H rfl rfl) fun a S => ?_
 refine gy rfl rfl rfl S (y_bin rfl S rfl rfl rfl) fun a S => ?_
 refine gnt ?_
 have S := ((((S.nil.cons S 1 rfl).cons S 0 rfl).cons S 4 rfl).cons S 5 rfl).cons S 25 rfl
 refine c_if S rfl (fun h1 => ?_) (fun h1 => ?_)
 ·have h1p := h1; try simp only [DL] at h1p
  refine g_skip ?_
  refine n_then ?_
  refine g_seq ?_
  refine g_block ?_
  refine gsr ?_
  refine ga S fun a S => ?_
  refine gnt ?_
  refine g_seq ?_
  refine gsr ?_
  refine ga S fun a S => ?_
  refine gnt ?_
  refine g_block ?_
  have SU := (((S.nil.cons S 1 rfl).cons S 0 rfl).cons S 4 rfl).cons S 5 rfl
  refine loop_k (X := Nat) SU (fun f => [(6, .int .i64 (count f (fun f => decide (f = i) || decide ((g.at_ i).acks f ≥ (k : Int))) : Int)), (7, .int .i64 (f : Int))]) (fun f => f ≤ n) (fun f => n - f) 0 ((S.nil.cons S 7 rfl).cons S 6 rfl) H (Nat.zero_le _) (fun f a w S H hi => ?_)
  simp only [List.cons_append, List.nil_append] at S hi
  have hfn := hi
  have hcl := count_le f (fun f => decide (f = i) || decide ((g.at_ i).acks f ≥ (k : Int)))
  refine g_seq ?_
  refine gsr ?_
  refine gm S fun a S => ?_
  refine gm S fun a S => ?_
  refine gy rfl rfl rfl S (y_nilCheck rfl S rfl) fun a S => ?_
  refine gy rfl rfl rfl S (y_faddrb rfl Ffo62_0 S rfl) fun a S => ?_
  refine gy rfl rfl rfl S (y_load rfl Fsca60 S H rfl rfl) fun a S => ?_
  refine gy rfl rfl rfl S (y_lens rfl Try.underlying60 S H rfl) fun a S => ?_
  rw [List.length_range] at S
  refine gy rfl rfl rfl S (y_bin rfl S rfl rfl rfl) fun a S => ?_
  refine gnt ?_
  have S := ((((((S.nil.cons S 1 rfl).cons S 0 rfl).cons S 4 rfl).cons S 5 rfl).cons S 7 rfl).cons S 6 rfl).cons S 34 rfl
  refine c_if S rfl (fun h2 => ?_) (fun h2 => ?_)
  ·have h2p := h2; try simp only [DL] at h2p
   refine g_skip ?_
   refine n_then ?_
   refine g_seq ?_
   refine g_block ?_
   refine gsr ?_
   refine gm S fun a S => ?_
   refine gm S fun a S => ?_
   refine gy rfl rfl rfl S (y_bin rfl S rfl rfl rfl) fun a S => ?_
   refine gm S fun a S => ?_
   refine' wl_or 9 40 rfl S H rfl rfl rfl rfl rfl rfl rfl (fun _ S => (wn rfl)) (fun h3 kk => ?yh3) (fun a w S H => ?_)
   case yh3 =>
    have h3p := h3; try simp only [DL] at h3p
    refine gz 40 h3 S rfl rfl rfl rfl rfl rfl (y_move rfl S rfl) fun a S => ?_
    refine gz 40 h3 S rfl rfl rfl rfl rfl rfl (y_nilCheck rfl S rfl) fun a S => ?_
    refine gz 40 h3 S rfl rfl rfl rfl rfl rfl (y_faddrb rfl Ffo67_7 S rfl) fun a S => ?_
    refine gz 40 h3 S rfl rfl rfl rfl rfl rfl (y_load rfl Fsca45 S H rfl rfl) fun a S => ?_
    refine gz 40 h3 S rfl rfl rfl rfl rfl rfl (y_move rfl S rfl) fun a S => ?_
    refine gz 40 h3 S rfl rfl rfl rfl rfl rfl (y_iaddrn rfl Try.underlying45 Fsiz3 S H rfl rfl (by first | assumption | omega | (simp only [List.length_range]; omega) | (simp only [List.length_replicate]; omega) | (simp only [List.length_cons]; omega))) fun a S => ?_
    refine gz 40 h3 S rfl rfl rfl rfl rfl rfl ((y_loadsD (z.p i).aw 0 rfl Fsca3 S H rfl (by omega) (show (encI ((z.p i).ak.getD f 0))[0]? = some (.int .i64 ((g.at_ i).acks f)) by rw [hat f (by omega)]; rfl))) fun a S => ?_
    refine gz 40 h3 S rfl rfl rfl rfl rfl rfl (y_move rfl S rfl) fun a S => ?_
    refine gz 40 h3 S rfl rfl rfl rfl rfl rfl (y_bin rfl S rfl rfl rfl) fun a S => ?_
    refine gy rfl rfl rfl S (y_or' rfl h3 S rfl rfl) fun a S => ?_
    exact kk _ _ (S.join 10 50 rfl rfl) H
   refine gnt ?_
   have S := ((((((S.nil.cons S 1 rfl).cons S 0 rfl).cons S 4 rfl).cons S 5 rfl).cons S 7 rfl).cons S 6 rfl).cons S 50 rfl
   refine c_if S rfl (fun h4 => ?_) (fun h4 => ?_)
   ·have h4p := h4; try simp only [DL] at h4p
    refine g_region ?_
    refine gm S fun a S => ?_
    refine gy rfl rfl rfl S (y_add rfl S rfl rfl (by omega)) fun a S => ?_
    refine ga S fun a S => ?_
    refine gl_nil ?_
    refine n_block ?_
    refine n_then ?_
    have S := (((((S.nil.cons S 1 rfl).cons S 0 rfl).cons S 4 rfl).cons S 5 rfl).cons S 7 rfl).cons S 6 rfl
    refine g_region ?_
    refine gm S fun a S => ?_
    refine gy rfl rfl rfl S (y_add rfl S rfl rfl (by omega)) fun a S => ?_
    refine ga S fun a S => ?_
    refine gnt ?_
    first
    | (have hpr : (decide (f = i) || decide ((g.at_ i).acks f ≥ (k : Int))) = true := by have h9 := h4; simp only [Bool.or_eq_true, beq_iff_eq, decide_eq_true_eq] at h9 ⊢; omega
       exact ⟨f + 1, (S.nil.cons S 7 rfl).cons S 6 (by rw [count_succ, if_pos hpr]; rfl), (((S.nil.cons S 1 rfl).cons S 0 rfl).cons S 4 rfl).cons S 5 rfl, H, by omega, by omega⟩)
    | (have hpr : ¬ (decide (f = i) || decide ((g.at_ i).acks f ≥ (k : Int))) = true := by have h9 := h4; simp only [Bool.or_eq_false_iff, beq_eq_false_iff_ne, decide_eq_false_iff_not] at h9; simp only [Bool.or_eq_true, decide_eq_true_eq]; omega
       exact ⟨f + 1, (S.nil.cons S 7 rfl).cons S 6 (by rw [count_succ, if_neg hpr]; rfl), (((S.nil.cons S 1 rfl).cons S 0 rfl).cons S 4 rfl).cons S 5 rfl, H, by omega, by omega⟩)
   ·have h4p := h4; try simp only [DL] at h4p
    refine g_skip ?_
    refine n_block ?_
    refine n_then ?_
    refine g_region ?_
    refine gm S fun a S => ?_
    refine gy rfl rfl rfl S (y_add rfl S rfl rfl (by omega)) fun a S => ?_
    refine ga S fun a S => ?_
    refine gnt ?_
    first
    | (have hpr : (decide (f = i) || decide ((g.at_ i).acks f ≥ (k : Int))) = true := by have h9 := h4; simp only [Bool.or_eq_true, beq_iff_eq, decide_eq_true_eq] at h9 ⊢; omega
       exact ⟨f + 1, (S.nil.cons S 7 rfl).cons S 6 (by rw [count_succ, if_pos hpr]; rfl), (((S.nil.cons S 1 rfl).cons S 0 rfl).cons S 4 rfl).cons S 5 rfl, H, by omega, by omega⟩)
    | (have hpr : ¬ (decide (f = i) || decide ((g.at_ i).acks f ≥ (k : Int))) = true := by have h9 := h4; simp only [Bool.or_eq_false_iff, beq_eq_false_iff_ne, decide_eq_false_iff_not] at h9; simp only [Bool.or_eq_true, decide_eq_true_eq]; omega
       exact ⟨f + 1, (S.nil.cons S 7 rfl).cons S 6 (by rw [count_succ, if_neg hpr]; rfl), (((S.nil.cons S 1 rfl).cons S 0 rfl).cons S 4 rfl).cons S 5 rfl, H, by omega, by omega⟩)
  ·have h2p := h2; try simp only [DL] at h2p
   obtain rfl : n = f := by have := h2p; omega
   refine g_exit ?_
   refine x_then (x_then (x_eq ?_))
   refine n_then ?_
   refine g_seq ?_
   refine region_st (loud := []) (tails := []) (free := []) [0, 1, 2, 3, 4, 5, 6, 7, 8, 9, 10, 11, 12, 13, 14, 15, 16, 17, 18, 19, 20, 21, 22, 23] [] Fmo (by kernel_rfl) (by kernel_rfl) rfl H ?_
   refine m_w rfl rfl (wn rfl) rfl rfl S (fun w H => y_move rfl S rfl) fun a S => ?_
   refine m_w rfl rfl (wn rfl) rfl rfl S (fun w H => y_mul rfl S rfl rfl (by omega)) fun a S => ?_
   refine m_w rfl rfl (wn rfl) rfl rfl S (fun w H => y_move rfl S rfl) fun a S => ?_
   refine m_w rfl rfl (wn rfl) rfl rfl S (fun w H => y_nilCheck rfl S rfl) fun a S => ?_
   refine m_w rfl rfl (wn rfl) rfl rfl S (fun w H => y_faddrb rfl Ffo62_0 S rfl) fun a S => ?_
   refine m_w rfl rfl (wn rfl) rfl rfl S (fun w H => y_load rfl Fsca60 S H rfl rfl) fun a S => ?_
   refine m_w rfl rfl (wn rfl) rfl rfl S (fun w H => y_lens rfl Try.underlying60 S H rfl) fun a S => ?_
   rw [List.length_range] at S
   refine m_w rfl rfl (wn rfl) rfl rfl S (fun w H => y_bin rfl S rfl rfl rfl) fun a S => ?_
   refine m_w rfl rfl (wn rfl) rfl rfl S (fun w H => y_move rfl S rfl) fun a S => ?_
   refine' m_andq [9, 10, 11, 12, 13, 14, 15, 16, 17, 18, 19, 20, 21, 22] 61 S rfl rfl rfl rfl rfl rfl rfl rfl rfl (fun _ S => (wn rfl)) (fun h5 kk => ?yh5) (fun a S => ?_)
   case yh5 =>
    have h5p := h5; try simp only [DL] at h5p
    refine m_w rfl rfl (wg' 61 rfl rfl S rfl h5 rfl) rfl rfl S (fun w H => y_move rfl S rfl) fun a S => ?_
    refine m_w rfl rfl (wg' 61 rfl rfl S rfl h5 rfl) rfl rfl S (fun w H => y_nilCheck rfl S rfl) fun a S => ?_
    refine m_w rfl rfl (wg' 61 rfl rfl S rfl h5 rfl) rfl rfl S (fun w H => y_faddrb rfl Ffo67_2 S rfl) fun a S => ?_
    refine m_w rfl rfl (wg' 61 rfl rfl S rfl h5 rfl) rfl rfl S (fun w H => y_load rfl Fsca64 S H rfl rfl) fun a S => ?_
    refine m_w rfl rfl (wg' 61 rfl rfl S rfl h5 rfl) rfl rfl S (fun w H => y_move rfl S rfl) fun a S => ?_
    refine m_w rfl rfl (wg' 61 rfl rfl S rfl h5 rfl) rfl rfl S (fun w H => y_sub rfl S rfl rfl (by omega)) fun a S => ?_
    refine m_w rfl rfl (wg' 61 rfl rfl S rfl h5 rfl) rfl rfl S (fun w H => y_iaddrs rfl Try.underlying64 Fsiz89 S H rfl rfl (by first | assumption | omega | (simp only [List.length_range]; omega) | (simp only [List.length_replicate]; omega) | (simp only [List.length_cons]; omega))) fun a S => ?_
    refine m_w rfl rfl (wg' 61 rfl rfl S rfl h5 rfl) rfl rfl S (fun w H => y_faddr rfl Ffo89_0 S rfl) fun a S => ?_
    refine m_loadsf _ rfl rfl (wg' 61 rfl rfl S rfl h5 rfl) rfl rfl S rfl Fsca3 rfl (by first | assumption | omega | (simp only [List.length_range]; omega) | (simp only [List.length_replicate]; omega) | (simp only [List.length_cons]; omega)) rfl fun a S => ?_
    refine m_w rfl rfl (wg' 61 rfl rfl S rfl h5 rfl) rfl rfl S (fun w H => y_move rfl S rfl) fun a S => ?_
    refine m_w rfl rfl (wg' 61 rfl rfl S rfl h5 rfl) rfl rfl S (fun w H => y_nilCheck rfl S rfl) fun a S => ?_
    refine m_w rfl rfl (wg' 61 rfl rfl S rfl h5 rfl) rfl rfl S (fun w H => y_faddrb rfl Ffo67_0 S rfl) fun a S => ?_
    refine m_w rfl rfl (wg' 61 rfl rfl S rfl h5 rfl) rfl rfl S (fun w H => y_load rfl Fsca3 S H rfl rfl) fun a S => ?_
    refine m_w rfl rfl (wg' 61 rfl rfl S rfl h5 rfl) rfl rfl S (fun w H => y_bin rfl S rfl rfl rfl) fun a S => ?_
    refine m_w rfl rfl (wn rfl) rfl rfl S (fun w H => y_and' rfl h5 S rfl rfl) fun a S => ?_
    exact kk _ (S.join 15 76 rfl rfl)
   refine m_nil (fun w H => ?_)
   refine n_then ?_
   have S := ((((S.nil.cons S 1 rfl).cons S 0 rfl).cons S 4 rfl).cons S 5 rfl).cons S 76 rfl
   refine c_if S rfl (fun h6 => ?_) (fun h6 => ?_)
   ·have h6p := h6; try simp only [DL] at h6p
    refine gsr ?_
    refine gm S fun a S => ?_
    refine gm S fun a S => ?_
    refine gy rfl rfl rfl S (y_nilCheck rfl S rfl) fun a S => ?_
    refine gy rfl rfl rfl S (y_faddrb rfl Ffo67_5 S rfl) fun a S => ?_
    refine wl_of (op_store (wn rfl) rfl rfl S H rfl rfl rfl Fsiz3 rfl fun a w S H => ?_)
    dsimp only [List.set, Nat.zero_add, Nat.reduceAdd] at H
    refine gnt ?_
    have S := (((S.nil.cons S 1 rfl).cons S 0 rfl).cons S 4 rfl).cons S 5 rfl
    refine gsr ?_
    refine gm S fun a S => ?_
    refine gm S fun a S => ?_
    refine wl_of (op_call (wn rfl) rfl rfl S (co_func rfl Try.call38 S rfl) (rshare_spec c n (g.put i { g.at_ i with done := k }) { z with p := fun v => if v = i then z.p i else z.p v, bag := z.bag } i _ (rputIn (z.p i) { g.at_ i with done := k } (H.takeT [Cel (c.pb i) 67 [.int .i64 (g.at_ i).term, .int .i64 (g.at_ i).vote, (z.p i).lv, .bool (g.at_ i).down, .int .i64 ((g.at_ i).role : Int), .int .i64 (k : Int), (z.p i).vv, (z.p i).aw], OSl 4 (z.p i).vv 1 eB1 (z.p i).vs, OSl 3 (z.p i).aw 1 encI (z.p i).ak, RRest c n g z i, RQs c z, BagA 7 encRM z.mb, BagA 2 Ent.enc z.bag] (RCel c :: RPts c n :: l)) hz hii ⟨hf.v, hf.a, hf.t⟩ (fun _ h => h) (hz.lg i hii)) hii hq (by rw [Grp.put_same _ hin]; exact hlen)) fun v w hc a S => ?_)
    obtain ⟨rfl, z', H⟩ := hc
    
    refine gnt ?_
    refine g_ret ?_
    refine r_block (r_then (r_then (r_block (ret0 rfl S ?_))))
    have hyes := comOk_is2 hz.en (by omega) (by omega) h6
    rw [comK_yes (by omega) hyes] at hcm
    exact ⟨rfl, z', by unfold Grp.commit; rw [hcm]; exact H⟩
   ·have h6p := h6; try simp only [DL] at h6p
    refine g_skip ?_
    refine n_block ?_
    refine n_then ?_
    refine g_region ?_
    refine gm S fun a S => ?_
    refine gy rfl rfl rfl S (y_sub rfl S rfl rfl (by omega)) fun a S => ?_
    refine ga S fun a S => ?_
    refine gnt ?_
    have hkd : (g.at_ i).done < k := by omega
    obtain ⟨k, rfl⟩ : ∃ m, k = m + 1 := ⟨k - 1, by omega⟩
    have hno : comOk g i (k + 1) = false := comOk_is2 hz.en (by omega) (by omega) h6
    rw [comK_no hno, if_pos hkd] at hcm
    exact ⟨k, S.nil.cons S 5 (congrArg (fun x => some (Value.int .i64 x)) (show ((k + 1 : Nat) : Int) - 1 = (k : Int) by omega)), ((S.nil.cons S 1 rfl).cons S 0 rfl).cons S 4 rfl, H, ⟨by omega, hcm⟩, by omega⟩
 ·have h1p := h1; try simp only [DL] at h1p
  refine g_exit ?_
  refine x_then (x_then (x_eq ?_))
  refine ret0n rfl S ?_
  rw [comK_low (show k ≤ (g.at_ i).done by omega)] at hcm
  exact ⟨rfl, _, by unfold Grp.commit; rw [hcm]; exact rputSame (H.takeT [RPCel (c.pb i) (z.p i) (g.at_ i), OSl 4 (z.p i).vv 1 eB1 (z.p i).vs, OSl 3 (z.p i).aw 1 encI (z.p i).ak, RRest c n g z i, RQs c z, BagA 7 encRM z.mb, BagA 2 Ent.enc z.bag] (RCel c :: RPts c n :: l)) hz hii hf (fun _ h => h)⟩
set_option maxHeartbeats 1000000 in
/-- (*foyer/foyerref48.Group).receive -/
theorem rreceive_ask {M : Nat → Prop} {u0 : World} {l : List Atom} (c : RC) (n : Nat) (g : Grp) (z : RGV) (i j : Nat) (t la k : Int) (v : Value) (w0 : World) (h0 : HSat M u0 (RGrpA c n g z :: RCel c :: RPts c n :: l) w0) (hi : i < n) (hj : j < n) (hq : ∀ b, (g.q j b).length ≤ 900000) (hlen : (g.at_ j).log.length ≤ 200000) :
    Ret Try.prog 28 #[.pointer (some ⟨c.b, 0, none⟩), .int .i64 (j : Int), .int .i64 (i : Int), .agg [.int .i64 1, .int .i64 t, .int .i64 la, .int .i64 k, .bool false, .slice none 0 0, .int .i64 0].toArray] w0 (fun u w => u = .tuple #[] ∧ ∃ z', HSat M u0 (RGrpA c n (g.receive i j (.ask t la k)) z' :: RCel c :: RPts c n :: l) w) := by
 refine ret_of_wp (nt := 199) Try.func28 rfl rfl rfl (fl := [(0, .pointer (some ⟨c.b, 0, none⟩)), (1, .int .i64 (j : Int)), (2, .int .i64 (i : Int)), (3, .agg [.int .i64 1, .int .i64 t, .int .i64 la, .int .i64 k, .bool false, .slice none 0 0, .int .i64 0].toArray)]) rfl (fun a S => ?_)
 obtain ⟨H, hz⟩ := rgrpOut h0
 obtain ⟨H, hf⟩ := replOut H hj
 have hn7 := hz.n7
 obtain ⟨p, hp⟩ : ∃ p, p = (g.at_ j).step (t) := ⟨_, rfl⟩
 have hpf : (z.p j).Fits n p := by rw [hp]; exact hf.step _
 have hpl : p.log = (g.at_ j).log := by rw [hp]; exact Peer.step_log _ _
 have hin : j < g.n := by rw [hz.en]; exact hj
 have hlenp : p.log.length ≤ 200000 := by rw [hpl]; exact hlen
 have iS : ∀ l, HasSl (BagA 2 Ent.enc z.bag :: l) (z.p j).lv 2 Ent Ent.enc p.log := by rw [hpl]; exact bagSl (hz.lg j hj)
 refine gsr ?_
 refine wl_of (op_boxa (wn rfl) rfl rfl rfl S H rfl fun b7 a w S H => ?_)
 refine gnt ?_
 refine gsr ?_
 refine gm S fun a S => ?_
 refine gy rfl rfl rfl S (y_nilCheck rfl S rfl) fun a S => ?_
 refine gy rfl rfl rfl S (y_faddrb rfl Ffo62_0 S rfl) fun a S => ?_
 refine gy rfl rfl rfl S (y_load rfl Fsca60 S H rfl rfl) fun a S => ?_
 refine gm S fun a S => ?_
 refine gy rfl rfl rfl S (y_iaddrn rfl Try.underlying60 Fsiz63 S H rfl rfl (by first | assumption | omega | (simp only [List.length_range]; omega) | (simp only [List.length_replicate]; omega) | (simp only [List.length_cons]; omega))) fun a S => ?_
 refine gy rfl rfl rfl S ((y_loadsD c.av 0 rfl Fsca63 S H rfl (by simp only [List.length_range]; omega) (ldPt hj))) fun a S => ?_
 refine ga S fun a S => ?_
 refine gnt ?_
 have S := ((((S.nil.cons S 2 rfl).cons S 1 rfl).cons S 0 rfl).cons S 7 rfl).cons S 8 rfl
 refine g_seq ?_
 refine g_seq ?_
 refine region_st (loud := []) (tails := []) (free := []) [0, 1, 2, 3, 4, 5, 6] [] Fmo (by kernel_rfl) (by kernel_rfl) rfl H ?_
 refine m_w rfl rfl (wn rfl) rfl rfl S (fun w H => y_faddrb rfl Ffo76_1 S rfl) fun a S => ?_
 refine m_w rfl rfl (wn rfl) rfl rfl S (fun w H => y_load rfl Fsca3 S H rfl rfl) fun a S => ?_
 refine m_w rfl rfl (wn rfl) rfl rfl S (fun w H => y_move rfl S rfl) fun a S => ?_
 refine m_w rfl rfl (wn rfl) rfl rfl S (fun w H => y_nilCheck rfl S rfl) fun a S => ?_
 refine m_w rfl rfl (wn rfl) rfl rfl S (fun w H => y_faddrb rfl Ffo67_0 S rfl) fun a S => ?_
 refine m_w rfl rfl (wn rfl) rfl rfl S (fun w H => y_load rfl Fsca3 S H rfl rfl) fun a S => ?_
 refine m_w rfl rfl (wn rfl) rfl rfl S (fun w H => y_bin rfl S rfl rfl rfl) fun a S => ?_
 refine m_nil (fun w H => ?_)
 refine n_then ?_
 have S := (((((S.nil.cons S 2 rfl).cons S 1 rfl).cons S 0 rfl).cons S 7 rfl).cons S 8 rfl).cons S 26 rfl
 refine cut (fun a w => St 199 [(0, .pointer (some ⟨c.b, 0, none⟩)), (1, .int .i64 (j : Int)), (2, .int .i64 (i : Int)), (7, .pointer (some ⟨b7, 0, none⟩)), (8, .pointer (some ⟨c.pb j, 0, none⟩))] a ∧ HSat M u0 ([Cel b7 76 [.int .i64 1, .int .i64 t, .int .i64 la, .int .i64 k, .bool false, .slice none 0 0, .int .i64 0], RPCel (c.pb j) (z.p j) p, OSl 4 (z.p j).vv 1 eB1 (z.p j).vs, OSl 3 (z.p j).aw 1 encI (z.p j).ak, RRest c n g z j, RQs c z, BagA 7 encRM z.mb, BagA 2 Ent.enc z.bag] ++ (RCel c :: RPts c n :: l)) w) ?_ ?_
 ·skip
  refine c_if S rfl (fun h1 => ?_) (fun h1 => ?_)
  ·have h1p := h1; try simp only [DL] at h1p
   refine gsr ?_
   refine gm S fun a S => ?_
   refine gy rfl rfl rfl S (y_faddrb rfl Ffo76_1 S rfl) fun a S => ?_
   refine gy rfl rfl rfl S (y_load rfl Fsca3 S H rfl rfl) fun a S => ?_
   refine gy rfl rfl rfl S (y_nilCheck rfl S rfl) fun a S => ?_
   refine gy rfl rfl rfl S (y_faddrb rfl Ffo67_0 S rfl) fun a S => ?_
   refine wl_of (op_store (wn rfl) rfl rfl S H rfl rfl rfl Fsiz3 rfl fun a w S H => ?_)
   dsimp only [List.set, Nat.zero_add, Nat.reduceAdd] at H
   refine gnt ?_
   refine gsr ?_
   refine gm S fun a S => ?_
   refine gy rfl rfl rfl S (y_nilCheck rfl S rfl) fun a S => ?_
   refine gy rfl rfl rfl S (y_faddrb rfl Ffo67_1 S rfl) fun a S => ?_
   refine wl_of (op_store (wn rfl) rfl rfl S H rfl rfl rfl Fsiz3 rfl fun a w S H => ?_)
   dsimp only [List.set, Nat.zero_add, Nat.reduceAdd] at H
   refine gnt ?_
   refine g_region ?_
   refine gm S fun a S => ?_
   refine gy rfl rfl rfl S (y_nilCheck rfl S rfl) fun a S => ?_
   refine gy rfl rfl rfl S (y_faddrb rfl Ffo67_4 S rfl) fun a S => ?_
   refine wl_of (op_store (wn rfl) rfl rfl S H rfl rfl rfl Fsiz3 rfl fun a w S H => ?_)
   dsimp only [List.set, Nat.zero_add, Nat.reduceAdd] at H
   refine gnt ?_
   first
   | (have e : p = { g.at_ j with term := t, vote := -1, role := 0 } := hp.trans (step_yes h1p)
      exact ⟨(((((S.nil.cons S 8 rfl).cons S 7 rfl).cons S 2 rfl).cons S 1 rfl).cons S 0 rfl), by rw [e]; exact H.takeT [Cel b7 76 [.int .i64 1, .int .i64 t, .int .i64 la, .int .i64 k, .bool false, .slice none 0 0, .int .i64 0], Cel (c.pb j) 67 [.int .i64 t, .int .i64 (-1), (z.p j).lv, .bool (g.at_ j).down, .int .i64 0, .int .i64 ((g.at_ j).done : Int), (z.p j).vv, (z.p j).aw], OSl 4 (z.p j).vv 1 eB1 (z.p j).vs, OSl 3 (z.p j).aw 1 encI (z.p j).ak, RRest c n g z j, RQs c z, BagA 7 encRM z.mb, BagA 2 Ent.enc z.bag] (RCel c :: RPts c n :: l)⟩)
   | (have e : p = g.at_ j := hp.trans (step_no (Int.not_lt.2 h1p))
      exact ⟨(((((S.nil.cons S 8 rfl).cons S 7 rfl).cons S 2 rfl).cons S 1 rfl).cons S 0 rfl), by rw [e]; exact H.takeT [Cel b7 76 [.int .i64 1, .int .i64 t, .int .i64 la, .int .i64 k, .bool false, .slice none 0 0, .int .i64 0], RPCel (c.pb j) (z.p j) (g.at_ j), OSl 4 (z.p j).vv 1 eB1 (z.p j).vs, OSl 3 (z.p j).aw 1 encI (z.p j).ak, RRest c n g z j, RQs c z, BagA 7 encRM z.mb, BagA 2 Ent.enc z.bag] (RCel c :: RPts c n :: l)⟩)
  ·have h1p := h1; try simp only [DL] at h1p
   refine g_skip ?_
   refine n_then ?_
   first
   | (have e : p = { g.at_ j with term := t, vote := -1, role := 0 } := hp.trans (step_yes h1p)
      exact ⟨(((((S.nil.cons S 8 rfl).cons S 7 rfl).cons S 2 rfl).cons S 1 rfl).cons S 0 rfl), by rw [e]; exact H.takeT [Cel b7 76 [.int .i64 1, .int .i64 t, .int .i64 la, .int .i64 k, .bool false, .slice none 0 0, .int .i64 0], Cel (c.pb j) 67 [.int .i64 t, .int .i64 (-1), (z.p j).lv, .bool (g.at_ j).down, .int .i64 0, .int .i64 ((g.at_ j).done : Int), (z.p j).vv, (z.p j).aw], OSl 4 (z.p j).vv 1 eB1 (z.p j).vs, OSl 3 (z.p j).aw 1 encI (z.p j).ak, RRest c n g z j, RQs c z, BagA 7 encRM z.mb, BagA 2 Ent.enc z.bag] (RCel c :: RPts c n :: l)⟩)
   | (have e : p = g.at_ j := hp.trans (step_no (Int.not_lt.2 h1p))
      exact ⟨(((((S.nil.cons S 8 rfl).cons S 7 rfl).cons S 2 rfl).cons S 1 rfl).cons S 0 rfl), by rw [e]; exact H.takeT [Cel b7 76 [.int .i64 1, .int .i64 t, .int .i64 la, .int .i64 k, .bool false, .slice none 0 0, .int .i64 0], RPCel (c.pb j) (z.p j) (g.at_ j), OSl 4 (z.p j).vv 1 eB1 (z.p j).vs, OSl 3 (z.p j).aw 1 encI (z.p j).ak, RRest c n g z j, RQs c z, BagA 7 encRM z.mb, BagA 2 Ent.enc z.bag] (RCel c :: RPts c n :: l)⟩)
 rintro a w ⟨S, H⟩
 simp only [List.cons_append, List.nil_append] at H
 refine g_seq ?_
 refine region_st (loud := []) (tails := []) (free := []) [0, 1, 2, 3, 4, 5, 6, 7] [] Fmo (by kernel_rfl) (by kernel_rfl) rfl H ?_
 refine m_w rfl rfl (wn rfl) rfl rfl S (fun w H => y_faddrb rfl Ffo76_1 S rfl) fun a S => ?_
 refine m_w rfl rfl (wn rfl) rfl rfl S (fun w H => y_load rfl Fsca3 S H rfl rfl) fun a S => ?_
 refine m_w rfl rfl (wn rfl) rfl rfl S (fun w H => y_move rfl S rfl) fun a S => ?_
 refine m_w rfl rfl (wn rfl) rfl rfl S (fun w H => y_nilCheck rfl S rfl) fun a S => ?_
 refine m_w rfl rfl (wn rfl) rfl rfl S (fun w H => y_faddrb rfl Ffo67_0 S rfl) fun a S => ?_
 refine m_w rfl rfl (wn rfl) rfl rfl S (fun w H => y_load rfl Fsca3 S H rfl rfl) fun a S => ?_
 refine m_w rfl rfl (wn rfl) rfl rfl S (fun w H => y_bin rfl S rfl rfl rfl) fun a S => ?_
 refine m_w rfl rfl (wn rfl) rfl rfl S (fun w H => y_assign rfl S rfl) fun a S => ?_
 refine m_nil (fun w H => ?_)
 refine n_then ?_
 have S := (((((S.nil.cons S 8 rfl).cons S 7 rfl).cons S 2 rfl).cons S 1 rfl).cons S 0 rfl).cons S 9 rfl
 refine gsr ?_
 refine gy rfl rfl rfl S (y_faddrb rfl Ffo76_0 S rfl) fun a S => ?_
 refine gy rfl rfl rfl S (y_load rfl Fsca3 S H rfl rfl) fun a S => ?_
 refine gnt ?_
 refine g_block ?_
 refine gsr ?_
 refine gy rfl rfl rfl S (y_bin rfl S rfl rfl rfl) fun a S => ?_
 refine ga S fun a S => ?_
 refine gnt ?_
 refine c_if S rfl (fun h2 => ?_) (fun h2 => ?_)
 ·have h2p := h2; try simp only [DL] at h2p
  refine g_seq ?_
  refine region_st (loud := []) (tails := []) (free := []) [0, 1, 2, 3, 4, 5, 6, 7, 8, 9, 10, 11, 12, 13, 14, 15, 16, 17, 18, 19, 20, 21, 22, 23, 24, 25, 26, 27, 28] [] Fmo (by kernel_rfl) (by kernel_rfl) rfl H ?_
  refine m_w rfl rfl (wn rfl) rfl rfl S (fun w H => y_faddrb rfl Ffo76_2 S rfl) fun a S => ?_
  refine m_w rfl rfl (wn rfl) rfl rfl S (fun w H => y_load rfl Fsca3 S H rfl rfl) fun a S => ?_
  refine m_w rfl rfl (wn rfl) rfl rfl S (fun w H => y_move rfl S rfl) fun a S => ?_
  refine m_w rfl rfl (wn rfl) rfl rfl S (fun w H => y_nilCheck rfl S rfl) fun a S => ?_
  refine m_w rfl rfl (wn rfl) rfl rfl S (fun w H => y_faddrb rfl Ffo67_2 S rfl) fun a S => ?_
  refine m_w rfl rfl (wn rfl) rfl rfl S (fun w H => y_load rfl Fsca64 S H rfl rfl) fun a S => ?_
  refine m_c rfl rfl (wn rfl) rfl rfl S (fun w => co_func rfl Try.call33 S rfl) (fun w H => rlast_spec (z.p j).lv p.log w (H.sl (z.p j).lv)) fun a S => ?_
  refine m_w rfl rfl (wn rfl) rfl rfl S (fun w H => y_bin rfl S rfl rfl rfl) fun a S => ?_
  refine m_w rfl rfl (wn rfl) rfl rfl S (fun w H => y_move rfl S rfl) fun a S => ?_
  refine' m_orq [9, 10, 11, 12, 13, 14, 15, 16, 17, 18, 19, 20, 21, 22, 23, 24, 25, 26] 57 S rfl rfl rfl rfl rfl rfl rfl rfl rfl (fun _ S => (wn rfl)) (fun h3 kk => ?yh3) (fun a S => ?_)
  case yh3 =>
   have h3p := h3; try simp only [DL] at h3p
   refine m_w rfl rfl (wg' 57 rfl rfl S rfl h3 rfl) rfl rfl S (fun w H => y_faddrb rfl Ffo76_2 S rfl) fun a S => ?_
   refine m_w rfl rfl (wg' 57 rfl rfl S rfl h3 rfl) rfl rfl S (fun w H => y_load rfl Fsca3 S H rfl rfl) fun a S => ?_
   refine m_w rfl rfl (wg' 57 rfl rfl S rfl h3 rfl) rfl rfl S (fun w H => y_move rfl S rfl) fun a S => ?_
   refine m_w rfl rfl (wg' 57 rfl rfl S rfl h3 rfl) rfl rfl S (fun w H => y_nilCheck rfl S rfl) fun a S => ?_
   refine m_w rfl rfl (wg' 57 rfl rfl S rfl h3 rfl) rfl rfl S (fun w H => y_faddrb rfl Ffo67_2 S rfl) fun a S => ?_
   refine m_w rfl rfl (wg' 57 rfl rfl S rfl h3 rfl) rfl rfl S (fun w H => y_load rfl Fsca64 S H rfl rfl) fun a S => ?_
   refine m_c rfl rfl (wg' 57 rfl rfl S rfl h3 rfl) rfl rfl S (fun w => co_func rfl Try.call33 S rfl) (fun w H => rlast_spec (z.p j).lv p.log w (H.sl (z.p j).lv)) fun a S => ?_
   refine m_w rfl rfl (wg' 57 rfl rfl S rfl h3 rfl) rfl rfl S (fun w H => y_bin rfl S rfl rfl rfl) fun a S => ?_
   refine m_w rfl rfl (wg' 57 rfl rfl S rfl h3 rfl) rfl rfl S (fun w H => y_move rfl S rfl) fun a S => ?_
   refine' m_andq [18, 19, 20, 21, 22, 23, 24, 25] 66 S rfl rfl rfl rfl rfl rfl rfl rfl rfl (fun _ S => (wg' 57 rfl rfl S rfl h3 rfl)) (fun h4 kk => ?yh4) (fun a S => ?_)
   case yh4 =>
    have h4p := h4; try simp only [DL] at h4p
    refine m_w rfl rfl (wg' 66 rfl rfl S rfl h4 rfl) rfl rfl S (fun w H => y_faddrb rfl Ffo76_3 S rfl) fun a S => ?_
    refine m_w rfl rfl (wg' 66 rfl rfl S rfl h4 rfl) rfl rfl S (fun w H => y_load rfl Fsca3 S H rfl rfl) fun a S => ?_
    refine m_w rfl rfl (wg' 66 rfl rfl S rfl h4 rfl) rfl rfl S (fun w H => y_move rfl S rfl) fun a S => ?_
    refine m_w rfl rfl (wg' 66 rfl rfl S rfl h4 rfl) rfl rfl S (fun w H => y_nilCheck rfl S rfl) fun a S => ?_
    refine m_w rfl rfl (wg' 66 rfl rfl S rfl h4 rfl) rfl rfl S (fun w H => y_faddrb rfl Ffo67_2 S rfl) fun a S => ?_
    refine m_w rfl rfl (wg' 66 rfl rfl S rfl h4 rfl) rfl rfl S (fun w H => y_load rfl Fsca64 S H rfl rfl) fun a S => ?_
    refine m_w rfl rfl (wg' 66 rfl rfl S rfl h4 rfl) rfl rfl S (fun w H => y_lens rfl Try.underlying64 S H rfl) fun a S => ?_
    refine m_w rfl rfl (wg' 66 rfl rfl S rfl h4 rfl) rfl rfl S (fun w H => y_bin rfl S rfl rfl rfl) fun a S => ?_
    refine m_w rfl rfl (wg' 57 rfl rfl S rfl h3 rfl) rfl rfl S (fun w H => y_and' rfl h4 S rfl rfl) fun a S => ?_
    exact kk _ (S.join 9 75 rfl rfl)
   refine m_w rfl rfl (wn rfl) rfl rfl S (fun w H => y_or' rfl h3 S rfl rfl) fun a S => ?_
   exact kk _ (S.join 11 76 rfl rfl)
  refine m_w rfl rfl (wn rfl) rfl rfl S (fun w H => y_assign rfl S rfl) fun a S => ?_
  refine m_nil (fun w H => ?_)
  refine n_then ?_
  have S := (((((S.nil.cons S 8 rfl).cons S 2 rfl).cons S 1 rfl).cons S 0 rfl).cons S 9 rfl).cons S 10 rfl
  refine gsr ?_
  refine gm S fun a S => ?_
  refine gm S fun a S => ?_
  refine' wl_and 13 78 rfl S H rfl rfl rfl rfl rfl rfl rfl (fun _ S => (wn rfl)) (fun h5 kk => ?yh5) (fun a w S H => ?_)
  case yh5 =>
   have h5p := h5; try simp only [DL] at h5p
   refine gz 78 h5 S rfl rfl rfl rfl rfl rfl (y_move rfl S rfl) fun a S => ?_
   refine gz 78 h5 S rfl rfl rfl rfl rfl rfl (y_nilCheck rfl S rfl) fun a S => ?_
   refine gz 78 h5 S rfl rfl rfl rfl rfl rfl (y_faddrb rfl Ffo67_1 S rfl) fun a S => ?_
   refine gz 78 h5 S rfl rfl rfl rfl rfl rfl (y_load rfl Fsca3 S H rfl rfl) fun a S => ?_
   refine gz 78 h5 S rfl rfl rfl rfl rfl rfl (y_bin rfl S rfl rfl rfl) fun a S => ?_
   refine gz 78 h5 S rfl rfl rfl rfl rfl rfl (y_move rfl S rfl) fun a S => ?_
   refine' wl_or 6 84 rfl S H rfl rfl rfl rfl rfl rfl rfl (fun _ S => (wg' 78 rfl rfl S rfl h5 rfl)) (fun h6 kk => ?yh6) (fun a w S H => ?_)
   case yh6 =>
    have h6p := h6; try simp only [DL] at h6p
    refine gz 84 h6 S rfl rfl rfl rfl rfl rfl (y_move rfl S rfl) fun a S => ?_
    refine gz 84 h6 S rfl rfl rfl rfl rfl rfl (y_nilCheck rfl S rfl) fun a S => ?_
    refine gz 84 h6 S rfl rfl rfl rfl rfl rfl (y_faddrb rfl Ffo67_1 S rfl) fun a S => ?_
    refine gz 84 h6 S rfl rfl rfl rfl rfl rfl (y_load rfl Fsca3 S H rfl rfl) fun a S => ?_
    refine gz 84 h6 S rfl rfl rfl rfl rfl rfl (y_move rfl S rfl) fun a S => ?_
    refine gz 84 h6 S rfl rfl rfl rfl rfl rfl (y_bin rfl S rfl rfl rfl) fun a S => ?_
    refine gz 78 h5 S rfl rfl rfl rfl rfl rfl (y_or' rfl h6 S rfl rfl) fun a S => ?_
    exact kk _ _ (S.join 7 91 rfl rfl) H
   refine gy rfl rfl rfl S (y_and' rfl h5 S rfl rfl) fun a S => ?_
   exact kk _ _ (S.join 8 92 rfl rfl) H
  refine gm S fun a S => ?_
  refine' wl_and 1 93 rfl S H rfl rfl rfl rfl rfl rfl rfl (fun _ S => (wn rfl)) (fun h7 kk => ?yh7) (fun a w S H => ?_)
  case yh7 =>
   have h7p := h7; try simp only [DL] at h7p
   refine gz 93 h7 S rfl rfl rfl rfl rfl rfl (y_move rfl S rfl) fun a S => ?_
   refine gy rfl rfl rfl S (y_and' rfl h7 S rfl rfl) fun a S => ?_
   exact kk _ _ (S.join 2 95 rfl rfl) H
  refine ga S fun a S => ?_
  rw [show (t == p.term && (decide (p.vote < 0) || p.vote == (i : Int)) && (decide (la > lastT p.log) || la == lastT p.log && decide (k ≥ (p.log.length : Int)))) = p.grants i t la k by unfold Peer.grants; rw [show decide (p.vote < 0) = decide (p.vote = -1) by rw [decide_eq_decide]; have := hpf.t; omega]; rw [Bool.eq_iff_iff]; simp] at S
  refine gnt ?_
  have S := ((((S.nil.cons S 8 rfl).cons S 2 rfl).cons S 1 rfl).cons S 0 rfl).cons S 11 rfl
  refine g_seq ?_
  refine gsr ?_
  refine gm S fun a S => ?_
  refine gnt ?_
  refine cut (fun a w => ∃ p', p' = (if p.grants i t la k = true then { p with vote := (i : Int) } else p) ∧ St 199 [(0, .pointer (some ⟨c.b, 0, none⟩)), (1, .int .i64 (j : Int)), (2, .int .i64 (i : Int)), (8, .pointer (some ⟨c.pb j, 0, none⟩)), (11, .bool (p.grants i t la k))] a ∧ HSat M u0 ([RPCel (c.pb j) (z.p j) p', OSl 4 (z.p j).vv 1 eB1 (z.p j).vs, OSl 3 (z.p j).aw 1 encI (z.p j).ak, RRest c n g z j, RQs c z, BagA 7 encRM z.mb, BagA 2 Ent.enc z.bag] ++ (RCel c :: RPts c n :: l)) w) ?_ ?_
  ·skip
   refine c_if S rfl (fun h8 => ?_) (fun h8 => ?_)
   ·have h8p := h8; try simp only [DL] at h8p
    refine g_region ?_
    refine gm S fun a S => ?_
    refine gm S fun a S => ?_
    refine gy rfl rfl rfl S (y_nilCheck rfl S rfl) fun a S => ?_
    refine gy rfl rfl rfl S (y_faddrb rfl Ffo67_1 S rfl) fun a S => ?_
    refine wl_of (op_store (wn rfl) rfl rfl S H rfl rfl rfl Fsiz3 rfl fun a w S H => ?_)
    dsimp only [List.set, Nat.zero_add, Nat.reduceAdd] at H
    refine gnt ?_
    first
    | exact ⟨_, rfl, (((((S.nil.cons S 11 rfl).cons S 8 rfl).cons S 2 rfl).cons S 1 rfl).cons S 0 rfl), by rw [if_pos h8p]; exact H.takeT [Cel (c.pb j) 67 [.int .i64 p.term, .int .i64 (i : Int), (z.p j).lv, .bool p.down, .int .i64 (p.role : Int), .int .i64 (p.done : Int), (z.p j).vv, (z.p j).aw], OSl 4 (z.p j).vv 1 eB1 (z.p j).vs, OSl 3 (z.p j).aw 1 encI (z.p j).ak, RRest c n g z j, RQs c z, BagA 7 encRM z.mb, BagA 2 Ent.enc z.bag] (RCel c :: RPts c n :: l)⟩
    | exact ⟨_, rfl, (((((S.nil.cons S 11 rfl).cons S 8 rfl).cons S 2 rfl).cons S 1 rfl).cons S 0 rfl), by rw [if_neg (by simpa using h8p)]; exact H.takeT [RPCel (c.pb j) (z.p j) p, OSl 4 (z.p j).vv 1 eB1 (z.p j).vs, OSl 3 (z.p j).aw 1 encI (z.p j).ak, RRest c n g z j, RQs c z, BagA 7 encRM z.mb, BagA 2 Ent.enc z.bag] (RCel c :: RPts c n :: l)⟩
   ·have h8p := h8; try simp only [DL] at h8p
    refine g_skip ?_
    refine n_then ?_
    first
    | exact ⟨_, rfl, (((((S.nil.cons S 11 rfl).cons S 8 rfl).cons S 2 rfl).cons S 1 rfl).cons S 0 rfl), by rw [if_pos h8p]; exact H.takeT [Cel (c.pb j) 67 [.int .i64 p.term, .int .i64 (i : Int), (z.p j).lv, .bool p.down, .int .i64 (p.role : Int), .int .i64 (p.done : Int), (z.p j).vv, (z.p j).aw], OSl 4 (z.p j).vv 1 eB1 (z.p j).vs, OSl 3 (z.p j).aw 1 encI (z.p j).ak, RRest c n g z j, RQs c z, BagA 7 encRM z.mb, BagA 2 Ent.enc z.bag] (RCel c :: RPts c n :: l)⟩
    | exact ⟨_, rfl, (((((S.nil.cons S 11 rfl).cons S 8 rfl).cons S 2 rfl).cons S 1 rfl).cons S 0 rfl), by rw [if_neg (by simpa using h8p)]; exact H.takeT [RPCel (c.pb j) (z.p j) p, OSl 4 (z.p j).vv 1 eB1 (z.p j).vs, OSl 3 (z.p j).aw 1 encI (z.p j).ak, RRest c n g z j, RQs c z, BagA 7 encRM z.mb, BagA 2 Ent.enc z.bag] (RCel c :: RPts c n :: l)⟩
  rintro a w ⟨p', hp', S, H⟩
  simp only [List.cons_append, List.nil_append] at H
  have hp1 : p'.term = p.term ∧ p'.log = p.log ∧ (z.p j).Fits n p' := by rw [hp']; split; exact ⟨rfl, rfl, hpf.v, hpf.a, by show (-1 : Int) ≤ (i : Int); omega⟩; exact ⟨rfl, rfl, hpf⟩
  refine g_region ?_
  refine gm S fun a S => ?_
  refine gm S fun a S => ?_
  refine gm S fun a S => ?_
  refine gm S fun a S => ?_
  refine gy rfl rfl rfl S (y_nilCheck rfl S rfl) fun a S => ?_
  refine gy rfl rfl rfl S (y_faddrb rfl Ffo67_0 S rfl) fun a S => ?_
  refine gy rfl rfl rfl S (y_load rfl Fsca3 S H rfl rfl) fun a S => ?_
  refine gm S fun a S => ?_
  refine gy rfl rfl rfl S (y_buildf rfl Fbld76 S rfl (idx := [0, 1, 4]) rfl (cs := [.int .i64 2, .int .i64 p'.term, .int .i64 0, .int .i64 0, .bool (p.grants i t la k), .slice none 0 0, .int .i64 0]) rfl) fun a S => ?_
  refine wl_of (op_call (wn rfl) rfl rfl S (co_func rfl Try.call41 S rfl) (rsend_spec c n (g.put j p') { z with p := fun v => if v = j then (z.p j) else z.p v, bag := z.bag } j i (.vote p'.term (p.grants i t la k), v) _ (rputIn (z.p j) p' (H.takeT [RPCel (c.pb j) (z.p j) p', OSl 4 (z.p j).vv 1 eB1 (z.p j).vs, OSl 3 (z.p j).aw 1 encI (z.p j).ak, RRest c n g z j, RQs c z, BagA 7 encRM z.mb, BagA 2 Ent.enc z.bag] (RCel c :: RPts c n :: l)) hz hj hp1.2.2 (fun _ h => h) (by rw [hp1.2.1, hpl]; exact hz.lg j hj)) hj hi (fun _ _ _ e => by cases e) rfl (by have := hq i; show (g.q j i).length ≤ _; omega)) fun v w hc a S => ?_)
  obtain ⟨rfl, z', _, H⟩ := hc
  
  refine gl_nil ?_
  refine n_block ?_
  refine ret0n rfl S ?_
  exact ⟨rfl, z', by unfold Grp.receive; dsimp only [Msg.term]; rw [← hp, ← hp', ← hp1.1]; exact H⟩
 ·have h2p := h2; try simp only [DL] at h2p
  all_goals (
    exact absurd h2 (by simp))
set_option maxHeartbeats 1000000 in
/-- (*foyer/foyerref48.Group).receive -/
theorem rreceive_vote {M : Nat → Prop} {u0 : World} {l : List Atom} (c : RC) (n : Nat) (g : Grp) (z : RGV) (i j : Nat) (t : Int) (gr : Bool) (v : Value) (w0 : World) (h0 : HSat M u0 (RGrpA c n g z :: RCel c :: RPts c n :: l) w0) (hi : i < n) (hj : j < n) (hq : ∀ b, (g.q j b).length ≤ 900000) (hlen : (g.at_ j).log.length ≤ 200000) :
    Ret Try.prog 28 #[.pointer (some ⟨c.b, 0, none⟩), .int .i64 (j : Int), .int .i64 (i : Int), .agg [.int .i64 2, .int .i64 t, .int .i64 0, .int .i64 0, .bool gr, .slice none 0 0, .int .i64 0].toArray] w0 (fun u w => u = .tuple #[] ∧ ∃ z', HSat M u0 (RGrpA c n (g.receive i j (.vote t gr)) z' :: RCel c :: RPts c n :: l) w) := by
 refine ret_of_wp (nt := 199) Try.func28 rfl rfl rfl (fl := [(0, .pointer (some ⟨c.b, 0, none⟩)), (1, .int .i64 (j : Int)), (2, .int .i64 (i : Int)), (3, .agg [.int .i64 2, .int .i64 t, .int .i64 0, .int .i64 0, .bool gr, .slice none 0 0, .int .i64 0].toArray)]) rfl (fun a S => ?_)
 obtain ⟨H, hz⟩ := rgrpOut h0
 obtain ⟨H, hf⟩ := replOut H hj
 have hn7 := hz.n7
 obtain ⟨p, hp⟩ : ∃ p, p = (g.at_ j).step (t) := ⟨_, rfl⟩
 have hpf : (z.p j).Fits n p := by rw [hp]; exact hf.step _
 have hpl : p.log = (g.at_ j).log := by rw [hp]; exact Peer.step_log _ _
 have hin : j < g.n := by rw [hz.en]; exact hj
 have hlenp : p.log.length ≤ 200000 := by rw [hpl]; exact hlen
 have iS : ∀ l, HasSl (BagA 2 Ent.enc z.bag :: l) (z.p j).lv 2 Ent Ent.enc p.log := by rw [hpl]; exact bagSl (hz.lg j hj)
 refine gsr ?_
 refine wl_of (op_boxa (wn rfl) rfl rfl rfl S H rfl fun b7 a w S H => ?_)
 refine gnt ?_
 refine gsr ?_
 refine gm S fun a S => ?_
 refine gy rfl rfl rfl S (y_nilCheck rfl S rfl) fun a S => ?_
 refine gy rfl rfl rfl S (y_faddrb rfl Ffo62_0 S rfl) fun a S => ?_
 refine gy rfl rfl rfl S (y_load rfl Fsca60 S H rfl rfl) fun a S => ?_
 refine gm S fun a S => ?_
 refine gy rfl rfl rfl S (y_iaddrn rfl Try.underlying60 Fsiz63 S H rfl rfl (by first | assumption | omega | (simp only [List.length_range]; omega) | (simp only [List.length_replicate]; omega) | (simp only [List.length_cons]; omega))) fun a S => ?_
 refine gy rfl rfl rfl S ((y_loadsD c.av 0 rfl Fsca63 S H rfl (by simp only [List.length_range]; omega) (ldPt hj))) fun a S => ?_
 refine ga S fun a S => ?_
 refine gnt ?_
 have S := ((((S.nil.cons S 2 rfl).cons S 1 rfl).cons S 0 rfl).cons S 7 rfl).cons S 8 rfl
 refine g_seq ?_
 refine g_seq ?_
 refine region_st (loud := []) (tails := []) (free := []) [0, 1, 2, 3, 4, 5, 6] [] Fmo (by kernel_rfl) (by kernel_rfl) rfl H ?_
 refine m_w rfl rfl (wn rfl) rfl rfl S (fun w H => y_faddrb rfl Ffo76_1 S rfl) fun a S => ?_
 refine m_w rfl rfl (wn rfl) rfl rfl S (fun w H => y_load rfl Fsca3 S H rfl rfl) fun a S => ?_
 refine m_w rfl rfl (wn rfl) rfl rfl S (fun w H => y_move rfl S rfl) fun a S => ?_
 refine m_w rfl rfl (wn rfl) rfl rfl S (fun w H => y_nilCheck rfl S rfl) fun a S => ?_
 refine m_w rfl rfl (wn rfl) rfl rfl S (fun w H => y_faddrb rfl Ffo67_0 S rfl) fun a S => ?_
 refine m_w rfl rfl (wn rfl) rfl rfl S (fun w H => y_load rfl Fsca3 S H rfl rfl) fun a S => ?_
 refine m_w rfl rfl (wn rfl) rfl rfl S (fun w H => y_bin rfl S rfl rfl rfl) fun a S => ?_
 refine m_nil (fun w H => ?_)
 refine n_then ?_
 have S := (((((S.nil.cons S 2 rfl).cons S 1 rfl).cons S 0 rfl).cons S 7 rfl).cons S 8 rfl).cons S 26 rfl
 refine cut (fun a w => St 199 [(0, .pointer (some ⟨c.b, 0, none⟩)), (1, .int .i64 (j : Int)), (2, .int .i64 (i : Int)), (7, .pointer (some ⟨b7, 0, none⟩)), (8, .pointer (some ⟨c.pb j, 0, none⟩))] a ∧ HSat M u0 ([Cel b7 76 [.int .i64 2, .int .i64 t, .int .i64 0, .int .i64 0, .bool gr, .slice none 0 0, .int .i64 0], RPCel (c.pb j) (z.p j) p, OSl 4 (z.p j).vv 1 eB1 (z.p j).vs, OSl 3 (z.p j).aw 1 encI (z.p j).ak, RRest c n g z j, RQs c z, BagA 7 encRM z.mb, BagA 2 Ent.enc z.bag] ++ (RCel c :: RPts c n :: l)) w) ?_ ?_
 ·skip
  refine c_if S rfl (fun h1 => ?_) (fun h1 => ?_)
  ·have h1p := h1; try simp only [DL] at h1p
   refine gsr ?_
   refine gm S fun a S => ?_
   refine gy rfl rfl rfl S (y_faddrb rfl Ffo76_1 S rfl) fun a S => ?_
   refine gy rfl rfl rfl S (y_load rfl Fsca3 S H rfl rfl) fun a S => ?_
   refine gy rfl rfl rfl S (y_nilCheck rfl S rfl) fun a S => ?_
   refine gy rfl rfl rfl S (y_faddrb rfl Ffo67_0 S rfl) fun a S => ?_
   refine wl_of (op_store (wn rfl) rfl rfl S H rfl rfl rfl Fsiz3 rfl fun a w S H => ?_)
   dsimp only [List.set, Nat.zero_add, Nat.reduceAdd] at H
   refine gnt ?_
   refine gsr ?_
   refine gm S fun a S => ?_
   refine gy rfl rfl rfl S (y_nilCheck rfl S rfl) fun a S => ?_
   refine gy rfl rfl rfl S (y_faddrb rfl Ffo67_1 S rfl) fun a S => ?_
   refine wl_of (op_store (wn rfl) rfl rfl S H rfl rfl rfl Fsiz3 rfl fun a w S H => ?_)
   dsimp only [List.set, Nat.zero_add, Nat.reduceAdd] at H
   refine gnt ?_
   refine g_region ?_
   refine gm S fun a S => ?_
   refine gy rfl rfl rfl S (y_nilCheck rfl S rfl) fun a S => ?_
   refine gy rfl rfl rfl S (y_faddrb rfl Ffo67_4 S rfl) fun a S => ?_
   refine wl_of (op_store (wn rfl) rfl rfl S H rfl rfl rfl Fsiz3 rfl fun a w S H => ?_)
   dsimp only [List.set, Nat.zero_add, Nat.reduceAdd] at H
   refine gnt ?_
   first
   | (have e : p = { g.at_ j with term := t, vote := -1, role := 0 } := hp.trans (step_yes h1p)
      exact ⟨(((((S.nil.cons S 8 rfl).cons S 7 rfl).cons S 2 rfl).cons S 1 rfl).cons S 0 rfl), by rw [e]; exact H.takeT [Cel b7 76 [.int .i64 2, .int .i64 t, .int .i64 0, .int .i64 0, .bool gr, .slice none 0 0, .int .i64 0], Cel (c.pb j) 67 [.int .i64 t, .int .i64 (-1), (z.p j).lv, .bool (g.at_ j).down, .int .i64 0, .int .i64 ((g.at_ j).done : Int), (z.p j).vv, (z.p j).aw], OSl 4 (z.p j).vv 1 eB1 (z.p j).vs, OSl 3 (z.p j).aw 1 encI (z.p j).ak, RRest c n g z j, RQs c z, BagA 7 encRM z.mb, BagA 2 Ent.enc z.bag] (RCel c :: RPts c n :: l)⟩)
   | (have e : p = g.at_ j := hp.trans (step_no (Int.not_lt.2 h1p))
      exact ⟨(((((S.nil.cons S 8 rfl).cons S 7 rfl).cons S 2 rfl).cons S 1 rfl).cons S 0 rfl), by rw [e]; exact H.takeT [Cel b7 76 [.int .i64 2, .int .i64 t, .int .i64 0, .int .i64 0, .bool gr, .slice none 0 0, .int .i64 0], RPCel (c.pb j) (z.p j) (g.at_ j), OSl 4 (z.p j).vv 1 eB1 (z.p j).vs, OSl 3 (z.p j).aw 1 encI (z.p j).ak, RRest c n g z j, RQs c z, BagA 7 encRM z.mb, BagA 2 Ent.enc z.bag] (RCel c :: RPts c n :: l)⟩)
  ·have h1p := h1; try simp only [DL] at h1p
   refine g_skip ?_
   refine n_then ?_
   first
   | (have e : p = { g.at_ j with term := t, vote := -1, role := 0 } := hp.trans (step_yes h1p)
      exact ⟨(((((S.nil.cons S 8 rfl).cons S 7 rfl).cons S 2 rfl).cons S 1 rfl).cons S 0 rfl), by rw [e]; exact H.takeT [Cel b7 76 [.int .i64 2, .int .i64 t, .int .i64 0, .int .i64 0, .bool gr, .slice none 0 0, .int .i64 0], Cel (c.pb j) 67 [.int .i64 t, .int .i64 (-1), (z.p j).lv, .bool (g.at_ j).down, .int .i64 0, .int .i64 ((g.at_ j).done : Int), (z.p j).vv, (z.p j).aw], OSl 4 (z.p j).vv 1 eB1 (z.p j).vs, OSl 3 (z.p j).aw 1 encI (z.p j).ak, RRest c n g z j, RQs c z, BagA 7 encRM z.mb, BagA 2 Ent.enc z.bag] (RCel c :: RPts c n :: l)⟩)
   | (have e : p = g.at_ j := hp.trans (step_no (Int.not_lt.2 h1p))
      exact ⟨(((((S.nil.cons S 8 rfl).cons S 7 rfl).cons S 2 rfl).cons S 1 rfl).cons S 0 rfl), by rw [e]; exact H.takeT [Cel b7 76 [.int .i64 2, .int .i64 t, .int .i64 0, .int .i64 0, .bool gr, .slice none 0 0, .int .i64 0], RPCel (c.pb j) (z.p j) (g.at_ j), OSl 4 (z.p j).vv 1 eB1 (z.p j).vs, OSl 3 (z.p j).aw 1 encI (z.p j).ak, RRest c n g z j, RQs c z, BagA 7 encRM z.mb, BagA 2 Ent.enc z.bag] (RCel c :: RPts c n :: l)⟩)
 rintro a w ⟨S, H⟩
 simp only [List.cons_append, List.nil_append] at H
 refine g_seq ?_
 refine region_st (loud := []) (tails := []) (free := []) [0, 1, 2, 3, 4, 5, 6, 7] [] Fmo (by kernel_rfl) (by kernel_rfl) rfl H ?_
 refine m_w rfl rfl (wn rfl) rfl rfl S (fun w H => y_faddrb rfl Ffo76_1 S rfl) fun a S => ?_
 refine m_w rfl rfl (wn rfl) rfl rfl S (fun w H => y_load rfl Fsca3 S H rfl rfl) fun a S => ?_
 refine m_w rfl rfl (wn rfl) rfl rfl S (fun w H => y_move rfl S rfl) fun a S => ?_
 refine m_w rfl rfl (wn rfl) rfl rfl S (fun w H => y_nilCheck rfl S rfl) fun a S => ?_
 refine m_w rfl rfl (wn rfl) rfl rfl S (fun w H => y_faddrb rfl Ffo67_0 S rfl) fun a S => ?_
 refine m_w rfl rfl (wn rfl) rfl rfl S (fun w H => y_load rfl Fsca3 S H rfl rfl) fun a S => ?_
 refine m_w rfl rfl (wn rfl) rfl rfl S (fun w H => y_bin rfl S rfl rfl rfl) fun a S => ?_
 refine m_w rfl rfl (wn rfl) rfl rfl S (fun w H => y_assign rfl S rfl) fun a S => ?_
 refine m_nil (fun w H => ?_)
 refine n_then ?_
 have S := (((((S.nil.cons S 8 rfl).cons S 7 rfl).cons S 2 rfl).cons S 1 rfl).cons S 0 rfl).cons S 9 rfl
 refine gsr ?_
 refine gy rfl rfl rfl S (y_faddrb rfl Ffo76_0 S rfl) fun a S => ?_
 refine gy rfl rfl rfl S (y_load rfl Fsca3 S H rfl rfl) fun a S => ?_
 refine gnt ?_
 refine g_block ?_
 refine gsr ?_
 refine gy rfl rfl rfl S (y_bin rfl S rfl rfl rfl) fun a S => ?_
 refine ga S fun a S => ?_
 refine gnt ?_
 refine c_if S rfl (fun h2 => ?_) (fun h2 => ?_)
 ·have h2p := h2; try simp only [DL] at h2p
  all_goals (
    exact absurd h2 (by simp))
 ·have h2p := h2; try simp only [DL] at h2p
  refine gsr ?_
  refine gy rfl rfl rfl S (y_bin rfl S rfl rfl rfl) fun a S => ?_
  refine ga S fun a S => ?_
  refine gnt ?_
  have S := (((((((S.nil.cons S 8 rfl).cons S 7 rfl).cons S 2 rfl).cons S 1 rfl).cons S 0 rfl).cons S 9 rfl).cons S 46 rfl).cons S 111 rfl
  refine c_if S rfl (fun h3 => ?_) (fun h3 => ?_)
  ·have h3p := h3; try simp only [DL] at h3p
   refine gsr ?_
   refine gm S fun a S => ?_
   refine gy rfl rfl rfl S (y_nilCheck rfl S rfl) fun a S => ?_
   refine gy rfl rfl rfl S (y_faddrb rfl Ffo67_4 S rfl) fun a S => ?_
   refine gy rfl rfl rfl S (y_load rfl Fsca3 S H rfl rfl) fun a S => ?_
   refine gy rfl rfl rfl S (y_bin rfl S rfl rfl rfl) fun a S => ?_
   refine gm S fun a S => ?_
   refine' wl_and 1 118 rfl S H rfl rfl rfl rfl rfl rfl rfl (fun _ S => (wn rfl)) (fun h4 kk => ?yh4) (fun a w S H => ?_)
   case yh4 =>
    have h4p := h4; try simp only [DL] at h4p
    refine gz 118 h4 S rfl rfl rfl rfl rfl rfl (y_move rfl S rfl) fun a S => ?_
    refine gy rfl rfl rfl S (y_and' rfl h4 S rfl rfl) fun a S => ?_
    exact kk _ _ (S.join 2 120 rfl rfl) H
   refine gm S fun a S => ?_
   refine' wl_and 2 121 rfl S H rfl rfl rfl rfl rfl rfl rfl (fun _ S => (wn rfl)) (fun h5 kk => ?yh5) (fun a w S H => ?_)
   case yh5 =>
    have h5p := h5; try simp only [DL] at h5p
    refine gz 121 h5 S rfl rfl rfl rfl rfl rfl (y_faddrb rfl Ffo76_4 S rfl) fun a S => ?_
    refine gz 121 h5 S rfl rfl rfl rfl rfl rfl (y_load rfl Fsca4 S H rfl rfl) fun a S => ?_
    refine gy rfl rfl rfl S (y_and' rfl h5 S rfl rfl) fun a S => ?_
    exact kk _ _ (S.join 3 124 rfl rfl) H
   refine gnt ?_
   have S := ((((S.nil.cons S 8 rfl).cons S 2 rfl).cons S 1 rfl).cons S 0 rfl).cons S 124 rfl
   refine c_if S rfl (fun h6 => ?_) (fun h6 => ?_)
   ·have h6p := h6; try simp only [DL] at h6p
    have hc : p.role = 1 ∧ t = p.term ∧ gr = true := by simp [and_assoc] at h6; exact ⟨by omega, h6.2.1, h6.2.2⟩
    obtain ⟨hvl, hvt⟩ := hpf.v hc.1
    refine gsr ?_
    refine gm S fun a S => ?_
    refine gy rfl rfl rfl S (y_nilCheck rfl S rfl) fun a S => ?_
    refine gy rfl rfl rfl S (y_faddrb rfl Ffo67_6 S rfl) fun a S => ?_
    refine gy rfl rfl rfl S (y_load rfl Fsca65 S H rfl rfl) fun a S => ?_
    refine gm S fun a S => ?_
    refine gy rfl rfl rfl S (y_iaddrn rfl Try.underlying65 Fsiz4 S H rfl rfl (by first | assumption | omega | (simp only [List.length_range]; omega) | (simp only [List.length_replicate]; omega) | (simp only [List.length_cons]; omega))) fun a S => ?_
    refine wl_of (op_store1 _ (true) (wn rfl) rfl rfl S H rfl rfl rfl rfl Fsiz4 (by first | assumption | omega | (simp only [List.length_range]; omega) | (simp only [List.length_replicate]; omega) | (simp only [List.length_cons]; omega)) (by exact rfl) fun a w S H => ?_)
    refine gnt ?_
    have S := (S.nil.cons S 1 rfl).cons S 0 rfl
    refine g_region ?_
    refine gm S fun a S => ?_
    refine gm S fun a S => ?_
    refine wl_of (op_call (wn rfl) rfl rfl S (co_func rfl Try.call34 S rfl) (rlead_spec c n (g.put j { p with votes := fun k => if k = i then true else p.votes k }) { z with p := fun v => if v = j then ({ z.p j with vs := (z.p j).vs.set i true } : RV) else z.p v, bag := z.bag } j _ (rputIn ({ z.p j with vs := (z.p j).vs.set i true } : RV) { p with votes := fun k => if k = i then true else p.votes k } (H.takeT [Cel (c.pb j) 67 [.int .i64 p.term, .int .i64 p.vote, (z.p j).lv, .bool p.down, .int .i64 (p.role : Int), .int .i64 (p.done : Int), (z.p j).vv, (z.p j).aw], OSl 4 (z.p j).vv 1 eB1 ((z.p j).vs.set i true), OSl 3 (z.p j).aw 1 encI (z.p j).ak, RRest c n g z j, RQs c z, BagA 7 encRM z.mb, BagA 2 Ent.enc z.bag] (RCel c :: RPts c n :: l)) hz hj ⟨fun _ => setB hvl hi p.votes hvt, fun h => absurd (show p.role = 2 from h) (by rw [hc.1]; decide), hpf.t⟩ (fun _ h => h) (by show ((z.p j).lv, p.log) ∈ z.bag; rw [hpl]; exact hz.lg j hj)) hj (by rw [Grp.put_same _ hin]; exact hc.1) hq (by rw [Grp.put_same _ hin]; exact hlenp)) fun v w hc a S => ?_)
    obtain ⟨rfl, z', H⟩ := hc
    
    refine gl_nil ?_
    refine n_block ?_
    refine ret0n rfl S ?_
    exact ⟨rfl, z', by unfold Grp.receive; dsimp only [Msg.term]; rw [← hp, if_pos hc]; exact H⟩
   ·have h6p := h6; try simp only [DL] at h6p
    have hc : ¬ (p.role = 1 ∧ t = p.term ∧ gr = true) := fun e => by rw [e.1, e.2.1, e.2.2] at h6; simp at h6
    refine g_skip ?_
    refine n_block ?_
    refine ret0n rfl S ?_
    exact ⟨rfl, _, by unfold Grp.receive; dsimp only [Msg.term]; rw [← hp, if_neg hc]; exact rputIn (z.p j) p (H.takeT [RPCel (c.pb j) (z.p j) p, OSl 4 (z.p j).vv 1 eB1 (z.p j).vs, OSl 3 (z.p j).aw 1 encI (z.p j).ak, RRest c n g z j, RQs c z, BagA 7 encRM z.mb, BagA 2 Ent.enc z.bag] (RCel c :: RPts c n :: l)) hz hj hpf (fun _ h => h) (by rw [hpl]; exact hz.lg j hj)⟩
  ·have h3p := h3; try simp only [DL] at h3p
   all_goals (
     exact absurd h3 (by simp))
set_option maxHeartbeats 1000000 in
/-- (*foyer/foyerref48.Group).receive -/
theorem rreceive_ack {M : Nat → Prop} {u0 : World} {l : List Atom} (c : RC) (n : Nat) (g : Grp) (z : RGV) (i j : Nat) (t m : Int) (v : Value) (w0 : World) (h0 : HSat M u0 (RGrpA c n g z :: RCel c :: RPts c n :: l) w0) (hi : i < n) (hj : j < n) (hq : ∀ b, (g.q j b).length ≤ 900000) (hlen : (g.at_ j).log.length ≤ 200000) :
    Ret Try.prog 28 #[.pointer (some ⟨c.b, 0, none⟩), .int .i64 (j : Int), .int .i64 (i : Int), .agg [.int .i64 4, .int .i64 t, .int .i64 0, .int .i64 m, .bool false, .slice none 0 0, .int .i64 0].toArray] w0 (fun u w => u = .tuple #[] ∧ ∃ z', HSat M u0 (RGrpA c n (g.receive i j (.ack t m)) z' :: RCel c :: RPts c n :: l) w) := by
 refine ret_of_wp (nt := 199) Try.func28 rfl rfl rfl (fl := [(0, .pointer (some ⟨c.b, 0, none⟩)), (1, .int .i64 (j : Int)), (2, .int .i64 (i : Int)), (3, .agg [.int .i64 4, .int .i64 t, .int .i64 0, .int .i64 m, .bool false, .slice none 0 0, .int .i64 0].toArray)]) rfl (fun a S => ?_)
 obtain ⟨H, hz⟩ := rgrpOut h0
 obtain ⟨H, hf⟩ := replOut H hj
 have hn7 := hz.n7
 obtain ⟨p, hp⟩ : ∃ p, p = (g.at_ j).step (t) := ⟨_, rfl⟩
 have hpf : (z.p j).Fits n p := by rw [hp]; exact hf.step _
 have hpl : p.log = (g.at_ j).log := by rw [hp]; exact Peer.step_log _ _
 have hin : j < g.n := by rw [hz.en]; exact hj
 have hlenp : p.log.length ≤ 200000 := by rw [hpl]; exact hlen
 have iS : ∀ l, HasSl (BagA 2 Ent.enc z.bag :: l) (z.p j).lv 2 Ent Ent.enc p.log := by rw [hpl]; exact bagSl (hz.lg j hj)
 refine gsr ?_
 refine wl_of (op_boxa (wn rfl) rfl rfl rfl S H rfl fun b7 a w S H => ?_)
 refine gnt ?_
 refine gsr ?_
 refine gm S fun a S => ?_
 refine gy rfl rfl rfl S (y_nilCheck rfl S rfl) fun a S => ?_
 refine gy rfl rfl rfl S (y_faddrb rfl Ffo62_0 S rfl) fun a S => ?_
 refine gy rfl rfl rfl S (y_load rfl Fsca60 S H rfl rfl) fun a S => ?_
 refine gm S fun a S => ?_
 refine gy rfl rfl rfl S (y_iaddrn rfl Try.underlying60 Fsiz63 S H rfl rfl (by first | assumption | omega | (simp only [List.length_range]; omega) | (simp only [List.length_replicate]; omega) | (simp only [List.length_cons]; omega))) fun a S => ?_
 refine gy rfl rfl rfl S ((y_loadsD c.av 0 rfl Fsca63 S H rfl (by simp only [List.length_range]; omega) (ldPt hj))) fun a S => ?_
 refine ga S fun a S => ?_
 refine gnt ?_
 have S := ((((S.nil.cons S 2 rfl).cons S 1 rfl).cons S 0 rfl).cons S 7 rfl).cons S 8 rfl
 refine g_seq ?_
 refine g_seq ?_
 refine region_st (loud := []) (tails := []) (free := []) [0, 1, 2, 3, 4, 5, 6] [] Fmo (by kernel_rfl) (by kernel_rfl) rfl H ?_
 refine m_w rfl rfl (wn rfl) rfl rfl S (fun w H => y_faddrb rfl Ffo76_1 S rfl) fun a S => ?_
 refine m_w rfl rfl (wn rfl) rfl rfl S (fun w H => y_load rfl Fsca3 S H rfl rfl) fun a S => ?_
 refine m_w rfl rfl (wn rfl) rfl rfl S (fun w H => y_move rfl S rfl) fun a S => ?_
 refine m_w rfl rfl (wn rfl) rfl rfl S (fun w H => y_nilCheck rfl S rfl) fun a S => ?_
 refine m_w rfl rfl (wn rfl) rfl rfl S (fun w H => y_faddrb rfl Ffo67_0 S rfl) fun a S => ?_
 refine m_w rfl rfl (wn rfl) rfl rfl S (fun w H => y_load rfl Fsca3 S H rfl rfl) fun a S => ?_
 refine m_w rfl rfl (wn rfl) rfl rfl S (fun w H => y_bin rfl S rfl rfl rfl) fun a S => ?_
 refine m_nil (fun w H => ?_)
 refine n_then ?_
 have S := (((((S.nil.cons S 2 rfl).cons S 1 rfl).cons S 0 rfl).cons S 7 rfl).cons S 8 rfl).cons S 26 rfl
 refine cut (fun a w => St 199 [(0, .pointer (some ⟨c.b, 0, none⟩)), (1, .int .i64 (j : Int)), (2, .int .i64 (i : Int)), (7, .pointer (some ⟨b7, 0, none⟩)), (8, .pointer (some ⟨c.pb j, 0, none⟩))] a ∧ HSat M u0 ([Cel b7 76 [.int .i64 4, .int .i64 t, .int .i64 0, .int .i64 m, .bool false, .slice none 0 0, .int .i64 0], RPCel (c.pb j) (z.p j) p, OSl 4 (z.p j).vv 1 eB1 (z.p j).vs, OSl 3 (z.p j).aw 1 encI (z.p j).ak, RRest c n g z j, RQs c z, BagA 7 encRM z.mb, BagA 2 Ent.enc z.bag] ++ (RCel c :: RPts c n :: l)) w) ?_ ?_
 ·skip
  refine c_if S rfl (fun h1 => ?_) (fun h1 => ?_)
  ·have h1p := h1; try simp only [DL] at h1p
   refine gsr ?_
   refine gm S fun a S => ?_
   refine gy rfl rfl rfl S (y_faddrb rfl Ffo76_1 S rfl) fun a S => ?_
   refine gy rfl rfl rfl S (y_load rfl Fsca3 S H rfl rfl) fun a S => ?_
   refine gy rfl rfl rfl S (y_nilCheck rfl S rfl) fun a S => ?_
   refine gy rfl rfl rfl S (y_faddrb rfl Ffo67_0 S rfl) fun a S => ?_
   refine wl_of (op_store (wn rfl) rfl rfl S H rfl rfl rfl Fsiz3 rfl fun a w S H => ?_)
   dsimp only [List.set, Nat.zero_add, Nat.reduceAdd] at H
   refine gnt ?_
   refine gsr ?_
   refine gm S fun a S => ?_
   refine gy rfl rfl rfl S (y_nilCheck rfl S rfl) fun a S => ?_
   refine gy rfl rfl rfl S (y_faddrb rfl Ffo67_1 S rfl) fun a S => ?_
   refine wl_of (op_store (wn rfl) rfl rfl S H rfl rfl rfl Fsiz3 rfl fun a w S H => ?_)
   dsimp only [List.set, Nat.zero_add, Nat.reduceAdd] at H
   refine gnt ?_
   refine g_region ?_
   refine gm S fun a S => ?_
   refine gy rfl rfl rfl S (y_nilCheck rfl S rfl) fun a S => ?_
   refine gy rfl rfl rfl S (y_faddrb rfl Ffo67_4 S rfl) fun a S => ?_
   refine wl_of (op_store (wn rfl) rfl rfl S H rfl rfl rfl Fsiz3 rfl fun a w S H => ?_)
   dsimp only [List.set, Nat.zero_add, Nat.reduceAdd] at H
   refine gnt ?_
   first
   | (have e : p = { g.at_ j with term := t, vote := -1, role := 0 } := hp.trans (step_yes h1p)
      exact ⟨(((((S.nil.cons S 8 rfl).cons S 7 rfl).cons S 2 rfl).cons S 1 rfl).cons S 0 rfl), by rw [e]; exact H.takeT [Cel b7 76 [.int .i64 4, .int .i64 t, .int .i64 0, .int .i64 m, .bool false, .slice none 0 0, .int .i64 0], Cel (c.pb j) 67 [.int .i64 t, .int .i64 (-1), (z.p j).lv, .bool (g.at_ j).down, .int .i64 0, .int .i64 ((g.at_ j).done : Int), (z.p j).vv, (z.p j).aw], OSl 4 (z.p j).vv 1 eB1 (z.p j).vs, OSl 3 (z.p j).aw 1 encI (z.p j).ak, RRest c n g z j, RQs c z, BagA 7 encRM z.mb, BagA 2 Ent.enc z.bag] (RCel c :: RPts c n :: l)⟩)
   | (have e : p = g.at_ j := hp.trans (step_no (Int.not_lt.2 h1p))
      exact ⟨(((((S.nil.cons S 8 rfl).cons S 7 rfl).cons S 2 rfl).cons S 1 rfl).cons S 0 rfl), by rw [e]; exact H.takeT [Cel b7 76 [.int .i64 4, .int .i64 t, .int .i64 0, .int .i64 m, .bool false, .slice none 0 0, .int .i64 0], RPCel (c.pb j) (z.p j) (g.at_ j), OSl 4 (z.p j).vv 1 eB1 (z.p j).vs, OSl 3 (z.p j).aw 1 encI (z.p j).ak, RRest c n g z j, RQs c z, BagA 7 encRM z.mb, BagA 2 Ent.enc z.bag] (RCel c :: RPts c n :: l)⟩)
  ·have h1p := h1; try simp only [DL] at h1p
   refine g_skip ?_
   refine n_then ?_
   first
   | (have e : p = { g.at_ j with term := t, vote := -1, role := 0 } := hp.trans (step_yes h1p)
      exact ⟨(((((S.nil.cons S 8 rfl).cons S 7 rfl).cons S 2 rfl).cons S 1 rfl).cons S 0 rfl), by rw [e]; exact H.takeT [Cel b7 76 [.int .i64 4, .int .i64 t, .int .i64 0, .int .i64 m, .bool false, .slice none 0 0, .int .i64 0], Cel (c.pb j) 67 [.int .i64 t, .int .i64 (-1), (z.p j).lv, .bool (g.at_ j).down, .int .i64 0, .int .i64 ((g.at_ j).done : Int), (z.p j).vv, (z.p j).aw], OSl 4 (z.p j).vv 1 eB1 (z.p j).vs, OSl 3 (z.p j).aw 1 encI (z.p j).ak, RRest c n g z j, RQs c z, BagA 7 encRM z.mb, BagA 2 Ent.enc z.bag] (RCel c :: RPts c n :: l)⟩)
   | (have e : p = g.at_ j := hp.trans (step_no (Int.not_lt.2 h1p))
      exact ⟨(((((S.nil.cons S 8 rfl).cons S 7 rfl).cons S 2 rfl).cons S 1 rfl).cons S 0 rfl), by rw [e]; exact H.takeT [Cel b7 76 [.int .i64 4, .int .i64 t, .int .i64 0, .int .i64 m, .bool false, .slice none 0 0, .int .i64 0], RPCel (c.pb j) (z.p j) (g.at_ j), OSl 4 (z.p j).vv 1 eB1 (z.p j).vs, OSl 3 (z.p j).aw 1 encI (z.p j).ak, RRest c n g z j, RQs c z, BagA 7 encRM z.mb, BagA 2 Ent.enc z.bag] (RCel c :: RPts c n :: l)⟩)
 rintro a w ⟨S, H⟩
 simp only [List.cons_append, List.nil_append] at H
 refine g_seq ?_
 refine region_st (loud := []) (tails := []) (free := []) [0, 1, 2, 3, 4, 5, 6, 7] [] Fmo (by kernel_rfl) (by kernel_rfl) rfl H ?_
 refine m_w rfl rfl (wn rfl) rfl rfl S (fun w H => y_faddrb rfl Ffo76_1 S rfl) fun a S => ?_
 refine m_w rfl rfl (wn rfl) rfl rfl S (fun w H => y_load rfl Fsca3 S H rfl rfl) fun a S => ?_
 refine m_w rfl rfl (wn rfl) rfl rfl S (fun w H => y_move rfl S rfl) fun a S => ?_
 refine m_w rfl rfl (wn rfl) rfl rfl S (fun w H => y_nilCheck rfl S rfl) fun a S => ?_
 refine m_w rfl rfl (wn rfl) rfl rfl S (fun w H => y_faddrb rfl Ffo67_0 S rfl) fun a S => ?_
 refine m_w rfl rfl (wn rfl) rfl rfl S (fun w H => y_load rfl Fsca3 S H rfl rfl) fun a S => ?_
 refine m_w rfl rfl (wn rfl) rfl rfl S (fun w H => y_bin rfl S rfl rfl rfl) fun a S => ?_
 refine m_w rfl rfl (wn rfl) rfl rfl S (fun w H => y_assign rfl S rfl) fun a S => ?_
 refine m_nil (fun w H => ?_)
 refine n_then ?_
 have S := (((((S.nil.cons S 8 rfl).cons S 7 rfl).cons S 2 rfl).cons S 1 rfl).cons S 0 rfl).cons S 9 rfl
 refine gsr ?_
 refine gy rfl rfl rfl S (y_faddrb rfl Ffo76_0 S rfl) fun a S => ?_
 refine gy rfl rfl rfl S (y_load rfl Fsca3 S H rfl rfl) fun a S => ?_
 refine gnt ?_
 refine g_block ?_
 refine gsr ?_
 refine gy rfl rfl rfl S (y_bin rfl S rfl rfl rfl) fun a S => ?_
 refine ga S fun a S => ?_
 refine gnt ?_
 refine c_if S rfl (fun h2 => ?_) (fun h2 => ?_)
 ·have h2p := h2; try simp only [DL] at h2p
  all_goals (
    exact absurd h2 (by simp))
 ·have h2p := h2; try simp only [DL] at h2p
  refine gsr ?_
  refine gy rfl rfl rfl S (y_bin rfl S rfl rfl rfl) fun a S => ?_
  refine ga S fun a S => ?_
  refine gnt ?_
  have S := (((((((S.nil.cons S 8 rfl).cons S 7 rfl).cons S 2 rfl).cons S 1 rfl).cons S 0 rfl).cons S 9 rfl).cons S 46 rfl).cons S 111 rfl
  refine c_if S rfl (fun h3 => ?_) (fun h3 => ?_)
  ·have h3p := h3; try simp only [DL] at h3p
   all_goals (
     exact absurd h3 (by simp))
  ·have h3p := h3; try simp only [DL] at h3p
   refine gsr ?_
   refine gy rfl rfl rfl S (y_bin rfl S rfl rfl rfl) fun a S => ?_
   refine ga S fun a S => ?_
   refine gnt ?_
   refine c_if S rfl (fun h4 => ?_) (fun h4 => ?_)
   ·have h4p := h4; try simp only [DL] at h4p
    all_goals (
      exact absurd h4 (by simp))
   ·have h4p := h4; try simp only [DL] at h4p
    refine gsr ?_
    refine gy rfl rfl rfl S (y_bin rfl S rfl rfl rfl) fun a S => ?_
    refine ga S fun a S => ?_
    refine gnt ?_
    have S := ((((((S.nil.cons S 8 rfl).cons S 7 rfl).cons S 2 rfl).cons S 1 rfl).cons S 0 rfl).cons S 9 rfl).cons S 170 rfl
    refine c_if S rfl (fun h5 => ?_) (fun h5 => ?_)
    ·have h5p := h5; try simp only [DL] at h5p
     refine gsr ?_
     refine gm S fun a S => ?_
     refine gy rfl rfl rfl S (y_nilCheck rfl S rfl) fun a S => ?_
     refine gy rfl rfl rfl S (y_faddrb rfl Ffo67_4 S rfl) fun a S => ?_
     refine gy rfl rfl rfl S (y_load rfl Fsca3 S H rfl rfl) fun a S => ?_
     refine gy rfl rfl rfl S (y_bin rfl S rfl rfl rfl) fun a S => ?_
     refine gm S fun a S => ?_
     refine' wl_and 1 177 rfl S H rfl rfl rfl rfl rfl rfl rfl (fun _ S => (wn rfl)) (fun h6 kk => ?yh6) (fun a w S H => ?_)
     case yh6 =>
      have h6p := h6; try simp only [DL] at h6p
      refine gz 177 h6 S rfl rfl rfl rfl rfl rfl (y_move rfl S rfl) fun a S => ?_
      refine gy rfl rfl rfl S (y_and' rfl h6 S rfl rfl) fun a S => ?_
      exact kk _ _ (S.join 2 179 rfl rfl) H
     refine gnt ?_
     have S := (((((S.nil.cons S 8 rfl).cons S 7 rfl).cons S 2 rfl).cons S 1 rfl).cons S 0 rfl).cons S 179 rfl
     refine c_if S rfl (fun h7 => ?_) (fun h7 => ?_)
     ·have h7p := h7; try simp only [DL] at h7p
      have hc : p.role = 2 ∧ t = p.term := by simp at h7; exact ⟨by omega, h7.2⟩
      obtain ⟨hal, hat⟩ := hpf.a hc.1
      refine g_seq ?_
      refine region_st (loud := [16]) (tails := [16]) (free := []) [0, 1, 2, 3, 4, 5, 6, 7, 8, 9, 10, 11, 12, 13, 14, 15, 16] [] Fmo (by kernel_rfl) (by kernel_rfl) rfl H ?_
      refine m_w rfl rfl (wn rfl) rfl rfl S (fun w H => y_move rfl S rfl) fun a S => ?_
      refine m_w rfl rfl (wn rfl) rfl rfl S (fun w H => y_nilCheck rfl S rfl) fun a S => ?_
      refine m_w rfl rfl (wn rfl) rfl rfl S (fun w H => y_faddrb rfl Ffo67_7 S rfl) fun a S => ?_
      refine m_w rfl rfl (wn rfl) rfl rfl S (fun w H => y_load rfl Fsca45 S H rfl rfl) fun a S => ?_
      refine m_w rfl rfl (wn rfl) rfl rfl S (fun w H => y_move rfl S rfl) fun a S => ?_
      refine m_w rfl rfl (wn rfl) rfl rfl S (fun w H => y_move rfl S rfl) fun a S => ?_
      refine m_w rfl rfl (wn rfl) rfl rfl S (fun w H => y_nilCheck rfl S rfl) fun a S => ?_
      refine m_w rfl rfl (wn rfl) rfl rfl S (fun w H => y_faddrb rfl Ffo67_7 S rfl) fun a S => ?_
      refine m_w rfl rfl (wn rfl) rfl rfl S (fun w H => y_load rfl Fsca45 S H rfl rfl) fun a S => ?_
      refine m_w rfl rfl (wn rfl) rfl rfl S (fun w H => y_move rfl S rfl) fun a S => ?_
      refine m_w rfl rfl (wn rfl) rfl rfl S (fun w H => y_iaddrn rfl Try.underlying45 Fsiz3 S H rfl rfl (by first | assumption | omega | (simp only [List.length_range]; omega) | (simp only [List.length_replicate]; omega) | (simp only [List.length_cons]; omega))) fun a S => ?_
      refine m_w rfl rfl (wn rfl) rfl rfl S (fun w H => (y_loadsD (z.p j).aw 0 rfl Fsca3 S H rfl (by omega) (show (encI ((z.p j).ak.getD i 0))[0]? = some (.int .i64 (p.acks i)) by rw [hat i hi]; rfl))) fun a S => ?_
      refine m_w rfl rfl (wn rfl) rfl rfl S (fun w H => y_faddrb rfl Ffo76_3 S rfl) fun a S => ?_
      refine m_w rfl rfl (wn rfl) rfl rfl S (fun w H => y_load rfl Fsca3 S H rfl rfl) fun a S => ?_
      refine m_w rfl rfl (wn rfl) rfl rfl S (fun w H => y_max rfl S rfl rfl) fun a S => ?_
      refine m_w rfl rfl (wn rfl) rfl rfl S (fun w H => y_iaddrn rfl Try.underlying45 Fsiz3 S H rfl rfl (by first | assumption | omega | (simp only [List.length_range]; omega) | (simp only [List.length_replicate]; omega) | (simp only [List.length_cons]; omega))) fun a S => ?_
      refine m_l rfl rfl (fun w H => op_store1 _ (max (p.acks i) m) (wn rfl) rfl rfl S H rfl rfl rfl rfl Fsiz3 (by first | assumption | omega | (simp only [List.length_range]; omega) | (simp only [List.length_replicate]; omega) | (simp only [List.length_cons]; omega)) (by exact rfl) fun a w S H => m_tail H rfl ?_)
      refine m_nil (fun w H => ?_)
      refine n_then ?_
      have S := (S.nil.cons S 1 rfl).cons S 0 rfl
      refine g_region ?_
      refine gm S fun a S => ?_
      refine gm S fun a S => ?_
      refine wl_of (op_call (wn rfl) rfl rfl S (co_func rfl Try.call39 S rfl) (rcommit_spec c n (g.put j { p with acks := fun k => if k = i then max (p.acks i) m else p.acks k }) { z with p := fun v => if v = j then ({ z.p j with ak := (z.p j).ak.set i (max (p.acks i) m) } : RV) else z.p v, bag := z.bag } j _ (rputIn ({ z.p j with ak := (z.p j).ak.set i (max (p.acks i) m) } : RV) { p with acks := fun k => if k = i then max (p.acks i) m else p.acks k } (H.takeT [RPCel (c.pb j) (z.p j) p, OSl 4 (z.p j).vv 1 eB1 (z.p j).vs, OSl 3 (z.p j).aw 1 encI ((z.p j).ak.set i (max (p.acks i) m)), RRest c n g z j, RQs c z, BagA 7 encRM z.mb, BagA 2 Ent.enc z.bag] (RCel c :: RPts c n :: l)) hz hj ⟨fun h => absurd (show p.role = 1 from h) (by rw [hc.1]; decide), fun _ => setI hal hi p.acks hat, hpf.t⟩ (fun _ h => h) (by show ((z.p j).lv, p.log) ∈ z.bag; rw [hpl]; exact hz.lg j hj)) hj (by rw [Grp.put_same _ hin]; exact hc.1) hq (by rw [Grp.put_same _ hin]; exact hlenp)) fun v w hc a S => ?_)
      obtain ⟨rfl, z', H⟩ := hc
      
      refine gl_nil ?_
      refine n_block ?_
      refine ret0n rfl S ?_
      exact ⟨rfl, z', by unfold Grp.receive; dsimp only [Msg.term]; rw [← hp, if_pos hc]; exact H⟩
     ·have h7p := h7; try simp only [DL] at h7p
      have hc : ¬ (p.role = 2 ∧ t = p.term) := fun e => by rw [e.1, e.2] at h7; simp at h7
      refine g_skip ?_
      refine n_block ?_
      refine ret0n rfl S ?_
      exact ⟨rfl, _, by unfold Grp.receive; dsimp only [Msg.term]; rw [← hp, if_neg hc]; exact rputIn (z.p j) p (H.takeT [RPCel (c.pb j) (z.p j) p, OSl 4 (z.p j).vv 1 eB1 (z.p j).vs, OSl 3 (z.p j).aw 1 encI (z.p j).ak, RRest c n g z j, RQs c z, BagA 7 encRM z.mb, BagA 2 Ent.enc z.bag] (RCel c :: RPts c n :: l)) hz hj hpf (fun _ h => h) (by rw [hpl]; exact hz.lg j hj)⟩
    ·have h5p := h5; try simp only [DL] at h5p
     all_goals (
       exact absurd h5 (by simp))
set_option maxHeartbeats 1000000 in
/-- (*foyer/foyerref48.Group).receive -/
theorem rreceive_share {M : Nat → Prop} {u0 : World} {l : List Atom} (c : RC) (n : Nat) (g : Grp) (z : RGV) (i j : Nat) (t : Int) (lg : List Ent) (d : Nat) (v : Value) (w0 : World) (h0 : HSat M u0 (RGrpA c n g z :: RCel c :: RPts c n :: l) w0) (hi : i < n) (hj : j < n) (hq : ∀ b, (g.q j b).length ≤ 900000) (hlen : (g.at_ j).log.length ≤ 200000) (hv : (v, lg) ∈ z.bag) (hlg : lg.length ≤ 200000) :
    Ret Try.prog 28 #[.pointer (some ⟨c.b, 0, none⟩), .int .i64 (j : Int), .int .i64 (i : Int), .agg [.int .i64 3, .int .i64 t, .int .i64 0, .int .i64 0, .bool false, v, .int .i64 (d : Int)].toArray] w0 (fun u w => u = .tuple #[] ∧ ∃ z', HSat M u0 (RGrpA c n (g.receive i j (.share t lg d)) z' :: RCel c :: RPts c n :: l) w) := by
 refine ret_of_wp (nt := 199) Try.func28 rfl rfl rfl (fl := [(0, .pointer (some ⟨c.b, 0, none⟩)), (1, .int .i64 (j : Int)), (2, .int .i64 (i : Int)), (3, .agg [.int .i64 3, .int .i64 t, .int .i64 0, .int .i64 0, .bool false, v, .int .i64 (d : Int)].toArray)]) rfl (fun a S => ?_)
 obtain ⟨H, hz⟩ := rgrpOut h0
 obtain ⟨H, hf⟩ := replOut H hj
 have hn7 := hz.n7
 obtain ⟨p, hp⟩ : ∃ p, p = (g.at_ j).step (t) := ⟨_, rfl⟩
 have hpf : (z.p j).Fits n p := by rw [hp]; exact hf.step _
 have hpl : p.log = (g.at_ j).log := by rw [hp]; exact Peer.step_log _ _
 have hin : j < g.n := by rw [hz.en]; exact hj
 have hlenp : p.log.length ≤ 200000 := by rw [hpl]; exact hlen
 have iS : ∀ l, HasSl (BagA 2 Ent.enc z.bag :: l) (z.p j).lv 2 Ent Ent.enc p.log := by rw [hpl]; exact bagSl (hz.lg j hj)
 have iV : ∀ l, HasSl (BagA 2 Ent.enc z.bag :: l) v 2 Ent Ent.enc lg := bagSl hv
 have hvc : v.oneCell' = true := H.sl1 v
 refine gsr ?_
 refine wl_of (op_boxa (wn rfl) rfl rfl rfl S H rfl fun b7 a w S H => ?_)
 refine gnt ?_
 refine gsr ?_
 refine gm S fun a S => ?_
 refine gy rfl rfl rfl S (y_nilCheck rfl S rfl) fun a S => ?_
 refine gy rfl rfl rfl S (y_faddrb rfl Ffo62_0 S rfl) fun a S => ?_
 refine gy rfl rfl rfl S (y_load rfl Fsca60 S H rfl rfl) fun a S => ?_
 refine gm S fun a S => ?_
 refine gy rfl rfl rfl S (y_iaddrn rfl Try.underlying60 Fsiz63 S H rfl rfl (by first | assumption | omega | (simp only [List.length_range]; omega) | (simp only [List.length_replicate]; omega) | (simp only [List.length_cons]; omega))) fun a S => ?_
 refine gy rfl rfl rfl S ((y_loadsD c.av 0 rfl Fsca63 S H rfl (by simp only [List.length_range]; omega) (ldPt hj))) fun a S => ?_
 refine ga S fun a S => ?_
 refine gnt ?_
 have S := ((((S.nil.cons S 2 rfl).cons S 1 rfl).cons S 0 rfl).cons S 7 rfl).cons S 8 rfl
 refine g_seq ?_
 refine g_seq ?_
 refine region_st (loud := []) (tails := []) (free := []) [0, 1, 2, 3, 4, 5, 6] [] Fmo (by kernel_rfl) (by kernel_rfl) rfl H ?_
 refine m_w rfl rfl (wn rfl) rfl rfl S (fun w H => y_faddrb rfl Ffo76_1 S rfl) fun a S => ?_
 refine m_w rfl rfl (wn rfl) rfl rfl S (fun w H => y_load rfl Fsca3 S H rfl rfl) fun a S => ?_
 refine m_w rfl rfl (wn rfl) rfl rfl S (fun w H => y_move rfl S rfl) fun a S => ?_
 refine m_w rfl rfl (wn rfl) rfl rfl S (fun w H => y_nilCheck rfl S rfl) fun a S => ?_
 refine m_w rfl rfl (wn rfl) rfl rfl S (fun w H => y_faddrb rfl Ffo67_0 S rfl) fun a S => ?_
 refine m_w rfl rfl (wn rfl) rfl rfl S (fun w H => y_load rfl Fsca3 S H rfl rfl) fun a S => ?_
 refine m_w rfl rfl (wn rfl) rfl rfl S (fun w H => y_bin rfl S rfl rfl rfl) fun a S => ?_
 refine m_nil (fun w H => ?_)
 refine n_then ?_
 have S := (((((S.nil.cons S 2 rfl).cons S 1 rfl).cons S 0 rfl).cons S 7 rfl).cons S 8 rfl).cons S 26 rfl
 refine cut (fun a w => St 199 [(0, .pointer (some ⟨c.b, 0, none⟩)), (1, .int .i64 (j : Int)), (2, .int .i64 (i : Int)), (7, .pointer (some ⟨b7, 0, none⟩)), (8, .pointer (some ⟨c.pb j, 0, none⟩))] a ∧ HSat M u0 ([Cel b7 76 [.int .i64 3, .int .i64 t, .int .i64 0, .int .i64 0, .bool false, v, .int .i64 (d : Int)], RPCel (c.pb j) (z.p j) p, OSl 4 (z.p j).vv 1 eB1 (z.p j).vs, OSl 3 (z.p j).aw 1 encI (z.p j).ak, RRest c n g z j, RQs c z, BagA 7 encRM z.mb, BagA 2 Ent.enc z.bag] ++ (RCel c :: RPts c n :: l)) w) ?_ ?_
 ·skip
  refine c_if S rfl (fun h1 => ?_) (fun h1 => ?_)
  ·have h1p := h1; try simp only [DL] at h1p
   refine gsr ?_
   refine gm S fun a S => ?_
   refine gy rfl rfl rfl S (y_faddrb rfl Ffo76_1 S rfl) fun a S => ?_
   refine gy rfl rfl rfl S (y_load rfl Fsca3 S H rfl rfl) fun a S => ?_
   refine gy rfl rfl rfl S (y_nilCheck rfl S rfl) fun a S => ?_
   refine gy rfl rfl rfl S (y_faddrb rfl Ffo67_0 S rfl) fun a S => ?_
   refine wl_of (op_store (wn rfl) rfl rfl S H rfl rfl rfl Fsiz3 rfl fun a w S H => ?_)
   dsimp only [List.set, Nat.zero_add, Nat.reduceAdd] at H
   refine gnt ?_
   refine gsr ?_
   refine gm S fun a S => ?_
   refine gy rfl rfl rfl S (y_nilCheck rfl S rfl) fun a S => ?_
   refine gy rfl rfl rfl S (y_faddrb rfl Ffo67_1 S rfl) fun a S => ?_
   refine wl_of (op_store (wn rfl) rfl rfl S H rfl rfl rfl Fsiz3 rfl fun a w S H => ?_)
   dsimp only [List.set, Nat.zero_add, Nat.reduceAdd] at H
   refine gnt ?_
   refine g_region ?_
   refine gm S fun a S => ?_
   refine gy rfl rfl rfl S (y_nilCheck rfl S rfl) fun a S => ?_
   refine gy rfl rfl rfl S (y_faddrb rfl Ffo67_4 S rfl) fun a S => ?_
   refine wl_of (op_store (wn rfl) rfl rfl S H rfl rfl rfl Fsiz3 rfl fun a w S H => ?_)
   dsimp only [List.set, Nat.zero_add, Nat.reduceAdd] at H
   refine gnt ?_
   first
   | (have e : p = { g.at_ j with term := t, vote := -1, role := 0 } := hp.trans (step_yes h1p)
      exact ⟨(((((S.nil.cons S 8 rfl).cons S 7 rfl).cons S 2 rfl).cons S 1 rfl).cons S 0 rfl), by rw [e]; exact H.takeT [Cel b7 76 [.int .i64 3, .int .i64 t, .int .i64 0, .int .i64 0, .bool false, v, .int .i64 (d : Int)], Cel (c.pb j) 67 [.int .i64 t, .int .i64 (-1), (z.p j).lv, .bool (g.at_ j).down, .int .i64 0, .int .i64 ((g.at_ j).done : Int), (z.p j).vv, (z.p j).aw], OSl 4 (z.p j).vv 1 eB1 (z.p j).vs, OSl 3 (z.p j).aw 1 encI (z.p j).ak, RRest c n g z j, RQs c z, BagA 7 encRM z.mb, BagA 2 Ent.enc z.bag] (RCel c :: RPts c n :: l)⟩)
   | (have e : p = g.at_ j := hp.trans (step_no (Int.not_lt.2 h1p))
      exact ⟨(((((S.nil.cons S 8 rfl).cons S 7 rfl).cons S 2 rfl).cons S 1 rfl).cons S 0 rfl), by rw [e]; exact H.takeT [Cel b7 76 [.int .i64 3, .int .i64 t, .int .i64 0, .int .i64 0, .bool false, v, .int .i64 (d : Int)], RPCel (c.pb j) (z.p j) (g.at_ j), OSl 4 (z.p j).vv 1 eB1 (z.p j).vs, OSl 3 (z.p j).aw 1 encI (z.p j).ak, RRest c n g z j, RQs c z, BagA 7 encRM z.mb, BagA 2 Ent.enc z.bag] (RCel c :: RPts c n :: l)⟩)
  ·have h1p := h1; try simp only [DL] at h1p
   refine g_skip ?_
   refine n_then ?_
   first
   | (have e : p = { g.at_ j with term := t, vote := -1, role := 0 } := hp.trans (step_yes h1p)
      exact ⟨(((((S.nil.cons S 8 rfl).cons S 7 rfl).cons S 2 rfl).cons S 1 rfl).cons S 0 rfl), by rw [e]; exact H.takeT [Cel b7 76 [.int .i64 3, .int .i64 t, .int .i64 0, .int .i64 0, .bool false, v, .int .i64 (d : Int)], Cel (c.pb j) 67 [.int .i64 t, .int .i64 (-1), (z.p j).lv, .bool (g.at_ j).down, .int .i64 0, .int .i64 ((g.at_ j).done : Int), (z.p j).vv, (z.p j).aw], OSl 4 (z.p j).vv 1 eB1 (z.p j).vs, OSl 3 (z.p j).aw 1 encI (z.p j).ak, RRest c n g z j, RQs c z, BagA 7 encRM z.mb, BagA 2 Ent.enc z.bag] (RCel c :: RPts c n :: l)⟩)
   | (have e : p = g.at_ j := hp.trans (step_no (Int.not_lt.2 h1p))
      exact ⟨(((((S.nil.cons S 8 rfl).cons S 7 rfl).cons S 2 rfl).cons S 1 rfl).cons S 0 rfl), by rw [e]; exact H.takeT [Cel b7 76 [.int .i64 3, .int .i64 t, .int .i64 0, .int .i64 0, .bool false, v, .int .i64 (d : Int)], RPCel (c.pb j) (z.p j) (g.at_ j), OSl 4 (z.p j).vv 1 eB1 (z.p j).vs, OSl 3 (z.p j).aw 1 encI (z.p j).ak, RRest c n g z j, RQs c z, BagA 7 encRM z.mb, BagA 2 Ent.enc z.bag] (RCel c :: RPts c n :: l)⟩)
 rintro a w ⟨S, H⟩
 simp only [List.cons_append, List.nil_append] at H
 refine g_seq ?_
 refine region_st (loud := []) (tails := []) (free := []) [0, 1, 2, 3, 4, 5, 6, 7] [] Fmo (by kernel_rfl) (by kernel_rfl) rfl H ?_
 refine m_w rfl rfl (wn rfl) rfl rfl S (fun w H => y_faddrb rfl Ffo76_1 S rfl) fun a S => ?_
 refine m_w rfl rfl (wn rfl) rfl rfl S (fun w H => y_load rfl Fsca3 S H rfl rfl) fun a S => ?_
 refine m_w rfl rfl (wn rfl) rfl rfl S (fun w H => y_move rfl S rfl) fun a S => ?_
 refine m_w rfl rfl (wn rfl) rfl rfl S (fun w H => y_nilCheck rfl S rfl) fun a S => ?_
 refine m_w rfl rfl (wn rfl) rfl rfl S (fun w H => y_faddrb rfl Ffo67_0 S rfl) fun a S => ?_
 refine m_w rfl rfl (wn rfl) rfl rfl S (fun w H => y_load rfl Fsca3 S H rfl rfl) fun a S => ?_
 refine m_w rfl rfl (wn rfl) rfl rfl S (fun w H => y_bin rfl S rfl rfl rfl) fun a S => ?_
 refine m_w rfl rfl (wn rfl) rfl rfl S (fun w H => y_assign rfl S rfl) fun a S => ?_
 refine m_nil (fun w H => ?_)
 refine n_then ?_
 have S := (((((S.nil.cons S 8 rfl).cons S 7 rfl).cons S 2 rfl).cons S 1 rfl).cons S 0 rfl).cons S 9 rfl
 refine gsr ?_
 refine gy rfl rfl rfl S (y_faddrb rfl Ffo76_0 S rfl) fun a S => ?_
 refine gy rfl rfl rfl S (y_load rfl Fsca3 S H rfl rfl) fun a S => ?_
 refine gnt ?_
 refine g_block ?_
 refine gsr ?_
 refine gy rfl rfl rfl S (y_bin rfl S rfl rfl rfl) fun a S => ?_
 refine ga S fun a S => ?_
 refine gnt ?_
 refine c_if S rfl (fun h2 => ?_) (fun h2 => ?_)
 ·have h2p := h2; try simp only [DL] at h2p
  all_goals (
    exact absurd h2 (by simp))
 ·have h2p := h2; try simp only [DL] at h2p
  refine gsr ?_
  refine gy rfl rfl rfl S (y_bin rfl S rfl rfl rfl) fun a S => ?_
  refine ga S fun a S => ?_
  refine gnt ?_
  have S := (((((((S.nil.cons S 8 rfl).cons S 7 rfl).cons S 2 rfl).cons S 1 rfl).cons S 0 rfl).cons S 9 rfl).cons S 46 rfl).cons S 111 rfl
  refine c_if S rfl (fun h3 => ?_) (fun h3 => ?_)
  ·have h3p := h3; try simp only [DL] at h3p
   all_goals (
     exact absurd h3 (by simp))
  ·have h3p := h3; try simp only [DL] at h3p
   refine gsr ?_
   refine gy rfl rfl rfl S (y_bin rfl S rfl rfl rfl) fun a S => ?_
   refine ga S fun a S => ?_
   refine gnt ?_
   refine c_if S rfl (fun h4 => ?_) (fun h4 => ?_)
   ·have h4p := h4; try simp only [DL] at h4p
    refine gsr ?_
    refine ga S fun a S => ?_
    refine gnt ?_
    have S := ((((((S.nil.cons S 8 rfl).cons S 7 rfl).cons S 2 rfl).cons S 1 rfl).cons S 0 rfl).cons S 9 rfl).cons S 12 rfl
    refine g_seq ?_
    refine gsr ?_
    refine gm S fun a S => ?_
    refine gnt ?_
    refine cut (fun a w => ∃ (p' : Peer) (x' : RV) (m : Int), (t = p.term ∧ p' = { p with role := 0, log := lg, done := max p.done d } ∧ x' = { z.p j with lv := v } ∧ m = (lg.length : Int) ∨ t ≠ p.term ∧ p' = p ∧ x' = z.p j ∧ m = 0) ∧ St 199 [(0, .pointer (some ⟨c.b, 0, none⟩)), (1, .int .i64 (j : Int)), (2, .int .i64 (i : Int)), (8, .pointer (some ⟨c.pb j, 0, none⟩)), (12, .int .i64 m)] a ∧ HSat M u0 ([RPCel (c.pb j) x' p', OSl 4 x'.vv 1 eB1 x'.vs, OSl 3 x'.aw 1 encI x'.ak, RRest c n g z j, RQs c z, BagA 7 encRM z.mb, BagA 2 Ent.enc z.bag] ++ (RCel c :: RPts c n :: l)) w) ?_ ?_
    ·skip
     refine c_if S rfl (fun h5 => ?_) (fun h5 => ?_)
     ·have h5p := h5; try simp only [DL] at h5p
      refine gsr ?_
      refine gm S fun a S => ?_
      refine gy rfl rfl rfl S (y_nilCheck rfl S rfl) fun a S => ?_
      refine gy rfl rfl rfl S (y_faddrb rfl Ffo67_4 S rfl) fun a S => ?_
      refine wl_of (op_store (wn rfl) rfl rfl S H rfl rfl rfl Fsiz3 rfl fun a w S H => ?_)
      dsimp only [List.set, Nat.zero_add, Nat.reduceAdd] at H
      refine gnt ?_
      refine gsr ?_
      refine gm S fun a S => ?_
      refine gy rfl rfl rfl S (y_faddrb rfl Ffo76_5 S rfl) fun a S => ?_
      refine gy rfl rfl rfl S (y_load rfl Fsca64 S H rfl rfl) fun a S => ?_
      refine gy rfl rfl rfl S (y_nilCheck rfl S rfl) fun a S => ?_
      refine gy rfl rfl rfl S (y_faddrb rfl Ffo67_2 S rfl) fun a S => ?_
      refine wl_of (op_store (wn rfl) rfl rfl S H rfl rfl (H.sl1 _) Fsiz64 rfl fun a w S H => ?_)
      dsimp only [List.set, Nat.zero_add, Nat.reduceAdd] at H
      refine gnt ?_
      refine g_seq ?_
      refine region_st (loud := [10]) (tails := [10]) (free := []) [0, 1, 2, 3, 4, 5, 6, 7, 8, 9, 10] [] Fmo (by kernel_rfl) (by kernel_rfl) rfl H ?_
      refine m_w rfl rfl (wn rfl) rfl rfl S (fun w H => y_move rfl S rfl) fun a S => ?_
      refine m_w rfl rfl (wn rfl) rfl rfl S (fun w H => y_move rfl S rfl) fun a S => ?_
      refine m_w rfl rfl (wn rfl) rfl rfl S (fun w H => y_nilCheck rfl S rfl) fun a S => ?_
      refine m_w rfl rfl (wn rfl) rfl rfl S (fun w H => y_faddrb rfl Ffo67_5 S rfl) fun a S => ?_
      refine m_w rfl rfl (wn rfl) rfl rfl S (fun w H => y_load rfl Fsca3 S H rfl rfl) fun a S => ?_
      refine m_w rfl rfl (wn rfl) rfl rfl S (fun w H => y_faddrb rfl Ffo76_6 S rfl) fun a S => ?_
      refine m_w rfl rfl (wn rfl) rfl rfl S (fun w H => y_load rfl Fsca3 S H rfl rfl) fun a S => ?_
      refine m_w rfl rfl (wn rfl) rfl rfl S (fun w H => y_max rfl S rfl rfl) fun a S => ?_
      refine m_w rfl rfl (wn rfl) rfl rfl S (fun w H => y_nilCheck rfl S rfl) fun a S => ?_
      refine m_w rfl rfl (wn rfl) rfl rfl S (fun w H => y_faddrb rfl Ffo67_5 S rfl) fun a S => ?_
      refine m_l rfl rfl (fun w H => op_store (wn rfl) rfl rfl S H rfl rfl rfl Fsiz3 rfl fun a w S H => m_tail H rfl ?_)
      dsimp only [List.set, Nat.zero_add, Nat.reduceAdd] at H
      refine m_nil (fun w H => ?_)
      refine n_then ?_
      refine g_region ?_
      refine gm S fun a S => ?_
      refine gy rfl rfl rfl S (y_nilCheck rfl S rfl) fun a S => ?_
      refine gy rfl rfl rfl S (y_faddrb rfl Ffo67_2 S rfl) fun a S => ?_
      refine gy rfl rfl rfl S (y_load rfl Fsca64 S H rfl rfl) fun a S => ?_
      refine gy rfl rfl rfl S (y_lens rfl Try.underlying64 S H rfl) fun a S => ?_
      refine ga S fun a S => ?_
      refine gnt ?_
      first
      | (have hown : t = p.term := by simpa using h5
         dsimp only [List.set, Nat.zero_add, Nat.reduceAdd] at H
         rw [show max (p.done : Int) (d : Int) = ((max p.done d : Nat) : Int) by omega] at H
         exact ⟨_, _, _, .inl ⟨hown, rfl, rfl, rfl⟩, (((((S.nil.cons S 12 rfl).cons S 8 rfl).cons S 2 rfl).cons S 1 rfl).cons S 0 rfl), H.takeT [Cel (c.pb j) 67 [.int .i64 p.term, .int .i64 p.vote, v, .bool p.down, .int .i64 0, .int .i64 ((max p.done d : Nat) : Int), (z.p j).vv, (z.p j).aw], OSl 4 (z.p j).vv 1 eB1 (z.p j).vs, OSl 3 (z.p j).aw 1 encI (z.p j).ak, RRest c n g z j, RQs c z, BagA 7 encRM z.mb, BagA 2 Ent.enc z.bag] (RCel c :: RPts c n :: l)⟩)
      | (have hown : t ≠ p.term := by simpa using h5
         exact ⟨_, _, _, .inr ⟨hown, rfl, rfl, rfl⟩, (((((S.nil.cons S 12 rfl).cons S 8 rfl).cons S 2 rfl).cons S 1 rfl).cons S 0 rfl), H.takeT [RPCel (c.pb j) (z.p j) p, OSl 4 (z.p j).vv 1 eB1 (z.p j).vs, OSl 3 (z.p j).aw 1 encI (z.p j).ak, RRest c n g z j, RQs c z, BagA 7 encRM z.mb, BagA 2 Ent.enc z.bag] (RCel c :: RPts c n :: l)⟩)
     ·have h5p := h5; try simp only [DL] at h5p
      refine g_skip ?_
      refine n_then ?_
      first
      | (have hown : t = p.term := by simpa using h5
         dsimp only [List.set, Nat.zero_add, Nat.reduceAdd] at H
         rw [show max (p.done : Int) (d : Int) = ((max p.done d : Nat) : Int) by omega] at H
         exact ⟨_, _, _, .inl ⟨hown, rfl, rfl, rfl⟩, (((((S.nil.cons S 12 rfl).cons S 8 rfl).cons S 2 rfl).cons S 1 rfl).cons S 0 rfl), H.takeT [Cel (c.pb j) 67 [.int .i64 p.term, .int .i64 p.vote, v, .bool p.down, .int .i64 0, .int .i64 ((max p.done d : Nat) : Int), (z.p j).vv, (z.p j).aw], OSl 4 (z.p j).vv 1 eB1 (z.p j).vs, OSl 3 (z.p j).aw 1 encI (z.p j).ak, RRest c n g z j, RQs c z, BagA 7 encRM z.mb, BagA 2 Ent.enc z.bag] (RCel c :: RPts c n :: l)⟩)
      | (have hown : t ≠ p.term := by simpa using h5
         exact ⟨_, _, _, .inr ⟨hown, rfl, rfl, rfl⟩, (((((S.nil.cons S 12 rfl).cons S 8 rfl).cons S 2 rfl).cons S 1 rfl).cons S 0 rfl), H.takeT [RPCel (c.pb j) (z.p j) p, OSl 4 (z.p j).vv 1 eB1 (z.p j).vs, OSl 3 (z.p j).aw 1 encI (z.p j).ak, RRest c n g z j, RQs c z, BagA 7 encRM z.mb, BagA 2 Ent.enc z.bag] (RCel c :: RPts c n :: l)⟩)
    rintro a w ⟨p', x', m, hc, S, H⟩
    simp only [List.cons_append, List.nil_append] at H
    have hp1 : p'.term = p.term ∧ x'.Fits n p' ∧ (x'.lv, p'.log) ∈ z.bag := by
      rcases hc with ⟨_, e1, e2, _⟩ | ⟨_, e1, e2, _⟩
      · rw [e1, e2]; exact ⟨rfl, ⟨(fun h => by cases h), (fun h => by cases h), hpf.t⟩, hv⟩
      · rw [e1, e2]; exact ⟨rfl, hpf, by rw [hpl]; exact hz.lg j hj⟩
    refine g_region ?_
    refine gm S fun a S => ?_
    refine gm S fun a S => ?_
    refine gm S fun a S => ?_
    refine gm S fun a S => ?_
    refine gy rfl rfl rfl S (y_nilCheck rfl S rfl) fun a S => ?_
    refine gy rfl rfl rfl S (y_faddrb rfl Ffo67_0 S rfl) fun a S => ?_
    refine gy rfl rfl rfl S (y_load rfl Fsca3 S H rfl rfl) fun a S => ?_
    refine gm S fun a S => ?_
    refine gy rfl rfl rfl S (y_buildf rfl Fbld76 S rfl (idx := [0, 1, 3]) rfl (cs := [.int .i64 4, .int .i64 p'.term, .int .i64 0, .int .i64 m, .bool false, .slice none 0 0, .int .i64 0]) rfl) fun a S => ?_
    refine wl_of (op_call (wn rfl) rfl rfl S (co_func rfl Try.call41 S rfl) (rsend_spec c n (g.put j p') { z with p := fun v => if v = j then x' else z.p v, bag := z.bag } j i (.ack p'.term m, v) _ (rputIn x' p' (H.takeT [RPCel (c.pb j) x' p', OSl 4 x'.vv 1 eB1 x'.vs, OSl 3 x'.aw 1 encI x'.ak, RRest c n g z j, RQs c z, BagA 7 encRM z.mb, BagA 2 Ent.enc z.bag] (RCel c :: RPts c n :: l)) hz hj hp1.2.1 (fun _ h => h) hp1.2.2) hj hi (fun _ _ _ e => by cases e) rfl (by have := hq i; show (g.q j i).length ≤ _; omega)) fun v w hc a S => ?_)
    obtain ⟨rfl, z', _, H⟩ := hc
    
    refine gl_nil ?_
    refine n_block ?_
    refine ret0n rfl S ?_
    refine ⟨rfl, z', ?_⟩
    unfold Grp.receive
    dsimp only [Msg.term]
    rw [← hp]
    rcases hc with ⟨e0, e1, e2, e3⟩ | ⟨e0, e1, e2, e3⟩
    · rw [if_pos e0]; rw [e1, e3] at H; exact H
    · rw [if_neg e0]; rw [e1, e3] at H; exact H
   ·have h4p := h4; try simp only [DL] at h4p
    all_goals (
      exact absurd h4 (by simp))
end Go.Proofs.Ytbjknckddoegfaa
