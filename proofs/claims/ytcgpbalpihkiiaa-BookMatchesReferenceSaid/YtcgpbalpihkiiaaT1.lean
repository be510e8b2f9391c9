/- The walks. No condition. -/
import Derived.Test.YtcgpbalpihkiiaaChecked
import Derived.Test.YtcgpbalpihkiiaaGwIns
import Derived.Test.YtcgpbalpihkiiaaFacts
import Derived.Test.YtcgpbalpihkiiaaPlain
import Derived.Test.YtcgpbalpihkiiaaPlainC
import Derived.Test.YtcgpbalpihkiiaaW7
import Derived.Test.YtcgpbalpihkiiaaW9
namespace Go.Proofs.Ytcgpbalpihkiiaa
open Go Go.Gw
set_option linter.unusedVariables false
set_option linter.unusedSimpArgs false
def RBA (b : Nat) (r : RB) (vv : Value × Value) : Atom := Bun (RBL b vv.1 vv.2 r)
theorem rplace_at {M : Nat → Prop} {u0 w0 : World} {l : List Atom} {b : Nat} {r : RB} {vv : Value × Value} (o : Ord) (h1 : r.opn.length ≤ 2000) (h2 : r.ids.length ≤ 2000) (ho : o.ok) (h0 : HSat M u0 (RBA b r vv :: l) w0) :
    Ret Try.prog 14 #[.pointer (some ⟨b, 0, none⟩), .agg (Ord.enc o).toArray] w0 (fun u w => u = .tuple #[.agg (Trd.enc (rplaceR r o).1).toArray, .bool (rplaceR r o).2.1, .int .i64 (rplaceR r o).2.2] ∧ ∃ z, HSat M u0 (RBA b (rplaceS r o) z :: l) w) := by
  refine Ret.mono (rplace_spec b vv.1 vv.2 r o w0 h0.unfold ho h1 h2) (fun u w h => ?_)
  obtain ⟨e, vo, vi, H⟩ := h
  exact ⟨e, (vo, vi), HSat.fold (ls := RBL b vo vi (rplaceS r o)) H (RBL_own _ _ _ _)⟩
theorem rcancel_at {M : Nat → Prop} {u0 w0 : World} {l : List Atom} {b : Nat} {r : RB} {vv : Value × Value} (i : Int) (p : ByteArray) (h1 : r.opn.length ≤ 2000) (h0 : HSat M u0 (RBA b r vv :: l) w0) :
    Ret Try.prog 12 #[.pointer (some ⟨b, 0, none⟩), .int .i64 i, .string p] w0 (fun u w => u = .int .i64 (rcancelR r i p) ∧ ∃ z, HSat M u0 (RBA b (rcancelS r i p) z :: l) w) := by
  refine Ret.mono (rcancel_spec b vv.1 vv.2 r i p w0 h0.unfold h1) (fun u w h => ?_)
  obtain ⟨e, vo, H⟩ := h
  exact ⟨e, (vo, vv.2), HSat.fold (ls := RBL b vo vv.2 (rcancelS r i p)) H (RBL_own _ _ _ _)⟩
theorem rorders_at {M : Nat → Prop} {u0 w0 : World} {l : List Atom} {b : Nat} {r : RB} {vv : Value × Value} (h0 : HSat M u0 (RBA b r vv :: l) w0) :
    Ret Try.prog 17 #[.pointer (some ⟨b, 0, none⟩)] w0 (fun u w => u = vv.1 ∧ HSat M u0 (RBA b r vv :: l) w) :=
  Ret.mono (rorders_spec b vv.1 vv.2 r w0 h0.unfold) (fun u w h => ⟨h.1, HSat.fold (ls := RBL b vv.1 vv.2 r) h.2 (RBL_own _ _ _ _)⟩)
theorem rbook_sl {M : Nat → Prop} {u0 w0 : World} {l : List Atom} {b : Nat} {r : RB} {vv : Value × Value} (h0 : HSat M u0 (RBA b r vv :: l) w0) : IsSl w0 vv.1 5 Ord.enc r.opn := by
  have H := h0.unfold
  simp only [RBL, List.cons_append, List.nil_append] at H
  exact H.sl vv.1
theorem rnew_at (w0 : World) : Ret Try.prog 10 #[] w0 (fun u w => ∃ b, u = .pointer (some ⟨b, 0, none⟩) ∧ HSat No w0 [RBA b RB.z (.slice none 0 0, .slice none 0 0)] w) :=
  Ret.mono (rnew_spec w0) (fun u w ⟨b, e, H⟩ => ⟨b, e, HSat.fold (ls := RBL b _ _ RB.z) (by rw [List.append_nil]; exact H) (RBL_own _ _ _ _)⟩)
set_option maxHeartbeats 2000000 in
/-- foyer/foyerlaw33.BookMatchesReference -/
theorem law1 (v : Value) (ps : List Opn) (w0 : World) (hv : IsSl w0 v 6 Opn.enc ps) (hok : ∀ p ∈ ps, p.ok) :
    Ret Try.prog 3 #[v] w0 (fun u w => u = .bool true ∧ Ext w0 w) := by
 refine ret_of_wp (nt := 84) Try.func3 rfl rfl rfl (fl := [(0, v)]) rfl (fun a S => ?_)
 have H := HSat.start w0
 have H := H.ro0 (Sl v 6 Opn.enc ps) rfl (hv)
 have hlv := hv.len
 refine gsr ?_
 refine ga S fun a S => ?_
 refine gnt ?_
 refine gsr ?_
 refine wl_of (op_call (wn rfl) rfl rfl S (co_func rfl Try.call8 S rfl) (head_spec _) fun v w hc a S => ?_)
 obtain ⟨rfl, he⟩ := hc
 have H := H.ext he
 refine ga S fun a S => ?_
 refine gnt ?_
 refine g_seq ?_
 refine gsr ?_
 refine gm S fun a S => ?_
 refine gy rfl rfl rfl S (y_lens rfl Try.underlying22 S H rfl) fun a S => ?_
 refine gy rfl rfl rfl S (y_bin rfl S rfl rfl rfl) fun a S => ?_
 refine gnt ?_
 refine c_if S rfl (fun h1 => ?_) (fun h1 => ?_)
 ·have h1p := h1; try simp only [DL] at h1p
  refine gsr ?_
  refine gm S fun a S => ?_
  refine ga S fun a S => ?_
  refine gnt ?_
  have S := ((S.nil.cons S 0 rfl).cons S 3 rfl).cons S 2 rfl
  refine g_ret ?_
  refine r_then (ret1 rfl S rfl ?_)
  exact ⟨rfl, H.toExt⟩
 ·have h1p := h1; try simp only [DL] at h1p
  refine g_skip ?_
  refine n_then ?_
  have S := ((S.nil.cons S 0 rfl).cons S 2 rfl).cons S 3 rfl
  refine gsr ?_
  refine wl_of (op_call (wn rfl) rfl rfl S (co_func rfl Try.call9 S rfl) (new_at _) fun v w hc a S => ?_)
  obtain ⟨b, mb, rfl, H1⟩ := hc
  obtain ⟨vv0, hvv0⟩ : ∃ vv0, vv0 = ((.slice none 0 0, .slice none 0 0) : Value × Value) := ⟨_, rfl⟩
  rw [← hvv0] at H1
  have H := H.call1 H1 rfl
  refine ga S fun a S => ?_
  refine gnt ?_
  refine gsr ?_
  refine wl_of (op_call (wn rfl) rfl rfl S (co_func rfl Try.call10 S rfl) (rnew_at _) fun v w hc a S => ?_)
  obtain ⟨b2, rfl, H1⟩ := hc
  obtain ⟨vr0, hvr0⟩ : ∃ vr0, vr0 = ((.slice none 0 0, .slice none 0 0) : Value × Value) := ⟨_, rfl⟩
  rw [← hvr0] at H1
  have H := H.call1 H1 rfl
  refine ga S fun a S => ?_
  refine gnt ?_
  refine g_seq ?_
  refine gsr ?_
  refine ga S fun a S => ?_
  refine gnt ?_
  refine g_block ?_
  have SU := (((S.nil.cons S 0 rfl).cons S 3 rfl).cons S 4 rfl).cons S 5 rfl
  refine loopW (X := Nat × (Value × Value) × (Value × Value)) SU (fun x => [(6, .int .i64 (x.1 : Int))]) (fun x w => x.1 ≤ ps.length ∧ Sim (runs Bk.z (ps.take x.1)) (rruns RB.z (ps.take x.1)) ∧ HSat No w0 [BookA b mb (runs Bk.z (ps.take x.1)) x.2.1, RBA b2 (rruns RB.z (ps.take x.1)) x.2.2, Sl v 6 Opn.enc ps] w) (fun x => ps.length - x.1) (0, vv0, vr0) (S.nil.cons S 6 rfl) (⟨Nat.zero_le _, sim_z, H.take [BookA b mb (Bk.z) vv0, RBA b2 (RB.z) vr0, Sl v 6 Opn.enc ps]⟩) (fun x a w S hW => ?_)
  simp only [List.cons_append, List.nil_append] at S
  clear H
  obtain ⟨k, vv, vr⟩ := x
  obtain ⟨hk, hS, H⟩ := hW
  dsimp only at S H hk hS
  have hI := (inv_runs inv_z (ps.take k)).mono (N' := 500) (by rw [List.length_take]; omega)
  have hid := ids_runs (s := Bk.z) (ps.take k)
  have hsl := hS.len
  have hln := hS.lens
  have hil := hI.len
  obtain ⟨s, hs⟩ : ∃ s, s = runs Bk.z (ps.take k) := ⟨_, rfl⟩
  obtain ⟨r, hr⟩ : ∃ r, r = rruns RB.z (ps.take k) := ⟨_, rfl⟩
  rw [← hs] at H hS hI hid hsl hln hil
  rw [← hr] at H hS hsl hln
  have hid2 : s.ids.length ≤ 60 := by have : (ps.take k).length ≤ k := by rw [List.length_take]; omega
                                      simp only [Bk.z, List.length_nil] at hid; omega
  refine g_seq ?_
  refine gsr ?_
  refine gm S fun a S => ?_
  refine gm S fun a S => ?_
  refine gy rfl rfl rfl S (y_lens rfl Try.underlying22 S H rfl) fun a S => ?_
  refine gy rfl rfl rfl S (y_bin rfl S rfl rfl rfl) fun a S => ?_
  refine gnt ?_
  refine c_if S rfl (fun h2 => ?_) (fun h2 => ?_)
  ·have h2p := h2; try simp only [DL] at h2p
   have hkl : k < ps.length := by omega
   refine g_skip ?_
   refine n_then ?_
   have S := ((((S.nil.cons S 0 rfl).cons S 3 rfl).cons S 4 rfl).cons S 5 rfl).cons S 6 rfl
   refine g_seq ?_
   refine g_block ?_
   refine gsr ?_
   refine gm S fun a S => ?_
   refine gm S fun a S => ?_
   refine gy rfl rfl rfl S (y_iaddrn rfl Try.underlying22 Fsiz31 S H rfl rfl (by first | assumption | omega | (simp only [LL]; omega))) fun a S => ?_
   refine gy rfl rfl rfl S (y_faddr rfl Ffo31_1 S rfl) fun a S => ?_
   refine gy rfl rfl rfl S (y_loadsfa v rfl S H rfl (vs := Ord.enc ps[k].ord) (by exact Fagg29) (by omega) rfl) fun a S => ?_
   obtain ⟨o, hoe⟩ : ∃ o, o = ps[k].ord := ⟨_, rfl⟩
   rw [← hoe] at S
   have hoo : o.ok := by rw [hoe]; exact hok _ (List.getElem_mem hkl)
   refine wl_of (op_alloc (wn rfl) rfl rfl rfl S H Fzer29 fun b7 a w S H => ?_)
   refine wl_of (op_storea (wn rfl) rfl rfl S H rfl rfl rfl Fsiz29 rfl (cs' := [_, _, _, _, _]) rfl fun a w S H => ?_)
   refine gnt ?_
   have S := (((((S.nil.cons S 0 rfl).cons S 3 rfl).cons S 4 rfl).cons S 5 rfl).cons S 6 rfl).cons S 7 rfl
   refine g_seq ?_
   refine gsr ?_
   refine gm S fun a S => ?_
   refine gm S fun a S => ?_
   refine gy rfl rfl rfl S (y_iaddrn rfl Try.underlying22 Fsiz31 S H rfl rfl (by first | assumption | omega | (simp only [LL]; omega))) fun a S => ?_
   refine gy rfl rfl rfl S (y_faddr rfl Ffo31_0 S rfl) fun a S => ?_
   refine gy rfl rfl rfl S (y_loadsf _ rfl Fsca4 S H rfl (by first | assumption | omega | (simp only [LL]; omega)) rfl) fun a S => ?_
   refine gnt ?_
   have S := ((((((S.nil.cons S 0 rfl).cons S 3 rfl).cons S 4 rfl).cons S 5 rfl).cons S 6 rfl).cons S 7 rfl).cons S 36 rfl
   refine c_if S rfl (fun h3 => ?_) (fun h3 => ?_)
   ·have h3p := h3; try simp only [DL] at h3p
    have H := (H.front (Cel b7 29 [.int .i64 o.id, .int .i64 o.price, .bool o.sell, .string o.person, .int .i64 o.serial])).freeze
    have hsim := sim_cancel hS o.id o.person
    have hst : stepB s ps[k] = cancelS s o.id o.person := by rw [stepB, if_pos h3, hoe]
    have hrt : rstepB r ps[k] = rcancelS r o.id o.person := by rw [rstepB, if_pos h3, hoe]
    refine g_seq ?_
    refine region_st (loud := [5, 11]) (tails := [5, 11]) (free := [6, 7, 8, 9, 10]) [0, 1, 2, 3, 4, 6, 7, 8, 9, 10, 5, 11, 12] [Atom.ro (Cel b7 29 [.int .i64 o.id, .int .i64 o.price, .bool o.sell, .string o.person, .int .i64 o.serial])] Fmo (by kernel_rfl) (by kernel_rfl) rfl H ?_
    refine m_w rfl rfl (wn rfl) rfl rfl S (fun w H => y_move rfl S rfl) fun a S => ?_
    refine m_w rfl rfl (wn rfl) rfl rfl S (fun w H => y_faddrb rfl Ffo29_0 S rfl) fun a S => ?_
    refine m_w rfl rfl (wn rfl) rfl rfl S (fun w H => y_load rfl Fsca3 S H rfl rfl) fun a S => ?_
    refine m_w rfl rfl (wn rfl) rfl rfl S (fun w H => y_faddrb rfl Ffo29_3 S rfl) fun a S => ?_
    refine m_w rfl rfl (wn rfl) rfl rfl S (fun w H => y_load rfl Fsca9 S H rfl rfl) fun a S => ?_
    refine m_f rfl rfl (wn rfl) rfl rfl S (fun w H => y_move rfl S rfl) fun a S => ?_
    refine m_f rfl rfl (wn rfl) rfl rfl S (fun w H => y_faddrb rfl Ffo29_0 S rfl) fun a S => ?_
    refine m_f rfl rfl (wn rfl) rfl rfl S (fun w H => y_load rfl Fsca3 S H rfl rfl) fun a S => ?_
    refine m_f rfl rfl (wn rfl) rfl rfl S (fun w H => y_faddrb rfl Ffo29_3 S rfl) fun a S => ?_
    refine m_f rfl rfl (wn rfl) rfl rfl S (fun w H => y_load rfl Fsca9 S H rfl rfl) fun a S => ?_
    refine m_l rfl rfl (fun w H => op_call (wn rfl) rfl rfl S (co_func rfl Try.call11 S rfl) (Ret.atE (x := BookA b mb (s) vv) H (fun H => cancel_at o.id o.person hI (by omega) H)) fun v w hc a S => ?_)
    obtain ⟨rfl, vv1, H⟩ := hc
    
    refine m_tail H rfl ?_
    refine m_l rfl rfl (fun w H => op_call (wn rfl) rfl rfl S (co_func rfl Try.call12 S rfl) (Ret.atE (x := RBA b2 (r) vr) H (fun H => rcancel_at o.id o.person (by omega) H)) fun v w hc a S => ?_)
    obtain ⟨rfl, vr1, H⟩ := hc
    
    refine m_tail H rfl ?_
    refine m_w rfl rfl (wn rfl) rfl rfl S (fun w H => y_bin rfl S rfl rfl rfl) fun a S => ?_
    refine m_nil (fun w H => ?_)
    refine n_then ?_
    have S := (((((S.nil.cons S 0 rfl).cons S 3 rfl).cons S 4 rfl).cons S 5 rfl).cons S 6 rfl).cons S 49 rfl
    refine c_if S rfl (fun h4 => ?_) (fun h4 => ?_)
    ·have h4p := h4; try simp only [DL] at h4p
     all_goals (
       rw [hsim.1] at h4; simp at h4)
    ·have h4p := h4; try simp only [DL] at h4p
     have hS2 := hsim.2
     rw [← hst, ← hrt] at H hS2
     have hI2 := (inv_step hI ps[k])
     obtain ⟨s2, hs2⟩ : ∃ s2, s2 = stepB s ps[k] := ⟨_, rfl⟩
     obtain ⟨r2, hr2⟩ : ∃ r2, r2 = rstepB r ps[k] := ⟨_, rfl⟩
     rw [← hs2] at H hS2 hI2
     rw [← hr2] at H hS2
     refine g_skip ?_
     refine n_then ?_
     refine gsr ?_
     refine gm S fun a S => ?_
     refine wl_of (op_call (wn rfl) rfl rfl S (co_func rfl Try.call16 S rfl) (orders_at hI2 (by omega) (H.front (BookA b mb (s2) vv1))) fun u78 w hc a S => ?_)
     have H1 := hc
     have H := H.call1 H1 rfl
     refine gm S fun a S => ?_
     refine wl_of (op_call (wn rfl) rfl rfl S (co_func rfl Try.call17 S rfl) (Ret.at_ (x := RBA b2 (r2) vr1) H (fun H => rorders_at H)) fun v w hc a S => ?_)
     obtain ⟨rfl, H⟩ := hc
     
     refine wl_of (op_call (wn rfl) rfl rfl S (co_func rfl Try.call15 S rfl) (same_spec u78 vr1.1 (s2.offers ++ s2.bids) r2.opn _ (H.sl u78) (rbook_sl (H.front (RBA b2 (r2) vr1)))) fun v w hc a S => ?_)
     obtain ⟨rfl, he⟩ := hc
     have H := H.ext he
     refine gy rfl rfl rfl S (y_not rfl S rfl) fun a S => ?_
     refine gnt ?_
     have S := (((((S.nil.cons S 0 rfl).cons S 3 rfl).cons S 4 rfl).cons S 5 rfl).cons S 6 rfl).cons S 82 rfl
     refine c_if S rfl (fun h5 => ?_) (fun h5 => ?_)
     ·have h5p := h5; try simp only [DL] at h5p
      all_goals (
        rw [hS2.opn] at h5; simp at h5)
     ·have h5p := h5; try simp only [DL] at h5p
      refine g_skip ?_
      refine n_block ?_
      refine n_then ?_
      refine g_region ?_
      refine gm S fun a S => ?_
      refine gy rfl rfl rfl S (y_add rfl S rfl rfl (by omega)) fun a S => ?_
      refine ga S fun a S => ?_
      refine gnt ?_
      exact ⟨(k + 1, vv1, vr1), S.nil.cons S 6 rfl, (((S.nil.cons S 0 rfl).cons S 3 rfl).cons S 4 rfl).cons S 5 rfl, ⟨by dsimp only; omega, by dsimp only; rw [runs_take hkl, rruns_take hkl, ← hs, ← hr, ← hs2, ← hr2]; exact hS2, by dsimp only; rw [runs_take hkl, rruns_take hkl, ← hs, ← hr, ← hs2, ← hr2]; exact H.take [BookA b mb (s2) vv1, RBA b2 (r2) vr1, Sl v 6 Opn.enc ps]⟩, by dsimp only; omega⟩
   ·have h3p := h3; try simp only [DL] at h3p
    have hsim := sim_place hI hS o
    have hst : stepB s ps[k] = placeS s o := by rw [stepB, if_neg (by rw [show ps[k].cancel = false from h3]; simp), hoe]
    have hrt : rstepB r ps[k] = rplaceS r o := by rw [rstepB, if_neg (by rw [show ps[k].cancel = false from h3]; simp), hoe]
    refine gsr ?_
    refine gm S fun a S => ?_
    refine gy rfl rfl rfl S (y_load0 rfl S H rfl (by exact Fagg29)) fun a S => ?_
    refine wl_of (op_call (wn rfl) rfl rfl S (co_func rfl Try.call13 S rfl) (Ret.atE (x := BookA b mb (s) vv) H (fun H => place_at o hI (by omega) hoo H)) fun v w hc a S => ?_)
    obtain ⟨rfl, vv1, H⟩ := hc
    
    refine gm S fun a S => ?_
    refine gy rfl rfl rfl S (y_extract rfl S rfl rfl) fun a S => ?_
    refine gy rfl rfl rfl S (y_extract rfl S rfl rfl) fun a S => ?_
    refine gy rfl rfl rfl S (y_extract rfl S rfl rfl) fun a S => ?_
    refine wl_of (op_alloc (wn rfl) rfl rfl rfl S H Fzer35 fun b8 a w S H => ?_)
    refine wl_of (op_storea (wn rfl) rfl rfl S H rfl rfl rfl Fsiz35 rfl (cs' := [_, _, _]) rfl fun a w S H => ?_)
    refine ga S fun a S => ?_
    refine ga S fun a S => ?_
    refine gnt ?_
    have S := ((((((((S.nil.cons S 0 rfl).cons S 3 rfl).cons S 4 rfl).cons S 5 rfl).cons S 6 rfl).cons S 7 rfl).cons S 8 rfl).cons S 9 rfl).cons S 10 rfl
    refine gsr ?_
    refine gm S fun a S => ?_
    refine gy rfl rfl rfl S (y_load0 rfl S H rfl (by exact Fagg29)) fun a S => ?_
    refine wl_of (op_call (wn rfl) rfl rfl S (co_func rfl Try.call14 S rfl) (Ret.atE (x := RBA b2 (r) vr) H (fun H => rplace_at o (by omega) (by omega) hoo H)) fun v w hc a S => ?_)
    obtain ⟨rfl, vr1, H⟩ := hc
    
    refine gm S fun a S => ?_
    refine gy rfl rfl rfl S (y_extract rfl S rfl rfl) fun a S => ?_
    refine gy rfl rfl rfl S (y_extract rfl S rfl rfl) fun a S => ?_
    refine gy rfl rfl rfl S (y_extract rfl S rfl rfl) fun a S => ?_
    refine wl_of (op_alloc (wn rfl) rfl rfl rfl S H Fzer35 fun b11 a w S H => ?_)
    refine wl_of (op_storea (wn rfl) rfl rfl S H rfl rfl rfl Fsiz35 rfl (cs' := [_, _, _]) rfl fun a w S H => ?_)
    refine ga S fun a S => ?_
    refine ga S fun a S => ?_
    refine gnt ?_
    have S := ((((((((((S.nil.cons S 0 rfl).cons S 3 rfl).cons S 4 rfl).cons S 5 rfl).cons S 6 rfl).cons S 8 rfl).cons S 9 rfl).cons S 10 rfl).cons S 11 rfl).cons S 12 rfl).cons S 13 rfl
    refine gsr ?_
    refine gy rfl rfl rfl S (y_load0 rfl S H rfl (by exact Fagg35)) fun a S => ?_
    refine gy rfl rfl rfl S (y_load0 rfl S H rfl (by exact Fagg35)) fun a S => ?_
    refine gy rfl rfl rfl S (y_nea (trdEq (placeR s o).1 (rplaceR r o).1) rfl Feqg35 S rfl rfl) fun a S => ?_
    refine gm S fun a S => ?_
    refine' wl_or 3 67 rfl S H rfl rfl rfl rfl rfl rfl rfl (fun _ S => (wn rfl)) (fun h6 kk => ?yh6) (fun a w S H => ?_)
    case yh6 =>
     have h6p := h6; try simp only [DL] at h6p
     refine gz 67 h6 S rfl rfl rfl rfl rfl rfl (y_move rfl S rfl) fun a S => ?_
     refine gz 67 h6 S rfl rfl rfl rfl rfl rfl (y_move rfl S rfl) fun a S => ?_
     refine gz 67 h6 S rfl rfl rfl rfl rfl rfl (y_neb rfl Try.underlying4 S rfl rfl) fun a S => ?_
     refine gy rfl rfl rfl S (y_or' rfl h6 S rfl rfl) fun a S => ?_
     exact kk _ _ (S.join 4 71 rfl rfl) H
    refine gm S fun a S => ?_
    refine' wl_or 3 72 rfl S H rfl rfl rfl rfl rfl rfl rfl (fun _ S => (wn rfl)) (fun h7 kk => ?yh7) (fun a w S H => ?_)
    case yh7 =>
     have h7p := h7; try simp only [DL] at h7p
     refine gz 72 h7 S rfl rfl rfl rfl rfl rfl (y_move rfl S rfl) fun a S => ?_
     refine gz 72 h7 S rfl rfl rfl rfl rfl rfl (y_move rfl S rfl) fun a S => ?_
     refine gz 72 h7 S rfl rfl rfl rfl rfl rfl (y_bin rfl S rfl rfl rfl) fun a S => ?_
     refine gy rfl rfl rfl S (y_or' rfl h7 S rfl rfl) fun a S => ?_
     exact kk _ _ (S.join 4 76 rfl rfl) H
    refine gnt ?_
    have S := (((((S.nil.cons S 0 rfl).cons S 3 rfl).cons S 4 rfl).cons S 5 rfl).cons S 6 rfl).cons S 76 rfl
    refine c_if S rfl (fun h8 => ?_) (fun h8 => ?_)
    ·have h8p := h8; try simp only [DL] at h8p
     all_goals (
       rw [hsim.1] at h8; simp at h8)
    ·have h8p := h8; try simp only [DL] at h8p
     have hS2 := hsim.2
     rw [← hst, ← hrt] at H hS2
     have hI2 := (inv_step hI ps[k])
     obtain ⟨s2, hs2⟩ : ∃ s2, s2 = stepB s ps[k] := ⟨_, rfl⟩
     obtain ⟨r2, hr2⟩ : ∃ r2, r2 = rstepB r ps[k] := ⟨_, rfl⟩
     rw [← hs2] at H hS2 hI2
     rw [← hr2] at H hS2
     refine g_skip ?_
     refine n_then ?_
     refine gsr ?_
     refine gm S fun a S => ?_
     refine wl_of (op_call (wn rfl) rfl rfl S (co_func rfl Try.call16 S rfl) (orders_at hI2 (by omega) (H.front (BookA b mb (s2) vv1))) fun u78 w hc a S => ?_)
     have H1 := hc
     have H := H.call1 H1 rfl
     refine gm S fun a S => ?_
     refine wl_of (op_call (wn rfl) rfl rfl S (co_func rfl Try.call17 S rfl) (Ret.at_ (x := RBA b2 (r2) vr1) H (fun H => rorders_at H)) fun v w hc a S => ?_)
     obtain ⟨rfl, H⟩ := hc
     
     refine wl_of (op_call (wn rfl) rfl rfl S (co_func rfl Try.call15 S rfl) (same_spec u78 vr1.1 (s2.offers ++ s2.bids) r2.opn _ (H.sl u78) (rbook_sl (H.front (RBA b2 (r2) vr1)))) fun v w hc a S => ?_)
     obtain ⟨rfl, he⟩ := hc
     have H := H.ext he
     refine gy rfl rfl rfl S (y_not rfl S rfl) fun a S => ?_
     refine gnt ?_
     have S := (((((S.nil.cons S 0 rfl).cons S 3 rfl).cons S 4 rfl).cons S 5 rfl).cons S 6 rfl).cons S 82 rfl
     refine c_if S rfl (fun h9 => ?_) (fun h9 => ?_)
     ·have h9p := h9; try simp only [DL] at h9p
      all_goals (
        rw [hS2.opn] at h9; simp at h9)
     ·have h9p := h9; try simp only [DL] at h9p
      refine g_skip ?_
      refine n_block ?_
      refine n_then ?_
      refine g_region ?_
      refine gm S fun a S => ?_
      refine gy rfl rfl rfl S (y_add rfl S rfl rfl (by omega)) fun a S => ?_
      refine ga S fun a S => ?_
      refine gnt ?_
      exact ⟨(k + 1, vv1, vr1), S.nil.cons S 6 rfl, (((S.nil.cons S 0 rfl).cons S 3 rfl).cons S 4 rfl).cons S 5 rfl, ⟨by dsimp only; omega, by dsimp only; rw [runs_take hkl, rruns_take hkl, ← hs, ← hr, ← hs2, ← hr2]; exact hS2, by dsimp only; rw [runs_take hkl, rruns_take hkl, ← hs, ← hr, ← hs2, ← hr2]; exact H.take [BookA b mb (s2) vv1, RBA b2 (r2) vr1, Sl v 6 Opn.enc ps]⟩, by dsimp only; omega⟩
  ·have h2p := h2; try simp only [DL] at h2p
   refine g_exit ?_
   refine x_then (x_then (x_eq ?_))
   refine n_then ?_
   have S := S.nil.cons S 3 rfl
   refine gsr ?_
   refine gm S fun a S => ?_
   refine ga S fun a S => ?_
   refine gnt ?_
   refine g_ret ?_
   refine ret1 rfl S rfl ?_
   exact ⟨rfl, H.toExt⟩
end Go.Proofs.Ytcgpbalpihkiiaa
