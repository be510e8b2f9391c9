/- The walks. No condition. -/
import Derived.Test.YtbjknckddoegfaaChecked
import Derived.Test.YtbjknckddoegfaaGwFam
import Derived.Test.YtbjknckddoegfaaFacts
import Derived.Test.YtbjknckddoegfaaPlainO
import Derived.Test.YtbjknckddoegfaaW9
namespace Go.Proofs.Ytbjknckddoegfaa
open Go Go.Gw
set_option linter.unusedVariables false
set_option linter.unusedSimpArgs false
/-- foyer/foyerlaw48.size -/
theorem size_spec (x : Nat) (w0 : World) (hx : x < 256) :
    Ret Try.prog 9 #[.int .u8 (x : Int)] w0 (fun u w => u = .int .i64 ((1 + x % 7 : Nat) : Int) ∧ Ext w0 w) := by
 refine ret_of_wp (nt := 7) Try.func9 rfl rfl rfl (fl := [(0, .int .u8 (x : Int))]) rfl (fun a S => ?_)
 have H := HSat.start w0
 refine gsr ?_
 refine ga S fun a S => ?_
 refine gnt ?_
 refine gsr ?_
 refine gm S fun a S => ?_
 refine gy rfl rfl rfl S (y_conv rfl Try.underlying5 Try.underlying3 S rfl (by omega)) fun a S => ?_
 refine gy rfl rfl rfl S (y_remn rfl S rfl rfl (by omega) (by omega)) fun a S => ?_
 refine gy rfl rfl rfl S (y_add rfl S rfl rfl (by omega)) fun a S => ?_
 refine ga S fun a S => ?_
 refine gnt ?_
 have S := S.nil.cons S 2 rfl
 refine g_ret ?_
 refine ret1 rfl S rfl ?_
 exact ⟨congrArg (Value.int .i64) (by omega), H.toExt⟩
set_option maxHeartbeats 1000000 in
/-- foyer/foyerlaw48.do -/
theorem do_spec {M : Nat → Prop} {u0 : World} {l : List Atom} (c : GC) (n : Nat) (g : Grp) (z : GV) (x : OpR) (w0 : World) (h0 : HSat M u0 (GrpA c n g z :: GCel c :: GPts c n :: l) w0) (hF : Fit g) (hx : x.ok) (hn : 0 < n) :
    Ret Try.prog 23 #[.pointer (some ⟨c.b, 0, none⟩), .int .i64 (n : Int), .agg (OpR.enc x).toArray] w0 (fun u w => u = .int .i64 (saidZ g x) ∧ ∃ z', HSat M u0 (GrpA c n (g.do_ n x) z' :: GCel c :: GPts c n :: l) w) := by
 refine ret_of_wp (nt := 63) Try.func23 rfl rfl rfl (fl := [(0, .pointer (some ⟨c.b, 0, none⟩)), (1, .int .i64 (n : Int)), (2, .agg (OpR.enc x).toArray)]) rfl (fun a S => ?_)
 have H := h0
 have hz := (grpOut h0).2
 have hn7 := hz.n7
 have hxk := hx.k
 have hxa := hx.a
 have hxb := hx.b
 have hd : x.kind % 6 < 6 := Nat.mod_lt _ (by decide)
 refine gsr ?_
 refine wl_of (op_boxa (wn rfl) rfl rfl rfl S H rfl fun b5 a w S H => ?_)
 refine ga S fun a S => ?_
 refine gnt ?_
 refine g_seq ?_
 refine region_st (loud := []) (tails := []) (free := []) [0, 1, 2, 3, 4, 5, 6, 7, 8, 9, 10, 11] [] Fmo (by kernel_rfl) (by kernel_rfl) rfl H ?_
 refine m_w rfl rfl (wn rfl) rfl rfl S (fun w H => y_faddrb rfl Ffo33_1 S rfl) fun a S => ?_
 refine m_w rfl rfl (wn rfl) rfl rfl S (fun w H => y_load rfl Fsca5 S H rfl rfl) fun a S => ?_
 refine m_w rfl rfl (wn rfl) rfl rfl S (fun w H => y_conv rfl Try.underlying5 Try.underlying3 S rfl (by omega)) fun a S => ?_
 refine m_w rfl rfl (wn rfl) rfl rfl S (fun w H => y_move rfl S rfl) fun a S => ?_
 refine m_w rfl rfl (wn rfl) rfl rfl S (fun w H => (y_remN (m := x.a) (q := n) rfl S rfl rfl hn)) fun a S => ?_
 refine m_w rfl rfl (wn rfl) rfl rfl S (fun w H => y_faddrb rfl Ffo33_2 S rfl) fun a S => ?_
 refine m_w rfl rfl (wn rfl) rfl rfl S (fun w H => y_load rfl Fsca5 S H rfl rfl) fun a S => ?_
 refine m_w rfl rfl (wn rfl) rfl rfl S (fun w H => y_conv rfl Try.underlying5 Try.underlying3 S rfl (by omega)) fun a S => ?_
 refine m_w rfl rfl (wn rfl) rfl rfl S (fun w H => y_move rfl S rfl) fun a S => ?_
 refine m_w rfl rfl (wn rfl) rfl rfl S (fun w H => (y_remN (m := x.b) (q := n) rfl S rfl rfl hn)) fun a S => ?_
 refine m_w rfl rfl (wn rfl) rfl rfl S (fun w H => y_assign rfl S rfl) fun a S => ?_
 refine m_w rfl rfl (wn rfl) rfl rfl S (fun w H => y_assign rfl S rfl) fun a S => ?_
 refine m_nil (fun w H => ?_)
 refine n_then ?_
 have S := ((((S.nil.cons S 0 rfl).cons S 5 rfl).cons S 6 rfl).cons S 7 rfl).cons S 8 rfl
 refine g_seq ?_
 refine gsr ?_
 refine gy rfl rfl rfl S (y_faddrb rfl Ffo33_0 S rfl) fun a S => ?_
 refine gy rfl rfl rfl S (y_load rfl Fsca5 S H rfl rfl) fun a S => ?_
 refine gy rfl rfl rfl S ((y_remN (m := x.kind) (q := 6) rfl S rfl rfl (by decide))) fun a S => ?_
 refine gnt ?_
 refine g_block ?_
 refine gsr ?_
 refine gy rfl rfl rfl S (y_bin rfl S rfl rfl rfl) fun a S => ?_
 refine ga S fun a S => ?_
 refine gnt ?_
 refine c_if S rfl (fun h1 => ?_) (fun h1 => ?_)
 ·have h1p := h1; try simp only [DL] at h1p
  have hk : x.kind % 6 = 0 := by simp at h1; omega
  refine g_region ?_
  refine gm S fun a S => ?_
  refine gm S fun a S => ?_
  refine gm S fun a S => ?_
  refine wl_of (op_call (wn rfl) rfl rfl S (co_func rfl Try.call12 S rfl) (deliver_spec c n g z (x.a % n) (x.b % n) false _ (H.takeT [GrpA c n g z, GCel c, GPts c n] (Cel b5 33 (OpR.enc x) :: l)) hF) fun v w hc a S => ?_)
  obtain ⟨rfl, z1, H⟩ := hc
  simp only [List.append_eq, List.nil_append] at H
  refine gl_nil ?_
  refine n_block ?_
  refine n_then ?_
  have S := S.nil.cons S 6 rfl
  refine gsr ?_
  refine ga S fun a S => ?_
  refine gnt ?_
  refine g_ret ?_
  refine ret1 rfl S rfl ?_
  exact ⟨by unfold saidZ Grp.said; rw [if_neg (by omega)], z1, by unfold Grp.do_ Grp.act; rw [hk]; exact H.takeT [GrpA c n ((g.deliver (x.a % n) (x.b % n) false).1) z1, GCel c, GPts c n] l⟩
 ·have h1p := h1; try simp only [DL] at h1p
  have hk0 : x.kind % 6 ≠ 0 := by simp at h1; omega
  refine gsr ?_
  refine gy rfl rfl rfl S (y_bin rfl S rfl rfl rfl) fun a S => ?_
  refine ga S fun a S => ?_
  refine gnt ?_
  have S := ((((((S.nil.cons S 0 rfl).cons S 5 rfl).cons S 6 rfl).cons S 7 rfl).cons S 8 rfl).cons S 23 rfl).cons S 30 rfl
  refine c_if S rfl (fun h2 => ?_) (fun h2 => ?_)
  ·have h2p := h2; try simp only [DL] at h2p
   have hk : x.kind % 6 = 1 := by simp at h2; omega
   refine g_region ?_
   refine gm S fun a S => ?_
   refine gm S fun a S => ?_
   refine gm S fun a S => ?_
   refine wl_of (op_call (wn rfl) rfl rfl S (co_func rfl Try.call12 S rfl) (deliver_spec c n g z (x.a % n) (x.b % n) true _ (H.takeT [GrpA c n g z, GCel c, GPts c n] (Cel b5 33 (OpR.enc x) :: l)) hF) fun v w hc a S => ?_)
   obtain ⟨rfl, z1, H⟩ := hc
   simp only [List.append_eq, List.nil_append] at H
   refine gl_nil ?_
   refine n_block ?_
   refine n_then ?_
   have S := S.nil.cons S 6 rfl
   refine gsr ?_
   refine ga S fun a S => ?_
   refine gnt ?_
   refine g_ret ?_
   refine ret1 rfl S rfl ?_
   exact ⟨by unfold saidZ Grp.said; rw [if_neg (by omega)], z1, by unfold Grp.do_ Grp.act; rw [hk]; exact H.takeT [GrpA c n ((g.deliver (x.a % n) (x.b % n) true).1) z1, GCel c, GPts c n] l⟩
  ·have h2p := h2; try simp only [DL] at h2p
   have hk1 : x.kind % 6 ≠ 1 := by simp at h2; omega
   refine gsr ?_
   refine gy rfl rfl rfl S (y_bin rfl S rfl rfl rfl) fun a S => ?_
   refine ga S fun a S => ?_
   refine gnt ?_
   refine c_if S rfl (fun h3 => ?_) (fun h3 => ?_)
   ·have h3p := h3; try simp only [DL] at h3p
    have hk : x.kind % 6 = 2 := by simp at h3; omega
    refine g_region ?_
    refine gm S fun a S => ?_
    refine gm S fun a S => ?_
    refine wl_of (op_call (wn rfl) rfl rfl S (co_func rfl Try.call14 S rfl) (elect_spec c n g z (x.a % n) _ (H.takeT [GrpA c n g z, GCel c, GPts c n] (Cel b5 33 (OpR.enc x) :: l)) hF) fun v w hc a S => ?_)
    obtain ⟨rfl, z1, H⟩ := hc
    simp only [List.append_eq, List.nil_append] at H
    refine gl_nil ?_
    refine n_block ?_
    refine n_then ?_
    have S := S.nil.cons S 6 rfl
    refine gsr ?_
    refine ga S fun a S => ?_
    refine gnt ?_
    refine g_ret ?_
    refine ret1 rfl S rfl ?_
    exact ⟨by unfold saidZ Grp.said; rw [if_neg (by omega)], z1, by unfold Grp.do_ Grp.act; rw [hk]; exact H.takeT [GrpA c n (g.elect (x.a % n)) z1, GCel c, GPts c n] l⟩
   ·have h3p := h3; try simp only [DL] at h3p
    have hk2 : x.kind % 6 ≠ 2 := by simp at h3; omega
    refine gsr ?_
    refine gy rfl rfl rfl S (y_bin rfl S rfl rfl rfl) fun a S => ?_
    refine ga S fun a S => ?_
    refine gnt ?_
    have S := (((((S.nil.cons S 0 rfl).cons S 5 rfl).cons S 6 rfl).cons S 7 rfl).cons S 23 rfl).cons S 41 rfl
    refine c_if S rfl (fun h4 => ?_) (fun h4 => ?_)
    ·have h4p := h4; try simp only [DL] at h4p
     have hk : x.kind % 6 = 3 := by simp at h4; omega
     refine gsr ?_
     refine gm S fun a S => ?_
     refine gy rfl rfl rfl S (y_faddrb rfl Ffo33_3 S rfl) fun a S => ?_
     refine gy rfl rfl rfl S (y_load rfl Fsca9 S H rfl rfl) fun a S => ?_
     refine wl_of (op_call (wn rfl) rfl rfl S (co_func rfl Try.call16 S rfl) (propose_spec c n g z x.txt _ (H.takeT [GrpA c n g z, GCel c, GPts c n] (Cel b5 33 (OpR.enc x) :: l)) hF) fun v w hc a S => ?_)
     obtain ⟨rfl, z1, H⟩ := hc
     simp only [List.append_eq, List.nil_append] at H
     refine gm S fun a S => ?_
     refine gy rfl rfl rfl S (y_extract rfl S rfl rfl) fun a S => ?_
     refine gy rfl rfl rfl S (y_extract rfl S rfl rfl) fun a S => ?_
     refine ga S fun a S => ?_
     refine ga S fun a S => ?_
     refine gnt ?_
     have S := ((S.nil.cons S 6 rfl).cons S 9 rfl).cons S 10 rfl
     refine gsr ?_
     refine gm S fun a S => ?_
     refine gy rfl rfl rfl S (y_bin rfl S rfl rfl rfl) fun a S => ?_
     refine gnt ?_
     refine c_if S rfl (fun h5 => ?_) (fun h5 => ?_)
     ·have h5p := h5; try simp only [DL] at h5p
      have he := (propX_ok (g := g) (r := x.txt)).1 (by simpa using h5)
      obtain ⟨i, he1, he2, he3⟩ := he
      refine gsr ?_
      refine gm S fun a S => ?_
      refine ga S fun a S => ?_
      refine gnt ?_
      have S := S.nil.cons S 6 rfl
      refine g_ret ?_
      refine r_block (r_then (ret1 rfl S rfl ?_))
      exact ⟨by unfold saidZ Grp.said; rw [if_pos hk, he3]; exact congrArg _ he2, z1, by unfold Grp.do_ Grp.act; rw [hk]; exact H.takeT [GrpA c n (g.propose x.txt) z1, GCel c, GPts c n] l⟩
     ·have h5p := h5; try simp only [DL] at h5p
      have he := (propX_ok (g := g) (r := x.txt)).2 (by simpa using h5)
      refine g_skip ?_
      refine n_block ?_
      refine n_then ?_
      have S := S.nil.cons S 6 rfl
      refine gsr ?_
      refine ga S fun a S => ?_
      refine gnt ?_
      refine g_ret ?_
      refine ret1 rfl S rfl ?_
      exact ⟨by unfold saidZ Grp.said; rw [if_pos hk, he.2], z1, by unfold Grp.do_ Grp.act; rw [hk]; exact H.takeT [GrpA c n (g.propose x.txt) z1, GCel c, GPts c n] l⟩
    ·have h4p := h4; try simp only [DL] at h4p
     have hk3 : x.kind % 6 ≠ 3 := by simp at h4; omega
     refine gsr ?_
     refine gy rfl rfl rfl S (y_bin rfl S rfl rfl rfl) fun a S => ?_
     refine ga S fun a S => ?_
     refine gnt ?_
     refine c_if S rfl (fun h6 => ?_) (fun h6 => ?_)
     ·have h6p := h6; try simp only [DL] at h6p
      have hk : x.kind % 6 = 4 := by simp at h6; omega
      refine g_region ?_
      refine gm S fun a S => ?_
      refine gm S fun a S => ?_
      refine wl_of (op_call (wn rfl) rfl rfl S (co_func rfl Try.call18 S rfl) (crash_spec c n g z (x.a % n) true _ (H.takeT [GrpA c n g z, GCel c, GPts c n] (Cel b5 33 (OpR.enc x) :: l)) ) fun v w hc a S => ?_)
      obtain ⟨rfl, z1, H⟩ := hc
      simp only [List.append_eq, List.nil_append] at H
      refine gl_nil ?_
      refine n_block ?_
      refine n_then ?_
      have S := S.nil.cons S 6 rfl
      refine gsr ?_
      refine ga S fun a S => ?_
      refine gnt ?_
      refine g_ret ?_
      refine ret1 rfl S rfl ?_
      exact ⟨by unfold saidZ Grp.said; rw [if_neg (by omega)], z1, by unfold Grp.do_ Grp.act; rw [hk]; exact H.takeT [GrpA c n (g.crash (x.a % n) true) z1, GCel c, GPts c n] l⟩
     ·have h6p := h6; try simp only [DL] at h6p
      have hk4 : x.kind % 6 ≠ 4 := by simp at h6; omega
      refine gsr ?_
      refine gy rfl rfl rfl S (y_bin rfl S rfl rfl rfl) fun a S => ?_
      refine ga S fun a S => ?_
      refine gnt ?_
      have S := (((S.nil.cons S 0 rfl).cons S 6 rfl).cons S 7 rfl).cons S 58 rfl
      refine c_if S rfl (fun h7 => ?_) (fun h7 => ?_)
      ·have h7p := h7; try simp only [DL] at h7p
       have hk : x.kind % 6 = 5 := by simp at h7; omega
       refine g_region ?_
       refine gm S fun a S => ?_
       refine gm S fun a S => ?_
       refine wl_of (op_call (wn rfl) rfl rfl S (co_func rfl Try.call18 S rfl) (crash_spec c n g z (x.a % n) false _ (H.takeT [GrpA c n g z, GCel c, GPts c n] (Cel b5 33 (OpR.enc x) :: l)) ) fun v w hc a S => ?_)
       obtain ⟨rfl, z1, H⟩ := hc
       simp only [List.append_eq, List.nil_append] at H
       refine gl_nil ?_
       refine n_block ?_
       refine n_then ?_
       have S := S.nil.cons S 6 rfl
       refine gsr ?_
       refine ga S fun a S => ?_
       refine gnt ?_
       refine g_ret ?_
       refine ret1 rfl S rfl ?_
       exact ⟨by unfold saidZ Grp.said; rw [if_neg (by omega)], z1, by unfold Grp.do_ Grp.act; rw [hk]; exact H.takeT [GrpA c n (g.crash (x.a % n) false) z1, GCel c, GPts c n] l⟩
      ·have h7p := h7; try simp only [DL] at h7p
       all_goals (
         exfalso; simp at h7; omega)
end Go.Proofs.Ytbjknckddoegfaa
