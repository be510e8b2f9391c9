/- The walks. No condition. -/
import Derived.Test.YtbjknckddoegfaaChecked
import Derived.Test.YtbjknckddoegfaaGwFam
import Derived.Test.YtbjknckddoegfaaFacts
import Derived.Test.YtbjknckddoegfaaPlainM
import Derived.Test.YtbjknckddoegfaaW6
namespace Go.Proofs.Ytbjknckddoegfaa
open Go Go.Gw
set_option linter.unusedVariables false
set_option linter.unusedSimpArgs false
set_option maxHeartbeats 1000000 in
/-- (*foyer/replica.Group).Propose -/
theorem propose_spec {M : Nat → Prop} {u0 : World} {l : List Atom} (c : GC) (n : Nat) (g : Grp) (z : GV) (r : ByteArray) (w0 : World) (h0 : HSat M u0 (GrpA c n g z :: GCel c :: GPts c n :: l) w0) (hF : Fit g) :
    Ret Try.prog 16 #[.pointer (some ⟨c.b, 0, none⟩), .string r] w0 (fun u w => u = .tuple #[.int .i64 (propX g r).1, .int .i64 (propX g r).2] ∧ ∃ z', HSat M u0 (GrpA c n (g.propose r) z' :: GCel c :: GPts c n :: l) w) := by
 refine ret_of_wp (nt := 105) Try.func16 rfl rfl rfl (fl := [(0, .pointer (some ⟨c.b, 0, none⟩)), (1, .string r)]) rfl (fun a S => ?_)
 have H := h0
 obtain ⟨H, hz⟩ := grpOut H
 have hn7 := hz.n7
 refine gsr ?_
 refine ga S fun a S => ?_
 refine ga S fun a S => ?_
 refine gnt ?_
 refine g_seq ?_
 refine gsr ?_
 refine gm S fun a S => ?_
 refine gy rfl rfl rfl S (y_eqp rfl Try.underlying25 S rfl rfl) fun a S => ?_
 refine gnt ?_
 refine c_if S rfl (fun h1 => ?_) (fun h1 => ?_)
 ·have h1p := h1; try simp only [DL] at h1p
  all_goals (
    exact absurd h1 (by simp))
 ·have h1p := h1; try simp only [DL] at h1p
  refine g_skip ?_
  refine n_then ?_
  refine g_seq ?_
  refine gsr ?_
  refine gm S fun a S => ?_
  refine gy rfl rfl rfl S (y_lenstr rfl Try.underlying9 S rfl) fun a S => ?_
  refine gy rfl rfl rfl S (y_bin rfl S rfl rfl rfl) fun a S => ?_
  refine gnt ?_
  have S := ((((S.nil.cons S 1 rfl).cons S 0 rfl).cons S 4 rfl).cons S 5 rfl).cons S 15 rfl
  refine c_if S rfl (fun h2 => ?_) (fun h2 => ?_)
  ·have h2p := h2; try simp only [DL] at h2p
   have hbig : r.size > 200 := by have := h2p; omega
   refine gsr ?_
   refine ga S fun a S => ?_
   refine ga S fun a S => ?_
   refine gnt ?_
   refine g_ret ?_
   refine r_then (ret2 rfl S rfl rfl ?_)
   exact ⟨by unfold propX; rw [if_pos hbig], z, by unfold Grp.propose; rw [show g.taker r = none by unfold Grp.taker; rw [if_pos hbig]]; exact grpIn (H.takeT [PrsA c n g z, MapA c.qb kQ eV z.qm z.qc, QuesA n z.qm z.qv, BagA 2 Ent.enc z.bag] (GCel c :: GPts c n :: l)) hz⟩
  ·have h2p := h2; try simp only [DL] at h2p
   have hsm : ¬ r.size > 200 := by have := h2p; omega
   refine g_skip ?_
   refine n_then ?_
   refine gsr ?_
   refine ga S fun a S => ?_
   refine gnt ?_
   refine g_seq ?_
   refine gsr ?_
   refine gm S fun a S => ?_
   refine gy rfl rfl rfl S (y_nilCheck rfl S rfl) fun a S => ?_
   refine gy rfl rfl rfl S (y_faddrb rfl Ffo52_0 S rfl) fun a S => ?_
   refine gy rfl rfl rfl S (y_load rfl Fsca50 S H rfl rfl) fun a S => ?_
   refine gy rfl rfl rfl S (y_lens rfl Try.underlying50 S H rfl) fun a S => ?_
   rw [List.length_range] at S
   refine gm S fun a S => ?_
   refine gnt ?_
   have S := (((((((S.nil.cons S 1 rfl).cons S 0 rfl).cons S 4 rfl).cons S 5 rfl).cons S 6 rfl).cons S 19 rfl).cons S 20 rfl).cons S 21 rfl
   refine g_block ?_
   have SU := (((((S.nil.cons S 1 rfl).cons S 0 rfl).cons S 4 rfl).cons S 5 rfl).cons S 19 rfl).cons S 20 rfl
   refine loop_k (X := Nat) SU (fun k => [(6, .int .i64 (atZ (bestTo g k))), (21, .int .i64 (k : Int))]) (fun k => k ≤ n) (fun k => n - k) 0 ((S.nil.cons S 21 rfl).cons S 6 rfl) H (Nat.zero_le _) (fun k a w S H hi => ?_)
   simp only [List.cons_append, List.nil_append] at S hi
   have hk := hi
   refine gsr ?_
   refine gy rfl rfl rfl S (y_bin rfl S rfl rfl rfl) fun a S => ?_
   refine gnt ?_
   refine g_seq ?_
   refine c_if S rfl (fun h3 => ?_) (fun h3 => ?_)
   ·have h3p := h3; try simp only [DL] at h3p
    have hkn : k < n := by have := h3p; omega
    have iR : ∀ l, HasRd (PrsA c n g z :: l) (c.pb k) _ := prsRd hkn
    refine g_skip ?_
    refine n_then ?_
    refine g_seq ?_
    refine g_block ?_
    refine gsr ?_
    refine gm S fun a S => ?_
    refine gy rfl rfl rfl S (y_iaddrn rfl Try.underlying50 Fsiz53 S H rfl rfl (by first | assumption | omega | (simp only [List.length_range]; omega) | (simp only [List.length_replicate]; omega) | (simp only [List.length_cons]; omega))) fun a S => ?_
    refine gy rfl rfl rfl S ((y_loadsD c.pv 0 rfl Fsca53 S H rfl (by simp only [List.length_range]; omega) (ldPt (show k < n from hkn)))) fun a S => ?_
    refine ga S fun a S => ?_
    refine ga S fun a S => ?_
    refine gnt ?_
    have S := (((((((((S.nil.cons S 1 rfl).cons S 0 rfl).cons S 4 rfl).cons S 5 rfl).cons S 19 rfl).cons S 20 rfl).cons S 21 rfl).cons S 6 rfl).cons S 7 rfl).cons S 8 rfl
    refine g_seq ?_
    rcases hb : bestTo g k with _ | j
    ·rw [hb] at S
     simp only [atZ] at S
     refine region_st (loud := []) (tails := []) (free := []) [0, 1, 2, 3, 4, 5, 6, 7, 8, 9, 10, 11, 12, 13, 14, 15, 16, 17, 18, 19, 20, 21, 22, 23, 24, 25, 26, 27, 28, 29, 30, 31, 32] [] Fmo (by kernel_rfl) (by kernel_rfl) rfl H ?_
     refine m_w rfl rfl (wn rfl) rfl rfl S (fun w H => y_move rfl S rfl) fun a S => ?_
     refine m_w rfl rfl (wn rfl) rfl rfl S (fun w H => y_nilCheck rfl S rfl) fun a S => ?_
     refine m_w rfl rfl (wn rfl) rfl rfl S (fun w H => y_faddrb rfl Ffo58_4 S rfl) fun a S => ?_
     refine m_w rfl rfl (wn rfl) rfl rfl S (fun w H => y_load rfl Fsca9 S H rfl rfl) fun a S => ?_
     refine m_w rfl rfl (wn rfl) rfl rfl S (fun w H => y_eqs rfl Try.underlying9 S rfl rfl) fun a S => ?_
     rw [roleS_lead] at S
     refine m_w rfl rfl (wn rfl) rfl rfl S (fun w H => y_move rfl S rfl) fun a S => ?_
     refine' m_andq [6, 7, 8, 9, 10] 31 S rfl rfl rfl rfl rfl rfl rfl rfl rfl (fun _ S => (wn rfl)) (fun h4 kk => ?yh4) (fun a S => ?_)
     case yh4 =>
      have h4p := h4; try simp only [DL] at h4p
      refine m_w rfl rfl (wg' 31 rfl rfl S rfl h4 rfl) rfl rfl S (fun w H => y_move rfl S rfl) fun a S => ?_
      refine m_w rfl rfl (wg' 31 rfl rfl S rfl h4 rfl) rfl rfl S (fun w H => y_nilCheck rfl S rfl) fun a S => ?_
      refine m_w rfl rfl (wg' 31 rfl rfl S rfl h4 rfl) rfl rfl S (fun w H => y_faddrb rfl Ffo58_3 S rfl) fun a S => ?_
      refine m_w rfl rfl (wg' 31 rfl rfl S rfl h4 rfl) rfl rfl S (fun w H => y_load rfl Fsca4 S H rfl rfl) fun a S => ?_
      refine m_w rfl rfl (wg' 31 rfl rfl S rfl h4 rfl) rfl rfl S (fun w H => y_not rfl S rfl) fun a S => ?_
      refine m_w rfl rfl (wn rfl) rfl rfl S (fun w H => y_and' rfl h4 S rfl rfl) fun a S => ?_
      exact kk _ (S.join 6 37 rfl rfl)
     refine m_w rfl rfl (wn rfl) rfl rfl S (fun w H => y_move rfl S rfl) fun a S => ?_
     refine' m_andq [13, 14, 15, 16, 17, 18, 19, 20, 21, 22, 23, 24, 25, 26, 27, 28, 29, 30, 31] 38 S rfl rfl rfl rfl rfl rfl rfl rfl rfl (fun _ S => (wn rfl)) (fun h5 kk => ?yh5) (fun a S => ?_)
     case yh5 =>
      have h5p := h5; try simp only [DL] at h5p
      refine m_w rfl rfl (wg' 38 rfl rfl S rfl h5 rfl) rfl rfl S (fun w H => y_move rfl S rfl) fun a S => ?_
      refine m_w rfl rfl (wg' 38 rfl rfl S rfl h5 rfl) rfl rfl S (fun w H => y_bin rfl S rfl rfl rfl) fun a S => ?_
      refine m_w rfl rfl (wg' 38 rfl rfl S rfl h5 rfl) rfl rfl S (fun w H => y_move rfl S rfl) fun a S => ?_
      refine' m_orq (B2 := false) [16, 17, 18, 19, 20, 21, 22, 23, 24, 25, 26, 27, 28, 29, 30] 41 S rfl rfl rfl rfl rfl rfl rfl rfl rfl (fun _ S => (wg' 38 rfl rfl S rfl h5 rfl)) (fun h kk => absurd h (by simp)) (fun a S => ?_)
      refine m_w rfl rfl (wn rfl) rfl rfl S (fun w H => y_and' rfl h5 S rfl rfl) fun a S => ?_
      exact kk _ (S.join 5 58 rfl rfl)
     refine m_nil (fun w H => ?_)
     refine n_then ?_
     have S := (((((((((S.nil.cons S 1 rfl).cons S 0 rfl).cons S 4 rfl).cons S 5 rfl).cons S 19 rfl).cons S 20 rfl).cons S 21 rfl).cons S 6 rfl).cons S 7 rfl).cons S 58 rfl
     refine c_if S rfl (fun h6 => ?_) (fun h6 => ?_)
     ·have h6p := h6; try simp only [DL] at h6p
      have hc : (g.at_ k).role = 2 ∧ (g.at_ k).down = false := by simpa using h6
      have hb1 : bestTo g (k + 1) = some k := by unfold bestTo; rw [hb]; dsimp only; rw [if_pos hc]
      refine g_region ?_
      refine gm S fun a S => ?_
      refine ga S fun a S => ?_
      refine gl_nil ?_
      refine n_block ?_
      refine n_then ?_
      have S := (((((((S.nil.cons S 1 rfl).cons S 0 rfl).cons S 4 rfl).cons S 5 rfl).cons S 19 rfl).cons S 20 rfl).cons S 21 rfl).cons S 6 rfl
      refine g_region ?_
      refine gy rfl rfl rfl S (y_add rfl S rfl rfl (by first | omega | (simp only [List.length_append, List.length_singleton]; omega))) fun a S => ?_
      refine gm S fun a S => ?_
      refine gnt ?_
      exact ⟨k + 1, (S.nil.cons S 21 rfl).cons S 6 (by rw [hb1]; rfl), (((((S.nil.cons S 1 rfl).cons S 0 rfl).cons S 4 rfl).cons S 5 rfl).cons S 19 rfl).cons S 20 rfl, H, by omega, by omega⟩
     ·have h6p := h6; try simp only [DL] at h6p
      have hc : ¬ ((g.at_ k).role = 2 ∧ (g.at_ k).down = false) := fun e => by rw [e.1, e.2] at h6; simp at h6
      have hb1 : bestTo g (k + 1) = none := by unfold bestTo; rw [hb]; dsimp only; rw [if_neg hc]
      refine g_skip ?_
      refine n_block ?_
      refine n_then ?_
      refine g_region ?_
      refine gy rfl rfl rfl S (y_add rfl S rfl rfl (by first | omega | (simp only [List.length_append, List.length_singleton]; omega))) fun a S => ?_
      refine gm S fun a S => ?_
      refine gnt ?_
      exact ⟨k + 1, (S.nil.cons S 21 rfl).cons S 6 (by rw [hb1]; rfl), (((((S.nil.cons S 1 rfl).cons S 0 rfl).cons S 4 rfl).cons S 5 rfl).cons S 19 rfl).cons S 20 rfl, H, by omega, by omega⟩
    ·rw [hb] at S
     simp only [atZ] at S
     have hjk : j < k := (bestTo_some hb).1
     have hjn : j < n := by omega
     have iR2 : ∀ l, HasRd (PrsA c n g z :: l) (c.pb j) _ := prsRd hjn
     refine region_st (loud := []) (tails := []) (free := []) [0, 1, 2, 3, 4, 5, 6, 7, 8, 9, 10, 11, 12, 13, 14, 15, 16, 17, 18, 19, 20, 21, 22, 23, 24, 25, 26, 27, 28, 29, 30, 31, 32] [] Fmo (by kernel_rfl) (by kernel_rfl) rfl H ?_
     refine m_w rfl rfl (wn rfl) rfl rfl S (fun w H => y_move rfl S rfl) fun a S => ?_
     refine m_w rfl rfl (wn rfl) rfl rfl S (fun w H => y_nilCheck rfl S rfl) fun a S => ?_
     refine m_w rfl rfl (wn rfl) rfl rfl S (fun w H => y_faddrb rfl Ffo58_4 S rfl) fun a S => ?_
     refine m_w rfl rfl (wn rfl) rfl rfl S (fun w H => y_load rfl Fsca9 S H rfl rfl) fun a S => ?_
     refine m_w rfl rfl (wn rfl) rfl rfl S (fun w H => y_eqs rfl Try.underlying9 S rfl rfl) fun a S => ?_
     rw [roleS_lead] at S
     refine m_w rfl rfl (wn rfl) rfl rfl S (fun w H => y_move rfl S rfl) fun a S => ?_
     refine' m_andq [6, 7, 8, 9, 10] 31 S rfl rfl rfl rfl rfl rfl rfl rfl rfl (fun _ S => (wn rfl)) (fun h7 kk => ?yh7) (fun a S => ?_)
     case yh7 =>
      have h7p := h7; try simp only [DL] at h7p
      refine m_w rfl rfl (wg' 31 rfl rfl S rfl h7 rfl) rfl rfl S (fun w H => y_move rfl S rfl) fun a S => ?_
      refine m_w rfl rfl (wg' 31 rfl rfl S rfl h7 rfl) rfl rfl S (fun w H => y_nilCheck rfl S rfl) fun a S => ?_
      refine m_w rfl rfl (wg' 31 rfl rfl S rfl h7 rfl) rfl rfl S (fun w H => y_faddrb rfl Ffo58_3 S rfl) fun a S => ?_
      refine m_w rfl rfl (wg' 31 rfl rfl S rfl h7 rfl) rfl rfl S (fun w H => y_load rfl Fsca4 S H rfl rfl) fun a S => ?_
      refine m_w rfl rfl (wg' 31 rfl rfl S rfl h7 rfl) rfl rfl S (fun w H => y_not rfl S rfl) fun a S => ?_
      refine m_w rfl rfl (wn rfl) rfl rfl S (fun w H => y_and' rfl h7 S rfl rfl) fun a S => ?_
      exact kk _ (S.join 6 37 rfl rfl)
     refine m_w rfl rfl (wn rfl) rfl rfl S (fun w H => y_move rfl S rfl) fun a S => ?_
     refine' m_andq [13, 14, 15, 16, 17, 18, 19, 20, 21, 22, 23, 24, 25, 26, 27, 28, 29, 30, 31] 38 S rfl rfl rfl rfl rfl rfl rfl rfl rfl (fun _ S => (wn rfl)) (fun h8 kk => ?yh8) (fun a S => ?_)
     case yh8 =>
      have h8p := h8; try simp only [DL] at h8p
      refine m_w rfl rfl (wg' 38 rfl rfl S rfl h8 rfl) rfl rfl S (fun w H => y_move rfl S rfl) fun a S => ?_
      refine m_w rfl rfl (wg' 38 rfl rfl S rfl h8 rfl) rfl rfl S (fun w H => y_bin rfl S rfl rfl rfl) fun a S => ?_
      refine m_w rfl rfl (wg' 38 rfl rfl S rfl h8 rfl) rfl rfl S (fun w H => y_move rfl S rfl) fun a S => ?_
      refine m_w rfl rfl (wg' 41 rfl rfl S rfl (decide_eq_false (by omega)) rfl) rfl rfl S (fun w H => y_move rfl S rfl) fun a S => ?_
      refine m_w rfl rfl (wg' 41 rfl rfl S rfl (decide_eq_false (by omega)) rfl) rfl rfl S (fun w H => y_nilCheck rfl S rfl) fun a S => ?_
      refine m_w rfl rfl (wg' 41 rfl rfl S rfl (decide_eq_false (by omega)) rfl) rfl rfl S (fun w H => y_faddrb rfl Ffo58_0 S rfl) fun a S => ?_
      refine m_w rfl rfl (wg' 41 rfl rfl S rfl (decide_eq_false (by omega)) rfl) rfl rfl S (fun w H => y_load rfl Fsca3 S H rfl rfl) fun a S => ?_
      refine m_w rfl rfl (wg' 41 rfl rfl S rfl (decide_eq_false (by omega)) rfl) rfl rfl S (fun w H => y_move rfl S rfl) fun a S => ?_
      refine m_w rfl rfl (wg' 41 rfl rfl S rfl (decide_eq_false (by omega)) rfl) rfl rfl S (fun w H => y_nilCheck rfl S rfl) fun a S => ?_
      refine m_w rfl rfl (wg' 41 rfl rfl S rfl (decide_eq_false (by omega)) rfl) rfl rfl S (fun w H => y_faddrb rfl Ffo52_0 S rfl) fun a S => ?_
      refine m_w rfl rfl (wg' 41 rfl rfl S rfl (decide_eq_false (by omega)) rfl) rfl rfl S (fun w H => y_load rfl Fsca50 S H rfl rfl) fun a S => ?_
      refine m_w rfl rfl (wg' 41 rfl rfl S rfl (decide_eq_false (by omega)) rfl) rfl rfl S (fun w H => y_move rfl S rfl) fun a S => ?_
      refine m_w rfl rfl (wg' 41 rfl rfl S rfl (decide_eq_false (by omega)) rfl) rfl rfl S (fun w H => y_iaddrn rfl Try.underlying50 Fsiz53 S H rfl rfl (by first | assumption | omega | (simp only [List.length_range]; omega) | (simp only [List.length_replicate]; omega) | (simp only [List.length_cons]; omega))) fun a S => ?_
      refine m_w rfl rfl (wg' 41 rfl rfl S rfl (decide_eq_false (by omega)) rfl) rfl rfl S (fun w H => (y_loadsD c.pv 0 rfl Fsca53 S H rfl (by simp only [List.length_range]; omega) (ldPt (show j < n from hjn)))) fun a S => ?_
      refine m_w rfl rfl (wg' 41 rfl rfl S rfl (decide_eq_false (by omega)) rfl) rfl rfl S (fun w H => y_nilCheck rfl S rfl) fun a S => ?_
      refine m_w rfl rfl (wg' 41 rfl rfl S rfl (decide_eq_false (by omega)) rfl) rfl rfl S (fun w H => y_faddrb rfl Ffo58_0 S rfl) fun a S => ?_
      refine m_w rfl rfl (wg' 41 rfl rfl S rfl (decide_eq_false (by omega)) rfl) rfl rfl S (fun w H => y_load rfl Fsca3 S H rfl rfl) fun a S => ?_
      refine m_w rfl rfl (wg' 41 rfl rfl S rfl (decide_eq_false (by omega)) rfl) rfl rfl S (fun w H => y_bin rfl S rfl rfl rfl) fun a S => ?_
      refine m_w rfl rfl (wg' 38 rfl rfl S rfl h8 rfl) rfl rfl S (fun w H => y_or' rfl (decide_eq_false (by omega)) S rfl rfl) fun a S => ?_
      refine m_w rfl rfl (wn rfl) rfl rfl S (fun w H => y_and' rfl h8 S rfl rfl) fun a S => ?_
      exact kk _ (S.join 20 58 rfl rfl)
     refine m_nil (fun w H => ?_)
     refine n_then ?_
     have S := (((((((((S.nil.cons S 1 rfl).cons S 0 rfl).cons S 4 rfl).cons S 5 rfl).cons S 19 rfl).cons S 20 rfl).cons S 21 rfl).cons S 6 rfl).cons S 7 rfl).cons S 58 rfl
     refine c_if S rfl (fun h9 => ?_) (fun h9 => ?_)
     ·have h9p := h9; try simp only [DL] at h9p
      have hc : (g.at_ k).role = 2 ∧ (g.at_ k).down = false ∧ (g.at_ k).term > (g.at_ j).term := by simp at h9; exact ⟨h9.1.1, h9.1.2, by have := h9.2; omega⟩
      have hb1 : bestTo g (k + 1) = some k := by unfold bestTo; rw [hb]; dsimp only; rw [if_pos hc]
      refine g_region ?_
      refine gm S fun a S => ?_
      refine ga S fun a S => ?_
      refine gl_nil ?_
      refine n_block ?_
      refine n_then ?_
      have S := (((((((S.nil.cons S 1 rfl).cons S 0 rfl).cons S 4 rfl).cons S 5 rfl).cons S 19 rfl).cons S 20 rfl).cons S 21 rfl).cons S 6 rfl
      refine g_region ?_
      refine gy rfl rfl rfl S (y_add rfl S rfl rfl (by first | omega | (simp only [List.length_append, List.length_singleton]; omega))) fun a S => ?_
      refine gm S fun a S => ?_
      refine gnt ?_
      exact ⟨k + 1, (S.nil.cons S 21 rfl).cons S 6 (by rw [hb1]; rfl), (((((S.nil.cons S 1 rfl).cons S 0 rfl).cons S 4 rfl).cons S 5 rfl).cons S 19 rfl).cons S 20 rfl, H, by omega, by omega⟩
     ·have h9p := h9; try simp only [DL] at h9p
      have hc : ¬ ((g.at_ k).role = 2 ∧ (g.at_ k).down = false ∧ (g.at_ k).term > (g.at_ j).term) := fun e => by rw [e.1, e.2.1, decide_eq_true e.2.2] at h9; simp at h9
      have hb1 : bestTo g (k + 1) = some j := by unfold bestTo; rw [hb]; dsimp only; rw [if_neg hc]
      refine g_skip ?_
      refine n_block ?_
      refine n_then ?_
      refine g_region ?_
      refine gy rfl rfl rfl S (y_add rfl S rfl rfl (by first | omega | (simp only [List.length_append, List.length_singleton]; omega))) fun a S => ?_
      refine gm S fun a S => ?_
      refine gnt ?_
      exact ⟨k + 1, (S.nil.cons S 21 rfl).cons S 6 (by rw [hb1]; rfl), (((((S.nil.cons S 1 rfl).cons S 0 rfl).cons S 4 rfl).cons S 5 rfl).cons S 19 rfl).cons S 20 rfl, H, by omega, by omega⟩
   ·have h3p := h3; try simp only [DL] at h3p
    obtain rfl : n = k := by have := h3p; omega
    refine g_exit ?_
    refine x_then (x_then (x_eq ?_))
    refine n_then ?_
    have S := ((((S.nil.cons S 1 rfl).cons S 0 rfl).cons S 4 rfl).cons S 5 rfl).cons S 6 rfl
    refine g_seq ?_
    refine gsr ?_
    refine gm S fun a S => ?_
    refine gy rfl rfl rfl S (y_bin rfl S rfl rfl rfl) fun a S => ?_
    refine gnt ?_
    refine c_if S rfl (fun h10 => ?_) (fun h10 => ?_)
    ·have h10p := h10; try simp only [DL] at h10p
     have hb : bestTo g g.n = none := by
       rw [hz.en]; cases e : bestTo g n with
       | none => rfl
       | some a => have h9 := h10p; rw [e] at h9; have h9 : ((a : Nat) : Int) < 0 := h9; omega
     refine gsr ?_
     refine ga S fun a S => ?_
     refine ga S fun a S => ?_
     refine gnt ?_
     have S := ((((S.nil.cons S 1 rfl).cons S 0 rfl).cons S 6 rfl).cons S 4 rfl).cons S 5 rfl
     refine g_ret ?_
     refine r_then (ret2 rfl S rfl rfl ?_)
     exact ⟨by unfold propX; rw [if_neg hsm, hb], z, by unfold Grp.propose; rw [show g.taker r = none by unfold Grp.taker; rw [if_neg hsm, hb]]; exact grpIn (H.takeT [PrsA c n g z, MapA c.qb kQ eV z.qm z.qc, QuesA n z.qm z.qv, BagA 2 Ent.enc z.bag] (GCel c :: GPts c n :: l)) hz⟩
    ·have h10p := h10; try simp only [DL] at h10p
     rcases hb : bestTo g n with _ | i
     · rw [hb] at h10; simp [atZ] at h10
     rw [hb] at S
     simp only [atZ] at S
     have hbn : bestTo g g.n = some i := by rw [hz.en]; exact hb
     have hi : i < n := (bestTo_some hb).1
     have hr2 := (bestTo_some hb).2.1
     have hin : i < g.n := by rw [hz.en]; exact hi
     obtain ⟨H, hf⟩ := peerOut H hi
     have iS : ∀ l, HasSl (BagA 2 Ent.enc z.bag :: l) (z.p i).lv 2 Ent Ent.enc (g.at_ i).log := bagSl (hz.lg i hi)
     have hlo := hF.lim.log i hin
     refine g_skip ?_
     refine n_then ?_
     refine gsr ?_
     refine gm S fun a S => ?_
     refine gy rfl rfl rfl S (y_nilCheck rfl S rfl) fun a S => ?_
     refine gy rfl rfl rfl S (y_faddrb rfl Ffo52_0 S rfl) fun a S => ?_
     refine gy rfl rfl rfl S (y_load rfl Fsca50 S H rfl rfl) fun a S => ?_
     refine gm S fun a S => ?_
     refine gy rfl rfl rfl S (y_iaddrn rfl Try.underlying50 Fsiz53 S H rfl rfl (by first | assumption | omega | (simp only [List.length_range]; omega) | (simp only [List.length_replicate]; omega) | (simp only [List.length_cons]; omega))) fun a S => ?_
     refine gy rfl rfl rfl S ((y_loadsD c.pv 0 rfl Fsca53 S H rfl (by simp only [List.length_range]; omega) (ldPt (show i < n from hi)))) fun a S => ?_
     refine ga S fun a S => ?_
     refine gnt ?_
     have S := (((((S.nil.cons S 1 rfl).cons S 0 rfl).cons S 4 rfl).cons S 5 rfl).cons S 6 rfl).cons S 9 rfl
     refine g_seq ?_
     refine gsr ?_
     refine gm S fun a S => ?_
     refine gy rfl rfl rfl S (y_nilCheck rfl S rfl) fun a S => ?_
     refine gy rfl rfl rfl S (y_faddrb rfl Ffo58_2 S rfl) fun a S => ?_
     refine gy rfl rfl rfl S (y_load rfl Fsca54 S H rfl rfl) fun a S => ?_
     refine gy rfl rfl rfl S (y_lens rfl Try.underlying54 S H rfl) fun a S => ?_
     refine gy rfl rfl rfl S (y_bin rfl S rfl rfl rfl) fun a S => ?_
     refine gnt ?_
     have S := ((((((S.nil.cons S 1 rfl).cons S 0 rfl).cons S 4 rfl).cons S 5 rfl).cons S 6 rfl).cons S 9 rfl).cons S 75 rfl
     refine c_if S rfl (fun h11 => ?_) (fun h11 => ?_)
     ·have h11p := h11; try simp only [DL] at h11p
      have hfull : (g.at_ i).log.length ≥ 100 := by have := h11p; omega
      refine gsr ?_
      refine ga S fun a S => ?_
      refine ga S fun a S => ?_
      refine gnt ?_
      refine g_ret ?_
      refine r_then (ret2 rfl S rfl rfl ?_)
      exact ⟨by unfold propX; rw [if_neg hsm, hbn]; dsimp only; rw [if_pos hfull], _, by unfold Grp.propose; rw [show g.taker r = none by unfold Grp.taker; rw [if_neg hsm, hbn]; dsimp only; rw [if_pos hfull]]; exact putSame (H.takeT [PCel (c.pb i) (z.p i) (g.at_ i), OMap (z.p i).vb eB (z.p i).vm (z.p i).vc, OMap (z.p i).ab kI (z.p i).am (z.p i).ac, PRest c n g z i, MapA c.qb kQ eV z.qm z.qc, QuesA n z.qm z.qv, BagA 2 Ent.enc z.bag] (GCel c :: GPts c n :: l)) hz hi hf (fun _ h => h) hz.cp⟩
     ·have h11p := h11; try simp only [DL] at h11p
      have hfull : ¬ (g.at_ i).log.length ≥ 100 := by have := h11p; omega
      refine g_skip ?_
      refine n_then ?_
      refine g_seq ?_
      refine cut (fun a w => ∃ u89, St 105 [(0, .pointer (some ⟨c.b, 0, none⟩)), (1, .string r), (6, .int .i64 (i : Int)), (9, .pointer (some ⟨c.pb i, 0, none⟩))] a ∧ HSat M u0 ([OSl 87 u89 2 Ent.enc ((g.at_ i).log ++ [(⟨(g.at_ i).term, r⟩ : Ent)]), Cel (c.pb i) 58 [.int .i64 (g.at_ i).term, .int .i64 (g.at_ i).vote, u89, .bool (g.at_ i).down, .string (roleS (g.at_ i).role), .int .i64 ((g.at_ i).done : Int), .map (z.p i).vb, .map (z.p i).ab], OMap (z.p i).vb eB (z.p i).vm (z.p i).vc, OMap (z.p i).ab kI (z.p i).am (z.p i).ac, PRest c n g z i, MapA c.qb kQ eV z.qm z.qc, QuesA n z.qm z.qv, BagA 2 Ent.enc z.bag] ++ (GCel c :: GPts c n :: l)) w) ?_ ?_
      ·skip
       refine t_st (tails := [13, 16]) [] Fmo H ?_
       refine t_p 0 rfl (by kernel_rfl) (rem' := [1, 2, 3, 4, 5, 6, 7, 8, 9, 10, 11, 12, 13, 14, 15, 16]) rfl rfl rfl rfl S (fun w => y_move rfl S rfl) fun a S => ?_
       refine t_q 1 rfl (by kernel_rfl) (rem' := [2, 3, 4, 5, 6, 7, 8, 9, 10, 11, 12, 13, 14, 15, 16]) rfl rfl rfl rfl S (fun w H => y_move rfl S rfl) fun a S => ?_
       refine t_q 2 rfl (by kernel_rfl) (rem' := [3, 4, 5, 6, 7, 8, 9, 10, 11, 12, 13, 14, 15, 16]) rfl rfl rfl rfl S (fun w H => y_nilCheck rfl S rfl) fun a S => ?_
       refine t_q 3 rfl (by kernel_rfl) (rem' := [4, 5, 6, 7, 8, 9, 10, 11, 12, 13, 14, 15, 16]) rfl rfl rfl rfl S (fun w H => y_faddrb rfl Ffo58_2 S rfl) fun a S => ?_
       refine t_q 4 rfl (by kernel_rfl) (rem' := [5, 6, 7, 8, 9, 10, 11, 12, 13, 14, 15, 16]) rfl rfl rfl rfl S (fun w H => y_load rfl Fsca54 S H rfl rfl) fun a S => ?_
       refine t_q 6 rfl (by kernel_rfl) (rem' := [5, 7, 8, 9, 10, 11, 12, 13, 14, 15, 16]) rfl rfl rfl rfl S (fun w H => y_move rfl S rfl) fun a S => ?_
       refine t_q 7 rfl (by kernel_rfl) (rem' := [5, 8, 9, 10, 11, 12, 13, 14, 15, 16]) rfl rfl rfl rfl S (fun w H => y_nilCheck rfl S rfl) fun a S => ?_
       refine t_q 8 rfl (by kernel_rfl) (rem' := [5, 9, 10, 11, 12, 13, 14, 15, 16]) rfl rfl rfl rfl S (fun w H => y_faddrb rfl Ffo58_0 S rfl) fun a S => ?_
       refine t_q 9 rfl (by kernel_rfl) (rem' := [5, 10, 11, 12, 13, 14, 15, 16]) rfl rfl rfl rfl S (fun w H => y_load rfl Fsca3 S H rfl rfl) fun a S => ?_
       refine t_q 10 rfl (by kernel_rfl) (rem' := [5, 11, 12, 13, 14, 15, 16]) rfl rfl rfl rfl S (fun w H => y_move rfl S rfl) fun a S => ?_
       refine t_q 11 rfl (by kernel_rfl) (rem' := [5, 12, 13, 14, 15, 16]) rfl rfl rfl rfl S (fun w H => y_buildf rfl Fbld87 S rfl (idx := [0, 1]) rfl (cs := [.int .i64 (g.at_ i).term, .string r]) rfl) fun a S => ?_
       refine t_b [5, 12] (by kernel_rfl) rfl (fa2 ?_ ?_)
       ·refine ⟨_, rfl, fun w H => ?_⟩
        refine op_call (wn rfl) rfl rfl S (co_func rfl Try.call35 S rfl) (clone_spec _ (g.at_ i).log _ (H.sl (z.p i).lv) (by omega)) fun u81 w hc a S => ?_
        have H1 := hc
        have H := H.call1 H1 rfl
        refine t_n H (rem' := [12, 13, 14, 15, 16]) rfl ?_
        refine t_b1 12 (by kernel_rfl) rfl fun w H => ?_
        refine op_buildSlice (wn rfl) rfl rfl rfl Try.underlying54 Finf87 S H (idx := [0]) rfl rfl rfl (z := [.int .i64 0, .string ⟨#[]⟩]) (by kernel_rfl) (cs := [.int .i64 (g.at_ i).term, .string r]) rfl fun b88 a w S H => ?_
        refine t_n H (rem' := [13, 14, 15, 16]) rfl ?_
        refine t_b1 13 (by kernel_rfl) rfl fun w H => ?_
        refine op_append ([(⟨(g.at_ i).term, r⟩ : Ent)]) (wn rfl) rfl rfl rfl Try.underlying54 Finf87 rfl rfl S H rfl rfl rfl rfl (by simp) (by simp [Ent.enc]) (by simp [Ent.enc, Value.oneCell']) (by simp only [List.length_singleton]; omega) (by simp only [List.length_singleton]; omega) fun u89 a w hn89 S H => ?_
        refine t_tail H rfl (rem' := [14, 15, 16]) rfl ?_
        refine t_q 14 rfl (by kernel_rfl) (rem' := [15, 16]) rfl rfl rfl rfl S (fun w H => y_nilCheck rfl S rfl) fun a S => ?_
        refine t_q 15 rfl (by kernel_rfl) (rem' := [16]) rfl rfl rfl rfl S (fun w H => y_faddrb rfl Ffo58_2 S rfl) fun a S => ?_
        refine t_b1 16 (by kernel_rfl) rfl fun w H => ?_
        refine op_store (wn rfl) rfl rfl S H rfl rfl (H.sl1 _) Fsiz54 rfl fun a w S H => ?_
        dsimp only [List.set, Nat.zero_add, Nat.reduceAdd] at H
        refine t_tail H rfl (rem' := []) rfl ?_
        refine t_nil (fun w H => ?_)
        exact ⟨u89, ((((S.nil.cons S 9 rfl).cons S 6 rfl).cons S 1 rfl).cons S 0 rfl), H.takeT [OSl 87 u89 2 Ent.enc ((g.at_ i).log ++ [(⟨(g.at_ i).term, r⟩ : Ent)]), Cel (c.pb i) 58 [.int .i64 (g.at_ i).term, .int .i64 (g.at_ i).vote, u89, .bool (g.at_ i).down, .string (roleS (g.at_ i).role), .int .i64 ((g.at_ i).done : Int), .map (z.p i).vb, .map (z.p i).ab], OMap (z.p i).vb eB (z.p i).vm (z.p i).vc, OMap (z.p i).ab kI (z.p i).am (z.p i).ac, PRest c n g z i, MapA c.qb kQ eV z.qm z.qc, QuesA n z.qm z.qv, BagA 2 Ent.enc z.bag] (GCel c :: GPts c n :: l)⟩
       ·refine ⟨_, rfl, fun w H => ?_⟩
        refine op_buildSlice (wn rfl) rfl rfl rfl Try.underlying54 Finf87 S H (idx := [0]) rfl rfl rfl (z := [.int .i64 0, .string ⟨#[]⟩]) (by kernel_rfl) (cs := [.int .i64 (g.at_ i).term, .string r]) rfl fun b88 a w S H => ?_
        refine t_n H (rem' := [5, 13, 14, 15, 16]) rfl ?_
        refine t_b1 5 (by kernel_rfl) rfl fun w H => ?_
        refine op_call (wn rfl) rfl rfl S (co_func rfl Try.call35 S rfl) (clone_spec _ (g.at_ i).log _ (H.sl (z.p i).lv) (by omega)) fun u81 w hc a S => ?_
        have H1 := hc
        have H := H.call1 H1 rfl
        refine t_n H (rem' := [13, 14, 15, 16]) rfl ?_
        refine t_b1 13 (by kernel_rfl) rfl fun w H => ?_
        refine op_append ([(⟨(g.at_ i).term, r⟩ : Ent)]) (wn rfl) rfl rfl rfl Try.underlying54 Finf87 rfl rfl S H rfl rfl rfl rfl (by simp) (by simp [Ent.enc]) (by simp [Ent.enc, Value.oneCell']) (by simp only [List.length_singleton]; omega) (by simp only [List.length_singleton]; omega) fun u89 a w hn89 S H => ?_
        refine t_tail H rfl (rem' := [14, 15, 16]) rfl ?_
        refine t_q 14 rfl (by kernel_rfl) (rem' := [15, 16]) rfl rfl rfl rfl S (fun w H => y_nilCheck rfl S rfl) fun a S => ?_
        refine t_q 15 rfl (by kernel_rfl) (rem' := [16]) rfl rfl rfl rfl S (fun w H => y_faddrb rfl Ffo58_2 S rfl) fun a S => ?_
        refine t_b1 16 (by kernel_rfl) rfl fun w H => ?_
        refine op_store (wn rfl) rfl rfl S H rfl rfl (H.sl1 _) Fsiz54 rfl fun a w S H => ?_
        dsimp only [List.set, Nat.zero_add, Nat.reduceAdd] at H
        refine t_tail H rfl (rem' := []) rfl ?_
        refine t_nil (fun w H => ?_)
        exact ⟨u89, ((((S.nil.cons S 9 rfl).cons S 6 rfl).cons S 1 rfl).cons S 0 rfl), H.takeT [OSl 87 u89 2 Ent.enc ((g.at_ i).log ++ [(⟨(g.at_ i).term, r⟩ : Ent)]), Cel (c.pb i) 58 [.int .i64 (g.at_ i).term, .int .i64 (g.at_ i).vote, u89, .bool (g.at_ i).down, .string (roleS (g.at_ i).role), .int .i64 ((g.at_ i).done : Int), .map (z.p i).vb, .map (z.p i).ab], OMap (z.p i).vb eB (z.p i).vm (z.p i).vc, OMap (z.p i).ab kI (z.p i).am (z.p i).ac, PRest c n g z i, MapA c.qb kQ eV z.qm z.qc, QuesA n z.qm z.qv, BagA 2 Ent.enc z.bag] (GCel c :: GPts c n :: l)⟩
      rintro a w ⟨u89, S, H⟩
      simp only [List.cons_append, List.nil_append] at H
      have hcu : capOK u89 := H.cap _
      refine gsr ?_
      refine gm S fun a S => ?_
      refine gy rfl rfl rfl S (y_nilCheck rfl S rfl) fun a S => ?_
      refine gy rfl rfl rfl S (y_faddrb rfl Ffo58_2 S rfl) fun a S => ?_
      refine gy rfl rfl rfl S (y_load rfl Fsca54 S H rfl rfl) fun a S => ?_
      refine gy rfl rfl rfl S (y_lens rfl Try.underlying54 S H rfl) fun a S => ?_
      refine gy rfl rfl rfl S (y_sub rfl S rfl rfl (by first | omega | (simp only [List.length_append, List.length_singleton]; omega))) fun a S => ?_
      refine ga S fun a S => ?_
      refine gnt ?_
      have S := ((S.nil.cons S 6 rfl).cons S 0 rfl).cons S 10 rfl
      refine gsr ?_
      refine gm S fun a S => ?_
      refine gm S fun a S => ?_
      refine wl_of (op_call (wn rfl) rfl rfl S (co_func rfl Try.call36 S rfl) (share_spec c n (g.put i ((g.at_ i).snoc r)) { z with p := fun v => if v = i then ({ z.p i with lv := u89 } : PV) else z.p v, bag := ((u89, (g.at_ i).log ++ [(⟨(g.at_ i).term, r⟩ : Ent)]) :: z.bag) } i _ (putIn ({ z.p i with lv := u89 } : PV) ((g.at_ i).snoc r) (bag2 (u := u89) (l2 := (g.at_ i).log ++ [(⟨(g.at_ i).term, r⟩ : Ent)]) (bag := z.bag) (l := (GCel c :: GPts c n :: l)) (l1 := [Cel (c.pb i) 58 [.int .i64 (g.at_ i).term, .int .i64 (g.at_ i).vote, u89, .bool (g.at_ i).down, .string (roleS (g.at_ i).role), .int .i64 ((g.at_ i).done : Int), .map (z.p i).vb, .map (z.p i).ab], OMap (z.p i).vb eB (z.p i).vm (z.p i).vc, OMap (z.p i).ab kI (z.p i).am (z.p i).ac, PRest c n g z i, MapA c.qb kQ eV z.qm z.qc, QuesA n z.qm z.qv]) (H.takeT [OSl 87 u89 2 Ent.enc ((g.at_ i).log ++ [(⟨(g.at_ i).term, r⟩ : Ent)]), Cel (c.pb i) 58 [.int .i64 (g.at_ i).term, .int .i64 (g.at_ i).vote, u89, .bool (g.at_ i).down, .string (roleS (g.at_ i).role), .int .i64 ((g.at_ i).done : Int), .map (z.p i).vb, .map (z.p i).ab], OMap (z.p i).vb eB (z.p i).vm (z.p i).vc, OMap (z.p i).ab kI (z.p i).am (z.p i).ac, PRest c n g z i, MapA c.qb kQ eV z.qm z.qc, QuesA n z.qm z.qv, BagA 2 Ent.enc z.bag] (GCel c :: GPts c n :: l))) hz hi ⟨hf.v, hf.a⟩ (fun q hq => List.mem_cons_of_mem _ hq) (fun q hq => by rcases List.mem_cons.1 hq with rfl | hq; exact hcu; exact hz.cp q hq) (List.mem_cons_self ..) (hz.vb i hi) (hz.ab i hi)) hi (fun j => by have := hF.len i j; show (g.q i j).length ≤ _; omega) (by rw [Grp.put_same _ hin]; show ((g.at_ i).log ++ [(⟨(g.at_ i).term, r⟩ : Ent)]).length ≤ _; simp; omega)) fun v w hc a S => ?_)
      obtain ⟨rfl, z1, H⟩ := hc
      
      refine gnt ?_
      refine gsr ?_
      refine gm S fun a S => ?_
      refine gm S fun a S => ?_
      refine wl_of (op_call (wn rfl) rfl rfl S (co_func rfl Try.call37 S rfl) (commit_spec c n ((g.put i ((g.at_ i).snoc r)).share i) z1 i _ H hi (by rw [Grp.share_at, Grp.put_same _ hin]; exact hr2) (fun j => Nat.le_trans (all_q_len _ _ _ i j) (by have := hF.len i j; show (g.q i j).length + 1 ≤ _; omega)) (by rw [Grp.share_at, Grp.put_same _ hin]; show ((g.at_ i).log ++ [(⟨(g.at_ i).term, r⟩ : Ent)]).length ≤ _; simp; omega)) fun v w hc a S => ?_)
      obtain ⟨rfl, z2, H⟩ := hc
      
      refine gnt ?_
      have S := S.nil.cons S 10 rfl
      refine gsr ?_
      refine gm S fun a S => ?_
      refine ga S fun a S => ?_
      refine ga S fun a S => ?_
      refine gnt ?_
      refine g_ret ?_
      refine ret2 rfl S rfl rfl ?_
      refine ⟨by unfold propX; rw [if_neg hsm, hbn]; dsimp only; rw [if_neg hfull]; simp, z2, ?_⟩
      unfold Grp.propose; rw [show g.taker r = some i by unfold Grp.taker; rw [if_neg hsm, hbn]; dsimp only; rw [if_neg hfull]]; exact H
set_option maxHeartbeats 1000000 in
/-- (*foyer/replica.Group).Committed -/
theorem committed_spec {M : Nat → Prop} {u0 : World} {l : List Atom} (c : GC) (n : Nat) (g : Grp) (z : GV) (i : Nat) (w0 : World) (h0 : HSat M u0 (GrpA c n g z :: GCel c :: GPts c n :: l) w0) (hF : Fit g) :
    Ret Try.prog 20 #[.pointer (some ⟨c.b, 0, none⟩), .int .i64 (i : Int)] w0 (fun u w => HSat No w0 [OSl 9 u 1 encS (comR g i)] w) := by
 refine ret_of_wp (nt := 45) Try.func20 rfl rfl rfl (fl := [(0, .pointer (some ⟨c.b, 0, none⟩)), (1, .int .i64 (i : Int))]) rfl (fun a S => ?_)
 obtain ⟨H, hz⟩ := grpReads h0
 have H := H.perm (show ([_, _, _, _] : List Atom).Perm [GCel c, GPts c n, Atom.ro (PrsA c n g z), Atom.ro (BagA 2 Ent.enc z.bag)] from (List.perm_append_comm (l₁ := [Atom.ro (PrsA c n g z), Atom.ro (BagA 2 Ent.enc z.bag)]) (l₂ := [GCel c, GPts c n])))
 refine gsr ?_
 refine ga S fun a S => ?_
 refine gnt ?_
 refine g_seq ?_
 refine gsr ?_
 refine gm S fun a S => ?_
 refine gm S fun a S => ?_
 refine wl_of (op_call (wn rfl) rfl rfl S (co_func rfl Try.call25 S rfl) (has_spec c.b n c.pv (.map (some c.qb)) c.pb (i : Int) _ (H.rd c.b) (H.sl c.pv)) fun v w hc a S => ?_)
 obtain ⟨rfl, he⟩ := hc
 have H := H.ext he
 rw [hasB_nat] at S
 refine gy rfl rfl rfl S (y_not rfl S rfl) fun a S => ?_
 refine gnt ?_
 refine c_if S rfl (fun h1 => ?_) (fun h1 => ?_)
 ·have h1p := h1; try simp only [DL] at h1p
  have hno : ¬ i < g.n := by rw [hz.en]; simpa using h1
  refine gsr ?_
  refine ga S fun a S => ?_
  refine gnt ?_
  have S := ((S.nil.cons S 1 rfl).cons S 0 rfl).cons S 4 rfl
  refine g_ret ?_
  refine r_then (ret1 rfl S rfl ?_)
  unfold comR; rw [if_neg hno]; exact (H.nilO 9 1 encS).take [OSl 9 (.slice none 0 0) 1 encS []]
 ·have h1p := h1; try simp only [DL] at h1p
  have hi : i < n := by simpa using h1
  have hin : i < g.n := by rw [hz.en]; exact hi
  have iS : ∀ l, HasSl (Atom.ro (BagA 2 Ent.enc z.bag) :: l) (z.p i).lv 2 Ent Ent.enc (g.at_ i).log := bagSlRo (hz.lg i hi)
  have iC : ∀ l, HasCap l (z.p i).lv := fun _ => ⟨fun _ _ => hz.cp _ (hz.lg i hi)⟩
  have iR : ∀ l, HasRd (Atom.ro (PrsA c n g z) :: l) (c.pb i) _ := prsRdRo hi
  have hlo := hF.lim.log i hin
  have hdl : (g.at_ i).done ≤ (g.at_ i).log.length := by obtain ⟨γ, R⟩ := hF.ri; exact R.done_le hin
  have hrl : (((g.at_ i).log.take (g.at_ i).done).drop 0).length = (g.at_ i).done := by simp; omega
  refine g_skip ?_
  refine n_then ?_
  have S := ((S.nil.cons S 1 rfl).cons S 0 rfl).cons S 4 rfl
  refine gsr ?_
  refine ga S fun a S => ?_
  refine gnt ?_
  refine g_seq ?_
  refine g_seq ?_
  refine region_st (loud := []) (tails := []) (free := []) [0, 1, 2, 3, 4, 5, 6, 7, 8, 9, 10, 11, 12, 13, 14, 15, 16, 17, 18, 19, 20, 21, 22] [] Fmo (by kernel_rfl) (by kernel_rfl) rfl H ?_
  refine m_w rfl rfl (wn rfl) rfl rfl S (fun w H => y_move rfl S rfl) fun a S => ?_
  refine m_w rfl rfl (wn rfl) rfl rfl S (fun w H => y_nilCheck rfl S rfl) fun a S => ?_
  refine m_w rfl rfl (wn rfl) rfl rfl S (fun w H => y_faddrb rfl Ffo52_0 S rfl) fun a S => ?_
  refine m_w rfl rfl (wn rfl) rfl rfl S (fun w H => y_load rfl Fsca50 S H rfl rfl) fun a S => ?_
  refine m_w rfl rfl (wn rfl) rfl rfl S (fun w H => y_move rfl S rfl) fun a S => ?_
  refine m_w rfl rfl (wn rfl) rfl rfl S (fun w H => y_iaddrn rfl Try.underlying50 Fsiz53 S H rfl rfl (by first | assumption | omega | (simp only [List.length_range]; omega) | (simp only [List.length_replicate]; omega) | (simp only [List.length_cons]; omega) | (simp only [LL]; omega))) fun a S => ?_
  refine m_w rfl rfl (wn rfl) rfl rfl S (fun w H => (y_loadsD c.pv 0 rfl Fsca53 S H rfl (by simp only [List.length_range]; omega) (ldPt hi))) fun a S => ?_
  refine m_w rfl rfl (wn rfl) rfl rfl S (fun w H => y_nilCheck rfl S rfl) fun a S => ?_
  refine m_w rfl rfl (wn rfl) rfl rfl S (fun w H => y_faddrb rfl Ffo58_2 S rfl) fun a S => ?_
  refine m_w rfl rfl (wn rfl) rfl rfl S (fun w H => y_load rfl Fsca54 S H rfl rfl) fun a S => ?_
  
  refine m_w rfl rfl (wn rfl) rfl rfl S (fun w H => y_move rfl S rfl) fun a S => ?_
  refine m_w rfl rfl (wn rfl) rfl rfl S (fun w H => y_nilCheck rfl S rfl) fun a S => ?_
  refine m_w rfl rfl (wn rfl) rfl rfl S (fun w H => y_faddrb rfl Ffo52_0 S rfl) fun a S => ?_
  refine m_w rfl rfl (wn rfl) rfl rfl S (fun w H => y_load rfl Fsca50 S H rfl rfl) fun a S => ?_
  refine m_w rfl rfl (wn rfl) rfl rfl S (fun w H => y_move rfl S rfl) fun a S => ?_
  refine m_w rfl rfl (wn rfl) rfl rfl S (fun w H => y_iaddrn rfl Try.underlying50 Fsiz53 S H rfl rfl (by first | assumption | omega | (simp only [List.length_range]; omega) | (simp only [List.length_replicate]; omega) | (simp only [List.length_cons]; omega) | (simp only [LL]; omega))) fun a S => ?_
  refine m_w rfl rfl (wn rfl) rfl rfl S (fun w H => (y_loadsD c.pv 0 rfl Fsca53 S H rfl (by simp only [List.length_range]; omega) (ldPt hi))) fun a S => ?_
  refine m_w rfl rfl (wn rfl) rfl rfl S (fun w H => y_nilCheck rfl S rfl) fun a S => ?_
  refine m_w rfl rfl (wn rfl) rfl rfl S (fun w H => y_faddrb rfl Ffo58_5 S rfl) fun a S => ?_
  refine m_w rfl rfl (wn rfl) rfl rfl S (fun w H => y_load rfl Fsca3 S H rfl rfl) fun a S => ?_
  refine m_w rfl rfl (wn rfl) rfl rfl S (fun w H => y_sliceH rfl Try.underlying54 Fsiz87 S H rfl rfl (by first | assumption | omega | (simp only [List.length_range]; omega) | (simp only [List.length_replicate]; omega) | (simp only [List.length_cons]; omega) | (simp only [LL]; omega))) fun a S => ?_
  refine m_w rfl rfl (wn rfl) rfl rfl S (fun w H => y_lens rfl Try.underlying54 S H rfl) fun a S => ?_
  
  refine m_w rfl rfl (wn rfl) rfl rfl S (fun w H => y_move rfl S rfl) fun a S => ?_
  refine m_nil (fun w H => ?_)
  refine n_then ?_
  have S := ((((S.nil.cons S 4 rfl).cons S 5 rfl).cons S 32 rfl).cons S 33 rfl).cons S 34 rfl
  refine g_block ?_
  have SU := ((S.nil.cons S 4 rfl).cons S 32 rfl).cons S 33 rfl
  refine loopW (X := Nat × Value) SU (fun x => [(5, x.2), (34, .int .i64 (x.1 : Int))]) (fun x w => x.1 ≤ (((g.at_ i).log.take (g.at_ i).done).drop 0).length ∧ HSat No w0 (OSl 9 x.2 1 encS (((((g.at_ i).log.take (g.at_ i).done).drop 0).map Ent.txt).take x.1) :: GCel c :: GPts c n :: Atom.ro (PrsA c n g z) :: Atom.ro (BagA 2 Ent.enc z.bag) :: []) w) (fun x => (((g.at_ i).log.take (g.at_ i).done).drop 0).length - x.1) (0, .slice none 0 0) ((S.nil.cons S 34 rfl).cons S 5 rfl) (⟨Nat.zero_le _, H.nilO 9 1 encS⟩) (fun x a w S hW => ?_)
  simp only [List.cons_append, List.nil_append] at S
  obtain ⟨k, s⟩ := x
  obtain ⟨hk, H⟩ := hW
  dsimp only at S H hk
  refine gsr ?_
  refine gy rfl rfl rfl S (y_bin rfl S rfl rfl rfl) fun a S => ?_
  refine gnt ?_
  refine g_seq ?_
  refine c_if S rfl (fun h2 => ?_) (fun h2 => ?_)
  ·have h2p := h2; try simp only [DL] at h2p
   refine g_skip ?_
   refine n_then ?_
   refine g_seq ?_
   refine g_block ?_
   refine gsr ?_
   refine gy rfl rfl rfl S (y_iaddrn rfl Try.underlying54 Fsiz87 S H rfl rfl (by first | assumption | omega | (simp only [List.length_range]; omega) | (simp only [List.length_replicate]; omega) | (simp only [List.length_cons]; omega) | (simp only [LL]; omega))) fun a S => ?_
   refine gy rfl rfl rfl S (y_loadsa _ rfl S H rfl (by exact Fagg87) (by first | assumption | omega | (simp only [List.length_range]; omega) | (simp only [List.length_replicate]; omega) | (simp only [List.length_cons]; omega) | (simp only [LL]; omega))) fun a S => ?_
   refine wl_of (op_alloc (wn rfl) rfl rfl rfl S H Fzer87 fun b7 a w S H => ?_)
   refine wl_of (op_storea (wn rfl) rfl rfl S H rfl rfl rfl Fsiz87 rfl (cs' := [_, _]) rfl fun a w S H => ?_)
   refine gnt ?_
   refine g_region ?_
   refine gm S fun a S => ?_
   refine gy rfl rfl rfl S (y_faddrb rfl Ffo87_1 S rfl) fun a S => ?_
   refine gy rfl rfl rfl S (y_load rfl Fsca9 S H rfl rfl) fun a S => ?_
   refine wl_of (op_buildSlice (wn rfl) rfl rfl rfl Try.underlying39 Finf9 S H (idx := [0]) rfl rfl rfl (z := [.string ⟨#[]⟩]) (by kernel_rfl) (cs := [_]) rfl fun b41 a w S H => ?_)
   refine wl_of (op_append ([(((g.at_ i).log.take (g.at_ i).done).drop 0)[k].txt]) (wn rfl) rfl rfl rfl Try.underlying39 Finf9 rfl rfl S H rfl rfl rfl rfl (by simp) (by simp [encS]) (by simp [encS, Value.oneCell']) (by simp only [List.length_take, List.length_map, List.length_singleton]; omega) (by simp only [List.length_take, List.length_map, List.length_singleton]; omega) fun u42 a w hn42 S H => ?_)
   refine ga S fun a S => ?_
   refine gl_nil ?_
   refine n_block ?_
   refine n_then ?_
   have S := ((((S.nil.cons S 4 rfl).cons S 32 rfl).cons S 33 rfl).cons S 34 rfl).cons S 5 rfl
   refine g_region ?_
   refine gy rfl rfl rfl S (y_add rfl S rfl rfl (by omega)) fun a S => ?_
   refine gm S fun a S => ?_
   refine gnt ?_
   have ht : ((((g.at_ i).log.take (g.at_ i).done).drop 0).map Ent.txt).take k ++ [(((g.at_ i).log.take (g.at_ i).done).drop 0)[k].txt] = ((((g.at_ i).log.take (g.at_ i).done).drop 0).map Ent.txt).take (k + 1) := by rw [List.take_succ_eq_append_getElem (by rw [List.length_map]; omega), List.getElem_map]
   rw [ht] at H
   exact ⟨(k + 1, u42), (S.nil.cons S 34 rfl).cons S 5 rfl, ((S.nil.cons S 4 rfl).cons S 32 rfl).cons S 33 rfl, ⟨by dsimp only; omega, H.takeT [OSl 9 u42 1 encS (((((g.at_ i).log.take (g.at_ i).done).drop 0).map Ent.txt).take (k + 1)), GCel c, GPts c n, Atom.ro (PrsA c n g z), Atom.ro (BagA 2 Ent.enc z.bag)] []⟩, by dsimp only; omega⟩
  ·have h2p := h2; try simp only [DL] at h2p
   refine g_exit ?_
   refine x_then (x_then (x_eq ?_))
   refine n_then ?_
   have S := (S.nil.cons S 4 rfl).cons S 5 rfl
   refine gsr ?_
   refine gm S fun a S => ?_
   refine ga S fun a S => ?_
   refine gnt ?_
   refine g_ret ?_
   refine ret1 rfl S rfl ?_
   obtain rfl : k = (((g.at_ i).log.take (g.at_ i).done).drop 0).length := by omega
   rw [List.take_of_length_le (by rw [List.length_map]; omega), List.drop_zero] at H
   unfold comR; rw [if_pos hin]; exact H.take [OSl 9 s 1 encS (((g.at_ i).log.take (g.at_ i).done).map Ent.txt)]
theorem newGrpO {w w0 : World} {M : Nat → Prop} {l : List Atom} {b qb n : Nat} {v : Value} {pb : Nat → Nat} (H : HSat M w0 (Cel b 52 [v, .map (some qb)] :: OSl 53 v 1 (encPt pb) (List.range n) :: FamA (List.range n) (fun i => PeerA (pb i) PV.z Peer.z) :: MapA qb kQ eV (fun _ => none) 0 :: l) w) (hn : n ≤ 7) :
    ∃ c z, c.b = b ∧ HSat M w0 (GrpA c n (Grp.z n) z :: Cel c.b 52 [c.pv, .map (some c.qb)] :: OSl 53 c.pv 1 (encPt c.pb) (List.range n) :: l) w := by
  have h3 : HSat M w0 (FamA (List.range n) (fun i => PeerA (pb i) PV.z Peer.z) :: MapA qb kQ eV (fun _ => none) 0 :: (Cel b 52 [v, .map (some qb)] :: OSl 53 v 1 (encPt pb) (List.range n) :: l)) w :=
    H.perm ((List.perm_append_comm (l₁ := [Cel b 52 [v, .map (some qb)], OSl 53 v 1 (encPt pb) (List.range n)]) (l₂ := [FamA (List.range n) (fun i => PeerA (pb i) PV.z Peer.z), MapA qb kQ eV (fun _ => none) 0])).append_right l)
  have h4 := quesNil (h3.bagNil 2 Ent.enc) n
  refine ⟨⟨b, v, qb, pb⟩, ⟨fun _ => PV.z, fun _ => none, 0, fun _ _ => [], [(.slice none 0 0, [])]⟩, rfl, grpIn (c := ⟨b, v, qb, pb⟩) (g := Grp.z n) ?_ ⟨Grp.z_n n, hn, fun i _ => by rw [Grp.z_at]; exact List.mem_singleton.2 rfl, fun _ _ => rfl, fun _ _ m hm => (by cases hm), fun i _ h => (by rw [Grp.z_at] at h; cases h), fun i _ h => (by rw [Grp.z_at] at h; cases h), fun p hp => by rw [List.mem_singleton.1 hp]; exact Nat.le_refl 0⟩⟩
  have h5 : HSat M w0 (FamA (List.range n) (fun i => PeerA (pb i) PV.z Peer.z) :: MapA qb kQ eV (fun _ => none) 0 :: QuesA n (fun _ => none) (fun _ _ => []) :: BagA 2 Ent.enc [(.slice none 0 0, [])] :: (Cel b 52 [v, .map (some qb)] :: OSl 53 v 1 (encPt pb) (List.range n) :: l)) w :=
    h4.perm ((List.perm_append_comm (l₁ := [QuesA n (fun _ => none) (fun _ _ => []), BagA 2 Ent.enc [(.slice none 0 0, [])]]) (l₂ := [FamA (List.range n) (fun i => PeerA (pb i) PV.z Peer.z), MapA qb kQ eV (fun _ => none) 0])).append_right (Cel b 52 [v, .map (some qb)] :: OSl 53 v 1 (encPt pb) (List.range n) :: l))
  exact h5.famEq (fun j hj => by rw [Grp.z_at])
set_option maxHeartbeats 1000000 in
/-- foyer/replica.New -/
theorem new_spec (m : Int) (w0 : World) :
    Ret Try.prog 10 #[.int .i64 m] w0 (fun u w => (¬ (1 ≤ m ∧ m ≤ 7) → u = .tuple #[.pointer none, .int .i64 1] ∧ Ext w0 w) ∧ (1 ≤ m ∧ m ≤ 7 → ∃ c z, u = .tuple #[.pointer (some ⟨c.b, 0, none⟩), .int .i64 0] ∧ HSat No w0 [GrpA c m.toNat (Grp.z m.toNat) z, Cel c.b 52 [c.pv, .map (some c.qb)], OSl 53 c.pv 1 (encPt c.pb) (List.range m.toNat)] w)) := by
 refine ret_of_wp (nt := 30) Try.func10 rfl rfl rfl (fl := [(0, .int .i64 m)]) rfl (fun a S => ?_)
 have H := HSat.start w0
 refine gsr ?_
 refine ga S fun a S => ?_
 refine ga S fun a S => ?_
 refine gnt ?_
 refine g_seq ?_
 refine gsr ?_
 refine gm S fun a S => ?_
 refine gy rfl rfl rfl S (y_bin rfl S rfl rfl rfl) fun a S => ?_
 refine gm S fun a S => ?_
 refine' wl_or 2 7 rfl S H rfl rfl rfl rfl rfl rfl rfl (fun _ S => (wn rfl)) (fun h1 kk => ?yh1) (fun a w S H => ?_)
 case yh1 =>
  have h1p := h1; try simp only [DL] at h1p
  refine gz 7 h1 S rfl rfl rfl rfl rfl rfl (y_move rfl S rfl) fun a S => ?_
  refine gz 7 h1 S rfl rfl rfl rfl rfl rfl (y_bin rfl S rfl rfl rfl) fun a S => ?_
  refine gy rfl rfl rfl S (y_or' rfl h1 S rfl rfl) fun a S => ?_
  exact kk _ _ (S.join 3 10 rfl rfl) H
 refine gnt ?_
 refine c_if S rfl (fun h2 => ?_) (fun h2 => ?_)
 ·have h2p := h2; try simp only [DL] at h2p
  have hbad : ¬ (1 ≤ m ∧ m ≤ 7) := by have := h2p; omega
  refine gsr ?_
  refine ga S fun a S => ?_
  refine ga S fun a S => ?_
  refine gnt ?_
  have S := ((S.nil.cons S 0 rfl).cons S 2 rfl).cons S 3 rfl
  refine g_ret ?_
  refine r_then (ret2 rfl S rfl rfl ?_)
  exact ⟨fun _ => ⟨rfl, H.toExt⟩, fun h => absurd h hbad⟩
 ·have h2p := h2; try simp only [DL] at h2p
  have hgood : 1 ≤ m ∧ m ≤ 7 := by have := h2p; omega
  obtain ⟨n, rfl⟩ : ∃ n : Nat, m = (n : Int) := ⟨m.toNat, by omega⟩
  refine g_skip ?_
  refine n_then ?_
  have S := ((S.nil.cons S 0 rfl).cons S 2 rfl).cons S 3 rfl
  refine gsr ?_
  refine wl_of (op_makeMap (kQ) (eV) (wn rfl) rfl rfl rfl S H fun b11 a w S H => ?_)
  refine gy rfl rfl rfl S (y_buildf rfl Fbld52 S rfl (idx := [1]) rfl (cs := [.slice none 0 0, .map (some b11)]) rfl) fun a S => ?_
  refine wl_of (op_boxa (wn rfl) rfl rfl rfl S H rfl fun b13 a w S H => ?_)
  refine ga S fun a S => ?_
  refine gnt ?_
  refine g_seq ?_
  refine gsr ?_
  refine gm S fun a S => ?_
  refine gm S fun a S => ?_
  refine gnt ?_
  have S := ((((S.nil.cons S 2 rfl).cons S 3 rfl).cons S 4 rfl).cons S 14 rfl).cons S 15 rfl
  refine g_block ?_
  have SU := (((S.nil.cons S 2 rfl).cons S 3 rfl).cons S 4 rfl).cons S 14 rfl
  refine loopW (X := Nat × Value × (Nat → Nat)) SU (fun x => [(15, .int .i64 (x.1 : Int))]) (fun x w => x.1 ≤ n ∧ HSat No w0 (Cel b13 52 [x.2.1, .map (some b11)] :: OSl 53 x.2.1 1 (encPt x.2.2) (List.range x.1) :: FamA (List.range x.1) (fun i => PeerA (x.2.2 i) PV.z Peer.z) :: MapA b11 kQ eV (fun _ => none) 0 :: []) w) (fun x => n - x.1) (0, .slice none 0 0, fun _ => 0) (S.nil.cons S 15 rfl) (⟨Nat.zero_le _, by have h := ((H.famNil (fun i : Nat => PeerA ((fun _ : Nat => 0) i) PV.z Peer.z)).nilO 53 1 (encPt fun _ : Nat => 0)); exact h.take [Cel b13 52 [.slice none 0 0, .map (some b11)], OSl 53 (.slice none 0 0) 1 (encPt fun _ : Nat => 0) [], FamA [] (fun i : Nat => PeerA ((fun _ : Nat => 0) i) PV.z Peer.z), MapA b11 kQ eV (fun _ => none) 0]⟩) (fun x a w S hW => ?_)
  simp only [List.cons_append, List.nil_append] at S
  obtain ⟨k, v, pb⟩ := x
  obtain ⟨hk, H⟩ := hW
  dsimp only at S H hk
  refine gsr ?_
  refine gy rfl rfl rfl S (y_bin rfl S rfl rfl rfl) fun a S => ?_
  refine gnt ?_
  refine g_seq ?_
  refine c_if S rfl (fun h3 => ?_) (fun h3 => ?_)
  ·have h3p := h3; try simp only [DL] at h3p
   refine g_skip ?_
   refine n_then ?_
   refine g_seq ?_
   refine g_block ?_
   refine g_region ?_
   refine gm S fun a S => ?_
   refine gm S fun a S => ?_
   refine gy rfl rfl rfl S (y_nilCheck rfl S rfl) fun a S => ?_
   refine gy rfl rfl rfl S (y_faddrb rfl Ffo52_0 S rfl) fun a S => ?_
   refine gy rfl rfl rfl S (y_load rfl Fsca50 S H rfl rfl) fun a S => ?_
   refine gy rfl rfl rfl S (y_buildf rfl Fbld58 S rfl (idx := [1, 4]) rfl (cs := [.int .i64 0, .int .i64 (-1), .slice none 0 0, .bool false, .string ⟨#[102, 111, 108, 108, 111, 119, 101, 114]⟩, .int .i64 0, .map none, .map none]) rfl) fun a S => ?_
   refine wl_of (op_boxa (wn rfl) rfl rfl rfl S H rfl fun b23 a w S H => ?_)
   have H := oslEnc (H.front (OSl 53 v 1 (encPt pb) (List.range k))) (encPt (fun x => if x = k then b23 else pb x)) (fun x hx => by have := List.mem_range.1 hx; unfold encPt; dsimp only; rw [if_neg (by omega)])
   refine wl_of (op_buildSlice (wn rfl) rfl rfl rfl Try.underlying50 Finf53 S H (idx := [0]) rfl rfl rfl (z := [.pointer none]) (by kernel_rfl) (cs := [.pointer (some ⟨b23, 0, none⟩)]) rfl fun b24 a w S H => ?_)
   refine wl_of (op_append (enc := encPt (fun x => if x = k then b23 else pb x)) [k] (wn rfl) rfl rfl rfl Try.underlying50 Finf53 rfl rfl S H rfl rfl rfl (by simp [encPt]) (by simp) (by simp [encPt]) (by simp [encPt, Value.oneCell']) (by simp only [List.length_range, List.length_singleton]; omega) (by simp only [List.length_range, List.length_singleton]; omega) fun u25 a w hn25 S H => ?_)
   refine gy rfl rfl rfl S (y_nilCheck rfl S rfl) fun a S => ?_
   refine gy rfl rfl rfl S (y_faddrb rfl Ffo52_0 S rfl) fun a S => ?_
   refine wl_of (op_store (wn rfl) rfl rfl S H rfl rfl (H.sl1 _) Fsiz50 rfl fun a w S H => ?_)
   dsimp only [List.set, Nat.zero_add, Nat.reduceAdd] at H
   refine gl_nil ?_
   refine n_block ?_
   refine n_then ?_
   have S := ((((S.nil.cons S 2 rfl).cons S 3 rfl).cons S 4 rfl).cons S 14 rfl).cons S 15 rfl
   refine g_region ?_
   refine gy rfl rfl rfl S (y_add rfl S rfl rfl (by omega)) fun a S => ?_
   refine gm S fun a S => ?_
   refine gnt ?_
   have H := newPeer (H.takeT [Cel b23 58 [.int .i64 0, .int .i64 (-1), .slice none 0 0, .bool false, .string ⟨#[102, 111, 108, 108, 111, 119, 101, 114]⟩, .int .i64 0, .map none, .map none], FamA (List.range k) (fun i => PeerA (pb i) PV.z Peer.z), Cel b13 52 [u25, .map (some b11)], OSl 53 u25 1 (encPt (fun x => if x = k then b23 else pb x)) (List.range k ++ [k]), MapA b11 kQ eV (fun _ => none) 0] [])
   have H := H.famSnoc (k := k) (fun i => PeerA (if i = k then b23 else pb i) PV.z Peer.z) rfl (by rw [if_pos rfl]) (fun j hj => by have := List.mem_range.1 hj; rw [if_neg (by omega)])
   rw [← List.range_succ] at H
   simp only [List.append_eq, List.append_nil, Nat.succ_eq_add_one] at H
   exact ⟨(k + 1, u25, fun x => if x = k then b23 else pb x), S.nil.cons S 15 rfl, (((S.nil.cons S 2 rfl).cons S 3 rfl).cons S 4 rfl).cons S 14 rfl, ⟨by dsimp only; omega, H.take [Cel b13 52 [u25, .map (some b11)], OSl 53 u25 1 (encPt (fun x => if x = k then b23 else pb x)) (List.range (k + 1)), FamA (List.range (k + 1)) (fun i => PeerA (if i = k then b23 else pb i) PV.z Peer.z), MapA b11 kQ eV (fun _ => none) 0]⟩, by dsimp only; omega⟩
  ·have h3p := h3; try simp only [DL] at h3p
   refine g_exit ?_
   refine x_then (x_then (x_eq ?_))
   refine n_then ?_
   refine gsr ?_
   refine gm S fun a S => ?_
   refine ga S fun a S => ?_
   refine ga S fun a S => ?_
   refine gnt ?_
   have S := (S.nil.cons S 2 rfl).cons S 3 rfl
   refine g_ret ?_
   refine ret2 rfl S rfl rfl ?_
   obtain rfl : n = k := by omega
   refine ⟨fun h => absurd hgood h, fun _ => ?_⟩
   obtain ⟨c, z, hc, H2⟩ := newGrpO H (by omega)
   rw [← hc]
   exact ⟨c, z, rfl, by rw [Int.toNat_natCast]; exact H2⟩
theorem new_bad (m : Int) (w0 : World) (h : ¬ (1 ≤ m ∧ m ≤ 7)) : Ret Try.prog 10 #[.int .i64 m] w0 (fun u w => u = .tuple #[.pointer none, .int .i64 1] ∧ Ext w0 w) := (new_spec m w0).mono fun u w hh => hh.1 h
theorem new_ok {M : Nat → Prop} {u0 : World} {l : List Atom} (n : Nat) (w0 : World) (H : HSat M u0 l w0) (h : 1 ≤ n ∧ n ≤ 7) : Ret Try.prog 10 #[.int .i64 (n : Int)] w0 (fun u w => ∃ c z, u = .tuple #[.pointer (some ⟨c.b, 0, none⟩), .int .i64 0] ∧ HSat M u0 (GrpA c n (Grp.z n) z :: GCel c :: GPts c n :: l) w) := (new_spec (n : Int) w0).mono fun u w hh => by
  obtain ⟨c, z, e, H1⟩ := hh.2 (by omega)
  rw [Int.toNat_natCast] at H1
  have H2 := H.call3 H1 rfl rfl rfl
  exact ⟨c, z, e, ((H2.perm (List.perm_append_comm (l₁ := [GrpA c n (Grp.z n) z]) (l₂ := [Cel c.b 52 [c.pv, .map (some c.qb)], OSl 53 c.pv 1 (encPt c.pb) (List.range n)]) |>.append_right l)).freeze.swap2.freeze.perm ((List.perm_append_comm (l₁ := [GPts c n, GCel c]) (l₂ := [GrpA c n (Grp.z n) z]) |>.append_right l).trans (.cons _ (.swap _ _ _))))⟩
end Go.Proofs.Ytbjknckddoegfaa
