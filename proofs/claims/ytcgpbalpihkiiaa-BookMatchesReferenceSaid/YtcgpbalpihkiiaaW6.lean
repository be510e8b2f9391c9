/- The walks. No condition. -/
import Derived.Test.YtcgpbalpihkiiaaChecked
import Derived.Test.YtcgpbalpihkiiaaGwIns
import Derived.Test.YtcgpbalpihkiiaaFacts
import Derived.Test.YtcgpbalpihkiiaaPlain
import Derived.Test.YtcgpbalpihkiiaaW4
namespace Go.Proofs.Ytcgpbalpihkiiaa
open Go Go.Gw
set_option linter.unusedVariables false
set_option linter.unusedSimpArgs false
/-- the reference's book in memory -/
def RBL (b : Nat) (vo vi : Value) (r : RB) : List Atom := [Cel b 54 [vo, vi], OSl 29 vo 5 Ord.enc (r.opn), OSl 3 vi 1 encI (r.ids)]
theorem RBL_own (b : Nat) (vo vi : Value) (r : RB) : ∀ x ∈ RBL b vo vi r, x.own = true := by simp [RBL, OSl, Blk]
/-- foyer/foyerref33.New -/
theorem rnew_spec (w0 : World) :
    Ret Try.prog 10 #[] w0 (fun u w => ∃ b, u = .pointer (some ⟨b, 0, none⟩) ∧ HSat No w0 (RBL b (.slice none 0 0) (.slice none 0 0) RB.z) w) := by
 refine ret_of_wp (nt := 3) Try.func10 rfl rfl rfl (fl := []) rfl (fun a S => ?_)
 have H := HSat.start w0
 refine gsr ?_
 refine ga S fun a S => ?_
 refine gnt ?_
 refine gsr ?_
 refine gy rfl rfl rfl S (y_buildf rfl Fbld54 S rfl (idx := []) rfl (cs := [.slice none 0 0, .slice none 0 0]) (by kernel_rfl)) fun a S => ?_
 refine wl_of (op_boxa (wn rfl) rfl rfl rfl S H rfl fun b2 a w S H => ?_)
 refine ga S fun a S => ?_
 refine gnt ?_
 refine g_ret ?_
 refine ret1 rfl S rfl ?_
 exact ⟨_, rfl, ((H.nilO 29 5 Ord.enc).nilO 3 1 encI).take [Cel b2 54 [.slice none 0 0, .slice none 0 0], OSl 29 (.slice none 0 0) 5 Ord.enc [], OSl 3 (.slice none 0 0) 1 encI []]⟩
/-- (*foyer/foyerref33.Book).Orders -/
theorem rorders_spec {M : Nat → Prop} {u0 : World} {l : List Atom} (b : Nat) (vo vi : Value) (r : RB) (w0 : World) (h0 : HSat M u0 (RBL b vo vi r ++ l) w0) :
    Ret Try.prog 17 #[.pointer (some ⟨b, 0, none⟩)] w0 (fun u w => u = vo ∧ HSat M u0 (RBL b vo vi r ++ l) w) := by
 refine ret_of_wp (nt := 9) Try.func17 rfl rfl rfl (fl := [(0, .pointer (some ⟨b, 0, none⟩))]) rfl (fun a S => ?_)
 have H := h0
 simp only [RBL, List.cons_append, List.nil_append] at H
 refine gsr ?_
 refine ga S fun a S => ?_
 refine gnt ?_
 refine g_seq ?_
 refine gsr ?_
 refine gm S fun a S => ?_
 refine gy rfl rfl rfl S (y_eqp rfl Try.underlying26 S rfl rfl) fun a S => ?_
 refine gnt ?_
 refine c_if S rfl (fun h1 => ?_) (fun h1 => ?_)
 ·have h1p := h1; try simp only [DL] at h1p
  all_goals (
    exact absurd h1 (by simp))
 ·have h1p := h1; try simp only [DL] at h1p
  refine g_skip ?_
  refine n_then ?_
  refine gsr ?_
  refine gm S fun a S => ?_
  refine gy rfl rfl rfl S (y_nilCheck rfl S rfl) fun a S => ?_
  refine gy rfl rfl rfl S (y_faddrb rfl Ffo54_0 S rfl) fun a S => ?_
  refine gy rfl rfl rfl S (y_load rfl Fsca39 S H rfl rfl) fun a S => ?_
  refine ga S fun a S => ?_
  refine gnt ?_
  have S := S.nil.cons S 2 rfl
  refine g_ret ?_
  refine ret1 rfl S rfl ?_
  exact ⟨rfl, H⟩
set_option maxHeartbeats 1000000 in
/-- (*foyer/foyerref33.Book).Cancel -/
theorem rcancel_spec {M : Nat → Prop} {u0 : World} {l : List Atom} (b : Nat) (vo vi : Value) (r : RB) (i : Int) (p : ByteArray) (w0 : World) (h0 : HSat M u0 (RBL b vo vi r ++ l) w0) (hlo : r.opn.length ≤ 2000) :
    Ret Try.prog 12 #[.pointer (some ⟨b, 0, none⟩), .int .i64 i, .string p] w0 (fun u w => u = .int .i64 (rcancelR r i p) ∧ ∃ vo', HSat M u0 (RBL b vo' vi (rcancelS r i p) ++ l) w) := by
 refine ret_of_wp (nt := 58) Try.func12 rfl rfl rfl (fl := [(0, .pointer (some ⟨b, 0, none⟩)), (1, .int .i64 i), (2, .string p)]) rfl (fun a S => ?_)
 have H := h0
 simp only [RBL, List.cons_append, List.nil_append] at H
 refine gsr ?_
 refine ga S fun a S => ?_
 refine gnt ?_
 refine g_seq ?_
 refine gsr ?_
 refine gm S fun a S => ?_
 refine gy rfl rfl rfl S (y_eqp rfl Try.underlying26 S rfl rfl) fun a S => ?_
 refine gnt ?_
 refine c_if S rfl (fun h1 => ?_) (fun h1 => ?_)
 ·have h1p := h1; try simp only [DL] at h1p
  all_goals (
    exact absurd h1 (by simp))
 ·have h1p := h1; try simp only [DL] at h1p
  refine g_skip ?_
  refine n_then ?_
  refine g_seq ?_
  refine gsr ?_
  refine ga S fun a S => ?_
  refine gnt ?_
  refine g_block ?_
  have SU := ((S.nil.cons S 2 rfl).cons S 1 rfl).cons S 0 rfl
  refine loopW (X := Nat) SU (fun k => [(7, .int .i64 (k : Int))]) (fun k w => k ≤ r.opn.length ∧ (∀ q (hq : q < r.opn.length), q < k → idP i r.opn[q] = false) ∧ HSat M u0 (Cel b 54 [vo, vi] :: OSl 29 vo 5 Ord.enc (r.opn) :: OSl 3 vi 1 encI (r.ids) :: l) w) (fun k => r.opn.length - k) 0 (S.nil.cons S 7 rfl) (⟨Nat.zero_le _, fun q hq h => by omega, H⟩) (fun k a w S hW => ?_)
  simp only [List.cons_append, List.nil_append] at S
  obtain ⟨hk, hno, H⟩ := hW
  refine g_seq ?_
  refine gsr ?_
  refine gm S fun a S => ?_
  refine gm S fun a S => ?_
  refine gy rfl rfl rfl S (y_nilCheck rfl S rfl) fun a S => ?_
  refine gy rfl rfl rfl S (y_faddrb rfl Ffo54_0 S rfl) fun a S => ?_
  refine gy rfl rfl rfl S (y_load rfl Fsca39 S H rfl rfl) fun a S => ?_
  refine gy rfl rfl rfl S (y_lens rfl Try.underlying39 S H rfl) fun a S => ?_
  refine gy rfl rfl rfl S (y_bin rfl S rfl rfl rfl) fun a S => ?_
  refine gnt ?_
  have S := ((((S.nil.cons S 2 rfl).cons S 1 rfl).cons S 0 rfl).cons S 7 rfl).cons S 16 rfl
  refine c_if S rfl (fun h2 => ?_) (fun h2 => ?_)
  ·have h2p := h2; try simp only [DL] at h2p
   have hkl : k < r.opn.length := by omega
   refine g_skip ?_
   refine n_then ?_
   refine g_seq ?_
   refine g_block ?_
   refine gsr ?_
   refine gm S fun a S => ?_
   refine gy rfl rfl rfl S (y_nilCheck rfl S rfl) fun a S => ?_
   refine gy rfl rfl rfl S (y_faddrb rfl Ffo54_0 S rfl) fun a S => ?_
   refine gy rfl rfl rfl S (y_load rfl Fsca39 S H rfl rfl) fun a S => ?_
   refine gm S fun a S => ?_
   refine gy rfl rfl rfl S (y_iaddrn rfl Try.underlying39 Fsiz29 S H rfl rfl (by first | assumption | omega | (simp only [LL]; omega))) fun a S => ?_
   refine gy rfl rfl rfl S (y_faddr rfl Ffo29_0 S rfl) fun a S => ?_
   refine gy rfl rfl rfl S (y_loadsf _ rfl Fsca3 S H rfl (by first | assumption | omega | (simp only [LL]; omega)) rfl) fun a S => ?_
   refine gm S fun a S => ?_
   refine gy rfl rfl rfl S (y_bin rfl S rfl rfl rfl) fun a S => ?_
   refine gnt ?_
   have S := ((((S.nil.cons S 2 rfl).cons S 1 rfl).cons S 0 rfl).cons S 7 rfl).cons S 28 rfl
   refine c_if S rfl (fun h3 => ?_) (fun h3 => ?_)
   ·have h3p := h3; try simp only [DL] at h3p
    have hpk : idP i r.opn[k] = true := h3
    have hc := rcan_at (p := p) hkl hpk hno
    refine g_seq ?_
    refine gsr ?_
    refine gm S fun a S => ?_
    refine gy rfl rfl rfl S (y_nilCheck rfl S rfl) fun a S => ?_
    refine gy rfl rfl rfl S (y_faddrb rfl Ffo54_0 S rfl) fun a S => ?_
    refine gy rfl rfl rfl S (y_load rfl Fsca39 S H rfl rfl) fun a S => ?_
    refine gm S fun a S => ?_
    refine gy rfl rfl rfl S (y_iaddrn rfl Try.underlying39 Fsiz29 S H rfl rfl (by first | assumption | omega | (simp only [LL]; omega))) fun a S => ?_
    refine gy rfl rfl rfl S (y_faddr rfl Ffo29_3 S rfl) fun a S => ?_
    refine gy rfl rfl rfl S (y_loadsf _ rfl Fsca9 S H rfl (by first | assumption | omega | (simp only [LL]; omega)) rfl) fun a S => ?_
    refine gm S fun a S => ?_
    refine gy rfl rfl rfl S (y_nes rfl Try.underlying9 S rfl rfl) fun a S => ?_
    refine gnt ?_
    have S := ((((S.nil.cons S 2 rfl).cons S 1 rfl).cons S 0 rfl).cons S 7 rfl).cons S 38 rfl
    refine c_if S rfl (fun h4 => ?_) (fun h4 => ?_)
    ·have h4p := h4; try simp only [DL] at h4p
     have hc2 := hc.2 (by simpa using h4p)
     refine gsr ?_
     refine ga S fun a S => ?_
     refine gnt ?_
     refine g_ret ?_
     refine r_then (r_block (r_then (r_then (r_block (r_then (ret1 rfl S rfl ?_))))))
     exact ⟨congrArg (Value.int .i64) hc2.1.symm, vo, by rw [hc2.2]; exact H⟩
    ·have h4p := h4; try simp only [DL] at h4p
     have hc1 := hc.1 (by simpa using h4p)
     refine g_skip ?_
     refine n_then ?_
     refine g_seq ?_
     refine cut (fun a w => ∃ vo2, St 58 [] a ∧ HSat M u0 ([Cel b 54 [vo2, vi], OSl 29 vo2 5 Ord.enc (r.opn.eraseIdx k), OSl 3 vi 1 encI (r.ids)] ++ l) w) ?_ ?_
     ·skip
      refine t_st (tails := [8, 16, 19]) [] Fmo H ?_
      refine t_p 0 rfl (by kernel_rfl) (rem' := [1, 2, 3, 4, 5, 6, 7, 8, 9, 10, 11, 12, 13, 14, 15, 16, 17, 18, 19]) rfl rfl rfl rfl S (fun w => y_move rfl S rfl) fun a S => ?_
      refine t_q 2 rfl (by kernel_rfl) (rem' := [1, 3, 4, 5, 6, 7, 8, 9, 10, 11, 12, 13, 14, 15, 16, 17, 18, 19]) rfl rfl rfl rfl S (fun w H => y_move rfl S rfl) fun a S => ?_
      refine t_q 3 rfl (by kernel_rfl) (rem' := [1, 4, 5, 6, 7, 8, 9, 10, 11, 12, 13, 14, 15, 16, 17, 18, 19]) rfl rfl rfl rfl S (fun w H => y_nilCheck rfl S rfl) fun a S => ?_
      refine t_q 4 rfl (by kernel_rfl) (rem' := [1, 5, 6, 7, 8, 9, 10, 11, 12, 13, 14, 15, 16, 17, 18, 19]) rfl rfl rfl rfl S (fun w H => y_faddrb rfl Ffo54_0 S rfl) fun a S => ?_
      refine t_q 5 rfl (by kernel_rfl) (rem' := [1, 6, 7, 8, 9, 10, 11, 12, 13, 14, 15, 16, 17, 18, 19]) rfl rfl rfl rfl S (fun w H => y_load rfl Fsca39 S H rfl rfl) fun a S => ?_
      refine t_q 6 rfl (by kernel_rfl) (rem' := [1, 7, 8, 9, 10, 11, 12, 13, 14, 15, 16, 17, 18, 19]) rfl rfl rfl rfl S (fun w H => y_move rfl S rfl) fun a S => ?_
      refine t_q 7 rfl (by kernel_rfl) (rem' := [1, 8, 9, 10, 11, 12, 13, 14, 15, 16, 17, 18, 19]) rfl rfl rfl rfl S (fun w H => y_sliceH rfl Try.underlying39 Fsiz29 S H rfl rfl (by first | assumption | omega | (simp only [LL]; omega))) fun a S => ?_
      refine t_p 9 rfl (by kernel_rfl) (rem' := [1, 8, 10, 11, 12, 13, 14, 15, 16, 17, 18, 19]) rfl rfl rfl rfl S (fun w => y_move rfl S rfl) fun a S => ?_
      refine t_p 10 rfl (by kernel_rfl) (rem' := [1, 8, 11, 12, 13, 14, 15, 16, 17, 18, 19]) rfl rfl rfl rfl S (fun w => y_nilCheck rfl S rfl) fun a S => ?_
      refine t_p 11 rfl (by kernel_rfl) (rem' := [1, 8, 12, 13, 14, 15, 16, 17, 18, 19]) rfl rfl rfl rfl S (fun w => y_faddrb rfl Ffo54_0 S rfl) fun a S => ?_
      refine t_p 13 rfl (by kernel_rfl) (rem' := [1, 8, 12, 14, 15, 16, 17, 18, 19]) rfl rfl rfl rfl S (fun w => y_move rfl S rfl) fun a S => ?_
      refine t_p 14 rfl (by kernel_rfl) (rem' := [1, 8, 12, 15, 16, 17, 18, 19]) rfl rfl rfl rfl S (fun w => y_add rfl S rfl rfl (by omega)) fun a S => ?_
      refine t_b [1, 12] (by kernel_rfl) rfl (fa2 ?_ ?_)
      ·refine ⟨_, rfl, fun w H => ?_⟩
       refine op_buildSlice (wn rfl) rfl rfl rfl Try.underlying39 Finf29 S H (idx := []) rfl rfl rfl (z := []) (by kernel_rfl) (cs := []) rfl fun b40 a w S H => ?_
       have H := H.celO [] Ord.enc 5 (m := 0) rfl (by simp) rfl (by omega)
       refine t_n H (rem' := [8, 12, 15, 16, 17, 18, 19]) rfl ?_
       refine t_b [8, 12] (by kernel_rfl) rfl (fa2 ?_ ?_)
       ·refine ⟨_, rfl, fun w H => ?_⟩
        refine op_appendT (wn rfl) rfl rfl rfl Try.underlying39 Finf29 rfl rfl S H rfl rfl (by simp [Ord.enc, Value.oneCell']) (by simp only [List.length_append, List.length_drop, List.length_take, List.length_nil, List.length_cons]; omega) (by simp only [List.length_append, List.length_drop, List.length_take, List.length_nil, List.length_cons]; omega) fun u47 a w S H => ?_
        refine t_tail H rfl (rem' := [12, 15, 16, 17, 18, 19]) rfl ?_
        refine t_q 12 rfl (by kernel_rfl) (rem' := [15, 16, 17, 18, 19]) rfl rfl rfl rfl S (fun w H => y_load rfl Fsca39 S H rfl rfl) fun a S => ?_
        refine t_q 15 rfl (by kernel_rfl) (rem' := [16, 17, 18, 19]) rfl rfl rfl rfl S (fun w H => y_sliceL rfl Try.underlying39 Fsiz29 S H rfl rfl (by first | assumption | omega | (simp only [LL]; omega))) fun a S => ?_
        refine t_b1 16 (by kernel_rfl) rfl fun w H => ?_
        refine op_appendT (wn rfl) rfl rfl rfl Try.underlying39 Finf29 rfl rfl S H rfl rfl (by simp [Ord.enc, Value.oneCell']) (by simp only [List.length_append, List.length_drop, List.length_take, List.length_nil, List.length_cons]; omega) (by simp only [List.length_append, List.length_drop, List.length_take, List.length_nil, List.length_cons]; omega) fun u55 a w S H => ?_
        refine t_tail H rfl (rem' := [17, 18, 19]) rfl ?_
        refine t_q 17 rfl (by kernel_rfl) (rem' := [18, 19]) rfl rfl rfl rfl S (fun w H => y_nilCheck rfl S rfl) fun a S => ?_
        refine t_q 18 rfl (by kernel_rfl) (rem' := [19]) rfl rfl rfl rfl S (fun w H => y_faddrb rfl Ffo54_0 S rfl) fun a S => ?_
        refine t_b1 19 (by kernel_rfl) rfl fun w H => ?_
        refine op_store (wn rfl) rfl rfl S H rfl rfl (H.sl1 _) Fsiz39 rfl fun a w S H => ?_
        dsimp only [List.set, Nat.zero_add, Nat.reduceAdd] at H
        refine t_tail H rfl (rem' := []) rfl ?_
        refine t_nil (fun w H => ?_)
        rw [show ([] ++ (r.opn.take k).drop 0) ++ (r.opn.take r.opn.length).drop (k + 1) = r.opn.eraseIdx k by rw [List.eraseIdx_eq_take_drop_succ]; simp] at H
        exact ⟨u55, S.nil, H.takeT [Cel b 54 [u55, vi], OSl 29 u55 5 Ord.enc (r.opn.eraseIdx k), OSl 3 vi 1 encI (r.ids)] l⟩
       ·refine ⟨_, rfl, fun w H => ?_⟩
        refine op_y (wn rfl) rfl rfl S (y_load rfl Fsca39 S H rfl rfl) fun a S => ?_
        refine t_n H (rem' := [8, 15, 16, 17, 18, 19]) rfl ?_
        refine t_b [8, 15] (by kernel_rfl) rfl (fa2 ?_ ?_)
        ·refine ⟨_, rfl, fun w H => ?_⟩
         refine op_appendT (wn rfl) rfl rfl rfl Try.underlying39 Finf29 rfl rfl S H rfl rfl (by simp [Ord.enc, Value.oneCell']) (by simp only [List.length_append, List.length_drop, List.length_take, List.length_nil, List.length_cons]; omega) (by simp only [List.length_append, List.length_drop, List.length_take, List.length_nil, List.length_cons]; omega) fun u47 a w S H => ?_
         refine t_tail H rfl (rem' := [15, 16, 17, 18, 19]) rfl ?_
         refine t_q 15 rfl (by kernel_rfl) (rem' := [16, 17, 18, 19]) rfl rfl rfl rfl S (fun w H => y_sliceL rfl Try.underlying39 Fsiz29 S H rfl rfl (by first | assumption | omega | (simp only [LL]; omega))) fun a S => ?_
         refine t_b1 16 (by kernel_rfl) rfl fun w H => ?_
         refine op_appendT (wn rfl) rfl rfl rfl Try.underlying39 Finf29 rfl rfl S H rfl rfl (by simp [Ord.enc, Value.oneCell']) (by simp only [List.length_append, List.length_drop, List.length_take, List.length_nil, List.length_cons]; omega) (by simp only [List.length_append, List.length_drop, List.length_take, List.length_nil, List.length_cons]; omega) fun u55 a w S H => ?_
         refine t_tail H rfl (rem' := [17, 18, 19]) rfl ?_
         refine t_q 17 rfl (by kernel_rfl) (rem' := [18, 19]) rfl rfl rfl rfl S (fun w H => y_nilCheck rfl S rfl) fun a S => ?_
         refine t_q 18 rfl (by kernel_rfl) (rem' := [19]) rfl rfl rfl rfl S (fun w H => y_faddrb rfl Ffo54_0 S rfl) fun a S => ?_
         refine t_b1 19 (by kernel_rfl) rfl fun w H => ?_
         refine op_store (wn rfl) rfl rfl S H rfl rfl (H.sl1 _) Fsiz39 rfl fun a w S H => ?_
         dsimp only [List.set, Nat.zero_add, Nat.reduceAdd] at H
         refine t_tail H rfl (rem' := []) rfl ?_
         refine t_nil (fun w H => ?_)
         rw [show ([] ++ (r.opn.take k).drop 0) ++ (r.opn.take r.opn.length).drop (k + 1) = r.opn.eraseIdx k by rw [List.eraseIdx_eq_take_drop_succ]; simp] at H
         exact ⟨u55, S.nil, H.takeT [Cel b 54 [u55, vi], OSl 29 u55 5 Ord.enc (r.opn.eraseIdx k), OSl 3 vi 1 encI (r.ids)] l⟩
        ·refine ⟨_, rfl, fun w H => ?_⟩
         refine op_y (wn rfl) rfl rfl S (y_sliceL rfl Try.underlying39 Fsiz29 S H rfl rfl (by first | assumption | omega | (simp only [LL]; omega))) fun a S => ?_
         refine t_n H (rem' := [8, 16, 17, 18, 19]) rfl ?_
         refine t_b1 8 (by kernel_rfl) rfl fun w H => ?_
         refine op_appendT (wn rfl) rfl rfl rfl Try.underlying39 Finf29 rfl rfl S H rfl rfl (by simp [Ord.enc, Value.oneCell']) (by simp only [List.length_append, List.length_drop, List.length_take, List.length_nil, List.length_cons]; omega) (by simp only [List.length_append, List.length_drop, List.length_take, List.length_nil, List.length_cons]; omega) fun u47 a w S H => ?_
         refine t_tail H rfl (rem' := [16, 17, 18, 19]) rfl ?_
         refine t_b1 16 (by kernel_rfl) rfl fun w H => ?_
         refine op_appendT (wn rfl) rfl rfl rfl Try.underlying39 Finf29 rfl rfl S H rfl rfl (by simp [Ord.enc, Value.oneCell']) (by simp only [List.length_append, List.length_drop, List.length_take, List.length_nil, List.length_cons]; omega) (by simp only [List.length_append, List.length_drop, List.length_take, List.length_nil, List.length_cons]; omega) fun u55 a w S H => ?_
         refine t_tail H rfl (rem' := [17, 18, 19]) rfl ?_
         refine t_q 17 rfl (by kernel_rfl) (rem' := [18, 19]) rfl rfl rfl rfl S (fun w H => y_nilCheck rfl S rfl) fun a S => ?_
         refine t_q 18 rfl (by kernel_rfl) (rem' := [19]) rfl rfl rfl rfl S (fun w H => y_faddrb rfl Ffo54_0 S rfl) fun a S => ?_
         refine t_b1 19 (by kernel_rfl) rfl fun w H => ?_
         refine op_store (wn rfl) rfl rfl S H rfl rfl (H.sl1 _) Fsiz39 rfl fun a w S H => ?_
         dsimp only [List.set, Nat.zero_add, Nat.reduceAdd] at H
         refine t_tail H rfl (rem' := []) rfl ?_
         refine t_nil (fun w H => ?_)
         rw [show ([] ++ (r.opn.take k).drop 0) ++ (r.opn.take r.opn.length).drop (k + 1) = r.opn.eraseIdx k by rw [List.eraseIdx_eq_take_drop_succ]; simp] at H
         exact ⟨u55, S.nil, H.takeT [Cel b 54 [u55, vi], OSl 29 u55 5 Ord.enc (r.opn.eraseIdx k), OSl 3 vi 1 encI (r.ids)] l⟩
      ·refine ⟨_, rfl, fun w H => ?_⟩
       refine op_y (wn rfl) rfl rfl S (y_load rfl Fsca39 S H rfl rfl) fun a S => ?_
       refine t_n H (rem' := [1, 8, 15, 16, 17, 18, 19]) rfl ?_
       refine t_b [1, 15] (by kernel_rfl) rfl (fa2 ?_ ?_)
       ·refine ⟨_, rfl, fun w H => ?_⟩
        refine op_buildSlice (wn rfl) rfl rfl rfl Try.underlying39 Finf29 S H (idx := []) rfl rfl rfl (z := []) (by kernel_rfl) (cs := []) rfl fun b40 a w S H => ?_
        have H := H.celO [] Ord.enc 5 (m := 0) rfl (by simp) rfl (by omega)
        refine t_n H (rem' := [8, 15, 16, 17, 18, 19]) rfl ?_
        refine t_b [8, 15] (by kernel_rfl) rfl (fa2 ?_ ?_)
        ·refine ⟨_, rfl, fun w H => ?_⟩
         refine op_appendT (wn rfl) rfl rfl rfl Try.underlying39 Finf29 rfl rfl S H rfl rfl (by simp [Ord.enc, Value.oneCell']) (by simp only [List.length_append, List.length_drop, List.length_take, List.length_nil, List.length_cons]; omega) (by simp only [List.length_append, List.length_drop, List.length_take, List.length_nil, List.length_cons]; omega) fun u47 a w S H => ?_
         refine t_tail H rfl (rem' := [15, 16, 17, 18, 19]) rfl ?_
         refine t_q 15 rfl (by kernel_rfl) (rem' := [16, 17, 18, 19]) rfl rfl rfl rfl S (fun w H => y_sliceL rfl Try.underlying39 Fsiz29 S H rfl rfl (by first | assumption | omega | (simp only [LL]; omega))) fun a S => ?_
         refine t_b1 16 (by kernel_rfl) rfl fun w H => ?_
         refine op_appendT (wn rfl) rfl rfl rfl Try.underlying39 Finf29 rfl rfl S H rfl rfl (by simp [Ord.enc, Value.oneCell']) (by simp only [List.length_append, List.length_drop, List.length_take, List.length_nil, List.length_cons]; omega) (by simp only [List.length_append, List.length_drop, List.length_take, List.length_nil, List.length_cons]; omega) fun u55 a w S H => ?_
         refine t_tail H rfl (rem' := [17, 18, 19]) rfl ?_
         refine t_q 17 rfl (by kernel_rfl) (rem' := [18, 19]) rfl rfl rfl rfl S (fun w H => y_nilCheck rfl S rfl) fun a S => ?_
         refine t_q 18 rfl (by kernel_rfl) (rem' := [19]) rfl rfl rfl rfl S (fun w H => y_faddrb rfl Ffo54_0 S rfl) fun a S => ?_
         refine t_b1 19 (by kernel_rfl) rfl fun w H => ?_
         refine op_store (wn rfl) rfl rfl S H rfl rfl (H.sl1 _) Fsiz39 rfl fun a w S H => ?_
         dsimp only [List.set, Nat.zero_add, Nat.reduceAdd] at H
         refine t_tail H rfl (rem' := []) rfl ?_
         refine t_nil (fun w H => ?_)
         rw [show ([] ++ (r.opn.take k).drop 0) ++ (r.opn.take r.opn.length).drop (k + 1) = r.opn.eraseIdx k by rw [List.eraseIdx_eq_take_drop_succ]; simp] at H
         exact ⟨u55, S.nil, H.takeT [Cel b 54 [u55, vi], OSl 29 u55 5 Ord.enc (r.opn.eraseIdx k), OSl 3 vi 1 encI (r.ids)] l⟩
        ·refine ⟨_, rfl, fun w H => ?_⟩
         refine op_y (wn rfl) rfl rfl S (y_sliceL rfl Try.underlying39 Fsiz29 S H rfl rfl (by first | assumption | omega | (simp only [LL]; omega))) fun a S => ?_
         refine t_n H (rem' := [8, 16, 17, 18, 19]) rfl ?_
         refine t_b1 8 (by kernel_rfl) rfl fun w H => ?_
         refine op_appendT (wn rfl) rfl rfl rfl Try.underlying39 Finf29 rfl rfl S H rfl rfl (by simp [Ord.enc, Value.oneCell']) (by simp only [List.length_append, List.length_drop, List.length_take, List.length_nil, List.length_cons]; omega) (by simp only [List.length_append, List.length_drop, List.length_take, List.length_nil, List.length_cons]; omega) fun u47 a w S H => ?_
         refine t_tail H rfl (rem' := [16, 17, 18, 19]) rfl ?_
         refine t_b1 16 (by kernel_rfl) rfl fun w H => ?_
         refine op_appendT (wn rfl) rfl rfl rfl Try.underlying39 Finf29 rfl rfl S H rfl rfl (by simp [Ord.enc, Value.oneCell']) (by simp only [List.length_append, List.length_drop, List.length_take, List.length_nil, List.length_cons]; omega) (by simp only [List.length_append, List.length_drop, List.length_take, List.length_nil, List.length_cons]; omega) fun u55 a w S H => ?_
         refine t_tail H rfl (rem' := [17, 18, 19]) rfl ?_
         refine t_q 17 rfl (by kernel_rfl) (rem' := [18, 19]) rfl rfl rfl rfl S (fun w H => y_nilCheck rfl S rfl) fun a S => ?_
         refine t_q 18 rfl (by kernel_rfl) (rem' := [19]) rfl rfl rfl rfl S (fun w H => y_faddrb rfl Ffo54_0 S rfl) fun a S => ?_
         refine t_b1 19 (by kernel_rfl) rfl fun w H => ?_
         refine op_store (wn rfl) rfl rfl S H rfl rfl (H.sl1 _) Fsiz39 rfl fun a w S H => ?_
         dsimp only [List.set, Nat.zero_add, Nat.reduceAdd] at H
         refine t_tail H rfl (rem' := []) rfl ?_
         refine t_nil (fun w H => ?_)
         rw [show ([] ++ (r.opn.take k).drop 0) ++ (r.opn.take r.opn.length).drop (k + 1) = r.opn.eraseIdx k by rw [List.eraseIdx_eq_take_drop_succ]; simp] at H
         exact ⟨u55, S.nil, H.takeT [Cel b 54 [u55, vi], OSl 29 u55 5 Ord.enc (r.opn.eraseIdx k), OSl 3 vi 1 encI (r.ids)] l⟩
       ·refine ⟨_, rfl, fun w H => ?_⟩
        refine op_y (wn rfl) rfl rfl S (y_sliceL rfl Try.underlying39 Fsiz29 S H rfl rfl (by first | assumption | omega | (simp only [LL]; omega))) fun a S => ?_
        refine t_n H (rem' := [1, 8, 16, 17, 18, 19]) rfl ?_
        refine t_b1 1 (by kernel_rfl) rfl fun w H => ?_
        refine op_buildSlice (wn rfl) rfl rfl rfl Try.underlying39 Finf29 S H (idx := []) rfl rfl rfl (z := []) (by kernel_rfl) (cs := []) rfl fun b40 a w S H => ?_
        have H := H.celO [] Ord.enc 5 (m := 0) rfl (by simp) rfl (by omega)
        refine t_n H (rem' := [8, 16, 17, 18, 19]) rfl ?_
        refine t_b1 8 (by kernel_rfl) rfl fun w H => ?_
        refine op_appendT (wn rfl) rfl rfl rfl Try.underlying39 Finf29 rfl rfl S H rfl rfl (by simp [Ord.enc, Value.oneCell']) (by simp only [List.length_append, List.length_drop, List.length_take, List.length_nil, List.length_cons]; omega) (by simp only [List.length_append, List.length_drop, List.length_take, List.length_nil, List.length_cons]; omega) fun u47 a w S H => ?_
        refine t_tail H rfl (rem' := [16, 17, 18, 19]) rfl ?_
        refine t_b1 16 (by kernel_rfl) rfl fun w H => ?_
        refine op_appendT (wn rfl) rfl rfl rfl Try.underlying39 Finf29 rfl rfl S H rfl rfl (by simp [Ord.enc, Value.oneCell']) (by simp only [List.length_append, List.length_drop, List.length_take, List.length_nil, List.length_cons]; omega) (by simp only [List.length_append, List.length_drop, List.length_take, List.length_nil, List.length_cons]; omega) fun u55 a w S H => ?_
        refine t_tail H rfl (rem' := [17, 18, 19]) rfl ?_
        refine t_q 17 rfl (by kernel_rfl) (rem' := [18, 19]) rfl rfl rfl rfl S (fun w H => y_nilCheck rfl S rfl) fun a S => ?_
        refine t_q 18 rfl (by kernel_rfl) (rem' := [19]) rfl rfl rfl rfl S (fun w H => y_faddrb rfl Ffo54_0 S rfl) fun a S => ?_
        refine t_b1 19 (by kernel_rfl) rfl fun w H => ?_
        refine op_store (wn rfl) rfl rfl S H rfl rfl (H.sl1 _) Fsiz39 rfl fun a w S H => ?_
        dsimp only [List.set, Nat.zero_add, Nat.reduceAdd] at H
        refine t_tail H rfl (rem' := []) rfl ?_
        refine t_nil (fun w H => ?_)
        rw [show ([] ++ (r.opn.take k).drop 0) ++ (r.opn.take r.opn.length).drop (k + 1) = r.opn.eraseIdx k by rw [List.eraseIdx_eq_take_drop_succ]; simp] at H
        exact ⟨u55, S.nil, H.takeT [Cel b 54 [u55, vi], OSl 29 u55 5 Ord.enc (r.opn.eraseIdx k), OSl 3 vi 1 encI (r.ids)] l⟩
     rintro a w ⟨vo2, S, H⟩
     simp only [List.cons_append, List.nil_append] at H
     refine gsr ?_
     refine ga S fun a S => ?_
     refine gnt ?_
     refine g_ret ?_
     refine r_block (r_then (r_then (r_block (r_then (ret1 rfl S rfl ?_)))))
     exact ⟨congrArg (Value.int .i64) hc1.1.symm, vo2, by rw [hc1.2]; exact H⟩
   ·have h3p := h3; try simp only [DL] at h3p
    have hpk : idP i r.opn[k] = false := h3
    refine g_skip ?_
    refine n_block ?_
    refine n_then ?_
    refine g_region ?_
    refine gm S fun a S => ?_
    refine gy rfl rfl rfl S (y_add rfl S rfl rfl (by omega)) fun a S => ?_
    refine ga S fun a S => ?_
    refine gnt ?_
    exact ⟨k + 1, S.nil.cons S 7 rfl, ((S.nil.cons S 2 rfl).cons S 1 rfl).cons S 0 rfl, ⟨by omega, fun q hq h => by by_cases e : q < k; exact hno q hq e; (obtain rfl : q = k := by omega); exact hpk, H⟩, by omega⟩
  ·have h2p := h2; try simp only [DL] at h2p
   obtain rfl : k = r.opn.length := by omega
   have hc := rcan_n (p := p) (fun x hx => by obtain ⟨q, hq, rfl⟩ := List.getElem_of_mem hx; exact hno q hq hq)
   refine g_exit ?_
   refine x_then (x_then (x_eq ?_))
   refine n_then ?_
   have S := S.nil
   refine gsr ?_
   refine ga S fun a S => ?_
   refine gnt ?_
   refine g_ret ?_
   refine ret1 rfl S rfl ?_
   exact ⟨congrArg (Value.int .i64) hc.1.symm, vo, by rw [hc.2]; exact H⟩
end Go.Proofs.Ytcgpbalpihkiiaa
