/- The walks. No condition. -/
import Derived.Test.YtbjknckddoegfaaChecked
import Derived.Test.YtbjknckddoegfaaGwFam
import Derived.Test.YtbjknckddoegfaaFacts
import Derived.Test.YtbjknckddoegfaaPlainO
import Derived.Test.YtbjknckddoegfaaW8
namespace Go.Proofs.Ytbjknckddoegfaa
open Go Go.Gw
set_option linter.unusedVariables false
set_option linter.unusedSimpArgs false
theorem hsE0 : (hs 0).propose ⟨#[120]⟩ = hs 1 := rfl
theorem hsE1 : (hs 1).elect 0 = hs 2 := rfl
theorem hsE2 : ((hs 2).deliver 0 1 false).1 = hs 3 := rfl
theorem hsE3 : ((hs 3).deliver 1 0 false).1 = hs 4 := rfl
theorem hsE4 : (hs 4).propose ⟨#[97]⟩ = hs 5 := rfl
theorem hsE5 : ((hs 5).deliver 0 1 false).1 = hs 6 := rfl
theorem hsE6 : ((hs 6).deliver 1 0 false).1 = hs 7 := rfl
theorem hsE7 : ((hs 7).deliver 0 1 false).1 = hs 8 := rfl
theorem hsE8 : ((hs 8).deliver 1 0 false).1 = hs 9 := rfl
theorem hsE9 : (hs 9).crash 0 true = hs 10 := rfl
theorem hsE10 : (hs 10).crash 0 true = hs 11 := rfl
theorem hsE11 : (hs 11).elect 0 = hs 12 := rfl
theorem hsE12 : ((hs 12).deliver 0 2 true).1 = hs 13 := rfl
theorem hsE13 : ((hs 13).deliver 0 2 true).1 = hs 14 := rfl
theorem hsE14 : ((hs 14).deliver 0 2 true).1 = hs 15 := rfl
theorem hsE15 : ((hs 15).deliver 0 2 true).1 = hs 16 := rfl
theorem hsE16 : ((hs 16).deliver 0 2 true).1 = hs 17 := rfl
theorem hsE17 : ((hs 17).deliver 0 1 true).1 = hs 18 := rfl
theorem hsE18 : ((hs 18).deliver 0 2 true).1 = hs 19 := rfl
theorem hsE19 : ((hs 19).deliver 0 1 true).1 = hs 20 := rfl
theorem hsE20 : (hs 20).elect 2 = hs 21 := rfl
theorem hsE21 : ((hs 21).deliver 2 1 false).1 = hs 22 := rfl
theorem hsE22 : ((hs 22).deliver 1 2 false).1 = hs 23 := rfl
theorem hsE23 : (hs 23).propose ⟨#[98]⟩ = hs 24 := rfl
theorem hsE24 : (hs 24).elect 1 = hs 25 := rfl
theorem h2E0 : hs 25 = h2 0 := rfl
theorem h2E1 : ((h2 0).deliver 1 2 false).1 = h2 1 := by kernel_rfl
theorem h2E2 : (((h2 1).deliver 1 2 false).1.deliver 2 1 false).1 = h2 2 := by kernel_rfl
theorem h2E3 : ((h2 2).deliver 1 2 false).1 = h2 3 := by kernel_rfl
theorem h2E4 : (((h2 3).deliver 1 2 false).1.deliver 2 1 false).1 = h2 4 := by kernel_rfl
theorem h2E5 : (((h2 4).deliver 1 2 false).1.deliver 2 1 false).1 = h2 5 := by kernel_rfl
def l1 (k : Nat) : Grp := if k < 5 then hs (12 + k) else hs 18
theorem l1E0 : l1 0 = hs 12 := by kernel_rfl
theorem l1E1 : l1 1 = hs 13 := by kernel_rfl
theorem l1E2 : l1 2 = hs 14 := by kernel_rfl
theorem l1E3 : l1 3 = hs 15 := by kernel_rfl
theorem l1E4 : l1 4 = hs 16 := by kernel_rfl
theorem l1E5 : l1 5 = hs 18 := by kernel_rfl
set_option maxHeartbeats 400000 in
/-- foyer/foyerlaw48.head -/
theorem head_spec (w0 : World) :
    Ret Try.prog 8 #[] w0 (fun u w => u = .bool true ∧ Ext w0 w) := by
 refine ret_of_wp (nt := 166) Try.func8 rfl rfl rfl (fl := []) rfl (fun a S => ?_)
 have H := HSat.start w0
 refine gsr ?_
 refine ga S fun a S => ?_
 refine gnt ?_
 refine gsr ?_
 refine wl_of (op_call (wn rfl) rfl rfl S (co_func rfl Try.call10 S rfl) (new_ok 3 _ H (by decide)) fun v w hc a S => ?_)
 obtain ⟨c, z, rfl, H⟩ := hc
 have H : HSat No w0 (GrpA c 3 (hs 0) z :: GCel c :: GPts c 3 :: []) _ := H
 refine gm S fun a S => ?_
 refine gy rfl rfl rfl S (y_extract rfl S rfl rfl) fun a S => ?_
 refine gy rfl rfl rfl S (y_extract rfl S rfl rfl) fun a S => ?_
 refine ga S fun a S => ?_
 refine ga S fun a S => ?_
 refine gnt ?_
 have S := ((S.nil.cons S 0 rfl).cons S 1 rfl).cons S 2 rfl
 refine gsr ?_
 refine wl_of (op_call (wn rfl) rfl rfl S (co_func rfl Try.call10 S rfl) (new_bad 0 _ (by decide)) fun v w hc a S => ?_)
 obtain ⟨rfl, he⟩ := hc
 have H := H.ext he
 refine gm S fun a S => ?_
 refine gy rfl rfl rfl S (y_extract rfl S rfl rfl) fun a S => ?_
 refine gy rfl rfl rfl S (y_extract rfl S rfl rfl) fun a S => ?_
 refine ga S fun a S => ?_
 refine ga S fun a S => ?_
 refine gnt ?_
 have S := (((S.nil.cons S 0 rfl).cons S 1 rfl).cons S 2 rfl).cons S 4 rfl
 refine g_seq ?_
 refine gsr ?_
 refine gm S fun a S => ?_
 refine gy rfl rfl rfl S (y_bin rfl S rfl rfl rfl) fun a S => ?_
 refine gm S fun a S => ?_
 refine gz 27 rfl S rfl rfl rfl rfl rfl rfl (y_move rfl S rfl) fun a S => ?_
 refine gz 27 rfl S rfl rfl rfl rfl rfl rfl (y_bin rfl S rfl rfl rfl) fun a S => ?_
 refine gy rfl rfl rfl S (y_or' rfl rfl S rfl rfl) fun a S => ?_
 refine gm S fun a S => ?_
 refine gz 31 rfl S rfl rfl rfl rfl rfl rfl (y_move rfl S rfl) fun a S => ?_
 refine gz 31 rfl S rfl rfl rfl rfl rfl rfl (y_eqp rfl Try.underlying25 S rfl rfl) fun a S => ?_
 refine gy rfl rfl rfl S (y_or' rfl rfl S rfl rfl) fun a S => ?_
 refine gnt ?_
 have S := ((S.nil.cons S 0 rfl).cons S 1 rfl).cons S 34 rfl
 refine c_if S rfl (fun h3 => ?_) (fun h3 => ?_)
 ·have h3p := h3; try simp only [DL] at h3p
  all_goals (
    exact absurd h3 (by simp))
 ·have h3p := h3; try simp only [DL] at h3p
  refine g_skip ?_
  refine n_then ?_
  refine gsr ?_
  refine gm S fun a S => ?_
  refine wl_of (op_call (wn rfl) rfl rfl S (co_func rfl Try.call16 S rfl) (propose_spec c 3 (hs 0) z ⟨#[120]⟩ _ H ((okh 0).fit (by omega))) fun v w hc a S => ?_)
  obtain ⟨rfl, z, H⟩ := hc
  rw [hsE0] at H
  rw [show propX (hs 0) ⟨#[120]⟩ = (0, 12) from by kernel_rfl] at S
  refine gm S fun a S => ?_
  refine gy rfl rfl rfl S (y_extract rfl S rfl rfl) fun a S => ?_
  refine gy rfl rfl rfl S (y_extract rfl S rfl rfl) fun a S => ?_
  refine ga S fun a S => ?_
  refine ga S fun a S => ?_
  refine gnt ?_
  have S := ((S.nil.cons S 0 rfl).cons S 1 rfl).cons S 6 rfl
  refine gsr ?_
  refine gm S fun a S => ?_
  refine wl_of (op_call (wn rfl) rfl rfl S (co_func rfl Try.call14 S rfl) (elect_spec c 3 (hs 1) z 0 _ H ((okh 1).fit (by omega))) fun v w hc a S => ?_)
  obtain ⟨rfl, z, H⟩ := hc
  rw [hsE1] at H
  rw [show electE (hs 1) 0 = 0 from by kernel_rfl] at S
  refine gy rfl rfl rfl S (y_bin rfl S rfl rfl rfl) fun a S => ?_
  refine gm S fun a S => ?_
  refine gz 43 rfl S rfl rfl rfl rfl rfl rfl (y_move rfl S rfl) fun a S => ?_
  refine wl_of (op_call (wg' 43 rfl rfl S rfl rfl rfl) rfl rfl S (co_func rfl Try.call12 S rfl) (deliver_spec c 3 (hs 2) z 0 1 false _ H ((okh 2).fit (by omega))) fun v w hc a S => ?_)
  obtain ⟨rfl, z, H⟩ := hc
  rw [hsE2] at H
  rw [show ((hs 2).deliver 0 1 false).2 = true from by kernel_rfl] at S
  refine gy rfl rfl rfl S (y_and' rfl rfl S rfl rfl) fun a S => ?_
  refine gm S fun a S => ?_
  refine gz 47 rfl S rfl rfl rfl rfl rfl rfl (y_move rfl S rfl) fun a S => ?_
  refine wl_of (op_call (wg' 47 rfl rfl S rfl rfl rfl) rfl rfl S (co_func rfl Try.call12 S rfl) (deliver_spec c 3 (hs 3) z 1 0 false _ H ((okh 3).fit (by omega))) fun v w hc a S => ?_)
  obtain ⟨rfl, z, H⟩ := hc
  rw [hsE3] at H
  rw [show ((hs 3).deliver 1 0 false).2 = true from by kernel_rfl] at S
  refine gy rfl rfl rfl S (y_and' rfl rfl S rfl rfl) fun a S => ?_
  refine ga S fun a S => ?_
  refine gnt ?_
  have S := (((S.nil.cons S 0 rfl).cons S 1 rfl).cons S 6 rfl).cons S 7 rfl
  refine gsr ?_
  refine gm S fun a S => ?_
  refine wl_of (op_call (wn rfl) rfl rfl S (co_func rfl Try.call16 S rfl) (propose_spec c 3 (hs 4) z ⟨#[97]⟩ _ H ((okh 4).fit (by omega))) fun v w hc a S => ?_)
  obtain ⟨rfl, z, H⟩ := hc
  rw [hsE4] at H
  rw [show propX (hs 4) ⟨#[97]⟩ = (0, 0) from by kernel_rfl] at S
  refine gm S fun a S => ?_
  refine gy rfl rfl rfl S (y_extract rfl S rfl rfl) fun a S => ?_
  refine gy rfl rfl rfl S (y_extract rfl S rfl rfl) fun a S => ?_
  refine ga S fun a S => ?_
  refine ga S fun a S => ?_
  refine gnt ?_
  have S := (((((S.nil.cons S 0 rfl).cons S 1 rfl).cons S 6 rfl).cons S 7 rfl).cons S 8 rfl).cons S 9 rfl
  refine gsr ?_
  refine gm S fun a S => ?_
  refine wl_of (op_call (wn rfl) rfl rfl S (co_func rfl Try.call20 S rfl) (committed_spec c 3 (hs 5) z 0 _ H ((okh 5).fit (by omega))) fun uc w hc a S => ?_)
  have H1 := hc
  have H := H.call1 H1 rfl
  refine gy rfl rfl rfl S (y_lens rfl Try.underlying39 S H rfl) fun a S => ?_
  rw [show (comR (hs 5) 0).length = 0 from by kernel_rfl] at S
  have H := H.tail
  refine ga S fun a S => ?_
  refine gnt ?_
  refine gsr ?_
  refine gm S fun a S => ?_
  refine wl_of (op_call (wn rfl) rfl rfl S (co_func rfl Try.call12 S rfl) (deliver_spec c 3 (hs 5) z 0 1 false _ H ((okh 5).fit (by omega))) fun v w hc a S => ?_)
  obtain ⟨rfl, z, H⟩ := hc
  rw [hsE5] at H
  refine gnt ?_
  have S := ((((((S.nil.cons S 0 rfl).cons S 1 rfl).cons S 6 rfl).cons S 7 rfl).cons S 8 rfl).cons S 9 rfl).cons S 10 rfl
  refine gsr ?_
  refine gm S fun a S => ?_
  refine wl_of (op_call (wn rfl) rfl rfl S (co_func rfl Try.call12 S rfl) (deliver_spec c 3 (hs 6) z 1 0 false _ H ((okh 6).fit (by omega))) fun v w hc a S => ?_)
  obtain ⟨rfl, z, H⟩ := hc
  rw [hsE6] at H
  refine gnt ?_
  refine gsr ?_
  refine gm S fun a S => ?_
  refine wl_of (op_call (wn rfl) rfl rfl S (co_func rfl Try.call12 S rfl) (deliver_spec c 3 (hs 7) z 0 1 false _ H ((okh 7).fit (by omega))) fun v w hc a S => ?_)
  obtain ⟨rfl, z, H⟩ := hc
  rw [hsE7] at H
  refine gnt ?_
  have S := ((((((S.nil.cons S 0 rfl).cons S 1 rfl).cons S 6 rfl).cons S 7 rfl).cons S 8 rfl).cons S 9 rfl).cons S 10 rfl
  refine gsr ?_
  refine gm S fun a S => ?_
  refine wl_of (op_call (wn rfl) rfl rfl S (co_func rfl Try.call12 S rfl) (deliver_spec c 3 (hs 8) z 1 0 false _ H ((okh 8).fit (by omega))) fun v w hc a S => ?_)
  obtain ⟨rfl, z, H⟩ := hc
  rw [hsE8] at H
  refine gnt ?_
  refine gsr ?_
  refine gm S fun a S => ?_
  refine wl_of (op_call (wn rfl) rfl rfl S (co_func rfl Try.call20 S rfl) (committed_spec c 3 (hs 9) z 0 _ H ((okh 9).fit (by omega))) fun uc w hc a S => ?_)
  have H1 := hc
  have H := H.call1 H1 rfl
  refine gy rfl rfl rfl S (y_lens rfl Try.underlying39 S H rfl) fun a S => ?_
  rw [show (comR (hs 9) 0).length = 1 from by kernel_rfl] at S
  have H := H.tail
  refine gy rfl rfl rfl S (y_bin rfl S rfl rfl rfl) fun a S => ?_
  refine gm S fun a S => ?_
  refine gz 71 rfl S rfl rfl rfl rfl rfl rfl (y_move rfl S rfl) fun a S => ?_
  refine wl_of (op_call (wg' 71 rfl rfl S rfl rfl rfl) rfl rfl S (co_func rfl Try.call20 S rfl) (committed_spec c 3 (hs 9) z 1 _ H ((okh 9).fit (by omega))) fun uc w hc a S => ?_)
  have H1 := hc
  have H := H.call1 H1 rfl
  refine gz 71 rfl S rfl rfl rfl rfl rfl rfl (y_lens rfl Try.underlying39 S H rfl) fun a S => ?_
  rw [show (comR (hs 9) 1).length = 0 from by kernel_rfl] at S
  have H := H.tail
  refine gz 71 rfl S rfl rfl rfl rfl rfl rfl (y_bin rfl S rfl rfl rfl) fun a S => ?_
  refine gy rfl rfl rfl S (y_and' rfl rfl S rfl rfl) fun a S => ?_
  refine ga S fun a S => ?_
  refine gnt ?_
  have S := (((((((S.nil.cons S 0 rfl).cons S 1 rfl).cons S 6 rfl).cons S 7 rfl).cons S 8 rfl).cons S 9 rfl).cons S 10 rfl).cons S 11 rfl
  refine gsr ?_
  refine gm S fun a S => ?_
  refine wl_of (op_call (wn rfl) rfl rfl S (co_func rfl Try.call18 S rfl) (crash_spec c 3 (hs 9) z 0 true _ H) fun v w hc a S => ?_)
  obtain ⟨rfl, z, H⟩ := hc
  rw [hsE9] at H
  rw [show crashE (hs 9) 0 true = 0 from by kernel_rfl] at S
  refine gy rfl rfl rfl S (y_bin rfl S rfl rfl rfl) fun a S => ?_
  refine gm S fun a S => ?_
  refine gz 80 rfl S rfl rfl rfl rfl rfl rfl (y_move rfl S rfl) fun a S => ?_
  refine wl_of (op_call (wg' 80 rfl rfl S rfl rfl rfl) rfl rfl S (co_func rfl Try.call18 S rfl) (crash_spec c 3 (hs 10) z 0 true _ H) fun v w hc a S => ?_)
  obtain ⟨rfl, z, H⟩ := hc
  rw [hsE10] at H
  rw [show crashE (hs 10) 0 true = 12 from by kernel_rfl] at S
  refine gz 80 rfl S rfl rfl rfl rfl rfl rfl (y_bin rfl S rfl rfl rfl) fun a S => ?_
  refine gy rfl rfl rfl S (y_and' rfl rfl S rfl rfl) fun a S => ?_
  refine gm S fun a S => ?_
  refine gz 85 rfl S rfl rfl rfl rfl rfl rfl (y_move rfl S rfl) fun a S => ?_
  refine wl_of (op_call (wg' 85 rfl rfl S rfl rfl rfl) rfl rfl S (co_func rfl Try.call14 S rfl) (elect_spec c 3 (hs 11) z 0 _ H ((okh 11).fit (by omega))) fun v w hc a S => ?_)
  obtain ⟨rfl, z, H⟩ := hc
  rw [hsE11] at H
  rw [show electE (hs 11) 0 = 12 from by kernel_rfl] at S
  refine gz 85 rfl S rfl rfl rfl rfl rfl rfl (y_bin rfl S rfl rfl rfl) fun a S => ?_
  refine gy rfl rfl rfl S (y_and' rfl rfl S rfl rfl) fun a S => ?_
  refine ga S fun a S => ?_
  refine gnt ?_
  have S := ((((((((S.nil.cons S 0 rfl).cons S 1 rfl).cons S 6 rfl).cons S 7 rfl).cons S 8 rfl).cons S 9 rfl).cons S 10 rfl).cons S 11 rfl).cons S 12 rfl
  refine g_seq ?_
  refine g_block ?_
  have SU := ((((((((S.nil.cons S 0 rfl).cons S 1 rfl).cons S 6 rfl).cons S 7 rfl).cons S 8 rfl).cons S 9 rfl).cons S 10 rfl).cons S 11 rfl).cons S 12 rfl
  refine loopW (X := Nat × GV) SU (fun x => []) (fun x w => x.1 ≤ 5 ∧ HSat No w0 (GrpA c 3 (l1 x.1) x.2 :: GCel c :: GPts c 3 :: []) w) (fun x => 6 - x.1) (0, z) (S.nil) (⟨Nat.zero_le _, by rw [show l1 (0, z).1 = hs 12 from l1E0]; exact H⟩) (fun x a w S hW => ?_)
  simp only [List.cons_append, List.nil_append] at S
  obtain ⟨k, z⟩ := x
  obtain ⟨hk, H⟩ := hW
  dsimp only at S H hk
  refine g_seq ?_
  refine g_seq ?_
  have hkk : k = 0 ∨ k = 1 ∨ k = 2 ∨ k = 3 ∨ k = 4 ∨ k = 5 := by omega
  rcases hkk with rfl | rfl | rfl | rfl | rfl | rfl
  ·rw [l1E0] at H
   refine g_region ?_
   refine gm S fun a S => ?_
   refine wl_of (op_call (wn rfl) rfl rfl S (co_func rfl Try.call12 S rfl) (deliver_spec c 3 (hs 12) z 0 2 true _ H ((okh 12).fit (by omega))) fun v w hc a S => ?_)
   obtain ⟨rfl, z, H⟩ := hc
   rw [hsE12] at H
   rw [show ((hs 12).deliver 0 2 true).2 = true from by kernel_rfl] at S
   refine gm S fun a S => ?_
   refine' wl_or (B2 := false) 2 92 rfl S H rfl rfl rfl rfl rfl rfl rfl (fun _ S => (wn rfl)) (fun h9 kk => ?yh9) (fun a w S H => ?_)
   case yh9 => exact absurd h9 (by simp)
   refine gnt ?_
   refine c_if S rfl (fun h10 => ?_) (fun h10 => ?_)
   ·have h10p := h10; try simp only [DL] at h10p
    refine g_skip ?_
    refine n_then ?_
    have S := ((((((((S.nil.cons S 0 rfl).cons S 1 rfl).cons S 6 rfl).cons S 7 rfl).cons S 8 rfl).cons S 9 rfl).cons S 10 rfl).cons S 11 rfl).cons S 12 rfl
    refine g_block ?_
    refine g_skip ?_
    refine n_block ?_
    refine n_then ?_
    rw [← l1E1] at H
    exact ⟨(1, z), S.nil, ((((((((S.nil.cons S 0 rfl).cons S 1 rfl).cons S 6 rfl).cons S 7 rfl).cons S 8 rfl).cons S 9 rfl).cons S 10 rfl).cons S 11 rfl).cons S 12 rfl, ⟨by simp, H⟩, by simp⟩
   ·have h10p := h10; try simp only [DL] at h10p
    all_goals (
      exact absurd h10 (by simp))
  ·rw [l1E1] at H
   refine g_region ?_
   refine gm S fun a S => ?_
   refine wl_of (op_call (wn rfl) rfl rfl S (co_func rfl Try.call12 S rfl) (deliver_spec c 3 (hs 13) z 0 2 true _ H ((okh 13).fit (by omega))) fun v w hc a S => ?_)
   obtain ⟨rfl, z, H⟩ := hc
   rw [hsE13] at H
   rw [show ((hs 13).deliver 0 2 true).2 = true from by kernel_rfl] at S
   refine gm S fun a S => ?_
   refine' wl_or (B2 := false) 2 92 rfl S H rfl rfl rfl rfl rfl rfl rfl (fun _ S => (wn rfl)) (fun h11 kk => ?yh11) (fun a w S H => ?_)
   case yh11 => exact absurd h11 (by simp)
   refine gnt ?_
   refine c_if S rfl (fun h12 => ?_) (fun h12 => ?_)
   ·have h12p := h12; try simp only [DL] at h12p
    refine g_skip ?_
    refine n_then ?_
    have S := ((((((((S.nil.cons S 0 rfl).cons S 1 rfl).cons S 6 rfl).cons S 7 rfl).cons S 8 rfl).cons S 9 rfl).cons S 10 rfl).cons S 11 rfl).cons S 12 rfl
    refine g_block ?_
    refine g_skip ?_
    refine n_block ?_
    refine n_then ?_
    rw [← l1E2] at H
    exact ⟨(2, z), S.nil, ((((((((S.nil.cons S 0 rfl).cons S 1 rfl).cons S 6 rfl).cons S 7 rfl).cons S 8 rfl).cons S 9 rfl).cons S 10 rfl).cons S 11 rfl).cons S 12 rfl, ⟨by simp, H⟩, by simp⟩
   ·have h12p := h12; try simp only [DL] at h12p
    all_goals (
      exact absurd h12 (by simp))
  ·rw [l1E2] at H
   refine g_region ?_
   refine gm S fun a S => ?_
   refine wl_of (op_call (wn rfl) rfl rfl S (co_func rfl Try.call12 S rfl) (deliver_spec c 3 (hs 14) z 0 2 true _ H ((okh 14).fit (by omega))) fun v w hc a S => ?_)
   obtain ⟨rfl, z, H⟩ := hc
   rw [hsE14] at H
   rw [show ((hs 14).deliver 0 2 true).2 = true from by kernel_rfl] at S
   refine gm S fun a S => ?_
   refine' wl_or (B2 := false) 2 92 rfl S H rfl rfl rfl rfl rfl rfl rfl (fun _ S => (wn rfl)) (fun h13 kk => ?yh13) (fun a w S H => ?_)
   case yh13 => exact absurd h13 (by simp)
   refine gnt ?_
   refine c_if S rfl (fun h14 => ?_) (fun h14 => ?_)
   ·have h14p := h14; try simp only [DL] at h14p
    refine g_skip ?_
    refine n_then ?_
    have S := ((((((((S.nil.cons S 0 rfl).cons S 1 rfl).cons S 6 rfl).cons S 7 rfl).cons S 8 rfl).cons S 9 rfl).cons S 10 rfl).cons S 11 rfl).cons S 12 rfl
    refine g_block ?_
    refine g_skip ?_
    refine n_block ?_
    refine n_then ?_
    rw [← l1E3] at H
    exact ⟨(3, z), S.nil, ((((((((S.nil.cons S 0 rfl).cons S 1 rfl).cons S 6 rfl).cons S 7 rfl).cons S 8 rfl).cons S 9 rfl).cons S 10 rfl).cons S 11 rfl).cons S 12 rfl, ⟨by simp, H⟩, by simp⟩
   ·have h14p := h14; try simp only [DL] at h14p
    all_goals (
      exact absurd h14 (by simp))
  ·rw [l1E3] at H
   refine g_region ?_
   refine gm S fun a S => ?_
   refine wl_of (op_call (wn rfl) rfl rfl S (co_func rfl Try.call12 S rfl) (deliver_spec c 3 (hs 15) z 0 2 true _ H ((okh 15).fit (by omega))) fun v w hc a S => ?_)
   obtain ⟨rfl, z, H⟩ := hc
   rw [hsE15] at H
   rw [show ((hs 15).deliver 0 2 true).2 = true from by kernel_rfl] at S
   refine gm S fun a S => ?_
   refine' wl_or (B2 := false) 2 92 rfl S H rfl rfl rfl rfl rfl rfl rfl (fun _ S => (wn rfl)) (fun h15 kk => ?yh15) (fun a w S H => ?_)
   case yh15 => exact absurd h15 (by simp)
   refine gnt ?_
   refine c_if S rfl (fun h16 => ?_) (fun h16 => ?_)
   ·have h16p := h16; try simp only [DL] at h16p
    refine g_skip ?_
    refine n_then ?_
    have S := ((((((((S.nil.cons S 0 rfl).cons S 1 rfl).cons S 6 rfl).cons S 7 rfl).cons S 8 rfl).cons S 9 rfl).cons S 10 rfl).cons S 11 rfl).cons S 12 rfl
    refine g_block ?_
    refine g_skip ?_
    refine n_block ?_
    refine n_then ?_
    rw [← l1E4] at H
    exact ⟨(4, z), S.nil, ((((((((S.nil.cons S 0 rfl).cons S 1 rfl).cons S 6 rfl).cons S 7 rfl).cons S 8 rfl).cons S 9 rfl).cons S 10 rfl).cons S 11 rfl).cons S 12 rfl, ⟨by simp, H⟩, by simp⟩
   ·have h16p := h16; try simp only [DL] at h16p
    all_goals (
      exact absurd h16 (by simp))
  ·rw [l1E4] at H
   refine g_region ?_
   refine gm S fun a S => ?_
   refine wl_of (op_call (wn rfl) rfl rfl S (co_func rfl Try.call12 S rfl) (deliver_spec c 3 (hs 16) z 0 2 true _ H ((okh 16).fit (by omega))) fun v w hc a S => ?_)
   obtain ⟨rfl, z, H⟩ := hc
   rw [hsE16] at H
   rw [show ((hs 16).deliver 0 2 true).2 = false from by kernel_rfl] at S
   refine gm S fun a S => ?_
   refine gz 92 rfl S rfl rfl rfl rfl rfl rfl (y_move rfl S rfl) fun a S => ?_
   refine wl_of (op_call (wg' 92 rfl rfl S rfl rfl rfl) rfl rfl S (co_func rfl Try.call12 S rfl) (deliver_spec c 3 (hs 17) z 0 1 true _ H ((okh 17).fit (by omega))) fun v w hc a S => ?_)
   obtain ⟨rfl, z, H⟩ := hc
   rw [hsE17] at H
   rw [show ((hs 17).deliver 0 1 true).2 = true from by kernel_rfl] at S
   refine gy rfl rfl rfl S (y_or' rfl rfl S rfl rfl) fun a S => ?_
   refine gnt ?_
   have S := (((((((((S.nil.cons S 0 rfl).cons S 1 rfl).cons S 6 rfl).cons S 7 rfl).cons S 8 rfl).cons S 9 rfl).cons S 10 rfl).cons S 11 rfl).cons S 12 rfl).cons S 95 rfl
   refine c_if S rfl (fun h18 => ?_) (fun h18 => ?_)
   ·have h18p := h18; try simp only [DL] at h18p
    refine g_skip ?_
    refine n_then ?_
    refine g_block ?_
    refine g_skip ?_
    refine n_block ?_
    refine n_then ?_
    rw [← l1E5] at H
    exact ⟨(5, z), S.nil, ((((((((S.nil.cons S 0 rfl).cons S 1 rfl).cons S 6 rfl).cons S 7 rfl).cons S 8 rfl).cons S 9 rfl).cons S 10 rfl).cons S 11 rfl).cons S 12 rfl, ⟨by simp, H⟩, by simp⟩
   ·have h18p := h18; try simp only [DL] at h18p
    all_goals (
      exact absurd h18 (by simp))
  ·rw [l1E5] at H
   refine g_region ?_
   refine gm S fun a S => ?_
   refine wl_of (op_call (wn rfl) rfl rfl S (co_func rfl Try.call12 S rfl) (deliver_spec c 3 (hs 18) z 0 2 true _ H ((okh 18).fit (by omega))) fun v w hc a S => ?_)
   obtain ⟨rfl, z, H⟩ := hc
   rw [hsE18] at H
   rw [show ((hs 18).deliver 0 2 true).2 = false from by kernel_rfl] at S
   refine gm S fun a S => ?_
   refine gz 92 rfl S rfl rfl rfl rfl rfl rfl (y_move rfl S rfl) fun a S => ?_
   refine wl_of (op_call (wg' 92 rfl rfl S rfl rfl rfl) rfl rfl S (co_func rfl Try.call12 S rfl) (deliver_spec c 3 (hs 19) z 0 1 true _ H ((okh 19).fit (by omega))) fun v w hc a S => ?_)
   obtain ⟨rfl, z, H⟩ := hc
   rw [hsE19] at H
   rw [show ((hs 19).deliver 0 1 true).2 = false from by kernel_rfl] at S
   refine gy rfl rfl rfl S (y_or' rfl rfl S rfl rfl) fun a S => ?_
   refine gnt ?_
   have S := (((((((((S.nil.cons S 0 rfl).cons S 1 rfl).cons S 6 rfl).cons S 7 rfl).cons S 8 rfl).cons S 9 rfl).cons S 10 rfl).cons S 11 rfl).cons S 12 rfl).cons S 95 rfl
   refine c_if S rfl (fun h20 => ?_) (fun h20 => ?_)
   ·have h20p := h20; try simp only [DL] at h20p
    all_goals (
      exact absurd h20 (by simp))
   ·have h20p := h20; try simp only [DL] at h20p
    refine g_exit ?_
    refine x_then (x_then (x_eq ?_))
    refine n_then ?_
    refine gsr ?_
    refine gm S fun a S => ?_
    refine wl_of (op_call (wn rfl) rfl rfl S (co_func rfl Try.call14 S rfl) (elect_spec c 3 (hs 20) z 2 _ H ((okh 20).fit (by omega))) fun v w hc a S => ?_)
    obtain ⟨rfl, z, H⟩ := hc
    rw [hsE20] at H
    refine gnt ?_
    refine gsr ?_
    refine gm S fun a S => ?_
    refine wl_of (op_call (wn rfl) rfl rfl S (co_func rfl Try.call12 S rfl) (deliver_spec c 3 (hs 21) z 2 1 false _ H ((okh 21).fit (by omega))) fun v w hc a S => ?_)
    obtain ⟨rfl, z, H⟩ := hc
    rw [hsE21] at H
    refine gnt ?_
    have S := ((((((((S.nil.cons S 0 rfl).cons S 1 rfl).cons S 6 rfl).cons S 7 rfl).cons S 8 rfl).cons S 9 rfl).cons S 10 rfl).cons S 11 rfl).cons S 12 rfl
    refine gsr ?_
    refine gm S fun a S => ?_
    refine wl_of (op_call (wn rfl) rfl rfl S (co_func rfl Try.call12 S rfl) (deliver_spec c 3 (hs 22) z 1 2 false _ H ((okh 22).fit (by omega))) fun v w hc a S => ?_)
    obtain ⟨rfl, z, H⟩ := hc
    rw [hsE22] at H
    refine gnt ?_
    refine gsr ?_
    refine gm S fun a S => ?_
    refine wl_of (op_call (wn rfl) rfl rfl S (co_func rfl Try.call16 S rfl) (propose_spec c 3 (hs 23) z ⟨#[98]⟩ _ H ((okh 23).fit (by omega))) fun v w hc a S => ?_)
    obtain ⟨rfl, z, H⟩ := hc
    rw [hsE23] at H
    rw [show propX (hs 23) ⟨#[98]⟩ = (0, 12) from by kernel_rfl] at S
    refine gm S fun a S => ?_
    refine gy rfl rfl rfl S (y_extract rfl S rfl rfl) fun a S => ?_
    refine gy rfl rfl rfl S (y_extract rfl S rfl rfl) fun a S => ?_
    refine ga S fun a S => ?_
    refine ga S fun a S => ?_
    refine gnt ?_
    have S := (((((((((S.nil.cons S 0 rfl).cons S 1 rfl).cons S 6 rfl).cons S 7 rfl).cons S 8 rfl).cons S 9 rfl).cons S 10 rfl).cons S 11 rfl).cons S 12 rfl).cons S 14 rfl
    refine gsr ?_
    refine gm S fun a S => ?_
    refine wl_of (op_call (wn rfl) rfl rfl S (co_func rfl Try.call14 S rfl) (elect_spec c 3 (hs 24) z 1 _ H ((okh 24).fit (by omega))) fun v w hc a S => ?_)
    obtain ⟨rfl, z, H⟩ := hc
    rw [hsE24] at H
    rw [h2E0] at H
    refine gnt ?_
    refine g_seq ?_
    refine g_block ?_
    have SU := (((((((((S.nil.cons S 0 rfl).cons S 1 rfl).cons S 6 rfl).cons S 7 rfl).cons S 8 rfl).cons S 9 rfl).cons S 10 rfl).cons S 11 rfl).cons S 12 rfl).cons S 14 rfl
    refine loopW (X := Nat × GV) SU (fun x => []) (fun x w => x.1 ≤ 4 ∧ HSat No w0 (GrpA c 3 (h2 x.1) x.2 :: GCel c :: GPts c 3 :: []) w) (fun x => 5 - x.1) (0, z) (S.nil) (⟨Nat.zero_le _, H⟩) (fun x a w S hW => ?_)
    simp only [List.cons_append, List.nil_append] at S
    obtain ⟨k, z⟩ := x
    obtain ⟨hk, H⟩ := hW
    dsimp only at S H hk
    refine g_seq ?_
    refine g_seq ?_
    have hkk : k = 0 ∨ k = 1 ∨ k = 2 ∨ k = 3 ∨ k = 4 := by omega
    rcases hkk with rfl | rfl | rfl | rfl | rfl
    ·have H : HSat No w0 (GrpA c 3 (h2 0) z :: GCel c :: GPts c 3 :: []) _ := H
     refine g_region ?_
     refine gm S fun a S => ?_
     refine wl_of (op_call (wn rfl) rfl rfl S (co_func rfl Try.call12 S rfl) (deliver_spec c 3 (h2 0) z 1 2 false _ H ((okh2 0).fit (by omega))) fun v w hc a S => ?_)
     obtain ⟨rfl, z, H⟩ := hc
     rw [show ((h2 0).deliver 1 2 false).2 = true from by kernel_rfl] at S
     rw [h2E1] at H
     refine gm S fun a S => ?_
     refine' wl_or (B2 := false) 2 111 rfl S H rfl rfl rfl rfl rfl rfl rfl (fun _ S => (wn rfl)) (fun h21 kk => ?yh21) (fun a w S H => ?_)
     case yh21 => exact absurd h21 (by simp)
     refine gnt ?_
     refine c_if S rfl (fun h22 => ?_) (fun h22 => ?_)
     ·have h22p := h22; try simp only [DL] at h22p
      refine g_skip ?_
      refine n_then ?_
      have S := (((((((((S.nil.cons S 0 rfl).cons S 1 rfl).cons S 6 rfl).cons S 7 rfl).cons S 8 rfl).cons S 9 rfl).cons S 10 rfl).cons S 11 rfl).cons S 12 rfl).cons S 14 rfl
      refine g_block ?_
      refine g_skip ?_
      refine n_block ?_
      refine n_then ?_
      exact ⟨(1, z), S.nil, (((((((((S.nil.cons S 0 rfl).cons S 1 rfl).cons S 6 rfl).cons S 7 rfl).cons S 8 rfl).cons S 9 rfl).cons S 10 rfl).cons S 11 rfl).cons S 12 rfl).cons S 14 rfl, ⟨by simp, H⟩, by simp⟩
     ·have h22p := h22; try simp only [DL] at h22p
      all_goals (
        exact absurd h22 (by simp))
    ·have H : HSat No w0 (GrpA c 3 (h2 1) z :: GCel c :: GPts c 3 :: []) _ := H
     refine g_region ?_
     refine gm S fun a S => ?_
     refine wl_of (op_call (wn rfl) rfl rfl S (co_func rfl Try.call12 S rfl) (deliver_spec c 3 (h2 1) z 1 2 false _ H ((okh2 1).fit (by omega))) fun v w hc a S => ?_)
     obtain ⟨rfl, z, H⟩ := hc
     rw [show ((h2 1).deliver 1 2 false).2 = false from by kernel_rfl] at S
     refine gm S fun a S => ?_
     refine gz 111 rfl S rfl rfl rfl rfl rfl rfl (y_move rfl S rfl) fun a S => ?_
     refine wl_of (op_call (wg' 111 rfl rfl S rfl rfl rfl) rfl rfl S (co_func rfl Try.call12 S rfl) (deliver_spec c 3 ((h2 1).deliver 1 2 false).1 z 2 1 false _ H (((okh2 1).deliver 1 2 false).fit (by omega))) fun v w hc a S => ?_)
     obtain ⟨rfl, z, H⟩ := hc
     rw [show (((h2 1).deliver 1 2 false).1.deliver 2 1 false).2 = true from by kernel_rfl] at S
     rw [h2E2] at H
     refine gy rfl rfl rfl S (y_or' rfl rfl S rfl rfl) fun a S => ?_
     refine gnt ?_
     have S := ((((((((((S.nil.cons S 0 rfl).cons S 1 rfl).cons S 6 rfl).cons S 7 rfl).cons S 8 rfl).cons S 9 rfl).cons S 10 rfl).cons S 11 rfl).cons S 12 rfl).cons S 14 rfl).cons S 114 rfl
     refine c_if S rfl (fun h24 => ?_) (fun h24 => ?_)
     ·have h24p := h24; try simp only [DL] at h24p
      refine g_skip ?_
      refine n_then ?_
      refine g_block ?_
      refine g_skip ?_
      refine n_block ?_
      refine n_then ?_
      exact ⟨(2, z), S.nil, (((((((((S.nil.cons S 0 rfl).cons S 1 rfl).cons S 6 rfl).cons S 7 rfl).cons S 8 rfl).cons S 9 rfl).cons S 10 rfl).cons S 11 rfl).cons S 12 rfl).cons S 14 rfl, ⟨by simp, H⟩, by simp⟩
     ·have h24p := h24; try simp only [DL] at h24p
      all_goals (
        exact absurd h24 (by simp))
    ·have H : HSat No w0 (GrpA c 3 (h2 2) z :: GCel c :: GPts c 3 :: []) _ := H
     refine g_region ?_
     refine gm S fun a S => ?_
     refine wl_of (op_call (wn rfl) rfl rfl S (co_func rfl Try.call12 S rfl) (deliver_spec c 3 (h2 2) z 1 2 false _ H ((okh2 2).fit (by omega))) fun v w hc a S => ?_)
     obtain ⟨rfl, z, H⟩ := hc
     rw [show ((h2 2).deliver 1 2 false).2 = true from by kernel_rfl] at S
     rw [h2E3] at H
     refine gm S fun a S => ?_
     refine' wl_or (B2 := false) 2 111 rfl S H rfl rfl rfl rfl rfl rfl rfl (fun _ S => (wn rfl)) (fun h25 kk => ?yh25) (fun a w S H => ?_)
     case yh25 => exact absurd h25 (by simp)
     refine gnt ?_
     refine c_if S rfl (fun h26 => ?_) (fun h26 => ?_)
     ·have h26p := h26; try simp only [DL] at h26p
      refine g_skip ?_
      refine n_then ?_
      have S := (((((((((S.nil.cons S 0 rfl).cons S 1 rfl).cons S 6 rfl).cons S 7 rfl).cons S 8 rfl).cons S 9 rfl).cons S 10 rfl).cons S 11 rfl).cons S 12 rfl).cons S 14 rfl
      refine g_block ?_
      refine g_skip ?_
      refine n_block ?_
      refine n_then ?_
      exact ⟨(3, z), S.nil, (((((((((S.nil.cons S 0 rfl).cons S 1 rfl).cons S 6 rfl).cons S 7 rfl).cons S 8 rfl).cons S 9 rfl).cons S 10 rfl).cons S 11 rfl).cons S 12 rfl).cons S 14 rfl, ⟨by simp, H⟩, by simp⟩
     ·have h26p := h26; try simp only [DL] at h26p
      all_goals (
        exact absurd h26 (by simp))
    ·have H : HSat No w0 (GrpA c 3 (h2 3) z :: GCel c :: GPts c 3 :: []) _ := H
     refine g_region ?_
     refine gm S fun a S => ?_
     refine wl_of (op_call (wn rfl) rfl rfl S (co_func rfl Try.call12 S rfl) (deliver_spec c 3 (h2 3) z 1 2 false _ H ((okh2 3).fit (by omega))) fun v w hc a S => ?_)
     obtain ⟨rfl, z, H⟩ := hc
     rw [show ((h2 3).deliver 1 2 false).2 = false from by kernel_rfl] at S
     refine gm S fun a S => ?_
     refine gz 111 rfl S rfl rfl rfl rfl rfl rfl (y_move rfl S rfl) fun a S => ?_
     refine wl_of (op_call (wg' 111 rfl rfl S rfl rfl rfl) rfl rfl S (co_func rfl Try.call12 S rfl) (deliver_spec c 3 ((h2 3).deliver 1 2 false).1 z 2 1 false _ H (((okh2 3).deliver 1 2 false).fit (by omega))) fun v w hc a S => ?_)
     obtain ⟨rfl, z, H⟩ := hc
     rw [show (((h2 3).deliver 1 2 false).1.deliver 2 1 false).2 = true from by kernel_rfl] at S
     rw [h2E4] at H
     refine gy rfl rfl rfl S (y_or' rfl rfl S rfl rfl) fun a S => ?_
     refine gnt ?_
     have S := ((((((((((S.nil.cons S 0 rfl).cons S 1 rfl).cons S 6 rfl).cons S 7 rfl).cons S 8 rfl).cons S 9 rfl).cons S 10 rfl).cons S 11 rfl).cons S 12 rfl).cons S 14 rfl).cons S 114 rfl
     refine c_if S rfl (fun h28 => ?_) (fun h28 => ?_)
     ·have h28p := h28; try simp only [DL] at h28p
      refine g_skip ?_
      refine n_then ?_
      refine g_block ?_
      refine g_skip ?_
      refine n_block ?_
      refine n_then ?_
      exact ⟨(4, z), S.nil, (((((((((S.nil.cons S 0 rfl).cons S 1 rfl).cons S 6 rfl).cons S 7 rfl).cons S 8 rfl).cons S 9 rfl).cons S 10 rfl).cons S 11 rfl).cons S 12 rfl).cons S 14 rfl, ⟨by simp, H⟩, by simp⟩
     ·have h28p := h28; try simp only [DL] at h28p
      all_goals (
        exact absurd h28 (by simp))
    ·have H : HSat No w0 (GrpA c 3 (h2 4) z :: GCel c :: GPts c 3 :: []) _ := H
     refine g_region ?_
     refine gm S fun a S => ?_
     refine wl_of (op_call (wn rfl) rfl rfl S (co_func rfl Try.call12 S rfl) (deliver_spec c 3 (h2 4) z 1 2 false _ H ((okh2 4).fit (by omega))) fun v w hc a S => ?_)
     obtain ⟨rfl, z, H⟩ := hc
     rw [show ((h2 4).deliver 1 2 false).2 = false from by kernel_rfl] at S
     refine gm S fun a S => ?_
     refine gz 111 rfl S rfl rfl rfl rfl rfl rfl (y_move rfl S rfl) fun a S => ?_
     refine wl_of (op_call (wg' 111 rfl rfl S rfl rfl rfl) rfl rfl S (co_func rfl Try.call12 S rfl) (deliver_spec c 3 ((h2 4).deliver 1 2 false).1 z 2 1 false _ H (((okh2 4).deliver 1 2 false).fit (by omega))) fun v w hc a S => ?_)
     obtain ⟨rfl, z, H⟩ := hc
     rw [show (((h2 4).deliver 1 2 false).1.deliver 2 1 false).2 = false from by kernel_rfl] at S
     rw [h2E5] at H
     refine gy rfl rfl rfl S (y_or' rfl rfl S rfl rfl) fun a S => ?_
     refine gnt ?_
     have S := ((((((((((S.nil.cons S 0 rfl).cons S 1 rfl).cons S 6 rfl).cons S 7 rfl).cons S 8 rfl).cons S 9 rfl).cons S 10 rfl).cons S 11 rfl).cons S 12 rfl).cons S 14 rfl).cons S 114 rfl
     refine c_if S rfl (fun h30 => ?_) (fun h30 => ?_)
     ·have h30p := h30; try simp only [DL] at h30p
      all_goals (
        exact absurd h30 (by simp))
     ·have h30p := h30; try simp only [DL] at h30p
      refine g_exit ?_
      refine x_then (x_then (x_eq ?_))
      refine n_then ?_
      refine gsr ?_
      refine gm S fun a S => ?_
      refine wl_of (op_call (wn rfl) rfl rfl S (co_func rfl Try.call16 S rfl) (propose_spec c 3 (h2 5) z ⟨#[98]⟩ _ H ((okh2 5).fit (by omega))) fun v w hc a S => ?_)
      obtain ⟨rfl, z, H⟩ := hc
      rw [show propX (h2 5) ⟨#[98]⟩ = (1, 0) from by kernel_rfl] at S
      refine gm S fun a S => ?_
      refine gy rfl rfl rfl S (y_extract rfl S rfl rfl) fun a S => ?_
      refine gy rfl rfl rfl S (y_extract rfl S rfl rfl) fun a S => ?_
      refine ga S fun a S => ?_
      refine ga S fun a S => ?_
      refine gnt ?_
      have S := (((((((((((S.nil.cons S 0 rfl).cons S 1 rfl).cons S 6 rfl).cons S 7 rfl).cons S 8 rfl).cons S 9 rfl).cons S 10 rfl).cons S 11 rfl).cons S 12 rfl).cons S 14 rfl).cons S 15 rfl).cons S 16 rfl
      refine gsr ?_
      refine gm S fun a S => ?_
      refine gy rfl rfl rfl S (y_bin rfl S rfl rfl rfl) fun a S => ?_
      refine gm S fun a S => ?_
      refine gz 122 rfl S rfl rfl rfl rfl rfl rfl (y_move rfl S rfl) fun a S => ?_
      refine gy rfl rfl rfl S (y_and' rfl rfl S rfl rfl) fun a S => ?_
      refine gm S fun a S => ?_
      refine gz 125 rfl S rfl rfl rfl rfl rfl rfl (y_move rfl S rfl) fun a S => ?_
      refine gz 125 rfl S rfl rfl rfl rfl rfl rfl (y_bin rfl S rfl rfl rfl) fun a S => ?_
      refine gy rfl rfl rfl S (y_and' rfl rfl S rfl rfl) fun a S => ?_
      refine gm S fun a S => ?_
      refine gz 129 rfl S rfl rfl rfl rfl rfl rfl (y_move rfl S rfl) fun a S => ?_
      refine gz 129 rfl S rfl rfl rfl rfl rfl rfl (y_bin rfl S rfl rfl rfl) fun a S => ?_
      refine gy rfl rfl rfl S (y_and' rfl rfl S rfl rfl) fun a S => ?_
      refine gm S fun a S => ?_
      refine gz 133 rfl S rfl rfl rfl rfl rfl rfl (y_move rfl S rfl) fun a S => ?_
      refine gz 133 rfl S rfl rfl rfl rfl rfl rfl (y_bin rfl S rfl rfl rfl) fun a S => ?_
      refine gy rfl rfl rfl S (y_and' rfl rfl S rfl rfl) fun a S => ?_
      refine gm S fun a S => ?_
      refine gz 137 rfl S rfl rfl rfl rfl rfl rfl (y_move rfl S rfl) fun a S => ?_
      refine gy rfl rfl rfl S (y_and' rfl rfl S rfl rfl) fun a S => ?_
      refine gm S fun a S => ?_
      refine gz 140 rfl S rfl rfl rfl rfl rfl rfl (y_move rfl S rfl) fun a S => ?_
      refine gy rfl rfl rfl S (y_and' rfl rfl S rfl rfl) fun a S => ?_
      refine gm S fun a S => ?_
      refine gz 143 rfl S rfl rfl rfl rfl rfl rfl (y_move rfl S rfl) fun a S => ?_
      refine gz 143 rfl S rfl rfl rfl rfl rfl rfl (y_bin rfl S rfl rfl rfl) fun a S => ?_
      refine gy rfl rfl rfl S (y_and' rfl rfl S rfl rfl) fun a S => ?_
      refine gm S fun a S => ?_
      refine gz 147 rfl S rfl rfl rfl rfl rfl rfl (y_move rfl S rfl) fun a S => ?_
      refine gz 147 rfl S rfl rfl rfl rfl rfl rfl (y_bin rfl S rfl rfl rfl) fun a S => ?_
      refine gy rfl rfl rfl S (y_and' rfl rfl S rfl rfl) fun a S => ?_
      refine gm S fun a S => ?_
      refine gz 151 rfl S rfl rfl rfl rfl rfl rfl (y_move rfl S rfl) fun a S => ?_
      refine gz 151 rfl S rfl rfl rfl rfl rfl rfl (y_bin rfl S rfl rfl rfl) fun a S => ?_
      refine gy rfl rfl rfl S (y_and' rfl rfl S rfl rfl) fun a S => ?_
      refine gm S fun a S => ?_
      refine gz 155 rfl S rfl rfl rfl rfl rfl rfl (y_move rfl S rfl) fun a S => ?_
      refine wl_of (op_call (wg' 155 rfl rfl S rfl rfl rfl) rfl rfl S (co_func rfl Try.call12 S rfl) (deliver_spec c 3 ((h2 5).propose ⟨#[98]⟩) z 1 1 false _ H (((okh2 5).propose ⟨#[98]⟩).fit (by omega))) fun v w hc a S => ?_)
      obtain ⟨rfl, z, H⟩ := hc
      rw [show (((h2 5).propose ⟨#[98]⟩).deliver 1 1 false).2 = false from by kernel_rfl] at S
      refine gz 155 rfl S rfl rfl rfl rfl rfl rfl (y_not rfl S rfl) fun a S => ?_
      refine gy rfl rfl rfl S (y_and' rfl rfl S rfl rfl) fun a S => ?_
      refine gm S fun a S => ?_
      refine gz 160 rfl S rfl rfl rfl rfl rfl rfl (y_move rfl S rfl) fun a S => ?_
      refine wl_of (op_call (wg' 160 rfl rfl S rfl rfl rfl) rfl rfl S (co_func rfl Try.call20 S rfl) (committed_spec c 3 ((((h2 5).propose ⟨#[98]⟩).deliver 1 1 false).1) z 9 _ H ((((okh2 5).propose ⟨#[98]⟩).deliver 1 1 false).fit (by omega))) fun uc w hc a S => ?_)
      have H1 := hc
      have H := H.call1 H1 rfl
      refine gz 160 rfl S rfl rfl rfl rfl rfl rfl (y_lens rfl Try.underlying39 S H rfl) fun a S => ?_
      rw [show (comR ((((h2 5).propose ⟨#[98]⟩).deliver 1 1 false).1) 9).length = 0 from by kernel_rfl] at S
      have H := H.tail
      refine gz 160 rfl S rfl rfl rfl rfl rfl rfl (y_bin rfl S rfl rfl rfl) fun a S => ?_
      refine gy rfl rfl rfl S (y_and' rfl rfl S rfl rfl) fun a S => ?_
      refine ga S fun a S => ?_
      refine gnt ?_
      have S := S.nil.cons S 0 rfl
      refine g_ret ?_
      refine ret1 rfl S rfl ?_
      exact ⟨rfl, H.toExt⟩
end Go.Proofs.Ytbjknckddoegfaa
