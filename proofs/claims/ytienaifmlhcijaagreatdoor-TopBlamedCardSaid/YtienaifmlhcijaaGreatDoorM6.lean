/- Parts of the proof, joined: the program logic, the plain theory, the walks, as they are named inside. No condition. -/
import Derived.Test.YtienaifmlhcijaaGreatDoorChecked
import Derived.Test.YtienaifmlhcijaaGreatDoorM2
import Derived.Test.YtienaifmlhcijaaGreatDoorM3
import Derived.Test.YtienaifmlhcijaaGreatDoorM5
import Derived.Test.YtienaifmlhcijaaGreatDoorM4
import Derived.Test.YtienaifmlhcijaaGreatDoorRows
import Derived.Test.YtienaifmlhcijaaGreatDoorCards
import Derived.Test.YtienaifmlhcijaaGreatDoorTie
import Derived.Test.YtienaifmlhcijaaGreatDoorM1
import Derived.WalkKit
import Derived.ProofKit
import Derived.OpenShut
import Derived.LaidMore
import Derived.Lay
import Derived.SevenTiedAt
import Derived.Stop.Joined
section
namespace Go.Proofs.YtienaifmlhcijaaGreatDoor
open Go Go.Gw
set_option linter.unusedVariables false
set_option linter.unusedSimpArgs false
section
variable {M : Nat → Prop} {w0 w : World} {l : List Atom} {x1 x2 x3 y1 y2 : Atom}
theorem rot32 (H : HSat M w0 (x1 :: x2 :: x3 :: y1 :: y2 :: l) w) : HSat M w0 (y1 :: y2 :: x1 :: x2 :: x3 :: l) w := H.perm ((List.perm_append_comm (l₁ := [x1, x2, x3]) (l₂ := [y1, y2])).append_right l)
theorem rot22 (H : HSat M w0 (x1 :: x2 :: y1 :: y2 :: l) w) : HSat M w0 (y1 :: y2 :: x1 :: x2 :: l) w := H.perm ((List.perm_append_comm (l₁ := [x1, x2]) (l₂ := [y1, y2])).append_right l)
theorem rot12 (H : HSat M w0 (x1 :: y1 :: y2 :: l) w) : HSat M w0 (y1 :: y2 :: x1 :: l) w := H.perm ((List.perm_append_comm (l₁ := [x1]) (l₂ := [y1, y2])).append_right l)
theorem rot23 (H : HSat M w0 (y1 :: y2 :: x1 :: x2 :: x3 :: l) w) : HSat M w0 (x1 :: x2 :: x3 :: y1 :: y2 :: l) w := H.perm ((List.perm_append_comm (l₁ := [y1, y2]) (l₂ := [x1, x2, x3])).append_right l)
theorem dropM2 (H : HSat M w0 (y1 :: y2 :: x1 :: x2 :: l) w) : HSat M w0 (y1 :: y2 :: l) w := H.sub (List.Sublist.cons_cons _ (List.Sublist.cons_cons _ (List.Sublist.cons _ (List.sublist_cons_self _ _))))
theorem dropM1 (H : HSat M w0 (y1 :: y2 :: x1 :: l) w) : HSat M w0 (y1 :: y2 :: l) w := H.sub (List.Sublist.cons_cons _ (List.Sublist.cons_cons _ (List.sublist_cons_self _ _)))
end
set_option maxHeartbeats 2000000 in
/-- foyer/merge.gate -/
theorem gate_spec {M : Nat → Prop} {u0 : World} {l : List Atom} (v : Value) (xs : List SV) (pb : Nat) (bv : Value) (bs : List BV) (w0 : World) (h0 : HSat M u0 (Sl v 6 encSV xs :: Cel pb 76 [bv] :: OSl 45 bv 6 encBV (bs) :: l) w0) (hl : bs.length ≤ 5000000) (hx : xs.length ≤ 200000) (hne : 0 < xs.length) (hnum : (xs.map (·.number)).Nodup) :
    Ret Tryz.prog 25 #[v, .func (.func 26) #[.pointer (some ⟨pb, 0, none⟩)] #[]] w0 (fun u w => u = .tuple #[] ∧ ∃ bv', HSat M u0 (Sl v 6 encSV xs :: Cel pb 76 [bv'] :: OSl 45 bv' 6 encBV (bs ++ gateB xs) :: l) w) := by
 refine ret_of_wp (nt := 112) Tryz.func25 rfl rfl rfl (fl := [(0, v), (1, .func (.func 26) #[.pointer (some ⟨pb, 0, none⟩)] #[])]) rfl (fun a S => ?_)
 have H := h0
 have hns := nsF_len xs
 have hhd : xs.headD SV.z = xs[0] := by cases xs with | nil => simp at hne | cons x r => rfl
 refine gsr ?_
 refine wl_of (op_makeMap (fun n : Int => .int .i64 n) (fun s : SV => .agg (encSV s).toArray) (wn rfl) rfl rfl rfl S H fun b17 a w S H => ?_)
 refine ga S fun a S => ?_
 refine gnt ?_
 refine gsr ?_
 refine ga S fun a S => ?_
 refine gnt ?_
 refine g_seq ?_
 refine gsr ?_
 refine gm S fun a S => ?_
 refine gy rfl rfl rfl S (y_lens rfl Tryz.underlying29 S H rfl) fun a S => ?_
 refine gm S fun a S => ?_
 refine gnt ?_
 refine g_block ?_
 have SU := ((((S.nil.cons S 1 rfl).cons S 0 rfl).cons S 4 rfl).cons S 18 rfl).cons S 19 rfl
 refine loopW (X := Nat × Value × Nat) SU (fun x => [(20, .int .i64 (x.1 : Int)), (5, x.2.1)]) (fun x w => x.1 ≤ xs.length ∧ HSat M u0 (OSl 3 x.2.1 1 encI ((xs.take (x.1)).map (·.number)) :: MapA b17 (fun n : Int => .int .i64 n) (fun s : SV => .agg (encSV s).toArray) (lookN (xs.take (x.1))) x.2.2 :: Sl v 6 encSV xs :: Cel pb 76 [bv] :: OSl 45 bv 6 encBV (bs) :: l) w) (fun x => xs.length - x.1) (0, .slice none 0 0, 0) ((S.nil.cons S 5 rfl).cons S 20 rfl) (⟨Nat.zero_le _, by exact H.nilO 3 1 encI⟩) (fun x a w S hW => ?_)
 simp only [List.cons_append, List.nil_append] at S
 obtain ⟨k, lv, c⟩ := x
 obtain ⟨hk, H⟩ := hW
 dsimp only at S H hk
 refine gsr ?_
 refine gy rfl rfl rfl S (y_bin rfl S rfl rfl rfl) fun a S => ?_
 refine gnt ?_
 refine g_seq ?_
 refine c_if S rfl (fun h1 => ?_) (fun h1 => ?_)
 ·have h1p := h1; try simp only [DL] at h1p
  have hkl : k < xs.length := by omega
  have htk := List.take_succ_eq_append_getElem hkl
  have hno := lookN_none (l := xs.take k) (lookN_take hnum hkl)
  refine g_skip ?_
  refine n_then ?_
  refine g_seq ?_
  refine g_block ?_
  refine gsr ?_
  refine gy rfl rfl rfl S (y_iaddrn rfl Tryz.underlying29 Fsiz32 S H rfl rfl (by first | assumption | omega | (simp only [LL]; omega))) fun a S => ?_
  refine gy rfl rfl rfl S (y_loadsa _ rfl S H rfl (by exact Fagg32) (by first | assumption | omega | (simp only [LL]; omega))) fun a S => ?_
  refine wl_of (op_alloc (wn rfl) rfl rfl rfl S H Fzer32 fun b7 a w S H => ?_)
  refine wl_of (op_storea (wn rfl) rfl rfl S H rfl rfl rfl Fsiz32 rfl (cs' := encSV xs[k]) rfl fun a w S H => ?_)
  refine gnt ?_
  refine g_seq ?_
  refine gsr ?_
  refine gm S fun a S => ?_
  refine gy rfl rfl rfl S (y_faddrb rfl Ffo32_1 S rfl) fun a S => ?_
  refine gy rfl rfl rfl S (y_load rfl Fsca3 S H rfl rfl) fun a S => ?_
  refine gy rfl rfl rfl S (y_lookupok (_) (SV.z) rfl Tryz.underlying120 Finf32 S H rfl (keyOK_int Tryz.underlying3) (by exact rfl) (by exact rfl)) fun a S => ?_
  rw [hno] at S
  refine gm S fun a S => ?_
  refine gy rfl rfl rfl S (y_extract rfl S rfl rfl) fun a S => ?_
  refine gy rfl rfl rfl S (y_extract rfl S rfl rfl) fun a S => ?_
  refine wl_of (op_alloc (wn rfl) rfl rfl rfl S H Fzer32 fun b8 a w S H => ?_)
  refine wl_of (op_storea (wn rfl) rfl rfl S H rfl rfl rfl Fsiz32 rfl (cs' := encSV SV.z) rfl fun a w S H => ?_)
  refine ga S fun a S => ?_
  refine gnt ?_
  have S := ((((((((S.nil.cons S 1 rfl).cons S 0 rfl).cons S 4 rfl).cons S 18 rfl).cons S 19 rfl).cons S 5 rfl).cons S 20 rfl).cons S 7 rfl).cons S 9 rfl
  refine gsr ?_
  refine gm S fun a S => ?_
  refine gnt ?_
  refine c_if S rfl (fun h2 => ?_) (fun h2 => ?_)
  ·have h2p := h2; try simp only [DL] at h2p
   all_goals (
     exact absurd h2 (by simp))
  ·have h2p := h2; try simp only [DL] at h2p
   refine g_skip ?_
   refine n_then ?_
   refine gsr ?_
   refine gm S fun a S => ?_
   refine gy rfl rfl rfl S (y_faddrb rfl Ffo32_1 S rfl) fun a S => ?_
   refine gy rfl rfl rfl S (y_load rfl Fsca3 S H rfl rfl) fun a S => ?_
   refine gy rfl rfl rfl S (y_load0 rfl S H rfl (by exact Fagg32)) fun a S => ?_
   refine wl_of (op_mapUpdate (_) (_) (wn rfl) rfl rfl Tryz.underlying120 S H rfl (keyOK_int Tryz.underlying3) (by exact rfl) (by exact rfl) fun a w S H => ?_)
   refine gnt ?_
   have S := (((((((S.nil.cons S 1 rfl).cons S 0 rfl).cons S 4 rfl).cons S 18 rfl).cons S 19 rfl).cons S 5 rfl).cons S 20 rfl).cons S 7 rfl
   refine g_region ?_
   refine gm S fun a S => ?_
   refine gy rfl rfl rfl S (y_faddrb rfl Ffo32_1 S rfl) fun a S => ?_
   refine gy rfl rfl rfl S (y_load rfl Fsca3 S H rfl rfl) fun a S => ?_
   refine wl_of (op_buildSlice (wn rfl) rfl rfl rfl Tryz.underlying40 Finf3 S H (idx := [0]) rfl rfl rfl (z := [.int .i64 0]) (by kernel_rfl) (cs := [_]) rfl fun b46 a w S H => ?_)
   refine wl_of (op_append ([xs[k].number]) (wn rfl) rfl rfl rfl Tryz.underlying40 Finf3 rfl rfl S H rfl rfl rfl rfl (by simp) (by simp [encI]) (by simp [encI, Value.oneCell']) (by simp only [List.length_singleton, List.length_map, List.length_take]; omega) (by simp only [List.length_singleton, List.length_map, List.length_take]; omega) fun u47 a w hn47 S H => ?_)
   refine ga S fun a S => ?_
   refine gl_nil ?_
   refine n_block ?_
   refine n_then ?_
   have S := ((((((S.nil.cons S 1 rfl).cons S 0 rfl).cons S 4 rfl).cons S 18 rfl).cons S 19 rfl).cons S 20 rfl).cons S 5 rfl
   refine g_region ?_
   refine gy rfl rfl rfl S (y_add rfl S rfl rfl (by omega)) fun a S => ?_
   refine gm S fun a S => ?_
   refine gnt ?_
   have e1 : (xs.take k).map (·.number) ++ [xs[k].number] = (xs.take (k + 1)).map (·.number) := by rw [htk, List.map_append]; rfl
   rw [e1, lookN_snoc (lookN_take hnum hkl), ← htk] at H
   exact ⟨(k + 1, u47, if (lookN (xs.take k) xs[k].number).isSome = true then c else c + 1), (S.nil.cons S 5 rfl).cons S 20 rfl, ((((S.nil.cons S 1 rfl).cons S 0 rfl).cons S 4 rfl).cons S 18 rfl).cons S 19 rfl, ⟨by dsimp only; omega, H.drop 3⟩, by dsimp only; omega⟩
 ·have h1p := h1; try simp only [DL] at h1p
  obtain rfl : k = xs.length := by omega
  rw [List.take_length] at H
  refine g_exit ?_
  refine x_then (x_then (x_eq ?_))
  refine n_then ?_
  have S := (((S.nil.cons S 1 rfl).cons S 0 rfl).cons S 4 rfl).cons S 5 rfl
  refine gsr ?_
  refine gm S fun a S => ?_
  refine wl_of (op_call (wn rfl) rfl rfl S (co_func rfl Tryz.call59 S rfl) (sortI_spec lv _ _ (by simp only [List.length_map]; omega) H) fun v w hc a S => ?_)
  obtain ⟨rfl, H⟩ := hc
  have H := rot32 (H.freeze.swap2.freeze.swap2)
  refine gnt ?_
  refine g_seq ?_
  refine gsr ?_
  refine ga S fun a S => ?_
  refine gnt ?_
  refine g_block ?_
  have SU := (((S.nil.cons S 1 rfl).cons S 0 rfl).cons S 4 rfl).cons S 5 rfl
  refine loopW (X := Nat × Value) SU (fun x => [(10, .int .i64 ((x.1 + 1 : Nat) : Int))]) (fun x w => x.1 + 1 ≤ xs.length ∧ HSat M u0 (Cel pb 76 [x.2] :: OSl 45 x.2 6 encBV (bs ++ ordBs xs (nsF xs) (x.1)) :: Atom.ro (OSl 3 lv 1 encI (nsF xs)) :: Atom.ro (MapA b17 (fun n : Int => .int .i64 n) (fun s : SV => .agg (encSV s).toArray) (lookN (xs)) c) :: Sl v 6 encSV xs :: l) w) (fun x => xs.length - x.1) (0, bv) (S.nil.cons S 10 rfl) (⟨by dsimp only; omega, by dsimp only; rw [show bs ++ ordBs xs (nsF xs) 0 = bs from List.append_nil bs]; exact H⟩) (fun x a w S hW => ?_)
  simp only [List.cons_append, List.nil_append] at S
  obtain ⟨i, bv⟩ := x
  obtain ⟨hi, H⟩ := hW
  dsimp only at S H hi
  refine g_seq ?_
  refine gsr ?_
  refine gm S fun a S => ?_
  refine gm S fun a S => ?_
  refine gy rfl rfl rfl S (y_lens rfl Tryz.underlying40 S H rfl) fun a S => ?_
  refine gy rfl rfl rfl S (y_bin rfl S rfl rfl rfl) fun a S => ?_
  refine gnt ?_
  refine c_if S rfl (fun h3 => ?_) (fun h3 => ?_)
  ·have h3p := h3; try simp only [DL] at h3p
   have hi1 : i + 1 < (nsF xs).length := by omega
   have eA : (lookN xs (nsF xs)[i + 1]).getD SV.z = (atN xs ((nsF xs).getD (i + 1) 0)) := by rw [getD_at hi1]; rfl
   have eB : (lookN xs (nsF xs)[i]).getD SV.z = (atN xs ((nsF xs).getD (i + 1 - 1) 0)) := by rw [getD_at (show i < (nsF xs).length by omega)]; rfl
   refine g_skip ?_
   refine n_then ?_
   have S := ((((S.nil.cons S 1 rfl).cons S 0 rfl).cons S 4 rfl).cons S 5 rfl).cons S 10 rfl
   refine g_seq ?_
   refine g_block ?_
   refine g_seq ?_
   refine cut (fun a w => ∃ b11 b12, St 112 [(0, v), (1, .func (.func 26) #[.pointer (some ⟨pb, 0, none⟩)] #[]), (4, .map (some b17)), (5, lv), (10, .int .i64 ((i + 1 : Nat) : Int)), (11, .pointer (some ⟨b11, 0, none⟩)), (12, .pointer (some ⟨b12, 0, none⟩))] a ∧ HSat M u0 (Cel pb 76 [bv] :: OSl 45 bv 6 encBV (bs ++ ordBs xs (nsF xs) (i)) :: Cel b11 32 (encSV (atN xs ((nsF xs).getD (i + 1) 0))) :: Cel b12 32 (encSV (atN xs ((nsF xs).getD (i + 1 - 1) 0))) :: Atom.ro (OSl 3 lv 1 encI (nsF xs)) :: Atom.ro (MapA b17 (fun n : Int => .int .i64 n) (fun s : SV => .agg (encSV s).toArray) (lookN (xs)) c) :: Sl v 6 encSV xs :: l) w) ?_ ?_
   ·skip
    refine t_st (tails := [15, 16]) [Atom.ro (OSl 3 lv 1 encI (nsF xs)), Atom.ro (MapA b17 (fun n : Int => .int .i64 n) (fun s : SV => .agg (encSV s).toArray) (lookN (xs)) c)] Fmo H ?_
    refine t_q 0 rfl (by kernel_rfl) (rem' := [1, 2, 3, 4, 5, 6, 7, 8, 9, 10, 11, 12, 13, 14, 15, 16]) rfl rfl rfl rfl S (fun w H => y_move rfl S rfl) fun a S => ?_
    refine t_q 1 rfl (by kernel_rfl) (rem' := [2, 3, 4, 5, 6, 7, 8, 9, 10, 11, 12, 13, 14, 15, 16]) rfl rfl rfl rfl S (fun w H => y_move rfl S rfl) fun a S => ?_
    refine t_q 2 rfl (by kernel_rfl) (rem' := [3, 4, 5, 6, 7, 8, 9, 10, 11, 12, 13, 14, 15, 16]) rfl rfl rfl rfl S (fun w H => y_move rfl S rfl) fun a S => ?_
    refine t_q 3 rfl (by kernel_rfl) (rem' := [4, 5, 6, 7, 8, 9, 10, 11, 12, 13, 14, 15, 16]) rfl rfl rfl rfl S (fun w H => y_iaddrn rfl Tryz.underlying40 Fsiz3 S H rfl rfl (by first | assumption | omega | (simp only [LL]; omega))) fun a S => ?_
    refine t_loads _ 4 rfl (by kernel_rfl) (rem' := [5, 6, 7, 8, 9, 10, 11, 12, 13, 14, 15, 16]) rfl rfl rfl rfl S rfl Fsca3 rfl (by first | assumption | omega | (simp only [LL]; omega)) rfl fun a S => ?_
    refine t_q 5 rfl (by kernel_rfl) (rem' := [6, 7, 8, 9, 10, 11, 12, 13, 14, 15, 16]) rfl rfl rfl rfl S (fun w H => y_lookup (_) (SV.z) rfl Tryz.underlying120 Finf32 S H rfl (keyOK_int Tryz.underlying3) (by exact rfl) (by exact rfl)) fun a S => ?_
    refine t_p 6 rfl (by kernel_rfl) (rem' := [7, 8, 9, 10, 11, 12, 13, 14, 15, 16]) rfl rfl rfl rfl S (fun w => y_move rfl S rfl) fun a S => ?_
    refine t_p 7 rfl (by kernel_rfl) (rem' := [8, 9, 10, 11, 12, 13, 14, 15, 16]) rfl rfl rfl rfl S (fun w => y_move rfl S rfl) fun a S => ?_
    refine t_p 8 rfl (by kernel_rfl) (rem' := [9, 10, 11, 12, 13, 14, 15, 16]) rfl rfl rfl rfl S (fun w => y_move rfl S rfl) fun a S => ?_
    refine t_p 9 rfl (by kernel_rfl) (rem' := [10, 11, 12, 13, 14, 15, 16]) rfl rfl rfl rfl S (fun w => (y_subn (p := i + 1) (q := 1) (m := i) rfl S rfl rfl (by omega) (by omega))) fun a S => ?_
    refine t_f 10 rfl (by kernel_rfl) (rem' := [11, 12, 13, 14, 15, 16]) rfl rfl rfl rfl S (fun w H => y_iaddrn rfl Tryz.underlying40 Fsiz3 S H rfl rfl (by first | assumption | omega | (simp only [LL]; omega))) fun a S => ?_
    refine t_floads _ 11 rfl (by kernel_rfl) (rem' := [12, 13, 14, 15, 16]) rfl rfl rfl rfl S rfl Fsca3 rfl (by first | assumption | omega | (simp only [LL]; omega)) rfl fun a S => ?_
    refine t_f 12 rfl (by kernel_rfl) (rem' := [13, 14, 15, 16]) rfl rfl rfl rfl S (fun w H => y_lookup (_) (SV.z) rfl Tryz.underlying120 Finf32 S H rfl (keyOK_int Tryz.underlying3) (by exact rfl) (by exact rfl)) fun a S => ?_
    refine t_b [13, 14] (by kernel_rfl) rfl (fa2 ?_ ?_)
    ·refine ⟨_, rfl, fun w H => ?_⟩
     refine op_alloc (wn rfl) rfl rfl rfl S H Fzer32 fun b11 a w S H => ?_
     refine t_n H (rem' := [14, 15, 16]) rfl ?_
     refine t_b1 14 (by kernel_rfl) rfl fun w H => ?_
     refine op_alloc (wn rfl) rfl rfl rfl S H Fzer32 fun b12 a w S H => ?_
     refine t_n H (rem' := [15, 16]) rfl ?_
     refine t_b1 15 (by kernel_rfl) rfl fun w H => ?_
     refine op_storea (wn rfl) rfl rfl S H rfl rfl rfl Fsiz32 rfl (cs' := encSV ((lookN xs (nsF xs)[i + 1]).getD SV.z)) rfl fun a w S H => ?_
     refine t_tail H rfl (rem' := [16]) rfl ?_
     refine t_b1 16 (by kernel_rfl) rfl fun w H => ?_
     refine op_storea (wn rfl) rfl rfl S H rfl rfl rfl Fsiz32 rfl (cs' := encSV ((lookN xs (nsF xs)[i]).getD SV.z)) rfl fun a w S H => ?_
     refine t_tail H rfl (rem' := []) rfl ?_
     refine t_nil (fun w H => ?_)
     rw [eA, eB] at H
     first
     | exact ⟨_, _, ((((((S.nil.cons S 12 rfl).cons S 11 rfl).cons S 10 rfl).cons S 5 rfl).cons S 4 rfl).cons S 1 rfl).cons S 0 rfl, rot22 H⟩
     | exact ⟨_, _, ((((((S.nil.cons S 12 rfl).cons S 11 rfl).cons S 10 rfl).cons S 5 rfl).cons S 4 rfl).cons S 1 rfl).cons S 0 rfl, rot22 H.swap2⟩
    ·refine ⟨_, rfl, fun w H => ?_⟩
     refine op_alloc (wn rfl) rfl rfl rfl S H Fzer32 fun b12 a w S H => ?_
     refine t_n H (rem' := [13, 15, 16]) rfl ?_
     refine t_b1 13 (by kernel_rfl) rfl fun w H => ?_
     refine op_alloc (wn rfl) rfl rfl rfl S H Fzer32 fun b11 a w S H => ?_
     refine t_n H (rem' := [15, 16]) rfl ?_
     refine t_b1 15 (by kernel_rfl) rfl fun w H => ?_
     refine op_storea (wn rfl) rfl rfl S H rfl rfl rfl Fsiz32 rfl (cs' := encSV ((lookN xs (nsF xs)[i + 1]).getD SV.z)) rfl fun a w S H => ?_
     refine t_tail H rfl (rem' := [16]) rfl ?_
     refine t_b1 16 (by kernel_rfl) rfl fun w H => ?_
     refine op_storea (wn rfl) rfl rfl S H rfl rfl rfl Fsiz32 rfl (cs' := encSV ((lookN xs (nsF xs)[i]).getD SV.z)) rfl fun a w S H => ?_
     refine t_tail H rfl (rem' := []) rfl ?_
     refine t_nil (fun w H => ?_)
     rw [eA, eB] at H
     first
     | exact ⟨_, _, ((((((S.nil.cons S 12 rfl).cons S 11 rfl).cons S 10 rfl).cons S 5 rfl).cons S 4 rfl).cons S 1 rfl).cons S 0 rfl, rot22 H⟩
     | exact ⟨_, _, ((((((S.nil.cons S 12 rfl).cons S 11 rfl).cons S 10 rfl).cons S 5 rfl).cons S 4 rfl).cons S 1 rfl).cons S 0 rfl, rot22 H.swap2⟩
   rintro a w ⟨b11, b12, S, H⟩
   refine gsr ?_
   refine gy rfl rfl rfl S (y_faddrb rfl Ffo32_2 S rfl) fun a S => ?_
   refine gy rfl rfl rfl S (y_load rfl Fsca3 S H rfl rfl) fun a S => ?_
   refine gy rfl rfl rfl S (y_faddrb rfl Ffo32_2 S rfl) fun a S => ?_
   refine gy rfl rfl rfl S (y_load rfl Fsca3 S H rfl rfl) fun a S => ?_
   refine gy rfl rfl rfl S (y_bin rfl S rfl rfl rfl) fun a S => ?_
   refine gnt ?_
   have S := (((((((S.nil.cons S 12 rfl).cons S 11 rfl).cons S 10 rfl).cons S 5 rfl).cons S 4 rfl).cons S 1 rfl).cons S 0 rfl).cons S 74 rfl
   refine c_if S rfl (fun h4 => ?_) (fun h4 => ?_)
   ·have h4p := h4; try simp only [DL] at h4p
    have hob : ordB1 xs (nsF xs) (i + 1) = [blameF 3 (atN xs ((nsF xs).getD (i + 1) 0)) (atN xs ((nsF xs).getD (i + 1) 0)).gate (atN xs ((nsF xs).getD (i + 1 - 1) 0)).number] := by unfold ordB1; rw [if_pos (by exact h4p)]
    refine g_region ?_
    refine gm S fun a S => ?_
    refine gy rfl rfl rfl S (y_load0 rfl S H rfl (by exact Fagg32)) fun a S => ?_
    refine gy rfl rfl rfl S (y_faddrb rfl Ffo32_0 S rfl) fun a S => ?_
    refine gy rfl rfl rfl S (y_load rfl Fsca3 S H rfl rfl) fun a S => ?_
    refine gy rfl rfl rfl S (y_faddrb rfl Ffo32_1 S rfl) fun a S => ?_
    refine gy rfl rfl rfl S (y_load rfl Fsca3 S H rfl rfl) fun a S => ?_
    refine wl_of (op_call (wn rfl) rfl rfl S (co_value (fi := [.pointer (some ⟨pb, 0, none⟩)]) (cap := []) rfl Tryz.call26 S rfl rfl) (blame_spec pb bv (bs ++ ordBs xs (nsF xs) (i)) 3 (atN xs ((nsF xs).getD (i + 1) 0)).gate (atN xs ((nsF xs).getD (i + 1 - 1) 0)).number (atN xs ((nsF xs).getD (i + 1) 0)) _ H (by simp only [List.length_append]; have := ordBs_len xs (nsF xs) i; have := ordBs_len xs (nsF xs) (xs.length - 1); have := misBs_len xs (xs.headD SV.z).gate (mostF xs) i; omega)) fun v w hc a S => ?_)
    obtain ⟨rfl, bv2, H⟩ := hc
    
    refine gl_nil ?_
    refine n_block ?_
    refine n_then ?_
    have S := ((((S.nil.cons S 10 rfl).cons S 5 rfl).cons S 4 rfl).cons S 1 rfl).cons S 0 rfl
    refine g_region ?_
    refine gm S fun a S => ?_
    refine gy rfl rfl rfl S (y_add rfl S rfl rfl (by omega)) fun a S => ?_
    refine ga S fun a S => ?_
    refine gnt ?_
    first
    | exact ⟨(i + 1, bv2), S.nil.cons S 10 rfl, (((S.nil.cons S 1 rfl).cons S 0 rfl).cons S 4 rfl).cons S 5 rfl, ⟨by dsimp only; omega, by dsimp only; rw [ordBs_s, hob, ← List.append_assoc]; exact dropM2 H⟩, by dsimp only; omega⟩
    | exact ⟨(i + 1, bv), S.nil.cons S 10 rfl, (((S.nil.cons S 1 rfl).cons S 0 rfl).cons S 4 rfl).cons S 5 rfl, ⟨by dsimp only; omega, by dsimp only; rw [ordBs_s, hob, List.append_nil]; exact dropM2 H⟩, by dsimp only; omega⟩
   ·have h4p := h4; try simp only [DL] at h4p
    have hob : ordB1 xs (nsF xs) (i + 1) = [] := by unfold ordB1; rw [if_neg (by have h := h4p; omega)]
    refine g_skip ?_
    refine n_block ?_
    refine n_then ?_
    refine g_region ?_
    refine gm S fun a S => ?_
    refine gy rfl rfl rfl S (y_add rfl S rfl rfl (by omega)) fun a S => ?_
    refine ga S fun a S => ?_
    refine gnt ?_
    first
    | exact ⟨(i + 1, bv2), S.nil.cons S 10 rfl, (((S.nil.cons S 1 rfl).cons S 0 rfl).cons S 4 rfl).cons S 5 rfl, ⟨by dsimp only; omega, by dsimp only; rw [ordBs_s, hob, ← List.append_assoc]; exact dropM2 H⟩, by dsimp only; omega⟩
    | exact ⟨(i + 1, bv), S.nil.cons S 10 rfl, (((S.nil.cons S 1 rfl).cons S 0 rfl).cons S 4 rfl).cons S 5 rfl, ⟨by dsimp only; omega, by dsimp only; rw [ordBs_s, hob, List.append_nil]; exact dropM2 H⟩, by dsimp only; omega⟩
  ·have h3p := h3; try simp only [DL] at h3p
   have hi1 : i = xs.length - 1 := by omega
   subst hi1
   refine g_exit ?_
   refine x_then (x_then (x_eq ?_))
   refine n_then ?_
   have S := (((S.nil.cons S 1 rfl).cons S 0 rfl).cons S 4 rfl).cons S 5 rfl
   refine gsr ?_
   refine gm S fun a S => ?_
   refine gm S fun a S => ?_
   refine gy rfl rfl rfl S (y_lens rfl Tryz.underlying40 S H rfl) fun a S => ?_
   rw [hns] at S
   refine gy rfl rfl rfl S ((y_subn (m := xs.length - 1) rfl S rfl rfl (by omega) (by omega))) fun a S => ?_
   refine gy rfl rfl rfl S (y_iaddrn rfl Tryz.underlying40 Fsiz3 S H rfl rfl (by first | assumption | omega | (simp only [LL]; omega))) fun a S => ?_
   refine gy rfl rfl rfl S (y_loads _ rfl Fsca3 S H rfl (by first | assumption | omega | (simp only [LL]; omega)) rfl) fun a S => ?_
   rw [show (nsF xs)[xs.length - 1] = mostF xs from getD_at (by omega)] at S
   refine ga S fun a S => ?_
   refine gnt ?_
   have S := (((S.nil.cons S 1 rfl).cons S 0 rfl).cons S 4 rfl).cons S 13 rfl
   refine g_seq ?_
   refine gsr ?_
   refine gm S fun a S => ?_
   refine gy rfl rfl rfl S (y_bin rfl S rfl rfl rfl) fun a S => ?_
   refine gnt ?_
   refine c_if S rfl (fun h5 => ?_) (fun h5 => ?_)
   ·have h5p := h5; try simp only [DL] at h5p
    refine g_ret ?_
    refine r_then (ret0 rfl S ?_)
    refine ⟨rfl, bv, ?_⟩
    unfold gateB; rw [if_pos (by exact h5p), List.append_nil]
    exact (rot23 H).tail.tail
   ·have h5p := h5; try simp only [DL] at h5p
    refine g_skip ?_
    refine n_then ?_
    refine gsr ?_
    refine ga S fun a S => ?_
    refine gnt ?_
    refine g_block ?_
    have SU := (((S.nil.cons S 1 rfl).cons S 0 rfl).cons S 4 rfl).cons S 13 rfl
    refine loopW (X := Nat × Value) SU (fun x => [(14, .int .i64 ((x.1 + 1 : Nat) : Int))]) (fun x w => ((x.1 + 1 : Nat) : Int) ≤ max 1 (mostF xs) ∧ HSat M u0 (Cel pb 76 [x.2] :: OSl 45 x.2 6 encBV (bs ++ ordBs xs (nsF xs) (xs.length - 1) ++ misBs xs (xs.headD SV.z).gate (mostF xs) (x.1)) :: Atom.ro (OSl 3 lv 1 encI (nsF xs)) :: Atom.ro (MapA b17 (fun n : Int => .int .i64 n) (fun s : SV => .agg (encSV s).toArray) (lookN (xs)) c) :: Sl v 6 encSV xs :: l) w) (fun x => (mostF xs - x.1).toNat) (0, bv) (S.nil.cons S 14 rfl) (⟨by dsimp only; omega, by dsimp only; rw [show bs ++ ordBs xs (nsF xs) (xs.length - 1) ++ misBs xs (xs.headD SV.z).gate (mostF xs) (0) = bs ++ ordBs xs (nsF xs) (xs.length - 1) from List.append_nil _]; exact H⟩) (fun x a w S hW => ?_)
    simp only [List.cons_append, List.nil_append] at S
    obtain ⟨i, bv⟩ := x
    obtain ⟨hi, H⟩ := hW
    dsimp only at S H hi
    refine g_seq ?_
    refine gsr ?_
    refine gm S fun a S => ?_
    refine gm S fun a S => ?_
    refine gy rfl rfl rfl S (y_bin rfl S rfl rfl rfl) fun a S => ?_
    refine gnt ?_
    refine c_if S rfl (fun h6 => ?_) (fun h6 => ?_)
    ·have h6p := h6; try simp only [DL] at h6p
     refine g_skip ?_
     refine n_then ?_
     refine g_seq ?_
     refine g_block ?_
     refine gsr ?_
     refine gm S fun a S => ?_
     refine gm S fun a S => ?_
     refine gy rfl rfl rfl S (y_lookupok (_) (SV.z) rfl Tryz.underlying120 Finf32 S H rfl (keyOK_int Tryz.underlying3) (by exact rfl) (by exact rfl)) fun a S => ?_
     refine gm S fun a S => ?_
     refine gy rfl rfl rfl S (y_extract rfl S rfl rfl) fun a S => ?_
     refine gy rfl rfl rfl S (y_extract rfl S rfl rfl) fun a S => ?_
     refine wl_of (op_alloc (wn rfl) rfl rfl rfl S H Fzer32 fun b15 a w S H => ?_)
     refine wl_of (op_storea (wn rfl) rfl rfl S H rfl rfl rfl Fsiz32 rfl (cs' := encSV ((lookN xs ((i + 1 : Nat) : Int)).getD SV.z)) rfl fun a w S H => ?_)
     have H := rot12 H
     refine ga S fun a S => ?_
     refine gnt ?_
     have S := (((((S.nil.cons S 1 rfl).cons S 0 rfl).cons S 4 rfl).cons S 13 rfl).cons S 14 rfl).cons S 16 rfl
     refine gsr ?_
     refine gm S fun a S => ?_
     refine gy rfl rfl rfl S (y_not rfl S rfl) fun a S => ?_
     refine gnt ?_
     refine c_if S rfl (fun h7 => ?_) (fun h7 => ?_)
     ·have h7p := h7; try simp only [DL] at h7p
      have hmb : misB1 xs (xs.headD SV.z).gate (mostF xs) (i + 1) = [blameF 3 ⟨xs[0].gate, ((i + 1 : Nat) : Int), 0, 0, 0, ⟨#[]⟩⟩ (-1) (mostF xs)] := by
        unfold misB1; rw [if_pos (by have h := h7; revert h; cases lookN xs ((i + 1 : Nat) : Int) <;> simp), hhd]; rfl
      refine g_region ?_
      refine gm S fun a S => ?_
      refine gm S fun a S => ?_
      refine gy rfl rfl rfl S (y_iaddrs rfl Tryz.underlying29 Fsiz32 S H rfl rfl (by first | assumption | omega | (simp only [LL]; omega))) fun a S => ?_
      refine gy rfl rfl rfl S (y_faddr rfl Ffo32_0 S rfl) fun a S => ?_
      refine gy rfl rfl rfl S (y_loadsf _ rfl Fsca3 S H rfl (by first | assumption | omega | (simp only [LL]; omega)) rfl) fun a S => ?_
      refine gm S fun a S => ?_
      refine gy rfl rfl rfl S (y_buildf rfl Fbld32 S rfl (idx := [0, 1]) rfl (cs := [.int .i64 xs[0].gate, .int .i64 ((i + 1 : Nat) : Int), .int .i64 0, .int .i64 0, .int .i64 0, .string ⟨#[]⟩]) (by kernel_rfl)) fun a S => ?_
      refine gm S fun a S => ?_
      refine wl_of (op_call (wn rfl) rfl rfl S (co_value (fi := [.pointer (some ⟨pb, 0, none⟩)]) (cap := []) rfl Tryz.call26 S rfl rfl) (blame_spec pb bv (bs ++ ordBs xs (nsF xs) (xs.length - 1) ++ misBs xs (xs.headD SV.z).gate (mostF xs) (i)) 3 (-1) (mostF xs) ⟨xs[0].gate, ((i + 1 : Nat) : Int), 0, 0, 0, ⟨#[]⟩⟩ _ H (by simp only [List.length_append]; have := ordBs_len xs (nsF xs) i; have := ordBs_len xs (nsF xs) (xs.length - 1); have := misBs_len xs (xs.headD SV.z).gate (mostF xs) i; omega)) fun v w hc a S => ?_)
      obtain ⟨rfl, bv2, H⟩ := hc
      
      refine gl_nil ?_
      refine n_block ?_
      refine n_then ?_
      have S := ((((S.nil.cons S 1 rfl).cons S 0 rfl).cons S 4 rfl).cons S 13 rfl).cons S 14 rfl
      refine g_region ?_
      refine gm S fun a S => ?_
      refine gy rfl rfl rfl S (y_add rfl S rfl rfl (by omega)) fun a S => ?_
      refine ga S fun a S => ?_
      refine gnt ?_
      first
      | exact ⟨(i + 1, bv2), S.nil.cons S 14 rfl, (((S.nil.cons S 1 rfl).cons S 0 rfl).cons S 4 rfl).cons S 13 rfl, ⟨by dsimp only; omega, by dsimp only; rw [misBs_s, hmb, ← List.append_assoc]; exact dropM1 H⟩, by dsimp only; omega⟩
      | exact ⟨(i + 1, bv), S.nil.cons S 14 rfl, (((S.nil.cons S 1 rfl).cons S 0 rfl).cons S 4 rfl).cons S 13 rfl, ⟨by dsimp only; omega, by dsimp only; rw [misBs_s, hmb, List.append_nil]; exact dropM1 H⟩, by dsimp only; omega⟩
     ·have h7p := h7; try simp only [DL] at h7p
      have hmb : misB1 xs (xs.headD SV.z).gate (mostF xs) (i + 1) = [] := by
        unfold misB1; rw [if_neg (by have h := h7; revert h; cases lookN xs ((i + 1 : Nat) : Int) <;> simp)]
      refine g_skip ?_
      refine n_block ?_
      refine n_then ?_
      refine g_region ?_
      refine gm S fun a S => ?_
      refine gy rfl rfl rfl S (y_add rfl S rfl rfl (by omega)) fun a S => ?_
      refine ga S fun a S => ?_
      refine gnt ?_
      first
      | exact ⟨(i + 1, bv2), S.nil.cons S 14 rfl, (((S.nil.cons S 1 rfl).cons S 0 rfl).cons S 4 rfl).cons S 13 rfl, ⟨by dsimp only; omega, by dsimp only; rw [misBs_s, hmb, ← List.append_assoc]; exact dropM1 H⟩, by dsimp only; omega⟩
      | exact ⟨(i + 1, bv), S.nil.cons S 14 rfl, (((S.nil.cons S 1 rfl).cons S 0 rfl).cons S 4 rfl).cons S 13 rfl, ⟨by dsimp only; omega, by dsimp only; rw [misBs_s, hmb, List.append_nil]; exact dropM1 H⟩, by dsimp only; omega⟩
    ·have h6p := h6; try simp only [DL] at h6p
     refine g_exit ?_
     refine x_then (x_then (x_eq ?_))
     refine ret0n rfl S ?_
     refine ⟨rfl, bv, ?_⟩
     unfold gateB; rw [if_neg (by have := h5p; omega), show (mostF xs - 1).toNat = i by omega, ← List.append_assoc]
     exact (rot23 H).tail.tail
end Go.Proofs.YtienaifmlhcijaaGreatDoor
end
section
namespace Go.Proofs.YtienaifmlhcijaaGreatDoor
open Go Go.Gw
set_option linter.unusedVariables false
set_option linter.unusedSimpArgs false
/-- foyer/merge.ways -/
theorem ways_spec (v : Value) (xs : List SV) (w0 : World) (hv : IsSl w0 v 6 encSV xs) (hl : xs.length ≤ 200000) :
    Ret Tryz.prog 27 #[v] w0 (fun u w => ∃ b val c, u = .map (some b) ∧ HSat No w0 [MapA b (fun n : Int => .int .i64 n) (fun v : Value => v) (mvF (keysF SV.serial okW xs) val) c, FamA (keysF SV.serial okW xs) (fun j => OSl 32 (val j) 6 encSV (grpF SV.serial okW xs j))] w) := by
 refine ret_of_wp (nt := 5) Tryz.func27 rfl rfl rfl (fl := [(0, v)]) rfl (fun a S => ?_)
 have H := HSat.start w0
 refine gsr ?_
 refine ga S fun a S => ?_
 refine gnt ?_
 refine gsr ?_
 refine gm S fun a S => ?_
 refine wl_of (op_call (wn rfl) rfl rfl S (co_func rfl Tryz.call23 S rfl) (by_spec v xs 60 Tryz.call60 SV.serial okW _ hv hl wkey_spec) fun u4 w hc a S => ?_)
 obtain ⟨b4, val, c, rfl, H1⟩ := hc
 have H := H.call H1 (by simp [MapA, FamA, bun_own])
 simp only [List.cons_append, List.nil_append] at H
 refine ga S fun a S => ?_
 refine gnt ?_
 have S := S.nil.cons S 2 rfl
 refine g_ret ?_
 refine ret1 rfl S rfl ?_
 exact ⟨b4, val, c, rfl, H⟩
/-- slices.Backward[[]foyer/api.Owned,foyer/api.Owned] -/
theorem backward_spec (v : Value) (os : List OV) (w0 : World) (hv : IsSl w0 v 11 encO os) :
    Ret Tryz.prog 22 #[v] w0 (fun u w => ∃ b, u = .func (.func 58) #[] #[.pointer (some ⟨b, 0, none⟩)] ∧ HSat No w0 [Cel b 25 [v]] w) := by
 refine ret_of_wp (nt := 4) Tryz.func22 rfl rfl rfl (fl := [(0, v)]) rfl (fun a S => ?_)
 have H := HSat.start w0
 have H := H.ro0 (Sl v 11 encO os) rfl (hv)
 refine gsr ?_
 refine wl_of (op_box1 (wn rfl) rfl rfl rfl S H rfl (H.slc _) fun b1 a w S H => ?_)
 refine ga S fun a S => ?_
 refine gnt ?_
 refine gsr ?_
 refine gy rfl rfl rfl S (y_makeFunc rfl S rfl rfl) fun a S => ?_
 refine ga S fun a S => ?_
 refine gnt ?_
 have S := S.nil.cons S 2 rfl
 refine g_ret ?_
 refine ret1 rfl S rfl ?_
 exact ⟨_, rfl, H.take [Cel b1 25 [v]]⟩
set_option maxHeartbeats 1000000 in
/-- slices.Backward[[]foyer/api.Owned,foyer/api.Owned]$1 -/
theorem backward_iter {M : Nat → Prop} {u0 : World} {Z : Type} (L : Nat → Z → List Atom) (lb c1 : Nat) (v : Value) (os : List OV) (w0 : World)
    (hround : ∀ k (h : k < os.length) z w, HSat M u0 (Atom.ro (Cel c1 25 [v]) :: Sl v 11 encO os :: L (k + 1) z) w → YieldRet Tryz.prog lb #[.int .i64 (k : Int), .agg (encO os[k]).toArray] w (fun u w' => u = .bool true ∧ ∃ z, HSat M u0 (Atom.ro (Cel c1 25 [v]) :: Sl v 11 encO os :: L (k) z) w')) (h0 : ∃ z, HSat M u0 (Atom.ro (Cel c1 25 [v]) :: Sl v 11 encO os :: L (os.length) z) w0) :
    Ret Tryz.prog 58 #[.func (.yield lb) #[] #[], .pointer (some ⟨c1, 0, none⟩)] w0 (fun u w => ∃ z, HSat M u0 (Atom.ro (Cel c1 25 [v]) :: Sl v 11 encO os :: L (0) z) w) := by
 refine ret_of_wp (nt := 19) Tryz.func58 rfl rfl rfl (fl := [(0, .func (.yield lb) #[] #[]), (1, .pointer (some ⟨c1, 0, none⟩))]) rfl (fun a S => ?_)
 obtain ⟨z0, H⟩ := h0
 have hlx := (H.sl v (xs := os)).len
 refine gsr ?_
 refine gy rfl rfl rfl S (y_load rfl Fsca25 S H rfl rfl) fun a S => ?_
 refine gy rfl rfl rfl S (y_lens rfl Tryz.underlying25 S H rfl) fun a S => ?_
 refine gy rfl rfl rfl S (y_sub rfl S rfl rfl (by omega)) fun a S => ?_
 refine ga S fun a S => ?_
 refine gnt ?_
 refine g_block ?_
 have SU := (S.nil.cons S 1 rfl).cons S 0 rfl
 refine loopW (X := Nat) SU (fun r => [(3, .int .i64 ((r : Int) - 1))]) (fun r w => r ≤ os.length ∧ ∃ z, HSat M u0 (Atom.ro (Cel c1 25 [v]) :: Sl v 11 encO os :: L (r) z) w) (fun r => r) os.length (S.nil.cons S 3 rfl) (⟨by omega, z0, H⟩) (fun r a w S hW => ?_)
 simp only [List.cons_append, List.nil_append] at S
 obtain ⟨hk, z, H⟩ := hW
 refine g_seq ?_
 refine gsr ?_
 refine gm S fun a S => ?_
 refine gy rfl rfl rfl S (y_bin rfl S rfl rfl rfl) fun a S => ?_
 refine gnt ?_
 refine c_if S rfl (fun h1 => ?_) (fun h1 => ?_)
 ·have h1p := h1; try simp only [DL] at h1p
  obtain ⟨k, rfl⟩ : ∃ k, r = k + 1 := ⟨r - 1, by omega⟩
  rw [show (((k + 1 : Nat) : Int) - 1) = (k : Int) by omega] at S
  have hkl : k < os.length := by omega
  refine g_skip ?_
  refine n_then ?_
  refine g_seq ?_
  refine g_block ?_
  refine gsr ?_
  refine gm S fun a S => ?_
  refine gm S fun a S => ?_
  refine gy rfl rfl rfl S (y_load rfl Fsca25 S H rfl rfl) fun a S => ?_
  refine gm S fun a S => ?_
  refine gy rfl rfl rfl S (y_iaddrn rfl Tryz.underlying25 Fsiz42 S H rfl rfl (by first | assumption | omega | (simp only [LL]; omega))) fun a S => ?_
  refine gy rfl rfl rfl S (y_loadsa _ rfl S H rfl (by exact Fagg42) (by first | assumption | omega | (simp only [LL]; omega))) fun a S => ?_
  refine wl_of (op_yield (wn rfl) rfl rfl rfl S rfl rfl (hround k hkl z _ H) fun u w hc a S => ?_)
  obtain ⟨rfl, z2, H⟩ := hc
  refine gy rfl rfl rfl S (y_not rfl S rfl) fun a S => ?_
  refine gnt ?_
  have S := (((S.nil.cons S 1 rfl).cons S 0 rfl).cons S 3 rfl).cons S 18 rfl
  refine c_if S rfl (fun h2 => ?_) (fun h2 => ?_)
  ·have h2p := h2; try simp only [DL] at h2p
   all_goals (
     exact absurd h2 (by simp))
  ·have h2p := h2; try simp only [DL] at h2p
   refine g_skip ?_
   refine n_block ?_
   refine n_then ?_
   refine g_region ?_
   refine gm S fun a S => ?_
   refine gy rfl rfl rfl S (y_sub rfl S rfl rfl (by omega)) fun a S => ?_
   refine ga S fun a S => ?_
   refine gnt ?_
   exact ⟨k, S.nil.cons S 3 rfl, (S.nil.cons S 1 rfl).cons S 0 rfl, ⟨by omega, z2, H⟩, by omega⟩
 ·have h1p := h1; try simp only [DL] at h1p
  obtain rfl : r = 0 := by omega
  refine g_exit ?_
  refine x_then (x_then (x_eq ?_))
  refine ret0n rfl S ?_
  exact ⟨z, H⟩
end Go.Proofs.YtienaifmlhcijaaGreatDoor
end
section
namespace Go.Proofs.YtienaifmlhcijaaGreatDoor
open Go Go.Gw
set_option linter.unusedVariables false
set_option linter.unusedSimpArgs false
/-- a slice of a family, to be read -/
theorem famSl {M : Nat → Prop} {w0 w : World} {l : List Atom} {ks : List Int} {e sz : Nat} {val : Int → Value} {α : Type} {enc : α → List Value} {g : Int → List α} (H : HSat M w0 (Atom.ro (FamA ks (fun j => OSl e (val j) sz enc (g j))) :: l) w) {k : Int} (hk : k ∈ ks) :
    HSat M w0 (Sl (val k) sz enc (g k) :: Atom.ro (FamA ks (fun j => OSl e (val j) sz enc (g j))) :: l) w := by
  have hok : (FamA ks (fun j => OSl e (val j) sz enc (g j))).ok w := H.ok (Atom.ro (FamA ks (fun j => OSl e (val j) sz enc (g j)))) (List.mem_cons_self ..)
  have hsl : IsSl w (val k) sz enc (g k) := IsOSl.sl ((hok.1 _ (List.mem_map.2 ⟨k, hk, rfl⟩)).2)
  have hs := List.pairwise_cons.1 H.sep
  refine HSat.ro H (Sl (val k) sz enc (g k)) rfl hsl (fun y hy ho b hb hyb => ?_)
  rcases List.mem_cons.1 hy with rfl | hy
  · cases ho
  · exact hs.1 y hy (.inr ho) b ⟨_, List.mem_map.2 ⟨k, hk, rfl⟩, rfl, hb.1⟩ hyb
theorem it_len {M : Nat → Prop} {w0 w : World} {l : List Atom} {r b : Nat} {ks : List Int} {val : Int → Value} {kenc : Int → Value} {enc : Value → Value} {done : List (Int × Value)} {left : Nat} (H : HSat M w0 (ItA r b kenc enc (mvF ks val) done left :: l) w) : done.length ≤ ks.length := by
  have := nodup_sub_len (ys := ks) H.it.nodup (fun k hk => by obtain ⟨p, hp, rfl⟩ := List.mem_map.1 hk; exact (mvF_some (H.it.sub hp)).1)
  simpa using this
theorem it_perm {M : Nat → Prop} {w0 w : World} {l : List Atom} {r b : Nat} {ks : List Int} {val : Int → Value} {kenc : Int → Value} {enc : Value → Value} {done : List (Int × Value)} {left : Nat} (H : HSat M w0 (ItA r b kenc enc (mvF ks val) done left :: l) w) (h0 : left = 0) (hn : ks.Nodup) : (done.map (·.1)).Perm ks :=
  keys_perm H.it.nodup hn (fun k => ⟨fun hk => by obtain ⟨p, hp, rfl⟩ := List.mem_map.1 hk; exact (mvF_some (H.it.sub hp)).1, fun hk => List.mem_map.2 ⟨(k, val k), H.it.all h0 (mvF_in hk), rfl⟩⟩)
set_option maxHeartbeats 4000000 in
/-- foyer/merge.Blames -/
theorem blames_spec (v : Value) (xs : List SV) (ov : Value) (os : List OV) (w0 : World) (hv : IsSl w0 v 6 encSV xs) (ho : IsSl w0 ov 11 encO os) (hn : xs.Nodup) (hl : xs.length ≤ 1000)
    (hnum : ∀ g, ((grpF SV.gate (fun _ => true) (sortL ordS xs) g).map (·.number)).Nodup) (hN : (BL (pairsO os) 50 (sortL ordS xs)).Nodup) :
    Ret Tryz.prog 9 #[v, ov, .int .i64 50] w0 (fun u w => HSat No w0 [OSl 45 u 6 encBV (sortL ordB (BL (pairsO os) 50 (sortL ordS xs)))] w) := by
 refine ret_of_wp (nt := 128) Tryz.func9 rfl rfl rfl (fl := [(0, v), (1, ov), (2, .int .i64 50)]) rfl (fun a S => ?_)
 have H := HSat.start w0
 have H := H.ro0 (Sl v 6 encSV xs) rfl (hv)
 have H := H.ro0 (Sl ov 11 encO os) rfl (ho)
 have hlx := hv.len
 have hlo := ho.len
 have hll : (sortL ordS xs).length = xs.length := (sortL_perm ordS xs).length_eq
 have hcat : catO [(v, xs)] = xs := by simp [catO]
 refine gsr ?_
 refine ga S fun a S => ?_
 refine gnt ?_
 refine gsr ?_
 refine gm S fun a S => ?_
 refine wl_of (op_buildSlice (wn rfl) rfl rfl rfl Tryz.underlying24 Finf29 S H (idx := [0]) rfl rfl rfl (z := [.slice none 0 0]) (by kernel_rfl) (cs := [v]) (by obtain ⟨p, c, hp⟩ := hv.shape; rw [hp]; rfl) fun b21 a w S H => ?_)
 refine wl_of (op_call (wn rfl) rfl rfl S (co_func rfl Tryz.call8 S rfl) (merge_spec (.slice (some ⟨b21, 0, none⟩) 1 1) [(v, xs)] _ (H.slb b21 [(v, xs)] encRow 1 rfl rfl (by intro x _; rfl) (by decide)) (fun p hp => by rw [List.mem_singleton.1 hp]; exact H.sl v) (by rw [hcat]; omega) (by rw [hcat]; exact hn)) fun u22 w hc a S => ?_)
 have H1 := hc
 rw [hcat] at H1
 have H := H.call1 H1 rfl
 refine ga S fun a S => ?_
 refine gnt ?_
 have S := (((S.nil.cons S 2 rfl).cons S 1 rfl).cons S 6 rfl).cons S 7 rfl
 refine gsr ?_
 refine gm S fun a S => ?_
 refine gy rfl rfl rfl S (y_min rfl S rfl rfl) fun a S => ?_
 refine gy rfl rfl rfl S (y_max rfl S rfl rfl) fun a S => ?_
 rw [show max 0 (min 50 1000000000) = (50 : Int) from by decide] at S
 refine ga S fun a S => ?_
 refine gnt ?_
 have S := (((S.nil.cons S 1 rfl).cons S 6 rfl).cons S 7 rfl).cons S 2 rfl
 refine gsr ?_
 refine wl_of (op_makeMap (fun n : Int => .int .i64 n) (fun n : Int => .int .i64 n) (wn rfl) rfl rfl rfl S H fun b26 a w S H => ?_)
 refine wl_of (op_alloc (wn rfl) rfl rfl rfl S H Fzer72 fun b8 a w S H => ?_)
 refine wl_of (op_store (wn rfl) rfl rfl S H rfl rfl rfl Fsiz72 rfl fun a w S H => ?_)
 dsimp only [List.set, Nat.zero_add, Nat.reduceAdd] at H
 refine gnt ?_
 refine g_seq ?_
 refine gsr ?_
 refine gm S fun a S => ?_
 refine wl_of (op_call (wn rfl) rfl rfl S (co_func rfl Tryz.call22 S rfl) (backward_spec ov os _ (H.sl ov)) fun v w hc a S => ?_)
 obtain ⟨c1, rfl, H1⟩ := hc
 have H := H.call1 H1 rfl
 have H := (H.freeze.front (Cel b8 72 [.map (some b26)])).freeze.defs0
 refine gnt ?_
 refine g_block ?_
 rw [show (fun _ : Int => (none : Option Int)) = sinM (pairsO (os.drop os.length)) by rw [List.drop_length]; rfl] at H
 refine g_range (Φ := fun p l2 => p = none ∧ ∃ z, l2 = [MapA b26 (fun n : Int => .int .i64 n) (fun n : Int => .int .i64 n) (sinM (pairsO (os))) z, Atom.ro (Cel b8 72 [.map (some b26)]), OSl 32 u22 6 encSV (sortL ordS xs)]) S (H.take [DefsA [], Atom.ro (Cel c1 25 [ov]), Sl ov 11 encO os, MapA b26 (fun n : Int => .int .i64 n) (fun n : Int => .int .i64 n) (sinM (pairsO (os.drop os.length))) 0, Atom.ro (Cel b8 72 [.map (some b26)]), OSl 32 u22 6 encSV (sortL ordS xs)]) rfl Tryz.call58 (fun R lb w1 hrec H1 => ?_) ?_
 ·have SR := S.recd
  refine Ret.mono (backward_iter (M := No) (u0 := w0) (Z := Nat) (fun k z => Blk lb (.loop R) :: DefsA [R.defers] :: MapA b26 (fun n : Int => .int .i64 n) (fun n : Int => .int .i64 n) (sinM (pairsO (os.drop (k)))) z :: Atom.ro (Cel b8 72 [.map (some b26)]) :: OSl 32 u22 6 encSV (sortL ordS xs) :: []) lb c1 ov os w1 (fun k hk z w H => ?_) ⟨0, by have h := H1.take (Atom.ro (Cel c1 25 [ov]) :: Sl ov 11 encO os :: Blk lb (.loop R) :: DefsA [R.defers] :: MapA b26 (fun n : Int => .int .i64 n) (fun n : Int => .int .i64 n) (sinM (pairsO (os.drop (os.length)))) 0 :: Atom.ro (Cel b8 72 [.map (some b26)]) :: OSl 32 u22 6 encSV (sortL ordS xs) :: []); exact h⟩) ?_
  ·skip
   skip
   refine yield2 hrec SR H rfl rfl (fun a S => ?_)
   refine g_region ?_
   refine wl_of (op_alloc (wn rfl) rfl rfl rfl S H Fzer42 fun b10 a w S H => ?_)
   refine wl_of (op_storea (wn rfl) rfl rfl S H rfl rfl rfl Fsiz42 rfl (cs' := encO os[k]) rfl fun a w S H => ?_)
   refine gnt ?_
   refine r_begin hrec H (fun w H => ?_)
   refine g_block ?_
   refine g_region ?_
   refine gy rfl rfl rfl S (y_load rfl Fsca72 S H rfl rfl) fun a S => ?_
   refine gy rfl rfl rfl S (y_faddrb rfl Ffo42_0 S rfl) fun a S => ?_
   refine gy rfl rfl rfl S (y_faddrb rfl Ffo35_0 S rfl) fun a S => ?_
   refine gy rfl rfl rfl S (y_load rfl Fsca3 S H rfl rfl) fun a S => ?_
   refine gy rfl rfl rfl S (y_faddrb rfl Ffo42_4 S rfl) fun a S => ?_
   refine gy rfl rfl rfl S (y_load rfl Fsca3 S H rfl rfl) fun a S => ?_
   refine wl_of (op_mapUpdate (_) (_) (wn rfl) rfl rfl Tryz.underlying72 S H rfl (keyOK_int Tryz.underlying3) (by exact rfl) (by exact rfl) fun a w S H => ?_)
   refine gl_nil ?_
   refine n_block ?_
   refine r_end hrec H (fun w H => ?_)
   have e := sinM_cons (os[k].t.serial, os[k].gone) (pairsO (os.drop (k + 1)))
   rw [← pairsO_drop hk] at e
   dsimp only at e
   rw [e] at H
   exact ⟨rfl, _, H.take (Atom.ro (Cel c1 25 [ov]) :: Sl ov 11 encO os :: Blk lb (.loop R) :: DefsA [R.defers] :: MapA b26 (fun n : Int => .int .i64 n) (fun n : Int => .int .i64 n) (sinM (pairsO (os.drop (k)))) (if (sinM (pairsO (os.drop (k + 1))) os[k].t.serial).isSome = true then z else z + 1) :: Atom.ro (Cel b8 72 [.map (some b26)]) :: OSl 32 u22 6 encSV (sortL ordS xs) :: [])⟩
  ·rintro _ w2 ⟨z, H2⟩
   exact ⟨.ready, none, _, by simp, ⟨rfl, z, rfl⟩, by rw [hrec.same]; exact H2.take [Blk lb (.loop R), DefsA [R.defers], MapA b26 (fun n : Int => .int .i64 n) (fun n : Int => .int .i64 n) (sinM (pairsO (os.drop 0))) z, Atom.ro (Cel b8 72 [.map (some b26)]), OSl 32 u22 6 encSV (sortL ordS xs)]⟩
 ·intro bd a w pend l2 S H hΦ
  obtain ⟨rfl, z, rfl⟩ := hΦ
  refine n_block ?_
  refine n_then ?_
  have S := (((S.nil.cons S 6 rfl).cons S 7 rfl).cons S 2 rfl).cons S 8 rfl
  refine gsr ?_
  refine wl_of (op_alloc (wn rfl) rfl rfl rfl S H Fzer76 fun b11 a w S H => ?_)
  refine gnt ?_
  refine g_seq ?_
  refine gsr ?_
  refine gm S fun a S => ?_
  refine wl_of (op_call (wn rfl) rfl rfl S (co_func rfl Tryz.call23 S rfl) (by_spec u22 (sortL ordS xs) 24 Tryz.call24 SV.gate (fun _ => true) _ (H.sl u22) (by omega) bkey_spec) fun v w hc a S => ?_)
  obtain ⟨b38, val, cc, rfl, H1⟩ := hc
  have H := H.call H1 (by simp [MapA, FamA, bun_own])
  simp only [List.cons_append, List.nil_append] at H
  refine wl_of (op_range (wn rfl) rfl rfl rfl Tryz.underlying77 S H rfl fun r39 a w S H => ?_)
  have H := ((H.front (FamA (keysF SV.gate (fun _ => true) (sortL ordS xs)) (fun j => OSl 32 (val j) 6 encSV (grpF SV.gate (fun _ => true) (sortL ordS xs) j)))).freeze.nilO 45 6 encBV).take [ItA r39 b38 (fun n : Int => .int .i64 n) (fun v : Value => v) (mvF (keysF SV.gate (fun _ => true) (sortL ordS xs)) val) [] cc, Cel b11 76 [(.slice none 0 0)], OSl 45 (.slice none 0 0) 6 encBV ([]), Atom.ro (FamA (keysF SV.gate (fun _ => true) (sortL ordS xs)) (fun j => OSl 32 (val j) 6 encSV (grpF SV.gate (fun _ => true) (sortL ordS xs) j))), OSl 32 u22 6 encSV (sortL ordS xs), MapA b26 (fun n : Int => .int .i64 n) (fun n : Int => .int .i64 n) (sinM (pairsO (os))) z, Atom.ro (Cel b8 72 [.map (some b26)]), DefsA [bd]]
  refine gnt ?_
  refine g_block ?_
  have SU := (((((S.nil.cons S 6 rfl).cons S 7 rfl).cons S 2 rfl).cons S 8 rfl).cons S 11 rfl).cons S 39 rfl
  refine loopW (X := List (Int × Value) × Nat × Value) SU (fun x => []) (fun x w => HSat No w0 [ItA r39 b38 (fun n : Int => .int .i64 n) (fun v : Value => v) (mvF (keysF SV.gate (fun _ => true) (sortL ordS xs)) val) x.1 x.2.1, Cel b11 76 [x.2.2], OSl 45 x.2.2 6 encBV ((x.1).flatMap (fun p : Int × Value => gateB (grpF SV.gate (fun _ => true) (sortL ordS xs) p.1))), Atom.ro (FamA (keysF SV.gate (fun _ => true) (sortL ordS xs)) (fun j => OSl 32 (val j) 6 encSV (grpF SV.gate (fun _ => true) (sortL ordS xs) j))), OSl 32 u22 6 encSV (sortL ordS xs), MapA b26 (fun n : Int => .int .i64 n) (fun n : Int => .int .i64 n) (sinM (pairsO (os))) z, Atom.ro (Cel b8 72 [.map (some b26)]), DefsA [bd]] w) (fun x => x.2.1) ([], cc, .slice none 0 0) (S.nil) (H) (fun x a w S hW => ?_)
  simp only [List.cons_append, List.nil_append] at S
  obtain ⟨done, left, bv⟩ := x
  dsimp only at S hW
  have H := hW
  have hdl := Nat.le_trans (it_len H) (keysF_len _ _ _)
  have hb38 : ((done).flatMap (fun p : Int × Value => gateB (grpF SV.gate (fun _ => true) (sortL ordS xs) p.1))).length ≤ 5000000 := Nat.le_trans (flat_len (b := 5000) (fun p _ => Nat.le_trans (gateB_len _) (by have := grpF_len SV.gate (fun _ => true) (sortL ordS xs) p.1; omega))) (by omega)
  refine g_seq ?_
  rcases Nat.eq_zero_or_pos left with hz | hz
  ·skip
   refine g_region ?_
   refine wl_of (op_nextE hz (wn rfl) rfl rfl rfl S H rfl fun a w S H => ?_)
   refine gy rfl rfl rfl S (y_extract rfl S rfl rfl) fun a S => ?_
   refine gnt ?_
   refine g_seq ?_
   refine c_if S rfl (fun h1 => ?_) (fun h1 => ?_)
   ·have h1p := h1; try simp only [DL] at h1p
    all_goals (
      exact absurd h1 (by simp))
   ·have h1p := h1; try simp only [DL] at h1p
    have hK1 := it_perm H hz (keysF_nodup _ _ _)
    have hB1l := hb38
    obtain ⟨B1, hB1⟩ : ∃ B, B = (done).flatMap (fun p : Int × Value => gateB (grpF SV.gate (fun _ => true) (sortL ordS xs) p.1)) := ⟨_, rfl⟩
    rw [← hB1] at H hB1l
    refine g_exit ?_
    refine x_then (x_then (x_eq ?_))
    refine n_then ?_
    refine g_seq ?_
    refine gsr ?_
    refine gm S fun a S => ?_
    refine wl_of (op_call (wn rfl) rfl rfl S (co_func rfl Tryz.call27 S rfl) (ways_spec u22 (sortL ordS xs) _ (H.sl u22) (by omega)) fun v w hc a S => ?_)
    obtain ⟨b48, val2, cc, rfl, H1⟩ := hc
    have H := H.call H1 (by simp [MapA, FamA, bun_own])
    simp only [List.cons_append, List.nil_append] at H
    refine wl_of (op_range (wn rfl) rfl rfl rfl Tryz.underlying77 S H rfl fun r49 a w S H => ?_)
    have H := ((H.front (FamA (keysF SV.serial okW (sortL ordS xs)) (fun j => OSl 32 (val2 j) 6 encSV (grpF SV.serial okW (sortL ordS xs) j)))).freeze).take [ItA r49 b48 (fun n : Int => .int .i64 n) (fun v : Value => v) (mvF (keysF SV.serial okW (sortL ordS xs)) val2) [] cc, Cel b11 76 [bv], OSl 45 bv 6 encBV (B1), Atom.ro (FamA (keysF SV.serial okW (sortL ordS xs)) (fun j => OSl 32 (val2 j) 6 encSV (grpF SV.serial okW (sortL ordS xs) j))), OSl 32 u22 6 encSV (sortL ordS xs), MapA b26 (fun n : Int => .int .i64 n) (fun n : Int => .int .i64 n) (sinM (pairsO (os))) z, Atom.ro (Cel b8 72 [.map (some b26)]), DefsA [bd]]
    refine gnt ?_
    have S := ((((S.nil.cons S 6 rfl).cons S 2 rfl).cons S 8 rfl).cons S 11 rfl).cons S 49 rfl
    refine g_block ?_
    have SU := ((((S.nil.cons S 6 rfl).cons S 2 rfl).cons S 8 rfl).cons S 11 rfl).cons S 49 rfl
    refine loopW (X := List (Int × Value) × Nat × Value) SU (fun x => []) (fun x w => HSat No w0 [ItA r49 b48 (fun n : Int => .int .i64 n) (fun v : Value => v) (mvF (keysF SV.serial okW (sortL ordS xs)) val2) x.1 x.2.1, Cel b11 76 [x.2.2], OSl 45 x.2.2 6 encBV (B1 ++ (x.1).flatMap (fun p : Int × Value => wayB (pairsO os) 50 (grpF SV.serial okW (sortL ordS xs) p.1))), Atom.ro (FamA (keysF SV.serial okW (sortL ordS xs)) (fun j => OSl 32 (val2 j) 6 encSV (grpF SV.serial okW (sortL ordS xs) j))), OSl 32 u22 6 encSV (sortL ordS xs), MapA b26 (fun n : Int => .int .i64 n) (fun n : Int => .int .i64 n) (sinM (pairsO (os))) z, Atom.ro (Cel b8 72 [.map (some b26)]), DefsA [bd]] w) (fun x => x.2.1) ([], cc, bv) (S.nil) (by dsimp only; rw [show B1 ++ ([]).flatMap (fun p : Int × Value => wayB (pairsO os) 50 (grpF SV.serial okW (sortL ordS xs) p.1)) = B1 from List.append_nil B1]; exact H) (fun x a w S hW => ?_)
    simp only [List.cons_append, List.nil_append] at S
    obtain ⟨done2, left2, bv⟩ := x
    dsimp only at S hW
    have H := hW
    have hdl2 := Nat.le_trans (it_len H) (keysF_len _ _ _)
    have hb48 : (B1 ++ (done2).flatMap (fun p : Int × Value => wayB (pairsO os) 50 (grpF SV.serial okW (sortL ordS xs) p.1))).length ≤ 7000000 := by
      have h1 : (done2.flatMap (fun p : Int × Value => wayB (pairsO os) 50 (grpF SV.serial okW (sortL ordS xs) p.1))).length ≤ done2.length * 2000 := flat_len (fun p _ => Nat.le_trans (wayBs_len _ _ _ _) (by have := grpF_len SV.serial okW (sortL ordS xs) p.1; omega))
      rw [List.length_append]; omega
    refine g_seq ?_
    rcases Nat.eq_zero_or_pos left2 with hz | hz
    ·skip
     refine g_region ?_
     refine wl_of (op_nextE hz (wn rfl) rfl rfl rfl S H rfl fun a w S H => ?_)
     refine gy rfl rfl rfl S (y_extract rfl S rfl rfl) fun a S => ?_
     refine gnt ?_
     refine g_seq ?_
     refine c_if S rfl (fun h2 => ?_) (fun h2 => ?_)
     ·have h2p := h2; try simp only [DL] at h2p
      all_goals (
        exact absurd h2 (by simp))
     ·have h2p := h2; try simp only [DL] at h2p
      have hfin : sortL ordB (B1 ++ (done2).flatMap (fun p : Int × Value => wayB (pairsO os) 50 (grpF SV.serial okW (sortL ordS xs) p.1))) = sortL ordB (BL (pairsO os) 50 (sortL ordS xs)) := by
        have hK2 := it_perm H hz (keysF_nodup _ _ _)
        refine sortL_eq ordB_cmp (fun _ _ => ordB_zero) ?_
        have hp := BLk_perm (gone := pairsO os) (stale := 50) hK1 hK2
        unfold BLk at hp
        rw [List.flatMap_map, List.flatMap_map, ← hB1] at hp
        exact hp
      refine g_exit ?_
      refine x_then (x_then (x_eq ?_))
      refine n_then ?_
      have S := (S.nil.cons S 6 rfl).cons S 11 rfl
      refine gsr ?_
      refine gy rfl rfl rfl S (y_load rfl Fsca76 S H rfl rfl) fun a S => ?_
      refine wl_of (op_call (wn rfl) rfl rfl S (co_func rfl Tryz.call28 S rfl) (sortB_spec bv (B1 ++ (done2).flatMap (fun p : Int × Value => wayB (pairsO os) 50 (grpF SV.serial okW (sortL ordS xs) p.1))) _ (by omega) (H.take [OSl 45 bv 6 encBV (B1 ++ (done2).flatMap (fun p : Int × Value => wayB (pairsO os) 50 (grpF SV.serial okW (sortL ordS xs) p.1))), Cel b11 76 [bv], DefsA [bd]])) fun v w hc a S => ?_)
      obtain ⟨rfl, H⟩ := hc
      rw [hfin] at H
      refine gnt ?_
      refine gsr ?_
      refine gy rfl rfl rfl S (y_load rfl Fsca76 S H rfl rfl) fun a S => ?_
      refine wl_of (op_call (wn rfl) rfl rfl S (co_func rfl Tryz.call32 S rfl) (compactB_spec bv (sortL ordB (BL (pairsO os) 50 (sortL ordS xs))) _ H (sortL_apart ordB hN)) fun u127 w hc a S => ?_)
      obtain ⟨rfl, H⟩ := hc
      
      refine ga S fun a S => ?_
      refine gnt ?_
      have S := S.nil.cons S 6 rfl
      refine g_ret ?_
      refine ret1M rfl S (H.front (DefsA [bd])) rfl (fun w H => ?_)
      exact H.take [OSl 45 u127 6 encBV (sortL ordB (BL (pairsO os) 50 (sortL ordS xs)))]
    ·skip
     refine g_region ?_
     refine wl_of (op_nextY hz (wn rfl) rfl rfl rfl S H rfl fun key2 u left3 a w hlt hm hkd S H => ?_)
     obtain ⟨hks, rfl⟩ := mvF_some hm
     refine gy rfl rfl rfl S (y_extract rfl S rfl rfl) fun a S => ?_
     refine gnt ?_
     refine g_seq ?_
     refine c_if S rfl (fun h3 => ?_) (fun h3 => ?_)
     ·have h3p := h3; try simp only [DL] at h3p
      refine g_skip ?_
      refine n_then ?_
      refine g_block ?_
      refine gsr ?_
      refine gy rfl rfl rfl S ((y_entry rfl S H rfl)) fun a S => ?_
      refine gy rfl rfl rfl S (y_extract rfl S rfl rfl) fun a S => ?_
      have hwl := grpF_len SV.serial okW (sortL ordS xs) key2
      have H := (famSl (H.front (Atom.ro (FamA (keysF SV.serial okW (sortL ordS xs)) (fun j => OSl 32 (val2 j) 6 encSV (grpF SV.serial okW (sortL ordS xs) j))))) hks).take [Sl (val2 key2) 6 encSV (grpF SV.serial okW (sortL ordS xs) key2), Cel b11 76 [bv], OSl 45 bv 6 encBV (B1 ++ (done2).flatMap (fun p : Int × Value => wayB (pairsO os) 50 (grpF SV.serial okW (sortL ordS xs) p.1))), ItA r49 b48 (fun n : Int => .int .i64 n) (fun v : Value => v) (mvF (keysF SV.serial okW (sortL ordS xs)) val2) (done2 ++ [(key2, val2 key2)]) left3, Atom.ro (FamA (keysF SV.serial okW (sortL ordS xs)) (fun j => OSl 32 (val2 j) 6 encSV (grpF SV.serial okW (sortL ordS xs) j))), OSl 32 u22 6 encSV (sortL ordS xs), MapA b26 (fun n : Int => .int .i64 n) (fun n : Int => .int .i64 n) (sinM (pairsO (os))) z, Atom.ro (Cel b8 72 [.map (some b26)]), DefsA [bd]]
      refine ga S fun a S => ?_
      refine gnt ?_
      have S := (((((S.nil.cons S 6 rfl).cons S 2 rfl).cons S 8 rfl).cons S 11 rfl).cons S 49 rfl).cons S 15 rfl
      refine gsr ?_
      refine gm S fun a S => ?_
      refine gy rfl rfl rfl S (y_lens rfl Tryz.underlying29 S H rfl) fun a S => ?_
      refine gm S fun a S => ?_
      refine gnt ?_
      refine g_block ?_
      have SU := (((((((S.nil.cons S 6 rfl).cons S 2 rfl).cons S 8 rfl).cons S 11 rfl).cons S 49 rfl).cons S 15 rfl).cons S 54 rfl).cons S 55 rfl
      refine loopW (X := Nat × Value) SU (fun x => [(56, .int .i64 (x.1 : Int))]) (fun x w => x.1 ≤ (grpF SV.serial okW (sortL ordS xs) key2).length ∧ HSat No w0 [Sl (val2 key2) 6 encSV (grpF SV.serial okW (sortL ordS xs) key2), Cel b11 76 [x.2], OSl 45 x.2 6 encBV (B1 ++ (done2).flatMap (fun p : Int × Value => wayB (pairsO os) 50 (grpF SV.serial okW (sortL ordS xs) p.1)) ++ wayBs (pairsO os) 50 (grpF SV.serial okW (sortL ordS xs) key2) (x.1)), ItA r49 b48 (fun n : Int => .int .i64 n) (fun v : Value => v) (mvF (keysF SV.serial okW (sortL ordS xs)) val2) (done2 ++ [(key2, val2 key2)]) left3, Atom.ro (FamA (keysF SV.serial okW (sortL ordS xs)) (fun j => OSl 32 (val2 j) 6 encSV (grpF SV.serial okW (sortL ordS xs) j))), OSl 32 u22 6 encSV (sortL ordS xs), MapA b26 (fun n : Int => .int .i64 n) (fun n : Int => .int .i64 n) (sinM (pairsO (os))) z, Atom.ro (Cel b8 72 [.map (some b26)]), DefsA [bd]] w) (fun x => (grpF SV.serial okW (sortL ordS xs) key2).length - x.1) (0, bv) (S.nil.cons S 56 rfl) (⟨Nat.zero_le _, by dsimp only; rw [show B1 ++ (done2).flatMap (fun p : Int × Value => wayB (pairsO os) 50 (grpF SV.serial okW (sortL ordS xs) p.1)) ++ wayBs (pairsO os) 50 (grpF SV.serial okW (sortL ordS xs) key2) (0) = B1 ++ (done2).flatMap (fun p : Int × Value => wayB (pairsO os) 50 (grpF SV.serial okW (sortL ordS xs) p.1)) from List.append_nil _]; exact H⟩) (fun x a w S hW => ?_)
      simp only [List.cons_append, List.nil_append] at S
      obtain ⟨i, bv⟩ := x
      obtain ⟨hi, H⟩ := hW
      dsimp only at S hi H
      refine gsr ?_
      refine gy rfl rfl rfl S (y_bin rfl S rfl rfl rfl) fun a S => ?_
      refine gnt ?_
      refine g_seq ?_
      refine c_if S rfl (fun h4 => ?_) (fun h4 => ?_)
      ·have h4p := h4; try simp only [DL] at h4p
       refine g_skip ?_
       refine n_then ?_
       refine g_seq ?_
       refine g_block ?_
       refine gsr ?_
       refine gm S fun a S => ?_
       refine gy rfl rfl rfl S (y_iaddrn rfl Tryz.underlying29 Fsiz32 S H rfl rfl (by first | assumption | omega | (simp only [LL]; omega))) fun a S => ?_
       refine gy rfl rfl rfl S (y_loadsa _ rfl S H rfl (by exact Fagg32) (by first | assumption | omega | (simp only [LL]; omega))) fun a S => ?_
       refine wl_of (op_alloc (wn rfl) rfl rfl rfl S H Fzer32 fun b17 a w S H => ?_)
       refine ga S fun a S => ?_
       refine wl_of (op_storea (wn rfl) rfl rfl S H rfl rfl rfl Fsiz32 rfl (cs' := encSV (grpF SV.serial okW (sortL ordS xs) key2)[i]) rfl fun a w S H => ?_)
       refine gnt ?_
       have S := ((((((((((S.nil.cons S 6 rfl).cons S 2 rfl).cons S 8 rfl).cons S 11 rfl).cons S 49 rfl).cons S 15 rfl).cons S 54 rfl).cons S 55 rfl).cons S 56 rfl).cons S 17 rfl).cons S 16 rfl
       refine g_seq ?_
       refine gsr ?_
       refine gy rfl rfl rfl S (y_faddrb rfl Ffo32_4 S rfl) fun a S => ?_
       refine gy rfl rfl rfl S (y_load rfl Fsca3 S H rfl rfl) fun a S => ?_
       refine gy rfl rfl rfl S (y_bin rfl S rfl rfl rfl) fun a S => ?_
       refine gnt ?_
       refine c_if S rfl (fun h5 => ?_) (fun h5 => ?_)
       ·have h5p := h5; try simp only [DL] at h5p
        have hw1 : wayB1 (pairsO os) 50 (grpF SV.serial okW (sortL ordS xs) key2) i = [] := wayB1_a (by omega) (by exact h5p)
        refine g_exit ?_
        refine x_then (x_eq ?_)
        refine n_then ?_
        have S := ((((((((S.nil.cons S 6 rfl).cons S 2 rfl).cons S 8 rfl).cons S 11 rfl).cons S 49 rfl).cons S 15 rfl).cons S 54 rfl).cons S 55 rfl).cons S 56 rfl
        refine g_region ?_
        refine gy rfl rfl rfl S (y_add rfl S rfl rfl (by omega)) fun a S => ?_
        refine gm S fun a S => ?_
        refine gnt ?_
        first
        | exact ⟨(i + 1, bv), S.nil.cons S 56 rfl, (((((((S.nil.cons S 6 rfl).cons S 2 rfl).cons S 8 rfl).cons S 11 rfl).cons S 49 rfl).cons S 15 rfl).cons S 54 rfl).cons S 55 rfl, ⟨by dsimp only; omega, by dsimp only; rw [wayBs_s, hw1, List.append_nil]; exact H.take [Sl (val2 key2) 6 encSV (grpF SV.serial okW (sortL ordS xs) key2), Cel b11 76 [bv], OSl 45 bv 6 encBV (B1 ++ (done2).flatMap (fun p : Int × Value => wayB (pairsO os) 50 (grpF SV.serial okW (sortL ordS xs) p.1)) ++ wayBs (pairsO os) 50 (grpF SV.serial okW (sortL ordS xs) key2) (i)), ItA r49 b48 (fun n : Int => .int .i64 n) (fun v : Value => v) (mvF (keysF SV.serial okW (sortL ordS xs)) val2) (done2 ++ [(key2, val2 key2)]) left3, Atom.ro (FamA (keysF SV.serial okW (sortL ordS xs)) (fun j => OSl 32 (val2 j) 6 encSV (grpF SV.serial okW (sortL ordS xs) j))), OSl 32 u22 6 encSV (sortL ordS xs), MapA b26 (fun n : Int => .int .i64 n) (fun n : Int => .int .i64 n) (sinM (pairsO (os))) z, Atom.ro (Cel b8 72 [.map (some b26)]), DefsA [bd]]⟩, by dsimp only; omega⟩
        | exact ⟨(i + 1, bv5), S.nil.cons S 56 rfl, (((((((S.nil.cons S 6 rfl).cons S 2 rfl).cons S 8 rfl).cons S 11 rfl).cons S 49 rfl).cons S 15 rfl).cons S 54 rfl).cons S 55 rfl, ⟨by dsimp only; omega, by dsimp only; rw [wayBs_s, hw1, ← List.append_assoc]; exact H.take [Sl (val2 key2) 6 encSV (grpF SV.serial okW (sortL ordS xs) key2), Cel b11 76 [bv5], OSl 45 bv5 6 encBV (B1 ++ (done2).flatMap (fun p : Int × Value => wayB (pairsO os) 50 (grpF SV.serial okW (sortL ordS xs) p.1)) ++ wayBs (pairsO os) 50 (grpF SV.serial okW (sortL ordS xs) key2) (i) ++ staleB (pairsO os) 50 (grpF SV.serial okW (sortL ordS xs) key2)[i]), ItA r49 b48 (fun n : Int => .int .i64 n) (fun v : Value => v) (mvF (keysF SV.serial okW (sortL ordS xs)) val2) (done2 ++ [(key2, val2 key2)]) left3, Atom.ro (FamA (keysF SV.serial okW (sortL ordS xs)) (fun j => OSl 32 (val2 j) 6 encSV (grpF SV.serial okW (sortL ordS xs) j))), OSl 32 u22 6 encSV (sortL ordS xs), MapA b26 (fun n : Int => .int .i64 n) (fun n : Int => .int .i64 n) (sinM (pairsO (os))) z, Atom.ro (Cel b8 72 [.map (some b26)]), DefsA [bd]]⟩, by dsimp only; omega⟩
        | exact ⟨((j + 1) + 1, bv7), S.nil.cons S 56 rfl, (((((((S.nil.cons S 6 rfl).cons S 2 rfl).cons S 8 rfl).cons S 11 rfl).cons S 49 rfl).cons S 15 rfl).cons S 54 rfl).cons S 55 rfl, ⟨by dsimp only; omega, by dsimp only; rw [wayBs_s, hw1, ← List.append_assoc, ← List.append_assoc]; exact H.take [Sl (val2 key2) 6 encSV (grpF SV.serial okW (sortL ordS xs) key2), Cel b11 76 [bv7], OSl 45 bv7 6 encBV (B1 ++ (done2).flatMap (fun p : Int × Value => wayB (pairsO os) 50 (grpF SV.serial okW (sortL ordS xs) p.1)) ++ wayBs (pairsO os) 50 (grpF SV.serial okW (sortL ordS xs) key2) (j + 1) ++ staleB (pairsO os) 50 (grpF SV.serial okW (sortL ordS xs) key2)[j + 1] ++ [blameF 1 (grpF SV.serial okW (sortL ordS xs) key2)[j + 1] (grpF SV.serial okW (sortL ordS xs) key2)[j].gate (grpF SV.serial okW (sortL ordS xs) key2)[j].number]), ItA r49 b48 (fun n : Int => .int .i64 n) (fun v : Value => v) (mvF (keysF SV.serial okW (sortL ordS xs)) val2) (done2 ++ [(key2, val2 key2)]) left3, Atom.ro (FamA (keysF SV.serial okW (sortL ordS xs)) (fun j => OSl 32 (val2 j) 6 encSV (grpF SV.serial okW (sortL ordS xs) j))), OSl 32 u22 6 encSV (sortL ordS xs), MapA b26 (fun n : Int => .int .i64 n) (fun n : Int => .int .i64 n) (sinM (pairsO (os))) z, Atom.ro (Cel b8 72 [.map (some b26)]), DefsA [bd]]⟩, by dsimp only; omega⟩
        | exact ⟨((j + 1) + 1, bv7), S.nil.cons S 56 rfl, (((((((S.nil.cons S 6 rfl).cons S 2 rfl).cons S 8 rfl).cons S 11 rfl).cons S 49 rfl).cons S 15 rfl).cons S 54 rfl).cons S 55 rfl, ⟨by dsimp only; omega, by dsimp only; rw [wayBs_s, hw1, ← List.append_assoc, ← List.append_assoc]; exact H.take [Sl (val2 key2) 6 encSV (grpF SV.serial okW (sortL ordS xs) key2), Cel b11 76 [bv7], OSl 45 bv7 6 encBV (B1 ++ (done2).flatMap (fun p : Int × Value => wayB (pairsO os) 50 (grpF SV.serial okW (sortL ordS xs) p.1)) ++ wayBs (pairsO os) 50 (grpF SV.serial okW (sortL ordS xs) key2) (j + 1) ++ staleB (pairsO os) 50 (grpF SV.serial okW (sortL ordS xs) key2)[j + 1] ++ [blameF 2 (grpF SV.serial okW (sortL ordS xs) key2)[j + 1] (grpF SV.serial okW (sortL ordS xs) key2)[j].gate (grpF SV.serial okW (sortL ordS xs) key2)[j].number]), ItA r49 b48 (fun n : Int => .int .i64 n) (fun v : Value => v) (mvF (keysF SV.serial okW (sortL ordS xs)) val2) (done2 ++ [(key2, val2 key2)]) left3, Atom.ro (FamA (keysF SV.serial okW (sortL ordS xs)) (fun j => OSl 32 (val2 j) 6 encSV (grpF SV.serial okW (sortL ordS xs) j))), OSl 32 u22 6 encSV (sortL ordS xs), MapA b26 (fun n : Int => .int .i64 n) (fun n : Int => .int .i64 n) (sinM (pairsO (os))) z, Atom.ro (Cel b8 72 [.map (some b26)]), DefsA [bd]]⟩, by dsimp only; omega⟩
        | exact ⟨((j + 1) + 1, bv5), S.nil.cons S 56 rfl, (((((((S.nil.cons S 6 rfl).cons S 2 rfl).cons S 8 rfl).cons S 11 rfl).cons S 49 rfl).cons S 15 rfl).cons S 54 rfl).cons S 55 rfl, ⟨by dsimp only; omega, by dsimp only; rw [wayBs_s, hw1, ← List.append_assoc]; exact H.take [Sl (val2 key2) 6 encSV (grpF SV.serial okW (sortL ordS xs) key2), Cel b11 76 [bv5], OSl 45 bv5 6 encBV (B1 ++ (done2).flatMap (fun p : Int × Value => wayB (pairsO os) 50 (grpF SV.serial okW (sortL ordS xs) p.1)) ++ wayBs (pairsO os) 50 (grpF SV.serial okW (sortL ordS xs) key2) (j + 1) ++ staleB (pairsO os) 50 (grpF SV.serial okW (sortL ordS xs) key2)[j + 1]), ItA r49 b48 (fun n : Int => .int .i64 n) (fun v : Value => v) (mvF (keysF SV.serial okW (sortL ordS xs)) val2) (done2 ++ [(key2, val2 key2)]) left3, Atom.ro (FamA (keysF SV.serial okW (sortL ordS xs)) (fun j => OSl 32 (val2 j) 6 encSV (grpF SV.serial okW (sortL ordS xs) j))), OSl 32 u22 6 encSV (sortL ordS xs), MapA b26 (fun n : Int => .int .i64 n) (fun n : Int => .int .i64 n) (sinM (pairsO (os))) z, Atom.ro (Cel b8 72 [.map (some b26)]), DefsA [bd]]⟩, by dsimp only; omega⟩
       ·have h5p := h5; try simp only [DL] at h5p
        have hil : i < (grpF SV.serial okW (sortL ordS xs) key2).length := by omega
        have hk1 : (grpF SV.serial okW (sortL ordS xs) key2)[i].kind = 1 := by exact h5p
        refine g_skip ?_
        refine n_then ?_
        refine g_seq ?_
        refine gsr ?_
        refine gy rfl rfl rfl S (y_load rfl Fsca72 S H rfl rfl) fun a S => ?_
        refine gy rfl rfl rfl S (y_faddrb rfl Ffo32_3 S rfl) fun a S => ?_
        refine gy rfl rfl rfl S (y_load rfl Fsca3 S H rfl rfl) fun a S => ?_
        refine gy rfl rfl rfl S (y_lookup (_) ((0 : Int)) rfl Tryz.underlying72 Finf3 S H rfl (keyOK_int Tryz.underlying3) (by exact rfl) (by exact rfl)) fun a S => ?_
        rw [show (sinM (pairsO os) (grpF SV.serial okW (sortL ordS xs) key2)[i].serial).getD 0 = sinceF (pairsO os) (grpF SV.serial okW (sortL ordS xs) key2)[i].serial from rfl] at S
        refine ga S fun a S => ?_
        refine gnt ?_
        have S := (((((((((((S.nil.cons S 6 rfl).cons S 2 rfl).cons S 8 rfl).cons S 11 rfl).cons S 49 rfl).cons S 15 rfl).cons S 54 rfl).cons S 55 rfl).cons S 56 rfl).cons S 17 rfl).cons S 16 rfl).cons S 18 rfl
        refine gsr ?_
        refine gm S fun a S => ?_
        refine gy rfl rfl rfl S (y_bin rfl S rfl rfl rfl) fun a S => ?_
        refine gm S fun a S => ?_
        refine' wl_and 2 70 rfl S H rfl rfl rfl rfl rfl rfl rfl (fun _ S => (wn rfl)) (fun h6 kk => ?yh6) (fun a w S H => ?_)
        case yh6 =>
         have h6p := h6; try simp only [DL] at h6p
         refine gz 70 h6 S rfl rfl rfl rfl rfl rfl (y_move rfl S rfl) fun a S => ?_
         refine gz 70 h6 S rfl rfl rfl rfl rfl rfl (y_bin rfl S rfl rfl rfl) fun a S => ?_
         refine gy rfl rfl rfl S (y_and' rfl h6 S rfl rfl) fun a S => ?_
         exact kk _ _ (S.join 3 73 rfl rfl) H
        refine gm S fun a S => ?_
        refine' wl_and 6 74 rfl S H rfl rfl rfl rfl rfl rfl rfl (fun _ S => (wn rfl)) (fun h7 kk => ?yh7) (fun a w S H => ?_)
        case yh7 =>
         have h7p := h7; try simp only [DL] at h7p
         refine gz 74 h7 S rfl rfl rfl rfl rfl rfl (y_faddrb rfl Ffo32_2 S rfl) fun a S => ?_
         refine gz 74 h7 S rfl rfl rfl rfl rfl rfl (y_load rfl Fsca3 S H rfl rfl) fun a S => ?_
         refine gz 74 h7 S rfl rfl rfl rfl rfl rfl (y_move rfl S rfl) fun a S => ?_
         refine gz 74 h7 S rfl rfl rfl rfl rfl rfl (y_move rfl S rfl) fun a S => ?_
         refine gz 74 h7 S rfl rfl rfl rfl rfl rfl (y_add rfl S rfl rfl (by omega)) fun a S => ?_
         refine gz 74 h7 S rfl rfl rfl rfl rfl rfl (y_bin rfl S rfl rfl rfl) fun a S => ?_
         refine gy rfl rfl rfl S (y_and' rfl h7 S rfl rfl) fun a S => ?_
         exact kk _ _ (S.join 7 81 rfl rfl) H
        refine gnt ?_
        have S := ((((((((((((S.nil.cons S 6 rfl).cons S 2 rfl).cons S 8 rfl).cons S 11 rfl).cons S 49 rfl).cons S 15 rfl).cons S 54 rfl).cons S 55 rfl).cons S 56 rfl).cons S 17 rfl).cons S 16 rfl).cons S 18 rfl).cons S 81 rfl
        refine c_if S rfl (fun h8 => ?_) (fun h8 => ?_)
        ·have h8p := h8; try simp only [DL] at h8p
         have hst : staleB (pairsO os) 50 (grpF SV.serial okW (sortL ordS xs) key2)[i] = [blameF 4 (grpF SV.serial okW (sortL ordS xs) key2)[i] (-1) (sinceF (pairsO os) (grpF SV.serial okW (sortL ordS xs) key2)[i].serial)] := by
           have h := h8p
           unfold staleB; rw [if_pos (by first | exact ⟨h.1.1, h.1.2, h.2⟩ | exact h | omega)]
         refine g_region ?_
         refine gy rfl rfl rfl S (y_load0 rfl S H rfl (by exact Fagg32)) fun a S => ?_
         refine gm S fun a S => ?_
         refine wl_of (op_call (wn rfl) rfl rfl S (co_func rfl Tryz.call26 S rfl) (blame_spec b11 bv (B1 ++ (done2).flatMap (fun p : Int × Value => wayB (pairsO os) 50 (grpF SV.serial okW (sortL ordS xs) p.1)) ++ wayBs (pairsO os) 50 (grpF SV.serial okW (sortL ordS xs) key2) (i)) 4 (-1) (sinceF (pairsO os) (grpF SV.serial okW (sortL ordS xs) key2)[i].serial) (grpF SV.serial okW (sortL ordS xs) key2)[i] _ (H.take [Cel b11 76 [bv], OSl 45 bv 6 encBV (B1 ++ (done2).flatMap (fun p : Int × Value => wayB (pairsO os) 50 (grpF SV.serial okW (sortL ordS xs) p.1)) ++ wayBs (pairsO os) 50 (grpF SV.serial okW (sortL ordS xs) key2) (i)), Cel b17 32 (encSV (grpF SV.serial okW (sortL ordS xs) key2)[i]), Sl (val2 key2) 6 encSV (grpF SV.serial okW (sortL ordS xs) key2), ItA r49 b48 (fun n : Int => .int .i64 n) (fun v : Value => v) (mvF (keysF SV.serial okW (sortL ordS xs)) val2) (done2 ++ [(key2, val2 key2)]) left3, Atom.ro (FamA (keysF SV.serial okW (sortL ordS xs)) (fun j => OSl 32 (val2 j) 6 encSV (grpF SV.serial okW (sortL ordS xs) j))), OSl 32 u22 6 encSV (sortL ordS xs), MapA b26 (fun n : Int => .int .i64 n) (fun n : Int => .int .i64 n) (sinM (pairsO (os))) z, Atom.ro (Cel b8 72 [.map (some b26)]), DefsA [bd]]) (by have h1 := hb48; have h2 := wayBs_len (pairsO os) 50 (grpF SV.serial okW (sortL ordS xs) key2) (i); have h3 := staleB_len (pairsO os) 50 (grpF SV.serial okW (sortL ordS xs) key2)[i]; simp only [List.length_append] at h1 ⊢; omega)) fun v w hc a S => ?_)
         obtain ⟨rfl, bv5, H⟩ := hc
         rw [← hst] at H
         refine gnt ?_
         have S := ((((((((((S.nil.cons S 6 rfl).cons S 2 rfl).cons S 8 rfl).cons S 11 rfl).cons S 49 rfl).cons S 15 rfl).cons S 54 rfl).cons S 55 rfl).cons S 56 rfl).cons S 17 rfl).cons S 16 rfl
         refine g_seq ?_
         refine gsr ?_
         refine gm S fun a S => ?_
         refine gy rfl rfl rfl S (y_bin rfl S rfl rfl rfl) fun a S => ?_
         refine gm S fun a S => ?_
         refine' wl_or 7 87 rfl S H rfl rfl rfl rfl rfl rfl rfl (fun _ S => (wn rfl)) (fun h9 kk => ?yh9) (fun a w S H => ?_)
         case yh9 =>
          have h9p := h9; try simp only [DL] at h9p
          refine gz 87 h9 S rfl rfl rfl rfl rfl rfl (y_move rfl S rfl) fun a S => ?_
          refine gz 87 h9 S rfl rfl rfl rfl rfl rfl (y_move rfl S rfl) fun a S => ?_
          refine gz 87 h9 S rfl rfl rfl rfl rfl rfl (y_sub rfl S rfl rfl (by omega)) fun a S => ?_
          refine gz 87 h9 S rfl rfl rfl rfl rfl rfl (y_iaddrs rfl Tryz.underlying29 Fsiz32 S H rfl rfl (by first | assumption | omega | (simp only [LL]; omega))) fun a S => ?_
          refine gz 87 h9 S rfl rfl rfl rfl rfl rfl (y_faddr rfl Ffo32_4 S rfl) fun a S => ?_
          refine gz 87 h9 S rfl rfl rfl rfl rfl rfl (y_loadsf _ rfl Fsca3 S H rfl (by first | assumption | omega | (simp only [LL]; omega)) rfl) fun a S => ?_
          refine gz 87 h9 S rfl rfl rfl rfl rfl rfl (y_bin rfl S rfl rfl rfl) fun a S => ?_
          refine gy rfl rfl rfl S (y_or' rfl h9 S rfl rfl) fun a S => ?_
          exact kk _ _ (S.join 8 95 rfl rfl) H
         refine gnt ?_
         refine c_if S rfl (fun h10 => ?_) (fun h10 => ?_)
         ·have h10p := h10; try simp only [DL] at h10p
          have hw1 : wayB1 (pairsO os) 50 (grpF SV.serial okW (sortL ordS xs) key2) i = staleB (pairsO os) 50 (grpF SV.serial okW (sortL ordS xs) key2)[i] := wayB1_b hil hk1 (by
            rcases h10p with h | h
            · exact .inl (by omega)
            · by_cases h0 : i = 0
              · exact .inl h0
              · refine .inr ⟨i - 1, by omega, by omega, ?_⟩
                have e : ((i : Int) - 1).toNat = i - 1 := by omega
                simp only [e] at h
                exact h)
          refine g_exit ?_
          refine x_then (x_eq ?_)
          refine n_then ?_
          have S := ((((((((S.nil.cons S 6 rfl).cons S 2 rfl).cons S 8 rfl).cons S 11 rfl).cons S 49 rfl).cons S 15 rfl).cons S 54 rfl).cons S 55 rfl).cons S 56 rfl
          refine g_region ?_
          refine gy rfl rfl rfl S (y_add rfl S rfl rfl (by omega)) fun a S => ?_
          refine gm S fun a S => ?_
          refine gnt ?_
          first
          | exact ⟨(i + 1, bv), S.nil.cons S 56 rfl, (((((((S.nil.cons S 6 rfl).cons S 2 rfl).cons S 8 rfl).cons S 11 rfl).cons S 49 rfl).cons S 15 rfl).cons S 54 rfl).cons S 55 rfl, ⟨by dsimp only; omega, by dsimp only; rw [wayBs_s, hw1, List.append_nil]; exact H.take [Sl (val2 key2) 6 encSV (grpF SV.serial okW (sortL ordS xs) key2), Cel b11 76 [bv], OSl 45 bv 6 encBV (B1 ++ (done2).flatMap (fun p : Int × Value => wayB (pairsO os) 50 (grpF SV.serial okW (sortL ordS xs) p.1)) ++ wayBs (pairsO os) 50 (grpF SV.serial okW (sortL ordS xs) key2) (i)), ItA r49 b48 (fun n : Int => .int .i64 n) (fun v : Value => v) (mvF (keysF SV.serial okW (sortL ordS xs)) val2) (done2 ++ [(key2, val2 key2)]) left3, Atom.ro (FamA (keysF SV.serial okW (sortL ordS xs)) (fun j => OSl 32 (val2 j) 6 encSV (grpF SV.serial okW (sortL ordS xs) j))), OSl 32 u22 6 encSV (sortL ordS xs), MapA b26 (fun n : Int => .int .i64 n) (fun n : Int => .int .i64 n) (sinM (pairsO (os))) z, Atom.ro (Cel b8 72 [.map (some b26)]), DefsA [bd]]⟩, by dsimp only; omega⟩
          | exact ⟨(i + 1, bv5), S.nil.cons S 56 rfl, (((((((S.nil.cons S 6 rfl).cons S 2 rfl).cons S 8 rfl).cons S 11 rfl).cons S 49 rfl).cons S 15 rfl).cons S 54 rfl).cons S 55 rfl, ⟨by dsimp only; omega, by dsimp only; rw [wayBs_s, hw1, ← List.append_assoc]; exact H.take [Sl (val2 key2) 6 encSV (grpF SV.serial okW (sortL ordS xs) key2), Cel b11 76 [bv5], OSl 45 bv5 6 encBV (B1 ++ (done2).flatMap (fun p : Int × Value => wayB (pairsO os) 50 (grpF SV.serial okW (sortL ordS xs) p.1)) ++ wayBs (pairsO os) 50 (grpF SV.serial okW (sortL ordS xs) key2) (i) ++ staleB (pairsO os) 50 (grpF SV.serial okW (sortL ordS xs) key2)[i]), ItA r49 b48 (fun n : Int => .int .i64 n) (fun v : Value => v) (mvF (keysF SV.serial okW (sortL ordS xs)) val2) (done2 ++ [(key2, val2 key2)]) left3, Atom.ro (FamA (keysF SV.serial okW (sortL ordS xs)) (fun j => OSl 32 (val2 j) 6 encSV (grpF SV.serial okW (sortL ordS xs) j))), OSl 32 u22 6 encSV (sortL ordS xs), MapA b26 (fun n : Int => .int .i64 n) (fun n : Int => .int .i64 n) (sinM (pairsO (os))) z, Atom.ro (Cel b8 72 [.map (some b26)]), DefsA [bd]]⟩, by dsimp only; omega⟩
          | exact ⟨((j + 1) + 1, bv7), S.nil.cons S 56 rfl, (((((((S.nil.cons S 6 rfl).cons S 2 rfl).cons S 8 rfl).cons S 11 rfl).cons S 49 rfl).cons S 15 rfl).cons S 54 rfl).cons S 55 rfl, ⟨by dsimp only; omega, by dsimp only; rw [wayBs_s, hw1, ← List.append_assoc, ← List.append_assoc]; exact H.take [Sl (val2 key2) 6 encSV (grpF SV.serial okW (sortL ordS xs) key2), Cel b11 76 [bv7], OSl 45 bv7 6 encBV (B1 ++ (done2).flatMap (fun p : Int × Value => wayB (pairsO os) 50 (grpF SV.serial okW (sortL ordS xs) p.1)) ++ wayBs (pairsO os) 50 (grpF SV.serial okW (sortL ordS xs) key2) (j + 1) ++ staleB (pairsO os) 50 (grpF SV.serial okW (sortL ordS xs) key2)[j + 1] ++ [blameF 1 (grpF SV.serial okW (sortL ordS xs) key2)[j + 1] (grpF SV.serial okW (sortL ordS xs) key2)[j].gate (grpF SV.serial okW (sortL ordS xs) key2)[j].number]), ItA r49 b48 (fun n : Int => .int .i64 n) (fun v : Value => v) (mvF (keysF SV.serial okW (sortL ordS xs)) val2) (done2 ++ [(key2, val2 key2)]) left3, Atom.ro (FamA (keysF SV.serial okW (sortL ordS xs)) (fun j => OSl 32 (val2 j) 6 encSV (grpF SV.serial okW (sortL ordS xs) j))), OSl 32 u22 6 encSV (sortL ordS xs), MapA b26 (fun n : Int => .int .i64 n) (fun n : Int => .int .i64 n) (sinM (pairsO (os))) z, Atom.ro (Cel b8 72 [.map (some b26)]), DefsA [bd]]⟩, by dsimp only; omega⟩
          | exact ⟨((j + 1) + 1, bv7), S.nil.cons S 56 rfl, (((((((S.nil.cons S 6 rfl).cons S 2 rfl).cons S 8 rfl).cons S 11 rfl).cons S 49 rfl).cons S 15 rfl).cons S 54 rfl).cons S 55 rfl, ⟨by dsimp only; omega, by dsimp only; rw [wayBs_s, hw1, ← List.append_assoc, ← List.append_assoc]; exact H.take [Sl (val2 key2) 6 encSV (grpF SV.serial okW (sortL ordS xs) key2), Cel b11 76 [bv7], OSl 45 bv7 6 encBV (B1 ++ (done2).flatMap (fun p : Int × Value => wayB (pairsO os) 50 (grpF SV.serial okW (sortL ordS xs) p.1)) ++ wayBs (pairsO os) 50 (grpF SV.serial okW (sortL ordS xs) key2) (j + 1) ++ staleB (pairsO os) 50 (grpF SV.serial okW (sortL ordS xs) key2)[j + 1] ++ [blameF 2 (grpF SV.serial okW (sortL ordS xs) key2)[j + 1] (grpF SV.serial okW (sortL ordS xs) key2)[j].gate (grpF SV.serial okW (sortL ordS xs) key2)[j].number]), ItA r49 b48 (fun n : Int => .int .i64 n) (fun v : Value => v) (mvF (keysF SV.serial okW (sortL ordS xs)) val2) (done2 ++ [(key2, val2 key2)]) left3, Atom.ro (FamA (keysF SV.serial okW (sortL ordS xs)) (fun j => OSl 32 (val2 j) 6 encSV (grpF SV.serial okW (sortL ordS xs) j))), OSl 32 u22 6 encSV (sortL ordS xs), MapA b26 (fun n : Int => .int .i64 n) (fun n : Int => .int .i64 n) (sinM (pairsO (os))) z, Atom.ro (Cel b8 72 [.map (some b26)]), DefsA [bd]]⟩, by dsimp only; omega⟩
          | exact ⟨((j + 1) + 1, bv5), S.nil.cons S 56 rfl, (((((((S.nil.cons S 6 rfl).cons S 2 rfl).cons S 8 rfl).cons S 11 rfl).cons S 49 rfl).cons S 15 rfl).cons S 54 rfl).cons S 55 rfl, ⟨by dsimp only; omega, by dsimp only; rw [wayBs_s, hw1, ← List.append_assoc]; exact H.take [Sl (val2 key2) 6 encSV (grpF SV.serial okW (sortL ordS xs) key2), Cel b11 76 [bv5], OSl 45 bv5 6 encBV (B1 ++ (done2).flatMap (fun p : Int × Value => wayB (pairsO os) 50 (grpF SV.serial okW (sortL ordS xs) p.1)) ++ wayBs (pairsO os) 50 (grpF SV.serial okW (sortL ordS xs) key2) (j + 1) ++ staleB (pairsO os) 50 (grpF SV.serial okW (sortL ordS xs) key2)[j + 1]), ItA r49 b48 (fun n : Int => .int .i64 n) (fun v : Value => v) (mvF (keysF SV.serial okW (sortL ordS xs)) val2) (done2 ++ [(key2, val2 key2)]) left3, Atom.ro (FamA (keysF SV.serial okW (sortL ordS xs)) (fun j => OSl 32 (val2 j) 6 encSV (grpF SV.serial okW (sortL ordS xs) j))), OSl 32 u22 6 encSV (sortL ordS xs), MapA b26 (fun n : Int => .int .i64 n) (fun n : Int => .int .i64 n) (sinM (pairsO (os))) z, Atom.ro (Cel b8 72 [.map (some b26)]), DefsA [bd]]⟩, by dsimp only; omega⟩
         ·have h10p := h10; try simp only [DL] at h10p
          have h6 := h10p
          obtain ⟨j, rfl⟩ : ∃ j, i = j + 1 := ⟨i - 1, by omega⟩
          have hkj : (grpF SV.serial okW (sortL ordS xs) key2)[j].kind = 1 := by
            have h := h6.2
            have e : (((j + 1 : Nat) : Int) - 1).toNat = j := by omega
            simp only [e] at h
            exact h
          refine g_skip ?_
          refine n_then ?_
          have S := ((((((((((S.nil.cons S 6 rfl).cons S 2 rfl).cons S 8 rfl).cons S 11 rfl).cons S 49 rfl).cons S 15 rfl).cons S 54 rfl).cons S 55 rfl).cons S 56 rfl).cons S 17 rfl).cons S 16 rfl
          refine gsr ?_
          refine gm S fun a S => ?_
          refine gm S fun a S => ?_
          refine gy rfl rfl rfl S ((y_subn (p := j + 1) (q := 1) (m := j) rfl S rfl rfl (by omega) (by omega))) fun a S => ?_
          refine gy rfl rfl rfl S (y_iaddrn rfl Tryz.underlying29 Fsiz32 S H rfl rfl (by first | assumption | omega | (simp only [LL]; omega))) fun a S => ?_
          refine gy rfl rfl rfl S (y_loadsa _ rfl S H rfl (by exact Fagg32) (by first | assumption | omega | (simp only [LL]; omega))) fun a S => ?_
          refine wl_of (op_alloc (wn rfl) rfl rfl rfl S H Fzer32 fun b19 a w S H => ?_)
          refine wl_of (op_storea (wn rfl) rfl rfl S H rfl rfl rfl Fsiz32 rfl (cs' := encSV (grpF SV.serial okW (sortL ordS xs) key2)[j]) rfl fun a w S H => ?_)
          refine gnt ?_
          have S := ((((((((((S.nil.cons S 6 rfl).cons S 2 rfl).cons S 8 rfl).cons S 11 rfl).cons S 49 rfl).cons S 15 rfl).cons S 54 rfl).cons S 55 rfl).cons S 56 rfl).cons S 17 rfl).cons S 19 rfl
          refine gsr ?_
          refine gy rfl rfl rfl S (y_faddrb rfl Ffo32_0 S rfl) fun a S => ?_
          refine gy rfl rfl rfl S (y_load rfl Fsca3 S H rfl rfl) fun a S => ?_
          refine gy rfl rfl rfl S (y_faddrb rfl Ffo32_0 S rfl) fun a S => ?_
          refine gy rfl rfl rfl S (y_load rfl Fsca3 S H rfl rfl) fun a S => ?_
          refine gy rfl rfl rfl S (y_bin rfl S rfl rfl rfl) fun a S => ?_
          refine gnt ?_
          have S := (((((((((((S.nil.cons S 6 rfl).cons S 2 rfl).cons S 8 rfl).cons S 11 rfl).cons S 49 rfl).cons S 15 rfl).cons S 54 rfl).cons S 55 rfl).cons S 56 rfl).cons S 17 rfl).cons S 19 rfl).cons S 105 rfl
          refine c_if S rfl (fun h11 => ?_) (fun h11 => ?_)
          ·have h11p := h11; try simp only [DL] at h11p
           have hw1 := wayB1_c (g := pairsO os) (st := 50) hil hk1 hkj (by exact h11p)
           refine g_region ?_
           refine gy rfl rfl rfl S (y_load0 rfl S H rfl (by exact Fagg32)) fun a S => ?_
           refine gy rfl rfl rfl S (y_faddrb rfl Ffo32_0 S rfl) fun a S => ?_
           refine gy rfl rfl rfl S (y_load rfl Fsca3 S H rfl rfl) fun a S => ?_
           refine gy rfl rfl rfl S (y_faddrb rfl Ffo32_1 S rfl) fun a S => ?_
           refine gy rfl rfl rfl S (y_load rfl Fsca3 S H rfl rfl) fun a S => ?_
           refine wl_of (op_call (wn rfl) rfl rfl S (co_func rfl Tryz.call26 S rfl) (blame_spec b11 bv5 (B1 ++ (done2).flatMap (fun p : Int × Value => wayB (pairsO os) 50 (grpF SV.serial okW (sortL ordS xs) p.1)) ++ wayBs (pairsO os) 50 (grpF SV.serial okW (sortL ordS xs) key2) (j + 1) ++ staleB (pairsO os) 50 (grpF SV.serial okW (sortL ordS xs) key2)[j + 1]) 1 ((grpF SV.serial okW (sortL ordS xs) key2)[j].gate) ((grpF SV.serial okW (sortL ordS xs) key2)[j].number) (grpF SV.serial okW (sortL ordS xs) key2)[j + 1] _ (H.take [Cel b11 76 [bv5], OSl 45 bv5 6 encBV (B1 ++ (done2).flatMap (fun p : Int × Value => wayB (pairsO os) 50 (grpF SV.serial okW (sortL ordS xs) p.1)) ++ wayBs (pairsO os) 50 (grpF SV.serial okW (sortL ordS xs) key2) (j + 1) ++ staleB (pairsO os) 50 (grpF SV.serial okW (sortL ordS xs) key2)[j + 1]), Cel b17 32 (encSV (grpF SV.serial okW (sortL ordS xs) key2)[j + 1]), Sl (val2 key2) 6 encSV (grpF SV.serial okW (sortL ordS xs) key2), ItA r49 b48 (fun n : Int => .int .i64 n) (fun v : Value => v) (mvF (keysF SV.serial okW (sortL ordS xs)) val2) (done2 ++ [(key2, val2 key2)]) left3, Atom.ro (FamA (keysF SV.serial okW (sortL ordS xs)) (fun j => OSl 32 (val2 j) 6 encSV (grpF SV.serial okW (sortL ordS xs) j))), OSl 32 u22 6 encSV (sortL ordS xs), MapA b26 (fun n : Int => .int .i64 n) (fun n : Int => .int .i64 n) (sinM (pairsO (os))) z, Atom.ro (Cel b8 72 [.map (some b26)]), DefsA [bd]]) (by have h1 := hb48; have h2 := wayBs_len (pairsO os) 50 (grpF SV.serial okW (sortL ordS xs) key2) (j + 1); have h3 := staleB_len (pairsO os) 50 (grpF SV.serial okW (sortL ordS xs) key2)[j + 1]; simp only [List.length_append] at h1 ⊢; omega)) fun v w hc a S => ?_)
           obtain ⟨rfl, bv7, H⟩ := hc
           
           refine gl_nil ?_
           refine n_block ?_
           refine n_then ?_
           have S := ((((((((S.nil.cons S 6 rfl).cons S 2 rfl).cons S 8 rfl).cons S 11 rfl).cons S 49 rfl).cons S 15 rfl).cons S 54 rfl).cons S 55 rfl).cons S 56 rfl
           refine g_region ?_
           refine gy rfl rfl rfl S (y_add rfl S rfl rfl (by omega)) fun a S => ?_
           refine gm S fun a S => ?_
           refine gnt ?_
           first
           | exact ⟨(i + 1, bv), S.nil.cons S 56 rfl, (((((((S.nil.cons S 6 rfl).cons S 2 rfl).cons S 8 rfl).cons S 11 rfl).cons S 49 rfl).cons S 15 rfl).cons S 54 rfl).cons S 55 rfl, ⟨by dsimp only; omega, by dsimp only; rw [wayBs_s, hw1, List.append_nil]; exact H.take [Sl (val2 key2) 6 encSV (grpF SV.serial okW (sortL ordS xs) key2), Cel b11 76 [bv], OSl 45 bv 6 encBV (B1 ++ (done2).flatMap (fun p : Int × Value => wayB (pairsO os) 50 (grpF SV.serial okW (sortL ordS xs) p.1)) ++ wayBs (pairsO os) 50 (grpF SV.serial okW (sortL ordS xs) key2) (i)), ItA r49 b48 (fun n : Int => .int .i64 n) (fun v : Value => v) (mvF (keysF SV.serial okW (sortL ordS xs)) val2) (done2 ++ [(key2, val2 key2)]) left3, Atom.ro (FamA (keysF SV.serial okW (sortL ordS xs)) (fun j => OSl 32 (val2 j) 6 encSV (grpF SV.serial okW (sortL ordS xs) j))), OSl 32 u22 6 encSV (sortL ordS xs), MapA b26 (fun n : Int => .int .i64 n) (fun n : Int => .int .i64 n) (sinM (pairsO (os))) z, Atom.ro (Cel b8 72 [.map (some b26)]), DefsA [bd]]⟩, by dsimp only; omega⟩
           | exact ⟨(i + 1, bv5), S.nil.cons S 56 rfl, (((((((S.nil.cons S 6 rfl).cons S 2 rfl).cons S 8 rfl).cons S 11 rfl).cons S 49 rfl).cons S 15 rfl).cons S 54 rfl).cons S 55 rfl, ⟨by dsimp only; omega, by dsimp only; rw [wayBs_s, hw1, ← List.append_assoc]; exact H.take [Sl (val2 key2) 6 encSV (grpF SV.serial okW (sortL ordS xs) key2), Cel b11 76 [bv5], OSl 45 bv5 6 encBV (B1 ++ (done2).flatMap (fun p : Int × Value => wayB (pairsO os) 50 (grpF SV.serial okW (sortL ordS xs) p.1)) ++ wayBs (pairsO os) 50 (grpF SV.serial okW (sortL ordS xs) key2) (i) ++ staleB (pairsO os) 50 (grpF SV.serial okW (sortL ordS xs) key2)[i]), ItA r49 b48 (fun n : Int => .int .i64 n) (fun v : Value => v) (mvF (keysF SV.serial okW (sortL ordS xs)) val2) (done2 ++ [(key2, val2 key2)]) left3, Atom.ro (FamA (keysF SV.serial okW (sortL ordS xs)) (fun j => OSl 32 (val2 j) 6 encSV (grpF SV.serial okW (sortL ordS xs) j))), OSl 32 u22 6 encSV (sortL ordS xs), MapA b26 (fun n : Int => .int .i64 n) (fun n : Int => .int .i64 n) (sinM (pairsO (os))) z, Atom.ro (Cel b8 72 [.map (some b26)]), DefsA [bd]]⟩, by dsimp only; omega⟩
           | exact ⟨((j + 1) + 1, bv7), S.nil.cons S 56 rfl, (((((((S.nil.cons S 6 rfl).cons S 2 rfl).cons S 8 rfl).cons S 11 rfl).cons S 49 rfl).cons S 15 rfl).cons S 54 rfl).cons S 55 rfl, ⟨by dsimp only; omega, by dsimp only; rw [wayBs_s, hw1, ← List.append_assoc, ← List.append_assoc]; exact H.take [Sl (val2 key2) 6 encSV (grpF SV.serial okW (sortL ordS xs) key2), Cel b11 76 [bv7], OSl 45 bv7 6 encBV (B1 ++ (done2).flatMap (fun p : Int × Value => wayB (pairsO os) 50 (grpF SV.serial okW (sortL ordS xs) p.1)) ++ wayBs (pairsO os) 50 (grpF SV.serial okW (sortL ordS xs) key2) (j + 1) ++ staleB (pairsO os) 50 (grpF SV.serial okW (sortL ordS xs) key2)[j + 1] ++ [blameF 1 (grpF SV.serial okW (sortL ordS xs) key2)[j + 1] (grpF SV.serial okW (sortL ordS xs) key2)[j].gate (grpF SV.serial okW (sortL ordS xs) key2)[j].number]), ItA r49 b48 (fun n : Int => .int .i64 n) (fun v : Value => v) (mvF (keysF SV.serial okW (sortL ordS xs)) val2) (done2 ++ [(key2, val2 key2)]) left3, Atom.ro (FamA (keysF SV.serial okW (sortL ordS xs)) (fun j => OSl 32 (val2 j) 6 encSV (grpF SV.serial okW (sortL ordS xs) j))), OSl 32 u22 6 encSV (sortL ordS xs), MapA b26 (fun n : Int => .int .i64 n) (fun n : Int => .int .i64 n) (sinM (pairsO (os))) z, Atom.ro (Cel b8 72 [.map (some b26)]), DefsA [bd]]⟩, by dsimp only; omega⟩
           | exact ⟨((j + 1) + 1, bv7), S.nil.cons S 56 rfl, (((((((S.nil.cons S 6 rfl).cons S 2 rfl).cons S 8 rfl).cons S 11 rfl).cons S 49 rfl).cons S 15 rfl).cons S 54 rfl).cons S 55 rfl, ⟨by dsimp only; omega, by dsimp only; rw [wayBs_s, hw1, ← List.append_assoc, ← List.append_assoc]; exact H.take [Sl (val2 key2) 6 encSV (grpF SV.serial okW (sortL ordS xs) key2), Cel b11 76 [bv7], OSl 45 bv7 6 encBV (B1 ++ (done2).flatMap (fun p : Int × Value => wayB (pairsO os) 50 (grpF SV.serial okW (sortL ordS xs) p.1)) ++ wayBs (pairsO os) 50 (grpF SV.serial okW (sortL ordS xs) key2) (j + 1) ++ staleB (pairsO os) 50 (grpF SV.serial okW (sortL ordS xs) key2)[j + 1] ++ [blameF 2 (grpF SV.serial okW (sortL ordS xs) key2)[j + 1] (grpF SV.serial okW (sortL ordS xs) key2)[j].gate (grpF SV.serial okW (sortL ordS xs) key2)[j].number]), ItA r49 b48 (fun n : Int => .int .i64 n) (fun v : Value => v) (mvF (keysF SV.serial okW (sortL ordS xs)) val2) (done2 ++ [(key2, val2 key2)]) left3, Atom.ro (FamA (keysF SV.serial okW (sortL ordS xs)) (fun j => OSl 32 (val2 j) 6 encSV (grpF SV.serial okW (sortL ordS xs) j))), OSl 32 u22 6 encSV (sortL ordS xs), MapA b26 (fun n : Int => .int .i64 n) (fun n : Int => .int .i64 n) (sinM (pairsO (os))) z, Atom.ro (Cel b8 72 [.map (some b26)]), DefsA [bd]]⟩, by dsimp only; omega⟩
           | exact ⟨((j + 1) + 1, bv5), S.nil.cons S 56 rfl, (((((((S.nil.cons S 6 rfl).cons S 2 rfl).cons S 8 rfl).cons S 11 rfl).cons S 49 rfl).cons S 15 rfl).cons S 54 rfl).cons S 55 rfl, ⟨by dsimp only; omega, by dsimp only; rw [wayBs_s, hw1, ← List.append_assoc]; exact H.take [Sl (val2 key2) 6 encSV (grpF SV.serial okW (sortL ordS xs) key2), Cel b11 76 [bv5], OSl 45 bv5 6 encBV (B1 ++ (done2).flatMap (fun p : Int × Value => wayB (pairsO os) 50 (grpF SV.serial okW (sortL ordS xs) p.1)) ++ wayBs (pairsO os) 50 (grpF SV.serial okW (sortL ordS xs) key2) (j + 1) ++ staleB (pairsO os) 50 (grpF SV.serial okW (sortL ordS xs) key2)[j + 1]), ItA r49 b48 (fun n : Int => .int .i64 n) (fun v : Value => v) (mvF (keysF SV.serial okW (sortL ordS xs)) val2) (done2 ++ [(key2, val2 key2)]) left3, Atom.ro (FamA (keysF SV.serial okW (sortL ordS xs)) (fun j => OSl 32 (val2 j) 6 encSV (grpF SV.serial okW (sortL ordS xs) j))), OSl 32 u22 6 encSV (sortL ordS xs), MapA b26 (fun n : Int => .int .i64 n) (fun n : Int => .int .i64 n) (sinM (pairsO (os))) z, Atom.ro (Cel b8 72 [.map (some b26)]), DefsA [bd]]⟩, by dsimp only; omega⟩
          ·have h11p := h11; try simp only [DL] at h11p
           refine gsr ?_
           refine gy rfl rfl rfl S (y_faddrb rfl Ffo32_1 S rfl) fun a S => ?_
           refine gy rfl rfl rfl S (y_load rfl Fsca3 S H rfl rfl) fun a S => ?_
           refine gy rfl rfl rfl S (y_faddrb rfl Ffo32_1 S rfl) fun a S => ?_
           refine gy rfl rfl rfl S (y_load rfl Fsca3 S H rfl rfl) fun a S => ?_
           refine gy rfl rfl rfl S (y_bin rfl S rfl rfl rfl) fun a S => ?_
           refine gnt ?_
           have S := (((((((((((S.nil.cons S 6 rfl).cons S 2 rfl).cons S 8 rfl).cons S 11 rfl).cons S 49 rfl).cons S 15 rfl).cons S 54 rfl).cons S 55 rfl).cons S 56 rfl).cons S 17 rfl).cons S 19 rfl).cons S 116 rfl
           refine c_if S rfl (fun h12 => ?_) (fun h12 => ?_)
           ·have h12p := h12; try simp only [DL] at h12p
            have hw1 := wayB1_d (g := pairsO os) (st := 50) hil hk1 hkj (by exact h11p) (by exact h12p)
            refine g_region ?_
            refine gy rfl rfl rfl S (y_load0 rfl S H rfl (by exact Fagg32)) fun a S => ?_
            refine gy rfl rfl rfl S (y_faddrb rfl Ffo32_0 S rfl) fun a S => ?_
            refine gy rfl rfl rfl S (y_load rfl Fsca3 S H rfl rfl) fun a S => ?_
            refine gy rfl rfl rfl S (y_faddrb rfl Ffo32_1 S rfl) fun a S => ?_
            refine gy rfl rfl rfl S (y_load rfl Fsca3 S H rfl rfl) fun a S => ?_
            refine wl_of (op_call (wn rfl) rfl rfl S (co_func rfl Tryz.call26 S rfl) (blame_spec b11 bv5 (B1 ++ (done2).flatMap (fun p : Int × Value => wayB (pairsO os) 50 (grpF SV.serial okW (sortL ordS xs) p.1)) ++ wayBs (pairsO os) 50 (grpF SV.serial okW (sortL ordS xs) key2) (j + 1) ++ staleB (pairsO os) 50 (grpF SV.serial okW (sortL ordS xs) key2)[j + 1]) 2 ((grpF SV.serial okW (sortL ordS xs) key2)[j].gate) ((grpF SV.serial okW (sortL ordS xs) key2)[j].number) (grpF SV.serial okW (sortL ordS xs) key2)[j + 1] _ (H.take [Cel b11 76 [bv5], OSl 45 bv5 6 encBV (B1 ++ (done2).flatMap (fun p : Int × Value => wayB (pairsO os) 50 (grpF SV.serial okW (sortL ordS xs) p.1)) ++ wayBs (pairsO os) 50 (grpF SV.serial okW (sortL ordS xs) key2) (j + 1) ++ staleB (pairsO os) 50 (grpF SV.serial okW (sortL ordS xs) key2)[j + 1]), Cel b17 32 (encSV (grpF SV.serial okW (sortL ordS xs) key2)[j + 1]), Sl (val2 key2) 6 encSV (grpF SV.serial okW (sortL ordS xs) key2), ItA r49 b48 (fun n : Int => .int .i64 n) (fun v : Value => v) (mvF (keysF SV.serial okW (sortL ordS xs)) val2) (done2 ++ [(key2, val2 key2)]) left3, Atom.ro (FamA (keysF SV.serial okW (sortL ordS xs)) (fun j => OSl 32 (val2 j) 6 encSV (grpF SV.serial okW (sortL ordS xs) j))), OSl 32 u22 6 encSV (sortL ordS xs), MapA b26 (fun n : Int => .int .i64 n) (fun n : Int => .int .i64 n) (sinM (pairsO (os))) z, Atom.ro (Cel b8 72 [.map (some b26)]), DefsA [bd]]) (by have h1 := hb48; have h2 := wayBs_len (pairsO os) 50 (grpF SV.serial okW (sortL ordS xs) key2) (j + 1); have h3 := staleB_len (pairsO os) 50 (grpF SV.serial okW (sortL ordS xs) key2)[j + 1]; simp only [List.length_append] at h1 ⊢; omega)) fun v w hc a S => ?_)
            obtain ⟨rfl, bv7, H⟩ := hc
            
            refine gl_nil ?_
            refine n_block ?_
            refine n_then ?_
            have S := ((((((((S.nil.cons S 6 rfl).cons S 2 rfl).cons S 8 rfl).cons S 11 rfl).cons S 49 rfl).cons S 15 rfl).cons S 54 rfl).cons S 55 rfl).cons S 56 rfl
            refine g_region ?_
            refine gy rfl rfl rfl S (y_add rfl S rfl rfl (by omega)) fun a S => ?_
            refine gm S fun a S => ?_
            refine gnt ?_
            first
            | exact ⟨(i + 1, bv), S.nil.cons S 56 rfl, (((((((S.nil.cons S 6 rfl).cons S 2 rfl).cons S 8 rfl).cons S 11 rfl).cons S 49 rfl).cons S 15 rfl).cons S 54 rfl).cons S 55 rfl, ⟨by dsimp only; omega, by dsimp only; rw [wayBs_s, hw1, List.append_nil]; exact H.take [Sl (val2 key2) 6 encSV (grpF SV.serial okW (sortL ordS xs) key2), Cel b11 76 [bv], OSl 45 bv 6 encBV (B1 ++ (done2).flatMap (fun p : Int × Value => wayB (pairsO os) 50 (grpF SV.serial okW (sortL ordS xs) p.1)) ++ wayBs (pairsO os) 50 (grpF SV.serial okW (sortL ordS xs) key2) (i)), ItA r49 b48 (fun n : Int => .int .i64 n) (fun v : Value => v) (mvF (keysF SV.serial okW (sortL ordS xs)) val2) (done2 ++ [(key2, val2 key2)]) left3, Atom.ro (FamA (keysF SV.serial okW (sortL ordS xs)) (fun j => OSl 32 (val2 j) 6 encSV (grpF SV.serial okW (sortL ordS xs) j))), OSl 32 u22 6 encSV (sortL ordS xs), MapA b26 (fun n : Int => .int .i64 n) (fun n : Int => .int .i64 n) (sinM (pairsO (os))) z, Atom.ro (Cel b8 72 [.map (some b26)]), DefsA [bd]]⟩, by dsimp only; omega⟩
            | exact ⟨(i + 1, bv5), S.nil.cons S 56 rfl, (((((((S.nil.cons S 6 rfl).cons S 2 rfl).cons S 8 rfl).cons S 11 rfl).cons S 49 rfl).cons S 15 rfl).cons S 54 rfl).cons S 55 rfl, ⟨by dsimp only; omega, by dsimp only; rw [wayBs_s, hw1, ← List.append_assoc]; exact H.take [Sl (val2 key2) 6 encSV (grpF SV.serial okW (sortL ordS xs) key2), Cel b11 76 [bv5], OSl 45 bv5 6 encBV (B1 ++ (done2).flatMap (fun p : Int × Value => wayB (pairsO os) 50 (grpF SV.serial okW (sortL ordS xs) p.1)) ++ wayBs (pairsO os) 50 (grpF SV.serial okW (sortL ordS xs) key2) (i) ++ staleB (pairsO os) 50 (grpF SV.serial okW (sortL ordS xs) key2)[i]), ItA r49 b48 (fun n : Int => .int .i64 n) (fun v : Value => v) (mvF (keysF SV.serial okW (sortL ordS xs)) val2) (done2 ++ [(key2, val2 key2)]) left3, Atom.ro (FamA (keysF SV.serial okW (sortL ordS xs)) (fun j => OSl 32 (val2 j) 6 encSV (grpF SV.serial okW (sortL ordS xs) j))), OSl 32 u22 6 encSV (sortL ordS xs), MapA b26 (fun n : Int => .int .i64 n) (fun n : Int => .int .i64 n) (sinM (pairsO (os))) z, Atom.ro (Cel b8 72 [.map (some b26)]), DefsA [bd]]⟩, by dsimp only; omega⟩
            | exact ⟨((j + 1) + 1, bv7), S.nil.cons S 56 rfl, (((((((S.nil.cons S 6 rfl).cons S 2 rfl).cons S 8 rfl).cons S 11 rfl).cons S 49 rfl).cons S 15 rfl).cons S 54 rfl).cons S 55 rfl, ⟨by dsimp only; omega, by dsimp only; rw [wayBs_s, hw1, ← List.append_assoc, ← List.append_assoc]; exact H.take [Sl (val2 key2) 6 encSV (grpF SV.serial okW (sortL ordS xs) key2), Cel b11 76 [bv7], OSl 45 bv7 6 encBV (B1 ++ (done2).flatMap (fun p : Int × Value => wayB (pairsO os) 50 (grpF SV.serial okW (sortL ordS xs) p.1)) ++ wayBs (pairsO os) 50 (grpF SV.serial okW (sortL ordS xs) key2) (j + 1) ++ staleB (pairsO os) 50 (grpF SV.serial okW (sortL ordS xs) key2)[j + 1] ++ [blameF 1 (grpF SV.serial okW (sortL ordS xs) key2)[j + 1] (grpF SV.serial okW (sortL ordS xs) key2)[j].gate (grpF SV.serial okW (sortL ordS xs) key2)[j].number]), ItA r49 b48 (fun n : Int => .int .i64 n) (fun v : Value => v) (mvF (keysF SV.serial okW (sortL ordS xs)) val2) (done2 ++ [(key2, val2 key2)]) left3, Atom.ro (FamA (keysF SV.serial okW (sortL ordS xs)) (fun j => OSl 32 (val2 j) 6 encSV (grpF SV.serial okW (sortL ordS xs) j))), OSl 32 u22 6 encSV (sortL ordS xs), MapA b26 (fun n : Int => .int .i64 n) (fun n : Int => .int .i64 n) (sinM (pairsO (os))) z, Atom.ro (Cel b8 72 [.map (some b26)]), DefsA [bd]]⟩, by dsimp only; omega⟩
            | exact ⟨((j + 1) + 1, bv7), S.nil.cons S 56 rfl, (((((((S.nil.cons S 6 rfl).cons S 2 rfl).cons S 8 rfl).cons S 11 rfl).cons S 49 rfl).cons S 15 rfl).cons S 54 rfl).cons S 55 rfl, ⟨by dsimp only; omega, by dsimp only; rw [wayBs_s, hw1, ← List.append_assoc, ← List.append_assoc]; exact H.take [Sl (val2 key2) 6 encSV (grpF SV.serial okW (sortL ordS xs) key2), Cel b11 76 [bv7], OSl 45 bv7 6 encBV (B1 ++ (done2).flatMap (fun p : Int × Value => wayB (pairsO os) 50 (grpF SV.serial okW (sortL ordS xs) p.1)) ++ wayBs (pairsO os) 50 (grpF SV.serial okW (sortL ordS xs) key2) (j + 1) ++ staleB (pairsO os) 50 (grpF SV.serial okW (sortL ordS xs) key2)[j + 1] ++ [blameF 2 (grpF SV.serial okW (sortL ordS xs) key2)[j + 1] (grpF SV.serial okW (sortL ordS xs) key2)[j].gate (grpF SV.serial okW (sortL ordS xs) key2)[j].number]), ItA r49 b48 (fun n : Int => .int .i64 n) (fun v : Value => v) (mvF (keysF SV.serial okW (sortL ordS xs)) val2) (done2 ++ [(key2, val2 key2)]) left3, Atom.ro (FamA (keysF SV.serial okW (sortL ordS xs)) (fun j => OSl 32 (val2 j) 6 encSV (grpF SV.serial okW (sortL ordS xs) j))), OSl 32 u22 6 encSV (sortL ordS xs), MapA b26 (fun n : Int => .int .i64 n) (fun n : Int => .int .i64 n) (sinM (pairsO (os))) z, Atom.ro (Cel b8 72 [.map (some b26)]), DefsA [bd]]⟩, by dsimp only; omega⟩
            | exact ⟨((j + 1) + 1, bv5), S.nil.cons S 56 rfl, (((((((S.nil.cons S 6 rfl).cons S 2 rfl).cons S 8 rfl).cons S 11 rfl).cons S 49 rfl).cons S 15 rfl).cons S 54 rfl).cons S 55 rfl, ⟨by dsimp only; omega, by dsimp only; rw [wayBs_s, hw1, ← List.append_assoc]; exact H.take [Sl (val2 key2) 6 encSV (grpF SV.serial okW (sortL ordS xs) key2), Cel b11 76 [bv5], OSl 45 bv5 6 encBV (B1 ++ (done2).flatMap (fun p : Int × Value => wayB (pairsO os) 50 (grpF SV.serial okW (sortL ordS xs) p.1)) ++ wayBs (pairsO os) 50 (grpF SV.serial okW (sortL ordS xs) key2) (j + 1) ++ staleB (pairsO os) 50 (grpF SV.serial okW (sortL ordS xs) key2)[j + 1]), ItA r49 b48 (fun n : Int => .int .i64 n) (fun v : Value => v) (mvF (keysF SV.serial okW (sortL ordS xs)) val2) (done2 ++ [(key2, val2 key2)]) left3, Atom.ro (FamA (keysF SV.serial okW (sortL ordS xs)) (fun j => OSl 32 (val2 j) 6 encSV (grpF SV.serial okW (sortL ordS xs) j))), OSl 32 u22 6 encSV (sortL ordS xs), MapA b26 (fun n : Int => .int .i64 n) (fun n : Int => .int .i64 n) (sinM (pairsO (os))) z, Atom.ro (Cel b8 72 [.map (some b26)]), DefsA [bd]]⟩, by dsimp only; omega⟩
           ·have h12p := h12; try simp only [DL] at h12p
            have hw1 := wayB1_e (g := pairsO os) (st := 50) hil hk1 hkj (by exact h11p) (by exact h12p)
            refine g_skip ?_
            refine n_block ?_
            refine n_then ?_
            refine g_region ?_
            refine gy rfl rfl rfl S (y_add rfl S rfl rfl (by omega)) fun a S => ?_
            refine gm S fun a S => ?_
            refine gnt ?_
            first
            | exact ⟨(i + 1, bv), S.nil.cons S 56 rfl, (((((((S.nil.cons S 6 rfl).cons S 2 rfl).cons S 8 rfl).cons S 11 rfl).cons S 49 rfl).cons S 15 rfl).cons S 54 rfl).cons S 55 rfl, ⟨by dsimp only; omega, by dsimp only; rw [wayBs_s, hw1, List.append_nil]; exact H.take [Sl (val2 key2) 6 encSV (grpF SV.serial okW (sortL ordS xs) key2), Cel b11 76 [bv], OSl 45 bv 6 encBV (B1 ++ (done2).flatMap (fun p : Int × Value => wayB (pairsO os) 50 (grpF SV.serial okW (sortL ordS xs) p.1)) ++ wayBs (pairsO os) 50 (grpF SV.serial okW (sortL ordS xs) key2) (i)), ItA r49 b48 (fun n : Int => .int .i64 n) (fun v : Value => v) (mvF (keysF SV.serial okW (sortL ordS xs)) val2) (done2 ++ [(key2, val2 key2)]) left3, Atom.ro (FamA (keysF SV.serial okW (sortL ordS xs)) (fun j => OSl 32 (val2 j) 6 encSV (grpF SV.serial okW (sortL ordS xs) j))), OSl 32 u22 6 encSV (sortL ordS xs), MapA b26 (fun n : Int => .int .i64 n) (fun n : Int => .int .i64 n) (sinM (pairsO (os))) z, Atom.ro (Cel b8 72 [.map (some b26)]), DefsA [bd]]⟩, by dsimp only; omega⟩
            | exact ⟨(i + 1, bv5), S.nil.cons S 56 rfl, (((((((S.nil.cons S 6 rfl).cons S 2 rfl).cons S 8 rfl).cons S 11 rfl).cons S 49 rfl).cons S 15 rfl).cons S 54 rfl).cons S 55 rfl, ⟨by dsimp only; omega, by dsimp only; rw [wayBs_s, hw1, ← List.append_assoc]; exact H.take [Sl (val2 key2) 6 encSV (grpF SV.serial okW (sortL ordS xs) key2), Cel b11 76 [bv5], OSl 45 bv5 6 encBV (B1 ++ (done2).flatMap (fun p : Int × Value => wayB (pairsO os) 50 (grpF SV.serial okW (sortL ordS xs) p.1)) ++ wayBs (pairsO os) 50 (grpF SV.serial okW (sortL ordS xs) key2) (i) ++ staleB (pairsO os) 50 (grpF SV.serial okW (sortL ordS xs) key2)[i]), ItA r49 b48 (fun n : Int => .int .i64 n) (fun v : Value => v) (mvF (keysF SV.serial okW (sortL ordS xs)) val2) (done2 ++ [(key2, val2 key2)]) left3, Atom.ro (FamA (keysF SV.serial okW (sortL ordS xs)) (fun j => OSl 32 (val2 j) 6 encSV (grpF SV.serial okW (sortL ordS xs) j))), OSl 32 u22 6 encSV (sortL ordS xs), MapA b26 (fun n : Int => .int .i64 n) (fun n : Int => .int .i64 n) (sinM (pairsO (os))) z, Atom.ro (Cel b8 72 [.map (some b26)]), DefsA [bd]]⟩, by dsimp only; omega⟩
            | exact ⟨((j + 1) + 1, bv7), S.nil.cons S 56 rfl, (((((((S.nil.cons S 6 rfl).cons S 2 rfl).cons S 8 rfl).cons S 11 rfl).cons S 49 rfl).cons S 15 rfl).cons S 54 rfl).cons S 55 rfl, ⟨by dsimp only; omega, by dsimp only; rw [wayBs_s, hw1, ← List.append_assoc, ← List.append_assoc]; exact H.take [Sl (val2 key2) 6 encSV (grpF SV.serial okW (sortL ordS xs) key2), Cel b11 76 [bv7], OSl 45 bv7 6 encBV (B1 ++ (done2).flatMap (fun p : Int × Value => wayB (pairsO os) 50 (grpF SV.serial okW (sortL ordS xs) p.1)) ++ wayBs (pairsO os) 50 (grpF SV.serial okW (sortL ordS xs) key2) (j + 1) ++ staleB (pairsO os) 50 (grpF SV.serial okW (sortL ordS xs) key2)[j + 1] ++ [blameF 1 (grpF SV.serial okW (sortL ordS xs) key2)[j + 1] (grpF SV.serial okW (sortL ordS xs) key2)[j].gate (grpF SV.serial okW (sortL ordS xs) key2)[j].number]), ItA r49 b48 (fun n : Int => .int .i64 n) (fun v : Value => v) (mvF (keysF SV.serial okW (sortL ordS xs)) val2) (done2 ++ [(key2, val2 key2)]) left3, Atom.ro (FamA (keysF SV.serial okW (sortL ordS xs)) (fun j => OSl 32 (val2 j) 6 encSV (grpF SV.serial okW (sortL ordS xs) j))), OSl 32 u22 6 encSV (sortL ordS xs), MapA b26 (fun n : Int => .int .i64 n) (fun n : Int => .int .i64 n) (sinM (pairsO (os))) z, Atom.ro (Cel b8 72 [.map (some b26)]), DefsA [bd]]⟩, by dsimp only; omega⟩
            | exact ⟨((j + 1) + 1, bv7), S.nil.cons S 56 rfl, (((((((S.nil.cons S 6 rfl).cons S 2 rfl).cons S 8 rfl).cons S 11 rfl).cons S 49 rfl).cons S 15 rfl).cons S 54 rfl).cons S 55 rfl, ⟨by dsimp only; omega, by dsimp only; rw [wayBs_s, hw1, ← List.append_assoc, ← List.append_assoc]; exact H.take [Sl (val2 key2) 6 encSV (grpF SV.serial okW (sortL ordS xs) key2), Cel b11 76 [bv7], OSl 45 bv7 6 encBV (B1 ++ (done2).flatMap (fun p : Int × Value => wayB (pairsO os) 50 (grpF SV.serial okW (sortL ordS xs) p.1)) ++ wayBs (pairsO os) 50 (grpF SV.serial okW (sortL ordS xs) key2) (j + 1) ++ staleB (pairsO os) 50 (grpF SV.serial okW (sortL ordS xs) key2)[j + 1] ++ [blameF 2 (grpF SV.serial okW (sortL ordS xs) key2)[j + 1] (grpF SV.serial okW (sortL ordS xs) key2)[j].gate (grpF SV.serial okW (sortL ordS xs) key2)[j].number]), ItA r49 b48 (fun n : Int => .int .i64 n) (fun v : Value => v) (mvF (keysF SV.serial okW (sortL ordS xs)) val2) (done2 ++ [(key2, val2 key2)]) left3, Atom.ro (FamA (keysF SV.serial okW (sortL ordS xs)) (fun j => OSl 32 (val2 j) 6 encSV (grpF SV.serial okW (sortL ordS xs) j))), OSl 32 u22 6 encSV (sortL ordS xs), MapA b26 (fun n : Int => .int .i64 n) (fun n : Int => .int .i64 n) (sinM (pairsO (os))) z, Atom.ro (Cel b8 72 [.map (some b26)]), DefsA [bd]]⟩, by dsimp only; omega⟩
            | exact ⟨((j + 1) + 1, bv5), S.nil.cons S 56 rfl, (((((((S.nil.cons S 6 rfl).cons S 2 rfl).cons S 8 rfl).cons S 11 rfl).cons S 49 rfl).cons S 15 rfl).cons S 54 rfl).cons S 55 rfl, ⟨by dsimp only; omega, by dsimp only; rw [wayBs_s, hw1, ← List.append_assoc]; exact H.take [Sl (val2 key2) 6 encSV (grpF SV.serial okW (sortL ordS xs) key2), Cel b11 76 [bv5], OSl 45 bv5 6 encBV (B1 ++ (done2).flatMap (fun p : Int × Value => wayB (pairsO os) 50 (grpF SV.serial okW (sortL ordS xs) p.1)) ++ wayBs (pairsO os) 50 (grpF SV.serial okW (sortL ordS xs) key2) (j + 1) ++ staleB (pairsO os) 50 (grpF SV.serial okW (sortL ordS xs) key2)[j + 1]), ItA r49 b48 (fun n : Int => .int .i64 n) (fun v : Value => v) (mvF (keysF SV.serial okW (sortL ordS xs)) val2) (done2 ++ [(key2, val2 key2)]) left3, Atom.ro (FamA (keysF SV.serial okW (sortL ordS xs)) (fun j => OSl 32 (val2 j) 6 encSV (grpF SV.serial okW (sortL ordS xs) j))), OSl 32 u22 6 encSV (sortL ordS xs), MapA b26 (fun n : Int => .int .i64 n) (fun n : Int => .int .i64 n) (sinM (pairsO (os))) z, Atom.ro (Cel b8 72 [.map (some b26)]), DefsA [bd]]⟩, by dsimp only; omega⟩
        ·have h8p := h8; try simp only [DL] at h8p
         have hst : staleB (pairsO os) 50 (grpF SV.serial okW (sortL ordS xs) key2)[i] = [] := by
           have h := h8p
           unfold staleB; rw [if_neg (by omega)]
         obtain ⟨bv5, rfl⟩ : ∃ b, b = bv := ⟨_, rfl⟩
         rw [show B1 ++ (done2).flatMap (fun p : Int × Value => wayB (pairsO os) 50 (grpF SV.serial okW (sortL ordS xs) p.1)) ++ wayBs (pairsO os) 50 (grpF SV.serial okW (sortL ordS xs) key2) (i) = B1 ++ (done2).flatMap (fun p : Int × Value => wayB (pairsO os) 50 (grpF SV.serial okW (sortL ordS xs) p.1)) ++ wayBs (pairsO os) 50 (grpF SV.serial okW (sortL ordS xs) key2) (i) ++ staleB (pairsO os) 50 (grpF SV.serial okW (sortL ordS xs) key2)[i] from by rw [hst, List.append_nil]] at H
         refine g_skip ?_
         refine n_then ?_
         refine g_seq ?_
         refine gsr ?_
         refine gm S fun a S => ?_
         refine gy rfl rfl rfl S (y_bin rfl S rfl rfl rfl) fun a S => ?_
         refine gm S fun a S => ?_
         refine' wl_or 7 87 rfl S H rfl rfl rfl rfl rfl rfl rfl (fun _ S => (wn rfl)) (fun h13 kk => ?yh13) (fun a w S H => ?_)
         case yh13 =>
          have h13p := h13; try simp only [DL] at h13p
          refine gz 87 h13 S rfl rfl rfl rfl rfl rfl (y_move rfl S rfl) fun a S => ?_
          refine gz 87 h13 S rfl rfl rfl rfl rfl rfl (y_move rfl S rfl) fun a S => ?_
          refine gz 87 h13 S rfl rfl rfl rfl rfl rfl (y_sub rfl S rfl rfl (by omega)) fun a S => ?_
          refine gz 87 h13 S rfl rfl rfl rfl rfl rfl (y_iaddrs rfl Tryz.underlying29 Fsiz32 S H rfl rfl (by first | assumption | omega | (simp only [LL]; omega))) fun a S => ?_
          refine gz 87 h13 S rfl rfl rfl rfl rfl rfl (y_faddr rfl Ffo32_4 S rfl) fun a S => ?_
          refine gz 87 h13 S rfl rfl rfl rfl rfl rfl (y_loadsf _ rfl Fsca3 S H rfl (by first | assumption | omega | (simp only [LL]; omega)) rfl) fun a S => ?_
          refine gz 87 h13 S rfl rfl rfl rfl rfl rfl (y_bin rfl S rfl rfl rfl) fun a S => ?_
          refine gy rfl rfl rfl S (y_or' rfl h13 S rfl rfl) fun a S => ?_
          exact kk _ _ (S.join 8 95 rfl rfl) H
         refine gnt ?_
         have S := (((((((((((S.nil.cons S 6 rfl).cons S 2 rfl).cons S 8 rfl).cons S 11 rfl).cons S 49 rfl).cons S 15 rfl).cons S 54 rfl).cons S 55 rfl).cons S 56 rfl).cons S 17 rfl).cons S 16 rfl).cons S 95 rfl
         refine c_if S rfl (fun h14 => ?_) (fun h14 => ?_)
         ·have h14p := h14; try simp only [DL] at h14p
          have hw1 : wayB1 (pairsO os) 50 (grpF SV.serial okW (sortL ordS xs) key2) i = staleB (pairsO os) 50 (grpF SV.serial okW (sortL ordS xs) key2)[i] := wayB1_b hil hk1 (by
            rcases h14p with h | h
            · exact .inl (by omega)
            · by_cases h0 : i = 0
              · exact .inl h0
              · refine .inr ⟨i - 1, by omega, by omega, ?_⟩
                have e : ((i : Int) - 1).toNat = i - 1 := by omega
                simp only [e] at h
                exact h)
          refine g_exit ?_
          refine x_then (x_eq ?_)
          refine n_then ?_
          refine g_region ?_
          refine gy rfl rfl rfl S (y_add rfl S rfl rfl (by omega)) fun a S => ?_
          refine gm S fun a S => ?_
          refine gnt ?_
          first
          | exact ⟨(i + 1, bv), S.nil.cons S 56 rfl, (((((((S.nil.cons S 6 rfl).cons S 2 rfl).cons S 8 rfl).cons S 11 rfl).cons S 49 rfl).cons S 15 rfl).cons S 54 rfl).cons S 55 rfl, ⟨by dsimp only; omega, by dsimp only; rw [wayBs_s, hw1, List.append_nil]; exact H.take [Sl (val2 key2) 6 encSV (grpF SV.serial okW (sortL ordS xs) key2), Cel b11 76 [bv], OSl 45 bv 6 encBV (B1 ++ (done2).flatMap (fun p : Int × Value => wayB (pairsO os) 50 (grpF SV.serial okW (sortL ordS xs) p.1)) ++ wayBs (pairsO os) 50 (grpF SV.serial okW (sortL ordS xs) key2) (i)), ItA r49 b48 (fun n : Int => .int .i64 n) (fun v : Value => v) (mvF (keysF SV.serial okW (sortL ordS xs)) val2) (done2 ++ [(key2, val2 key2)]) left3, Atom.ro (FamA (keysF SV.serial okW (sortL ordS xs)) (fun j => OSl 32 (val2 j) 6 encSV (grpF SV.serial okW (sortL ordS xs) j))), OSl 32 u22 6 encSV (sortL ordS xs), MapA b26 (fun n : Int => .int .i64 n) (fun n : Int => .int .i64 n) (sinM (pairsO (os))) z, Atom.ro (Cel b8 72 [.map (some b26)]), DefsA [bd]]⟩, by dsimp only; omega⟩
          | exact ⟨(i + 1, bv5), S.nil.cons S 56 rfl, (((((((S.nil.cons S 6 rfl).cons S 2 rfl).cons S 8 rfl).cons S 11 rfl).cons S 49 rfl).cons S 15 rfl).cons S 54 rfl).cons S 55 rfl, ⟨by dsimp only; omega, by dsimp only; rw [wayBs_s, hw1, ← List.append_assoc]; exact H.take [Sl (val2 key2) 6 encSV (grpF SV.serial okW (sortL ordS xs) key2), Cel b11 76 [bv5], OSl 45 bv5 6 encBV (B1 ++ (done2).flatMap (fun p : Int × Value => wayB (pairsO os) 50 (grpF SV.serial okW (sortL ordS xs) p.1)) ++ wayBs (pairsO os) 50 (grpF SV.serial okW (sortL ordS xs) key2) (i) ++ staleB (pairsO os) 50 (grpF SV.serial okW (sortL ordS xs) key2)[i]), ItA r49 b48 (fun n : Int => .int .i64 n) (fun v : Value => v) (mvF (keysF SV.serial okW (sortL ordS xs)) val2) (done2 ++ [(key2, val2 key2)]) left3, Atom.ro (FamA (keysF SV.serial okW (sortL ordS xs)) (fun j => OSl 32 (val2 j) 6 encSV (grpF SV.serial okW (sortL ordS xs) j))), OSl 32 u22 6 encSV (sortL ordS xs), MapA b26 (fun n : Int => .int .i64 n) (fun n : Int => .int .i64 n) (sinM (pairsO (os))) z, Atom.ro (Cel b8 72 [.map (some b26)]), DefsA [bd]]⟩, by dsimp only; omega⟩
          | exact ⟨((j + 1) + 1, bv7), S.nil.cons S 56 rfl, (((((((S.nil.cons S 6 rfl).cons S 2 rfl).cons S 8 rfl).cons S 11 rfl).cons S 49 rfl).cons S 15 rfl).cons S 54 rfl).cons S 55 rfl, ⟨by dsimp only; omega, by dsimp only; rw [wayBs_s, hw1, ← List.append_assoc, ← List.append_assoc]; exact H.take [Sl (val2 key2) 6 encSV (grpF SV.serial okW (sortL ordS xs) key2), Cel b11 76 [bv7], OSl 45 bv7 6 encBV (B1 ++ (done2).flatMap (fun p : Int × Value => wayB (pairsO os) 50 (grpF SV.serial okW (sortL ordS xs) p.1)) ++ wayBs (pairsO os) 50 (grpF SV.serial okW (sortL ordS xs) key2) (j + 1) ++ staleB (pairsO os) 50 (grpF SV.serial okW (sortL ordS xs) key2)[j + 1] ++ [blameF 1 (grpF SV.serial okW (sortL ordS xs) key2)[j + 1] (grpF SV.serial okW (sortL ordS xs) key2)[j].gate (grpF SV.serial okW (sortL ordS xs) key2)[j].number]), ItA r49 b48 (fun n : Int => .int .i64 n) (fun v : Value => v) (mvF (keysF SV.serial okW (sortL ordS xs)) val2) (done2 ++ [(key2, val2 key2)]) left3, Atom.ro (FamA (keysF SV.serial okW (sortL ordS xs)) (fun j => OSl 32 (val2 j) 6 encSV (grpF SV.serial okW (sortL ordS xs) j))), OSl 32 u22 6 encSV (sortL ordS xs), MapA b26 (fun n : Int => .int .i64 n) (fun n : Int => .int .i64 n) (sinM (pairsO (os))) z, Atom.ro (Cel b8 72 [.map (some b26)]), DefsA [bd]]⟩, by dsimp only; omega⟩
          | exact ⟨((j + 1) + 1, bv7), S.nil.cons S 56 rfl, (((((((S.nil.cons S 6 rfl).cons S 2 rfl).cons S 8 rfl).cons S 11 rfl).cons S 49 rfl).cons S 15 rfl).cons S 54 rfl).cons S 55 rfl, ⟨by dsimp only; omega, by dsimp only; rw [wayBs_s, hw1, ← List.append_assoc, ← List.append_assoc]; exact H.take [Sl (val2 key2) 6 encSV (grpF SV.serial okW (sortL ordS xs) key2), Cel b11 76 [bv7], OSl 45 bv7 6 encBV (B1 ++ (done2).flatMap (fun p : Int × Value => wayB (pairsO os) 50 (grpF SV.serial okW (sortL ordS xs) p.1)) ++ wayBs (pairsO os) 50 (grpF SV.serial okW (sortL ordS xs) key2) (j + 1) ++ staleB (pairsO os) 50 (grpF SV.serial okW (sortL ordS xs) key2)[j + 1] ++ [blameF 2 (grpF SV.serial okW (sortL ordS xs) key2)[j + 1] (grpF SV.serial okW (sortL ordS xs) key2)[j].gate (grpF SV.serial okW (sortL ordS xs) key2)[j].number]), ItA r49 b48 (fun n : Int => .int .i64 n) (fun v : Value => v) (mvF (keysF SV.serial okW (sortL ordS xs)) val2) (done2 ++ [(key2, val2 key2)]) left3, Atom.ro (FamA (keysF SV.serial okW (sortL ordS xs)) (fun j => OSl 32 (val2 j) 6 encSV (grpF SV.serial okW (sortL ordS xs) j))), OSl 32 u22 6 encSV (sortL ordS xs), MapA b26 (fun n : Int => .int .i64 n) (fun n : Int => .int .i64 n) (sinM (pairsO (os))) z, Atom.ro (Cel b8 72 [.map (some b26)]), DefsA [bd]]⟩, by dsimp only; omega⟩
          | exact ⟨((j + 1) + 1, bv5), S.nil.cons S 56 rfl, (((((((S.nil.cons S 6 rfl).cons S 2 rfl).cons S 8 rfl).cons S 11 rfl).cons S 49 rfl).cons S 15 rfl).cons S 54 rfl).cons S 55 rfl, ⟨by dsimp only; omega, by dsimp only; rw [wayBs_s, hw1, ← List.append_assoc]; exact H.take [Sl (val2 key2) 6 encSV (grpF SV.serial okW (sortL ordS xs) key2), Cel b11 76 [bv5], OSl 45 bv5 6 encBV (B1 ++ (done2).flatMap (fun p : Int × Value => wayB (pairsO os) 50 (grpF SV.serial okW (sortL ordS xs) p.1)) ++ wayBs (pairsO os) 50 (grpF SV.serial okW (sortL ordS xs) key2) (j + 1) ++ staleB (pairsO os) 50 (grpF SV.serial okW (sortL ordS xs) key2)[j + 1]), ItA r49 b48 (fun n : Int => .int .i64 n) (fun v : Value => v) (mvF (keysF SV.serial okW (sortL ordS xs)) val2) (done2 ++ [(key2, val2 key2)]) left3, Atom.ro (FamA (keysF SV.serial okW (sortL ordS xs)) (fun j => OSl 32 (val2 j) 6 encSV (grpF SV.serial okW (sortL ordS xs) j))), OSl 32 u22 6 encSV (sortL ordS xs), MapA b26 (fun n : Int => .int .i64 n) (fun n : Int => .int .i64 n) (sinM (pairsO (os))) z, Atom.ro (Cel b8 72 [.map (some b26)]), DefsA [bd]]⟩, by dsimp only; omega⟩
         ·have h14p := h14; try simp only [DL] at h14p
          have h6 := h14p
          obtain ⟨j, rfl⟩ : ∃ j, i = j + 1 := ⟨i - 1, by omega⟩
          have hkj : (grpF SV.serial okW (sortL ordS xs) key2)[j].kind = 1 := by
            have h := h6.2
            have e : (((j + 1 : Nat) : Int) - 1).toNat = j := by omega
            simp only [e] at h
            exact h
          refine g_skip ?_
          refine n_then ?_
          refine gsr ?_
          refine gm S fun a S => ?_
          refine gm S fun a S => ?_
          refine gy rfl rfl rfl S ((y_subn (p := j + 1) (q := 1) (m := j) rfl S rfl rfl (by omega) (by omega))) fun a S => ?_
          refine gy rfl rfl rfl S (y_iaddrn rfl Tryz.underlying29 Fsiz32 S H rfl rfl (by first | assumption | omega | (simp only [LL]; omega))) fun a S => ?_
          refine gy rfl rfl rfl S (y_loadsa _ rfl S H rfl (by exact Fagg32) (by first | assumption | omega | (simp only [LL]; omega))) fun a S => ?_
          refine wl_of (op_alloc (wn rfl) rfl rfl rfl S H Fzer32 fun b19 a w S H => ?_)
          refine wl_of (op_storea (wn rfl) rfl rfl S H rfl rfl rfl Fsiz32 rfl (cs' := encSV (grpF SV.serial okW (sortL ordS xs) key2)[j]) rfl fun a w S H => ?_)
          refine gnt ?_
          have S := ((((((((((S.nil.cons S 6 rfl).cons S 2 rfl).cons S 8 rfl).cons S 11 rfl).cons S 49 rfl).cons S 15 rfl).cons S 54 rfl).cons S 55 rfl).cons S 56 rfl).cons S 17 rfl).cons S 19 rfl
          refine gsr ?_
          refine gy rfl rfl rfl S (y_faddrb rfl Ffo32_0 S rfl) fun a S => ?_
          refine gy rfl rfl rfl S (y_load rfl Fsca3 S H rfl rfl) fun a S => ?_
          refine gy rfl rfl rfl S (y_faddrb rfl Ffo32_0 S rfl) fun a S => ?_
          refine gy rfl rfl rfl S (y_load rfl Fsca3 S H rfl rfl) fun a S => ?_
          refine gy rfl rfl rfl S (y_bin rfl S rfl rfl rfl) fun a S => ?_
          refine gnt ?_
          have S := (((((((((((S.nil.cons S 6 rfl).cons S 2 rfl).cons S 8 rfl).cons S 11 rfl).cons S 49 rfl).cons S 15 rfl).cons S 54 rfl).cons S 55 rfl).cons S 56 rfl).cons S 17 rfl).cons S 19 rfl).cons S 105 rfl
          refine c_if S rfl (fun h15 => ?_) (fun h15 => ?_)
          ·have h15p := h15; try simp only [DL] at h15p
           have hw1 := wayB1_c (g := pairsO os) (st := 50) hil hk1 hkj (by exact h15p)
           refine g_region ?_
           refine gy rfl rfl rfl S (y_load0 rfl S H rfl (by exact Fagg32)) fun a S => ?_
           refine gy rfl rfl rfl S (y_faddrb rfl Ffo32_0 S rfl) fun a S => ?_
           refine gy rfl rfl rfl S (y_load rfl Fsca3 S H rfl rfl) fun a S => ?_
           refine gy rfl rfl rfl S (y_faddrb rfl Ffo32_1 S rfl) fun a S => ?_
           refine gy rfl rfl rfl S (y_load rfl Fsca3 S H rfl rfl) fun a S => ?_
           refine wl_of (op_call (wn rfl) rfl rfl S (co_func rfl Tryz.call26 S rfl) (blame_spec b11 bv5 (B1 ++ (done2).flatMap (fun p : Int × Value => wayB (pairsO os) 50 (grpF SV.serial okW (sortL ordS xs) p.1)) ++ wayBs (pairsO os) 50 (grpF SV.serial okW (sortL ordS xs) key2) (j + 1) ++ staleB (pairsO os) 50 (grpF SV.serial okW (sortL ordS xs) key2)[j + 1]) 1 ((grpF SV.serial okW (sortL ordS xs) key2)[j].gate) ((grpF SV.serial okW (sortL ordS xs) key2)[j].number) (grpF SV.serial okW (sortL ordS xs) key2)[j + 1] _ (H.take [Cel b11 76 [bv5], OSl 45 bv5 6 encBV (B1 ++ (done2).flatMap (fun p : Int × Value => wayB (pairsO os) 50 (grpF SV.serial okW (sortL ordS xs) p.1)) ++ wayBs (pairsO os) 50 (grpF SV.serial okW (sortL ordS xs) key2) (j + 1) ++ staleB (pairsO os) 50 (grpF SV.serial okW (sortL ordS xs) key2)[j + 1]), Cel b17 32 (encSV (grpF SV.serial okW (sortL ordS xs) key2)[j + 1]), Sl (val2 key2) 6 encSV (grpF SV.serial okW (sortL ordS xs) key2), ItA r49 b48 (fun n : Int => .int .i64 n) (fun v : Value => v) (mvF (keysF SV.serial okW (sortL ordS xs)) val2) (done2 ++ [(key2, val2 key2)]) left3, Atom.ro (FamA (keysF SV.serial okW (sortL ordS xs)) (fun j => OSl 32 (val2 j) 6 encSV (grpF SV.serial okW (sortL ordS xs) j))), OSl 32 u22 6 encSV (sortL ordS xs), MapA b26 (fun n : Int => .int .i64 n) (fun n : Int => .int .i64 n) (sinM (pairsO (os))) z, Atom.ro (Cel b8 72 [.map (some b26)]), DefsA [bd]]) (by have h1 := hb48; have h2 := wayBs_len (pairsO os) 50 (grpF SV.serial okW (sortL ordS xs) key2) (j + 1); have h3 := staleB_len (pairsO os) 50 (grpF SV.serial okW (sortL ordS xs) key2)[j + 1]; simp only [List.length_append] at h1 ⊢; omega)) fun v w hc a S => ?_)
           obtain ⟨rfl, bv7, H⟩ := hc
           
           refine gl_nil ?_
           refine n_block ?_
           refine n_then ?_
           have S := ((((((((S.nil.cons S 6 rfl).cons S 2 rfl).cons S 8 rfl).cons S 11 rfl).cons S 49 rfl).cons S 15 rfl).cons S 54 rfl).cons S 55 rfl).cons S 56 rfl
           refine g_region ?_
           refine gy rfl rfl rfl S (y_add rfl S rfl rfl (by omega)) fun a S => ?_
           refine gm S fun a S => ?_
           refine gnt ?_
           first
           | exact ⟨(i + 1, bv), S.nil.cons S 56 rfl, (((((((S.nil.cons S 6 rfl).cons S 2 rfl).cons S 8 rfl).cons S 11 rfl).cons S 49 rfl).cons S 15 rfl).cons S 54 rfl).cons S 55 rfl, ⟨by dsimp only; omega, by dsimp only; rw [wayBs_s, hw1, List.append_nil]; exact H.take [Sl (val2 key2) 6 encSV (grpF SV.serial okW (sortL ordS xs) key2), Cel b11 76 [bv], OSl 45 bv 6 encBV (B1 ++ (done2).flatMap (fun p : Int × Value => wayB (pairsO os) 50 (grpF SV.serial okW (sortL ordS xs) p.1)) ++ wayBs (pairsO os) 50 (grpF SV.serial okW (sortL ordS xs) key2) (i)), ItA r49 b48 (fun n : Int => .int .i64 n) (fun v : Value => v) (mvF (keysF SV.serial okW (sortL ordS xs)) val2) (done2 ++ [(key2, val2 key2)]) left3, Atom.ro (FamA (keysF SV.serial okW (sortL ordS xs)) (fun j => OSl 32 (val2 j) 6 encSV (grpF SV.serial okW (sortL ordS xs) j))), OSl 32 u22 6 encSV (sortL ordS xs), MapA b26 (fun n : Int => .int .i64 n) (fun n : Int => .int .i64 n) (sinM (pairsO (os))) z, Atom.ro (Cel b8 72 [.map (some b26)]), DefsA [bd]]⟩, by dsimp only; omega⟩
           | exact ⟨(i + 1, bv5), S.nil.cons S 56 rfl, (((((((S.nil.cons S 6 rfl).cons S 2 rfl).cons S 8 rfl).cons S 11 rfl).cons S 49 rfl).cons S 15 rfl).cons S 54 rfl).cons S 55 rfl, ⟨by dsimp only; omega, by dsimp only; rw [wayBs_s, hw1, ← List.append_assoc]; exact H.take [Sl (val2 key2) 6 encSV (grpF SV.serial okW (sortL ordS xs) key2), Cel b11 76 [bv5], OSl 45 bv5 6 encBV (B1 ++ (done2).flatMap (fun p : Int × Value => wayB (pairsO os) 50 (grpF SV.serial okW (sortL ordS xs) p.1)) ++ wayBs (pairsO os) 50 (grpF SV.serial okW (sortL ordS xs) key2) (i) ++ staleB (pairsO os) 50 (grpF SV.serial okW (sortL ordS xs) key2)[i]), ItA r49 b48 (fun n : Int => .int .i64 n) (fun v : Value => v) (mvF (keysF SV.serial okW (sortL ordS xs)) val2) (done2 ++ [(key2, val2 key2)]) left3, Atom.ro (FamA (keysF SV.serial okW (sortL ordS xs)) (fun j => OSl 32 (val2 j) 6 encSV (grpF SV.serial okW (sortL ordS xs) j))), OSl 32 u22 6 encSV (sortL ordS xs), MapA b26 (fun n : Int => .int .i64 n) (fun n : Int => .int .i64 n) (sinM (pairsO (os))) z, Atom.ro (Cel b8 72 [.map (some b26)]), DefsA [bd]]⟩, by dsimp only; omega⟩
           | exact ⟨((j + 1) + 1, bv7), S.nil.cons S 56 rfl, (((((((S.nil.cons S 6 rfl).cons S 2 rfl).cons S 8 rfl).cons S 11 rfl).cons S 49 rfl).cons S 15 rfl).cons S 54 rfl).cons S 55 rfl, ⟨by dsimp only; omega, by dsimp only; rw [wayBs_s, hw1, ← List.append_assoc, ← List.append_assoc]; exact H.take [Sl (val2 key2) 6 encSV (grpF SV.serial okW (sortL ordS xs) key2), Cel b11 76 [bv7], OSl 45 bv7 6 encBV (B1 ++ (done2).flatMap (fun p : Int × Value => wayB (pairsO os) 50 (grpF SV.serial okW (sortL ordS xs) p.1)) ++ wayBs (pairsO os) 50 (grpF SV.serial okW (sortL ordS xs) key2) (j + 1) ++ staleB (pairsO os) 50 (grpF SV.serial okW (sortL ordS xs) key2)[j + 1] ++ [blameF 1 (grpF SV.serial okW (sortL ordS xs) key2)[j + 1] (grpF SV.serial okW (sortL ordS xs) key2)[j].gate (grpF SV.serial okW (sortL ordS xs) key2)[j].number]), ItA r49 b48 (fun n : Int => .int .i64 n) (fun v : Value => v) (mvF (keysF SV.serial okW (sortL ordS xs)) val2) (done2 ++ [(key2, val2 key2)]) left3, Atom.ro (FamA (keysF SV.serial okW (sortL ordS xs)) (fun j => OSl 32 (val2 j) 6 encSV (grpF SV.serial okW (sortL ordS xs) j))), OSl 32 u22 6 encSV (sortL ordS xs), MapA b26 (fun n : Int => .int .i64 n) (fun n : Int => .int .i64 n) (sinM (pairsO (os))) z, Atom.ro (Cel b8 72 [.map (some b26)]), DefsA [bd]]⟩, by dsimp only; omega⟩
           | exact ⟨((j + 1) + 1, bv7), S.nil.cons S 56 rfl, (((((((S.nil.cons S 6 rfl).cons S 2 rfl).cons S 8 rfl).cons S 11 rfl).cons S 49 rfl).cons S 15 rfl).cons S 54 rfl).cons S 55 rfl, ⟨by dsimp only; omega, by dsimp only; rw [wayBs_s, hw1, ← List.append_assoc, ← List.append_assoc]; exact H.take [Sl (val2 key2) 6 encSV (grpF SV.serial okW (sortL ordS xs) key2), Cel b11 76 [bv7], OSl 45 bv7 6 encBV (B1 ++ (done2).flatMap (fun p : Int × Value => wayB (pairsO os) 50 (grpF SV.serial okW (sortL ordS xs) p.1)) ++ wayBs (pairsO os) 50 (grpF SV.serial okW (sortL ordS xs) key2) (j + 1) ++ staleB (pairsO os) 50 (grpF SV.serial okW (sortL ordS xs) key2)[j + 1] ++ [blameF 2 (grpF SV.serial okW (sortL ordS xs) key2)[j + 1] (grpF SV.serial okW (sortL ordS xs) key2)[j].gate (grpF SV.serial okW (sortL ordS xs) key2)[j].number]), ItA r49 b48 (fun n : Int => .int .i64 n) (fun v : Value => v) (mvF (keysF SV.serial okW (sortL ordS xs)) val2) (done2 ++ [(key2, val2 key2)]) left3, Atom.ro (FamA (keysF SV.serial okW (sortL ordS xs)) (fun j => OSl 32 (val2 j) 6 encSV (grpF SV.serial okW (sortL ordS xs) j))), OSl 32 u22 6 encSV (sortL ordS xs), MapA b26 (fun n : Int => .int .i64 n) (fun n : Int => .int .i64 n) (sinM (pairsO (os))) z, Atom.ro (Cel b8 72 [.map (some b26)]), DefsA [bd]]⟩, by dsimp only; omega⟩
           | exact ⟨((j + 1) + 1, bv5), S.nil.cons S 56 rfl, (((((((S.nil.cons S 6 rfl).cons S 2 rfl).cons S 8 rfl).cons S 11 rfl).cons S 49 rfl).cons S 15 rfl).cons S 54 rfl).cons S 55 rfl, ⟨by dsimp only; omega, by dsimp only; rw [wayBs_s, hw1, ← List.append_assoc]; exact H.take [Sl (val2 key2) 6 encSV (grpF SV.serial okW (sortL ordS xs) key2), Cel b11 76 [bv5], OSl 45 bv5 6 encBV (B1 ++ (done2).flatMap (fun p : Int × Value => wayB (pairsO os) 50 (grpF SV.serial okW (sortL ordS xs) p.1)) ++ wayBs (pairsO os) 50 (grpF SV.serial okW (sortL ordS xs) key2) (j + 1) ++ staleB (pairsO os) 50 (grpF SV.serial okW (sortL ordS xs) key2)[j + 1]), ItA r49 b48 (fun n : Int => .int .i64 n) (fun v : Value => v) (mvF (keysF SV.serial okW (sortL ordS xs)) val2) (done2 ++ [(key2, val2 key2)]) left3, Atom.ro (FamA (keysF SV.serial okW (sortL ordS xs)) (fun j => OSl 32 (val2 j) 6 encSV (grpF SV.serial okW (sortL ordS xs) j))), OSl 32 u22 6 encSV (sortL ordS xs), MapA b26 (fun n : Int => .int .i64 n) (fun n : Int => .int .i64 n) (sinM (pairsO (os))) z, Atom.ro (Cel b8 72 [.map (some b26)]), DefsA [bd]]⟩, by dsimp only; omega⟩
          ·have h15p := h15; try simp only [DL] at h15p
           refine gsr ?_
           refine gy rfl rfl rfl S (y_faddrb rfl Ffo32_1 S rfl) fun a S => ?_
           refine gy rfl rfl rfl S (y_load rfl Fsca3 S H rfl rfl) fun a S => ?_
           refine gy rfl rfl rfl S (y_faddrb rfl Ffo32_1 S rfl) fun a S => ?_
           refine gy rfl rfl rfl S (y_load rfl Fsca3 S H rfl rfl) fun a S => ?_
           refine gy rfl rfl rfl S (y_bin rfl S rfl rfl rfl) fun a S => ?_
           refine gnt ?_
           have S := (((((((((((S.nil.cons S 6 rfl).cons S 2 rfl).cons S 8 rfl).cons S 11 rfl).cons S 49 rfl).cons S 15 rfl).cons S 54 rfl).cons S 55 rfl).cons S 56 rfl).cons S 17 rfl).cons S 19 rfl).cons S 116 rfl
           refine c_if S rfl (fun h16 => ?_) (fun h16 => ?_)
           ·have h16p := h16; try simp only [DL] at h16p
            have hw1 := wayB1_d (g := pairsO os) (st := 50) hil hk1 hkj (by exact h15p) (by exact h16p)
            refine g_region ?_
            refine gy rfl rfl rfl S (y_load0 rfl S H rfl (by exact Fagg32)) fun a S => ?_
            refine gy rfl rfl rfl S (y_faddrb rfl Ffo32_0 S rfl) fun a S => ?_
            refine gy rfl rfl rfl S (y_load rfl Fsca3 S H rfl rfl) fun a S => ?_
            refine gy rfl rfl rfl S (y_faddrb rfl Ffo32_1 S rfl) fun a S => ?_
            refine gy rfl rfl rfl S (y_load rfl Fsca3 S H rfl rfl) fun a S => ?_
            refine wl_of (op_call (wn rfl) rfl rfl S (co_func rfl Tryz.call26 S rfl) (blame_spec b11 bv5 (B1 ++ (done2).flatMap (fun p : Int × Value => wayB (pairsO os) 50 (grpF SV.serial okW (sortL ordS xs) p.1)) ++ wayBs (pairsO os) 50 (grpF SV.serial okW (sortL ordS xs) key2) (j + 1) ++ staleB (pairsO os) 50 (grpF SV.serial okW (sortL ordS xs) key2)[j + 1]) 2 ((grpF SV.serial okW (sortL ordS xs) key2)[j].gate) ((grpF SV.serial okW (sortL ordS xs) key2)[j].number) (grpF SV.serial okW (sortL ordS xs) key2)[j + 1] _ (H.take [Cel b11 76 [bv5], OSl 45 bv5 6 encBV (B1 ++ (done2).flatMap (fun p : Int × Value => wayB (pairsO os) 50 (grpF SV.serial okW (sortL ordS xs) p.1)) ++ wayBs (pairsO os) 50 (grpF SV.serial okW (sortL ordS xs) key2) (j + 1) ++ staleB (pairsO os) 50 (grpF SV.serial okW (sortL ordS xs) key2)[j + 1]), Cel b17 32 (encSV (grpF SV.serial okW (sortL ordS xs) key2)[j + 1]), Sl (val2 key2) 6 encSV (grpF SV.serial okW (sortL ordS xs) key2), ItA r49 b48 (fun n : Int => .int .i64 n) (fun v : Value => v) (mvF (keysF SV.serial okW (sortL ordS xs)) val2) (done2 ++ [(key2, val2 key2)]) left3, Atom.ro (FamA (keysF SV.serial okW (sortL ordS xs)) (fun j => OSl 32 (val2 j) 6 encSV (grpF SV.serial okW (sortL ordS xs) j))), OSl 32 u22 6 encSV (sortL ordS xs), MapA b26 (fun n : Int => .int .i64 n) (fun n : Int => .int .i64 n) (sinM (pairsO (os))) z, Atom.ro (Cel b8 72 [.map (some b26)]), DefsA [bd]]) (by have h1 := hb48; have h2 := wayBs_len (pairsO os) 50 (grpF SV.serial okW (sortL ordS xs) key2) (j + 1); have h3 := staleB_len (pairsO os) 50 (grpF SV.serial okW (sortL ordS xs) key2)[j + 1]; simp only [List.length_append] at h1 ⊢; omega)) fun v w hc a S => ?_)
            obtain ⟨rfl, bv7, H⟩ := hc
            
            refine gl_nil ?_
            refine n_block ?_
            refine n_then ?_
            have S := ((((((((S.nil.cons S 6 rfl).cons S 2 rfl).cons S 8 rfl).cons S 11 rfl).cons S 49 rfl).cons S 15 rfl).cons S 54 rfl).cons S 55 rfl).cons S 56 rfl
            refine g_region ?_
            refine gy rfl rfl rfl S (y_add rfl S rfl rfl (by omega)) fun a S => ?_
            refine gm S fun a S => ?_
            refine gnt ?_
            first
            | exact ⟨(i + 1, bv), S.nil.cons S 56 rfl, (((((((S.nil.cons S 6 rfl).cons S 2 rfl).cons S 8 rfl).cons S 11 rfl).cons S 49 rfl).cons S 15 rfl).cons S 54 rfl).cons S 55 rfl, ⟨by dsimp only; omega, by dsimp only; rw [wayBs_s, hw1, List.append_nil]; exact H.take [Sl (val2 key2) 6 encSV (grpF SV.serial okW (sortL ordS xs) key2), Cel b11 76 [bv], OSl 45 bv 6 encBV (B1 ++ (done2).flatMap (fun p : Int × Value => wayB (pairsO os) 50 (grpF SV.serial okW (sortL ordS xs) p.1)) ++ wayBs (pairsO os) 50 (grpF SV.serial okW (sortL ordS xs) key2) (i)), ItA r49 b48 (fun n : Int => .int .i64 n) (fun v : Value => v) (mvF (keysF SV.serial okW (sortL ordS xs)) val2) (done2 ++ [(key2, val2 key2)]) left3, Atom.ro (FamA (keysF SV.serial okW (sortL ordS xs)) (fun j => OSl 32 (val2 j) 6 encSV (grpF SV.serial okW (sortL ordS xs) j))), OSl 32 u22 6 encSV (sortL ordS xs), MapA b26 (fun n : Int => .int .i64 n) (fun n : Int => .int .i64 n) (sinM (pairsO (os))) z, Atom.ro (Cel b8 72 [.map (some b26)]), DefsA [bd]]⟩, by dsimp only; omega⟩
            | exact ⟨(i + 1, bv5), S.nil.cons S 56 rfl, (((((((S.nil.cons S 6 rfl).cons S 2 rfl).cons S 8 rfl).cons S 11 rfl).cons S 49 rfl).cons S 15 rfl).cons S 54 rfl).cons S 55 rfl, ⟨by dsimp only; omega, by dsimp only; rw [wayBs_s, hw1, ← List.append_assoc]; exact H.take [Sl (val2 key2) 6 encSV (grpF SV.serial okW (sortL ordS xs) key2), Cel b11 76 [bv5], OSl 45 bv5 6 encBV (B1 ++ (done2).flatMap (fun p : Int × Value => wayB (pairsO os) 50 (grpF SV.serial okW (sortL ordS xs) p.1)) ++ wayBs (pairsO os) 50 (grpF SV.serial okW (sortL ordS xs) key2) (i) ++ staleB (pairsO os) 50 (grpF SV.serial okW (sortL ordS xs) key2)[i]), ItA r49 b48 (fun n : Int => .int .i64 n) (fun v : Value => v) (mvF (keysF SV.serial okW (sortL ordS xs)) val2) (done2 ++ [(key2, val2 key2)]) left3, Atom.ro (FamA (keysF SV.serial okW (sortL ordS xs)) (fun j => OSl 32 (val2 j) 6 encSV (grpF SV.serial okW (sortL ordS xs) j))), OSl 32 u22 6 encSV (sortL ordS xs), MapA b26 (fun n : Int => .int .i64 n) (fun n : Int => .int .i64 n) (sinM (pairsO (os))) z, Atom.ro (Cel b8 72 [.map (some b26)]), DefsA [bd]]⟩, by dsimp only; omega⟩
            | exact ⟨((j + 1) + 1, bv7), S.nil.cons S 56 rfl, (((((((S.nil.cons S 6 rfl).cons S 2 rfl).cons S 8 rfl).cons S 11 rfl).cons S 49 rfl).cons S 15 rfl).cons S 54 rfl).cons S 55 rfl, ⟨by dsimp only; omega, by dsimp only; rw [wayBs_s, hw1, ← List.append_assoc, ← List.append_assoc]; exact H.take [Sl (val2 key2) 6 encSV (grpF SV.serial okW (sortL ordS xs) key2), Cel b11 76 [bv7], OSl 45 bv7 6 encBV (B1 ++ (done2).flatMap (fun p : Int × Value => wayB (pairsO os) 50 (grpF SV.serial okW (sortL ordS xs) p.1)) ++ wayBs (pairsO os) 50 (grpF SV.serial okW (sortL ordS xs) key2) (j + 1) ++ staleB (pairsO os) 50 (grpF SV.serial okW (sortL ordS xs) key2)[j + 1] ++ [blameF 1 (grpF SV.serial okW (sortL ordS xs) key2)[j + 1] (grpF SV.serial okW (sortL ordS xs) key2)[j].gate (grpF SV.serial okW (sortL ordS xs) key2)[j].number]), ItA r49 b48 (fun n : Int => .int .i64 n) (fun v : Value => v) (mvF (keysF SV.serial okW (sortL ordS xs)) val2) (done2 ++ [(key2, val2 key2)]) left3, Atom.ro (FamA (keysF SV.serial okW (sortL ordS xs)) (fun j => OSl 32 (val2 j) 6 encSV (grpF SV.serial okW (sortL ordS xs) j))), OSl 32 u22 6 encSV (sortL ordS xs), MapA b26 (fun n : Int => .int .i64 n) (fun n : Int => .int .i64 n) (sinM (pairsO (os))) z, Atom.ro (Cel b8 72 [.map (some b26)]), DefsA [bd]]⟩, by dsimp only; omega⟩
            | exact ⟨((j + 1) + 1, bv7), S.nil.cons S 56 rfl, (((((((S.nil.cons S 6 rfl).cons S 2 rfl).cons S 8 rfl).cons S 11 rfl).cons S 49 rfl).cons S 15 rfl).cons S 54 rfl).cons S 55 rfl, ⟨by dsimp only; omega, by dsimp only; rw [wayBs_s, hw1, ← List.append_assoc, ← List.append_assoc]; exact H.take [Sl (val2 key2) 6 encSV (grpF SV.serial okW (sortL ordS xs) key2), Cel b11 76 [bv7], OSl 45 bv7 6 encBV (B1 ++ (done2).flatMap (fun p : Int × Value => wayB (pairsO os) 50 (grpF SV.serial okW (sortL ordS xs) p.1)) ++ wayBs (pairsO os) 50 (grpF SV.serial okW (sortL ordS xs) key2) (j + 1) ++ staleB (pairsO os) 50 (grpF SV.serial okW (sortL ordS xs) key2)[j + 1] ++ [blameF 2 (grpF SV.serial okW (sortL ordS xs) key2)[j + 1] (grpF SV.serial okW (sortL ordS xs) key2)[j].gate (grpF SV.serial okW (sortL ordS xs) key2)[j].number]), ItA r49 b48 (fun n : Int => .int .i64 n) (fun v : Value => v) (mvF (keysF SV.serial okW (sortL ordS xs)) val2) (done2 ++ [(key2, val2 key2)]) left3, Atom.ro (FamA (keysF SV.serial okW (sortL ordS xs)) (fun j => OSl 32 (val2 j) 6 encSV (grpF SV.serial okW (sortL ordS xs) j))), OSl 32 u22 6 encSV (sortL ordS xs), MapA b26 (fun n : Int => .int .i64 n) (fun n : Int => .int .i64 n) (sinM (pairsO (os))) z, Atom.ro (Cel b8 72 [.map (some b26)]), DefsA [bd]]⟩, by dsimp only; omega⟩
            | exact ⟨((j + 1) + 1, bv5), S.nil.cons S 56 rfl, (((((((S.nil.cons S 6 rfl).cons S 2 rfl).cons S 8 rfl).cons S 11 rfl).cons S 49 rfl).cons S 15 rfl).cons S 54 rfl).cons S 55 rfl, ⟨by dsimp only; omega, by dsimp only; rw [wayBs_s, hw1, ← List.append_assoc]; exact H.take [Sl (val2 key2) 6 encSV (grpF SV.serial okW (sortL ordS xs) key2), Cel b11 76 [bv5], OSl 45 bv5 6 encBV (B1 ++ (done2).flatMap (fun p : Int × Value => wayB (pairsO os) 50 (grpF SV.serial okW (sortL ordS xs) p.1)) ++ wayBs (pairsO os) 50 (grpF SV.serial okW (sortL ordS xs) key2) (j + 1) ++ staleB (pairsO os) 50 (grpF SV.serial okW (sortL ordS xs) key2)[j + 1]), ItA r49 b48 (fun n : Int => .int .i64 n) (fun v : Value => v) (mvF (keysF SV.serial okW (sortL ordS xs)) val2) (done2 ++ [(key2, val2 key2)]) left3, Atom.ro (FamA (keysF SV.serial okW (sortL ordS xs)) (fun j => OSl 32 (val2 j) 6 encSV (grpF SV.serial okW (sortL ordS xs) j))), OSl 32 u22 6 encSV (sortL ordS xs), MapA b26 (fun n : Int => .int .i64 n) (fun n : Int => .int .i64 n) (sinM (pairsO (os))) z, Atom.ro (Cel b8 72 [.map (some b26)]), DefsA [bd]]⟩, by dsimp only; omega⟩
           ·have h16p := h16; try simp only [DL] at h16p
            have hw1 := wayB1_e (g := pairsO os) (st := 50) hil hk1 hkj (by exact h15p) (by exact h16p)
            refine g_skip ?_
            refine n_block ?_
            refine n_then ?_
            refine g_region ?_
            refine gy rfl rfl rfl S (y_add rfl S rfl rfl (by omega)) fun a S => ?_
            refine gm S fun a S => ?_
            refine gnt ?_
            first
            | exact ⟨(i + 1, bv), S.nil.cons S 56 rfl, (((((((S.nil.cons S 6 rfl).cons S 2 rfl).cons S 8 rfl).cons S 11 rfl).cons S 49 rfl).cons S 15 rfl).cons S 54 rfl).cons S 55 rfl, ⟨by dsimp only; omega, by dsimp only; rw [wayBs_s, hw1, List.append_nil]; exact H.take [Sl (val2 key2) 6 encSV (grpF SV.serial okW (sortL ordS xs) key2), Cel b11 76 [bv], OSl 45 bv 6 encBV (B1 ++ (done2).flatMap (fun p : Int × Value => wayB (pairsO os) 50 (grpF SV.serial okW (sortL ordS xs) p.1)) ++ wayBs (pairsO os) 50 (grpF SV.serial okW (sortL ordS xs) key2) (i)), ItA r49 b48 (fun n : Int => .int .i64 n) (fun v : Value => v) (mvF (keysF SV.serial okW (sortL ordS xs)) val2) (done2 ++ [(key2, val2 key2)]) left3, Atom.ro (FamA (keysF SV.serial okW (sortL ordS xs)) (fun j => OSl 32 (val2 j) 6 encSV (grpF SV.serial okW (sortL ordS xs) j))), OSl 32 u22 6 encSV (sortL ordS xs), MapA b26 (fun n : Int => .int .i64 n) (fun n : Int => .int .i64 n) (sinM (pairsO (os))) z, Atom.ro (Cel b8 72 [.map (some b26)]), DefsA [bd]]⟩, by dsimp only; omega⟩
            | exact ⟨(i + 1, bv5), S.nil.cons S 56 rfl, (((((((S.nil.cons S 6 rfl).cons S 2 rfl).cons S 8 rfl).cons S 11 rfl).cons S 49 rfl).cons S 15 rfl).cons S 54 rfl).cons S 55 rfl, ⟨by dsimp only; omega, by dsimp only; rw [wayBs_s, hw1, ← List.append_assoc]; exact H.take [Sl (val2 key2) 6 encSV (grpF SV.serial okW (sortL ordS xs) key2), Cel b11 76 [bv5], OSl 45 bv5 6 encBV (B1 ++ (done2).flatMap (fun p : Int × Value => wayB (pairsO os) 50 (grpF SV.serial okW (sortL ordS xs) p.1)) ++ wayBs (pairsO os) 50 (grpF SV.serial okW (sortL ordS xs) key2) (i) ++ staleB (pairsO os) 50 (grpF SV.serial okW (sortL ordS xs) key2)[i]), ItA r49 b48 (fun n : Int => .int .i64 n) (fun v : Value => v) (mvF (keysF SV.serial okW (sortL ordS xs)) val2) (done2 ++ [(key2, val2 key2)]) left3, Atom.ro (FamA (keysF SV.serial okW (sortL ordS xs)) (fun j => OSl 32 (val2 j) 6 encSV (grpF SV.serial okW (sortL ordS xs) j))), OSl 32 u22 6 encSV (sortL ordS xs), MapA b26 (fun n : Int => .int .i64 n) (fun n : Int => .int .i64 n) (sinM (pairsO (os))) z, Atom.ro (Cel b8 72 [.map (some b26)]), DefsA [bd]]⟩, by dsimp only; omega⟩
            | exact ⟨((j + 1) + 1, bv7), S.nil.cons S 56 rfl, (((((((S.nil.cons S 6 rfl).cons S 2 rfl).cons S 8 rfl).cons S 11 rfl).cons S 49 rfl).cons S 15 rfl).cons S 54 rfl).cons S 55 rfl, ⟨by dsimp only; omega, by dsimp only; rw [wayBs_s, hw1, ← List.append_assoc, ← List.append_assoc]; exact H.take [Sl (val2 key2) 6 encSV (grpF SV.serial okW (sortL ordS xs) key2), Cel b11 76 [bv7], OSl 45 bv7 6 encBV (B1 ++ (done2).flatMap (fun p : Int × Value => wayB (pairsO os) 50 (grpF SV.serial okW (sortL ordS xs) p.1)) ++ wayBs (pairsO os) 50 (grpF SV.serial okW (sortL ordS xs) key2) (j + 1) ++ staleB (pairsO os) 50 (grpF SV.serial okW (sortL ordS xs) key2)[j + 1] ++ [blameF 1 (grpF SV.serial okW (sortL ordS xs) key2)[j + 1] (grpF SV.serial okW (sortL ordS xs) key2)[j].gate (grpF SV.serial okW (sortL ordS xs) key2)[j].number]), ItA r49 b48 (fun n : Int => .int .i64 n) (fun v : Value => v) (mvF (keysF SV.serial okW (sortL ordS xs)) val2) (done2 ++ [(key2, val2 key2)]) left3, Atom.ro (FamA (keysF SV.serial okW (sortL ordS xs)) (fun j => OSl 32 (val2 j) 6 encSV (grpF SV.serial okW (sortL ordS xs) j))), OSl 32 u22 6 encSV (sortL ordS xs), MapA b26 (fun n : Int => .int .i64 n) (fun n : Int => .int .i64 n) (sinM (pairsO (os))) z, Atom.ro (Cel b8 72 [.map (some b26)]), DefsA [bd]]⟩, by dsimp only; omega⟩
            | exact ⟨((j + 1) + 1, bv7), S.nil.cons S 56 rfl, (((((((S.nil.cons S 6 rfl).cons S 2 rfl).cons S 8 rfl).cons S 11 rfl).cons S 49 rfl).cons S 15 rfl).cons S 54 rfl).cons S 55 rfl, ⟨by dsimp only; omega, by dsimp only; rw [wayBs_s, hw1, ← List.append_assoc, ← List.append_assoc]; exact H.take [Sl (val2 key2) 6 encSV (grpF SV.serial okW (sortL ordS xs) key2), Cel b11 76 [bv7], OSl 45 bv7 6 encBV (B1 ++ (done2).flatMap (fun p : Int × Value => wayB (pairsO os) 50 (grpF SV.serial okW (sortL ordS xs) p.1)) ++ wayBs (pairsO os) 50 (grpF SV.serial okW (sortL ordS xs) key2) (j + 1) ++ staleB (pairsO os) 50 (grpF SV.serial okW (sortL ordS xs) key2)[j + 1] ++ [blameF 2 (grpF SV.serial okW (sortL ordS xs) key2)[j + 1] (grpF SV.serial okW (sortL ordS xs) key2)[j].gate (grpF SV.serial okW (sortL ordS xs) key2)[j].number]), ItA r49 b48 (fun n : Int => .int .i64 n) (fun v : Value => v) (mvF (keysF SV.serial okW (sortL ordS xs)) val2) (done2 ++ [(key2, val2 key2)]) left3, Atom.ro (FamA (keysF SV.serial okW (sortL ordS xs)) (fun j => OSl 32 (val2 j) 6 encSV (grpF SV.serial okW (sortL ordS xs) j))), OSl 32 u22 6 encSV (sortL ordS xs), MapA b26 (fun n : Int => .int .i64 n) (fun n : Int => .int .i64 n) (sinM (pairsO (os))) z, Atom.ro (Cel b8 72 [.map (some b26)]), DefsA [bd]]⟩, by dsimp only; omega⟩
            | exact ⟨((j + 1) + 1, bv5), S.nil.cons S 56 rfl, (((((((S.nil.cons S 6 rfl).cons S 2 rfl).cons S 8 rfl).cons S 11 rfl).cons S 49 rfl).cons S 15 rfl).cons S 54 rfl).cons S 55 rfl, ⟨by dsimp only; omega, by dsimp only; rw [wayBs_s, hw1, ← List.append_assoc]; exact H.take [Sl (val2 key2) 6 encSV (grpF SV.serial okW (sortL ordS xs) key2), Cel b11 76 [bv5], OSl 45 bv5 6 encBV (B1 ++ (done2).flatMap (fun p : Int × Value => wayB (pairsO os) 50 (grpF SV.serial okW (sortL ordS xs) p.1)) ++ wayBs (pairsO os) 50 (grpF SV.serial okW (sortL ordS xs) key2) (j + 1) ++ staleB (pairsO os) 50 (grpF SV.serial okW (sortL ordS xs) key2)[j + 1]), ItA r49 b48 (fun n : Int => .int .i64 n) (fun v : Value => v) (mvF (keysF SV.serial okW (sortL ordS xs)) val2) (done2 ++ [(key2, val2 key2)]) left3, Atom.ro (FamA (keysF SV.serial okW (sortL ordS xs)) (fun j => OSl 32 (val2 j) 6 encSV (grpF SV.serial okW (sortL ordS xs) j))), OSl 32 u22 6 encSV (sortL ordS xs), MapA b26 (fun n : Int => .int .i64 n) (fun n : Int => .int .i64 n) (sinM (pairsO (os))) z, Atom.ro (Cel b8 72 [.map (some b26)]), DefsA [bd]]⟩, by dsimp only; omega⟩
      ·have h4p := h4; try simp only [DL] at h4p
       obtain rfl : i = (grpF SV.serial okW (sortL ordS xs) key2).length := by omega
       refine g_exit ?_
       refine x_then (x_then (x_eq ?_))
       refine n_block ?_
       refine n_then ?_
       have e : B1 ++ (done2 ++ [(key2, val2 key2)]).flatMap (fun p : Int × Value => wayB (pairsO os) 50 (grpF SV.serial okW (sortL ordS xs) p.1)) = B1 ++ (done2).flatMap (fun p : Int × Value => wayB (pairsO os) 50 (grpF SV.serial okW (sortL ordS xs) p.1)) ++ wayBs (pairsO os) 50 (grpF SV.serial okW (sortL ordS xs) key2) ((grpF SV.serial okW (sortL ordS xs) key2).length) := by rw [List.flatMap_append, ← List.append_assoc]; simp [wayB]
       rw [← e] at H
       exact ⟨(done2 ++ [(key2, val2 key2)], left3, bv), S.nil, ((((S.nil.cons S 6 rfl).cons S 2 rfl).cons S 8 rfl).cons S 11 rfl).cons S 49 rfl, H.take [ItA r49 b48 (fun n : Int => .int .i64 n) (fun v : Value => v) (mvF (keysF SV.serial okW (sortL ordS xs)) val2) (done2 ++ [(key2, val2 key2)]) left3, Cel b11 76 [bv], OSl 45 bv 6 encBV (B1 ++ (done2 ++ [(key2, val2 key2)]).flatMap (fun p : Int × Value => wayB (pairsO os) 50 (grpF SV.serial okW (sortL ordS xs) p.1))), Atom.ro (FamA (keysF SV.serial okW (sortL ordS xs)) (fun j => OSl 32 (val2 j) 6 encSV (grpF SV.serial okW (sortL ordS xs) j))), OSl 32 u22 6 encSV (sortL ordS xs), MapA b26 (fun n : Int => .int .i64 n) (fun n : Int => .int .i64 n) (sinM (pairsO (os))) z, Atom.ro (Cel b8 72 [.map (some b26)]), DefsA [bd]], by dsimp only; omega⟩
     ·have h3p := h3; try simp only [DL] at h3p
      all_goals (
        exact absurd h3 (by simp))
  ·skip
   refine g_region ?_
   refine wl_of (op_nextY hz (wn rfl) rfl rfl rfl S H rfl fun key u left2 a w hlt hm hkd S H => ?_)
   obtain ⟨hks, rfl⟩ := mvF_some hm
   refine gy rfl rfl rfl S (y_extract rfl S rfl rfl) fun a S => ?_
   refine gnt ?_
   refine g_seq ?_
   refine c_if S rfl (fun h17 => ?_) (fun h17 => ?_)
   ·have h17p := h17; try simp only [DL] at h17p
    refine g_skip ?_
    refine n_then ?_
    refine g_block ?_
    refine gsr ?_
    refine gy rfl rfl rfl S ((y_entry rfl S H rfl)) fun a S => ?_
    refine gy rfl rfl rfl S (y_extract rfl S rfl rfl) fun a S => ?_
    refine ga S fun a S => ?_
    refine gnt ?_
    have S := ((((((S.nil.cons S 6 rfl).cons S 7 rfl).cons S 2 rfl).cons S 8 rfl).cons S 11 rfl).cons S 39 rfl).cons S 13 rfl
    refine g_region ?_
    refine gm S fun a S => ?_
    refine gy rfl rfl rfl S (y_makeFunc rfl S rfl rfl) fun a S => ?_
    have H := (famSl (H.front (Atom.ro (FamA (keysF SV.gate (fun _ => true) (sortL ordS xs)) (fun j => OSl 32 (val j) 6 encSV (grpF SV.gate (fun _ => true) (sortL ordS xs) j))))) hks).take [Sl (val key) 6 encSV (grpF SV.gate (fun _ => true) (sortL ordS xs) key), Cel b11 76 [bv], OSl 45 bv 6 encBV ((done).flatMap (fun p : Int × Value => gateB (grpF SV.gate (fun _ => true) (sortL ordS xs) p.1))), ItA r39 b38 (fun n : Int => .int .i64 n) (fun v : Value => v) (mvF (keysF SV.gate (fun _ => true) (sortL ordS xs)) val) (done ++ [(key, val key)]) left2, Atom.ro (FamA (keysF SV.gate (fun _ => true) (sortL ordS xs)) (fun j => OSl 32 (val j) 6 encSV (grpF SV.gate (fun _ => true) (sortL ordS xs) j))), OSl 32 u22 6 encSV (sortL ordS xs), MapA b26 (fun n : Int => .int .i64 n) (fun n : Int => .int .i64 n) (sinM (pairsO (os))) z, Atom.ro (Cel b8 72 [.map (some b26)]), DefsA [bd]]
    refine wl_of (op_call (wn rfl) rfl rfl S (co_func rfl Tryz.call25 S rfl) (gate_spec (val key) (grpF SV.gate (fun _ => true) (sortL ordS xs) key) b11 bv ((done).flatMap (fun p : Int × Value => gateB (grpF SV.gate (fun _ => true) (sortL ordS xs) p.1))) _ H hb38 (by have := grpF_len SV.gate (fun _ => true) (sortL ordS xs) key; omega) (List.length_pos_iff.2 (grpF_ne_nil hks)) (hnum key)) fun v w hc a S => ?_)
    obtain ⟨rfl, bv2, H⟩ := hc
    
    refine gl_nil ?_
    refine n_block ?_
    refine n_then ?_
    have e : (done ++ [(key, val key)]).flatMap (fun p : Int × Value => gateB (grpF SV.gate (fun _ => true) (sortL ordS xs) p.1)) = (done).flatMap (fun p : Int × Value => gateB (grpF SV.gate (fun _ => true) (sortL ordS xs) p.1)) ++ gateB (grpF SV.gate (fun _ => true) (sortL ordS xs) key) := by rw [List.flatMap_append]; simp
    rw [← e] at H
    exact ⟨(done ++ [(key, val key)], left2, bv2), S.nil, (((((S.nil.cons S 6 rfl).cons S 7 rfl).cons S 2 rfl).cons S 8 rfl).cons S 11 rfl).cons S 39 rfl, H.take [ItA r39 b38 (fun n : Int => .int .i64 n) (fun v : Value => v) (mvF (keysF SV.gate (fun _ => true) (sortL ordS xs)) val) (done ++ [(key, val key)]) left2, Cel b11 76 [bv2], OSl 45 bv2 6 encBV ((done ++ [(key, val key)]).flatMap (fun p : Int × Value => gateB (grpF SV.gate (fun _ => true) (sortL ordS xs) p.1))), Atom.ro (FamA (keysF SV.gate (fun _ => true) (sortL ordS xs)) (fun j => OSl 32 (val j) 6 encSV (grpF SV.gate (fun _ => true) (sortL ordS xs) j))), OSl 32 u22 6 encSV (sortL ordS xs), MapA b26 (fun n : Int => .int .i64 n) (fun n : Int => .int .i64 n) (sinM (pairsO (os))) z, Atom.ro (Cel b8 72 [.map (some b26)]), DefsA [bd]], by dsimp only; omega⟩
   ·have h17p := h17; try simp only [DL] at h17p
    all_goals (
      exact absurd h17 (by simp))
end Go.Proofs.YtienaifmlhcijaaGreatDoor
end
section
namespace Go.Proofs.YtienaifmlhcijaaGreatDoor
open Go Go.Gw
set_option linter.unusedVariables false
set_option linter.unusedSimpArgs false
theorem catO_eq {α : Type} (ps : List (Value × List α)) : catO ps = (ps.map (·.2)).flatten := by unfold catO; rw [List.flatMap_def]
theorem merge_t (v : Value) (ps : List (Value × List SV)) (w0 : World) (ls : List (List SV)) (hp : ps.map (·.2) = ls) (hv : IsSl w0 v 1 encRow ps) (hr : ∀ p ∈ ps, IsSl w0 p.1 6 encSV p.2) (hl : ls.flatten.length ≤ 1000) (hn : ls.flatten.Nodup) :
    Ret Tryz.prog 8 #[v] w0 (fun u w => HSat No w0 [OSl 32 u 6 encSV (sortL ordS ls.flatten)] w) := by
  have e : catO ps = ls.flatten := by rw [catO_eq, hp]
  have := merge_spec v ps w0 hv hr (by rw [e]; omega) (by rw [e]; exact hn)
  rwa [e] at this
theorem blames_t (v : Value) (xs : List SV) (ov : Value) (os : List OV) (w0 : World) (hv : IsSl w0 v 6 encSV xs) (ho : IsSl w0 ov 11 encO os) (hx : Own xs) (hs : sortL ordS xs = xs) (hl : xs.length ≤ 1000) :
    Ret Tryz.prog 9 #[v, ov, .int .i64 50] w0 (fun u w => HSat No w0 [OSl 45 u 6 encBV (sortL ordB (BL (pairsO os) 50 xs))] w) := by
  have := blames_spec v xs ov os w0 hv ho hx.nodup hl (fun g => by rw [hs]; exact hx.nums g) (by rw [hs]; exact BL_nodup hx _ _)
  rwa [hs] at this
theorem rows3 {α : Type} {ps : List (Value × List α)} {x y z : List α} (h : ps.map (·.2) = [x, y, z]) : ∃ v0 v1 v2, ps = [(v0, x), (v1, y), (v2, z)] := by
  match ps, h with
  | [(v0, x'), (v1, y'), (v2, z')], h => simp at h; obtain ⟨rfl, rfl, rfl⟩ := h; exact ⟨v0, v1, v2, rfl⟩
/-- foyer/foyerref38.SameBlames -/
theorem sameb_spec (va vb : Value) (xs ys : List BV) (w0 : World) (ha : IsSl w0 va 6 encBV xs) (hb : IsSl w0 vb 6 encBV ys) :
    Ret Tryz.prog 10 #[va, vb] w0 (fun u w => u = .bool (decide (xs = ys)) ∧ Ext w0 w) := by
 refine ret_of_wp (nt := 26) Tryz.func10 rfl rfl rfl (fl := [(0, va), (1, vb)]) rfl (fun a S => ?_)
 have H := HSat.start w0
 have H := H.ro0 (Sl va 6 encBV xs) rfl (ha)
 have H := H.ro0 (Sl vb 6 encBV ys) rfl (hb)
 have hl1 := ha.len
 have hl2 := hb.len
 refine gsr ?_
 refine ga S fun a S => ?_
 refine gnt ?_
 refine g_seq ?_
 refine gsr ?_
 refine gm S fun a S => ?_
 refine gy rfl rfl rfl S (y_lens rfl Tryz.underlying26 S H rfl) fun a S => ?_
 refine gm S fun a S => ?_
 refine gy rfl rfl rfl S (y_lens rfl Tryz.underlying26 S H rfl) fun a S => ?_
 refine gy rfl rfl rfl S (y_bin rfl S rfl rfl rfl) fun a S => ?_
 refine gnt ?_
 have S := (((S.nil.cons S 1 rfl).cons S 0 rfl).cons S 4 rfl).cons S 10 rfl
 refine c_if S rfl (fun h1 => ?_) (fun h1 => ?_)
 ·have h1p := h1; try simp only [DL] at h1p
  have hno : xs ≠ ys := fun e => by have h := h1p; rw [e] at h; exact h rfl
  refine gsr ?_
  refine ga S fun a S => ?_
  refine gnt ?_
  refine g_ret ?_
  refine r_then (ret1 rfl S rfl ?_)
  exact ⟨congrArg Value.bool (decide_eq_false hno).symm, H.toExt⟩
 ·have h1p := h1; try simp only [DL] at h1p
  have hll : xs.length = ys.length := by have h := h1p; omega
  refine g_skip ?_
  refine n_then ?_
  refine g_seq ?_
  refine gsr ?_
  refine ga S fun a S => ?_
  refine gnt ?_
  refine g_block ?_
  have SU := (S.nil.cons S 1 rfl).cons S 0 rfl
  refine loop_k (X := Nat) SU (fun k => [(5, .int .i64 (k : Int))]) (fun k => k ≤ xs.length ∧ xs.take k = ys.take k) (fun k => xs.length - k) 0 (S.nil.cons S 5 rfl) H (⟨by omega, rfl⟩) (fun k a w S H hi => ?_)
  simp only [List.cons_append, List.nil_append] at S hi
  obtain ⟨hk, htk⟩ := hi
  refine g_seq ?_
  refine gsr ?_
  refine gm S fun a S => ?_
  refine gm S fun a S => ?_
  refine gy rfl rfl rfl S (y_lens rfl Tryz.underlying26 S H rfl) fun a S => ?_
  refine gy rfl rfl rfl S (y_bin rfl S rfl rfl rfl) fun a S => ?_
  refine gnt ?_
  refine c_if S rfl (fun h2 => ?_) (fun h2 => ?_)
  ·have h2p := h2; try simp only [DL] at h2p
   refine g_skip ?_
   refine n_then ?_
   have S := ((S.nil.cons S 1 rfl).cons S 0 rfl).cons S 5 rfl
   refine g_seq ?_
   refine g_block ?_
   refine g_seq ?_
   refine region_st (loud := []) (tails := []) (free := []) [0, 1, 2, 3, 4, 5, 6, 7, 8] [] Fmo (by kernel_rfl) (by kernel_rfl) rfl H ?_
   refine m_w rfl rfl (wn rfl) rfl rfl S (fun w H => y_move rfl S rfl) fun a S => ?_
   refine m_w rfl rfl (wn rfl) rfl rfl S (fun w H => y_move rfl S rfl) fun a S => ?_
   refine m_w rfl rfl (wn rfl) rfl rfl S (fun w H => y_iaddrn rfl Tryz.underlying26 Fsiz45 S H rfl rfl (by first | assumption | omega | (simp only [LL]; omega))) fun a S => ?_
   refine m_loadsa _ rfl rfl (wn rfl) rfl rfl S rfl rfl (by exact Fagg45) (by first | assumption | omega | (simp only [LL]; omega)) fun a S => ?_
   refine m_w rfl rfl (wn rfl) rfl rfl S (fun w H => y_move rfl S rfl) fun a S => ?_
   refine m_w rfl rfl (wn rfl) rfl rfl S (fun w H => y_move rfl S rfl) fun a S => ?_
   refine m_w rfl rfl (wn rfl) rfl rfl S (fun w H => y_iaddrn rfl Tryz.underlying26 Fsiz45 S H rfl rfl (by first | assumption | omega | (simp only [LL]; omega))) fun a S => ?_
   refine m_loadsa _ rfl rfl (wn rfl) rfl rfl S rfl rfl (by exact Fagg45) (by first | assumption | omega | (simp only [LL]; omega)) fun a S => ?_
   refine m_w rfl rfl (wn rfl) rfl rfl S (fun w H => y_nea (bvEq _ _) rfl Feqg45 S rfl rfl) fun a S => ?_
   refine m_nil (fun w H => ?_)
   refine n_then ?_
   have S := (((S.nil.cons S 1 rfl).cons S 0 rfl).cons S 5 rfl).cons S 25 rfl
   refine c_if S rfl (fun h3 => ?_) (fun h3 => ?_)
   ·have h3p := h3; try simp only [DL] at h3p
    have hno : xs ≠ ys := fun e => by subst e; have h := h3; simp at h
    refine gsr ?_
    refine ga S fun a S => ?_
    refine gnt ?_
    refine g_ret ?_
    refine r_block (r_then (r_then (r_block (r_then (ret1 rfl S rfl ?_)))))
    exact ⟨congrArg Value.bool (decide_eq_false hno).symm, H.toExt⟩
   ·have h3p := h3; try simp only [DL] at h3p
    have hel : xs[k] = ys[k] := by have h := h3; simpa using h
    refine g_skip ?_
    refine n_block ?_
    refine n_then ?_
    refine g_region ?_
    refine gm S fun a S => ?_
    refine gy rfl rfl rfl S (y_add rfl S rfl rfl (by omega)) fun a S => ?_
    refine ga S fun a S => ?_
    refine gnt ?_
    refine ⟨k + 1, S.nil.cons S 5 rfl, (S.nil.cons S 1 rfl).cons S 0 rfl, H, ?_, ?_⟩
    · exact ⟨by omega, by rw [List.take_succ_eq_append_getElem (by omega), List.take_succ_eq_append_getElem (by omega), htk, hel]⟩
    · omega
  ·have h2p := h2; try simp only [DL] at h2p
   refine g_exit ?_
   refine x_then (x_then (x_eq ?_))
   refine n_then ?_
   have S := S.nil
   refine gsr ?_
   refine ga S fun a S => ?_
   refine gnt ?_
   refine g_ret ?_
   refine ret1 rfl S rfl ?_
   obtain rfl : k = xs.length := by omega
   rw [List.take_length, List.take_of_length_le (by omega)] at htk
   exact ⟨congrArg Value.bool (decide_eq_true htk).symm, H.toExt⟩
set_option maxHeartbeats 2000000 in
/-- foyer/foyertop.w09Admits -/
theorem admits_spec (w0 : World) (hT : Tabs w0) (hB : TabBs w0) :
    Ret Tryz.prog 6 #[] w0 (fun u w => u = .bool true ∧ Ext w0 w) := by
 refine ret_of_wp (nt := 77) Tryz.func6 rfl rfl rfl (fl := []) rfl (fun a S => ?_)
 have H := HSat.start w0
 have H := H.ro0 (TabB) rfl (hB)
 have H := H.ro0 (TabsA) rfl (hT)
 refine gsr ?_
 refine ga S fun a S => ?_
 refine gnt ?_
 refine gsr ?_
 refine gy rfl rfl rfl S (y_buildf rfl Fbld50 S rfl (idx := [0]) rfl (cs := [_, _, _, _]) rfl) fun a S => ?_
 refine gy rfl rfl rfl S (y_buildf rfl Fbld50 S rfl (idx := [0, 1]) rfl (cs := [_, _, _, _]) rfl) fun a S => ?_
 refine gy rfl rfl rfl S (y_buildf rfl Fbld50 S rfl (idx := [0]) rfl (cs := [_, _, _, _]) rfl) fun a S => ?_
 refine gy rfl rfl rfl S (y_buildf rfl Fbld50 S rfl (idx := [0, 1]) rfl (cs := [_, _, _, _]) rfl) fun a S => ?_
 refine gy rfl rfl rfl S (y_buildf rfl Fbld50 S rfl (idx := [0]) rfl (cs := [_, _, _, _]) rfl) fun a S => ?_
 refine gy rfl rfl rfl S (y_buildf rfl Fbld50 S rfl (idx := [0]) rfl (cs := [_, _, _, _]) rfl) fun a S => ?_
 refine gy rfl rfl rfl S (y_buildf rfl Fbld50 S rfl (idx := [0]) rfl (cs := [_, _, _, _]) rfl) fun a S => ?_
 refine gy rfl rfl rfl S (y_buildf rfl Fbld50 S rfl (idx := [0]) rfl (cs := [_, _, _, _]) rfl) fun a S => ?_
 refine gy rfl rfl rfl S (y_buildf rfl Fbld50 S rfl (idx := [0, 1, 3]) rfl (cs := [_, _, _, _]) rfl) fun a S => ?_
 refine gy rfl rfl rfl S (y_buildf rfl Fbld50 S rfl (idx := [0, 1]) rfl (cs := [_, _, _, _]) rfl) fun a S => ?_
 refine wl_of (op_buildSlice (wn rfl) rfl rfl rfl Tryz.underlying22 Finf50 S H (idx := [0, 1, 2, 3, 4, 5, 6, 7, 8, 9]) rfl rfl rfl (z := [.int .u8 0, .int .u8 0, .int .u8 0, .int .u8 0, .int .u8 0, .int .u8 0, .int .u8 0, .int .u8 0, .int .u8 0, .int .u8 0, .int .u8 0, .int .u8 0, .int .u8 0, .int .u8 0, .int .u8 0, .int .u8 0, .int .u8 0, .int .u8 0, .int .u8 0, .int .u8 0, .int .u8 0, .int .u8 0, .int .u8 0, .int .u8 0, .int .u8 0, .int .u8 0, .int .u8 0, .int .u8 0, .int .u8 0, .int .u8 0, .int .u8 0, .int .u8 0, .int .u8 0, .int .u8 0, .int .u8 0, .int .u8 0, .int .u8 0, .int .u8 0, .int .u8 0, .int .u8 0]) (by kernel_rfl) (cs := [.int .u8 1, .int .u8 0, .int .u8 0, .int .u8 0, .int .u8 1, .int .u8 1, .int .u8 0, .int .u8 0, .int .u8 2, .int .u8 0, .int .u8 0, .int .u8 0, .int .u8 2, .int .u8 1, .int .u8 0, .int .u8 0, .int .u8 0, .int .u8 0, .int .u8 0, .int .u8 0, .int .u8 1, .int .u8 0, .int .u8 0, .int .u8 0, .int .u8 3, .int .u8 0, .int .u8 0, .int .u8 0, .int .u8 2, .int .u8 0, .int .u8 0, .int .u8 0, .int .u8 3, .int .u8 1, .int .u8 0, .int .u8 100, .int .u8 2, .int .u8 1, .int .u8 0, .int .u8 0]) (by kernel_rfl) fun b17 a w S H => ?_)
 refine wl_of (op_call (wn rfl) rfl rfl S (co_func rfl Tryz.call7 S rfl) (gates_spec _ exE _ (H.slb b17 exE encE 4 rfl rfl (by intro x _; rfl) (by show 10 ≤ 9223372036854775807; decide)) H.tabs (tabB_of H) (by decide) (by decide)) fun v w hc a S => ?_)
 obtain ⟨lgv, ps, tv, wv, rfl, hps, H1⟩ := hc
 rw [ex_logs] at hps
 obtain ⟨al, hal, hinv, _⟩ := play_inv keyF 10 exE rfl (by decide)
 have hlg : (play keyF exE).logs = [[x1, x3, x4], [x2, x5], []] := ex_logs
 have hal5 : al.length = 5 := by rw [← hinv.perm.length_eq, hlg]; rfl
 rw [ex_gone, ex_want] at H1
 obtain ⟨v0, v1, v2, rfl⟩ := rows3 hps
 have H := H.call4 H1 rfl rfl rfl rfl
 refine gm S fun a S => ?_
 refine gy rfl rfl rfl S (y_extract rfl S rfl rfl) fun a S => ?_
 refine gy rfl rfl rfl S (y_extract rfl S rfl rfl) fun a S => ?_
 refine gy rfl rfl rfl S (y_extract rfl S rfl rfl) fun a S => ?_
 refine ga S fun a S => ?_
 refine ga S fun a S => ?_
 refine ga S fun a S => ?_
 refine gnt ?_
 have S := (((S.nil.cons S 0 rfl).cons S 1 rfl).cons S 2 rfl).cons S 3 rfl
 refine gsr ?_
 refine gm S fun a S => ?_
 refine wl_of (op_call (wn rfl) rfl rfl S (co_func rfl Tryz.call8 S rfl) (merge_t lgv [(v0, [x1, x3, x4]), (v1, [x2, x5]), (v2, [])] _ (play keyF exE).logs (by rw [hlg]; rfl) (H.sl lgv) (H.rws 32 _) (by rw [hinv.perm.length_eq]; omega) (hinv.perm.nodup_iff.2 hinv.own.nodup)) fun u23 w hc a S => ?_)
 have H1 := hc
 rw [hinv.merged] at H1
 have H := H.call1 H1 rfl
 have H := (H.front (RowsA 32 6 encSV [(v0, [x1, x3, x4]), (v1, [x2, x5]), (v2, [])])).unfold
 simp only [rowsL, List.map_cons, List.map_nil, List.cons_append, List.nil_append] at H
 refine ga S fun a S => ?_
 refine gnt ?_
 refine g_seq ?_
 refine gsr ?_
 refine gm S fun a S => ?_
 refine gy rfl rfl rfl S ((y_lens rfl Tryz.underlying29 S H rfl)) fun a S => ?_
 refine gy rfl rfl rfl S (y_bin rfl S rfl rfl rfl) fun a S => ?_
 refine gm S fun a S => ?_
 refine' wl_or 3 27 rfl S H rfl rfl rfl rfl rfl rfl rfl (fun _ S => (wn rfl)) (fun h1 kk => ?yh1) (fun a w S H => ?_)
 case yh1 =>
  have h1p := h1; try simp only [DL] at h1p
  refine gz 27 h1 S rfl rfl rfl rfl rfl rfl (y_move rfl S rfl) fun a S => ?_
  refine gz 27 h1 S rfl rfl rfl rfl rfl rfl (y_lens rfl Tryz.underlying26 S H rfl) fun a S => ?_
  refine gz 27 h1 S rfl rfl rfl rfl rfl rfl (y_bin rfl S rfl rfl rfl) fun a S => ?_
  refine gy rfl rfl rfl S (y_or' rfl h1 S rfl rfl) fun a S => ?_
  exact kk _ _ (S.join 4 31 rfl rfl) H
 refine gm S fun a S => ?_
 refine' wl_or 5 32 rfl S H rfl rfl rfl rfl rfl rfl rfl (fun _ S => (wn rfl)) (fun h2 kk => ?yh2) (fun a w S H => ?_)
 case yh2 =>
  have h2p := h2; try simp only [DL] at h2p
  refine gz 32 h2 S rfl rfl rfl rfl rfl rfl (y_move rfl S rfl) fun a S => ?_
  refine gz 32 h2 S rfl rfl rfl rfl rfl rfl ((y_iaddrn (i := 0) rfl Tryz.underlying25 Fsiz42 S H rfl rfl (by rw [titL_len]; decide))) fun a S => ?_
  refine gz 32 h2 S rfl rfl rfl rfl rfl rfl (y_faddr rfl Ffo42_4 S rfl) fun a S => ?_
  refine gz 32 h2 S rfl rfl rfl rfl rfl rfl ((y_loadsf (u := .int .i64 6) tv rfl Fsca3 S H rfl (by rw [titL_len]; decide) (by rw [titL_at]; rfl))) fun a S => ?_
  refine gz 32 h2 S rfl rfl rfl rfl rfl rfl (y_bin rfl S rfl rfl rfl) fun a S => ?_
  refine gy rfl rfl rfl S (y_or' rfl h2 S rfl rfl) fun a S => ?_
  exact kk _ _ (S.join 6 38 rfl rfl) H
 refine gm S fun a S => ?_
 refine' wl_or 5 39 rfl S H rfl rfl rfl rfl rfl rfl rfl (fun _ S => (wn rfl)) (fun h3 kk => ?yh3) (fun a w S H => ?_)
 case yh3 =>
  have h3p := h3; try simp only [DL] at h3p
  refine gz 39 h3 S rfl rfl rfl rfl rfl rfl (y_move rfl S rfl) fun a S => ?_
  refine gz 39 h3 S rfl rfl rfl rfl rfl rfl ((y_iaddrn (i := 0) rfl Tryz.underlying24 Fsiz29 S H rfl rfl (by simp))) fun a S => ?_
  refine gz 39 h3 S rfl rfl rfl rfl rfl rfl ((y_loads (u := v0) lgv rfl Fsca29 S H rfl (by simp) rfl)) fun a S => ?_
  refine gz 39 h3 S rfl rfl rfl rfl rfl rfl (y_lens rfl Tryz.underlying29 S H rfl) fun a S => ?_
  refine gz 39 h3 S rfl rfl rfl rfl rfl rfl (y_bin rfl S rfl rfl rfl) fun a S => ?_
  refine gy rfl rfl rfl S (y_or' rfl h3 S rfl rfl) fun a S => ?_
  exact kk _ _ (S.join 6 45 rfl rfl) H
 refine gm S fun a S => ?_
 refine' wl_or 5 46 rfl S H rfl rfl rfl rfl rfl rfl rfl (fun _ S => (wn rfl)) (fun h4 kk => ?yh4) (fun a w S H => ?_)
 case yh4 =>
  have h4p := h4; try simp only [DL] at h4p
  refine gz 46 h4 S rfl rfl rfl rfl rfl rfl (y_move rfl S rfl) fun a S => ?_
  refine gz 46 h4 S rfl rfl rfl rfl rfl rfl ((y_iaddrn (i := 1) rfl Tryz.underlying24 Fsiz29 S H rfl rfl (by simp))) fun a S => ?_
  refine gz 46 h4 S rfl rfl rfl rfl rfl rfl ((y_loads (u := v1) lgv rfl Fsca29 S H rfl (by simp) rfl)) fun a S => ?_
  refine gz 46 h4 S rfl rfl rfl rfl rfl rfl (y_lens rfl Tryz.underlying29 S H rfl) fun a S => ?_
  refine gz 46 h4 S rfl rfl rfl rfl rfl rfl (y_bin rfl S rfl rfl rfl) fun a S => ?_
  refine gy rfl rfl rfl S (y_or' rfl h4 S rfl rfl) fun a S => ?_
  exact kk _ _ (S.join 6 52 rfl rfl) H
 refine gnt ?_
 have S := (((((S.nil.cons S 0 rfl).cons S 1 rfl).cons S 2 rfl).cons S 3 rfl).cons S 4 rfl).cons S 52 rfl
 refine c_if S rfl (fun h5 => ?_) (fun h5 => ?_)
 ·have h5p := h5; try simp only [DL] at h5p
  all_goals (
    exfalso
    have h := h5
    simp [hal5] at h)
 ·have h5p := h5; try simp only [DL] at h5p
  refine g_skip ?_
  refine n_then ?_
  refine gsr ?_
  refine gm S fun a S => ?_
  refine gm S fun a S => ?_
  refine wl_of (op_call (wn rfl) rfl rfl S (co_func rfl Tryz.call9 S rfl) (blames_t u23 al tv (titL [6, 0, 0, 0, 0]) _ (H.sl u23) (H.sl tv) hinv.own (sortS_id hinv.inc) (by omega)) fun u55 w hc a S => ?_)
  have H1 := hc
  have hpl := hinv.blames
  rw [ex_want] at hpl
  have hpe := titL_pairs (play keyF exE)
  rw [ex_gone] at hpe
  rw [hpe, List.perm_singleton.1 hpl] at H1
  have H := H.call1 H1 rfl
  refine ga S fun a S => ?_
  refine gnt ?_
  have S := (((S.nil.cons S 0 rfl).cons S 1 rfl).cons S 3 rfl).cons S 5 rfl
  refine gsr ?_
  refine gm S fun a S => ?_
  refine gm S fun a S => ?_
  refine wl_of (op_call (wn rfl) rfl rfl S (co_func rfl Tryz.call10 S rfl) (sameb_spec u55 wv [exB] [exB] _ (H.sl u55) (H.sl wv)) fun v w hc a S => ?_)
  obtain ⟨rfl, he⟩ := hc
  have H := H.ext he
  refine gm S fun a S => ?_
  refine' wl_and 7 59 rfl S H rfl rfl rfl rfl rfl rfl rfl (fun _ S => (wn rfl)) (fun h6 kk => ?yh6) (fun a w S H => ?_)
  case yh6 =>
   have h6p := h6; try simp only [DL] at h6p
   refine gz 59 h6 S rfl rfl rfl rfl rfl rfl (y_move rfl S rfl) fun a S => ?_
   refine gz 59 h6 S rfl rfl rfl rfl rfl rfl ((y_iaddrn (i := 0) rfl Tryz.underlying24 Fsiz29 S H rfl rfl (by simp))) fun a S => ?_
   refine gz 59 h6 S rfl rfl rfl rfl rfl rfl ((y_loads (u := v0) lgv rfl Fsca29 S H rfl (by simp) rfl)) fun a S => ?_
   refine gz 59 h6 S rfl rfl rfl rfl rfl rfl ((y_iaddrn (i := 2) rfl Tryz.underlying29 Fsiz32 S H rfl rfl (by simp))) fun a S => ?_
   refine gz 59 h6 S rfl rfl rfl rfl rfl rfl (y_faddr rfl Ffo32_4 S rfl) fun a S => ?_
   refine gz 59 h6 S rfl rfl rfl rfl rfl rfl ((y_loadsf (u := .int .i64 3) v0 rfl Fsca3 S H rfl (by simp) rfl)) fun a S => ?_
   refine gz 59 h6 S rfl rfl rfl rfl rfl rfl (y_bin rfl S rfl rfl rfl) fun a S => ?_
   refine gy rfl rfl rfl S (y_and' rfl h6 S rfl rfl) fun a S => ?_
   exact kk _ _ (S.join 8 67 rfl rfl) H
  refine gm S fun a S => ?_
  refine' wl_and 7 68 rfl S H rfl rfl rfl rfl rfl rfl rfl (fun _ S => (wn rfl)) (fun h7 kk => ?yh7) (fun a w S H => ?_)
  case yh7 =>
   have h7p := h7; try simp only [DL] at h7p
   refine gz 68 h7 S rfl rfl rfl rfl rfl rfl (y_move rfl S rfl) fun a S => ?_
   refine gz 68 h7 S rfl rfl rfl rfl rfl rfl ((y_iaddrn (i := 1) rfl Tryz.underlying24 Fsiz29 S H rfl rfl (by simp))) fun a S => ?_
   refine gz 68 h7 S rfl rfl rfl rfl rfl rfl ((y_loads (u := v1) lgv rfl Fsca29 S H rfl (by simp) rfl)) fun a S => ?_
   refine gz 68 h7 S rfl rfl rfl rfl rfl rfl ((y_iaddrn (i := 1) rfl Tryz.underlying29 Fsiz32 S H rfl rfl (by simp))) fun a S => ?_
   refine gz 68 h7 S rfl rfl rfl rfl rfl rfl (y_faddr rfl Ffo32_4 S rfl) fun a S => ?_
   refine gz 68 h7 S rfl rfl rfl rfl rfl rfl ((y_loadsf (u := .int .i64 2) v1 rfl Fsca3 S H rfl (by simp) rfl)) fun a S => ?_
   refine gz 68 h7 S rfl rfl rfl rfl rfl rfl (y_bin rfl S rfl rfl rfl) fun a S => ?_
   refine gy rfl rfl rfl S (y_and' rfl h7 S rfl rfl) fun a S => ?_
   exact kk _ _ (S.join 8 76 rfl rfl) H
  refine ga S fun a S => ?_
  refine gnt ?_
  have S := S.nil.cons S 0 rfl
  refine g_ret ?_
  refine ret1 rfl S rfl ?_
  exact ⟨congrArg Value.bool (by simp), H.toExt⟩
end Go.Proofs.YtienaifmlhcijaaGreatDoor
end
section
namespace Go.Proofs.YtienaifmlhcijaaGreatDoor
open Go Go.Gw
set_option linter.unusedVariables false
set_option linter.unusedSimpArgs false
theorem mem_step {α : Type} [DecidableEq α] {bl : List α} {q : Nat} {y : α} (h : q < bl.length) : (decide (y ∈ bl.take q) || decide (bl[q] = y)) = decide (y ∈ bl.take (q + 1)) := by
  rw [Bool.eq_iff_iff, Bool.or_eq_true, decide_eq_true_eq, decide_eq_true_eq, decide_eq_true_eq, List.take_succ_eq_append_getElem h, List.mem_append, List.mem_singleton]
  exact or_congr Iff.rfl eq_comm
set_option maxHeartbeats 2000000 in
/-- foyer/foyertop.TopBlamed -/
theorem blamed_law (v : Value) (es : List Ev) (w0 : World) (hv : IsSl w0 v 4 encE es) (hT : Tabs w0) (hB : TabBs w0) (hev : ∀ e ∈ es, e.kind < 256 ∧ e.gate < 256 ∧ e.title < 256 ∧ e.after < 256) :
    Ret Tryz.prog 4 #[v] w0 (fun u w => u = .bool true ∧ Ext w0 w) := by
 refine ret_of_wp (nt := 58) Tryz.func4 rfl rfl rfl (fl := [(0, v)]) rfl (fun a S => ?_)
 have H := HSat.start w0
 have H := H.ro0 (TabB) rfl (hB)
 have H := H.ro0 (TabsA) rfl (hT)
 have H := H.ro0 (Sl v 4 encE es) rfl (hv)
 have hlv := hv.len
 refine gsr ?_
 refine ga S fun a S => ?_
 refine gnt ?_
 refine gsr ?_
 refine wl_of (op_call (wn rfl) rfl rfl S (co_func rfl Tryz.call6 S rfl) (admits_spec _ H.tabs (tabB_of H)) fun v w hc a S => ?_)
 obtain ⟨rfl, he⟩ := hc
 have H := H.ext he
 refine ga S fun a S => ?_
 refine gnt ?_
 refine g_seq ?_
 refine gsr ?_
 refine gm S fun a S => ?_
 refine gy rfl rfl rfl S (y_lens rfl Tryz.underlying22 S H rfl) fun a S => ?_
 refine gy rfl rfl rfl S (y_bin rfl S rfl rfl rfl) fun a S => ?_
 refine gnt ?_
 refine c_if S rfl (fun h1 => ?_) (fun h1 => ?_)
 ·have h1p := h1; try simp only [DL] at h1p
  refine gsr ?_
  refine gm S fun a S => ?_
  refine ga S fun a S => ?_
  refine gnt ?_
  have S := ((S.nil.cons S 0 rfl).cons S 3 rfl).cons S 2 rfl
  refine g_ret ?_
  refine r_then (ret1 rfl S rfl ?_)
  exact ⟨rfl, H.toExt⟩
 ·have h1p := h1; try simp only [DL] at h1p
  have hes : es.length ≤ 40 := by have h := h1p; omega
  refine g_skip ?_
  refine n_then ?_
  have S := ((S.nil.cons S 0 rfl).cons S 2 rfl).cons S 3 rfl
  refine gsr ?_
  refine gm S fun a S => ?_
  refine wl_of (op_call (wn rfl) rfl rfl S (co_func rfl Tryz.call7 S rfl) (gates_spec v es _ (H.sl v) H.tabs (tabB_of H) hes hev) fun v w hc a S => ?_)
  obtain ⟨lgv, ps, tv, wv, rfl, hps, H1⟩ := hc
  obtain ⟨al, hal, hinv, hnow⟩ := play_inv keyF es.length es rfl (fun e he => (hev e he).2.2.2)
  have hsw := (play_small keyF es es.length (Nat.le_refl _)).2
  rw [List.take_length] at hsw
  obtain ⟨s, hs⟩ : ∃ s, s = play keyF es := ⟨_, rfl⟩
  rw [← hs] at H1 hps hinv hnow hsw
  have hm1 := hinv.m1
  have hll := hinv.perm.length_eq
  have H := H.call4 H1 rfl rfl rfl rfl
  refine gm S fun a S => ?_
  refine gy rfl rfl rfl S (y_extract rfl S rfl rfl) fun a S => ?_
  refine gy rfl rfl rfl S (y_extract rfl S rfl rfl) fun a S => ?_
  refine gy rfl rfl rfl S (y_extract rfl S rfl rfl) fun a S => ?_
  refine ga S fun a S => ?_
  refine ga S fun a S => ?_
  refine ga S fun a S => ?_
  refine gnt ?_
  have S := ((((S.nil.cons S 2 rfl).cons S 3 rfl).cons S 4 rfl).cons S 5 rfl).cons S 6 rfl
  refine gsr ?_
  refine gm S fun a S => ?_
  refine wl_of (op_call (wn rfl) rfl rfl S (co_func rfl Tryz.call8 S rfl) (merge_t lgv ps _ s.logs hps (H.sl lgv) (H.rws 32 ps) (by omega) (hinv.perm.nodup_iff.2 hinv.own.nodup)) fun u23 w hc a S => ?_)
  have H1 := hc
  rw [hinv.merged] at H1
  have H := H.call1 H1 rfl
  refine gm S fun a S => ?_
  refine wl_of (op_call (wn rfl) rfl rfl S (co_func rfl Tryz.call9 S rfl) (blames_t u23 al tv (titL s.gone) _ (H.sl u23) (H.sl tv) hinv.own (sortS_id hinv.inc) (by omega)) fun u25 w hc a S => ?_)
  have H1 := hc
  rw [titL_pairs] at H1
  obtain ⟨bl, hbl⟩ : ∃ b, b = sortL ordB (BL s.pairs 50 al) := ⟨_, rfl⟩
  have hbp := hinv.blames
  rw [← hbl] at H1 hbp
  have hbw := hbp.length_eq
  have H := H.call1 H1 rfl
  refine ga S fun a S => ?_
  refine gnt ?_
  have S := (((S.nil.cons S 2 rfl).cons S 3 rfl).cons S 6 rfl).cons S 7 rfl
  refine g_seq ?_
  refine gsr ?_
  refine gm S fun a S => ?_
  refine gy rfl rfl rfl S (y_lens rfl Tryz.underlying26 S H rfl) fun a S => ?_
  refine gm S fun a S => ?_
  refine gy rfl rfl rfl S (y_lens rfl Tryz.underlying26 S H rfl) fun a S => ?_
  refine gy rfl rfl rfl S (y_bin rfl S rfl rfl rfl) fun a S => ?_
  refine gnt ?_
  have S := ((((S.nil.cons S 2 rfl).cons S 3 rfl).cons S 6 rfl).cons S 7 rfl).cons S 30 rfl
  refine c_if S rfl (fun h2 => ?_) (fun h2 => ?_)
  ·have h2p := h2; try simp only [DL] at h2p
   all_goals (
     exfalso
     have h := h2p
     have := hbp.length_eq
     omega)
  ·have h2p := h2; try simp only [DL] at h2p
   refine g_skip ?_
   refine n_then ?_
   refine g_seq ?_
   refine gsr ?_
   refine ga S fun a S => ?_
   refine gnt ?_
   refine g_block ?_
   have SU := ((S.nil.cons S 3 rfl).cons S 6 rfl).cons S 7 rfl
   refine loop_k (X := Nat) SU (fun k => [(8, .int .i64 (k : Int))]) (fun k => k ≤ s.want.length) (fun k => s.want.length - k) 0 (S.nil.cons S 8 rfl) H (Nat.zero_le _) (fun k a w S H hi => ?_)
   simp only [List.cons_append, List.nil_append] at S hi
   have hk := hi
   refine g_seq ?_
   refine gsr ?_
   refine gm S fun a S => ?_
   refine gm S fun a S => ?_
   refine gy rfl rfl rfl S (y_lens rfl Tryz.underlying26 S H rfl) fun a S => ?_
   refine gy rfl rfl rfl S (y_bin rfl S rfl rfl rfl) fun a S => ?_
   refine gnt ?_
   refine c_if S rfl (fun h3 => ?_) (fun h3 => ?_)
   ·have h3p := h3; try simp only [DL] at h3p
    have hkl : k < s.want.length := by omega
    refine g_skip ?_
    refine n_then ?_
    have S := (((S.nil.cons S 3 rfl).cons S 6 rfl).cons S 7 rfl).cons S 8 rfl
    refine g_seq ?_
    refine g_block ?_
    refine gsr ?_
    refine ga S fun a S => ?_
    refine gnt ?_
    refine g_seq ?_
    refine gsr ?_
    refine ga S fun a S => ?_
    refine gnt ?_
    refine g_block ?_
    have SU := (((S.nil.cons S 3 rfl).cons S 6 rfl).cons S 7 rfl).cons S 8 rfl
    refine loop_k (X := Nat) SU (fun q => [(10, .int .i64 (q : Int)), (9, .bool (decide (s.want[k] ∈ bl.take q)))]) (fun q => q ≤ bl.length) (fun q => bl.length - q) 0 ((S.nil.cons S 9 (by show some (Value.bool false) = _; simp)).cons S 10 rfl) H (Nat.zero_le _) (fun q a w S H hi => ?_)
    simp only [List.cons_append, List.nil_append] at S hi
    have hq := hi
    refine g_seq ?_
    refine gsr ?_
    refine gm S fun a S => ?_
    refine gm S fun a S => ?_
    refine gy rfl rfl rfl S (y_lens rfl Tryz.underlying26 S H rfl) fun a S => ?_
    refine gy rfl rfl rfl S (y_bin rfl S rfl rfl rfl) fun a S => ?_
    refine gnt ?_
    refine c_if S rfl (fun h4 => ?_) (fun h4 => ?_)
    ·have h4p := h4; try simp only [DL] at h4p
     have hql : q < bl.length := by omega
     refine g_skip ?_
     refine n_then ?_
     have S := (((((S.nil.cons S 3 rfl).cons S 6 rfl).cons S 7 rfl).cons S 8 rfl).cons S 9 rfl).cons S 10 rfl
     refine g_seq ?_
     refine g_block ?_
     refine region_st (loud := []) (tails := []) (free := []) [0, 1, 2, 3, 4, 5, 6, 7, 8, 9, 10, 11, 12] [] Fmo (by kernel_rfl) (by kernel_rfl) rfl H ?_
     refine m_w rfl rfl (wn rfl) rfl rfl S (fun w H => y_move rfl S rfl) fun a S => ?_
     refine m_w rfl rfl (wn rfl) rfl rfl S (fun w H => y_move rfl S rfl) fun a S => ?_
     refine' m_orq [2, 3, 4, 5, 6, 7, 8, 9, 10] 44 S rfl rfl rfl rfl rfl rfl rfl rfl rfl (fun _ S => (wn rfl)) (fun h5 kk => ?yh5) (fun a S => ?_)
     case yh5 =>
      have h5p := h5; try simp only [DL] at h5p
      refine m_w rfl rfl (wg' 44 rfl rfl S rfl h5 rfl) rfl rfl S (fun w H => y_move rfl S rfl) fun a S => ?_
      refine m_w rfl rfl (wg' 44 rfl rfl S rfl h5 rfl) rfl rfl S (fun w H => y_move rfl S rfl) fun a S => ?_
      refine m_w rfl rfl (wg' 44 rfl rfl S rfl h5 rfl) rfl rfl S (fun w H => y_iaddrn rfl Tryz.underlying26 Fsiz45 S H rfl rfl (by first | assumption | omega | (simp only [LL]; omega))) fun a S => ?_
      refine m_loadsa _ rfl rfl (wg' 44 rfl rfl S rfl h5 rfl) rfl rfl S rfl rfl (by exact Fagg45) (by first | assumption | omega | (simp only [LL]; omega)) fun a S => ?_
      refine m_w rfl rfl (wg' 44 rfl rfl S rfl h5 rfl) rfl rfl S (fun w H => y_move rfl S rfl) fun a S => ?_
      refine m_w rfl rfl (wg' 44 rfl rfl S rfl h5 rfl) rfl rfl S (fun w H => y_move rfl S rfl) fun a S => ?_
      refine m_w rfl rfl (wg' 44 rfl rfl S rfl h5 rfl) rfl rfl S (fun w H => y_iaddrn rfl Tryz.underlying26 Fsiz45 S H rfl rfl (by first | assumption | omega | (simp only [LL]; omega))) fun a S => ?_
      refine m_loadsa _ rfl rfl (wg' 44 rfl rfl S rfl h5 rfl) rfl rfl S rfl rfl (by exact Fagg45) (by first | assumption | omega | (simp only [LL]; omega)) fun a S => ?_
      refine m_w rfl rfl (wg' 44 rfl rfl S rfl h5 rfl) rfl rfl S (fun w H => y_eqa (bvEq _ _) rfl Feqg45 S rfl rfl) fun a S => ?_
      refine m_w rfl rfl (wn rfl) rfl rfl S (fun w H => y_or' rfl h5 S rfl rfl) fun a S => ?_
      exact kk _ (S.join 10 54 rfl rfl)
     refine m_w rfl rfl (wn rfl) rfl rfl S (fun w H => y_assign rfl S rfl) fun a S => ?_
     refine m_nil (fun w H => ?_)
     refine n_block ?_
     refine n_then ?_
     have S := (((((S.nil.cons S 3 rfl).cons S 6 rfl).cons S 7 rfl).cons S 8 rfl).cons S 10 rfl).cons S 9 rfl
     refine g_region ?_
     refine gm S fun a S => ?_
     refine gy rfl rfl rfl S (y_add rfl S rfl rfl (by omega)) fun a S => ?_
     refine ga S fun a S => ?_
     refine gnt ?_
     rw [mem_step hql] at S
     exact ⟨q + 1, (S.nil.cons S 9 rfl).cons S 10 rfl, (((S.nil.cons S 3 rfl).cons S 6 rfl).cons S 7 rfl).cons S 8 rfl, H, by omega, by omega⟩
    ·have h4p := h4; try simp only [DL] at h4p
     obtain rfl : q = bl.length := by omega
     rw [List.take_length] at S
     refine g_exit ?_
     refine x_then (x_then (x_eq ?_))
     refine n_then ?_
     have S := ((((S.nil.cons S 3 rfl).cons S 6 rfl).cons S 7 rfl).cons S 8 rfl).cons S 9 rfl
     refine gsr ?_
     refine gm S fun a S => ?_
     refine gy rfl rfl rfl S (y_not rfl S rfl) fun a S => ?_
     refine gnt ?_
     refine c_if S rfl (fun h6 => ?_) (fun h6 => ?_)
     ·have h6p := h6; try simp only [DL] at h6p
      all_goals (
        exfalso
        have h := h6
        have h2 : s.want[k] ∈ bl := hbp.mem_iff.2 (List.getElem_mem hkl)
        simp [h2] at h)
     ·have h6p := h6; try simp only [DL] at h6p
      refine g_skip ?_
      refine n_block ?_
      refine n_then ?_
      refine g_region ?_
      refine gm S fun a S => ?_
      refine gy rfl rfl rfl S (y_add rfl S rfl rfl (by omega)) fun a S => ?_
      refine ga S fun a S => ?_
      refine gnt ?_
      refine ⟨k + 1, S.nil.cons S 8 rfl, ((S.nil.cons S 3 rfl).cons S 6 rfl).cons S 7 rfl, H, ?_, ?_⟩
      · omega
      · omega
   ·have h3p := h3; try simp only [DL] at h3p
    refine g_exit ?_
    refine x_then (x_then (x_eq ?_))
    refine n_then ?_
    have S := S.nil.cons S 3 rfl
    refine gsr ?_
    refine gm S fun a S => ?_
    refine ga S fun a S => ?_
    refine gnt ?_
    refine g_ret ?_
    refine ret1 rfl S rfl ?_
    exact ⟨rfl, H.toExt⟩
end Go.Proofs.YtienaifmlhcijaaGreatDoor
end
section
namespace Go.Proofs.YtienaifmlhcijaaGreatDoor
open Go.ChangeShapes Go.WideShapes Go.ChangeAt Go.RowKit Go.Gw
set_option linter.unusedVariables false
set_option linter.unusedSimpArgs false
theorem ownLaw : ownKnob Tryz.prog.godebug = none := by kernel_rfl
theorem laidOut : laidOutB Tryz.prog = true := by kernel_rfl
theorem u8b {n : Int} (h : (Lit.int .u8 n).wf = true) : 0 ≤ n ∧ n ≤ 255 := by
  have h : IntKind.u8.min ≤ n ∧ n ≤ IntKind.u8.max := by simpa [Lit.wf] using h
  exact ⟨h.1, h.2⟩
theorem readsU : ReadsAs Tryz.prog 5 (fun n : Int => [.int .u8 n]) (fun n => (Lit.int .u8 n).wf = true) := readsInt Tryz.underlying5
theorem readsE (W : World) : ReadsAt Tryz.prog W 50 encE (fun e => e.kind < 256 ∧ e.gate < 256 ∧ e.title < 256 ∧ e.after < 256) :=
  ReadsAt.mono (reads_struct (ts := [5, 5, 5, 5]) Tryz.underlying50 (by kernel_rfl) (readsL_cons readsU.at_ (readsL_cons readsU.at_ (readsL_cons readsU.at_ (readsL_cons readsU.at_ readsL_nil)))))
    (fun y => ⟨y.1.toNat, y.2.1.toNat, y.2.2.1.toNat, y.2.2.2.1.toNat⟩)
    (fun y h => by
      have h1 := u8b h.1
      have h2 := u8b h.2.1
      have h3 := u8b h.2.2.1
      have h4 := u8b h.2.2.2.1
      show [Value.int .u8 y.1, .int .u8 y.2.1, .int .u8 y.2.2.1, .int .u8 y.2.2.2.1] = [Value.int .u8 (y.1.toNat : Int), .int .u8 (y.2.1.toNat : Int), .int .u8 (y.2.2.1.toNat : Int), .int .u8 (y.2.2.2.1.toNat : Int)]
      rw [Int.toNat_of_nonneg h1.1, Int.toNat_of_nonneg h2.1, Int.toNat_of_nonneg h3.1, Int.toNat_of_nonneg h4.1])
    (fun y h => by
      have h1 := u8b h.1
      have h2 := u8b h.2.1
      have h3 := u8b h.2.2.1
      have h4 := u8b h.2.2.2.1
      dsimp only
      omega)
/-- a table that stands somewhere on the list -/
theorem tab_of_vars {P : Program} {W : World} {name : String} {k : IntKind} {zs : List Int} {rest : List (String × DataW Unit)} {ps : List MemPlace} {g : Nat} {t e : TypeId} {n : Nat}
    (hg : P.globalNamed name = some g) (hty : (P.globals[g]?).map (·.type) = some t) (ht : P.underlying t = some (.array n e)) (he : P.underlying e = some (.int k)) (hce : P.cellsOf e = 1) (hct : P.cellsOf t = n)
    (h : DataW.LaidVars P W ((name, Go.Lib.tabData k zs) :: rest) ps) : Go.Lib.TabIs P W name k zs ∧ ∃ q, DataW.LaidVars P W rest q := by
  obtain ⟨g', t', cs, fuel, p, q, hg', ht', hvar, hd, hr, _⟩ := h
  obtain rfl := Option.some.inj (hg.symm.trans hg')
  obtain rfl := Option.some.inj (hty.symm.trans ht')
  refine ⟨?_, q, hr⟩
  unfold Go.Lib.TabIs
  rw [hvar, ← Go.Lib.cells_of_tab ht he hce hct hd]
theorem rest_of_vars {P : Program} {W : World} {x : String × DataW Unit} {rest : List (String × DataW Unit)} {ps : List MemPlace} (h : DataW.LaidVars P W (x :: rest) ps) : ∃ q, DataW.LaidVars P W rest q := by
  obtain ⟨n, d⟩ := x
  obtain ⟨_, _, _, _, _, q, _, _, _, _, hr, _⟩ := h
  exact ⟨q, hr⟩
/-- a table's block -/
theorem block_of_tab {P : Program} {W : World} {name : String} {k : IntKind} {zs : List Int} {g : Nat} (hg : P.globalNamed name = some g) (h : Go.Lib.TabIs P W name k zs) : ∃ T0 fz, W.heap[g]? = some (.cells (zs.map fun z => Value.int k z).toArray T0 fz) := by
  unfold Go.Lib.TabIs World.var? at h
  rw [hg] at h
  simp only [Option.bind_some] at h
  split at h
  · rename_i cs T0 fz hb
    exact ⟨T0, fz, by rw [hb, Option.some.inj h]⟩
  · cases h
def hexZ : List Int := [48, 49, 50, 51, 52, 53, 54, 55, 56, 57, 97, 98, 99, 100, 101, 102]
def dbI : List Int := dbZ.map fun n : Nat => (n : Int)
theorem pow_data : (Rows.laid_internal_strconv_uint64pow10 : DataW Unit) = Go.Lib.tabData .u64 Go.Lib.pow10Tab := by kernel_rfl
theorem hex_data : (Rows.laid_foyer_digest_hex : DataW Unit) = Go.Lib.tabData .u8 hexZ := by kernel_rfl
theorem db_data : (Rows.laid_math_bits_deBruijn64tab : DataW Unit) = Go.Lib.tabData .u8 dbI := by kernel_rfl
theorem hex_vals : (hexZ.map fun z => Value.int .u8 z).toArray = hexTab.toArray := rfl
theorem db_vals : (dbI.map fun z => Value.int .u8 z).toArray = dbV.toArray := by unfold dbI dbV; rw [List.map_map]; rfl
theorem tabs_of {W : World} (h : laidMetH Tryz.prog Rows.topStalenessRow.laid W) : Tabs W ∧ TabBs W := by
  rw [MakeChecks.laidMetH_plain _ _ _ (by kernel_rfl)] at h
  obtain ⟨ps, h, _, _⟩ := h
  change DataW.LaidVars Tryz.prog W [("math/bits.deBruijn32tab", Rows.laid_math_bits_deBruijn32tab), ("math/bits.deBruijn64tab", Rows.laid_math_bits_deBruijn64tab), ("internal/strconv.uint64pow10", Rows.laid_internal_strconv_uint64pow10), ("unicode/utf8.acceptRanges", Rows.laid_unicode_utf8_acceptRanges), ("strconv.ErrRange", Rows.laid_strconv_ErrRange), ("strconv.ErrSyntax", Rows.laid_strconv_ErrSyntax), ("foyer/digest.hex", Rows.laid_foyer_digest_hex), ("unicode/utf8.first", Rows.laid_unicode_utf8_first)] ps at h
  obtain ⟨_, h⟩ := rest_of_vars h
  rw [db_data] at h
  obtain ⟨h0, _, h⟩ := tab_of_vars (g := 6) (t := 256) (by kernel_rfl) (by kernel_rfl) Tryz.underlying256 Tryz.underlying5 (by kernel_rfl) (by kernel_rfl) h
  rw [pow_data] at h
  obtain ⟨h1, _, h⟩ := tab_of_vars (g := 1) (t := 239) (by kernel_rfl) (by kernel_rfl) Tryz.underlying239 Tryz.underlying97 (by kernel_rfl) (by kernel_rfl) h
  obtain ⟨_, h⟩ := rest_of_vars h
  obtain ⟨_, h⟩ := rest_of_vars h
  obtain ⟨_, h⟩ := rest_of_vars h
  rw [hex_data] at h
  obtain ⟨h2, _, _⟩ := tab_of_vars (g := 0) (t := 207) (by kernel_rfl) (by kernel_rfl) Tryz.underlying207 Tryz.underlying5 (by kernel_rfl) (by kernel_rfl) h
  have b0 := block_of_tab (show Tryz.prog.globalNamed "math/bits.deBruijn64tab" = some 6 by kernel_rfl) h0
  have b2 := block_of_tab (show Tryz.prog.globalNamed "foyer/digest.hex" = some 0 by kernel_rfl) h2
  rw [db_vals] at b0
  rw [hex_vals] at b2
  exact ⟨⟨b2, h1⟩, b0⟩
end Go.Proofs.YtienaifmlhcijaaGreatDoor
end
