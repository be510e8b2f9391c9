/- The walks. No condition. -/
import Derived.Test.YtcgpbalpihkiiaaChecked
import Derived.Test.YtcgpbalpihkiiaaGwIns
import Derived.Test.YtcgpbalpihkiiaaFacts
import Derived.Test.YtcgpbalpihkiiaaPlain
import Derived.Test.YtcgpbalpihkiiaaW8
namespace Go.Proofs.Ytcgpbalpihkiiaa
open Go Go.Gw
set_option linter.unusedVariables false
set_option linter.unusedSimpArgs false
theorem hr1 : placeR (Bk.z) (ordr 1 50 true ⟨#[97, 110, 110]⟩) = (Trd.z, false, 0) := by kernel_rfl
theorem hr2 : placeR (placeS (Bk.z) (ordr 1 50 true ⟨#[97, 110, 110]⟩)) (ordr 2 40 true ⟨#[98, 111, 98]⟩) = (Trd.z, false, 0) := by kernel_rfl
theorem hr3 : placeR (placeS (placeS (Bk.z) (ordr 1 50 true ⟨#[97, 110, 110]⟩)) (ordr 2 40 true ⟨#[98, 111, 98]⟩)) (ordr 3 45 false ⟨#[99, 97, 114, 108]⟩) = (⟨2, 3, 40⟩, true, 0) := by kernel_rfl
theorem hr4 : placeR (placeS (placeS (placeS (Bk.z) (ordr 1 50 true ⟨#[97, 110, 110]⟩)) (ordr 2 40 true ⟨#[98, 111, 98]⟩)) (ordr 3 45 false ⟨#[99, 97, 114, 108]⟩)) (ordr 4 60 false ⟨#[97, 110, 110]⟩) = (Trd.z, false, 0) := by kernel_rfl
theorem hr5 : placeR (placeS (placeS (placeS (placeS (Bk.z) (ordr 1 50 true ⟨#[97, 110, 110]⟩)) (ordr 2 40 true ⟨#[98, 111, 98]⟩)) (ordr 3 45 false ⟨#[99, 97, 114, 108]⟩)) (ordr 4 60 false ⟨#[97, 110, 110]⟩)) (ordr 5 30 true ⟨#[98, 111, 98]⟩) = (⟨5, 4, 60⟩, true, 0) := by kernel_rfl
theorem hr6 : placeR (placeS (placeS (placeS (placeS (placeS (Bk.z) (ordr 1 50 true ⟨#[97, 110, 110]⟩)) (ordr 2 40 true ⟨#[98, 111, 98]⟩)) (ordr 3 45 false ⟨#[99, 97, 114, 108]⟩)) (ordr 4 60 false ⟨#[97, 110, 110]⟩)) (ordr 5 30 true ⟨#[98, 111, 98]⟩)) (ordr 2 30 true ⟨#[98, 111, 98]⟩) = (Trd.z, false, 9) := by kernel_rfl
set_option maxHeartbeats 4000000 in
/-- foyer/foyerlaw33.head -/
theorem head_spec (w0 : World) :
    Ret Try.prog 8 #[] w0 (fun u w => u = .bool true ∧ Ext w0 w) := by
 refine ret_of_wp (nt := 137) Try.func8 rfl rfl rfl (fl := []) rfl (fun a S => ?_)
 have H := HSat.start w0
 refine gsr ?_
 refine ga S fun a S => ?_
 refine gnt ?_
 refine gsr ?_
 refine wl_of (op_call (wn rfl) rfl rfl S (co_func rfl Try.call9 S rfl) (new_at _) fun v w hc a S => ?_)
 obtain ⟨b, mb, rfl, H1⟩ := hc
 obtain ⟨vv0, hvv0⟩ : ∃ vv0, vv0 = ((.slice none 0 0, .slice none 0 0) : Value × Value) := ⟨_, rfl⟩
 rw [← hvv0] at H1
 have H := H.call1 H1 rfl
 refine ga S fun a S => ?_
 refine gnt ?_
 refine gsr ?_
 refine gm S fun a S => ?_
 refine wl_of (op_call (wn rfl) rfl rfl S (co_func rfl Try.call22 S rfl) (order_spec _ _ _ _ _) fun v w hc a S => ?_)
 obtain ⟨rfl, he⟩ := hc
 have H := H.ext he
 refine wl_of (op_call (wn rfl) rfl rfl S (co_func rfl Try.call13 S rfl) (Ret.atE (x := BookA b mb (Bk.z) vv0) H (fun H => place_at (N := 0) (ordr 1 50 true ⟨#[97, 110, 110]⟩) inv_z (by omega) (by show ByteArray.size _ ≤ _; decide) H)) fun v w hc a S => ?_)
 obtain ⟨rfl, vv1, H⟩ := hc
 rw [hr1] at S
 refine gm S fun a S => ?_
 refine gy rfl rfl rfl S (y_extract rfl S rfl rfl) fun a S => ?_
 refine gy rfl rfl rfl S (y_extract rfl S rfl rfl) fun a S => ?_
 refine gy rfl rfl rfl S (y_extract rfl S rfl rfl) fun a S => ?_
 refine wl_of (op_alloc (wn rfl) rfl rfl rfl S H Fzer35 fun b2 a w S H => ?_)
 refine wl_of (op_storea (wn rfl) rfl rfl S H rfl rfl rfl Fsiz35 rfl (cs' := [_, _, _]) rfl fun a w S H => ?_)
 refine ga S fun a S => ?_
 refine ga S fun a S => ?_
 refine gnt ?_
 have S := (((S.nil.cons S 0 rfl).cons S 1 rfl).cons S 3 rfl).cons S 4 rfl
 refine gsr ?_
 refine gm S fun a S => ?_
 refine wl_of (op_call (wn rfl) rfl rfl S (co_func rfl Try.call22 S rfl) (order_spec _ _ _ _ _) fun v w hc a S => ?_)
 obtain ⟨rfl, he⟩ := hc
 have H := H.ext he
 refine wl_of (op_call (wn rfl) rfl rfl S (co_func rfl Try.call13 S rfl) (Ret.atE (x := BookA b mb (placeS (Bk.z) (ordr 1 50 true ⟨#[97, 110, 110]⟩)) vv1) H (fun H => place_at (N := 1) (ordr 2 40 true ⟨#[98, 111, 98]⟩) (inv_place inv_z _) (by omega) (by show ByteArray.size _ ≤ _; decide) H)) fun v w hc a S => ?_)
 obtain ⟨rfl, vv2, H⟩ := hc
 rw [hr2] at S
 refine gm S fun a S => ?_
 refine gy rfl rfl rfl S (y_extract rfl S rfl rfl) fun a S => ?_
 refine gy rfl rfl rfl S (y_extract rfl S rfl rfl) fun a S => ?_
 refine gy rfl rfl rfl S (y_extract rfl S rfl rfl) fun a S => ?_
 refine wl_of (op_alloc (wn rfl) rfl rfl rfl S H Fzer35 fun b5 a w S H => ?_)
 refine wl_of (op_storea (wn rfl) rfl rfl S H rfl rfl rfl Fsiz35 rfl (cs' := [_, _, _]) rfl fun a w S H => ?_)
 refine ga S fun a S => ?_
 refine ga S fun a S => ?_
 refine gnt ?_
 have S := (((((S.nil.cons S 0 rfl).cons S 1 rfl).cons S 3 rfl).cons S 4 rfl).cons S 6 rfl).cons S 7 rfl
 refine gsr ?_
 refine gm S fun a S => ?_
 refine wl_of (op_call (wn rfl) rfl rfl S (co_func rfl Try.call22 S rfl) (order_spec _ _ _ _ _) fun v w hc a S => ?_)
 obtain ⟨rfl, he⟩ := hc
 have H := H.ext he
 refine wl_of (op_call (wn rfl) rfl rfl S (co_func rfl Try.call13 S rfl) (Ret.atE (x := BookA b mb (placeS (placeS (Bk.z) (ordr 1 50 true ⟨#[97, 110, 110]⟩)) (ordr 2 40 true ⟨#[98, 111, 98]⟩)) vv2) H (fun H => place_at (N := 2) (ordr 3 45 false ⟨#[99, 97, 114, 108]⟩) (inv_place (inv_place inv_z _) _) (by omega) (by show ByteArray.size _ ≤ _; decide) H)) fun v w hc a S => ?_)
 obtain ⟨rfl, vv3, H⟩ := hc
 rw [hr3] at S
 refine gm S fun a S => ?_
 refine gy rfl rfl rfl S (y_extract rfl S rfl rfl) fun a S => ?_
 refine gy rfl rfl rfl S (y_extract rfl S rfl rfl) fun a S => ?_
 refine gy rfl rfl rfl S (y_extract rfl S rfl rfl) fun a S => ?_
 refine wl_of (op_alloc (wn rfl) rfl rfl rfl S H Fzer35 fun b8 a w S H => ?_)
 refine wl_of (op_storea (wn rfl) rfl rfl S H rfl rfl rfl Fsiz35 rfl (cs' := [_, _, _]) rfl fun a w S H => ?_)
 refine ga S fun a S => ?_
 refine ga S fun a S => ?_
 refine gnt ?_
 have S := ((((((((S.nil.cons S 0 rfl).cons S 1 rfl).cons S 3 rfl).cons S 4 rfl).cons S 6 rfl).cons S 7 rfl).cons S 8 rfl).cons S 9 rfl).cons S 10 rfl
 refine gsr ?_
 refine gm S fun a S => ?_
 refine wl_of (op_call (wn rfl) rfl rfl S (co_func rfl Try.call22 S rfl) (order_spec _ _ _ _ _) fun v w hc a S => ?_)
 obtain ⟨rfl, he⟩ := hc
 have H := H.ext he
 refine wl_of (op_call (wn rfl) rfl rfl S (co_func rfl Try.call13 S rfl) (Ret.atE (x := BookA b mb (placeS (placeS (placeS (Bk.z) (ordr 1 50 true ⟨#[97, 110, 110]⟩)) (ordr 2 40 true ⟨#[98, 111, 98]⟩)) (ordr 3 45 false ⟨#[99, 97, 114, 108]⟩)) vv3) H (fun H => place_at (N := 3) (ordr 4 60 false ⟨#[97, 110, 110]⟩) (inv_place (inv_place (inv_place inv_z _) _) _) (by omega) (by show ByteArray.size _ ≤ _; decide) H)) fun v w hc a S => ?_)
 obtain ⟨rfl, vv4, H⟩ := hc
 rw [hr4] at S
 refine gm S fun a S => ?_
 refine gy rfl rfl rfl S (y_extract rfl S rfl rfl) fun a S => ?_
 refine gy rfl rfl rfl S (y_extract rfl S rfl rfl) fun a S => ?_
 refine gy rfl rfl rfl S (y_extract rfl S rfl rfl) fun a S => ?_
 refine wl_of (op_alloc (wn rfl) rfl rfl rfl S H Fzer35 fun b11 a w S H => ?_)
 refine wl_of (op_storea (wn rfl) rfl rfl S H rfl rfl rfl Fsiz35 rfl (cs' := [_, _, _]) rfl fun a w S H => ?_)
 refine ga S fun a S => ?_
 refine ga S fun a S => ?_
 refine gnt ?_
 have S := ((((((((((S.nil.cons S 0 rfl).cons S 1 rfl).cons S 3 rfl).cons S 4 rfl).cons S 6 rfl).cons S 7 rfl).cons S 8 rfl).cons S 9 rfl).cons S 10 rfl).cons S 12 rfl).cons S 13 rfl
 refine gsr ?_
 refine gm S fun a S => ?_
 refine wl_of (op_call (wn rfl) rfl rfl S (co_func rfl Try.call22 S rfl) (order_spec _ _ _ _ _) fun v w hc a S => ?_)
 obtain ⟨rfl, he⟩ := hc
 have H := H.ext he
 refine wl_of (op_call (wn rfl) rfl rfl S (co_func rfl Try.call13 S rfl) (Ret.atE (x := BookA b mb (placeS (placeS (placeS (placeS (Bk.z) (ordr 1 50 true ⟨#[97, 110, 110]⟩)) (ordr 2 40 true ⟨#[98, 111, 98]⟩)) (ordr 3 45 false ⟨#[99, 97, 114, 108]⟩)) (ordr 4 60 false ⟨#[97, 110, 110]⟩)) vv4) H (fun H => place_at (N := 4) (ordr 5 30 true ⟨#[98, 111, 98]⟩) (inv_place (inv_place (inv_place (inv_place inv_z _) _) _) _) (by omega) (by show ByteArray.size _ ≤ _; decide) H)) fun v w hc a S => ?_)
 obtain ⟨rfl, vv5, H⟩ := hc
 rw [hr5] at S
 refine gm S fun a S => ?_
 refine gy rfl rfl rfl S (y_extract rfl S rfl rfl) fun a S => ?_
 refine gy rfl rfl rfl S (y_extract rfl S rfl rfl) fun a S => ?_
 refine gy rfl rfl rfl S (y_extract rfl S rfl rfl) fun a S => ?_
 refine wl_of (op_alloc (wn rfl) rfl rfl rfl S H Fzer35 fun b14 a w S H => ?_)
 refine wl_of (op_storea (wn rfl) rfl rfl S H rfl rfl rfl Fsiz35 rfl (cs' := [_, _, _]) rfl fun a w S H => ?_)
 refine ga S fun a S => ?_
 refine ga S fun a S => ?_
 refine gnt ?_
 have S := (((((((((((((S.nil.cons S 0 rfl).cons S 1 rfl).cons S 3 rfl).cons S 4 rfl).cons S 6 rfl).cons S 7 rfl).cons S 8 rfl).cons S 9 rfl).cons S 10 rfl).cons S 12 rfl).cons S 13 rfl).cons S 14 rfl).cons S 15 rfl).cons S 16 rfl
 refine gsr ?_
 refine gm S fun a S => ?_
 refine wl_of (op_call (wn rfl) rfl rfl S (co_func rfl Try.call22 S rfl) (order_spec _ _ _ _ _) fun v w hc a S => ?_)
 obtain ⟨rfl, he⟩ := hc
 have H := H.ext he
 refine wl_of (op_call (wn rfl) rfl rfl S (co_func rfl Try.call13 S rfl) (Ret.atE (x := BookA b mb (placeS (placeS (placeS (placeS (placeS (Bk.z) (ordr 1 50 true ⟨#[97, 110, 110]⟩)) (ordr 2 40 true ⟨#[98, 111, 98]⟩)) (ordr 3 45 false ⟨#[99, 97, 114, 108]⟩)) (ordr 4 60 false ⟨#[97, 110, 110]⟩)) (ordr 5 30 true ⟨#[98, 111, 98]⟩)) vv5) H (fun H => place_at (N := 5) (ordr 2 30 true ⟨#[98, 111, 98]⟩) (inv_place (inv_place (inv_place (inv_place (inv_place inv_z _) _) _) _) _) (by omega) (by show ByteArray.size _ ≤ _; decide) H)) fun v w hc a S => ?_)
 obtain ⟨rfl, vv6, H⟩ := hc
 rw [hr6] at S
 refine gm S fun a S => ?_
 refine gy rfl rfl rfl S (y_extract rfl S rfl rfl) fun a S => ?_
 refine gy rfl rfl rfl S (y_extract rfl S rfl rfl) fun a S => ?_
 refine gy rfl rfl rfl S (y_extract rfl S rfl rfl) fun a S => ?_
 refine wl_of (op_alloc (wn rfl) rfl rfl rfl S H Fzer35 fun b17 a w S H => ?_)
 refine wl_of (op_storea (wn rfl) rfl rfl S H rfl rfl rfl Fsiz35 rfl (cs' := [_, _, _]) rfl fun a w S H => ?_)
 refine ga S fun a S => ?_
 refine ga S fun a S => ?_
 refine gnt ?_
 have S := ((((((((((((((S.nil.cons S 0 rfl).cons S 1 rfl).cons S 3 rfl).cons S 4 rfl).cons S 6 rfl).cons S 7 rfl).cons S 8 rfl).cons S 9 rfl).cons S 10 rfl).cons S 12 rfl).cons S 13 rfl).cons S 14 rfl).cons S 15 rfl).cons S 16 rfl).cons S 19 rfl
 refine gsr ?_
 refine gm S fun a S => ?_
 refine gy rfl rfl rfl S (y_not rfl S rfl) fun a S => ?_
 refine gm S fun a S => ?_
 refine' wl_and 2 67 rfl S H rfl rfl rfl rfl rfl rfl rfl (fun _ S => (wn rfl)) (fun h1 kk => ?yh1) (fun a w S H => ?_)
 case yh1 =>
  have h1p := h1; try simp only [DL] at h1p
  refine gz 67 h1 S rfl rfl rfl rfl rfl rfl (y_move rfl S rfl) fun a S => ?_
  refine gz 67 h1 S rfl rfl rfl rfl rfl rfl (y_not rfl S rfl) fun a S => ?_
  refine gy rfl rfl rfl S (y_and' rfl h1 S rfl rfl) fun a S => ?_
  exact kk _ _ (S.join 3 70 rfl rfl) H
 refine gm S fun a S => ?_
 refine' wl_and 1 71 rfl S H rfl rfl rfl rfl rfl rfl rfl (fun _ S => (wn rfl)) (fun h2 kk => ?yh2) (fun a w S H => ?_)
 case yh2 =>
  have h2p := h2; try simp only [DL] at h2p
  refine gz 71 h2 S rfl rfl rfl rfl rfl rfl (y_move rfl S rfl) fun a S => ?_
  refine gy rfl rfl rfl S (y_and' rfl h2 S rfl rfl) fun a S => ?_
  exact kk _ _ (S.join 2 73 rfl rfl) H
 refine gm S fun a S => ?_
 refine' wl_and 2 74 rfl S H rfl rfl rfl rfl rfl rfl rfl (fun _ S => (wn rfl)) (fun h3 kk => ?yh3) (fun a w S H => ?_)
 case yh3 =>
  have h3p := h3; try simp only [DL] at h3p
  refine gz 74 h3 S rfl rfl rfl rfl rfl rfl (y_move rfl S rfl) fun a S => ?_
  refine gz 74 h3 S rfl rfl rfl rfl rfl rfl (y_not rfl S rfl) fun a S => ?_
  refine gy rfl rfl rfl S (y_and' rfl h3 S rfl rfl) fun a S => ?_
  exact kk _ _ (S.join 3 77 rfl rfl) H
 refine gm S fun a S => ?_
 refine' wl_and 1 78 rfl S H rfl rfl rfl rfl rfl rfl rfl (fun _ S => (wn rfl)) (fun h4 kk => ?yh4) (fun a w S H => ?_)
 case yh4 =>
  have h4p := h4; try simp only [DL] at h4p
  refine gz 78 h4 S rfl rfl rfl rfl rfl rfl (y_move rfl S rfl) fun a S => ?_
  refine gy rfl rfl rfl S (y_and' rfl h4 S rfl rfl) fun a S => ?_
  exact kk _ _ (S.join 2 80 rfl rfl) H
 refine gm S fun a S => ?_
 refine' wl_and 2 81 rfl S H rfl rfl rfl rfl rfl rfl rfl (fun _ S => (wn rfl)) (fun h5 kk => ?yh5) (fun a w S H => ?_)
 case yh5 =>
  have h5p := h5; try simp only [DL] at h5p
  refine gz 81 h5 S rfl rfl rfl rfl rfl rfl (y_move rfl S rfl) fun a S => ?_
  refine gz 81 h5 S rfl rfl rfl rfl rfl rfl (y_bin rfl S rfl rfl rfl) fun a S => ?_
  refine gy rfl rfl rfl S (y_and' rfl h5 S rfl rfl) fun a S => ?_
  exact kk _ _ (S.join 3 84 rfl rfl) H
 refine gm S fun a S => ?_
 refine' wl_and 2 85 rfl S H rfl rfl rfl rfl rfl rfl rfl (fun _ S => (wn rfl)) (fun h6 kk => ?yh6) (fun a w S H => ?_)
 case yh6 =>
  have h6p := h6; try simp only [DL] at h6p
  refine gz 85 h6 S rfl rfl rfl rfl rfl rfl (y_move rfl S rfl) fun a S => ?_
  refine gz 85 h6 S rfl rfl rfl rfl rfl rfl (y_bin rfl S rfl rfl rfl) fun a S => ?_
  refine gy rfl rfl rfl S (y_and' rfl h6 S rfl rfl) fun a S => ?_
  exact kk _ _ (S.join 3 88 rfl rfl) H
 refine gm S fun a S => ?_
 refine' wl_and 2 89 rfl S H rfl rfl rfl rfl rfl rfl rfl (fun _ S => (wn rfl)) (fun h7 kk => ?yh7) (fun a w S H => ?_)
 case yh7 =>
  have h7p := h7; try simp only [DL] at h7p
  refine gz 89 h7 S rfl rfl rfl rfl rfl rfl (y_move rfl S rfl) fun a S => ?_
  refine gz 89 h7 S rfl rfl rfl rfl rfl rfl (y_bin rfl S rfl rfl rfl) fun a S => ?_
  refine gy rfl rfl rfl S (y_and' rfl h7 S rfl rfl) fun a S => ?_
  exact kk _ _ (S.join 3 92 rfl rfl) H
 refine gm S fun a S => ?_
 refine' wl_and 2 93 rfl S H rfl rfl rfl rfl rfl rfl rfl (fun _ S => (wn rfl)) (fun h8 kk => ?yh8) (fun a w S H => ?_)
 case yh8 =>
  have h8p := h8; try simp only [DL] at h8p
  refine gz 93 h8 S rfl rfl rfl rfl rfl rfl (y_move rfl S rfl) fun a S => ?_
  refine gz 93 h8 S rfl rfl rfl rfl rfl rfl (y_bin rfl S rfl rfl rfl) fun a S => ?_
  refine gy rfl rfl rfl S (y_and' rfl h8 S rfl rfl) fun a S => ?_
  exact kk _ _ (S.join 3 96 rfl rfl) H
 refine gm S fun a S => ?_
 refine' wl_and 2 97 rfl S H rfl rfl rfl rfl rfl rfl rfl (fun _ S => (wn rfl)) (fun h9 kk => ?yh9) (fun a w S H => ?_)
 case yh9 =>
  have h9p := h9; try simp only [DL] at h9p
  refine gz 97 h9 S rfl rfl rfl rfl rfl rfl (y_move rfl S rfl) fun a S => ?_
  refine gz 97 h9 S rfl rfl rfl rfl rfl rfl (y_bin rfl S rfl rfl rfl) fun a S => ?_
  refine gy rfl rfl rfl S (y_and' rfl h9 S rfl rfl) fun a S => ?_
  exact kk _ _ (S.join 3 100 rfl rfl) H
 refine gm S fun a S => ?_
 refine' wl_and 2 101 rfl S H rfl rfl rfl rfl rfl rfl rfl (fun _ S => (wn rfl)) (fun h10 kk => ?yh10) (fun a w S H => ?_)
 case yh10 =>
  have h10p := h10; try simp only [DL] at h10p
  refine gz 101 h10 S rfl rfl rfl rfl rfl rfl (y_move rfl S rfl) fun a S => ?_
  refine gz 101 h10 S rfl rfl rfl rfl rfl rfl (y_bin rfl S rfl rfl rfl) fun a S => ?_
  refine gy rfl rfl rfl S (y_and' rfl h10 S rfl rfl) fun a S => ?_
  exact kk _ _ (S.join 3 104 rfl rfl) H
 refine ga S fun a S => ?_
 refine gnt ?_
 have S := ((((S.nil.cons S 0 rfl).cons S 1 rfl).cons S 8 rfl).cons S 14 rfl).cons S 20 rfl
 refine gsr ?_
 refine ga S fun a S => ?_
 refine gnt ?_
 refine gsr ?_
 refine gm S fun a S => ?_
 refine gm S fun a S => ?_
 refine wl_of (op_y (wg' 106 rfl rfl S rfl (by kernel_rfl) rfl) rfl rfl S (y_load0 rfl S H rfl (by exact Fagg35)) fun a S => ?_)
 refine wl_of (op_y (wg' 106 rfl rfl S rfl (by kernel_rfl) rfl) rfl rfl S (y_buildf rfl Fbld35 S rfl (idx := [0, 1, 2]) rfl (cs := [.int .i64 2, .int .i64 3, .int .i64 40]) (by kernel_rfl)) fun a S => ?_)
 refine wl_of (op_y (wg' 106 rfl rfl S rfl (by kernel_rfl) rfl) rfl rfl S (y_eqa (trdEq ⟨2, 3, 40⟩ ⟨2, 3, 40⟩) rfl Feqg35 S rfl rfl) fun a S => ?_)
 refine gy rfl rfl rfl S (y_and' rfl (by kernel_rfl) S rfl rfl) fun a S => ?_
 refine gm S fun a S => ?_
 refine wl_of (op_y (wg' 111 rfl rfl S rfl (by kernel_rfl) rfl) rfl rfl S (y_load0 rfl S H rfl (by exact Fagg35)) fun a S => ?_)
 refine wl_of (op_y (wg' 111 rfl rfl S rfl (by kernel_rfl) rfl) rfl rfl S (y_buildf rfl Fbld35 S rfl (idx := [0, 1, 2]) rfl (cs := [.int .i64 5, .int .i64 4, .int .i64 60]) (by kernel_rfl)) fun a S => ?_)
 refine wl_of (op_y (wg' 111 rfl rfl S rfl (by kernel_rfl) rfl) rfl rfl S (y_eqa (trdEq ⟨5, 4, 60⟩ ⟨5, 4, 60⟩) rfl Feqg35 S rfl rfl) fun a S => ?_)
 refine gy rfl rfl rfl S (y_and' rfl (by kernel_rfl) S rfl rfl) fun a S => ?_
 refine gm S fun a S => ?_
 refine wl_of (op_y (wg' 116 rfl rfl S rfl (by kernel_rfl) rfl) rfl rfl S (y_move rfl S rfl) fun a S => ?_)
 refine wl_of (op_call (wg' 116 rfl rfl S rfl (by kernel_rfl) rfl) rfl rfl S (co_func rfl Try.call16 S rfl) (orders_at (inv_place (inv_place (inv_place (inv_place (inv_place (inv_place inv_z _) _) _) _) _) _) (by omega) (H.front (BookA b mb (placeS (placeS (placeS (placeS (placeS (placeS (Bk.z) (ordr 1 50 true ⟨#[97, 110, 110]⟩)) (ordr 2 40 true ⟨#[98, 111, 98]⟩)) (ordr 3 45 false ⟨#[99, 97, 114, 108]⟩)) (ordr 4 60 false ⟨#[97, 110, 110]⟩)) (ordr 5 30 true ⟨#[98, 111, 98]⟩)) (ordr 2 30 true ⟨#[98, 111, 98]⟩)) vv6))) fun u118 w hc a S => ?_)
 have H1 := hc
 have H := H.call1 H1 rfl
 refine wl_of (op_y (wg' 116 rfl rfl S rfl (by kernel_rfl) rfl) rfl rfl S (y_lens rfl Try.underlying39 S H rfl) fun a S => ?_)
 refine wl_of (op_y (wg' 116 rfl rfl S rfl (by kernel_rfl) rfl) rfl rfl S (y_bin rfl S rfl rfl rfl) fun a S => ?_)
 refine gy rfl rfl rfl S (y_and' rfl (by kernel_rfl) S rfl rfl) fun a S => ?_
 refine gm S fun a S => ?_
 refine wl_of (op_y (wg' 122 rfl rfl S rfl (by kernel_rfl) rfl) rfl rfl S (y_move rfl S rfl) fun a S => ?_)
 refine wl_of (op_call (wg' 122 rfl rfl S rfl (by kernel_rfl) rfl) rfl rfl S (co_func rfl Try.call11 S rfl) (Ret.atE (x := BookA b mb (placeS (placeS (placeS (placeS (placeS (placeS (Bk.z) (ordr 1 50 true ⟨#[97, 110, 110]⟩)) (ordr 2 40 true ⟨#[98, 111, 98]⟩)) (ordr 3 45 false ⟨#[99, 97, 114, 108]⟩)) (ordr 4 60 false ⟨#[97, 110, 110]⟩)) (ordr 5 30 true ⟨#[98, 111, 98]⟩)) (ordr 2 30 true ⟨#[98, 111, 98]⟩)) vv6) H (fun H => cancel_at 1 ⟨#[98, 111, 98]⟩ (inv_place (inv_place (inv_place (inv_place (inv_place (inv_place inv_z _) _) _) _) _) _) (by omega) H)) fun v w hc a S => ?_)
 obtain ⟨rfl, vv7, H⟩ := hc
 
 refine wl_of (op_y (wg' 122 rfl rfl S rfl (by kernel_rfl) rfl) rfl rfl S (y_bin rfl S rfl rfl rfl) fun a S => ?_)
 refine gy rfl rfl rfl S (y_and' rfl (by kernel_rfl) S rfl rfl) fun a S => ?_
 refine gm S fun a S => ?_
 refine wl_of (op_y (wg' 127 rfl rfl S rfl (by kernel_rfl) rfl) rfl rfl S (y_move rfl S rfl) fun a S => ?_)
 refine wl_of (op_call (wg' 127 rfl rfl S rfl (by kernel_rfl) rfl) rfl rfl S (co_func rfl Try.call11 S rfl) (Ret.atE (x := BookA b mb (cancelS (placeS (placeS (placeS (placeS (placeS (placeS (Bk.z) (ordr 1 50 true ⟨#[97, 110, 110]⟩)) (ordr 2 40 true ⟨#[98, 111, 98]⟩)) (ordr 3 45 false ⟨#[99, 97, 114, 108]⟩)) (ordr 4 60 false ⟨#[97, 110, 110]⟩)) (ordr 5 30 true ⟨#[98, 111, 98]⟩)) (ordr 2 30 true ⟨#[98, 111, 98]⟩)) 1 ⟨#[98, 111, 98]⟩) vv7) H (fun H => cancel_at 9 ⟨#[98, 111, 98]⟩ (inv_cancel (inv_place (inv_place (inv_place (inv_place (inv_place (inv_place inv_z _) _) _) _) _) _) _ _) (by omega) H)) fun v w hc a S => ?_)
 obtain ⟨rfl, vv8, H⟩ := hc
 
 refine wl_of (op_y (wg' 127 rfl rfl S rfl (by kernel_rfl) rfl) rfl rfl S (y_bin rfl S rfl rfl rfl) fun a S => ?_)
 refine gy rfl rfl rfl S (y_and' rfl (by kernel_rfl) S rfl rfl) fun a S => ?_
 refine gm S fun a S => ?_
 refine wl_of (op_y (wg' 132 rfl rfl S rfl (by kernel_rfl) rfl) rfl rfl S (y_move rfl S rfl) fun a S => ?_)
 refine wl_of (op_call (wg' 132 rfl rfl S rfl (by kernel_rfl) rfl) rfl rfl S (co_func rfl Try.call11 S rfl) (cancel_nil _ _ _) fun v w hc a S => ?_)
 obtain ⟨rfl, he⟩ := hc
 have H := H.ext he
 refine wl_of (op_y (wg' 132 rfl rfl S rfl (by kernel_rfl) rfl) rfl rfl S (y_bin rfl S rfl rfl rfl) fun a S => ?_)
 refine gy rfl rfl rfl S (y_and' rfl (by kernel_rfl) S rfl rfl) fun a S => ?_
 refine ga S fun a S => ?_
 refine gnt ?_
 have S := S.nil.cons S 0 rfl
 refine g_ret ?_
 refine ret1 rfl S rfl ?_
 exact ⟨congrArg Value.bool (by kernel_rfl), H.toExt⟩
end Go.Proofs.Ytcgpbalpihkiiaa
