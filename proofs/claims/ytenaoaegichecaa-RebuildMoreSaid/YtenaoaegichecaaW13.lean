/- The walks. No condition. -/
import Derived.Test.YtenaoaegichecaaChecked
import Derived.Test.YtenaoaegichecaaGwBits
import Derived.Test.YtenaoaegichecaaFacts
import Derived.Test.YtenaoaegichecaaPlain
import Derived.Test.YtenaoaegichecaaPlainV
import Derived.Test.YtenaoaegichecaaW12
namespace Go.Proofs.Ytenaoaegichecaa
open Go Go.Gw
set_option linter.unusedVariables false
set_option linter.unusedSimpArgs false
set_option maxHeartbeats 4000000 in
/-- foyer/foyerref41.cover -/
theorem rcover_spec (ve vp : Value) (ps : List (Value × List Int)) (owner got : List Int) (r : Nat) (w0 : World) (hv : IsSl w0 ve 1 encRow ps) (hr : ∀ p ∈ ps, IsSl w0 p.1 1 encI p.2) (hp : IsSl w0 vp 1 encI got) (hvg : validG (gr ps) r = true) (hgl : got.length = ps.length) (hlow : ∀ j, -1 ≤ atI got j) (hgr : ∀ j : Nat, 0 ≤ atI got j → atI got j < r) (hown : ∀ n : Nat, atI owner n < (gr ps).length) (hc1 : ∀ j : Nat, 0 ≤ atI got j → atI owner (atI got j).toNat = j) (hc2 : ∀ n : Nat, 0 ≤ atI owner n → atI got (atI owner n).toNat = n) :
    Ret Try.prog 34 #[ve, vp, .int .i64 (r : Int)] w0 (fun u w => ∃ vl vr s, u = .agg #[vl, vr] ∧ RDone (gr ps) owner got s ∧ HSat No w0 [OSl 3 vl 1 encI (coverLeft (gr ps) s ps.length), OSl 3 vr 1 encI (coverRight s r)] w) := by
 refine ret_of_wp (nt := 103) Try.func34 rfl rfl rfl (fl := [(0, ve), (1, vp), (2, .int .i64 (r : Int))]) rfl (fun a S => ?_)
 have H := HSat.start w0
 have H := H.ro0 (Sl ve 1 encRow ps) rfl (hv)
 have H := H.ro0 (RowsS 1 encI ps) rfl (hr)
 have H := H.ro0 (Sl vp 1 encI got) rfl (hp)
 have hlv := hv.len
 have hlp := hp.len
 have hgn := gr_len ps
 have hvp := validG_parts hvg
 refine g_seq ?_
 refine g_region ?_
 refine wl_of (op_alloc (wn rfl) rfl rfl rfl S H Fzer27 fun b6 a w S H => ?_)
 refine gl_nil ?_
 refine n_then ?_
 refine g_seq ?_
 refine g_region ?_
 refine gy rfl rfl rfl S (y_move rfl S rfl) fun a S => ?_
 refine gy rfl rfl rfl S (y_lens rfl Try.underlying25 S H rfl) fun a S => ?_
 rw [hgl] at S
 refine wl_of (op_make (encB) (false) (wn rfl) rfl rfl rfl Try.underlying53 Finf4 rfl rfl S H rfl rfl rfl (by omega) (by omega) fun b17 a w S H => ?_)
 rw [← seenB_nil] at H
 refine gy rfl rfl rfl S (y_assign rfl S rfl) fun a S => ?_
 refine gl_nil ?_
 refine n_then ?_
 refine g_seq ?_
 refine g_region ?_
 refine gy rfl rfl rfl S (y_move rfl S rfl) fun a S => ?_
 refine wl_of (op_make (encB) (false) (wn rfl) rfl rfl rfl Try.underlying53 Finf4 rfl rfl S H rfl rfl rfl (by omega) (by omega) fun b19 a w S H => ?_)
 rw [← seenB_nil] at H
 refine gy rfl rfl rfl S (y_assign rfl S rfl) fun a S => ?_
 refine gl_nil ?_
 refine n_then ?_
 have S := ((((S.nil.cons S 1 rfl).cons S 0 rfl).cons S 6 rfl).cons S 7 rfl).cons S 8 rfl
 refine g_seq ?_
 refine g_seq ?_
 refine g_region ?_
 refine gy rfl rfl rfl S (y_assign rfl S rfl) fun a S => ?_
 refine gl_nil ?_
 refine n_then ?_
 refine g_block ?_
 have SU := ((((S.nil.cons S 1 rfl).cons S 0 rfl).cons S 6 rfl).cons S 7 rfl).cons S 8 rfl
 refine loopW (X := Bool × RS) SU (fun x => [(9, .bool x.1)]) (fun x w => CovI (gr ps) owner got x.2 ∧ (x.1 = false → ∀ i, i < ps.length → ¬ Hit got x.2 i) ∧ HSat No w0 [OSl 4 (.slice (some ⟨b17, 0, none⟩) ps.length ps.length) 1 encB (seenB ps.length (x.2.left)), OSl 4 (.slice (some ⟨b19, 0, none⟩) r r) 1 encB (seenB r (x.2.reached)), Cel b6 27 [.slice none 0 0, .slice none 0 0], Sl vp 1 encI got, RowsS 1 encI ps, Sl ve 1 encRow ps] w) (fun x => x.1.toNat + (ps.length - x.2.left.length)) (true, ⟨[], []⟩) (S.nil.cons S 9 rfl) (⟨covI_start _ _ _, fun h => (by cases h), H.take [OSl 4 (.slice (some ⟨b17, 0, none⟩) ps.length ps.length) 1 encB (seenB ps.length ([])), OSl 4 (.slice (some ⟨b19, 0, none⟩) r r) 1 encB (seenB r ([])), Cel b6 27 [.slice none 0 0, .slice none 0 0], Sl vp 1 encI got, RowsS 1 encI ps, Sl ve 1 encRow ps]⟩) (fun x a w S hW => ?_)
 simp only [List.cons_append, List.nil_append] at S
 clear H
 obtain ⟨ag, s⟩ := x
 obtain ⟨hI, hfin, H⟩ := hW
 dsimp only at S H hI hfin
 have hfew := hI.wf.few
 refine g_seq ?_
 refine g_seq ?_
 refine g_region ?_
 refine gy rfl rfl rfl S (y_move rfl S rfl) fun a S => ?_
 refine gl_nil ?_
 refine n_then ?_
 refine c_if S rfl (fun h1 => ?_) (fun h1 => ?_)
 ·have h1p := h1; try simp only [DL] at h1p
  obtain rfl : ag = true := h1
  refine g_skip ?_
  refine n_then ?_
  refine g_block ?_
  refine g_seq ?_
  refine g_region ?_
  refine gy rfl rfl rfl S (y_assign rfl S rfl) fun a S => ?_
  refine gl_nil ?_
  refine n_then ?_
  refine g_seq ?_
  refine g_region ?_
  refine gy rfl rfl rfl S (y_assign rfl S rfl) fun a S => ?_
  refine gl_nil ?_
  refine n_then ?_
  refine g_block ?_
  have SU := (((((S.nil.cons S 1 rfl).cons S 0 rfl).cons S 6 rfl).cons S 7 rfl).cons S 8 rfl).cons S 20 rfl
  refine loopW (X := Bool × Nat × RS) SU (fun x => [(9, .bool x.1), (10, .int .i64 (x.2.1 : Int))]) (fun x w => x.2.1 ≤ ps.length ∧ CovI (gr ps) owner got x.2.2 ∧ (x.1 = false → x.2.2 = s ∧ ∀ j, j < x.2.1 → ¬ Hit got x.2.2 j) ∧ (x.1 = true → s.left.length < x.2.2.left.length) ∧ HSat No w0 [OSl 4 (.slice (some ⟨b17, 0, none⟩) ps.length ps.length) 1 encB (seenB ps.length (x.2.2.left)), OSl 4 (.slice (some ⟨b19, 0, none⟩) r r) 1 encB (seenB r (x.2.2.reached)), Cel b6 27 [.slice none 0 0, .slice none 0 0], Sl vp 1 encI got, RowsS 1 encI ps, Sl ve 1 encRow ps] w) (fun x => ps.length - x.2.1) (false, 0, s) ((S.nil.cons S 10 rfl).cons S 9 rfl) (⟨by simp, hI, fun _ => ⟨rfl, fun j hj => by simp at hj⟩, fun h => (by cases h), H⟩) (fun x a w S hW => ?_)
  simp only [List.cons_append, List.nil_append] at S
  clear H
  obtain ⟨ag2, i, s2⟩ := x
  obtain ⟨hi, hI2, hno, hyes, H⟩ := hW
  dsimp only at S H hi hI2 hno hyes
  refine g_seq ?_
  refine g_seq ?_
  refine g_region ?_
  refine gy rfl rfl rfl S (y_move rfl S rfl) fun a S => ?_
  refine gy rfl rfl rfl S (y_move rfl S rfl) fun a S => ?_
  refine gy rfl rfl rfl S (y_lens rfl Try.underlying25 S H rfl) fun a S => ?_
  refine gy rfl rfl rfl S (y_bin rfl S rfl rfl rfl) fun a S => ?_
  refine gl_nil ?_
  refine n_then ?_
  refine c_if S rfl (fun h2 => ?_) (fun h2 => ?_)
  ·have h2p := h2; try simp only [DL] at h2p
   have hil : i < ps.length := by omega
   have hlw : -1 ≤ got.getD i (-1) := hlow i
   have hrg : 0 ≤ got.getD i (-1) → got.getD i (-1) < r := hgr i
   have hrw := gr_row ps hil
   have hrl := (hr _ (List.getElem_mem hil)).len
   refine g_skip ?_
   refine n_then ?_
   refine g_seq ?_
   refine g_block ?_
   refine g_seq ?_
   refine g_region ?_
   refine gy rfl rfl rfl S (y_move rfl S rfl) fun a S => ?_
   refine gy rfl rfl rfl S (y_move rfl S rfl) fun a S => ?_
   refine gy rfl rfl rfl S (y_iaddrn rfl Try.underlying53 Fsiz4 S H rfl rfl (by first | assumption | omega | (rw [seenB_len]; omega))) fun a S => ?_
   refine gy rfl rfl rfl S (y_loads _ rfl Fsca4 S H rfl (by first | assumption | omega | (rw [seenB_len]; omega)) rfl) fun a S => ?_
   refine gy rfl rfl rfl S (y_not rfl S rfl) fun a S => ?_
   refine gy rfl rfl rfl S (y_move rfl S rfl) fun a S => ?_
   refine' wl_and 14 32 rfl S H rfl rfl rfl rfl rfl rfl rfl (fun _ S => (wn rfl)) (fun h3 kk => ?yh3) (fun a w S H => ?_)
   case yh3 =>
    have h3p := h3; try simp only [DL] at h3p
    refine gz 32 h3 S rfl rfl rfl rfl rfl rfl (y_move rfl S rfl) fun a S => ?_
    refine gz 32 h3 S rfl rfl rfl rfl rfl rfl (y_move rfl S rfl) fun a S => ?_
    refine gz 32 h3 S rfl rfl rfl rfl rfl rfl (y_iaddrn rfl Try.underlying25 Fsiz3 S H rfl rfl (by first | assumption | omega | (rw [seenB_len]; omega))) fun a S => ?_
    refine gz 32 h3 S rfl rfl rfl rfl rfl rfl (y_loadsD _ (-1) rfl Fsca3 S H rfl (by omega) rfl) fun a S => ?_
    refine gz 32 h3 S rfl rfl rfl rfl rfl rfl (y_bin rfl S rfl rfl rfl) fun a S => ?_
    refine gz 32 h3 S rfl rfl rfl rfl rfl rfl (y_move rfl S rfl) fun a S => ?_
    refine' wl_or 7 38 rfl S H rfl rfl rfl rfl rfl rfl rfl (fun _ S => (wg' 32 rfl rfl S rfl h3 rfl)) (fun h4 kk => ?yh4) (fun a w S H => ?_)
    case yh4 =>
     have h4p := h4; try simp only [DL] at h4p
     refine gz 38 h4 S rfl rfl rfl rfl rfl rfl (y_move rfl S rfl) fun a S => ?_
     refine gz 38 h4 S rfl rfl rfl rfl rfl rfl (y_move rfl S rfl) fun a S => ?_
     refine gz 38 h4 S rfl rfl rfl rfl rfl rfl (y_move rfl S rfl) fun a S => ?_
     refine gz 38 h4 S rfl rfl rfl rfl rfl rfl (y_iaddrn rfl Try.underlying25 Fsiz3 S H rfl rfl (by first | assumption | omega | (rw [seenB_len]; omega))) fun a S => ?_
     refine gz 38 h4 S rfl rfl rfl rfl rfl rfl (y_loadsD _ (-1) rfl Fsca3 S H rfl (by omega) rfl) fun a S => ?_
     refine gz 38 h4 S rfl rfl rfl rfl rfl rfl (y_iaddrs rfl Try.underlying53 Fsiz4 S H rfl rfl (by first | assumption | omega | (rw [seenB_len]; omega))) fun a S => ?_
     refine gz 38 h4 S rfl rfl rfl rfl rfl rfl (y_loadsD _ false rfl Fsca4 S H rfl (by rw [seenB_len]; omega) rfl) fun a S => ?_
     refine gz 32 h3 S rfl rfl rfl rfl rfl rfl (y_or' rfl h4 S rfl rfl) fun a S => ?_
     exact kk _ _ (S.join 8 46 rfl rfl) H
    refine gy rfl rfl rfl S (y_and' rfl h3 S rfl rfl) fun a S => ?_
    exact kk _ _ (S.join 8 47 rfl rfl) H
   refine gl_nil ?_
   refine n_then ?_
   refine c_if S rfl (fun h5 => ?_) (fun h5 => ?_)
   ·have h5p := h5; try simp only [DL] at h5p
    have hx := h5
    rw [seenB_get] at hx
    simp only [Bool.and_eq_true, Bool.or_eq_true, Bool.not_eq_true', decide_eq_true_eq, decide_eq_false_iff_not] at hx
    have hh : Hit got s2 i := ⟨hx.1, by
      by_cases h0 : got.getD i (-1) < 0
      · exact .inl h0
      · right
        rcases hx.2 with h | h
        · exact absurd h h0
        · rw [seenB_getD _ _ _ (by omega), Int.toNat_of_nonneg (by omega)] at h; exact of_decide_eq_true h⟩
    have hI3 := covI_add hI2 (by omega) hh hc1
    rw [hrw] at hI3
    have hlt3 : s.left.length < ((i : Int) :: s2.left).length := by
      cases ag2 with
      | true => have := hyes rfl; simp only [List.length_cons]; omega
      | false => rw [(hno rfl).1]; simp
    refine g_seq ?_
    refine g_region ?_
    refine gy rfl rfl rfl S (y_move rfl S rfl) fun a S => ?_
    refine gy rfl rfl rfl S (y_move rfl S rfl) fun a S => ?_
    refine gy rfl rfl rfl S (y_iaddrn rfl Try.underlying53 Fsiz4 S H rfl rfl (by first | assumption | omega | (rw [seenB_len]; omega))) fun a S => ?_
    refine wl_of (op_store1 _ (true) (wn rfl) rfl rfl S H rfl rfl rfl rfl Fsiz4 (by first | assumption | omega | (rw [seenB_len]; omega)) (by exact rfl) fun a w S H => ?_)
    refine gl_nil ?_
    refine n_then ?_
    refine g_seq ?_
    refine g_region ?_
    refine gy rfl rfl rfl S (y_assign rfl S rfl) fun a S => ?_
    refine gl_nil ?_
    refine n_then ?_
    refine g_seq ?_
    refine g_region ?_
    refine gy rfl rfl rfl S (y_assign rfl S rfl) fun a S => ?_
    refine gl_nil ?_
    refine n_then ?_
    refine g_block ?_
    rw [seenB_set] at H
    have SU := (((((((((((((((((((((S.nil.cons S 1 rfl).cons S 0 rfl).cons S 6 rfl).cons S 7 rfl).cons S 8 rfl).cons S 20 rfl).cons S 10 rfl).cons S 21 rfl).cons S 22 rfl).cons S 23 rfl).cons S 24 rfl).cons S 27 rfl).cons S 28 rfl).cons S 29 rfl).cons S 30 rfl).cons S 31 rfl).cons S 32 rfl).cons S 47 rfl).cons S 48 rfl).cons S 49 rfl).cons S 50 rfl).cons S 9 rfl
    refine loopW (X := Nat) SU (fun q => [(11, .int .i64 (q : Int))]) (fun q w => q ≤ ps[i].2.length ∧ HSat No w0 [OSl 4 (.slice (some ⟨b17, 0, none⟩) ps.length ps.length) 1 encB (seenB ps.length ((i : Int) :: s2.left)), OSl 4 (.slice (some ⟨b19, 0, none⟩) r r) 1 encB (seenB r ((ps[i].2.take q).reverse ++ s2.reached)), Cel b6 27 [.slice none 0 0, .slice none 0 0], Sl vp 1 encI got, RowsS 1 encI ps, Sl ve 1 encRow ps] w) (fun q => ps[i].2.length - q) 0 (S.nil.cons S 11 rfl) (⟨by omega, H⟩) (fun q a w S hW => ?_)
    simp only [List.cons_append, List.nil_append] at S
    clear H
    obtain ⟨hq, H⟩ := hW
    refine g_seq ?_
    refine g_seq ?_
    refine g_region ?_
    refine gy rfl rfl rfl S (y_move rfl S rfl) fun a S => ?_
    refine gy rfl rfl rfl S (y_move rfl S rfl) fun a S => ?_
    refine gy rfl rfl rfl S (y_move rfl S rfl) fun a S => ?_
    refine gy rfl rfl rfl S (y_iaddrn rfl Try.underlying66 Fsiz25 S H rfl rfl (by first | assumption | omega | (rw [seenB_len]; omega))) fun a S => ?_
    refine gy rfl rfl rfl S (y_loads _ rfl Fsca25 S H rfl (by first | assumption | omega | (rw [seenB_len]; omega)) rfl) fun a S => ?_
    refine gy rfl rfl rfl S (y_lens rfl Try.underlying25 S H rfl) fun a S => ?_
    refine gy rfl rfl rfl S (y_bin rfl S rfl rfl rfl) fun a S => ?_
    refine gl_nil ?_
    refine n_then ?_
    refine c_if S rfl (fun h6 => ?_) (fun h6 => ?_)
    ·have h6p := h6; try simp only [DL] at h6p
     have hql : q < ps[i].2.length := by omega
     obtain ⟨n, hn⟩ : ∃ n : Nat, ps[i].2[q] = n := ⟨ps[i].2[q].toNat, by have := hvp.2.2.2 i ps[i].2[q] (by rw [hrw]; exact List.getElem_mem _); omega⟩
     have hnr := hvp.2.2.2 i ps[i].2[q] (by rw [hrw]; exact List.getElem_mem _)
     rw [hn] at hnr
     have hnn : n < r := by omega
     refine g_skip ?_
     refine n_then ?_
     refine g_seq ?_
     refine g_block ?_
     refine g_region ?_
     refine gy rfl rfl rfl S (y_move rfl S rfl) fun a S => ?_
     refine gy rfl rfl rfl S (y_move rfl S rfl) fun a S => ?_
     refine gy rfl rfl rfl S (y_move rfl S rfl) fun a S => ?_
     refine gy rfl rfl rfl S (y_iaddrn rfl Try.underlying66 Fsiz25 S H rfl rfl (by first | assumption | omega | (rw [seenB_len]; omega))) fun a S => ?_
     refine gy rfl rfl rfl S (y_loads _ rfl Fsca25 S H rfl (by first | assumption | omega | (rw [seenB_len]; omega)) rfl) fun a S => ?_
     refine gy rfl rfl rfl S (y_move rfl S rfl) fun a S => ?_
     refine gy rfl rfl rfl S (y_iaddrn rfl Try.underlying25 Fsiz3 S H rfl rfl (by first | assumption | omega | (rw [seenB_len]; omega))) fun a S => ?_
     refine gy rfl rfl rfl S (y_loads _ rfl Fsca3 S H rfl (by first | assumption | omega | (rw [seenB_len]; omega)) rfl) fun a S => ?_
     rw [hn] at S
     refine gy rfl rfl rfl S (y_iaddrn rfl Try.underlying53 Fsiz4 S H rfl rfl (by first | assumption | omega | (rw [seenB_len]; omega))) fun a S => ?_
     refine wl_of (op_store1 _ (true) (wn rfl) rfl rfl S H rfl rfl rfl rfl Fsiz4 (by first | assumption | omega | (rw [seenB_len]; omega)) (by exact rfl) fun a w S H => ?_)
     refine gl_nil ?_
     refine n_block ?_
     refine n_then ?_
     refine g_region ?_
     refine gy rfl rfl rfl S (y_move rfl S rfl) fun a S => ?_
     refine gy rfl rfl rfl S (y_add rfl S rfl rfl (by omega)) fun a S => ?_
     refine gy rfl rfl rfl S (y_assign rfl S rfl) fun a S => ?_
     refine gl_nil ?_
     refine n_then ?_
     rw [seenB_set] at H
     exact ⟨q + 1, S.nil.cons S 11 rfl, (((((((((((((((((((((S.nil.cons S 1 rfl).cons S 0 rfl).cons S 6 rfl).cons S 7 rfl).cons S 8 rfl).cons S 20 rfl).cons S 10 rfl).cons S 21 rfl).cons S 22 rfl).cons S 23 rfl).cons S 24 rfl).cons S 27 rfl).cons S 28 rfl).cons S 29 rfl).cons S 30 rfl).cons S 31 rfl).cons S 32 rfl).cons S 47 rfl).cons S 48 rfl).cons S 49 rfl).cons S 50 rfl).cons S 9 rfl, ⟨by omega, by rw [List.take_succ_eq_append_getElem hql, List.reverse_append, List.reverse_singleton, hn]; exact H⟩, by omega⟩
    ·have h6p := h6; try simp only [DL] at h6p
     obtain rfl : q = ps[i].2.length := by omega
     rw [List.take_length] at H
     refine g_exit ?_
     refine x_then (x_then (x_eq ?_))
     refine n_block ?_
     refine n_then ?_
     refine g_region ?_
     refine gy rfl rfl rfl S (y_move rfl S rfl) fun a S => ?_
     refine gy rfl rfl rfl S (y_add rfl S rfl rfl (by omega)) fun a S => ?_
     refine gy rfl rfl rfl S (y_assign rfl S rfl) fun a S => ?_
     refine gl_nil ?_
     refine n_then ?_
     first
     | exact ⟨(ag2, i + 1, s2), (S.nil.cons S 10 rfl).cons S 9 rfl, (((((S.nil.cons S 1 rfl).cons S 0 rfl).cons S 6 rfl).cons S 7 rfl).cons S 8 rfl).cons S 20 rfl, ⟨by dsimp only; omega, hI2, fun e => ⟨(hno e).1, fun j hj => by by_cases e2 : j < i; exact (hno e).2 j e2; (obtain rfl : j = i := by dsimp only at hj; omega); exact hnh⟩, hyes, H⟩, by dsimp only; omega⟩
     | exact ⟨(true, i + 1, ⟨(i : Int) :: s2.left, ps[i].2.reverse ++ s2.reached⟩), (S.nil.cons S 10 rfl).cons S 9 rfl, (((((S.nil.cons S 1 rfl).cons S 0 rfl).cons S 6 rfl).cons S 7 rfl).cons S 8 rfl).cons S 20 rfl, ⟨by dsimp only; omega, hI3, fun e => (by cases e), fun _ => hlt3, H⟩, by dsimp only; omega⟩
   ·have h5p := h5; try simp only [DL] at h5p
    have hnh : ¬ Hit got s2 i := fun hh => by
      have hx := h5
      rw [seenB_get, decide_eq_false hh.1] at hx
      rcases hh.2 with h0 | h0
      · rw [decide_eq_true (show got.getD i (-1) < 0 from h0)] at hx; simp at hx
      · by_cases h1 : got.getD i (-1) < 0
        · rw [decide_eq_true h1] at hx; simp at hx
        · rw [seenB_getD _ _ _ (by omega), Int.toNat_of_nonneg (by omega), decide_eq_true (show got.getD i (-1) ∈ s2.reached from h0)] at hx; simp at hx
    refine g_skip ?_
    refine n_block ?_
    refine n_then ?_
    refine g_region ?_
    refine gy rfl rfl rfl S (y_move rfl S rfl) fun a S => ?_
    refine gy rfl rfl rfl S (y_add rfl S rfl rfl (by omega)) fun a S => ?_
    refine gy rfl rfl rfl S (y_assign rfl S rfl) fun a S => ?_
    refine gl_nil ?_
    refine n_then ?_
    first
    | exact ⟨(ag2, i + 1, s2), (S.nil.cons S 10 rfl).cons S 9 rfl, (((((S.nil.cons S 1 rfl).cons S 0 rfl).cons S 6 rfl).cons S 7 rfl).cons S 8 rfl).cons S 20 rfl, ⟨by dsimp only; omega, hI2, fun e => ⟨(hno e).1, fun j hj => by by_cases e2 : j < i; exact (hno e).2 j e2; (obtain rfl : j = i := by dsimp only at hj; omega); exact hnh⟩, hyes, H⟩, by dsimp only; omega⟩
    | exact ⟨(true, i + 1, ⟨(i : Int) :: s2.left, ps[i].2.reverse ++ s2.reached⟩), (S.nil.cons S 10 rfl).cons S 9 rfl, (((((S.nil.cons S 1 rfl).cons S 0 rfl).cons S 6 rfl).cons S 7 rfl).cons S 8 rfl).cons S 20 rfl, ⟨by dsimp only; omega, hI3, fun e => (by cases e), fun _ => hlt3, H⟩, by dsimp only; omega⟩
  ·have h2p := h2; try simp only [DL] at h2p
   obtain rfl : i = ps.length := by omega
   refine g_exit ?_
   refine x_then (x_then (x_eq ?_))
   refine n_block ?_
   refine n_then ?_
   exact ⟨(ag2, s2), S.nil.cons S 9 rfl, ((((S.nil.cons S 1 rfl).cons S 0 rfl).cons S 6 rfl).cons S 7 rfl).cons S 8 rfl, ⟨hI2, fun e => by obtain ⟨rfl, h⟩ := hno e; exact h, H⟩, by dsimp only; have := hI2.wf.few; cases ag2 with | true => (have := hyes rfl; simp only [Bool.toNat_true]; omega) | false => (obtain ⟨rfl, _⟩ := hno rfl; simp only [Bool.toNat_true, Bool.toNat_false]; omega)⟩
 ·have h1p := h1; try simp only [DL] at h1p
  have hcl := hfin h1
  refine g_exit ?_
  refine x_then (x_then (x_eq ?_))
  refine n_then ?_
  have S := ((S.nil.cons S 6 rfl).cons S 7 rfl).cons S 8 rfl
  refine g_seq ?_
  refine g_region ?_
  refine wl_of (op_alloc (wn rfl) rfl rfl rfl S H Fzer27 fun b12 a w S H => ?_)
  refine gl_nil ?_
  refine n_then ?_
  refine g_seq ?_
  refine g_seq ?_
  refine g_region ?_
  refine gy rfl rfl rfl S (y_assign rfl S rfl) fun a S => ?_
  refine gl_nil ?_
  refine n_then ?_
  refine g_block ?_
  have H := H.nilO 3 1 encI
  have SU := (((S.nil.cons S 6 rfl).cons S 7 rfl).cons S 8 rfl).cons S 12 rfl
  refine loopW (X := Nat) SU (fun k => [(13, .int .i64 (k : Int))]) (fun k w => k ≤ ps.length ∧ ∃ vl, HSat No w0 [Cel b12 27 [vl, .slice none 0 0], OSl 3 vl 1 encI (coverLeft (gr ps) s k), OSl 4 (.slice (some ⟨b17, 0, none⟩) ps.length ps.length) 1 encB (seenB ps.length (s.left)), OSl 4 (.slice (some ⟨b19, 0, none⟩) r r) 1 encB (seenB r (s.reached)), Cel b6 27 [.slice none 0 0, .slice none 0 0], Sl vp 1 encI got, RowsS 1 encI ps, Sl ve 1 encRow ps] w) (fun k => ps.length - k) 0 (S.nil.cons S 13 rfl) (⟨by omega, .slice none 0 0, H.take [Cel b12 27 [.slice none 0 0, .slice none 0 0], OSl 3 (.slice none 0 0) 1 encI ([]), OSl 4 (.slice (some ⟨b17, 0, none⟩) ps.length ps.length) 1 encB (seenB ps.length (s.left)), OSl 4 (.slice (some ⟨b19, 0, none⟩) r r) 1 encB (seenB r (s.reached)), Cel b6 27 [.slice none 0 0, .slice none 0 0], Sl vp 1 encI got, RowsS 1 encI ps, Sl ve 1 encRow ps]⟩) (fun k a w S hW => ?_)
  simp only [List.cons_append, List.nil_append] at S
  clear H
  obtain ⟨hk, vl, H⟩ := hW
  have hcl2 := coverLeft_len (gr ps) s k
  refine g_seq ?_
  refine g_seq ?_
  refine g_region ?_
  refine gy rfl rfl rfl S (y_move rfl S rfl) fun a S => ?_
  refine gy rfl rfl rfl S (y_move rfl S rfl) fun a S => ?_
  refine gy rfl rfl rfl S (y_lens rfl Try.underlying53 S H rfl) fun a S => ?_
  rw [seenB_len] at S
  refine gy rfl rfl rfl S (y_bin rfl S rfl rfl rfl) fun a S => ?_
  refine gl_nil ?_
  refine n_then ?_
  refine c_if S rfl (fun h7 => ?_) (fun h7 => ?_)
  ·have h7p := h7; try simp only [DL] at h7p
   have hkl : k < ps.length := by omega
   refine g_skip ?_
   refine n_then ?_
   refine g_seq ?_
   refine g_block ?_
   refine g_seq ?_
   refine g_region ?_
   refine gy rfl rfl rfl S (y_move rfl S rfl) fun a S => ?_
   refine gy rfl rfl rfl S (y_move rfl S rfl) fun a S => ?_
   refine gy rfl rfl rfl S (y_iaddrn rfl Try.underlying53 Fsiz4 S H rfl rfl (by first | assumption | omega | (rw [seenB_len]; omega))) fun a S => ?_
   refine gy rfl rfl rfl S (y_loads _ rfl Fsca4 S H rfl (by first | assumption | omega | (rw [seenB_len]; omega)) rfl) fun a S => ?_
   refine gy rfl rfl rfl S (y_not rfl S rfl) fun a S => ?_
   refine gl_nil ?_
   refine n_then ?_
   refine c_if S rfl (fun h8 => ?_) (fun h8 => ?_)
   ·have h8p := h8; try simp only [DL] at h8p
    have hx : (k : Int) ∉ s.left := by have := h8; rw [seenB_get] at this; simpa using this
    refine g_region ?_
    refine gy rfl rfl rfl S (y_faddrb rfl Ffo27_0 S rfl) fun a S => ?_
    refine gy rfl rfl rfl S (y_load rfl Fsca25 S H rfl rfl) fun a S => ?_
    refine gy rfl rfl rfl S (y_move rfl S rfl) fun a S => ?_
    refine wl_of (op_buildSlice (wn rfl) rfl rfl rfl Try.underlying25 Finf3 S H (idx := [0]) rfl rfl rfl (z := [.int .i64 0]) (by kernel_rfl) (cs := [_]) rfl fun b83 a w S H => ?_)
    refine wl_of (op_append ([(k : Int)]) (wn rfl) rfl rfl rfl Try.underlying25 Finf3 rfl rfl S H rfl rfl rfl rfl (by simp) (by simp [encI]) (by simp [encI, Value.oneCell']) (by simp only [List.length_cons, List.length_nil]; omega) (by simp only [List.length_cons, List.length_nil]; omega) fun u84 a w hn84 S H => ?_)
    refine gy rfl rfl rfl S (y_faddrb rfl Ffo27_0 S rfl) fun a S => ?_
    refine wl_of (op_store (wn rfl) rfl rfl S H rfl rfl (H.sl1 _) Fsiz25 rfl fun a w S H => ?_)
    dsimp only [List.set, Nat.zero_add, Nat.reduceAdd] at H
    refine gl_nil ?_
    refine n_block ?_
    refine n_then ?_
    refine g_region ?_
    refine gy rfl rfl rfl S (y_move rfl S rfl) fun a S => ?_
    refine gy rfl rfl rfl S (y_add rfl S rfl rfl (by omega)) fun a S => ?_
    refine gy rfl rfl rfl S (y_assign rfl S rfl) fun a S => ?_
    refine gl_nil ?_
    refine n_then ?_
    first
    | exact ⟨k + 1, S.nil.cons S 13 rfl, (((S.nil.cons S 6 rfl).cons S 7 rfl).cons S 8 rfl).cons S 12 rfl, ⟨by omega, vl, by rw [coverLeft, if_pos hx]; exact H⟩, by omega⟩
    | exact ⟨k + 1, S.nil.cons S 13 rfl, (((S.nil.cons S 6 rfl).cons S 7 rfl).cons S 8 rfl).cons S 12 rfl, ⟨by omega, u84, by rw [coverLeft, if_neg hx]; exact H.take [Cel b12 27 [u84, .slice none 0 0], OSl 3 u84 1 encI (coverLeft (gr ps) s k ++ [(k : Int)]), OSl 4 (.slice (some ⟨b17, 0, none⟩) ps.length ps.length) 1 encB (seenB ps.length (s.left)), OSl 4 (.slice (some ⟨b19, 0, none⟩) r r) 1 encB (seenB r (s.reached)), Cel b6 27 [.slice none 0 0, .slice none 0 0], Sl vp 1 encI got, RowsS 1 encI ps, Sl ve 1 encRow ps]⟩, by omega⟩
   ·have h8p := h8; try simp only [DL] at h8p
    have hx : (k : Int) ∈ s.left := by have := h8; rw [seenB_get] at this; simpa using this
    refine g_skip ?_
    refine n_block ?_
    refine n_then ?_
    refine g_region ?_
    refine gy rfl rfl rfl S (y_move rfl S rfl) fun a S => ?_
    refine gy rfl rfl rfl S (y_add rfl S rfl rfl (by omega)) fun a S => ?_
    refine gy rfl rfl rfl S (y_assign rfl S rfl) fun a S => ?_
    refine gl_nil ?_
    refine n_then ?_
    first
    | exact ⟨k + 1, S.nil.cons S 13 rfl, (((S.nil.cons S 6 rfl).cons S 7 rfl).cons S 8 rfl).cons S 12 rfl, ⟨by omega, vl, by rw [coverLeft, if_pos hx]; exact H⟩, by omega⟩
    | exact ⟨k + 1, S.nil.cons S 13 rfl, (((S.nil.cons S 6 rfl).cons S 7 rfl).cons S 8 rfl).cons S 12 rfl, ⟨by omega, u84, by rw [coverLeft, if_neg hx]; exact H.take [Cel b12 27 [u84, .slice none 0 0], OSl 3 u84 1 encI (coverLeft (gr ps) s k ++ [(k : Int)]), OSl 4 (.slice (some ⟨b17, 0, none⟩) ps.length ps.length) 1 encB (seenB ps.length (s.left)), OSl 4 (.slice (some ⟨b19, 0, none⟩) r r) 1 encB (seenB r (s.reached)), Cel b6 27 [.slice none 0 0, .slice none 0 0], Sl vp 1 encI got, RowsS 1 encI ps, Sl ve 1 encRow ps]⟩, by omega⟩
  ·have h7p := h7; try simp only [DL] at h7p
   obtain rfl : k = ps.length := by omega
   refine g_exit ?_
   refine x_then (x_then (x_eq ?_))
   refine n_then ?_
   have S := ((S.nil.cons S 6 rfl).cons S 8 rfl).cons S 12 rfl
   refine g_seq ?_
   refine g_seq ?_
   refine g_region ?_
   refine gy rfl rfl rfl S (y_assign rfl S rfl) fun a S => ?_
   refine gl_nil ?_
   refine n_then ?_
   refine g_block ?_
   have H := H.nilO 3 1 encI
   have SU := ((S.nil.cons S 6 rfl).cons S 8 rfl).cons S 12 rfl
   refine loopW (X := Nat) SU (fun k => [(14, .int .i64 (k : Int))]) (fun k w => k ≤ r ∧ ∃ vr, HSat No w0 [OSl 3 vl 1 encI (coverLeft (gr ps) s ps.length), Cel b12 27 [vl, vr], OSl 3 vr 1 encI (coverRight s k), OSl 4 (.slice (some ⟨b17, 0, none⟩) ps.length ps.length) 1 encB (seenB ps.length (s.left)), OSl 4 (.slice (some ⟨b19, 0, none⟩) r r) 1 encB (seenB r (s.reached)), Cel b6 27 [.slice none 0 0, .slice none 0 0], Sl vp 1 encI got, RowsS 1 encI ps, Sl ve 1 encRow ps] w) (fun k => r - k) 0 (S.nil.cons S 14 rfl) (⟨by omega, .slice none 0 0, H.take [OSl 3 vl 1 encI (coverLeft (gr ps) s ps.length), Cel b12 27 [vl, .slice none 0 0], OSl 3 (.slice none 0 0) 1 encI ([]), OSl 4 (.slice (some ⟨b17, 0, none⟩) ps.length ps.length) 1 encB (seenB ps.length (s.left)), OSl 4 (.slice (some ⟨b19, 0, none⟩) r r) 1 encB (seenB r (s.reached)), Cel b6 27 [.slice none 0 0, .slice none 0 0], Sl vp 1 encI got, RowsS 1 encI ps, Sl ve 1 encRow ps]⟩) (fun k a w S hW => ?_)
   simp only [List.cons_append, List.nil_append] at S
   clear H
   obtain ⟨hk, vr, H⟩ := hW
   have hcr2 := coverRight_len s k
   refine g_seq ?_
   refine g_seq ?_
   refine g_region ?_
   refine gy rfl rfl rfl S (y_move rfl S rfl) fun a S => ?_
   refine gy rfl rfl rfl S (y_move rfl S rfl) fun a S => ?_
   refine gy rfl rfl rfl S (y_lens rfl Try.underlying53 S H rfl) fun a S => ?_
   rw [seenB_len] at S
   refine gy rfl rfl rfl S (y_bin rfl S rfl rfl rfl) fun a S => ?_
   refine gl_nil ?_
   refine n_then ?_
   refine c_if S rfl (fun h9 => ?_) (fun h9 => ?_)
   ·have h9p := h9; try simp only [DL] at h9p
    refine g_skip ?_
    refine n_then ?_
    refine g_seq ?_
    refine g_block ?_
    refine g_seq ?_
    refine g_region ?_
    refine gy rfl rfl rfl S (y_move rfl S rfl) fun a S => ?_
    refine gy rfl rfl rfl S (y_move rfl S rfl) fun a S => ?_
    refine gy rfl rfl rfl S (y_iaddrn rfl Try.underlying53 Fsiz4 S H rfl rfl (by first | assumption | omega | (rw [seenB_len]; omega))) fun a S => ?_
    refine gy rfl rfl rfl S (y_loads _ rfl Fsca4 S H rfl (by first | assumption | omega | (rw [seenB_len]; omega)) rfl) fun a S => ?_
    refine gl_nil ?_
    refine n_then ?_
    refine c_if S rfl (fun h10 => ?_) (fun h10 => ?_)
    ·have h10p := h10; try simp only [DL] at h10p
     have hx : (k : Int) ∈ s.reached := by have := h10; rw [seenB_get] at this; simpa using this
     refine g_region ?_
     refine gy rfl rfl rfl S (y_faddrb rfl Ffo27_1 S rfl) fun a S => ?_
     refine gy rfl rfl rfl S (y_load rfl Fsca25 S H rfl rfl) fun a S => ?_
     refine gy rfl rfl rfl S (y_move rfl S rfl) fun a S => ?_
     refine wl_of (op_buildSlice (wn rfl) rfl rfl rfl Try.underlying25 Finf3 S H (idx := [0]) rfl rfl rfl (z := [.int .i64 0]) (by kernel_rfl) (cs := [_]) rfl fun b99 a w S H => ?_)
     refine wl_of (op_append ([(k : Int)]) (wn rfl) rfl rfl rfl Try.underlying25 Finf3 rfl rfl S H rfl rfl rfl rfl (by simp) (by simp [encI]) (by simp [encI, Value.oneCell']) (by simp only [List.length_cons, List.length_nil]; omega) (by simp only [List.length_cons, List.length_nil]; omega) fun u100 a w hn100 S H => ?_)
     refine gy rfl rfl rfl S (y_faddrb rfl Ffo27_1 S rfl) fun a S => ?_
     refine wl_of (op_store (wn rfl) rfl rfl S H rfl rfl (H.sl1 _) Fsiz25 rfl fun a w S H => ?_)
     dsimp only [List.set, Nat.zero_add, Nat.reduceAdd] at H
     refine gl_nil ?_
     refine n_block ?_
     refine n_then ?_
     refine g_region ?_
     refine gy rfl rfl rfl S (y_move rfl S rfl) fun a S => ?_
     refine gy rfl rfl rfl S (y_add rfl S rfl rfl (by omega)) fun a S => ?_
     refine gy rfl rfl rfl S (y_assign rfl S rfl) fun a S => ?_
     refine gl_nil ?_
     refine n_then ?_
     first
     | exact ⟨k + 1, S.nil.cons S 14 rfl, ((S.nil.cons S 6 rfl).cons S 8 rfl).cons S 12 rfl, ⟨by omega, vr, by rw [coverRight, if_neg hx]; exact H⟩, by omega⟩
     | exact ⟨k + 1, S.nil.cons S 14 rfl, ((S.nil.cons S 6 rfl).cons S 8 rfl).cons S 12 rfl, ⟨by omega, u100, by rw [coverRight, if_pos hx]; exact H.take [OSl 3 vl 1 encI (coverLeft (gr ps) s ps.length), Cel b12 27 [vl, u100], OSl 3 u100 1 encI (coverRight s k ++ [(k : Int)]), OSl 4 (.slice (some ⟨b17, 0, none⟩) ps.length ps.length) 1 encB (seenB ps.length (s.left)), OSl 4 (.slice (some ⟨b19, 0, none⟩) r r) 1 encB (seenB r (s.reached)), Cel b6 27 [.slice none 0 0, .slice none 0 0], Sl vp 1 encI got, RowsS 1 encI ps, Sl ve 1 encRow ps]⟩, by omega⟩
    ·have h10p := h10; try simp only [DL] at h10p
     have hx : (k : Int) ∉ s.reached := by have := h10; rw [seenB_get] at this; simpa using this
     refine g_skip ?_
     refine n_block ?_
     refine n_then ?_
     refine g_region ?_
     refine gy rfl rfl rfl S (y_move rfl S rfl) fun a S => ?_
     refine gy rfl rfl rfl S (y_add rfl S rfl rfl (by omega)) fun a S => ?_
     refine gy rfl rfl rfl S (y_assign rfl S rfl) fun a S => ?_
     refine gl_nil ?_
     refine n_then ?_
     first
     | exact ⟨k + 1, S.nil.cons S 14 rfl, ((S.nil.cons S 6 rfl).cons S 8 rfl).cons S 12 rfl, ⟨by omega, vr, by rw [coverRight, if_neg hx]; exact H⟩, by omega⟩
     | exact ⟨k + 1, S.nil.cons S 14 rfl, ((S.nil.cons S 6 rfl).cons S 8 rfl).cons S 12 rfl, ⟨by omega, u100, by rw [coverRight, if_pos hx]; exact H.take [OSl 3 vl 1 encI (coverLeft (gr ps) s ps.length), Cel b12 27 [vl, u100], OSl 3 u100 1 encI (coverRight s k ++ [(k : Int)]), OSl 4 (.slice (some ⟨b17, 0, none⟩) ps.length ps.length) 1 encB (seenB ps.length (s.left)), OSl 4 (.slice (some ⟨b19, 0, none⟩) r r) 1 encB (seenB r (s.reached)), Cel b6 27 [.slice none 0 0, .slice none 0 0], Sl vp 1 encI got, RowsS 1 encI ps, Sl ve 1 encRow ps]⟩, by omega⟩
   ·have h9p := h9; try simp only [DL] at h9p
    obtain rfl : r = k := by omega
    refine g_exit ?_
    refine x_then (x_then (x_eq ?_))
    refine n_then ?_
    have S := (S.nil.cons S 6 rfl).cons S 12 rfl
    refine g_seq ?_
    refine g_region ?_
    refine gy rfl rfl rfl S (y_load0 rfl S H rfl (by exact Fagg27)) fun a S => ?_
    refine wl_of (op_storea (wn rfl) rfl rfl S H rfl rfl (by simp only [List.all_cons, List.all_nil, H.sl1 vl, H.sl1 vr, Bool.true_and]) Fsiz27 rfl (cs' := [_, _]) rfl fun a w S H => ?_)
    refine gl_nil ?_
    refine n_then ?_
    refine g_ret ?_
    refine retc rfl S H rfl (by exact Fagg27) ?_
    exact ⟨vl, vr, s, rfl, covI_done hvg hI (fun i hi => hcl i (by omega)) hown hc2, H.take [OSl 3 vl 1 encI (coverLeft (gr ps) s ps.length), OSl 3 vr 1 encI (coverRight s r)]⟩

end Go.Proofs.Ytenaoaegichecaa
