/- The walks. No condition. -/
import Derived.Test.YtnnendajegdnhaaChecked
import Derived.Test.YtnnendajegdnhaaGwBits
import Derived.Test.YtnnendajegdnhaaFacts
import Derived.Test.YtnnendajegdnhaaPlain
import Derived.Test.YtnnendajegdnhaaPlainU
import Derived.Test.YtnnendajegdnhaaW8
import Derived.Test.YtnnendajegdnhaaPlainV
namespace Go.Proofs.Ytnnendajegdnhaa
open Go Go.Gw
set_option linter.unusedVariables false
set_option linter.unusedSimpArgs false
/-- what the reference's search does: f rounds deep at most -/
def RLookSpec (f : Nat) (r : Nat) (vs vt vp ve : Value) (ps : List (Value × List Int)) (bw : Nat) : Prop := ∀ {M : Nat → Prop} {u0 : World} {l : List Atom} (i : Nat) (s0 : AS) (w0 : World), i < ps.length → AWF (gr ps) r s0 → r < f + s0.seen.length →
    HSat M u0 (OSl 4 vs 1 encB (seenB r (s0.seen)) :: OSl 3 vt 1 encI (s0.owner) :: OSl 3 vp 1 encI (s0.got) :: Cel bw 131 [ve, vt, vp, vs] :: Atom.ro (RowsA 3 1 encI ps) :: Atom.ro (OSl 39 ve 1 encRow ps) :: l) w0 → Ret Try.prog 68 #[.pointer (some ⟨bw, 0, none⟩), .int .i64 (i : Int)] w0 (fun u w => u = .bool (aug (gr ps) f (i : Int) s0).1 ∧ HSat M u0 (OSl 4 vs 1 encB (seenB r ((aug (gr ps) f (i : Int) s0).2.seen)) :: OSl 3 vt 1 encI ((aug (gr ps) f (i : Int) s0).2.owner) :: OSl 3 vp 1 encI ((aug (gr ps) f (i : Int) s0).2.got) :: Cel bw 131 [ve, vt, vp, vs] :: Atom.ro (RowsA 3 1 encI ps) :: Atom.ro (OSl 39 ve 1 encRow ps) :: l) w)
set_option maxHeartbeats 2000000 in
/-- (*foyer/foyerref41.work).look -/
theorem rlook_step {M : Nat → Prop} {u0 : World} {l : List Atom} (f : Nat) (r : Nat) (vs vt vp ve : Value) (ps : List (Value × List Int)) (bw : Nat) (hvg : validG (gr ps) r = true) (ih : RLookSpec f r vs vt vp ve ps bw) (i : Nat) (s0 : AS) (w0 : World) (hi0 : i < ps.length) (hwf0 : AWF (gr ps) r s0) (hf0 : r < f + 1 + s0.seen.length) (h0 : HSat M u0 (OSl 4 vs 1 encB (seenB r (s0.seen)) :: OSl 3 vt 1 encI (s0.owner) :: OSl 3 vp 1 encI (s0.got) :: Cel bw 131 [ve, vt, vp, vs] :: Atom.ro (RowsA 3 1 encI ps) :: Atom.ro (OSl 39 ve 1 encRow ps) :: l) w0) :
    Ret Try.prog 68 #[.pointer (some ⟨bw, 0, none⟩), .int .i64 (i : Int)] w0 (fun u w => u = .bool (aug (gr ps) (f + 1) (i : Int) s0).1 ∧ HSat M u0 (OSl 4 vs 1 encB (seenB r ((aug (gr ps) (f + 1) (i : Int) s0).2.seen)) :: OSl 3 vt 1 encI ((aug (gr ps) (f + 1) (i : Int) s0).2.owner) :: OSl 3 vp 1 encI ((aug (gr ps) (f + 1) (i : Int) s0).2.got) :: Cel bw 131 [ve, vt, vp, vs] :: Atom.ro (RowsA 3 1 encI ps) :: Atom.ro (OSl 39 ve 1 encRow ps) :: l) w) := by
 refine ret_of_wp (nt := 75) Try.func68 rfl rfl rfl (fl := [(0, .pointer (some ⟨bw, 0, none⟩)), (1, .int .i64 (i : Int))]) rfl (fun a S => ?_)
 have H := h0
 have hgl := gr_len ps
 have hrw := gr_row ps hi0
 have hvp := validG_parts hvg
 have hlv := (H.sl ve).len
 have hrl := (H.sl ps[i].1).len
 refine gsr ?_
 refine ga S fun a S => ?_
 refine gnt ?_
 refine g_seq ?_
 refine gsr ?_
 refine ga S fun a S => ?_
 refine gnt ?_
 refine g_block ?_
 have SU := (S.nil.cons S 1 rfl).cons S 0 rfl
 refine loopW (X := Nat) SU (fun k => [(5, .int .i64 (k : Int))]) (fun k w => k ≤ ps[i].2.length ∧ ∃ s, augRow (aug (gr ps) f) i ps[i].2 s0 = augRow (aug (gr ps) f) i (ps[i].2.drop k) s ∧ AWF (gr ps) r s ∧ r < f + 1 + s.seen.length ∧ HSat M u0 (OSl 4 vs 1 encB (seenB r (s.seen)) :: OSl 3 vt 1 encI (s.owner) :: OSl 3 vp 1 encI (s.got) :: Cel bw 131 [ve, vt, vp, vs] :: Atom.ro (RowsA 3 1 encI ps) :: Atom.ro (OSl 39 ve 1 encRow ps) :: l) w) (fun k => ps[i].2.length - k) 0 (S.nil.cons S 5 rfl) (⟨by omega, s0, rfl, hwf0, hf0, H⟩) (fun k a w S hW => ?_)
 simp only [List.cons_append, List.nil_append] at S
 obtain ⟨hk, s, hau, hwf, hfu, H⟩ := hW
 have hlo := hwf.lo
 have hlg := hwf.lg
 refine g_seq ?_
 refine gsr ?_
 refine gm S fun a S => ?_
 refine gm S fun a S => ?_
 refine gy rfl rfl rfl S (y_nilCheck rfl S rfl) fun a S => ?_
 refine gy rfl rfl rfl S (y_faddrb rfl Ffo131_0 S rfl) fun a S => ?_
 refine gy rfl rfl rfl S (y_load rfl Fsca96 S H rfl rfl) fun a S => ?_
 refine gm S fun a S => ?_
 refine gy rfl rfl rfl S (y_iaddrn rfl Try.underlying96 Fsiz39 S H rfl rfl (by first | assumption | omega | (rw [seenB_len]; omega))) fun a S => ?_
 refine gy rfl rfl rfl S (y_loads _ rfl Fsca39 S H rfl (by first | assumption | omega | (rw [seenB_len]; omega)) rfl) fun a S => ?_
 refine gy rfl rfl rfl S (y_lens rfl Try.underlying39 S H rfl) fun a S => ?_
 refine gy rfl rfl rfl S (y_bin rfl S rfl rfl rfl) fun a S => ?_
 refine gnt ?_
 have S := (((S.nil.cons S 1 rfl).cons S 0 rfl).cons S 5 rfl).cons S 16 rfl
 refine c_if S rfl (fun h1 => ?_) (fun h1 => ?_)
 ·have h1p := h1; try simp only [DL] at h1p
  have hkl : k < ps[i].2.length := by omega
  obtain ⟨n, hn⟩ : ∃ n : Nat, ps[i].2[k] = n := ⟨ps[i].2[k].toNat, by have := hvp.2.2.2 i ps[i].2[k] (by rw [hrw]; exact List.getElem_mem _); omega⟩
  have hnr : (0 : Int) ≤ n ∧ (n : Int) < r := hvp.2.2.2 i n (by rw [hrw, ← hn]; exact List.getElem_mem _)
  have hrd : ps[i].2.drop k = (n : Int) :: ps[i].2.drop (k + 1) := by rw [← hn]; exact List.drop_eq_getElem_cons hkl
  have hnrr : n < r := by omega
  refine g_skip ?_
  refine n_then ?_
  refine g_seq ?_
  refine g_block ?_
  refine gsr ?_
  refine gm S fun a S => ?_
  refine gy rfl rfl rfl S (y_nilCheck rfl S rfl) fun a S => ?_
  refine gy rfl rfl rfl S (y_faddrb rfl Ffo131_0 S rfl) fun a S => ?_
  refine gy rfl rfl rfl S (y_load rfl Fsca96 S H rfl rfl) fun a S => ?_
  refine gm S fun a S => ?_
  refine gy rfl rfl rfl S (y_iaddrn rfl Try.underlying96 Fsiz39 S H rfl rfl (by first | assumption | omega | (rw [seenB_len]; omega))) fun a S => ?_
  refine gy rfl rfl rfl S (y_loads _ rfl Fsca39 S H rfl (by first | assumption | omega | (rw [seenB_len]; omega)) rfl) fun a S => ?_
  refine gm S fun a S => ?_
  refine gy rfl rfl rfl S (y_iaddrn rfl Try.underlying39 Fsiz3 S H rfl rfl (by first | assumption | omega | (rw [seenB_len]; omega))) fun a S => ?_
  refine gy rfl rfl rfl S (y_loads _ rfl Fsca3 S H rfl (by first | assumption | omega | (rw [seenB_len]; omega)) rfl) fun a S => ?_
  rw [hn] at S
  refine ga S fun a S => ?_
  refine gnt ?_
  have S := (((S.nil.cons S 1 rfl).cons S 0 rfl).cons S 5 rfl).cons S 6 rfl
  refine g_seq ?_
  refine gsr ?_
  refine gm S fun a S => ?_
  refine gy rfl rfl rfl S (y_nilCheck rfl S rfl) fun a S => ?_
  refine gy rfl rfl rfl S (y_faddrb rfl Ffo131_3 S rfl) fun a S => ?_
  refine gy rfl rfl rfl S (y_load rfl Fsca129 S H rfl rfl) fun a S => ?_
  refine gm S fun a S => ?_
  refine gy rfl rfl rfl S (y_iaddrn rfl Try.underlying129 Fsiz4 S H rfl rfl (by first | assumption | omega | (rw [seenB_len]; omega))) fun a S => ?_
  refine gy rfl rfl rfl S (y_loads _ rfl Fsca4 S H rfl (by first | assumption | omega | (rw [seenB_len]; omega)) rfl) fun a S => ?_
  refine gnt ?_
  have S := ((((S.nil.cons S 1 rfl).cons S 0 rfl).cons S 5 rfl).cons S 6 rfl).cons S 35 rfl
  refine c_if S rfl (fun h2 => ?_) (fun h2 => ?_)
  ·have h2p := h2; try simp only [DL] at h2p
   have hx : (n : Int) ∈ s.seen := by have := h2; rw [seenB_get] at this; simpa using this
   refine g_exit ?_
   refine x_then (x_eq ?_)
   refine n_then ?_
   refine g_region ?_
   refine gm S fun a S => ?_
   refine gy rfl rfl rfl S (y_add rfl S rfl rfl (by omega)) fun a S => ?_
   refine ga S fun a S => ?_
   refine gnt ?_
   first
   | exact ⟨k + 1, S.nil.cons S 5 rfl, (S.nil.cons S 1 rfl).cons S 0 rfl, ⟨by omega, s, by rw [hau, hrd, augRow, if_pos hx], hwf, hfu, H⟩, by omega⟩
   | (have hbf : b = false := by simpa using @c3
      subst hbf
      exact ⟨k + 1, S.nil.cons S 5 rfl, (S.nil.cons S 1 rfl).cons S 0 rfl, ⟨by omega, s2, by rw [hau, hrd, augRow, if_neg hx, Int.toNat_natCast, if_neg hb, ho, hq], hout.wf, by omega, H⟩, by omega⟩)
  ·have h2p := h2; try simp only [DL] at h2p
   have hx : (n : Int) ∉ s.seen := by have := h2; rw [seenB_get] at this; simpa using this
   have hwf1 := hwf.see hnr hx
   have hon := hwf.own n
   have hnl : n < s.owner.length := by omega
   have hat := atI_eq hnl
   refine g_skip ?_
   refine n_then ?_
   refine gsr ?_
   refine gm S fun a S => ?_
   refine gy rfl rfl rfl S (y_nilCheck rfl S rfl) fun a S => ?_
   refine gy rfl rfl rfl S (y_faddrb rfl Ffo131_3 S rfl) fun a S => ?_
   refine gy rfl rfl rfl S (y_load rfl Fsca129 S H rfl rfl) fun a S => ?_
   refine gm S fun a S => ?_
   refine gy rfl rfl rfl S (y_iaddrn rfl Try.underlying129 Fsiz4 S H rfl rfl (by first | assumption | omega | (rw [seenB_len]; omega))) fun a S => ?_
   refine wl_of (op_store1 _ (true) (wn rfl) rfl rfl S H rfl rfl rfl rfl Fsiz4 (by first | assumption | omega | (rw [seenB_len]; omega)) (by exact rfl) fun a w S H => ?_)
   refine gnt ?_
   have S := (((S.nil.cons S 1 rfl).cons S 0 rfl).cons S 5 rfl).cons S 6 rfl
   refine g_seq ?_
   rw [seenB_set] at H
   have H : HSat M u0 (OSl 4 vs 1 encB (seenB r ((s.see n).seen)) :: OSl 3 vt 1 encI (s.owner) :: OSl 3 vp 1 encI (s.got) :: Cel bw 131 [ve, vt, vp, vs] :: Atom.ro (RowsA 3 1 encI ps) :: Atom.ro (OSl 39 ve 1 encRow ps) :: l) _ := H
   by_cases hb : atI s.owner n < 0
   ·skip
    refine g_region ?_
    refine gm S fun a S => ?_
    refine gy rfl rfl rfl S (y_nilCheck rfl S rfl) fun a S => ?_
    refine gy rfl rfl rfl S (y_faddrb rfl Ffo131_1 S rfl) fun a S => ?_
    refine gy rfl rfl rfl S (y_load rfl Fsca39 S H rfl rfl) fun a S => ?_
    refine gm S fun a S => ?_
    refine gy rfl rfl rfl S (y_iaddrn rfl Try.underlying39 Fsiz3 S H rfl rfl (by first | assumption | omega | (rw [seenB_len]; omega))) fun a S => ?_
    refine gy rfl rfl rfl S (y_loads _ rfl Fsca3 S H rfl (by first | assumption | omega | (rw [seenB_len]; omega)) rfl) fun a S => ?_
    refine gy rfl rfl rfl S (y_bin rfl S rfl rfl rfl) fun a S => ?_
    rw [← hat, decide_eq_true hb] at S
    refine gm S fun a S => ?_
    refine' wl_or (B2 := false) 9 50 rfl S H rfl rfl rfl rfl rfl rfl rfl (fun _ S => (wn rfl)) (fun h3 kk => ?yh3) (fun a w S H => ?_)
    case yh3 => exact absurd h3 (by simp)
    refine gnt ?_
    have S := ((((S.nil.cons S 1 rfl).cons S 0 rfl).cons S 5 rfl).cons S 6 rfl).cons S 60 rfl
    refine c_if S rfl (fun h4 => ?_) (fun h4 => ?_)
    ·have h4p := h4; try simp only [DL] at h4p
     refine gsr ?_
     refine gm S fun a S => ?_
     refine gy rfl rfl rfl S (y_nilCheck rfl S rfl) fun a S => ?_
     refine gy rfl rfl rfl S (y_faddrb rfl Ffo131_1 S rfl) fun a S => ?_
     refine gy rfl rfl rfl S (y_load rfl Fsca39 S H rfl rfl) fun a S => ?_
     refine gm S fun a S => ?_
     refine gm S fun a S => ?_
     refine gy rfl rfl rfl S (y_iaddrn rfl Try.underlying39 Fsiz3 S H rfl rfl (by first | assumption | omega | (rw [seenB_len]; omega))) fun a S => ?_
     refine wl_of (op_store1 _ ((i : Int)) (wn rfl) rfl rfl S H rfl rfl rfl rfl Fsiz3 (by first | assumption | omega | (rw [seenB_len]; omega)) (by exact rfl) fun a w S H => ?_)
     refine gnt ?_
     have S := (((S.nil.cons S 1 rfl).cons S 0 rfl).cons S 5 rfl).cons S 6 rfl
     refine gsr ?_
     refine gm S fun a S => ?_
     refine gy rfl rfl rfl S (y_nilCheck rfl S rfl) fun a S => ?_
     refine gy rfl rfl rfl S (y_faddrb rfl Ffo131_2 S rfl) fun a S => ?_
     refine gy rfl rfl rfl S (y_load rfl Fsca39 S H rfl rfl) fun a S => ?_
     refine gm S fun a S => ?_
     refine gm S fun a S => ?_
     refine gy rfl rfl rfl S (y_iaddrn rfl Try.underlying39 Fsiz3 S H rfl rfl (by first | assumption | omega | (rw [seenB_len]; omega))) fun a S => ?_
     refine wl_of (op_store1 _ ((n : Int)) (wn rfl) rfl rfl S H rfl rfl rfl rfl Fsiz3 (by first | assumption | omega | (rw [seenB_len]; omega)) (by exact rfl) fun a w S H => ?_)
     refine gnt ?_
     have S := ((S.nil.cons S 1 rfl).cons S 0 rfl).cons S 5 rfl
     refine gsr ?_
     refine ga S fun a S => ?_
     refine gnt ?_
     refine g_ret ?_
     refine r_block (r_then (r_then (r_block (r_then (ret1 rfl S rfl ?_)))))
     first
     | (have e : aug (gr ps) (f + 1) i s0 = (true, (s.see n).pair n i) := by rw [aug_succ ps f i s0 hi0, hau, hrd, augRow, if_neg hx, Int.toNat_natCast, if_pos hb]
        rw [e]; exact ⟨rfl, H⟩)
     | (have hbt : b = true := by simpa using h4
        subst hbt
        have e : aug (gr ps) (f + 1) i s0 = (true, s2.pair n i) := by rw [aug_succ ps f i s0 hi0, hau, hrd, augRow, if_neg hx, Int.toNat_natCast, if_neg hb, ho, hq]
        rw [e]; exact ⟨rfl, H⟩)
    ·have h4p := h4; try simp only [DL] at h4p
     all_goals (
       exact absurd h4 (by simp))
   ·obtain ⟨o, ho⟩ : ∃ o : Nat, atI s.owner n = o := ⟨(atI s.owner n).toNat, by omega⟩
    refine g_region ?_
    refine gm S fun a S => ?_
    refine gy rfl rfl rfl S (y_nilCheck rfl S rfl) fun a S => ?_
    refine gy rfl rfl rfl S (y_faddrb rfl Ffo131_1 S rfl) fun a S => ?_
    refine gy rfl rfl rfl S (y_load rfl Fsca39 S H rfl rfl) fun a S => ?_
    refine gm S fun a S => ?_
    refine gy rfl rfl rfl S (y_iaddrn rfl Try.underlying39 Fsiz3 S H rfl rfl (by first | assumption | omega | (rw [seenB_len]; omega))) fun a S => ?_
    refine gy rfl rfl rfl S (y_loads _ rfl Fsca3 S H rfl (by first | assumption | omega | (rw [seenB_len]; omega)) rfl) fun a S => ?_
    refine gy rfl rfl rfl S (y_bin rfl S rfl rfl rfl) fun a S => ?_
    rw [← hat, decide_eq_false hb] at S
    refine gm S fun a S => ?_
    refine gz 50 rfl S rfl rfl rfl rfl rfl rfl (y_move rfl S rfl) fun a S => ?_
    refine gz 50 rfl S rfl rfl rfl rfl rfl rfl (y_move rfl S rfl) fun a S => ?_
    refine gz 50 rfl S rfl rfl rfl rfl rfl rfl (y_nilCheck rfl S rfl) fun a S => ?_
    refine gz 50 rfl S rfl rfl rfl rfl rfl rfl (y_faddrb rfl Ffo131_1 S rfl) fun a S => ?_
    refine gz 50 rfl S rfl rfl rfl rfl rfl rfl (y_load rfl Fsca39 S H rfl rfl) fun a S => ?_
    refine gz 50 rfl S rfl rfl rfl rfl rfl rfl (y_move rfl S rfl) fun a S => ?_
    refine gz 50 rfl S rfl rfl rfl rfl rfl rfl (y_iaddrn rfl Try.underlying39 Fsiz3 S H rfl rfl (by first | assumption | omega | (rw [seenB_len]; omega))) fun a S => ?_
    refine gz 50 rfl S rfl rfl rfl rfl rfl rfl (y_loads _ rfl Fsca3 S H rfl (by first | assumption | omega | (rw [seenB_len]; omega)) rfl) fun a S => ?_
    rw [← hat, ho] at S
    refine wl_of (op_call (wg' 50 rfl rfl S rfl rfl rfl) rfl rfl S (co_func rfl Try.call68 S rfl) (ih o (s.see n) _ (by omega) hwf1 (by simp [AS.see]; omega) H) fun v w hc a S => ?_)
    obtain ⟨rfl, H⟩ := hc
    have hout := aug_out hvg f o (s.see n) (by omega) hwf1
    obtain ⟨b, s2, hq⟩ : ∃ b s2, aug (gr ps) f o (s.see n) = (b, s2) := ⟨_, _, rfl⟩
    rw [hq] at S H hout
    dsimp only at S H hout
    have hlo2 := hout.wf.lo
    have hlg2 := hout.wf.lg
    have hln2 := hout.len
    simp only [AS.see, List.length_cons] at hln2
    refine gy rfl rfl rfl S (y_or' rfl rfl S rfl rfl) fun a S => ?_
    refine gnt ?_
    have S := ((((S.nil.cons S 1 rfl).cons S 0 rfl).cons S 5 rfl).cons S 6 rfl).cons S 60 rfl
    refine c_if S rfl (fun h6 => ?_) (fun h6 => ?_)
    ·have h6p := h6; try simp only [DL] at h6p
     refine gsr ?_
     refine gm S fun a S => ?_
     refine gy rfl rfl rfl S (y_nilCheck rfl S rfl) fun a S => ?_
     refine gy rfl rfl rfl S (y_faddrb rfl Ffo131_1 S rfl) fun a S => ?_
     refine gy rfl rfl rfl S (y_load rfl Fsca39 S H rfl rfl) fun a S => ?_
     refine gm S fun a S => ?_
     refine gm S fun a S => ?_
     refine gy rfl rfl rfl S (y_iaddrn rfl Try.underlying39 Fsiz3 S H rfl rfl (by first | assumption | omega | (rw [seenB_len]; omega))) fun a S => ?_
     refine wl_of (op_store1 _ ((i : Int)) (wn rfl) rfl rfl S H rfl rfl rfl rfl Fsiz3 (by first | assumption | omega | (rw [seenB_len]; omega)) (by exact rfl) fun a w S H => ?_)
     refine gnt ?_
     have S := (((S.nil.cons S 1 rfl).cons S 0 rfl).cons S 5 rfl).cons S 6 rfl
     refine gsr ?_
     refine gm S fun a S => ?_
     refine gy rfl rfl rfl S (y_nilCheck rfl S rfl) fun a S => ?_
     refine gy rfl rfl rfl S (y_faddrb rfl Ffo131_2 S rfl) fun a S => ?_
     refine gy rfl rfl rfl S (y_load rfl Fsca39 S H rfl rfl) fun a S => ?_
     refine gm S fun a S => ?_
     refine gm S fun a S => ?_
     refine gy rfl rfl rfl S (y_iaddrn rfl Try.underlying39 Fsiz3 S H rfl rfl (by first | assumption | omega | (rw [seenB_len]; omega))) fun a S => ?_
     refine wl_of (op_store1 _ ((n : Int)) (wn rfl) rfl rfl S H rfl rfl rfl rfl Fsiz3 (by first | assumption | omega | (rw [seenB_len]; omega)) (by exact rfl) fun a w S H => ?_)
     refine gnt ?_
     have S := ((S.nil.cons S 1 rfl).cons S 0 rfl).cons S 5 rfl
     refine gsr ?_
     refine ga S fun a S => ?_
     refine gnt ?_
     refine g_ret ?_
     refine r_block (r_then (r_then (r_block (r_then (ret1 rfl S rfl ?_)))))
     first
     | (have e : aug (gr ps) (f + 1) i s0 = (true, (s.see n).pair n i) := by rw [aug_succ ps f i s0 hi0, hau, hrd, augRow, if_neg hx, Int.toNat_natCast, if_pos hb]
        rw [e]; exact ⟨rfl, H⟩)
     | (have hbt : b = true := by simpa using h6
        subst hbt
        have e : aug (gr ps) (f + 1) i s0 = (true, s2.pair n i) := by rw [aug_succ ps f i s0 hi0, hau, hrd, augRow, if_neg hx, Int.toNat_natCast, if_neg hb, ho, hq]
        rw [e]; exact ⟨rfl, H⟩)
    ·have h6p := h6; try simp only [DL] at h6p
     refine g_skip ?_
     refine n_block ?_
     refine n_then ?_
     refine g_region ?_
     refine gm S fun a S => ?_
     refine gy rfl rfl rfl S (y_add rfl S rfl rfl (by omega)) fun a S => ?_
     refine ga S fun a S => ?_
     refine gnt ?_
     first
     | exact ⟨k + 1, S.nil.cons S 5 rfl, (S.nil.cons S 1 rfl).cons S 0 rfl, ⟨by omega, s, by rw [hau, hrd, augRow, if_pos hx], hwf, hfu, H⟩, by omega⟩
     | (have hbf : b = false := by simpa using h6
        subst hbf
        exact ⟨k + 1, S.nil.cons S 5 rfl, (S.nil.cons S 1 rfl).cons S 0 rfl, ⟨by omega, s2, by rw [hau, hrd, augRow, if_neg hx, Int.toNat_natCast, if_neg hb, ho, hq], hout.wf, by omega, H⟩, by omega⟩)
 ·have h1p := h1; try simp only [DL] at h1p
  refine g_exit ?_
  refine x_then (x_then (x_eq ?_))
  refine n_then ?_
  have S := S.nil
  refine gsr ?_
  refine ga S fun a S => ?_
  refine gnt ?_
  refine g_ret ?_
  refine ret1 rfl S rfl ?_
  have e : aug (gr ps) (f + 1) i s0 = (false, s) := by rw [aug_succ ps f i s0 hi0, hau, List.drop_of_length_le (by omega)]; rfl
  rw [e]; exact ⟨rfl, H⟩
theorem rlook_spec (r : Nat) (vs vt vp ve : Value) (ps : List (Value × List Int)) (bw : Nat) (hvg : validG (gr ps) r = true) : ∀ f, RLookSpec f r vs vt vp ve ps bw
  | 0 => fun i s0 w0 hi hwf hf h => by have := hwf.few; omega
  | f + 1 => fun i s0 w0 hi hwf hf h => rlook_step f r vs vt vp ve ps bw hvg (rlook_spec r vs vt vp ve ps bw hvg f) i s0 w0 hi hwf hf h
set_option maxHeartbeats 4000000 in
/-- foyer/foyerref41.match -/
theorem rmatch_spec (v1 v2 : Value) (old next : List Pl) (v3 : Value) (ts : List Ow) (w0 : World) (hv1 : IsSl w0 v1 9 Pl.enc old) (hv2 : IsSl w0 v2 9 Pl.enc next) (hv3 : IsSl w0 v3 11 Ow.enc ts) (hpl : ∀ o ∈ ts, 0 ≤ o.place ∧ o.place < old.length) (hs1 : ts.length ≤ 4000) (hs2 : next.length ≤ 4000) :
    Ret Try.prog 51 #[v1, v2, v3] w0 (fun u w => HSat No w0 [OSl 3 u 1 encI (plL (oldL old ts) next)] w) := by
 refine ret_of_wp (nt := 115) Try.func51 rfl rfl rfl (fl := [(0, v1), (1, v2), (2, v3)]) rfl (fun a S => ?_)
 have H := HSat.start w0
 have H := H.ro0 (Sl v1 9 Pl.enc old) rfl (hv1)
 have H := H.ro0 (Sl v2 9 Pl.enc next) rfl (hv2)
 have H := H.ro0 (Sl v3 11 Ow.enc ts) rfl (hv3)
 have hl1 := hv1.len
 have hl2 := hv2.len
 have hl3 := hv3.len
 refine gsr ?_
 refine ga S fun a S => ?_
 refine gnt ?_
 refine gsr ?_
 refine gm S fun a S => ?_
 refine gm S fun a S => ?_
 refine gm S fun a S => ?_
 refine wl_of (op_call (wn rfl) rfl rfl S (co_func rfl Try.call53 S rfl) (accepted_spec v1 v2 old next v3 ts _ (H.sl v1) (H.sl v2) (H.sl v3) hpl (by omega) (by omega)) fun u17 w hc a S => ?_)
 obtain ⟨ps, hps, H1⟩ := hc
 have H := ((H.call2 H1 rfl rfl).freeze.swap2).freeze
 have hps : gr ps = edgesL (oldL old ts) next := hps
 have hto := old_len old ts
 have hpl0 : ps.length = ts.length := by have := congrArg List.length hps; rw [gr_len, edges_len] at this; omega
 have hvg0 := edges_valid (olds := (oldL old ts)) (next := next) (by omega) hs2
 have hvg : validG (gr ps) next.length = true := by rw [hps]; exact hvg0
 have hvp := validG_parts hvg
 obtain ⟨pu, cu, hpu⟩ := (H.sl u17).shape
 refine gy rfl rfl rfl S (y_buildf rfl Fbld131 S rfl (idx := [0]) rfl (cs := [u17, .slice none 0 0, .slice none 0 0, .slice none 0 0]) (by rw [hpu]; rfl)) fun a S => ?_
 refine wl_of (op_alloc (wn rfl) rfl rfl rfl S H Fzer131 fun b7 a w S H => ?_)
 refine wl_of (op_storea (wn rfl) rfl rfl S H rfl rfl (by simp only [List.all_cons, List.all_nil, H.sl1 u17]; rfl) Fsiz131 rfl (cs' := [_, _, _, _]) rfl fun a w S H => ?_)
 refine gnt ?_
 have S := ((((S.nil.cons S 2 rfl).cons S 1 rfl).cons S 0 rfl).cons S 6 rfl).cons S 7 rfl
 refine g_seq ?_
 refine gsr ?_
 refine ga S fun a S => ?_
 refine gnt ?_
 refine g_block ?_
 have H := H.nilO 3 1 encI
 have SU := ((((S.nil.cons S 2 rfl).cons S 1 rfl).cons S 0 rfl).cons S 6 rfl).cons S 7 rfl
 refine loopW (X := Nat) SU (fun k => [(8, .int .i64 (k : Int))]) (fun k w => k ≤ next.length ∧ ∃ vt, HSat No w0 [OSl 3 vt 1 encI (List.replicate k (-1)), Cel b7 131 [u17, vt, .slice none 0 0, .slice none 0 0], Atom.ro (RowsA 3 1 encI ps), Atom.ro (OSl 39 u17 1 encRow ps), Sl v3 11 Ow.enc ts, Sl v2 9 Pl.enc next, Sl v1 9 Pl.enc old] w) (fun k => next.length - k) 0 (S.nil.cons S 8 rfl) (⟨by omega, .slice none 0 0, H.take [OSl 3 (.slice none 0 0) 1 encI [], Cel b7 131 [u17, .slice none 0 0, .slice none 0 0, .slice none 0 0], Atom.ro (RowsA 3 1 encI ps), Atom.ro (OSl 39 u17 1 encRow ps), Sl v3 11 Ow.enc ts, Sl v2 9 Pl.enc next, Sl v1 9 Pl.enc old]⟩) (fun k a w S hW => ?_)
 simp only [List.cons_append, List.nil_append] at S
 clear H
 obtain ⟨hk, vt, H⟩ := hW
 refine g_seq ?_
 refine gsr ?_
 refine gm S fun a S => ?_
 refine gm S fun a S => ?_
 refine gy rfl rfl rfl S (y_lens rfl Try.underlying22 S H rfl) fun a S => ?_
 refine gy rfl rfl rfl S (y_bin rfl S rfl rfl rfl) fun a S => ?_
 refine gnt ?_
 refine c_if S rfl (fun h1 => ?_) (fun h1 => ?_)
 ·have h1p := h1; try simp only [DL] at h1p
  refine g_skip ?_
  refine n_then ?_
  have S := (((((S.nil.cons S 2 rfl).cons S 1 rfl).cons S 0 rfl).cons S 6 rfl).cons S 7 rfl).cons S 8 rfl
  refine g_seq ?_
  refine g_block ?_
  refine g_region ?_
  refine gy rfl rfl rfl S (y_faddrb rfl Ffo131_1 S rfl) fun a S => ?_
  refine gy rfl rfl rfl S (y_load rfl Fsca39 S H rfl rfl) fun a S => ?_
  refine wl_of (op_buildSlice (wn rfl) rfl rfl rfl Try.underlying39 Finf3 S H (idx := [0]) rfl rfl rfl (z := [.int .i64 0]) (by kernel_rfl) (cs := [_]) rfl fun b27 a w S H => ?_)
  refine wl_of (op_append ([-1]) (wn rfl) rfl rfl rfl Try.underlying39 Finf3 rfl rfl S H rfl rfl rfl rfl (by simp) (by simp [encI]) (by simp [encI, Value.oneCell']) (by simp only [List.length_cons, List.length_nil, List.length_replicate]; omega) (by simp only [List.length_cons, List.length_nil, List.length_replicate]; omega) fun u28 a w hn28 S H => ?_)
  refine gy rfl rfl rfl S (y_faddrb rfl Ffo131_1 S rfl) fun a S => ?_
  refine wl_of (op_store (wn rfl) rfl rfl S H rfl rfl (H.sl1 _) Fsiz39 rfl fun a w S H => ?_)
  dsimp only [List.set, Nat.zero_add, Nat.reduceAdd] at H
  refine gl_nil ?_
  refine n_block ?_
  refine n_then ?_
  have S := (((((S.nil.cons S 2 rfl).cons S 1 rfl).cons S 0 rfl).cons S 6 rfl).cons S 7 rfl).cons S 8 rfl
  refine g_region ?_
  refine gm S fun a S => ?_
  refine gy rfl rfl rfl S (y_add rfl S rfl rfl (by omega)) fun a S => ?_
  refine ga S fun a S => ?_
  refine gnt ?_
  exact ⟨k + 1, S.nil.cons S 8 rfl, ((((S.nil.cons S 2 rfl).cons S 1 rfl).cons S 0 rfl).cons S 6 rfl).cons S 7 rfl, ⟨by omega, u28, by rw [List.replicate_succ']; exact H.take [OSl 3 u28 1 encI (List.replicate k (-1) ++ [-1]), Cel b7 131 [u17, u28, .slice none 0 0, .slice none 0 0], Atom.ro (RowsA 3 1 encI ps), Atom.ro (OSl 39 u17 1 encRow ps), Sl v3 11 Ow.enc ts, Sl v2 9 Pl.enc next, Sl v1 9 Pl.enc old]⟩, by omega⟩
 ·have h1p := h1; try simp only [DL] at h1p
  obtain rfl : k = next.length := by omega
  refine g_exit ?_
  refine x_then (x_then (x_eq ?_))
  refine n_then ?_
  have S := ((((S.nil.cons S 2 rfl).cons S 1 rfl).cons S 0 rfl).cons S 6 rfl).cons S 7 rfl
  refine g_seq ?_
  refine gsr ?_
  refine ga S fun a S => ?_
  refine gnt ?_
  refine g_block ?_
  have H := H.nilO 3 1 encI
  have SU := ((((S.nil.cons S 2 rfl).cons S 1 rfl).cons S 0 rfl).cons S 6 rfl).cons S 7 rfl
  refine loopW (X := Nat) SU (fun k => [(9, .int .i64 (k : Int))]) (fun k w => k ≤ ts.length ∧ ∃ vp, HSat No w0 [OSl 3 vt 1 encI (List.replicate next.length (-1)), OSl 3 vp 1 encI (List.replicate k (-1)), Cel b7 131 [u17, vt, vp, .slice none 0 0], Atom.ro (RowsA 3 1 encI ps), Atom.ro (OSl 39 u17 1 encRow ps), Sl v3 11 Ow.enc ts, Sl v2 9 Pl.enc next, Sl v1 9 Pl.enc old] w) (fun k => ts.length - k) 0 (S.nil.cons S 9 rfl) (⟨by omega, .slice none 0 0, H.take [OSl 3 vt 1 encI (List.replicate next.length (-1)), OSl 3 (.slice none 0 0) 1 encI ([]), Cel b7 131 [u17, vt, (.slice none 0 0), .slice none 0 0], Atom.ro (RowsA 3 1 encI ps), Atom.ro (OSl 39 u17 1 encRow ps), Sl v3 11 Ow.enc ts, Sl v2 9 Pl.enc next, Sl v1 9 Pl.enc old]⟩) (fun k a w S hW => ?_)
  simp only [List.cons_append, List.nil_append] at S
  clear H
  obtain ⟨hk, vp, H⟩ := hW
  refine g_seq ?_
  refine gsr ?_
  refine gm S fun a S => ?_
  refine gm S fun a S => ?_
  refine gy rfl rfl rfl S (y_lens rfl Try.underlying23 S H rfl) fun a S => ?_
  refine gy rfl rfl rfl S (y_bin rfl S rfl rfl rfl) fun a S => ?_
  refine gnt ?_
  refine c_if S rfl (fun h2 => ?_) (fun h2 => ?_)
  ·have h2p := h2; try simp only [DL] at h2p
   refine g_skip ?_
   refine n_then ?_
   have S := (((((S.nil.cons S 2 rfl).cons S 1 rfl).cons S 0 rfl).cons S 6 rfl).cons S 7 rfl).cons S 9 rfl
   refine g_seq ?_
   refine g_block ?_
   refine g_region ?_
   refine gy rfl rfl rfl S (y_faddrb rfl Ffo131_2 S rfl) fun a S => ?_
   refine gy rfl rfl rfl S (y_load rfl Fsca39 S H rfl rfl) fun a S => ?_
   refine wl_of (op_buildSlice (wn rfl) rfl rfl rfl Try.underlying39 Finf3 S H (idx := [0]) rfl rfl rfl (z := [.int .i64 0]) (by kernel_rfl) (cs := [_]) rfl fun b38 a w S H => ?_)
   refine wl_of (op_append ([-1]) (wn rfl) rfl rfl rfl Try.underlying39 Finf3 rfl rfl S H rfl rfl rfl rfl (by simp) (by simp [encI]) (by simp [encI, Value.oneCell']) (by simp only [List.length_cons, List.length_nil, List.length_replicate]; omega) (by simp only [List.length_cons, List.length_nil, List.length_replicate]; omega) fun u39 a w hn39 S H => ?_)
   refine gy rfl rfl rfl S (y_faddrb rfl Ffo131_2 S rfl) fun a S => ?_
   refine wl_of (op_store (wn rfl) rfl rfl S H rfl rfl (H.sl1 _) Fsiz39 rfl fun a w S H => ?_)
   dsimp only [List.set, Nat.zero_add, Nat.reduceAdd] at H
   refine gl_nil ?_
   refine n_block ?_
   refine n_then ?_
   have S := (((((S.nil.cons S 2 rfl).cons S 1 rfl).cons S 0 rfl).cons S 6 rfl).cons S 7 rfl).cons S 9 rfl
   refine g_region ?_
   refine gm S fun a S => ?_
   refine gy rfl rfl rfl S (y_add rfl S rfl rfl (by omega)) fun a S => ?_
   refine ga S fun a S => ?_
   refine gnt ?_
   exact ⟨k + 1, S.nil.cons S 9 rfl, ((((S.nil.cons S 2 rfl).cons S 1 rfl).cons S 0 rfl).cons S 6 rfl).cons S 7 rfl, ⟨by omega, u39, by rw [List.replicate_succ']; exact H.take [OSl 3 vt 1 encI (List.replicate next.length (-1)), OSl 3 u39 1 encI (List.replicate k (-1) ++ [-1]), Cel b7 131 [u17, vt, u39, .slice none 0 0], Atom.ro (RowsA 3 1 encI ps), Atom.ro (OSl 39 u17 1 encRow ps), Sl v3 11 Ow.enc ts, Sl v2 9 Pl.enc next, Sl v1 9 Pl.enc old]⟩, by omega⟩
  ·have h2p := h2; try simp only [DL] at h2p
   obtain rfl : k = ts.length := by omega
   rw [show List.replicate next.length (-1) = (startK (oldL old ts) next 0).1 from rfl, show List.replicate ts.length (-1) = (startK (oldL old ts) next 0).2 by rw [← hto]; rfl] at H
   refine g_exit ?_
   refine x_then (x_then (x_eq ?_))
   refine n_then ?_
   have S := ((((S.nil.cons S 2 rfl).cons S 1 rfl).cons S 0 rfl).cons S 6 rfl).cons S 7 rfl
   refine g_seq ?_
   refine gsr ?_
   refine ga S fun a S => ?_
   refine gnt ?_
   refine g_block ?_
   have SU := ((((S.nil.cons S 2 rfl).cons S 1 rfl).cons S 0 rfl).cons S 6 rfl).cons S 7 rfl
   refine loopW (X := Nat) SU (fun k => [(10, .int .i64 (k : Int))]) (fun k w => k ≤ ts.length ∧ HSat No w0 [OSl 3 vt 1 encI ((startK (oldL old ts) next k).1), OSl 3 vp 1 encI ((startK (oldL old ts) next k).2), Cel b7 131 [u17, vt, vp, .slice none 0 0], Atom.ro (RowsA 3 1 encI ps), Atom.ro (OSl 39 u17 1 encRow ps), Sl v3 11 Ow.enc ts, Sl v2 9 Pl.enc next, Sl v1 9 Pl.enc old] w) (fun k => ts.length - k) 0 (S.nil.cons S 10 rfl) (⟨by omega, H.take [OSl 3 vt 1 encI ((startK (oldL old ts) next 0).1), OSl 3 vp 1 encI ((startK (oldL old ts) next 0).2), Cel b7 131 [u17, vt, vp, .slice none 0 0], Atom.ro (RowsA 3 1 encI ps), Atom.ro (OSl 39 u17 1 encRow ps), Sl v3 11 Ow.enc ts, Sl v2 9 Pl.enc next, Sl v1 9 Pl.enc old]⟩) (fun k a w S hW => ?_)
   simp only [List.cons_append, List.nil_append] at S
   clear H
   obtain ⟨hk, H⟩ := hW
   refine g_seq ?_
   refine gsr ?_
   refine gm S fun a S => ?_
   refine gm S fun a S => ?_
   refine gy rfl rfl rfl S (y_lens rfl Try.underlying23 S H rfl) fun a S => ?_
   refine gy rfl rfl rfl S (y_bin rfl S rfl rfl rfl) fun a S => ?_
   refine gnt ?_
   refine c_if S rfl (fun h3 => ?_) (fun h3 => ?_)
   ·have h3p := h3; try simp only [DL] at h3p
    have hkl : k < ts.length := by omega
    have hko : k < (oldL old ts).length := by omega
    have hkp : k < ps.length := by omega
    have hrw := gr_row ps hkp
    have hrl := (H.sl ps[k].1).len
    obtain ⟨x, hx⟩ : ∃ x : Nat, ts[k].place = x := ⟨ts[k].place.toNat, by have := hpl _ (List.getElem_mem hkl); omega⟩
    have hxn : x < old.length := by have := hpl _ (List.getElem_mem hkl); omega
    have hI := startK_inv (olds := (oldL old ts)) (next := next) (by omega) hs2 k (by omega)
    have hsl1 : (startK (oldL old ts) next k).1.length = next.length := hI.wf.lo
    have hsl2 : (startK (oldL old ts) next k).2.length = ts.length := by have := hI.wf.lg; rw [edges_len, hto] at this; exact this
    have hch := chF_at (next := next) hko
    rw [oldL_at hkl hx hxn hko, ← hps, hrw] at hch
    refine g_skip ?_
    refine n_then ?_
    have S := (((((S.nil.cons S 2 rfl).cons S 1 rfl).cons S 0 rfl).cons S 6 rfl).cons S 7 rfl).cons S 10 rfl
    refine g_seq ?_
    refine g_block ?_
    refine gsr ?_
    refine ga S fun a S => ?_
    refine gnt ?_
    refine g_block ?_
    have SU := (((((S.nil.cons S 2 rfl).cons S 1 rfl).cons S 0 rfl).cons S 6 rfl).cons S 7 rfl).cons S 10 rfl
    refine loop_k (X := Nat) SU (fun q => [(11, .int .i64 (q : Int))]) (fun q => q ≤ ps[k].2.length ∧ firstS next old[x] ps[k].2 = firstS next old[x] (ps[k].2.drop q)) (fun q => ps[k].2.length - q) 0 (S.nil.cons S 11 rfl) H (⟨by omega, rfl⟩) (fun q a w S H hi => ?_)
    simp only [List.cons_append, List.nil_append] at S hi
    obtain ⟨hq, hsk⟩ := hi
    refine g_seq ?_
    refine gsr ?_
    refine gm S fun a S => ?_
    refine gy rfl rfl rfl S (y_faddrb rfl Ffo131_0 S rfl) fun a S => ?_
    refine gy rfl rfl rfl S (y_load rfl Fsca96 S H rfl rfl) fun a S => ?_
    refine gm S fun a S => ?_
    refine gy rfl rfl rfl S (y_iaddrn rfl Try.underlying96 Fsiz39 S H rfl rfl (by first | assumption | omega | (rw [hsl1]; omega) | (rw [hsl2]; omega) | (rw [hpk]; omega))) fun a S => ?_
    refine gy rfl rfl rfl S (y_loads _ rfl Fsca39 S H rfl (by first | assumption | omega | (rw [hsl1]; omega) | (rw [hsl2]; omega) | (rw [hpk]; omega)) rfl) fun a S => ?_
    refine gy rfl rfl rfl S (y_lens rfl Try.underlying39 S H rfl) fun a S => ?_
    refine gy rfl rfl rfl S (y_bin rfl S rfl rfl rfl) fun a S => ?_
    refine gnt ?_
    have S := (((((((S.nil.cons S 2 rfl).cons S 1 rfl).cons S 0 rfl).cons S 6 rfl).cons S 7 rfl).cons S 10 rfl).cons S 11 rfl).cons S 54 rfl
    refine c_if S rfl (fun h4 => ?_) (fun h4 => ?_)
    ·have h4p := h4; try simp only [DL] at h4p
     have hql : q < ps[k].2.length := by omega
     obtain ⟨n, hn⟩ : ∃ n : Nat, ps[k].2[q] = n := ⟨ps[k].2[q].toNat, by have := hvp.2.2.2 k ps[k].2[q] (by rw [hrw]; exact List.getElem_mem _); omega⟩
     have hnr : (0 : Int) ≤ n ∧ (n : Int) < next.length := hvp.2.2.2 k n (by rw [hrw, ← hn]; exact List.getElem_mem _)
     have hnn : n < next.length := by omega
     have hfa := firstS_at (o := old[x]) hql hn hnn
     refine g_skip ?_
     refine n_then ?_
     refine g_seq ?_
     refine g_block ?_
     refine gsr ?_
     refine gy rfl rfl rfl S (y_faddrb rfl Ffo131_0 S rfl) fun a S => ?_
     refine gy rfl rfl rfl S (y_load rfl Fsca96 S H rfl rfl) fun a S => ?_
     refine gm S fun a S => ?_
     refine gy rfl rfl rfl S (y_iaddrn rfl Try.underlying96 Fsiz39 S H rfl rfl (by first | assumption | omega | (rw [hsl1]; omega) | (rw [hsl2]; omega) | (rw [hpk]; omega))) fun a S => ?_
     refine gy rfl rfl rfl S (y_loads _ rfl Fsca39 S H rfl (by first | assumption | omega | (rw [hsl1]; omega) | (rw [hsl2]; omega) | (rw [hpk]; omega)) rfl) fun a S => ?_
     refine gm S fun a S => ?_
     refine gy rfl rfl rfl S (y_iaddrn rfl Try.underlying39 Fsiz3 S H rfl rfl (by first | assumption | omega | (rw [hsl1]; omega) | (rw [hsl2]; omega) | (rw [hpk]; omega))) fun a S => ?_
     refine gy rfl rfl rfl S (y_loads _ rfl Fsca3 S H rfl (by first | assumption | omega | (rw [hsl1]; omega) | (rw [hsl2]; omega) | (rw [hpk]; omega)) rfl) fun a S => ?_
     refine ga S fun a S => ?_
     rw [hn] at S
     refine gnt ?_
     have S := (((((((S.nil.cons S 2 rfl).cons S 1 rfl).cons S 0 rfl).cons S 6 rfl).cons S 7 rfl).cons S 10 rfl).cons S 11 rfl).cons S 12 rfl
     refine g_seq ?_
     refine region_st (loud := []) (tails := []) (free := []) [0, 1, 2, 3, 4, 5, 6, 7, 8, 9, 10, 11, 12, 13] [] Fmo (by kernel_rfl) (by kernel_rfl) rfl H ?_
     refine m_w rfl rfl (wn rfl) rfl rfl S (fun w H => y_move rfl S rfl) fun a S => ?_
     refine m_w rfl rfl (wn rfl) rfl rfl S (fun w H => y_move rfl S rfl) fun a S => ?_
     refine m_w rfl rfl (wn rfl) rfl rfl S (fun w H => y_move rfl S rfl) fun a S => ?_
     refine m_w rfl rfl (wn rfl) rfl rfl S (fun w H => y_iaddrn rfl Try.underlying23 Fsiz66 S H rfl rfl (by first | assumption | omega | (rw [hsl1]; omega) | (rw [hsl2]; omega) | (rw [hpk]; omega))) fun a S => ?_
     refine m_w rfl rfl (wn rfl) rfl rfl S (fun w H => y_faddr rfl Ffo66_0 S rfl) fun a S => ?_
     refine m_w rfl rfl (wn rfl) rfl rfl S (fun w H => y_faddr rfl Ffo60_2 S rfl) fun a S => ?_
     refine m_loadsff _ rfl rfl (wn rfl) rfl rfl S rfl Fsca3 rfl (by first | assumption | omega | (rw [hsl1]; omega) | (rw [hsl2]; omega) | (rw [hpk]; omega)) rfl fun a S => ?_
     rw [hx] at S
     refine m_w rfl rfl (wn rfl) rfl rfl S (fun w H => y_iaddrn rfl Try.underlying22 Fsiz85 S H rfl rfl (by first | assumption | omega | (rw [hsl1]; omega) | (rw [hsl2]; omega) | (rw [hpk]; omega))) fun a S => ?_
     refine m_loadsa _ rfl rfl (wn rfl) rfl rfl S rfl rfl (by exact Fagg85) (by first | assumption | omega | (rw [hsl1]; omega) | (rw [hsl2]; omega) | (rw [hpk]; omega)) fun a S => ?_
     refine m_w rfl rfl (wn rfl) rfl rfl S (fun w H => y_move rfl S rfl) fun a S => ?_
     refine m_w rfl rfl (wn rfl) rfl rfl S (fun w H => y_move rfl S rfl) fun a S => ?_
     refine m_w rfl rfl (wn rfl) rfl rfl S (fun w H => y_iaddrn rfl Try.underlying22 Fsiz85 S H rfl rfl (by first | assumption | omega | (rw [hsl1]; omega) | (rw [hsl2]; omega) | (rw [hpk]; omega))) fun a S => ?_
     refine m_loadsa _ rfl rfl (wn rfl) rfl rfl S rfl rfl (by exact Fagg85) (by first | assumption | omega | (rw [hsl1]; omega) | (rw [hsl2]; omega) | (rw [hpk]; omega)) fun a S => ?_
     refine m_c rfl rfl (wn rfl) rfl rfl S (fun w => co_func rfl Try.call67 S rfl) (fun w H => sameN_spec old[x] next[n] _) fun a S => ?_
     refine m_nil (fun w H => ?_)
     refine n_then ?_
     have S := ((((((((S.nil.cons S 2 rfl).cons S 1 rfl).cons S 0 rfl).cons S 6 rfl).cons S 7 rfl).cons S 10 rfl).cons S 11 rfl).cons S 12 rfl).cons S 78 rfl
     refine c_if S rfl (fun h5 => ?_) (fun h5 => ?_)
     ·have h5p := h5; try simp only [DL] at h5p
      rw [if_pos h5] at hfa
      have hch2 : chF (oldL old ts) next k = some (n : Int) := by rw [hch, hsk]; exact hfa
      have hat := atI_eq (show n < (startK (oldL old ts) next k).1.length by omega)
      refine g_seq ?_
      refine gsr ?_
      refine gy rfl rfl rfl S (y_faddrb rfl Ffo131_1 S rfl) fun a S => ?_
      refine gy rfl rfl rfl S (y_load rfl Fsca39 S H rfl rfl) fun a S => ?_
      refine gm S fun a S => ?_
      refine gy rfl rfl rfl S (y_iaddrn rfl Try.underlying39 Fsiz3 S H rfl rfl (by first | assumption | omega | (rw [hsl1]; omega) | (rw [hsl2]; omega) | (rw [hpk]; omega))) fun a S => ?_
      refine gy rfl rfl rfl S (y_loads _ rfl Fsca3 S H rfl (by first | assumption | omega | (rw [hsl1]; omega) | (rw [hsl2]; omega) | (rw [hpk]; omega)) rfl) fun a S => ?_
      refine gy rfl rfl rfl S (y_bin rfl S rfl rfl rfl) fun a S => ?_
      refine gnt ?_
      have S := ((((((((S.nil.cons S 2 rfl).cons S 1 rfl).cons S 0 rfl).cons S 6 rfl).cons S 7 rfl).cons S 10 rfl).cons S 11 rfl).cons S 12 rfl).cons S 84 rfl
      refine c_if S rfl (fun h6 => ?_) (fun h6 => ?_)
      ·have h6p := h6; try simp only [DL] at h6p
       have stp := startK_give hch2 (by rw [hat]; exact h6p)
       refine gsr ?_
       refine gy rfl rfl rfl S (y_faddrb rfl Ffo131_1 S rfl) fun a S => ?_
       refine gy rfl rfl rfl S (y_load rfl Fsca39 S H rfl rfl) fun a S => ?_
       refine gm S fun a S => ?_
       refine gm S fun a S => ?_
       refine gy rfl rfl rfl S (y_iaddrn rfl Try.underlying39 Fsiz3 S H rfl rfl (by first | assumption | omega | (rw [hsl1]; omega) | (rw [hsl2]; omega) | (rw [hpk]; omega))) fun a S => ?_
       refine wl_of (op_store1 _ ((k : Int)) (wn rfl) rfl rfl S H rfl rfl rfl rfl Fsiz3 (by first | assumption | omega | (rw [hsl1]; omega) | (rw [hsl2]; omega) | (rw [hpk]; omega)) (by exact rfl) fun a w S H => ?_)
       refine gnt ?_
       have S := (((((((S.nil.cons S 2 rfl).cons S 1 rfl).cons S 0 rfl).cons S 6 rfl).cons S 7 rfl).cons S 10 rfl).cons S 11 rfl).cons S 12 rfl
       refine g_region ?_
       refine gy rfl rfl rfl S (y_faddrb rfl Ffo131_2 S rfl) fun a S => ?_
       refine gy rfl rfl rfl S (y_load rfl Fsca39 S H rfl rfl) fun a S => ?_
       refine gm S fun a S => ?_
       refine gm S fun a S => ?_
       refine gy rfl rfl rfl S (y_iaddrn rfl Try.underlying39 Fsiz3 S H rfl rfl (by first | assumption | omega | (rw [hsl1]; omega) | (rw [hsl2]; omega) | (rw [hpk]; omega))) fun a S => ?_
       refine wl_of (op_store1 _ ((n : Int)) (wn rfl) rfl rfl S H rfl rfl rfl rfl Fsiz3 (by first | assumption | omega | (rw [hsl1]; omega) | (rw [hsl2]; omega) | (rw [hpk]; omega)) (by exact rfl) fun a w S H => ?_)
       refine gnt ?_
       have S := ((((((S.nil.cons S 2 rfl).cons S 1 rfl).cons S 0 rfl).cons S 6 rfl).cons S 7 rfl).cons S 10 rfl).cons S 11 rfl
       refine g_exit ?_
       refine x_ne rfl (x_then (x_then (x_eq ?_)))
       refine n_block ?_
       refine n_then ?_
       refine g_region ?_
       refine gm S fun a S => ?_
       refine gy rfl rfl rfl S (y_add rfl S rfl rfl (by omega)) fun a S => ?_
       refine ga S fun a S => ?_
       refine gnt ?_
       exact ⟨k + 1, S.nil.cons S 10 rfl, ((((S.nil.cons S 2 rfl).cons S 1 rfl).cons S 0 rfl).cons S 6 rfl).cons S 7 rfl, ⟨by omega, by rw [stp]; first | exact H.take [OSl 3 vt 1 encI ((startK (oldL old ts) next k).1), OSl 3 vp 1 encI ((startK (oldL old ts) next k).2), Cel b7 131 [u17, vt, vp, .slice none 0 0], Atom.ro (RowsA 3 1 encI ps), Atom.ro (OSl 39 u17 1 encRow ps), Sl v3 11 Ow.enc ts, Sl v2 9 Pl.enc next, Sl v1 9 Pl.enc old] | exact H.take [OSl 3 vt 1 encI ((startK (oldL old ts) next k).1.set n (k : Int)), OSl 3 vp 1 encI ((startK (oldL old ts) next k).2.set k (n : Int)), Cel b7 131 [u17, vt, vp, .slice none 0 0], Atom.ro (RowsA 3 1 encI ps), Atom.ro (OSl 39 u17 1 encRow ps), Sl v3 11 Ow.enc ts, Sl v2 9 Pl.enc next, Sl v1 9 Pl.enc old]⟩, by omega⟩
      ·have h6p := h6; try simp only [DL] at h6p
       have stp := startK_taken hch2 (by rw [hat]; have := h6p; omega)
       refine g_skip ?_
       refine n_then ?_
       refine g_exit ?_
       refine x_ne rfl (x_then (x_then (x_eq ?_)))
       refine n_block ?_
       refine n_then ?_
       refine g_region ?_
       refine gm S fun a S => ?_
       refine gy rfl rfl rfl S (y_add rfl S rfl rfl (by omega)) fun a S => ?_
       refine ga S fun a S => ?_
       refine gnt ?_
       exact ⟨k + 1, S.nil.cons S 10 rfl, ((((S.nil.cons S 2 rfl).cons S 1 rfl).cons S 0 rfl).cons S 6 rfl).cons S 7 rfl, ⟨by omega, by rw [stp]; first | exact H.take [OSl 3 vt 1 encI ((startK (oldL old ts) next k).1), OSl 3 vp 1 encI ((startK (oldL old ts) next k).2), Cel b7 131 [u17, vt, vp, .slice none 0 0], Atom.ro (RowsA 3 1 encI ps), Atom.ro (OSl 39 u17 1 encRow ps), Sl v3 11 Ow.enc ts, Sl v2 9 Pl.enc next, Sl v1 9 Pl.enc old] | exact H.take [OSl 3 vt 1 encI ((startK (oldL old ts) next k).1.set n (k : Int)), OSl 3 vp 1 encI ((startK (oldL old ts) next k).2.set k (n : Int)), Cel b7 131 [u17, vt, vp, .slice none 0 0], Atom.ro (RowsA 3 1 encI ps), Atom.ro (OSl 39 u17 1 encRow ps), Sl v3 11 Ow.enc ts, Sl v2 9 Pl.enc next, Sl v1 9 Pl.enc old]⟩, by omega⟩
     ·have h5p := h5; try simp only [DL] at h5p
      rw [if_neg (by rw [h5]; simp)] at hfa
      refine g_skip ?_
      refine n_block ?_
      refine n_then ?_
      refine g_region ?_
      refine gm S fun a S => ?_
      refine gy rfl rfl rfl S (y_add rfl S rfl rfl (by omega)) fun a S => ?_
      refine ga S fun a S => ?_
      refine gnt ?_
      refine ⟨q + 1, S.nil.cons S 11 rfl, (((((S.nil.cons S 2 rfl).cons S 1 rfl).cons S 0 rfl).cons S 6 rfl).cons S 7 rfl).cons S 10 rfl, H, ?_, ?_⟩
      · exact ⟨by omega, by rw [hsk]; exact hfa⟩
      · omega
    ·have h4p := h4; try simp only [DL] at h4p
     have hch2 : chF (oldL old ts) next k = none := by rw [hch, hsk, List.drop_of_length_le (by omega)]; rfl
     have stp := startK_none hch2
     refine g_exit ?_
     refine x_then (x_then (x_eq ?_))
     refine n_block ?_
     refine n_then ?_
     refine g_region ?_
     refine gm S fun a S => ?_
     refine gy rfl rfl rfl S (y_add rfl S rfl rfl (by omega)) fun a S => ?_
     refine ga S fun a S => ?_
     refine gnt ?_
     exact ⟨k + 1, S.nil.cons S 10 rfl, ((((S.nil.cons S 2 rfl).cons S 1 rfl).cons S 0 rfl).cons S 6 rfl).cons S 7 rfl, ⟨by omega, by rw [stp]; first | exact H.take [OSl 3 vt 1 encI ((startK (oldL old ts) next k).1), OSl 3 vp 1 encI ((startK (oldL old ts) next k).2), Cel b7 131 [u17, vt, vp, .slice none 0 0], Atom.ro (RowsA 3 1 encI ps), Atom.ro (OSl 39 u17 1 encRow ps), Sl v3 11 Ow.enc ts, Sl v2 9 Pl.enc next, Sl v1 9 Pl.enc old] | exact H.take [OSl 3 vt 1 encI ((startK (oldL old ts) next k).1.set n (k : Int)), OSl 3 vp 1 encI ((startK (oldL old ts) next k).2.set k (n : Int)), Cel b7 131 [u17, vt, vp, .slice none 0 0], Atom.ro (RowsA 3 1 encI ps), Atom.ro (OSl 39 u17 1 encRow ps), Sl v3 11 Ow.enc ts, Sl v2 9 Pl.enc next, Sl v1 9 Pl.enc old]⟩, by omega⟩
   ·have h3p := h3; try simp only [DL] at h3p
    obtain rfl : k = ts.length := by omega
    refine g_exit ?_
    refine x_then (x_then (x_eq ?_))
    refine n_then ?_
    have S := (((S.nil.cons S 2 rfl).cons S 1 rfl).cons S 6 rfl).cons S 7 rfl
    refine g_seq ?_
    refine gsr ?_
    refine ga S fun a S => ?_
    refine gnt ?_
    refine g_block ?_
    rw [show startK (oldL old ts) next ts.length = pairK (oldL old ts) next 0 by rw [← hto]; rfl] at H
    have SU := (((S.nil.cons S 2 rfl).cons S 1 rfl).cons S 6 rfl).cons S 7 rfl
    refine loopW (X := Nat) SU (fun k => [(13, .int .i64 (k : Int))]) (fun k w => k ≤ ts.length ∧ ∃ vs, HSat No w0 [OSl 3 vt 1 encI ((pairK (oldL old ts) next k).1), OSl 3 vp 1 encI ((pairK (oldL old ts) next k).2), Cel b7 131 [u17, vt, vp, vs], Atom.ro (RowsA 3 1 encI ps), Atom.ro (OSl 39 u17 1 encRow ps), Sl v3 11 Ow.enc ts, Sl v2 9 Pl.enc next, Sl v1 9 Pl.enc old] w) (fun k => ts.length - k) 0 (S.nil.cons S 13 rfl) (⟨by omega, .slice none 0 0, H.take [OSl 3 vt 1 encI ((pairK (oldL old ts) next 0).1), OSl 3 vp 1 encI ((pairK (oldL old ts) next 0).2), Cel b7 131 [u17, vt, vp, .slice none 0 0], Atom.ro (RowsA 3 1 encI ps), Atom.ro (OSl 39 u17 1 encRow ps), Sl v3 11 Ow.enc ts, Sl v2 9 Pl.enc next, Sl v1 9 Pl.enc old]⟩) (fun k a w S hW => ?_)
    simp only [List.cons_append, List.nil_append] at S
    clear H
    obtain ⟨hk, vs0, H⟩ := hW
    have hpk : (pairK (oldL old ts) next k).2.length = ts.length := by have := (pairK_inv (olds := (oldL old ts)) (next := next) (by omega) hs2 k (by omega)).1.wf.lg; rw [edges_len, hto] at this; exact this
    refine g_seq ?_
    refine gsr ?_
    refine gm S fun a S => ?_
    refine gm S fun a S => ?_
    refine gy rfl rfl rfl S (y_lens rfl Try.underlying23 S H rfl) fun a S => ?_
    refine gy rfl rfl rfl S (y_bin rfl S rfl rfl rfl) fun a S => ?_
    refine gnt ?_
    refine c_if S rfl (fun h7 => ?_) (fun h7 => ?_)
    ·have h7p := h7; try simp only [DL] at h7p
     have hkl : k < ts.length := by omega
     have hI := (pairK_inv (olds := (oldL old ts)) (next := next) (by omega) hs2 k (by omega)).1
     have hatk := atI_eq (show k < (pairK (oldL old ts) next k).2.length by omega)
     refine g_skip ?_
     refine n_then ?_
     have S := ((((S.nil.cons S 2 rfl).cons S 1 rfl).cons S 6 rfl).cons S 7 rfl).cons S 13 rfl
     refine g_seq ?_
     refine g_block ?_
     refine gsr ?_
     refine gy rfl rfl rfl S (y_faddrb rfl Ffo131_2 S rfl) fun a S => ?_
     refine gy rfl rfl rfl S (y_load rfl Fsca39 S H rfl rfl) fun a S => ?_
     refine gm S fun a S => ?_
     refine gy rfl rfl rfl S (y_iaddrn rfl Try.underlying39 Fsiz3 S H rfl rfl (by first | assumption | omega | (rw [hsl1]; omega) | (rw [hsl2]; omega) | (rw [hpk]; omega))) fun a S => ?_
     refine gy rfl rfl rfl S (y_loads _ rfl Fsca3 S H rfl (by first | assumption | omega | (rw [hsl1]; omega) | (rw [hsl2]; omega) | (rw [hpk]; omega)) rfl) fun a S => ?_
     refine gy rfl rfl rfl S (y_bin rfl S rfl rfl rfl) fun a S => ?_
     refine gnt ?_
     have S := (((((S.nil.cons S 2 rfl).cons S 1 rfl).cons S 6 rfl).cons S 7 rfl).cons S 13 rfl).cons S 106 rfl
     refine c_if S rfl (fun h8 => ?_) (fun h8 => ?_)
     ·have h8p := h8; try simp only [DL] at h8p
      have hneg : atI (pairK (oldL old ts) next k).2 k < 0 := by rw [hatk]; exact h8p
      have stp := pairK_yes hneg
      refine gsr ?_
      refine gm S fun a S => ?_
      refine gy rfl rfl rfl S (y_lens rfl Try.underlying22 S H rfl) fun a S => ?_
      refine wl_of (op_make (encB) (false) (wn rfl) rfl rfl rfl Try.underlying129 Finf4 rfl rfl S H rfl rfl rfl (by omega) (by omega) fun b109 a w S H => ?_)
      rw [← seenB_nil] at H
      refine gy rfl rfl rfl S (y_faddrb rfl Ffo131_3 S rfl) fun a S => ?_
      refine wl_of (op_store (wn rfl) rfl rfl S H rfl rfl (H.sl1 _) Fsiz129 rfl fun a w S H => ?_)
      dsimp only [List.set, Nat.zero_add, Nat.reduceAdd] at H
      refine gnt ?_
      have S := ((((S.nil.cons S 2 rfl).cons S 1 rfl).cons S 6 rfl).cons S 7 rfl).cons S 13 rfl
      refine g_region ?_
      refine gm S fun a S => ?_
      refine wl_of (op_call (wn rfl) rfl rfl S (co_func rfl Try.call68 S rfl) (rlook_spec next.length (.slice (some ⟨b109, 0, none⟩) next.length next.length) vt vp u17 ps b7 hvg (fuelG next.length) k ⟨[], (pairK (oldL old ts) next k).1, (pairK (oldL old ts) next k).2⟩ _ (by omega) (by rw [hps]; exact hI.wf) (by simp [fuelG]) (H.pick [OSl 4 (.slice (some ⟨b109, 0, none⟩) next.length next.length) 1 encB (seenB next.length ([])), OSl 3 vt 1 encI ((pairK (oldL old ts) next k).1), OSl 3 vp 1 encI ((pairK (oldL old ts) next k).2), Cel b7 131 [u17, vt, vp, (.slice (some ⟨b109, 0, none⟩) next.length next.length)], Atom.ro (RowsA 3 1 encI ps), Atom.ro (OSl 39 u17 1 encRow ps)])) fun v w hc a S => ?_)
      obtain ⟨rfl, H⟩ := hc
      simp only [List.append_eq, List.nil_append] at H
      rw [hps] at H
      refine gl_nil ?_
      refine n_block ?_
      refine n_then ?_
      refine g_region ?_
      refine gm S fun a S => ?_
      refine gy rfl rfl rfl S (y_add rfl S rfl rfl (by omega)) fun a S => ?_
      refine ga S fun a S => ?_
      refine gnt ?_
      first
      | exact ⟨k + 1, S.nil.cons S 13 rfl, (((S.nil.cons S 2 rfl).cons S 1 rfl).cons S 6 rfl).cons S 7 rfl, ⟨by omega, vs0, by rw [stp]; exact H⟩, by omega⟩
      | exact ⟨k + 1, S.nil.cons S 13 rfl, (((S.nil.cons S 2 rfl).cons S 1 rfl).cons S 6 rfl).cons S 7 rfl, ⟨by omega, (.slice (some ⟨b109, 0, none⟩) next.length next.length), by rw [stp]; exact H.take [OSl 3 vt 1 encI ((aug (edgesL (oldL old ts) next) (fuelG next.length) k ⟨[], (pairK (oldL old ts) next k).1, (pairK (oldL old ts) next k).2⟩).2.owner), OSl 3 vp 1 encI ((aug (edgesL (oldL old ts) next) (fuelG next.length) k ⟨[], (pairK (oldL old ts) next k).1, (pairK (oldL old ts) next k).2⟩).2.got), Cel b7 131 [u17, vt, vp, (.slice (some ⟨b109, 0, none⟩) next.length next.length)], Atom.ro (RowsA 3 1 encI ps), Atom.ro (OSl 39 u17 1 encRow ps), Sl v3 11 Ow.enc ts, Sl v2 9 Pl.enc next, Sl v1 9 Pl.enc old]⟩, by omega⟩
     ·have h8p := h8; try simp only [DL] at h8p
      have hneg : ¬ atI (pairK (oldL old ts) next k).2 k < 0 := by rw [hatk]; have := h8p; omega
      have stp := pairK_no hneg
      refine g_skip ?_
      refine n_block ?_
      refine n_then ?_
      refine g_region ?_
      refine gm S fun a S => ?_
      refine gy rfl rfl rfl S (y_add rfl S rfl rfl (by omega)) fun a S => ?_
      refine ga S fun a S => ?_
      refine gnt ?_
      first
      | exact ⟨k + 1, S.nil.cons S 13 rfl, (((S.nil.cons S 2 rfl).cons S 1 rfl).cons S 6 rfl).cons S 7 rfl, ⟨by omega, vs0, by rw [stp]; exact H⟩, by omega⟩
      | exact ⟨k + 1, S.nil.cons S 13 rfl, (((S.nil.cons S 2 rfl).cons S 1 rfl).cons S 6 rfl).cons S 7 rfl, ⟨by omega, (.slice (some ⟨b109, 0, none⟩) next.length next.length), by rw [stp]; exact H.take [OSl 3 vt 1 encI ((aug (edgesL (oldL old ts) next) (fuelG next.length) k ⟨[], (pairK (oldL old ts) next k).1, (pairK (oldL old ts) next k).2⟩).2.owner), OSl 3 vp 1 encI ((aug (edgesL (oldL old ts) next) (fuelG next.length) k ⟨[], (pairK (oldL old ts) next k).1, (pairK (oldL old ts) next k).2⟩).2.got), Cel b7 131 [u17, vt, vp, (.slice (some ⟨b109, 0, none⟩) next.length next.length)], Atom.ro (RowsA 3 1 encI ps), Atom.ro (OSl 39 u17 1 encRow ps), Sl v3 11 Ow.enc ts, Sl v2 9 Pl.enc next, Sl v1 9 Pl.enc old]⟩, by omega⟩
    ·have h7p := h7; try simp only [DL] at h7p
     obtain rfl : k = ts.length := by omega
     refine g_exit ?_
     refine x_then (x_then (x_eq ?_))
     refine n_then ?_
     have S := (S.nil.cons S 6 rfl).cons S 7 rfl
     refine gsr ?_
     refine gy rfl rfl rfl S (y_faddrb rfl Ffo131_2 S rfl) fun a S => ?_
     refine gy rfl rfl rfl S (y_load rfl Fsca39 S H rfl rfl) fun a S => ?_
     refine ga S fun a S => ?_
     refine gnt ?_
     have S := S.nil.cons S 6 rfl
     refine g_ret ?_
     refine ret1 rfl S rfl ?_
     rw [show pairK (oldL old ts) next ts.length = pairP (oldL old ts) next by rw [← hto]; rfl] at H
     exact H.take [OSl 3 vp 1 encI (pairP (oldL old ts) next).2]
set_option maxHeartbeats 4000000 in
/-- foyer/foyerref41.cover -/
theorem rcover_spec (ve vp : Value) (ps : List (Value × List Int)) (owner got : List Int) (r : Nat) (w0 : World) (hv : IsSl w0 ve 1 encRow ps) (hr : ∀ p ∈ ps, IsSl w0 p.1 1 encI p.2) (hp : IsSl w0 vp 1 encI got) (hvg : validG (gr ps) r = true) (hgl : got.length = ps.length) (hlow : ∀ j, -1 ≤ atI got j) (hgr : ∀ j : Nat, 0 ≤ atI got j → atI got j < r) (hown : ∀ n : Nat, atI owner n < (gr ps).length) (hc1 : ∀ j : Nat, 0 ≤ atI got j → atI owner (atI got j).toNat = j) (hc2 : ∀ n : Nat, 0 ≤ atI owner n → atI got (atI owner n).toNat = n) :
    Ret Try.prog 52 #[ve, vp, .int .i64 (r : Int)] w0 (fun u w => ∃ vl vr s, u = .agg #[vl, vr] ∧ RDone (gr ps) owner got s ∧ HSat No w0 [OSl 3 vl 1 encI (coverLeft (gr ps) s ps.length), OSl 3 vr 1 encI (coverRight s r)] w) := by
 refine ret_of_wp (nt := 103) Try.func52 rfl rfl rfl (fl := [(0, ve), (1, vp), (2, .int .i64 (r : Int))]) rfl (fun a S => ?_)
 have H := HSat.start w0
 have H := H.ro0 (Sl ve 1 encRow ps) rfl (hv)
 have H := H.ro0 (RowsS 1 encI ps) rfl (hr)
 have H := H.ro0 (Sl vp 1 encI got) rfl (hp)
 have hlv := hv.len
 have hlp := hp.len
 have hgn := gr_len ps
 have hvp := validG_parts hvg
 refine gsr ?_
 refine wl_of (op_alloc (wn rfl) rfl rfl rfl S H Fzer41 fun b6 a w S H => ?_)
 refine gnt ?_
 refine gsr ?_
 refine gm S fun a S => ?_
 refine gy rfl rfl rfl S (y_lens rfl Try.underlying39 S H rfl) fun a S => ?_
 rw [hgl] at S
 refine wl_of (op_make (encB) (false) (wn rfl) rfl rfl rfl Try.underlying129 Finf4 rfl rfl S H rfl rfl rfl (by omega) (by omega) fun b17 a w S H => ?_)
 rw [← seenB_nil] at H
 refine ga S fun a S => ?_
 refine gnt ?_
 refine gsr ?_
 refine gm S fun a S => ?_
 refine wl_of (op_make (encB) (false) (wn rfl) rfl rfl rfl Try.underlying129 Finf4 rfl rfl S H rfl rfl rfl (by omega) (by omega) fun b19 a w S H => ?_)
 rw [← seenB_nil] at H
 refine ga S fun a S => ?_
 refine gnt ?_
 have S := ((((S.nil.cons S 1 rfl).cons S 0 rfl).cons S 6 rfl).cons S 7 rfl).cons S 8 rfl
 refine g_seq ?_
 refine gsr ?_
 refine ga S fun a S => ?_
 refine gnt ?_
 refine g_block ?_
 have SU := ((((S.nil.cons S 1 rfl).cons S 0 rfl).cons S 6 rfl).cons S 7 rfl).cons S 8 rfl
 refine loopW (X := Bool × RS) SU (fun x => [(9, .bool x.1)]) (fun x w => CovI (gr ps) owner got x.2 ∧ (x.1 = false → ∀ i, i < ps.length → ¬ Hit got x.2 i) ∧ HSat No w0 [OSl 4 (.slice (some ⟨b17, 0, none⟩) ps.length ps.length) 1 encB (seenB ps.length (x.2.left)), OSl 4 (.slice (some ⟨b19, 0, none⟩) r r) 1 encB (seenB r (x.2.reached)), Cel b6 41 [.slice none 0 0, .slice none 0 0], Sl vp 1 encI got, RowsS 1 encI ps, Sl ve 1 encRow ps] w) (fun x => x.1.toNat + (ps.length - x.2.left.length)) (true, ⟨[], []⟩) (S.nil.cons S 9 rfl) (⟨covI_start _ _ _, fun h => (by cases h), H.take [OSl 4 (.slice (some ⟨b17, 0, none⟩) ps.length ps.length) 1 encB (seenB ps.length ([])), OSl 4 (.slice (some ⟨b19, 0, none⟩) r r) 1 encB (seenB r ([])), Cel b6 41 [.slice none 0 0, .slice none 0 0], Sl vp 1 encI got, RowsS 1 encI ps, Sl ve 1 encRow ps]⟩) (fun x a w S hW => ?_)
 simp only [List.cons_append, List.nil_append] at S
 clear H
 obtain ⟨ag, s⟩ := x
 obtain ⟨hI, hfin, H⟩ := hW
 dsimp only at S H hI hfin
 have hfew := hI.wf.few
 refine g_seq ?_
 refine gsr ?_
 refine gm S fun a S => ?_
 refine gnt ?_
 refine c_if S rfl (fun h1 => ?_) (fun h1 => ?_)
 ·have h1p := h1; try simp only [DL] at h1p
  obtain rfl : ag = true := h1
  refine g_skip ?_
  refine n_then ?_
  refine g_block ?_
  refine gsr ?_
  refine ga S fun a S => ?_
  refine gnt ?_
  refine gsr ?_
  refine ga S fun a S => ?_
  refine gnt ?_
  refine g_block ?_
  have SU := ((((S.nil.cons S 1 rfl).cons S 0 rfl).cons S 6 rfl).cons S 7 rfl).cons S 8 rfl
  refine loopW (X := Bool × Nat × RS) SU (fun x => [(9, .bool x.1), (10, .int .i64 (x.2.1 : Int))]) (fun x w => x.2.1 ≤ ps.length ∧ CovI (gr ps) owner got x.2.2 ∧ (x.1 = false → x.2.2 = s ∧ ∀ j, j < x.2.1 → ¬ Hit got x.2.2 j) ∧ (x.1 = true → s.left.length < x.2.2.left.length) ∧ HSat No w0 [OSl 4 (.slice (some ⟨b17, 0, none⟩) ps.length ps.length) 1 encB (seenB ps.length (x.2.2.left)), OSl 4 (.slice (some ⟨b19, 0, none⟩) r r) 1 encB (seenB r (x.2.2.reached)), Cel b6 41 [.slice none 0 0, .slice none 0 0], Sl vp 1 encI got, RowsS 1 encI ps, Sl ve 1 encRow ps] w) (fun x => ps.length - x.2.1) (false, 0, s) ((S.nil.cons S 10 rfl).cons S 9 rfl) (⟨by simp, hI, fun _ => ⟨rfl, fun j hj => by simp at hj⟩, fun h => (by cases h), H⟩) (fun x a w S hW => ?_)
  simp only [List.cons_append, List.nil_append] at S
  clear H
  obtain ⟨ag2, i, s2⟩ := x
  obtain ⟨hi, hI2, hno, hyes, H⟩ := hW
  dsimp only at S H hi hI2 hno hyes
  refine g_seq ?_
  refine gsr ?_
  refine gm S fun a S => ?_
  refine gm S fun a S => ?_
  refine gy rfl rfl rfl S (y_lens rfl Try.underlying39 S H rfl) fun a S => ?_
  refine gy rfl rfl rfl S (y_bin rfl S rfl rfl rfl) fun a S => ?_
  refine gnt ?_
  refine c_if S rfl (fun h2 => ?_) (fun h2 => ?_)
  ·have h2p := h2; try simp only [DL] at h2p
   have hil : i < ps.length := by omega
   have hlw : -1 ≤ got.getD i (-1) := hlow i
   have hrg : 0 ≤ got.getD i (-1) → got.getD i (-1) < r := hgr i
   have hrw := gr_row ps hil
   have hrl := (hr _ (List.getElem_mem hil)).len
   refine g_skip ?_
   refine n_then ?_
   have S := ((((((S.nil.cons S 1 rfl).cons S 0 rfl).cons S 6 rfl).cons S 7 rfl).cons S 8 rfl).cons S 10 rfl).cons S 9 rfl
   refine g_seq ?_
   refine g_block ?_
   refine gsr ?_
   refine gm S fun a S => ?_
   refine gm S fun a S => ?_
   refine gy rfl rfl rfl S (y_iaddrn rfl Try.underlying129 Fsiz4 S H rfl rfl (by first | assumption | omega | (rw [seenB_len]; omega))) fun a S => ?_
   refine gy rfl rfl rfl S (y_loads _ rfl Fsca4 S H rfl (by first | assumption | omega | (rw [seenB_len]; omega)) rfl) fun a S => ?_
   refine gy rfl rfl rfl S (y_not rfl S rfl) fun a S => ?_
   refine gm S fun a S => ?_
   refine' wl_and 14 32 rfl S H rfl rfl rfl rfl rfl rfl rfl (fun _ S => (wn rfl)) (fun h3 kk => ?yh3) (fun a w S H => ?_)
   case yh3 =>
    have h3p := h3; try simp only [DL] at h3p
    refine gz 32 h3 S rfl rfl rfl rfl rfl rfl (y_move rfl S rfl) fun a S => ?_
    refine gz 32 h3 S rfl rfl rfl rfl rfl rfl (y_move rfl S rfl) fun a S => ?_
    refine gz 32 h3 S rfl rfl rfl rfl rfl rfl (y_iaddrn rfl Try.underlying39 Fsiz3 S H rfl rfl (by first | assumption | omega | (rw [seenB_len]; omega))) fun a S => ?_
    refine gz 32 h3 S rfl rfl rfl rfl rfl rfl (y_loadsD _ (-1) rfl Fsca3 S H rfl (by omega) rfl) fun a S => ?_
    refine gz 32 h3 S rfl rfl rfl rfl rfl rfl (y_bin rfl S rfl rfl rfl) fun a S => ?_
    refine gz 32 h3 S rfl rfl rfl rfl rfl rfl (y_move rfl S rfl) fun a S => ?_
    refine' wl_or 7 38 rfl S H rfl rfl rfl rfl rfl rfl rfl (fun _ S => (wg' 32 rfl rfl S rfl h3 rfl)) (fun h4 kk => ?yh4) (fun a w S H => ?_)
    case yh4 =>
     have h4p := h4; try simp only [DL] at h4p
     refine gz 38 h4 S rfl rfl rfl rfl rfl rfl (y_move rfl S rfl) fun a S => ?_
     refine gz 38 h4 S rfl rfl rfl rfl rfl rfl (y_move rfl S rfl) fun a S => ?_
     refine gz 38 h4 S rfl rfl rfl rfl rfl rfl (y_move rfl S rfl) fun a S => ?_
     refine gz 38 h4 S rfl rfl rfl rfl rfl rfl (y_iaddrn rfl Try.underlying39 Fsiz3 S H rfl rfl (by first | assumption | omega | (rw [seenB_len]; omega))) fun a S => ?_
     refine gz 38 h4 S rfl rfl rfl rfl rfl rfl (y_loadsD _ (-1) rfl Fsca3 S H rfl (by omega) rfl) fun a S => ?_
     refine gz 38 h4 S rfl rfl rfl rfl rfl rfl (y_iaddrs rfl Try.underlying129 Fsiz4 S H rfl rfl (by first | assumption | omega | (rw [seenB_len]; omega))) fun a S => ?_
     refine gz 38 h4 S rfl rfl rfl rfl rfl rfl (y_loadsD _ false rfl Fsca4 S H rfl (by rw [seenB_len]; omega) rfl) fun a S => ?_
     refine gz 32 h3 S rfl rfl rfl rfl rfl rfl (y_or' rfl h4 S rfl rfl) fun a S => ?_
     exact kk _ _ (S.join 8 46 rfl rfl) H
    refine gy rfl rfl rfl S (y_and' rfl h3 S rfl rfl) fun a S => ?_
    exact kk _ _ (S.join 8 47 rfl rfl) H
   refine gnt ?_
   have S := (((((((S.nil.cons S 1 rfl).cons S 0 rfl).cons S 6 rfl).cons S 7 rfl).cons S 8 rfl).cons S 10 rfl).cons S 9 rfl).cons S 47 rfl
   refine c_if S rfl (fun h5 => ?_) (fun h5 => ?_)
   ·have h5p := h5; try simp only [DL] at h5p
    have hx := h5
    rw [seenB_get] at hx
    simp only [Bool.and_eq_true, Bool.or_eq_true, Bool.not_eq_true', decide_eq_true_eq, decide_eq_false_iff_not] at hx
    have hh : Hit got s2 i := ⟨hx.1, by
      by_cases h0 : got.getD i (-1) < 0
      · exact .inl h0
      · right
        rcases hx.2 with h | h
        · exact absurd h h0
        · rw [seenB_getD _ _ _ (by omega), Int.toNat_of_nonneg (by omega)] at h; exact of_decide_eq_true h⟩
    have hI3 := covI_add hI2 (by omega) hh hc1
    rw [hrw] at hI3
    have hlt3 : s.left.length < ((i : Int) :: s2.left).length := by
      cases ag2 with
      | true => have := hyes rfl; simp only [List.length_cons]; omega
      | false => rw [(hno rfl).1]; simp
    refine gsr ?_
    refine gm S fun a S => ?_
    refine gm S fun a S => ?_
    refine gy rfl rfl rfl S (y_iaddrn rfl Try.underlying129 Fsiz4 S H rfl rfl (by first | assumption | omega | (rw [seenB_len]; omega))) fun a S => ?_
    refine wl_of (op_store1 _ (true) (wn rfl) rfl rfl S H rfl rfl rfl rfl Fsiz4 (by first | assumption | omega | (rw [seenB_len]; omega)) (by exact rfl) fun a w S H => ?_)
    refine gnt ?_
    have S := ((((((S.nil.cons S 1 rfl).cons S 0 rfl).cons S 6 rfl).cons S 7 rfl).cons S 8 rfl).cons S 10 rfl).cons S 9 rfl
    refine gsr ?_
    refine ga S fun a S => ?_
    refine gnt ?_
    refine gsr ?_
    refine ga S fun a S => ?_
    refine gnt ?_
    refine g_block ?_
    rw [seenB_set] at H
    have SU := ((((((S.nil.cons S 1 rfl).cons S 0 rfl).cons S 6 rfl).cons S 7 rfl).cons S 8 rfl).cons S 10 rfl).cons S 9 rfl
    refine loopW (X := Nat) SU (fun q => [(11, .int .i64 (q : Int))]) (fun q w => q ≤ ps[i].2.length ∧ HSat No w0 [OSl 4 (.slice (some ⟨b17, 0, none⟩) ps.length ps.length) 1 encB (seenB ps.length ((i : Int) :: s2.left)), OSl 4 (.slice (some ⟨b19, 0, none⟩) r r) 1 encB (seenB r ((ps[i].2.take q).reverse ++ s2.reached)), Cel b6 41 [.slice none 0 0, .slice none 0 0], Sl vp 1 encI got, RowsS 1 encI ps, Sl ve 1 encRow ps] w) (fun q => ps[i].2.length - q) 0 (S.nil.cons S 11 rfl) (⟨by omega, H⟩) (fun q a w S hW => ?_)
    simp only [List.cons_append, List.nil_append] at S
    clear H
    obtain ⟨hq, H⟩ := hW
    refine g_seq ?_
    refine gsr ?_
    refine gm S fun a S => ?_
    refine gm S fun a S => ?_
    refine gm S fun a S => ?_
    refine gy rfl rfl rfl S (y_iaddrn rfl Try.underlying96 Fsiz39 S H rfl rfl (by first | assumption | omega | (rw [seenB_len]; omega))) fun a S => ?_
    refine gy rfl rfl rfl S (y_loads _ rfl Fsca39 S H rfl (by first | assumption | omega | (rw [seenB_len]; omega)) rfl) fun a S => ?_
    refine gy rfl rfl rfl S (y_lens rfl Try.underlying39 S H rfl) fun a S => ?_
    refine gy rfl rfl rfl S (y_bin rfl S rfl rfl rfl) fun a S => ?_
    refine gnt ?_
    have S := ((((((((S.nil.cons S 1 rfl).cons S 0 rfl).cons S 6 rfl).cons S 7 rfl).cons S 8 rfl).cons S 10 rfl).cons S 9 rfl).cons S 11 rfl).cons S 57 rfl
    refine c_if S rfl (fun h6 => ?_) (fun h6 => ?_)
    ·have h6p := h6; try simp only [DL] at h6p
     have hql : q < ps[i].2.length := by omega
     obtain ⟨n, hn⟩ : ∃ n : Nat, ps[i].2[q] = n := ⟨ps[i].2[q].toNat, by have := hvp.2.2.2 i ps[i].2[q] (by rw [hrw]; exact List.getElem_mem _); omega⟩
     have hnr := hvp.2.2.2 i ps[i].2[q] (by rw [hrw]; exact List.getElem_mem _)
     rw [hn] at hnr
     have hnn : n < r := by omega
     refine g_skip ?_
     refine n_then ?_
     refine g_seq ?_
     refine g_block ?_
     refine g_region ?_
     refine gm S fun a S => ?_
     refine gm S fun a S => ?_
     refine gm S fun a S => ?_
     refine gy rfl rfl rfl S (y_iaddrn rfl Try.underlying96 Fsiz39 S H rfl rfl (by first | assumption | omega | (rw [seenB_len]; omega))) fun a S => ?_
     refine gy rfl rfl rfl S (y_loads _ rfl Fsca39 S H rfl (by first | assumption | omega | (rw [seenB_len]; omega)) rfl) fun a S => ?_
     refine gm S fun a S => ?_
     refine gy rfl rfl rfl S (y_iaddrn rfl Try.underlying39 Fsiz3 S H rfl rfl (by first | assumption | omega | (rw [seenB_len]; omega))) fun a S => ?_
     refine gy rfl rfl rfl S (y_loads _ rfl Fsca3 S H rfl (by first | assumption | omega | (rw [seenB_len]; omega)) rfl) fun a S => ?_
     rw [hn] at S
     refine gy rfl rfl rfl S (y_iaddrn rfl Try.underlying129 Fsiz4 S H rfl rfl (by first | assumption | omega | (rw [seenB_len]; omega))) fun a S => ?_
     refine wl_of (op_store1 _ (true) (wn rfl) rfl rfl S H rfl rfl rfl rfl Fsiz4 (by first | assumption | omega | (rw [seenB_len]; omega)) (by exact rfl) fun a w S H => ?_)
     refine gl_nil ?_
     refine n_block ?_
     refine n_then ?_
     have S := (((((((S.nil.cons S 1 rfl).cons S 0 rfl).cons S 6 rfl).cons S 7 rfl).cons S 8 rfl).cons S 10 rfl).cons S 9 rfl).cons S 11 rfl
     refine g_region ?_
     refine gm S fun a S => ?_
     refine gy rfl rfl rfl S (y_add rfl S rfl rfl (by omega)) fun a S => ?_
     refine ga S fun a S => ?_
     refine gnt ?_
     rw [seenB_set] at H
     exact ⟨q + 1, S.nil.cons S 11 rfl, ((((((S.nil.cons S 1 rfl).cons S 0 rfl).cons S 6 rfl).cons S 7 rfl).cons S 8 rfl).cons S 10 rfl).cons S 9 rfl, ⟨by omega, by rw [List.take_succ_eq_append_getElem hql, List.reverse_append, List.reverse_singleton, hn]; exact H⟩, by omega⟩
    ·have h6p := h6; try simp only [DL] at h6p
     obtain rfl : q = ps[i].2.length := by omega
     rw [List.take_length] at H
     refine g_exit ?_
     refine x_then (x_then (x_eq ?_))
     refine n_block ?_
     refine n_then ?_
     refine g_region ?_
     refine gm S fun a S => ?_
     refine gy rfl rfl rfl S (y_add rfl S rfl rfl (by omega)) fun a S => ?_
     refine ga S fun a S => ?_
     refine gnt ?_
     first
     | exact ⟨(ag2, i + 1, s2), (S.nil.cons S 10 rfl).cons S 9 rfl, ((((S.nil.cons S 1 rfl).cons S 0 rfl).cons S 6 rfl).cons S 7 rfl).cons S 8 rfl, ⟨by dsimp only; omega, hI2, fun e => ⟨(hno e).1, fun j hj => by by_cases e2 : j < i; exact (hno e).2 j e2; (obtain rfl : j = i := by dsimp only at hj; omega); exact hnh⟩, hyes, H⟩, by dsimp only; omega⟩
     | exact ⟨(true, i + 1, ⟨(i : Int) :: s2.left, ps[i].2.reverse ++ s2.reached⟩), (S.nil.cons S 10 rfl).cons S 9 rfl, ((((S.nil.cons S 1 rfl).cons S 0 rfl).cons S 6 rfl).cons S 7 rfl).cons S 8 rfl, ⟨by dsimp only; omega, hI3, fun e => (by cases e), fun _ => hlt3, H⟩, by dsimp only; omega⟩
   ·have h5p := h5; try simp only [DL] at h5p
    have hnh : ¬ Hit got s2 i := fun hh => by
      have hx := h5
      rw [seenB_get, decide_eq_false hh.1] at hx
      rcases hh.2 with h0 | h0
      · rw [decide_eq_true (show got.getD i (-1) < 0 from h0)] at hx; simp at hx
      · by_cases h1 : got.getD i (-1) < 0
        · rw [decide_eq_true h1] at hx; simp at hx
        · rw [seenB_getD _ _ _ (by omega), Int.toNat_of_nonneg (by omega), decide_eq_true (show got.getD i (-1) ∈ s2.reached from h0)] at hx; simp at hx
    refine g_skip ?_
    refine n_block ?_
    refine n_then ?_
    refine g_region ?_
    refine gm S fun a S => ?_
    refine gy rfl rfl rfl S (y_add rfl S rfl rfl (by omega)) fun a S => ?_
    refine ga S fun a S => ?_
    refine gnt ?_
    first
    | exact ⟨(ag2, i + 1, s2), (S.nil.cons S 10 rfl).cons S 9 rfl, ((((S.nil.cons S 1 rfl).cons S 0 rfl).cons S 6 rfl).cons S 7 rfl).cons S 8 rfl, ⟨by dsimp only; omega, hI2, fun e => ⟨(hno e).1, fun j hj => by by_cases e2 : j < i; exact (hno e).2 j e2; (obtain rfl : j = i := by dsimp only at hj; omega); exact hnh⟩, hyes, H⟩, by dsimp only; omega⟩
    | exact ⟨(true, i + 1, ⟨(i : Int) :: s2.left, ps[i].2.reverse ++ s2.reached⟩), (S.nil.cons S 10 rfl).cons S 9 rfl, ((((S.nil.cons S 1 rfl).cons S 0 rfl).cons S 6 rfl).cons S 7 rfl).cons S 8 rfl, ⟨by dsimp only; omega, hI3, fun e => (by cases e), fun _ => hlt3, H⟩, by dsimp only; omega⟩
  ·have h2p := h2; try simp only [DL] at h2p
   obtain rfl : i = ps.length := by omega
   refine g_exit ?_
   refine x_then (x_then (x_eq ?_))
   refine n_block ?_
   refine n_then ?_
   exact ⟨(ag2, s2), S.nil.cons S 9 rfl, ((((S.nil.cons S 1 rfl).cons S 0 rfl).cons S 6 rfl).cons S 7 rfl).cons S 8 rfl, ⟨hI2, fun e => by obtain ⟨rfl, h⟩ := hno e; exact h, H⟩, by dsimp only; have := hI2.wf.few; cases ag2 with | true => (have := hyes rfl; simp only [Bool.toNat_true]; omega) | false => (obtain ⟨rfl, _⟩ := hno rfl; simp only [Bool.toNat_true, Bool.toNat_false]; omega)⟩
 ·have h1p := h1; try simp only [DL] at h1p
  have hcl := hfin h1
  refine g_exit ?_
  refine x_then (x_then (x_eq ?_))
  refine n_then ?_
  have S := ((S.nil.cons S 6 rfl).cons S 7 rfl).cons S 8 rfl
  refine gsr ?_
  refine wl_of (op_alloc (wn rfl) rfl rfl rfl S H Fzer41 fun b12 a w S H => ?_)
  refine gnt ?_
  refine g_seq ?_
  refine gsr ?_
  refine ga S fun a S => ?_
  refine gnt ?_
  refine g_block ?_
  have H := H.nilO 3 1 encI
  have SU := (((S.nil.cons S 6 rfl).cons S 7 rfl).cons S 8 rfl).cons S 12 rfl
  refine loopW (X := Nat) SU (fun k => [(13, .int .i64 (k : Int))]) (fun k w => k ≤ ps.length ∧ ∃ vl, HSat No w0 [Cel b12 41 [vl, .slice none 0 0], OSl 3 vl 1 encI (coverLeft (gr ps) s k), OSl 4 (.slice (some ⟨b17, 0, none⟩) ps.length ps.length) 1 encB (seenB ps.length (s.left)), OSl 4 (.slice (some ⟨b19, 0, none⟩) r r) 1 encB (seenB r (s.reached)), Cel b6 41 [.slice none 0 0, .slice none 0 0], Sl vp 1 encI got, RowsS 1 encI ps, Sl ve 1 encRow ps] w) (fun k => ps.length - k) 0 (S.nil.cons S 13 rfl) (⟨by omega, .slice none 0 0, H.take [Cel b12 41 [.slice none 0 0, .slice none 0 0], OSl 3 (.slice none 0 0) 1 encI ([]), OSl 4 (.slice (some ⟨b17, 0, none⟩) ps.length ps.length) 1 encB (seenB ps.length (s.left)), OSl 4 (.slice (some ⟨b19, 0, none⟩) r r) 1 encB (seenB r (s.reached)), Cel b6 41 [.slice none 0 0, .slice none 0 0], Sl vp 1 encI got, RowsS 1 encI ps, Sl ve 1 encRow ps]⟩) (fun k a w S hW => ?_)
  simp only [List.cons_append, List.nil_append] at S
  clear H
  obtain ⟨hk, vl, H⟩ := hW
  have hcl2 := coverLeft_len (gr ps) s k
  refine g_seq ?_
  refine gsr ?_
  refine gm S fun a S => ?_
  refine gm S fun a S => ?_
  refine gy rfl rfl rfl S (y_lens rfl Try.underlying129 S H rfl) fun a S => ?_
  rw [seenB_len] at S
  refine gy rfl rfl rfl S (y_bin rfl S rfl rfl rfl) fun a S => ?_
  refine gnt ?_
  refine c_if S rfl (fun h7 => ?_) (fun h7 => ?_)
  ·have h7p := h7; try simp only [DL] at h7p
   have hkl : k < ps.length := by omega
   refine g_skip ?_
   refine n_then ?_
   have S := ((((S.nil.cons S 6 rfl).cons S 7 rfl).cons S 8 rfl).cons S 12 rfl).cons S 13 rfl
   refine g_seq ?_
   refine g_block ?_
   refine gsr ?_
   refine gm S fun a S => ?_
   refine gm S fun a S => ?_
   refine gy rfl rfl rfl S (y_iaddrn rfl Try.underlying129 Fsiz4 S H rfl rfl (by first | assumption | omega | (rw [seenB_len]; omega))) fun a S => ?_
   refine gy rfl rfl rfl S (y_loads _ rfl Fsca4 S H rfl (by first | assumption | omega | (rw [seenB_len]; omega)) rfl) fun a S => ?_
   refine gy rfl rfl rfl S (y_not rfl S rfl) fun a S => ?_
   refine gnt ?_
   have S := (((((S.nil.cons S 6 rfl).cons S 7 rfl).cons S 8 rfl).cons S 12 rfl).cons S 13 rfl).cons S 79 rfl
   refine c_if S rfl (fun h8 => ?_) (fun h8 => ?_)
   ·have h8p := h8; try simp only [DL] at h8p
    have hx : (k : Int) ∉ s.left := by have := h8; rw [seenB_get] at this; simpa using this
    refine g_region ?_
    refine gy rfl rfl rfl S (y_faddrb rfl Ffo41_0 S rfl) fun a S => ?_
    refine gy rfl rfl rfl S (y_load rfl Fsca39 S H rfl rfl) fun a S => ?_
    refine gm S fun a S => ?_
    refine wl_of (op_buildSlice (wn rfl) rfl rfl rfl Try.underlying39 Finf3 S H (idx := [0]) rfl rfl rfl (z := [.int .i64 0]) (by kernel_rfl) (cs := [_]) rfl fun b83 a w S H => ?_)
    refine wl_of (op_append ([(k : Int)]) (wn rfl) rfl rfl rfl Try.underlying39 Finf3 rfl rfl S H rfl rfl rfl rfl (by simp) (by simp [encI]) (by simp [encI, Value.oneCell']) (by simp only [List.length_cons, List.length_nil]; omega) (by simp only [List.length_cons, List.length_nil]; omega) fun u84 a w hn84 S H => ?_)
    refine gy rfl rfl rfl S (y_faddrb rfl Ffo41_0 S rfl) fun a S => ?_
    refine wl_of (op_store (wn rfl) rfl rfl S H rfl rfl (H.sl1 _) Fsiz39 rfl fun a w S H => ?_)
    dsimp only [List.set, Nat.zero_add, Nat.reduceAdd] at H
    refine gl_nil ?_
    refine n_block ?_
    refine n_then ?_
    have S := ((((S.nil.cons S 6 rfl).cons S 7 rfl).cons S 8 rfl).cons S 12 rfl).cons S 13 rfl
    refine g_region ?_
    refine gm S fun a S => ?_
    refine gy rfl rfl rfl S (y_add rfl S rfl rfl (by omega)) fun a S => ?_
    refine ga S fun a S => ?_
    refine gnt ?_
    first
    | exact ⟨k + 1, S.nil.cons S 13 rfl, (((S.nil.cons S 6 rfl).cons S 7 rfl).cons S 8 rfl).cons S 12 rfl, ⟨by omega, vl, by rw [coverLeft, if_pos hx]; exact H⟩, by omega⟩
    | exact ⟨k + 1, S.nil.cons S 13 rfl, (((S.nil.cons S 6 rfl).cons S 7 rfl).cons S 8 rfl).cons S 12 rfl, ⟨by omega, u84, by rw [coverLeft, if_neg hx]; exact H.take [Cel b12 41 [u84, .slice none 0 0], OSl 3 u84 1 encI (coverLeft (gr ps) s k ++ [(k : Int)]), OSl 4 (.slice (some ⟨b17, 0, none⟩) ps.length ps.length) 1 encB (seenB ps.length (s.left)), OSl 4 (.slice (some ⟨b19, 0, none⟩) r r) 1 encB (seenB r (s.reached)), Cel b6 41 [.slice none 0 0, .slice none 0 0], Sl vp 1 encI got, RowsS 1 encI ps, Sl ve 1 encRow ps]⟩, by omega⟩
   ·have h8p := h8; try simp only [DL] at h8p
    have hx : (k : Int) ∈ s.left := by have := h8; rw [seenB_get] at this; simpa using this
    refine g_skip ?_
    refine n_block ?_
    refine n_then ?_
    refine g_region ?_
    refine gm S fun a S => ?_
    refine gy rfl rfl rfl S (y_add rfl S rfl rfl (by omega)) fun a S => ?_
    refine ga S fun a S => ?_
    refine gnt ?_
    first
    | exact ⟨k + 1, S.nil.cons S 13 rfl, (((S.nil.cons S 6 rfl).cons S 7 rfl).cons S 8 rfl).cons S 12 rfl, ⟨by omega, vl, by rw [coverLeft, if_pos hx]; exact H⟩, by omega⟩
    | exact ⟨k + 1, S.nil.cons S 13 rfl, (((S.nil.cons S 6 rfl).cons S 7 rfl).cons S 8 rfl).cons S 12 rfl, ⟨by omega, u84, by rw [coverLeft, if_neg hx]; exact H.take [Cel b12 41 [u84, .slice none 0 0], OSl 3 u84 1 encI (coverLeft (gr ps) s k ++ [(k : Int)]), OSl 4 (.slice (some ⟨b17, 0, none⟩) ps.length ps.length) 1 encB (seenB ps.length (s.left)), OSl 4 (.slice (some ⟨b19, 0, none⟩) r r) 1 encB (seenB r (s.reached)), Cel b6 41 [.slice none 0 0, .slice none 0 0], Sl vp 1 encI got, RowsS 1 encI ps, Sl ve 1 encRow ps]⟩, by omega⟩
  ·have h7p := h7; try simp only [DL] at h7p
   obtain rfl : k = ps.length := by omega
   refine g_exit ?_
   refine x_then (x_then (x_eq ?_))
   refine n_then ?_
   have S := ((S.nil.cons S 6 rfl).cons S 8 rfl).cons S 12 rfl
   refine g_seq ?_
   refine gsr ?_
   refine ga S fun a S => ?_
   refine gnt ?_
   refine g_block ?_
   have H := H.nilO 3 1 encI
   have SU := ((S.nil.cons S 6 rfl).cons S 8 rfl).cons S 12 rfl
   refine loopW (X := Nat) SU (fun k => [(14, .int .i64 (k : Int))]) (fun k w => k ≤ r ∧ ∃ vr, HSat No w0 [OSl 3 vl 1 encI (coverLeft (gr ps) s ps.length), Cel b12 41 [vl, vr], OSl 3 vr 1 encI (coverRight s k), OSl 4 (.slice (some ⟨b17, 0, none⟩) ps.length ps.length) 1 encB (seenB ps.length (s.left)), OSl 4 (.slice (some ⟨b19, 0, none⟩) r r) 1 encB (seenB r (s.reached)), Cel b6 41 [.slice none 0 0, .slice none 0 0], Sl vp 1 encI got, RowsS 1 encI ps, Sl ve 1 encRow ps] w) (fun k => r - k) 0 (S.nil.cons S 14 rfl) (⟨by omega, .slice none 0 0, H.take [OSl 3 vl 1 encI (coverLeft (gr ps) s ps.length), Cel b12 41 [vl, .slice none 0 0], OSl 3 (.slice none 0 0) 1 encI ([]), OSl 4 (.slice (some ⟨b17, 0, none⟩) ps.length ps.length) 1 encB (seenB ps.length (s.left)), OSl 4 (.slice (some ⟨b19, 0, none⟩) r r) 1 encB (seenB r (s.reached)), Cel b6 41 [.slice none 0 0, .slice none 0 0], Sl vp 1 encI got, RowsS 1 encI ps, Sl ve 1 encRow ps]⟩) (fun k a w S hW => ?_)
   simp only [List.cons_append, List.nil_append] at S
   clear H
   obtain ⟨hk, vr, H⟩ := hW
   have hcr2 := coverRight_len s k
   refine g_seq ?_
   refine gsr ?_
   refine gm S fun a S => ?_
   refine gm S fun a S => ?_
   refine gy rfl rfl rfl S (y_lens rfl Try.underlying129 S H rfl) fun a S => ?_
   rw [seenB_len] at S
   refine gy rfl rfl rfl S (y_bin rfl S rfl rfl rfl) fun a S => ?_
   refine gnt ?_
   refine c_if S rfl (fun h9 => ?_) (fun h9 => ?_)
   ·have h9p := h9; try simp only [DL] at h9p
    refine g_skip ?_
    refine n_then ?_
    have S := (((S.nil.cons S 6 rfl).cons S 8 rfl).cons S 12 rfl).cons S 14 rfl
    refine g_seq ?_
    refine g_block ?_
    refine gsr ?_
    refine gm S fun a S => ?_
    refine gm S fun a S => ?_
    refine gy rfl rfl rfl S (y_iaddrn rfl Try.underlying129 Fsiz4 S H rfl rfl (by first | assumption | omega | (rw [seenB_len]; omega))) fun a S => ?_
    refine gy rfl rfl rfl S (y_loads _ rfl Fsca4 S H rfl (by first | assumption | omega | (rw [seenB_len]; omega)) rfl) fun a S => ?_
    refine gnt ?_
    refine c_if S rfl (fun h10 => ?_) (fun h10 => ?_)
    ·have h10p := h10; try simp only [DL] at h10p
     have hx : (k : Int) ∈ s.reached := by have := h10; rw [seenB_get] at this; simpa using this
     refine g_region ?_
     refine gy rfl rfl rfl S (y_faddrb rfl Ffo41_1 S rfl) fun a S => ?_
     refine gy rfl rfl rfl S (y_load rfl Fsca39 S H rfl rfl) fun a S => ?_
     refine gm S fun a S => ?_
     refine wl_of (op_buildSlice (wn rfl) rfl rfl rfl Try.underlying39 Finf3 S H (idx := [0]) rfl rfl rfl (z := [.int .i64 0]) (by kernel_rfl) (cs := [_]) rfl fun b99 a w S H => ?_)
     refine wl_of (op_append ([(k : Int)]) (wn rfl) rfl rfl rfl Try.underlying39 Finf3 rfl rfl S H rfl rfl rfl rfl (by simp) (by simp [encI]) (by simp [encI, Value.oneCell']) (by simp only [List.length_cons, List.length_nil]; omega) (by simp only [List.length_cons, List.length_nil]; omega) fun u100 a w hn100 S H => ?_)
     refine gy rfl rfl rfl S (y_faddrb rfl Ffo41_1 S rfl) fun a S => ?_
     refine wl_of (op_store (wn rfl) rfl rfl S H rfl rfl (H.sl1 _) Fsiz39 rfl fun a w S H => ?_)
     dsimp only [List.set, Nat.zero_add, Nat.reduceAdd] at H
     refine gl_nil ?_
     refine n_block ?_
     refine n_then ?_
     have S := (((S.nil.cons S 6 rfl).cons S 8 rfl).cons S 12 rfl).cons S 14 rfl
     refine g_region ?_
     refine gm S fun a S => ?_
     refine gy rfl rfl rfl S (y_add rfl S rfl rfl (by omega)) fun a S => ?_
     refine ga S fun a S => ?_
     refine gnt ?_
     first
     | exact ⟨k + 1, S.nil.cons S 14 rfl, ((S.nil.cons S 6 rfl).cons S 8 rfl).cons S 12 rfl, ⟨by omega, vr, by rw [coverRight, if_neg hx]; exact H⟩, by omega⟩
     | exact ⟨k + 1, S.nil.cons S 14 rfl, ((S.nil.cons S 6 rfl).cons S 8 rfl).cons S 12 rfl, ⟨by omega, u100, by rw [coverRight, if_pos hx]; exact H.take [OSl 3 vl 1 encI (coverLeft (gr ps) s ps.length), Cel b12 41 [vl, u100], OSl 3 u100 1 encI (coverRight s k ++ [(k : Int)]), OSl 4 (.slice (some ⟨b17, 0, none⟩) ps.length ps.length) 1 encB (seenB ps.length (s.left)), OSl 4 (.slice (some ⟨b19, 0, none⟩) r r) 1 encB (seenB r (s.reached)), Cel b6 41 [.slice none 0 0, .slice none 0 0], Sl vp 1 encI got, RowsS 1 encI ps, Sl ve 1 encRow ps]⟩, by omega⟩
    ·have h10p := h10; try simp only [DL] at h10p
     have hx : (k : Int) ∉ s.reached := by have := h10; rw [seenB_get] at this; simpa using this
     refine g_skip ?_
     refine n_block ?_
     refine n_then ?_
     have S := (((S.nil.cons S 6 rfl).cons S 8 rfl).cons S 12 rfl).cons S 14 rfl
     refine g_region ?_
     refine gm S fun a S => ?_
     refine gy rfl rfl rfl S (y_add rfl S rfl rfl (by omega)) fun a S => ?_
     refine ga S fun a S => ?_
     refine gnt ?_
     first
     | exact ⟨k + 1, S.nil.cons S 14 rfl, ((S.nil.cons S 6 rfl).cons S 8 rfl).cons S 12 rfl, ⟨by omega, vr, by rw [coverRight, if_neg hx]; exact H⟩, by omega⟩
     | exact ⟨k + 1, S.nil.cons S 14 rfl, ((S.nil.cons S 6 rfl).cons S 8 rfl).cons S 12 rfl, ⟨by omega, u100, by rw [coverRight, if_pos hx]; exact H.take [OSl 3 vl 1 encI (coverLeft (gr ps) s ps.length), Cel b12 41 [vl, u100], OSl 3 u100 1 encI (coverRight s k ++ [(k : Int)]), OSl 4 (.slice (some ⟨b17, 0, none⟩) ps.length ps.length) 1 encB (seenB ps.length (s.left)), OSl 4 (.slice (some ⟨b19, 0, none⟩) r r) 1 encB (seenB r (s.reached)), Cel b6 41 [.slice none 0 0, .slice none 0 0], Sl vp 1 encI got, RowsS 1 encI ps, Sl ve 1 encRow ps]⟩, by omega⟩
   ·have h9p := h9; try simp only [DL] at h9p
    obtain rfl : r = k := by omega
    refine g_exit ?_
    refine x_then (x_then (x_eq ?_))
    refine n_then ?_
    have S := (S.nil.cons S 6 rfl).cons S 12 rfl
    refine gsr ?_
    refine gy rfl rfl rfl S (y_load0 rfl S H rfl (by exact Fagg41)) fun a S => ?_
    refine wl_of (op_storea (wn rfl) rfl rfl S H rfl rfl (by simp only [List.all_cons, List.all_nil, H.sl1 vl, H.sl1 vr, Bool.true_and]) Fsiz41 rfl (cs' := [_, _]) rfl fun a w S H => ?_)
    refine gnt ?_
    refine g_ret ?_
    refine retc rfl S H rfl (by exact Fagg41) ?_
    exact ⟨vl, vr, s, rfl, covI_done hvg hI (fun i hi => hcl i (by omega)) hown hc2, H.take [OSl 3 vl 1 encI (coverLeft (gr ps) s ps.length), OSl 3 vr 1 encI (coverRight s r)]⟩
end Go.Proofs.Ytnnendajegdnhaa
