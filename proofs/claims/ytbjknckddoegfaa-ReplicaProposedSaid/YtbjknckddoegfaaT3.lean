/- The walks. No condition. -/
import Derived.Test.YtbjknckddoegfaaChecked
import Derived.Test.YtbjknckddoegfaaGwFam
import Derived.Test.YtbjknckddoegfaaFacts
import Derived.Test.YtbjknckddoegfaaPlainP
import Derived.Test.YtbjknckddoegfaaT0
import Derived.Test.YtbjknckddoegfaaTH
namespace Go.Proofs.Ytbjknckddoegfaa
open Go Go.Gw
set_option linter.unusedVariables false
set_option linter.unusedSimpArgs false
theorem found_step {ats : List Int} {rs : List ByteArray} {q : Int} {t : ByteArray} {m : Nat} {fb : Bool} (h1 : m < ats.length) (h2 : m < rs.length) (h : fb = true ↔ ∃ j, j < m ∧ ats[j]? = some q ∧ rs[j]? = some t) :
    ((fb || (decide (ats[m] = q) && decide (rs[m] = t))) = true ↔ ∃ j, j < m + 1 ∧ ats[j]? = some q ∧ rs[j]? = some t) := by
  rw [Bool.or_eq_true, h, Bool.and_eq_true, decide_eq_true_eq, decide_eq_true_eq]
  constructor
  · rintro (⟨j, h3, h4⟩ | ⟨h3, h4⟩)
    · exact ⟨j, by omega, h4⟩
    · exact ⟨m, by omega, by rw [List.getElem?_eq_getElem h1, h3], by rw [List.getElem?_eq_getElem h2, h4]⟩
  · rintro ⟨j, h3, h4, h5⟩
    by_cases e : j < m
    · exact .inl ⟨j, e, h4, h5⟩
    · obtain rfl : j = m := by omega
      rw [List.getElem?_eq_getElem h1] at h4; rw [List.getElem?_eq_getElem h2] at h5
      injection h4 with h4; injection h5 with h5
      exact .inr ⟨h4, h5⟩
set_option maxHeartbeats 1000000 in
/-- foyer/foyerlaw48.ReplicaProposed -/
theorem law3 (x0 : Nat) (vl : Value) (l : List OpR) (w0 : World) (hx0 : x0 < 256) (hl : IsSl w0 vl 4 OpR.enc l) (hok : ∀ x ∈ l, x.ok) :
    Ret Try.prog 5 #[.int .u8 (x0 : Int), vl] w0 (fun u w => u = .bool true ∧ Ext w0 w) := by
 refine ret_of_wp (nt := 100) Try.func5 rfl rfl rfl (fl := [(0, .int .u8 (x0 : Int)), (1, vl)]) rfl (fun a S => ?_)
 have H := HSat.start w0
 have H := H.ro0 (Sl vl 4 OpR.enc l) rfl (hl)
 have hlen := hl.len
 refine gsr ?_
 refine ga S fun a S => ?_
 refine gnt ?_
 refine gsr ?_
 refine wl_of (op_call (wn rfl) rfl rfl S (co_func rfl Try.call8 S rfl) (head_spec _) fun v w hc a S => ?_)
 obtain ⟨rfl, he⟩ := hc
 have H := H.ext he
 refine ga S fun a S => ?_
 refine gnt ?_
 refine g_seq ?_
 refine gsr ?_
 refine gm S fun a S => ?_
 refine gy rfl rfl rfl S (y_lens rfl Try.underlying22 S H rfl) fun a S => ?_
 refine gy rfl rfl rfl S (y_bin rfl S rfl rfl rfl) fun a S => ?_
 refine gnt ?_
 refine c_if S rfl (fun h1 => ?_) (fun h1 => ?_)
 ·have h1p := h1; try simp only [DL] at h1p
  refine gsr ?_
  refine gm S fun a S => ?_
  refine ga S fun a S => ?_
  refine gnt ?_
  have S := (((S.nil.cons S 1 rfl).cons S 0 rfl).cons S 5 rfl).cons S 4 rfl
  refine g_ret ?_
  refine r_then (ret1 rfl S rfl ?_)
  exact ⟨rfl, H.toExt⟩
 ·have h1p := h1; try simp only [DL] at h1p
  refine g_skip ?_
  refine n_then ?_
  have S := (((S.nil.cons S 1 rfl).cons S 0 rfl).cons S 4 rfl).cons S 5 rfl
  refine gsr ?_
  refine gm S fun a S => ?_
  refine wl_of (op_call (wn rfl) rfl rfl S (co_func rfl Try.call9 S rfl) (size_spec x0 _ hx0) fun v w hc a S => ?_)
  obtain ⟨rfl, he⟩ := hc
  have H := H.ext he
  obtain ⟨n, hn⟩ : ∃ n : Nat, n = 1 + x0 % 7 := ⟨_, rfl⟩
  rw [← hn] at S
  refine ga S fun a S => ?_
  refine gnt ?_
  refine gsr ?_
  refine gm S fun a S => ?_
  refine wl_of (op_call (wn rfl) rfl rfl S (co_func rfl Try.call10 S rfl) (new_ok n _ H (by omega)) fun v w hc a S => ?_)
  obtain ⟨c, z, rfl, H⟩ := hc
  
  refine gm S fun a S => ?_
  refine gy rfl rfl rfl S (y_extract rfl S rfl rfl) fun a S => ?_
  refine gy rfl rfl rfl S (y_extract rfl S rfl rfl) fun a S => ?_
  refine ga S fun a S => ?_
  refine ga S fun a S => ?_
  refine gnt ?_
  have S := ((((S.nil.cons S 1 rfl).cons S 4 rfl).cons S 5 rfl).cons S 6 rfl).cons S 7 rfl
  refine gsr ?_
  refine ga S fun a S => ?_
  refine gnt ?_
  refine gsr ?_
  refine ga S fun a S => ?_
  refine gnt ?_
  refine g_seq ?_
  refine gsr ?_
  refine ga S fun a S => ?_
  refine gnt ?_
  refine g_block ?_
  have SU := ((((S.nil.cons S 1 rfl).cons S 4 rfl).cons S 5 rfl).cons S 6 rfl).cons S 7 rfl
  refine loopW (X := Nat × Value × List Int × Value × List ByteArray × Grp × GV) SU (fun x => [(9, x.2.1), (10, x.2.2.2.1), (11, .int .i64 (x.1 : Int))]) (fun x w => x.1 ≤ l.length ∧ Ok x.2.2.2.2.2.1 x.1 ∧ x.2.2.2.2.2.1.n = n ∧ Prp x.2.2.2.2.2.1 x.2.2.1 x.2.2.2.2.1 ∧ x.2.2.1.length ≤ x.1 ∧ HSat No w0 (GrpA c n x.2.2.2.2.2.1 x.2.2.2.2.2.2 :: GCel c :: GPts c n :: OSl 3 x.2.1 1 encI x.2.2.1 :: OSl 9 x.2.2.2.1 1 encS x.2.2.2.2.1 :: Sl vl 4 OpR.enc l :: []) w) (fun x => l.length - x.1) (0, .slice none 0 0, [], .slice none 0 0, [], Grp.z n, z) (((S.nil.cons S 11 rfl).cons S 10 rfl).cons S 9 rfl) (⟨Nat.zero_le _, Ok.start (by omega), Grp.z_n n, Prp.start n, Nat.zero_le _, ((H.nilO 9 1 encS).nilO 3 1 encI).take [GrpA c n (Grp.z n) z, GCel c, GPts c n, OSl 3 (.slice none 0 0) 1 encI [], OSl 9 (.slice none 0 0) 1 encS [], Sl vl 4 OpR.enc l]⟩) (fun x a w S hW => ?_)
  simp only [List.cons_append, List.nil_append] at S
  obtain ⟨k, va, ats, vr, rs, g, z⟩ := x
  obtain ⟨hk, hO, hgn, hP, hal, H⟩ := hW
  dsimp only at S H hk hO hgn hP hal
  have hlr := hP.1
  refine g_seq ?_
  refine gsr ?_
  refine gm S fun a S => ?_
  refine gm S fun a S => ?_
  refine gy rfl rfl rfl S (y_lens rfl Try.underlying22 S H rfl) fun a S => ?_
  refine gy rfl rfl rfl S (y_bin rfl S rfl rfl rfl) fun a S => ?_
  refine gnt ?_
  refine c_if S rfl (fun h2 => ?_) (fun h2 => ?_)
  ·have h2p := h2; try simp only [DL] at h2p
   refine g_skip ?_
   refine n_then ?_
   have S := (((((((S.nil.cons S 1 rfl).cons S 4 rfl).cons S 5 rfl).cons S 6 rfl).cons S 7 rfl).cons S 11 rfl).cons S 10 rfl).cons S 9 rfl
   refine g_seq ?_
   refine g_block ?_
   refine gsr ?_
   refine gm S fun a S => ?_
   refine gm S fun a S => ?_
   refine gm S fun a S => ?_
   refine gm S fun a S => ?_
   refine gy rfl rfl rfl S (y_iaddrn rfl Try.underlying22 Fsiz33 S H rfl rfl (by first | assumption | omega | (simp only [LL]; omega))) fun a S => ?_
   refine gy rfl rfl rfl S (y_loadsa _ rfl S H rfl (by exact Fagg33) (by first | assumption | omega | (simp only [LL]; omega))) fun a S => ?_
   refine wl_of (op_call (wn rfl) rfl rfl S (co_func rfl Try.call23 S rfl) (do_spec c n g z l[k] _ H (hO.fit (by omega)) (hok _ (List.getElem_mem _)) (by omega)) fun v w hc a S => ?_)
   obtain ⟨rfl, z1, H⟩ := hc
   
   refine ga S fun a S => ?_
   refine gnt ?_
   have S := ((((((((S.nil.cons S 1 rfl).cons S 4 rfl).cons S 5 rfl).cons S 6 rfl).cons S 7 rfl).cons S 11 rfl).cons S 10 rfl).cons S 9 rfl).cons S 12 rfl
   refine gsr ?_
   refine gm S fun a S => ?_
   refine gy rfl rfl rfl S (y_bin rfl S rfl rfl rfl) fun a S => ?_
   refine gnt ?_
   refine c_if S rfl (fun h3 => ?_) (fun h3 => ?_)
   ·have h3p := h3; try simp only [DL] at h3p
    have hs0 : 0 ≤ saidZ g l[k] := by simpa using h3
    refine gsr ?_
    refine gm S fun a S => ?_
    refine gm S fun a S => ?_
    refine wl_of (op_buildSlice (wn rfl) rfl rfl rfl Try.underlying45 Finf3 S H (idx := [0]) rfl rfl rfl (z := [.int .i64 0]) (by kernel_rfl) (cs := [.int .i64 (saidZ g l[k])]) (by kernel_rfl) fun b47 a w S H => ?_)
    refine wl_of (op_append ([saidZ g l[k]]) (wn rfl) rfl rfl rfl Try.underlying45 Finf3 rfl rfl S H rfl rfl rfl rfl (by simp) (by simp [encI]) (by simp [encI, Value.oneCell']) (by simp only [List.length_singleton]; omega) (by simp only [List.length_singleton]; omega) fun u48 a w hn48 S H => ?_)
    refine ga S fun a S => ?_
    refine gnt ?_
    have S := (((((((S.nil.cons S 1 rfl).cons S 4 rfl).cons S 5 rfl).cons S 6 rfl).cons S 7 rfl).cons S 11 rfl).cons S 10 rfl).cons S 9 rfl
    refine g_region ?_
    refine gm S fun a S => ?_
    refine gm S fun a S => ?_
    refine gm S fun a S => ?_
    refine gy rfl rfl rfl S (y_iaddrn rfl Try.underlying22 Fsiz33 S H rfl rfl (by first | assumption | omega | (simp only [LL]; omega))) fun a S => ?_
    refine gy rfl rfl rfl S (y_faddr rfl Ffo33_3 S rfl) fun a S => ?_
    refine gy rfl rfl rfl S (y_loadsf _ rfl Fsca9 S H rfl (by first | assumption | omega | (simp only [LL]; omega)) rfl) fun a S => ?_
    refine wl_of (op_buildSlice (wn rfl) rfl rfl rfl Try.underlying39 Finf9 S H (idx := [0]) rfl rfl rfl (z := [.string ⟨#[]⟩]) (by kernel_rfl) (cs := [.string l[k].txt]) (by kernel_rfl) fun b55 a w S H => ?_)
    refine wl_of (op_append ([l[k].txt]) (wn rfl) rfl rfl rfl Try.underlying39 Finf9 rfl rfl S H rfl rfl rfl rfl (by simp) (by simp [encS]) (by simp [encS, Value.oneCell']) (by simp only [List.length_singleton]; omega) (by simp only [List.length_singleton]; omega) fun u56 a w hn56 S H => ?_)
    refine ga S fun a S => ?_
    refine gl_nil ?_
    refine n_block ?_
    refine n_then ?_
    have S := (((((((S.nil.cons S 1 rfl).cons S 4 rfl).cons S 5 rfl).cons S 6 rfl).cons S 7 rfl).cons S 11 rfl).cons S 9 rfl).cons S 10 rfl
    refine g_region ?_
    refine gm S fun a S => ?_
    refine gy rfl rfl rfl S (y_add rfl S rfl rfl (by omega)) fun a S => ?_
    refine ga S fun a S => ?_
    refine gnt ?_
    first
    | exact ⟨(k + 1, u48, (ats ++ [saidZ g l[k]]), u56, (rs ++ [l[k].txt]), g.do_ n l[k], z1), ((S.nil.cons S 11 rfl).cons S 10 rfl).cons S 9 rfl, ((((S.nil.cons S 1 rfl).cons S 4 rfl).cons S 5 rfl).cons S 6 rfl).cons S 7 rfl, ⟨by dsimp only; omega, hO.do_ n _, by dsimp only; rw [Grp.do_n]; exact hgn, hP.yes n _, by simp; omega, H.take [GrpA c n (g.do_ n l[k]) z1, GCel c, GPts c n, OSl 3 u48 1 encI (ats ++ [saidZ g l[k]]), OSl 9 u56 1 encS (rs ++ [l[k].txt]), Sl vl 4 OpR.enc l]⟩, by dsimp only; omega⟩
    | exact ⟨(k + 1, va, ats, vr, rs, g.do_ n l[k], z1), ((S.nil.cons S 11 rfl).cons S 10 rfl).cons S 9 rfl, ((((S.nil.cons S 1 rfl).cons S 4 rfl).cons S 5 rfl).cons S 6 rfl).cons S 7 rfl, ⟨by dsimp only; omega, hO.do_ n _, by dsimp only; rw [Grp.do_n]; exact hgn, hP.no n _ hs0, by dsimp only; omega, H.take [GrpA c n (g.do_ n l[k]) z1, GCel c, GPts c n, OSl 3 va 1 encI ats, OSl 9 vr 1 encS rs, Sl vl 4 OpR.enc l]⟩, by dsimp only; omega⟩
   ·have h3p := h3; try simp only [DL] at h3p
    have hs0 : ¬ 0 ≤ saidZ g l[k] := by simpa using h3
    refine g_skip ?_
    refine n_block ?_
    refine n_then ?_
    refine g_region ?_
    refine gm S fun a S => ?_
    refine gy rfl rfl rfl S (y_add rfl S rfl rfl (by omega)) fun a S => ?_
    refine ga S fun a S => ?_
    refine gnt ?_
    first
    | exact ⟨(k + 1, u48, (ats ++ [saidZ g l[k]]), u56, (rs ++ [l[k].txt]), g.do_ n l[k], z1), ((S.nil.cons S 11 rfl).cons S 10 rfl).cons S 9 rfl, ((((S.nil.cons S 1 rfl).cons S 4 rfl).cons S 5 rfl).cons S 6 rfl).cons S 7 rfl, ⟨by dsimp only; omega, hO.do_ n _, by dsimp only; rw [Grp.do_n]; exact hgn, hP.yes n _, by simp; omega, H.take [GrpA c n (g.do_ n l[k]) z1, GCel c, GPts c n, OSl 3 u48 1 encI (ats ++ [saidZ g l[k]]), OSl 9 u56 1 encS (rs ++ [l[k].txt]), Sl vl 4 OpR.enc l]⟩, by dsimp only; omega⟩
    | exact ⟨(k + 1, va, ats, vr, rs, g.do_ n l[k], z1), ((S.nil.cons S 11 rfl).cons S 10 rfl).cons S 9 rfl, ((((S.nil.cons S 1 rfl).cons S 4 rfl).cons S 5 rfl).cons S 6 rfl).cons S 7 rfl, ⟨by dsimp only; omega, hO.do_ n _, by dsimp only; rw [Grp.do_n]; exact hgn, hP.no n _ hs0, by dsimp only; omega, H.take [GrpA c n (g.do_ n l[k]) z1, GCel c, GPts c n, OSl 3 va 1 encI ats, OSl 9 vr 1 encS rs, Sl vl 4 OpR.enc l]⟩, by dsimp only; omega⟩
  ·have h2p := h2; try simp only [DL] at h2p
   refine g_exit ?_
   refine x_then (x_then (x_eq ?_))
   refine n_then ?_
   have S := (((((S.nil.cons S 4 rfl).cons S 5 rfl).cons S 6 rfl).cons S 7 rfl).cons S 10 rfl).cons S 9 rfl
   refine g_seq ?_
   refine gsr ?_
   refine ga S fun a S => ?_
   refine gnt ?_
   refine g_block ?_
   have H := (H.take [OSl 3 va 1 encI ats, OSl 9 vr 1 encS rs, GrpA c n g z, GCel c, GPts c n, Sl vl 4 OpR.enc l]).freeze.swap2.freeze.take [GrpA c n g z, GCel c, GPts c n, Atom.ro (OSl 9 vr 1 encS rs), Atom.ro (OSl 3 va 1 encI ats), Sl vl 4 OpR.enc l]
   have SU := ((((S.nil.cons S 5 rfl).cons S 6 rfl).cons S 7 rfl).cons S 10 rfl).cons S 9 rfl
   refine loop_k (X := Nat) SU (fun r => [(13, .int .i64 (r : Int))]) (fun r => r ≤ n) (fun r => n - r) 0 (S.nil.cons S 13 rfl) H (Nat.zero_le _) (fun r a w S H hi => ?_)
   simp only [List.cons_append, List.nil_append] at S hi
   refine g_seq ?_
   refine gsr ?_
   refine gm S fun a S => ?_
   refine gm S fun a S => ?_
   refine gy rfl rfl rfl S (y_bin rfl S rfl rfl rfl) fun a S => ?_
   refine gnt ?_
   refine c_if S rfl (fun h4 => ?_) (fun h4 => ?_)
   ·have h4p := h4; try simp only [DL] at h4p
    refine g_skip ?_
    refine n_then ?_
    refine g_seq ?_
    refine g_block ?_
    refine gsr ?_
    refine gm S fun a S => ?_
    refine gm S fun a S => ?_
    refine wl_of (op_call (wn rfl) rfl rfl S (co_func rfl Try.call20 S rfl) (committed_spec c n g z r _ H (hO.fit (by omega))) fun u64 w hc a S => ?_)
    have H1 := hc
    have H := (H.call1 H1 rfl).freeze
    have hcl := comR_le hO.lim r
    refine ga S fun a S => ?_
    refine gnt ?_
    have S := ((((((S.nil.cons S 5 rfl).cons S 6 rfl).cons S 7 rfl).cons S 10 rfl).cons S 9 rfl).cons S 13 rfl).cons S 14 rfl
    refine gsr ?_
    refine ga S fun a S => ?_
    refine gnt ?_
    refine g_block ?_
    have SU := ((((((S.nil.cons S 5 rfl).cons S 6 rfl).cons S 7 rfl).cons S 10 rfl).cons S 9 rfl).cons S 13 rfl).cons S 14 rfl
    refine loop_k (X := Nat) SU (fun q => [(15, .int .i64 (q : Int))]) (fun q => q ≤ (comR g r).length) (fun q => (comR g r).length - q) 0 (S.nil.cons S 15 rfl) H (Nat.zero_le _) (fun q a w S H hi => ?_)
    simp only [List.cons_append, List.nil_append] at S hi
    have hq := hi
    refine g_seq ?_
    refine gsr ?_
    refine gm S fun a S => ?_
    refine gm S fun a S => ?_
    refine gy rfl rfl rfl S (y_lens rfl Try.underlying39 S H rfl) fun a S => ?_
    refine gy rfl rfl rfl S (y_bin rfl S rfl rfl rfl) fun a S => ?_
    refine gnt ?_
    refine c_if S rfl (fun h5 => ?_) (fun h5 => ?_)
    ·have h5p := h5; try simp only [DL] at h5p
     refine g_skip ?_
     refine n_then ?_
     have S := (((((((S.nil.cons S 5 rfl).cons S 6 rfl).cons S 7 rfl).cons S 10 rfl).cons S 9 rfl).cons S 13 rfl).cons S 14 rfl).cons S 15 rfl
     refine g_seq ?_
     refine g_block ?_
     refine gsr ?_
     refine ga S fun a S => ?_
     refine gnt ?_
     refine g_seq ?_
     refine gsr ?_
     refine ga S fun a S => ?_
     refine gnt ?_
     refine g_block ?_
     have hq2 : q < (comR g r).length := by have := h5p; omega
     have SU := (((((((S.nil.cons S 5 rfl).cons S 6 rfl).cons S 7 rfl).cons S 10 rfl).cons S 9 rfl).cons S 13 rfl).cons S 14 rfl).cons S 15 rfl
     refine loop_k (X := Nat × Bool) SU (fun x => [(16, .bool x.2), (17, .int .i64 (x.1 : Int))]) (fun x => x.1 ≤ ats.length ∧ (x.2 = true ↔ ∃ j, j < x.1 ∧ ats[j]? = some (q : Int) ∧ rs[j]? = some (comR g r)[q])) (fun x => ats.length - x.1) (0, false) ((S.nil.cons S 17 rfl).cons S 16 rfl) H (⟨Nat.zero_le _, ⟨fun h => (by cases h), fun ⟨j, h, _⟩ => absurd h (Nat.not_lt_zero j)⟩⟩) (fun x a w S H hi => ?_)
     simp only [List.cons_append, List.nil_append] at S hi
     obtain ⟨m, fb⟩ := x
     dsimp only at S
     have hm2 := hi.2
     dsimp only at hm2
     have hm1 : m ≤ ats.length := hi.1
     refine g_seq ?_
     refine gsr ?_
     refine gm S fun a S => ?_
     refine gm S fun a S => ?_
     refine gy rfl rfl rfl S (y_lens rfl Try.underlying45 S H rfl) fun a S => ?_
     refine gy rfl rfl rfl S (y_bin rfl S rfl rfl rfl) fun a S => ?_
     refine gnt ?_
     refine c_if S rfl (fun h6 => ?_) (fun h6 => ?_)
     ·have h6p := h6; try simp only [DL] at h6p
      refine g_skip ?_
      refine n_then ?_
      have S := (((((((((S.nil.cons S 5 rfl).cons S 6 rfl).cons S 7 rfl).cons S 10 rfl).cons S 9 rfl).cons S 13 rfl).cons S 14 rfl).cons S 15 rfl).cons S 17 rfl).cons S 16 rfl
      refine g_seq ?_
      refine g_block ?_
      refine region_st (loud := []) (tails := []) (free := []) [0, 1, 2, 3, 4, 5, 6, 7, 8, 9, 10, 11, 12, 13, 14, 15, 16, 17, 18, 19, 20] [Atom.ro (OSl 9 u64 1 encS (comR g r)), Atom.ro (OSl 9 vr 1 encS rs), Atom.ro (OSl 3 va 1 encI ats)] Fmo (by kernel_rfl) (by kernel_rfl) rfl H ?_
      refine m_w rfl rfl (wn rfl) rfl rfl S (fun w H => y_move rfl S rfl) fun a S => ?_
      refine m_w rfl rfl (wn rfl) rfl rfl S (fun w H => y_move rfl S rfl) fun a S => ?_
      refine' m_orq [2, 3, 4, 5, 6, 7, 8, 9, 10, 11, 12, 13, 14, 15, 16, 17, 18] 78 S rfl rfl rfl rfl rfl rfl rfl rfl rfl (fun _ S => (wn rfl)) (fun h7 kk => ?yh7) (fun a S => ?_)
      case yh7 =>
       have h7p := h7; try simp only [DL] at h7p
       refine m_w rfl rfl (wg' 78 rfl rfl S rfl h7 rfl) rfl rfl S (fun w H => y_move rfl S rfl) fun a S => ?_
       refine m_w rfl rfl (wg' 78 rfl rfl S rfl h7 rfl) rfl rfl S (fun w H => y_move rfl S rfl) fun a S => ?_
       refine m_w rfl rfl (wg' 78 rfl rfl S rfl h7 rfl) rfl rfl S (fun w H => y_iaddrn rfl Try.underlying45 Fsiz3 S H rfl rfl (by first | assumption | omega | (simp only [LL]; omega))) fun a S => ?_
       refine m_loads _ rfl rfl (wg' 78 rfl rfl S rfl h7 rfl) rfl rfl S rfl Fsca3 rfl (by first | assumption | omega | (simp only [LL]; omega)) rfl fun a S => ?_
       refine m_w rfl rfl (wg' 78 rfl rfl S rfl h7 rfl) rfl rfl S (fun w H => y_move rfl S rfl) fun a S => ?_
       refine m_w rfl rfl (wg' 78 rfl rfl S rfl h7 rfl) rfl rfl S (fun w H => y_bin rfl S rfl rfl rfl) fun a S => ?_
       refine m_w rfl rfl (wg' 78 rfl rfl S rfl h7 rfl) rfl rfl S (fun w H => y_move rfl S rfl) fun a S => ?_
       refine' m_andq [9, 10, 11, 12, 13, 14, 15, 16, 17] 85 S rfl rfl rfl rfl rfl rfl rfl rfl rfl (fun _ S => (wg' 78 rfl rfl S rfl h7 rfl)) (fun h8 kk => ?yh8) (fun a S => ?_)
       case yh8 =>
        have h8p := h8; try simp only [DL] at h8p
        refine m_w rfl rfl (wg' 85 rfl rfl S rfl h8 rfl) rfl rfl S (fun w H => y_move rfl S rfl) fun a S => ?_
        refine m_w rfl rfl (wg' 85 rfl rfl S rfl h8 rfl) rfl rfl S (fun w H => y_move rfl S rfl) fun a S => ?_
        refine m_w rfl rfl (wg' 85 rfl rfl S rfl h8 rfl) rfl rfl S (fun w H => y_iaddrn rfl Try.underlying39 Fsiz9 S H rfl rfl (by first | assumption | omega | (simp only [LL]; omega))) fun a S => ?_
        refine m_loads _ rfl rfl (wg' 85 rfl rfl S rfl h8 rfl) rfl rfl S rfl Fsca9 rfl (by first | assumption | omega | (simp only [LL]; omega)) rfl fun a S => ?_
        refine m_w rfl rfl (wg' 85 rfl rfl S rfl h8 rfl) rfl rfl S (fun w H => y_move rfl S rfl) fun a S => ?_
        refine m_w rfl rfl (wg' 85 rfl rfl S rfl h8 rfl) rfl rfl S (fun w H => y_move rfl S rfl) fun a S => ?_
        refine m_w rfl rfl (wg' 85 rfl rfl S rfl h8 rfl) rfl rfl S (fun w H => y_iaddrn rfl Try.underlying39 Fsiz9 S H rfl rfl (by first | assumption | omega | (simp only [LL]; omega))) fun a S => ?_
        refine m_loads _ rfl rfl (wg' 85 rfl rfl S rfl h8 rfl) rfl rfl S rfl Fsca9 rfl (by first | assumption | omega | (simp only [LL]; omega)) rfl fun a S => ?_
        refine m_w rfl rfl (wg' 85 rfl rfl S rfl h8 rfl) rfl rfl S (fun w H => y_eqs rfl Try.underlying9 S rfl rfl) fun a S => ?_
        refine m_w rfl rfl (wg' 78 rfl rfl S rfl h7 rfl) rfl rfl S (fun w H => y_and' rfl h8 S rfl rfl) fun a S => ?_
        exact kk _ (S.join 10 95 rfl rfl)
       refine m_w rfl rfl (wn rfl) rfl rfl S (fun w H => y_or' rfl h7 S rfl rfl) fun a S => ?_
       exact kk _ (S.join 9 96 rfl rfl)
      refine m_w rfl rfl (wn rfl) rfl rfl S (fun w H => y_assign rfl S rfl) fun a S => ?_
      refine m_nil (fun w H => ?_)
      refine n_block ?_
      refine n_then ?_
      have S := (((((((((S.nil.cons S 5 rfl).cons S 6 rfl).cons S 7 rfl).cons S 10 rfl).cons S 9 rfl).cons S 13 rfl).cons S 14 rfl).cons S 15 rfl).cons S 17 rfl).cons S 16 rfl
      refine g_region ?_
      refine gm S fun a S => ?_
      refine gy rfl rfl rfl S (y_add rfl S rfl rfl (by omega)) fun a S => ?_
      refine ga S fun a S => ?_
      refine gnt ?_
      have hm3 : m < ats.length := by have := h6p; omega
      exact ⟨(m + 1, _), (S.nil.cons S 17 rfl).cons S 16 rfl, (((((((S.nil.cons S 5 rfl).cons S 6 rfl).cons S 7 rfl).cons S 10 rfl).cons S 9 rfl).cons S 13 rfl).cons S 14 rfl).cons S 15 rfl, H, ⟨by dsimp only; omega, found_step hm3 (by omega) hm2⟩, by dsimp only; omega⟩
     ·have h6p := h6; try simp only [DL] at h6p
      refine g_exit ?_
      refine x_then (x_then (x_eq ?_))
      refine n_then ?_
      have S := ((((((((S.nil.cons S 5 rfl).cons S 6 rfl).cons S 7 rfl).cons S 10 rfl).cons S 9 rfl).cons S 13 rfl).cons S 14 rfl).cons S 15 rfl).cons S 16 rfl
      refine gsr ?_
      refine gm S fun a S => ?_
      refine gy rfl rfl rfl S (y_not rfl S rfl) fun a S => ?_
      refine gnt ?_
      refine c_if S rfl (fun h9 => ?_) (fun h9 => ?_)
      ·have h9p := h9; try simp only [DL] at h9p
       all_goals (
         exfalso
         obtain ⟨j, j1, j2, j3⟩ := hP.has (i := r) (by omega) hq2
         have hmm : m = ats.length := by have := h6p; omega
         have : fb = true := hm2.2 ⟨j, by rw [hmm]; exact j1, j2, j3⟩
         simp [this] at h9)
      ·have h9p := h9; try simp only [DL] at h9p
       refine g_skip ?_
       refine n_block ?_
       refine n_then ?_
       refine g_region ?_
       refine gm S fun a S => ?_
       refine gy rfl rfl rfl S (y_add rfl S rfl rfl (by omega)) fun a S => ?_
       refine ga S fun a S => ?_
       refine gnt ?_
       exact ⟨q + 1, S.nil.cons S 15 rfl, ((((((S.nil.cons S 5 rfl).cons S 6 rfl).cons S 7 rfl).cons S 10 rfl).cons S 9 rfl).cons S 13 rfl).cons S 14 rfl, H, by omega, by omega⟩
    ·have h5p := h5; try simp only [DL] at h5p
     refine g_exit ?_
     refine x_then (x_then (x_eq ?_))
     refine n_block ?_
     refine n_then ?_
     have S := (((((S.nil.cons S 5 rfl).cons S 6 rfl).cons S 7 rfl).cons S 10 rfl).cons S 9 rfl).cons S 13 rfl
     refine g_region ?_
     refine gm S fun a S => ?_
     refine gy rfl rfl rfl S (y_add rfl S rfl rfl (by omega)) fun a S => ?_
     refine ga S fun a S => ?_
     refine gnt ?_
     exact ⟨r + 1, S.nil.cons S 13 rfl, ((((S.nil.cons S 5 rfl).cons S 6 rfl).cons S 7 rfl).cons S 10 rfl).cons S 9 rfl, H.drop 1, by omega, by omega⟩
   ·have h4p := h4; try simp only [DL] at h4p
    refine g_exit ?_
    refine x_then (x_then (x_eq ?_))
    refine n_then ?_
    have S := S.nil.cons S 5 rfl
    refine gsr ?_
    refine gm S fun a S => ?_
    refine ga S fun a S => ?_
    refine gnt ?_
    refine g_ret ?_
    refine ret1 rfl S rfl ?_
    exact ⟨rfl, H.toExt⟩
end Go.Proofs.Ytbjknckddoegfaa
