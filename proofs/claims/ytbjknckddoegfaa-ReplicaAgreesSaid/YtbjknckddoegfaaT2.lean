/- The walks. No condition. -/
import Derived.Test.YtbjknckddoegfaaChecked
import Derived.Test.YtbjknckddoegfaaGwFam
import Derived.Test.YtbjknckddoegfaaFacts
import Derived.Test.YtbjknckddoegfaaPlainP
import Derived.Test.YtbjknckddoegfaaT0
import Derived.Test.YtbjknckddoegfaaTH
namespace Go.Proofs.Ytbjknckddoegfaa
open Go Go.Gw
set_option linter.unusedVariables false
set_option linter.unusedSimpArgs false
set_option maxHeartbeats 1000000 in
/-- foyer/foyerlaw48.ReplicaAgrees -/
theorem law2 (x0 : Nat) (vl : Value) (l : List OpR) (w0 : World) (hx0 : x0 < 256) (hl : IsSl w0 vl 4 OpR.enc l) (hok : ∀ x ∈ l, x.ok) :
    Ret Try.prog 4 #[.int .u8 (x0 : Int), vl] w0 (fun u w => u = .bool true ∧ Ext w0 w) := by
 refine ret_of_wp (nt := 57) Try.func4 rfl rfl rfl (fl := [(0, .int .u8 (x0 : Int)), (1, vl)]) rfl (fun a S => ?_)
 have H := HSat.start w0
 have H := H.ro0 (Sl vl 4 OpR.enc l) rfl (hl)
 have hlen := hl.len
 refine gsr ?_
 refine ga S fun a S => ?_
 refine gnt ?_
 refine gsr ?_
 refine wl_of (op_call (wn rfl) rfl rfl S (co_func rfl Try.call8 S rfl) (head_spec _) fun v w hc a S => ?_)
 obtain ⟨rfl, he⟩ := hc
 have H := H.ext he
 refine ga S fun a S => ?_
 refine gnt ?_
 refine g_seq ?_
 refine gsr ?_
 refine gm S fun a S => ?_
 refine gy rfl rfl rfl S (y_lens rfl Try.underlying22 S H rfl) fun a S => ?_
 refine gy rfl rfl rfl S (y_bin rfl S rfl rfl rfl) fun a S => ?_
 refine gnt ?_
 refine c_if S rfl (fun h1 => ?_) (fun h1 => ?_)
 ·have h1p := h1; try simp only [DL] at h1p
  refine gsr ?_
  refine gm S fun a S => ?_
  refine ga S fun a S => ?_
  refine gnt ?_
  have S := (((S.nil.cons S 1 rfl).cons S 0 rfl).cons S 5 rfl).cons S 4 rfl
  refine g_ret ?_
  refine r_then (ret1 rfl S rfl ?_)
  exact ⟨rfl, H.toExt⟩
 ·have h1p := h1; try simp only [DL] at h1p
  refine g_skip ?_
  refine n_then ?_
  have S := (((S.nil.cons S 1 rfl).cons S 0 rfl).cons S 4 rfl).cons S 5 rfl
  refine gsr ?_
  refine gm S fun a S => ?_
  refine wl_of (op_call (wn rfl) rfl rfl S (co_func rfl Try.call9 S rfl) (size_spec x0 _ hx0) fun v w hc a S => ?_)
  obtain ⟨rfl, he⟩ := hc
  have H := H.ext he
  obtain ⟨n, hn⟩ : ∃ n : Nat, n = 1 + x0 % 7 := ⟨_, rfl⟩
  rw [← hn] at S
  refine ga S fun a S => ?_
  refine gnt ?_
  refine gsr ?_
  refine gm S fun a S => ?_
  refine wl_of (op_call (wn rfl) rfl rfl S (co_func rfl Try.call10 S rfl) (new_ok n _ H (by omega)) fun v w hc a S => ?_)
  obtain ⟨c, z, rfl, H⟩ := hc
  
  refine gm S fun a S => ?_
  refine gy rfl rfl rfl S (y_extract rfl S rfl rfl) fun a S => ?_
  refine gy rfl rfl rfl S (y_extract rfl S rfl rfl) fun a S => ?_
  refine ga S fun a S => ?_
  refine ga S fun a S => ?_
  refine gnt ?_
  have S := ((((S.nil.cons S 1 rfl).cons S 4 rfl).cons S 5 rfl).cons S 6 rfl).cons S 7 rfl
  refine gsr ?_
  refine ga S fun a S => ?_
  refine gnt ?_
  refine g_seq ?_
  refine gsr ?_
  refine ga S fun a S => ?_
  refine gnt ?_
  refine g_block ?_
  have SU := (((S.nil.cons S 1 rfl).cons S 5 rfl).cons S 6 rfl).cons S 7 rfl
  refine loopW (X := Nat × Value × List ByteArray × Grp × GV) SU (fun x => [(9, x.2.1), (10, .int .i64 (x.1 : Int))]) (fun x w => x.1 ≤ l.length ∧ Ok x.2.2.2.1 x.1 ∧ x.2.2.2.1.n = n ∧ Agr x.2.2.2.1 x.2.2.1 ∧ HSat No w0 (GrpA c n x.2.2.2.1 x.2.2.2.2 :: GCel c :: GPts c n :: OSl 9 x.2.1 1 encS x.2.2.1 :: Sl vl 4 OpR.enc l :: []) w) (fun x => l.length - x.1) (0, .slice none 0 0, [], Grp.z n, z) ((S.nil.cons S 10 rfl).cons S 9 rfl) (⟨Nat.zero_le _, Ok.start (by omega), Grp.z_n n, Agr.start n, (H.nilO 9 1 encS).take [GrpA c n (Grp.z n) z, GCel c, GPts c n, OSl 9 (.slice none 0 0) 1 encS [], Sl vl 4 OpR.enc l]⟩) (fun x a w S hW => ?_)
  simp only [List.cons_append, List.nil_append] at S
  obtain ⟨k, v0, xs0, g, z⟩ := x
  obtain ⟨hk, hO, hgn, hA0, H⟩ := hW
  dsimp only at S H hk hO hgn hA0
  refine g_seq ?_
  refine gsr ?_
  refine gm S fun a S => ?_
  refine gm S fun a S => ?_
  refine gy rfl rfl rfl S (y_lens rfl Try.underlying22 S H rfl) fun a S => ?_
  refine gy rfl rfl rfl S (y_bin rfl S rfl rfl rfl) fun a S => ?_
  refine gnt ?_
  refine c_if S rfl (fun h2 => ?_) (fun h2 => ?_)
  ·have h2p := h2; try simp only [DL] at h2p
   refine g_skip ?_
   refine n_then ?_
   have S := (((((S.nil.cons S 1 rfl).cons S 5 rfl).cons S 6 rfl).cons S 7 rfl).cons S 10 rfl).cons S 9 rfl
   refine g_seq ?_
   refine g_block ?_
   refine gsr ?_
   refine gm S fun a S => ?_
   refine gm S fun a S => ?_
   refine gm S fun a S => ?_
   refine gm S fun a S => ?_
   refine gy rfl rfl rfl S (y_iaddrn rfl Try.underlying22 Fsiz33 S H rfl rfl (by first | assumption | omega | (simp only [LL]; omega))) fun a S => ?_
   refine gy rfl rfl rfl S (y_loadsa _ rfl S H rfl (by exact Fagg33) (by first | assumption | omega | (simp only [LL]; omega))) fun a S => ?_
   refine wl_of (op_call (wn rfl) rfl rfl S (co_func rfl Try.call23 S rfl) (do_spec c n g z l[k] _ H (hO.fit (by omega)) (hok _ (List.getElem_mem _)) (by omega)) fun v w hc a S => ?_)
   obtain ⟨rfl, z1, H⟩ := hc
   
   refine gnt ?_
   have S := (((((S.nil.cons S 1 rfl).cons S 5 rfl).cons S 6 rfl).cons S 7 rfl).cons S 10 rfl).cons S 9 rfl
   refine gsr ?_
   refine ga S fun a S => ?_
   refine gnt ?_
   refine g_block ?_
   obtain ⟨g1, hg1⟩ : ∃ g1, g1 = g.do_ n l[k] := ⟨_, rfl⟩
   have hO1 : Ok g1 (k + 1) := hg1 ▸ hO.do_ n _
   have hgn1 : g1.n = n := by rw [hg1, Grp.do_n]; exact hgn
   have hA1 : Agr g1 xs0 := hg1 ▸ hA0.do_ n _
   rw [← hg1] at H
   have SU := ((((S.nil.cons S 1 rfl).cons S 5 rfl).cons S 6 rfl).cons S 7 rfl).cons S 10 rfl
   refine loopW (X := Nat × Value × List ByteArray) SU (fun x => [(9, x.2.1), (11, .int .i64 (x.1 : Int))]) (fun x w => x.1 ≤ n ∧ Agr g1 x.2.2 ∧ HSat No w0 (GrpA c n g1 z1 :: GCel c :: GPts c n :: OSl 9 x.2.1 1 encS x.2.2 :: Sl vl 4 OpR.enc l :: []) w) (fun x => n - x.1) (0, v0, xs0) ((S.nil.cons S 11 rfl).cons S 9 rfl) (⟨Nat.zero_le _, hA1, H⟩) (fun x a w S hW => ?_)
   simp only [List.cons_append, List.nil_append] at S
   obtain ⟨r, v, xs⟩ := x
   obtain ⟨hr, hA, H⟩ := hW
   dsimp only at S H hr hA
   refine g_seq ?_
   refine gsr ?_
   refine gm S fun a S => ?_
   refine gm S fun a S => ?_
   refine gy rfl rfl rfl S (y_bin rfl S rfl rfl rfl) fun a S => ?_
   refine gnt ?_
   refine c_if S rfl (fun h3 => ?_) (fun h3 => ?_)
   ·have h3p := h3; try simp only [DL] at h3p
    refine g_skip ?_
    refine n_then ?_
    refine g_seq ?_
    refine g_block ?_
    refine gsr ?_
    refine gm S fun a S => ?_
    refine gm S fun a S => ?_
    refine wl_of (op_call (wn rfl) rfl rfl S (co_func rfl Try.call20 S rfl) (committed_spec c n g1 z1 r _ H (hO1.fit (by omega))) fun u45 w hc a S => ?_)
    have H1 := hc
    have H := H.call1 H1 rfl
    refine ga S fun a S => ?_
    refine gnt ?_
    have S := (((((((S.nil.cons S 1 rfl).cons S 5 rfl).cons S 6 rfl).cons S 7 rfl).cons S 10 rfl).cons S 11 rfl).cons S 9 rfl).cons S 12 rfl
    refine g_seq ?_
    refine gsr ?_
    refine gm S fun a S => ?_
    refine gm S fun a S => ?_
    refine wl_of (op_call (wn rfl) rfl rfl S (co_func rfl Try.call22 S rfl) (begins_spec u45 v (comR g1 r) xs _ (H.sl u45) (H.sl v)) fun v w hc a S => ?_)
    obtain ⟨rfl, he⟩ := hc
    have H := H.ext he
    rw [hA.begins (by omega)] at S
    refine gy rfl rfl rfl S (y_not rfl S rfl) fun a S => ?_
    refine gnt ?_
    refine c_if S rfl (fun h4 => ?_) (fun h4 => ?_)
    ·have h4p := h4; try simp only [DL] at h4p
     all_goals (
       exact absurd h4 (by simp))
    ·have h4p := h4; try simp only [DL] at h4p
     refine g_skip ?_
     refine n_then ?_
     have S := (((((((S.nil.cons S 1 rfl).cons S 5 rfl).cons S 6 rfl).cons S 7 rfl).cons S 10 rfl).cons S 11 rfl).cons S 9 rfl).cons S 12 rfl
     refine gsr ?_
     refine gm S fun a S => ?_
     refine gy rfl rfl rfl S (y_lens rfl Try.underlying39 S H rfl) fun a S => ?_
     refine gm S fun a S => ?_
     refine gy rfl rfl rfl S (y_lens rfl Try.underlying39 S H rfl) fun a S => ?_
     refine gy rfl rfl rfl S (y_bin rfl S rfl rfl rfl) fun a S => ?_
     refine gnt ?_
     have S := ((((((((S.nil.cons S 1 rfl).cons S 5 rfl).cons S 6 rfl).cons S 7 rfl).cons S 10 rfl).cons S 11 rfl).cons S 9 rfl).cons S 12 rfl).cons S 54 rfl
     refine c_if S rfl (fun h5 => ?_) (fun h5 => ?_)
     ·have h5p := h5; try simp only [DL] at h5p
      have hA2 := hA.take (i := r) (by omega)
      have H2 := H.take [GrpA c n g1 z1, GCel c, GPts c n, OSl 9 u45 1 encS (comR g1 r), Sl vl 4 OpR.enc l]
      refine g_region ?_
      refine gm S fun a S => ?_
      refine ga S fun a S => ?_
      refine gl_nil ?_
      refine n_block ?_
      refine n_then ?_
      have S := ((((((S.nil.cons S 1 rfl).cons S 5 rfl).cons S 6 rfl).cons S 7 rfl).cons S 10 rfl).cons S 11 rfl).cons S 9 rfl
      refine g_region ?_
      refine gm S fun a S => ?_
      refine gy rfl rfl rfl S (y_add rfl S rfl rfl (by omega)) fun a S => ?_
      refine ga S fun a S => ?_
      refine gnt ?_
      exact ⟨(r + 1, _, _), (S.nil.cons S 11 rfl).cons S 9 rfl, ((((S.nil.cons S 1 rfl).cons S 5 rfl).cons S 6 rfl).cons S 7 rfl).cons S 10 rfl, ⟨by dsimp only; omega, hA2, H2⟩, by dsimp only; omega⟩
     ·have h5p := h5; try simp only [DL] at h5p
      have hA2 := hA
      have H2 := H.take [GrpA c n g1 z1, GCel c, GPts c n, OSl 9 v 1 encS xs, Sl vl 4 OpR.enc l]
      refine g_skip ?_
      refine n_block ?_
      refine n_then ?_
      refine g_region ?_
      refine gm S fun a S => ?_
      refine gy rfl rfl rfl S (y_add rfl S rfl rfl (by omega)) fun a S => ?_
      refine ga S fun a S => ?_
      refine gnt ?_
      exact ⟨(r + 1, _, _), (S.nil.cons S 11 rfl).cons S 9 rfl, ((((S.nil.cons S 1 rfl).cons S 5 rfl).cons S 6 rfl).cons S 7 rfl).cons S 10 rfl, ⟨by dsimp only; omega, hA2, H2⟩, by dsimp only; omega⟩
   ·have h3p := h3; try simp only [DL] at h3p
    refine g_exit ?_
    refine x_then (x_then (x_eq ?_))
    refine n_block ?_
    refine n_then ?_
    have S := (((((S.nil.cons S 1 rfl).cons S 5 rfl).cons S 6 rfl).cons S 7 rfl).cons S 10 rfl).cons S 9 rfl
    refine g_region ?_
    refine gm S fun a S => ?_
    refine gy rfl rfl rfl S (y_add rfl S rfl rfl (by omega)) fun a S => ?_
    refine ga S fun a S => ?_
    refine gnt ?_
    exact ⟨(k + 1, v, xs, g1, z1), (S.nil.cons S 10 rfl).cons S 9 rfl, (((S.nil.cons S 1 rfl).cons S 5 rfl).cons S 6 rfl).cons S 7 rfl, ⟨by dsimp only; omega, hO1, hgn1, hA, H⟩, by dsimp only; omega⟩
  ·have h2p := h2; try simp only [DL] at h2p
   refine g_exit ?_
   refine x_then (x_then (x_eq ?_))
   refine n_then ?_
   have S := S.nil.cons S 5 rfl
   refine gsr ?_
   refine gm S fun a S => ?_
   refine ga S fun a S => ?_
   refine gnt ?_
   refine g_ret ?_
   refine ret1 rfl S rfl ?_
   exact ⟨rfl, H.toExt⟩
end Go.Proofs.Ytbjknckddoegfaa
