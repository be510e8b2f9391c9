/- The walks. No condition. -/
import Derived.Test.YtbjknckddoegfaaChecked
import Derived.Test.YtbjknckddoegfaaGwFam
import Derived.Test.YtbjknckddoegfaaFacts
import Derived.Test.YtbjknckddoegfaaPlainP
import Derived.Test.YtbjknckddoegfaaT0
import Derived.Test.YtbjknckddoegfaaTH
namespace Go.Proofs.Ytbjknckddoegfaa
open Go Go.Gw
set_option linter.unusedVariables false
set_option linter.unusedSimpArgs false
set_option maxHeartbeats 1000000 in
/-- foyer/foyerlaw48.ReplicaMajorities -/
theorem law5 (x0 : Nat) (vl : Value) (l : List OpR) (w0 : World) (hx0 : x0 < 256) (hl : IsSl w0 vl 4 OpR.enc l) (hok : ∀ x ∈ l, x.ok) (vm : Value) (more : List OpR) (hm : IsSl w0 vm 4 OpR.enc more) (hmk : ∀ x ∈ more, x.ok) (rec : ByteArray) (hrs : rec.size ≤ 9223372036854775807) :
    Ret Try.prog 7 #[.int .u8 (x0 : Int), vl, vm, .string rec] w0 (fun u w => u = .bool true ∧ Ext w0 w) := by
 refine ret_of_wp (nt := 126) Try.func7 rfl rfl rfl (fl := [(0, .int .u8 (x0 : Int)), (1, vl), (2, vm), (3, .string rec)]) rfl (fun a S => ?_)
 have H := HSat.start w0
 have H := H.ro0 (Sl vm 4 OpR.enc more) rfl (hm)
 have H := H.ro0 (Sl vl 4 OpR.enc l) rfl (hl)
 have hlen := hl.len
 have hlem := hm.len
 have hs3 : (⟨#[110, 101, 119]⟩ : ByteArray).size = 3 := rfl
 refine gsr ?_
 refine ga S fun a S => ?_
 refine gnt ?_
 refine gsr ?_
 refine wl_of (op_call (wn rfl) rfl rfl S (co_func rfl Try.call8 S rfl) (head_spec _) fun v w hc a S => ?_)
 obtain ⟨rfl, he⟩ := hc
 have H := H.ext he
 refine ga S fun a S => ?_
 refine gnt ?_
 refine g_seq ?_
 refine gsr ?_
 refine gm S fun a S => ?_
 refine gy rfl rfl rfl S (y_lens rfl Try.underlying22 S H rfl) fun a S => ?_
 refine gy rfl rfl rfl S (y_bin rfl S rfl rfl rfl) fun a S => ?_
 refine gm S fun a S => ?_
 refine' wl_or 3 24 rfl S H rfl rfl rfl rfl rfl rfl rfl (fun _ S => (wn rfl)) (fun h1 kk => ?yh1) (fun a w S H => ?_)
 case yh1 =>
  have h1p := h1; try simp only [DL] at h1p
  refine gz 24 h1 S rfl rfl rfl rfl rfl rfl (y_move rfl S rfl) fun a S => ?_
  refine gz 24 h1 S rfl rfl rfl rfl rfl rfl (y_lens rfl Try.underlying22 S H rfl) fun a S => ?_
  refine gz 24 h1 S rfl rfl rfl rfl rfl rfl (y_bin rfl S rfl rfl rfl) fun a S => ?_
  refine gy rfl rfl rfl S (y_or' rfl h1 S rfl rfl) fun a S => ?_
  exact kk _ _ (S.join 4 28 rfl rfl) H
 refine gm S fun a S => ?_
 refine' wl_or 3 29 rfl S H rfl rfl rfl rfl rfl rfl rfl (fun _ S => (wn rfl)) (fun h2 kk => ?yh2) (fun a w S H => ?_)
 case yh2 =>
  have h2p := h2; try simp only [DL] at h2p
  refine gz 29 h2 S rfl rfl rfl rfl rfl rfl (y_move rfl S rfl) fun a S => ?_
  refine gz 29 h2 S rfl rfl rfl rfl rfl rfl (y_lenstr rfl Try.underlying9 S rfl) fun a S => ?_
  refine gz 29 h2 S rfl rfl rfl rfl rfl rfl (y_bin rfl S rfl rfl rfl) fun a S => ?_
  refine gy rfl rfl rfl S (y_or' rfl h2 S rfl rfl) fun a S => ?_
  exact kk _ _ (S.join 4 33 rfl rfl) H
 refine gnt ?_
 have S := ((((((S.nil.cons S 3 rfl).cons S 2 rfl).cons S 1 rfl).cons S 0 rfl).cons S 8 rfl).cons S 9 rfl).cons S 33 rfl
 refine c_if S rfl (fun h3 => ?_) (fun h3 => ?_)
 ·have h3p := h3; try simp only [DL] at h3p
  refine gsr ?_
  refine gm S fun a S => ?_
  refine ga S fun a S => ?_
  refine gnt ?_
  refine g_ret ?_
  refine r_then (ret1 rfl S rfl ?_)
  exact ⟨rfl, H.toExt⟩
 ·have h3p := h3; try simp only [DL] at h3p
  have hsz : l.length ≤ 80 ∧ more.length ≤ 80 ∧ rec.size ≤ 150 := by simp at h3; omega
  refine g_skip ?_
  refine n_then ?_
  refine gsr ?_
  refine gm S fun a S => ?_
  refine wl_of (op_call (wn rfl) rfl rfl S (co_func rfl Try.call9 S rfl) (size_spec x0 _ hx0) fun v w hc a S => ?_)
  obtain ⟨rfl, he⟩ := hc
  have H := H.ext he
  obtain ⟨n, hn⟩ : ∃ n : Nat, n = 1 + x0 % 7 := ⟨_, rfl⟩
  rw [← hn] at S
  refine ga S fun a S => ?_
  refine gnt ?_
  have S := (((((S.nil.cons S 3 rfl).cons S 2 rfl).cons S 1 rfl).cons S 8 rfl).cons S 9 rfl).cons S 10 rfl
  refine gsr ?_
  refine gm S fun a S => ?_
  refine wl_of (op_call (wn rfl) rfl rfl S (co_func rfl Try.call10 S rfl) (new_ok n _ H (by omega)) fun v w hc a S => ?_)
  obtain ⟨c, z, rfl, H⟩ := hc
  
  refine gm S fun a S => ?_
  refine gy rfl rfl rfl S (y_extract rfl S rfl rfl) fun a S => ?_
  refine gy rfl rfl rfl S (y_extract rfl S rfl rfl) fun a S => ?_
  refine ga S fun a S => ?_
  refine ga S fun a S => ?_
  refine gnt ?_
  have S := ((((((S.nil.cons S 3 rfl).cons S 2 rfl).cons S 1 rfl).cons S 8 rfl).cons S 9 rfl).cons S 10 rfl).cons S 11 rfl
  refine g_seq ?_
  refine gsr ?_
  refine ga S fun a S => ?_
  refine gnt ?_
  refine g_block ?_
  have SU := (((((S.nil.cons S 3 rfl).cons S 2 rfl).cons S 1 rfl).cons S 9 rfl).cons S 10 rfl).cons S 11 rfl
  refine loopW (X := Nat × Grp × GV) SU (fun x => [(13, .int .i64 (x.1 : Int))]) (fun x w => x.1 ≤ l.length ∧ Ok x.2.1 x.1 ∧ x.2.1.n = n ∧ Mj0 (rec ++ (⟨#[110, 101, 119]⟩ : ByteArray)) 0 x.2.1 ∧ HSat No w0 (GrpA c n x.2.1 x.2.2 :: GCel c :: GPts c n :: Sl vl 4 OpR.enc l :: Sl vm 4 OpR.enc more :: []) w) (fun x => l.length - x.1) (0, Grp.z n, z) (S.nil.cons S 13 rfl) (⟨Nat.zero_le _, Ok.start (by omega), Grp.z_n n, Mj0.start _ n, H.take [GrpA c n (Grp.z n) z, GCel c, GPts c n, Sl vl 4 OpR.enc l, Sl vm 4 OpR.enc more]⟩) (fun x a w S hW => ?_)
  simp only [List.cons_append, List.nil_append] at S
  obtain ⟨k, g, z⟩ := x
  obtain ⟨hk, hO, hgn, hM0, H⟩ := hW
  dsimp only at S H hk hO hgn hM0
  refine g_seq ?_
  refine gsr ?_
  refine gm S fun a S => ?_
  refine gm S fun a S => ?_
  refine gy rfl rfl rfl S (y_lens rfl Try.underlying22 S H rfl) fun a S => ?_
  refine gy rfl rfl rfl S (y_bin rfl S rfl rfl rfl) fun a S => ?_
  refine gnt ?_
  refine c_if S rfl (fun h4 => ?_) (fun h4 => ?_)
  ·have h4p := h4; try simp only [DL] at h4p
   refine g_skip ?_
   refine n_then ?_
   have S := ((((((S.nil.cons S 3 rfl).cons S 2 rfl).cons S 1 rfl).cons S 9 rfl).cons S 10 rfl).cons S 11 rfl).cons S 13 rfl
   refine g_seq ?_
   refine g_block ?_
   refine g_seq ?_
   refine gsr ?_
   refine gm S fun a S => ?_
   refine gm S fun a S => ?_
   refine gy rfl rfl rfl S (y_iaddrn rfl Try.underlying22 Fsiz33 S H rfl rfl (by first | assumption | omega | (simp only [LL]; omega))) fun a S => ?_
   refine gy rfl rfl rfl S (y_faddr rfl Ffo33_0 S rfl) fun a S => ?_
   refine gy rfl rfl rfl S (y_loadsf _ rfl Fsca5 S H rfl (by first | assumption | omega | (simp only [LL]; omega)) rfl) fun a S => ?_
   refine gy rfl rfl rfl S ((y_remN (m := l[k].kind) (q := 6) rfl S rfl rfl (by decide))) fun a S => ?_
   refine gy rfl rfl rfl S (y_bin rfl S rfl rfl rfl) fun a S => ?_
   refine gm S fun a S => ?_
   refine' wl_and 8 55 rfl S H rfl rfl rfl rfl rfl rfl rfl (fun _ S => (wn rfl)) (fun h5 kk => ?yh5) (fun a w S H => ?_)
   case yh5 =>
    have h5p := h5; try simp only [DL] at h5p
    refine gz 55 h5 S rfl rfl rfl rfl rfl rfl (y_move rfl S rfl) fun a S => ?_
    refine gz 55 h5 S rfl rfl rfl rfl rfl rfl (y_move rfl S rfl) fun a S => ?_
    refine gz 55 h5 S rfl rfl rfl rfl rfl rfl (y_iaddrn rfl Try.underlying22 Fsiz33 S H rfl rfl (by first | assumption | omega | (simp only [LL]; omega))) fun a S => ?_
    refine gz 55 h5 S rfl rfl rfl rfl rfl rfl (y_faddr rfl Ffo33_3 S rfl) fun a S => ?_
    refine gz 55 h5 S rfl rfl rfl rfl rfl rfl (y_loadsf _ rfl Fsca9 S H rfl (by first | assumption | omega | (simp only [LL]; omega)) rfl) fun a S => ?_
    refine gz 55 h5 S rfl rfl rfl rfl rfl rfl (y_move rfl S rfl) fun a S => ?_
    refine gz 55 h5 S rfl rfl rfl rfl rfl rfl (y_adds rfl S rfl rfl (by omega)) fun a S => ?_
    refine gz 55 h5 S rfl rfl rfl rfl rfl rfl (y_eqs rfl Try.underlying9 S rfl rfl) fun a S => ?_
    refine gy rfl rfl rfl S (y_and' rfl h5 S rfl rfl) fun a S => ?_
    exact kk _ _ (S.join 9 64 rfl rfl) H
   refine gnt ?_
   have S := (((((((S.nil.cons S 3 rfl).cons S 2 rfl).cons S 1 rfl).cons S 9 rfl).cons S 10 rfl).cons S 11 rfl).cons S 13 rfl).cons S 64 rfl
   refine c_if S rfl (fun h6 => ?_) (fun h6 => ?_)
   ·have h6p := h6; try simp only [DL] at h6p
    refine gsr ?_
    refine gm S fun a S => ?_
    refine ga S fun a S => ?_
    refine gnt ?_
    refine g_ret ?_
    refine r_then (r_block (r_then (r_then (r_block (r_then (ret1 rfl S rfl ?_))))))
    exact ⟨rfl, H.toExt⟩
   ·have h6p := h6; try simp only [DL] at h6p
    have hx3 : ¬ (l[k].kind % 6 = 3 ∧ l[k].txt = (rec ++ (⟨#[110, 101, 119]⟩ : ByteArray))) := by intro ⟨e1, e2⟩; simp [e1, e2] at h6
    refine g_skip ?_
    refine n_then ?_
    refine g_region ?_
    refine gm S fun a S => ?_
    refine gm S fun a S => ?_
    refine gm S fun a S => ?_
    refine gm S fun a S => ?_
    refine gy rfl rfl rfl S (y_iaddrn rfl Try.underlying22 Fsiz33 S H rfl rfl (by first | assumption | omega | (simp only [LL]; omega))) fun a S => ?_
    refine gy rfl rfl rfl S (y_loadsa _ rfl S H rfl (by exact Fagg33) (by first | assumption | omega | (simp only [LL]; omega))) fun a S => ?_
    refine wl_of (op_call (wn rfl) rfl rfl S (co_func rfl Try.call23 S rfl) (do_spec c n g z l[k] _ H (hO.fit (by omega)) (hok _ (List.getElem_mem _)) (by omega)) fun v w hc a S => ?_)
    obtain ⟨rfl, z1, H⟩ := hc
    
    refine gl_nil ?_
    refine n_block ?_
    refine n_then ?_
    have S := ((((((S.nil.cons S 3 rfl).cons S 2 rfl).cons S 1 rfl).cons S 9 rfl).cons S 10 rfl).cons S 11 rfl).cons S 13 rfl
    refine g_region ?_
    refine gm S fun a S => ?_
    refine gy rfl rfl rfl S (y_add rfl S rfl rfl (by omega)) fun a S => ?_
    refine ga S fun a S => ?_
    refine gnt ?_
    exact ⟨(k + 1, g.do_ n l[k], z1), S.nil.cons S 13 rfl, (((((S.nil.cons S 3 rfl).cons S 2 rfl).cons S 1 rfl).cons S 9 rfl).cons S 10 rfl).cons S 11 rfl, ⟨by dsimp only; omega, hO.do_ n _, by dsimp only; rw [Grp.do_n]; exact hgn, hM0.do_ n _ hx3, H⟩, by dsimp only; omega⟩
  ·have h4p := h4; try simp only [DL] at h4p
   refine g_exit ?_
   refine x_then (x_then (x_eq ?_))
   refine n_then ?_
   have S := ((((S.nil.cons S 3 rfl).cons S 2 rfl).cons S 9 rfl).cons S 10 rfl).cons S 11 rfl
   refine g_seq ?_
   refine gsr ?_
   refine ga S fun a S => ?_
   refine gnt ?_
   refine g_block ?_
   have SU := ((((S.nil.cons S 3 rfl).cons S 2 rfl).cons S 9 rfl).cons S 10 rfl).cons S 11 rfl
   refine loopW (X := Nat × Grp × GV) SU (fun x => [(14, .int .i64 (x.1 : Int))]) (fun x w => x.1 ≤ n / 2 + 1 ∧ Ok x.2.1 (80 + x.1) ∧ x.2.1.n = n ∧ Mj0 (rec ++ (⟨#[110, 101, 119]⟩ : ByteArray)) x.1 x.2.1 ∧ HSat No w0 (GrpA c n x.2.1 x.2.2 :: GCel c :: GPts c n :: Sl vl 4 OpR.enc l :: Sl vm 4 OpR.enc more :: []) w) (fun x => n - x.1) (0, g, z) (S.nil.cons S 14 rfl) (⟨Nat.zero_le _, hO.to (by dsimp only; omega), hgn, hM0, H⟩) (fun x a w S hW => ?_)
   simp only [List.cons_append, List.nil_append] at S
   obtain ⟨m, g, z⟩ := x
   obtain ⟨hm9, hO, hgn, hM0, H⟩ := hW
   dsimp only at S H hm9 hO hgn hM0
   refine g_seq ?_
   refine gsr ?_
   refine gm S fun a S => ?_
   refine gy rfl rfl rfl S (y_mul rfl S rfl rfl (by omega)) fun a S => ?_
   refine gm S fun a S => ?_
   refine gy rfl rfl rfl S (y_add rfl S rfl rfl (by omega)) fun a S => ?_
   refine gy rfl rfl rfl S (y_bin rfl S rfl rfl rfl) fun a S => ?_
   refine gnt ?_
   have S := ((((((S.nil.cons S 3 rfl).cons S 2 rfl).cons S 9 rfl).cons S 10 rfl).cons S 11 rfl).cons S 14 rfl).cons S 77 rfl
   refine c_if S rfl (fun h7 => ?_) (fun h7 => ?_)
   ·have h7p := h7; try simp only [DL] at h7p
    refine g_skip ?_
    refine n_then ?_
    refine g_seq ?_
    refine g_block ?_
    refine g_region ?_
    refine gm S fun a S => ?_
    refine gm S fun a S => ?_
    refine wl_of (op_call (wn rfl) rfl rfl S (co_func rfl Try.call18 S rfl) (crash_spec c n g z m true _ H) fun v w hc a S => ?_)
    obtain ⟨rfl, z1, H⟩ := hc
    
    refine gl_nil ?_
    refine n_block ?_
    refine n_then ?_
    have S := (((((S.nil.cons S 3 rfl).cons S 2 rfl).cons S 9 rfl).cons S 10 rfl).cons S 11 rfl).cons S 14 rfl
    refine g_region ?_
    refine gm S fun a S => ?_
    refine gy rfl rfl rfl S (y_add rfl S rfl rfl (by omega)) fun a S => ?_
    refine ga S fun a S => ?_
    refine gnt ?_
    exact ⟨(m + 1, g.crash m true, z1), S.nil.cons S 14 rfl, ((((S.nil.cons S 3 rfl).cons S 2 rfl).cons S 9 rfl).cons S 10 rfl).cons S 11 rfl, ⟨by dsimp only; omega, hO.crash m true, by dsimp only; rw [Grp.crash_n]; exact hgn, hM0.crash (by omega), H⟩, by dsimp only; omega⟩
   ·have h7p := h7; try simp only [DL] at h7p
    refine g_exit ?_
    refine x_then (x_then (x_eq ?_))
    refine n_then ?_
    refine g_seq ?_
    refine gsr ?_
    refine ga S fun a S => ?_
    refine gnt ?_
    refine g_block ?_
    have hm8 : m = n / 2 + 1 := by have := h7p; omega
    rw [hm8] at hM0
    have hMj := hM0.over (by omega)
    have SU := ((((S.nil.cons S 3 rfl).cons S 2 rfl).cons S 9 rfl).cons S 10 rfl).cons S 11 rfl
    refine loopW (X := Nat × Grp × GV) SU (fun x => [(15, .int .i64 (x.1 : Int))]) (fun x w => x.1 ≤ more.length ∧ Ok x.2.1 (160 + x.1) ∧ x.2.1.n = n ∧ Mj (rec ++ (⟨#[110, 101, 119]⟩ : ByteArray)) (n / 2 + 1) x.2.1 ∧ HSat No w0 (GrpA c n x.2.1 x.2.2 :: GCel c :: GPts c n :: Sl vl 4 OpR.enc l :: Sl vm 4 OpR.enc more :: []) w) (fun x => more.length - x.1) (0, g, z) (S.nil.cons S 15 rfl) (⟨Nat.zero_le _, hO.to (by dsimp only; omega), hgn, hMj, H⟩) (fun x a w S hW => ?_)
    simp only [List.cons_append, List.nil_append] at S
    obtain ⟨p, g, z⟩ := x
    obtain ⟨hp, hO, hgn, hMj, H⟩ := hW
    dsimp only at S H hp hO hgn hMj
    refine g_seq ?_
    refine gsr ?_
    refine gm S fun a S => ?_
    refine gm S fun a S => ?_
    refine gy rfl rfl rfl S (y_lens rfl Try.underlying22 S H rfl) fun a S => ?_
    refine gy rfl rfl rfl S (y_bin rfl S rfl rfl rfl) fun a S => ?_
    refine gnt ?_
    refine c_if S rfl (fun h8 => ?_) (fun h8 => ?_)
    ·have h8p := h8; try simp only [DL] at h8p
     refine g_skip ?_
     refine n_then ?_
     have S := (((((S.nil.cons S 3 rfl).cons S 2 rfl).cons S 9 rfl).cons S 10 rfl).cons S 11 rfl).cons S 15 rfl
     refine g_seq ?_
     refine g_block ?_
     refine gsr ?_
     refine gm S fun a S => ?_
     refine gm S fun a S => ?_
     refine gy rfl rfl rfl S (y_iaddrn rfl Try.underlying22 Fsiz33 S H rfl rfl (by first | assumption | omega | (simp only [LL]; omega))) fun a S => ?_
     refine gy rfl rfl rfl S (y_loadsa _ rfl S H rfl (by exact Fagg33) (by first | assumption | omega | (simp only [LL]; omega))) fun a S => ?_
     refine wl_of (op_alloc (wn rfl) rfl rfl rfl S H Fzer33 fun b16 a w S H => ?_)
     refine wl_of (op_storea (wn rfl) rfl rfl S H rfl rfl rfl Fsiz33 rfl (cs' := [_, _, _, _]) rfl fun a w S H => ?_)
     refine gnt ?_
     have S := ((((((S.nil.cons S 3 rfl).cons S 2 rfl).cons S 9 rfl).cons S 10 rfl).cons S 11 rfl).cons S 15 rfl).cons S 16 rfl
     refine g_seq ?_
     refine gsr ?_
     refine gy rfl rfl rfl S (y_faddrb rfl Ffo33_0 S rfl) fun a S => ?_
     refine gy rfl rfl rfl S (y_load rfl Fsca5 S H rfl rfl) fun a S => ?_
     refine gy rfl rfl rfl S ((y_remN (m := more[p].kind) (q := 6) rfl S rfl rfl (by decide))) fun a S => ?_
     refine gy rfl rfl rfl S (y_bin rfl S rfl rfl rfl) fun a S => ?_
     refine gnt ?_
     refine c_if S rfl (fun h9 => ?_) (fun h9 => ?_)
     ·have h9p := h9; try simp only [DL] at h9p
      refine g_exit ?_
      refine x_then (x_eq ?_)
      refine n_then ?_
      have S := (((((S.nil.cons S 3 rfl).cons S 2 rfl).cons S 9 rfl).cons S 10 rfl).cons S 11 rfl).cons S 15 rfl
      refine g_region ?_
      refine gm S fun a S => ?_
      refine gy rfl rfl rfl S (y_add rfl S rfl rfl (by omega)) fun a S => ?_
      refine ga S fun a S => ?_
      refine gnt ?_
      first
      | exact ⟨(p + 1, g1, z1), S.nil.cons S 15 rfl, ((((S.nil.cons S 3 rfl).cons S 2 rfl).cons S 9 rfl).cons S 10 rfl).cons S 11 rfl, ⟨by dsimp only; omega, hO1, hgn1, hMj1, H.take [GrpA c n g1 z1, GCel c, GPts c n, Sl vl 4 OpR.enc l, Sl vm 4 OpR.enc more]⟩, by dsimp only; omega⟩
      | exact ⟨(p + 1, g, z), S.nil.cons S 15 rfl, ((((S.nil.cons S 3 rfl).cons S 2 rfl).cons S 9 rfl).cons S 10 rfl).cons S 11 rfl, ⟨by dsimp only; omega, hO.to (by dsimp only; omega), hgn, hMj, H.take [GrpA c n g z, GCel c, GPts c n, Sl vl 4 OpR.enc l, Sl vm 4 OpR.enc more]⟩, by dsimp only; omega⟩
     ·have h9p := h9; try simp only [DL] at h9p
      have hx5 : more[p].kind % 6 ≠ 5 := by intro e; simp [e] at h9
      have hmp := hmk _ (List.getElem_mem (by omega : p < more.length))
      have hxo : OpR.ok { more[p] with txt := (rec ++ (⟨#[110, 101, 119]⟩ : ByteArray)) } := ⟨hmp.k, hmp.a, hmp.b, by show (rec ++ _).size ≤ _; rw [ByteArray.size_append]; exact Nat.le_trans (Nat.add_le_add_right hsz.2.2 _) (by decide)⟩
      refine g_skip ?_
      refine n_then ?_
      have S := ((((((S.nil.cons S 3 rfl).cons S 2 rfl).cons S 9 rfl).cons S 10 rfl).cons S 11 rfl).cons S 15 rfl).cons S 16 rfl
      refine gsr ?_
      refine gm S fun a S => ?_
      refine gy rfl rfl rfl S (y_adds rfl S rfl rfl (by omega)) fun a S => ?_
      refine gy rfl rfl rfl S (y_faddrb rfl Ffo33_3 S rfl) fun a S => ?_
      refine wl_of (op_store (wn rfl) rfl rfl S H rfl rfl rfl Fsiz9 rfl fun a w S H => ?_)
      dsimp only [List.set, Nat.zero_add, Nat.reduceAdd] at H
      refine gnt ?_
      refine gsr ?_
      refine gm S fun a S => ?_
      refine gm S fun a S => ?_
      refine gy rfl rfl rfl S (y_load0 rfl S H rfl (by exact Fagg33)) fun a S => ?_
      refine wl_of (op_call (wn rfl) rfl rfl S (co_func rfl Try.call23 S rfl) (do_spec c n g z { more[p] with txt := (rec ++ (⟨#[110, 101, 119]⟩ : ByteArray)) } _ (H.takeT [GrpA c n g z, GCel c, GPts c n] [Cel b16 33 [.int .u8 (more[p].kind : Int), .int .u8 (more[p].a : Int), .int .u8 (more[p].b : Int), .string (rec ++ (⟨#[110, 101, 119]⟩ : ByteArray))], Sl vl 4 OpR.enc l, Sl vm 4 OpR.enc more]) (hO.fit (by omega)) hxo (by omega)) fun v w hc a S => ?_)
      obtain ⟨rfl, z1, H⟩ := hc
      obtain ⟨g1, hg1⟩ : ∃ g1, g1 = g.do_ n { more[p] with txt := (rec ++ (⟨#[110, 101, 119]⟩ : ByteArray)) } := ⟨_, rfl⟩
      have hO1 : Ok g1 (160 + (p + 1)) := hg1 ▸ hO.do_ n _
      have hgn1 : g1.n = n := by rw [hg1, Grp.do_n]; exact hgn
      have hMj1 : Mj (rec ++ (⟨#[110, 101, 119]⟩ : ByteArray)) (n / 2 + 1) g1 := hg1 ▸ hMj.do_ n _ hx5
      rw [← hg1] at H
      simp only [List.append_eq, List.nil_append] at H
      have H := (H.takeT [Cel b16 33 [.int .u8 (more[p].kind : Int), .int .u8 (more[p].a : Int), .int .u8 (more[p].b : Int), .string (rec ++ (⟨#[110, 101, 119]⟩ : ByteArray))]] (GrpA c n g1 z1 :: GCel c :: GPts c n :: Sl vl 4 OpR.enc l :: Sl vm 4 OpR.enc more :: [])).freeze
      simp only [List.append_eq, List.nil_append] at H
      have H := H.take [GrpA c n g1 z1, GCel c, GPts c n, Atom.ro (Cel b16 33 [.int .u8 (more[p].kind : Int), .int .u8 (more[p].a : Int), .int .u8 (more[p].b : Int), .string (rec ++ (⟨#[110, 101, 119]⟩ : ByteArray))]), Sl vl 4 OpR.enc l, Sl vm 4 OpR.enc more]
      refine gnt ?_
      have S := ((((((S.nil.cons S 3 rfl).cons S 2 rfl).cons S 9 rfl).cons S 10 rfl).cons S 11 rfl).cons S 15 rfl).cons S 16 rfl
      refine gsr ?_
      refine ga S fun a S => ?_
      refine gnt ?_
      refine g_block ?_
      have SU := ((((((S.nil.cons S 3 rfl).cons S 2 rfl).cons S 9 rfl).cons S 10 rfl).cons S 11 rfl).cons S 15 rfl).cons S 16 rfl
      refine loop_k (X := Nat) SU (fun r => [(17, .int .i64 (r : Int))]) (fun r => r ≤ n) (fun r => n - r) 0 (S.nil.cons S 17 rfl) H (Nat.zero_le _) (fun r a w S H hi => ?_)
      simp only [List.cons_append, List.nil_append] at S hi
      refine g_seq ?_
      refine gsr ?_
      refine gm S fun a S => ?_
      refine gm S fun a S => ?_
      refine gy rfl rfl rfl S (y_bin rfl S rfl rfl rfl) fun a S => ?_
      refine gnt ?_
      refine c_if S rfl (fun h10 => ?_) (fun h10 => ?_)
      ·have h10p := h10; try simp only [DL] at h10p
       refine g_skip ?_
       refine n_then ?_
       refine g_seq ?_
       refine g_block ?_
       refine gsr ?_
       refine gm S fun a S => ?_
       refine gm S fun a S => ?_
       refine wl_of (op_call (wn rfl) rfl rfl S (co_func rfl Try.call20 S rfl) (committed_spec c n g1 z1 r _ H (hO1.fit (by omega))) fun u111 w hc a S => ?_)
       have H1 := hc
       have H := (H.call1 H1 rfl).freeze
       have hcl := comR_le hO1.lim r
       refine ga S fun a S => ?_
       refine gnt ?_
       have S := ((((((((S.nil.cons S 3 rfl).cons S 2 rfl).cons S 9 rfl).cons S 10 rfl).cons S 11 rfl).cons S 15 rfl).cons S 16 rfl).cons S 17 rfl).cons S 18 rfl
       refine gsr ?_
       refine ga S fun a S => ?_
       refine gnt ?_
       refine g_block ?_
       have SU := ((((((((S.nil.cons S 3 rfl).cons S 2 rfl).cons S 9 rfl).cons S 10 rfl).cons S 11 rfl).cons S 15 rfl).cons S 16 rfl).cons S 17 rfl).cons S 18 rfl
       refine loop_k (X := Nat) SU (fun q => [(19, .int .i64 (q : Int))]) (fun q => q ≤ (comR g1 r).length) (fun q => (comR g1 r).length - q) 0 (S.nil.cons S 19 rfl) H (Nat.zero_le _) (fun q a w S H hi => ?_)
       simp only [List.cons_append, List.nil_append] at S hi
       have hq := hi
       refine g_seq ?_
       refine gsr ?_
       refine gm S fun a S => ?_
       refine gm S fun a S => ?_
       refine gy rfl rfl rfl S (y_lens rfl Try.underlying39 S H rfl) fun a S => ?_
       refine gy rfl rfl rfl S (y_bin rfl S rfl rfl rfl) fun a S => ?_
       refine gnt ?_
       refine c_if S rfl (fun h11 => ?_) (fun h11 => ?_)
       ·have h11p := h11; try simp only [DL] at h11p
        refine g_skip ?_
        refine n_then ?_
        have S := (((((((((S.nil.cons S 3 rfl).cons S 2 rfl).cons S 9 rfl).cons S 10 rfl).cons S 11 rfl).cons S 15 rfl).cons S 16 rfl).cons S 17 rfl).cons S 18 rfl).cons S 19 rfl
        refine g_seq ?_
        refine g_block ?_
        refine g_seq ?_
        refine region_st (loud := []) (tails := []) (free := []) [0, 1, 2, 3, 4, 5, 6] [Atom.ro (OSl 9 u111 1 encS (comR g1 r)), Atom.ro (Cel b16 33 [.int .u8 (more[p].kind : Int), .int .u8 (more[p].a : Int), .int .u8 (more[p].b : Int), .string (rec ++ (⟨#[110, 101, 119]⟩ : ByteArray))])] Fmo (by kernel_rfl) (by kernel_rfl) rfl H ?_
        refine m_w rfl rfl (wn rfl) rfl rfl S (fun w H => y_move rfl S rfl) fun a S => ?_
        refine m_w rfl rfl (wn rfl) rfl rfl S (fun w H => y_move rfl S rfl) fun a S => ?_
        refine m_w rfl rfl (wn rfl) rfl rfl S (fun w H => y_iaddrn rfl Try.underlying39 Fsiz9 S H rfl rfl (by first | assumption | omega | (simp only [LL]; omega))) fun a S => ?_
        refine m_loads _ rfl rfl (wn rfl) rfl rfl S rfl Fsca9 rfl (by first | assumption | omega | (simp only [LL]; omega)) rfl fun a S => ?_
        refine m_w rfl rfl (wn rfl) rfl rfl S (fun w H => y_faddrb rfl Ffo33_3 S rfl) fun a S => ?_
        refine m_w rfl rfl (wn rfl) rfl rfl S (fun w H => y_load rfl Fsca9 S H rfl rfl) fun a S => ?_
        refine m_w rfl rfl (wn rfl) rfl rfl S (fun w H => y_eqs rfl Try.underlying9 S rfl rfl) fun a S => ?_
        refine m_nil (fun w H => ?_)
        refine n_then ?_
        have S := ((((((((((S.nil.cons S 3 rfl).cons S 2 rfl).cons S 9 rfl).cons S 10 rfl).cons S 11 rfl).cons S 15 rfl).cons S 16 rfl).cons S 17 rfl).cons S 18 rfl).cons S 19 rfl).cons S 124 rfl
        refine c_if S rfl (fun h12 => ?_) (fun h12 => ?_)
        ·have h12p := h12; try simp only [DL] at h12p
         all_goals (
           exfalso
           exact hMj1.not (i := r) (k := q) (by omega) (by omega) (by omega) (by simpa using h12))
        ·have h12p := h12; try simp only [DL] at h12p
         refine g_skip ?_
         refine n_block ?_
         refine n_then ?_
         refine g_region ?_
         refine gm S fun a S => ?_
         refine gy rfl rfl rfl S (y_add rfl S rfl rfl (by omega)) fun a S => ?_
         refine ga S fun a S => ?_
         refine gnt ?_
         exact ⟨q + 1, S.nil.cons S 19 rfl, ((((((((S.nil.cons S 3 rfl).cons S 2 rfl).cons S 9 rfl).cons S 10 rfl).cons S 11 rfl).cons S 15 rfl).cons S 16 rfl).cons S 17 rfl).cons S 18 rfl, H, by omega, by omega⟩
       ·have h11p := h11; try simp only [DL] at h11p
        refine g_exit ?_
        refine x_then (x_then (x_eq ?_))
        refine n_block ?_
        refine n_then ?_
        have S := (((((((S.nil.cons S 3 rfl).cons S 2 rfl).cons S 9 rfl).cons S 10 rfl).cons S 11 rfl).cons S 15 rfl).cons S 16 rfl).cons S 17 rfl
        refine g_region ?_
        refine gm S fun a S => ?_
        refine gy rfl rfl rfl S (y_add rfl S rfl rfl (by omega)) fun a S => ?_
        refine ga S fun a S => ?_
        refine gnt ?_
        exact ⟨r + 1, S.nil.cons S 17 rfl, ((((((S.nil.cons S 3 rfl).cons S 2 rfl).cons S 9 rfl).cons S 10 rfl).cons S 11 rfl).cons S 15 rfl).cons S 16 rfl, H.drop 1, by omega, by omega⟩
      ·have h10p := h10; try simp only [DL] at h10p
       refine g_exit ?_
       refine x_then (x_then (x_eq ?_))
       refine n_block ?_
       refine n_then ?_
       have S := (((((S.nil.cons S 3 rfl).cons S 2 rfl).cons S 9 rfl).cons S 10 rfl).cons S 11 rfl).cons S 15 rfl
       refine g_region ?_
       refine gm S fun a S => ?_
       refine gy rfl rfl rfl S (y_add rfl S rfl rfl (by omega)) fun a S => ?_
       refine ga S fun a S => ?_
       refine gnt ?_
       first
       | exact ⟨(p + 1, g1, z1), S.nil.cons S 15 rfl, ((((S.nil.cons S 3 rfl).cons S 2 rfl).cons S 9 rfl).cons S 10 rfl).cons S 11 rfl, ⟨by dsimp only; omega, hO1, hgn1, hMj1, H.take [GrpA c n g1 z1, GCel c, GPts c n, Sl vl 4 OpR.enc l, Sl vm 4 OpR.enc more]⟩, by dsimp only; omega⟩
       | exact ⟨(p + 1, g, z), S.nil.cons S 15 rfl, ((((S.nil.cons S 3 rfl).cons S 2 rfl).cons S 9 rfl).cons S 10 rfl).cons S 11 rfl, ⟨by dsimp only; omega, hO.to (by dsimp only; omega), hgn, hMj, H.take [GrpA c n g z, GCel c, GPts c n, Sl vl 4 OpR.enc l, Sl vm 4 OpR.enc more]⟩, by dsimp only; omega⟩
    ·have h8p := h8; try simp only [DL] at h8p
     refine g_exit ?_
     refine x_then (x_then (x_eq ?_))
     refine n_then ?_
     have S := S.nil.cons S 9 rfl
     refine gsr ?_
     refine gm S fun a S => ?_
     refine ga S fun a S => ?_
     refine gnt ?_
     refine g_ret ?_
     refine ret1 rfl S rfl ?_
     exact ⟨rfl, H.toExt⟩
end Go.Proofs.Ytbjknckddoegfaa
