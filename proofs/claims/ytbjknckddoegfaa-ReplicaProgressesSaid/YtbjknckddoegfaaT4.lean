/- The walks. No condition. -/
import Derived.Test.YtbjknckddoegfaaChecked
import Derived.Test.YtbjknckddoegfaaGwFam
import Derived.Test.YtbjknckddoegfaaFacts
import Derived.Test.YtbjknckddoegfaaPlainP
import Derived.Test.YtbjknckddoegfaaT0
import Derived.Test.YtbjknckddoegfaaTH
namespace Go.Proofs.Ytbjknckddoegfaa
open Go Go.Gw
set_option linter.unusedVariables false
set_option linter.unusedSimpArgs false
theorem won_step {g : Grp} {kk v : Nat} {r : ByteArray} {al : Bool} (hv : v < g.n) (h : al = false → ¬ Won g kk r) : ((al && decide (((comR g v).length : Int) = (kk : Int) + 1)) && decide ((comR g v).getD kk ⟨#[]⟩ = r)) = false → ¬ Won g kk r := fun hb hw => by
  obtain ⟨h1, h2⟩ := hw.at_ hv
  cases al with
  | false => exact h rfl hw
  | true =>
    have h3 : kk < (comR g v).length := by omega
    rw [gD h3, h2 h3, h1] at hb
    simp at hb
set_option maxHeartbeats 1000000 in
/-- foyer/foyerlaw48.ReplicaProgresses -/
theorem law4 (x0 : Nat) (vl : Value) (l : List OpR) (w0 : World) (hx0 : x0 < 256) (hl : IsSl w0 vl 4 OpR.enc l) (hok : ∀ x ∈ l, x.ok) (rec : ByteArray) (hrs : rec.size ≤ 9223372036854775807) :
    Ret Try.prog 6 #[.int .u8 (x0 : Int), vl, .string rec] w0 (fun u w => u = .bool true ∧ Ext w0 w) := by
 refine ret_of_wp (nt := 118) Try.func6 rfl rfl rfl (fl := [(0, .int .u8 (x0 : Int)), (1, vl), (2, .string rec)]) rfl (fun a S => ?_)
 have H := HSat.start w0
 have H := H.ro0 (Sl vl 4 OpR.enc l) rfl (hl)
 have hlen := hl.len
 refine gsr ?_
 refine ga S fun a S => ?_
 refine gnt ?_
 refine gsr ?_
 refine wl_of (op_call (wn rfl) rfl rfl S (co_func rfl Try.call8 S rfl) (head_spec _) fun v w hc a S => ?_)
 obtain ⟨rfl, he⟩ := hc
 have H := H.ext he
 refine ga S fun a S => ?_
 refine gnt ?_
 refine g_seq ?_
 refine gsr ?_
 refine gm S fun a S => ?_
 refine gy rfl rfl rfl S (y_lens rfl Try.underlying22 S H rfl) fun a S => ?_
 refine gy rfl rfl rfl S (y_bin rfl S rfl rfl rfl) fun a S => ?_
 refine gm S fun a S => ?_
 refine' wl_or 3 23 rfl S H rfl rfl rfl rfl rfl rfl rfl (fun _ S => (wn rfl)) (fun h1 kk => ?yh1) (fun a w S H => ?_)
 case yh1 =>
  have h1p := h1; try simp only [DL] at h1p
  refine gz 23 h1 S rfl rfl rfl rfl rfl rfl (y_move rfl S rfl) fun a S => ?_
  refine gz 23 h1 S rfl rfl rfl rfl rfl rfl (y_lenstr rfl Try.underlying9 S rfl) fun a S => ?_
  refine gz 23 h1 S rfl rfl rfl rfl rfl rfl (y_bin rfl S rfl rfl rfl) fun a S => ?_
  refine gy rfl rfl rfl S (y_or' rfl h1 S rfl rfl) fun a S => ?_
  exact kk _ _ (S.join 4 27 rfl rfl) H
 refine gnt ?_
 have S := (((((S.nil.cons S 2 rfl).cons S 1 rfl).cons S 0 rfl).cons S 6 rfl).cons S 7 rfl).cons S 27 rfl
 refine c_if S rfl (fun h2 => ?_) (fun h2 => ?_)
 ·have h2p := h2; try simp only [DL] at h2p
  refine gsr ?_
  refine gm S fun a S => ?_
  refine ga S fun a S => ?_
  refine gnt ?_
  refine g_ret ?_
  refine r_then (ret1 rfl S rfl ?_)
  first
  | exact ⟨rfl, H.toExt⟩
  | exact absurd (show Pg g n (2 * n) from (show p = 2 * n by have := @c5p; omega) ▸ hPg) (fun h => h.over)
 ·have h2p := h2; try simp only [DL] at h2p
  have hsz : l.length ≤ 80 ∧ rec.size ≤ 200 := by simp at h2; omega
  refine g_skip ?_
  refine n_then ?_
  refine gsr ?_
  refine gm S fun a S => ?_
  refine wl_of (op_call (wn rfl) rfl rfl S (co_func rfl Try.call9 S rfl) (size_spec x0 _ hx0) fun v w hc a S => ?_)
  obtain ⟨rfl, he⟩ := hc
  have H := H.ext he
  obtain ⟨n, hn⟩ : ∃ n : Nat, n = 1 + x0 % 7 := ⟨_, rfl⟩
  rw [← hn] at S
  refine ga S fun a S => ?_
  refine gnt ?_
  have S := ((((S.nil.cons S 2 rfl).cons S 1 rfl).cons S 6 rfl).cons S 7 rfl).cons S 8 rfl
  refine gsr ?_
  refine gm S fun a S => ?_
  refine wl_of (op_call (wn rfl) rfl rfl S (co_func rfl Try.call10 S rfl) (new_ok n _ H (by omega)) fun v w hc a S => ?_)
  obtain ⟨c, z, rfl, H⟩ := hc
  
  refine gm S fun a S => ?_
  refine gy rfl rfl rfl S (y_extract rfl S rfl rfl) fun a S => ?_
  refine gy rfl rfl rfl S (y_extract rfl S rfl rfl) fun a S => ?_
  refine ga S fun a S => ?_
  refine ga S fun a S => ?_
  refine gnt ?_
  have S := (((((S.nil.cons S 2 rfl).cons S 1 rfl).cons S 6 rfl).cons S 7 rfl).cons S 8 rfl).cons S 9 rfl
  refine g_seq ?_
  refine gsr ?_
  refine ga S fun a S => ?_
  refine gnt ?_
  refine g_block ?_
  have SU := (((((S.nil.cons S 2 rfl).cons S 1 rfl).cons S 6 rfl).cons S 7 rfl).cons S 8 rfl).cons S 9 rfl
  refine loopW (X := Nat × Grp × GV) SU (fun x => [(11, .int .i64 (x.1 : Int))]) (fun x w => x.1 ≤ l.length ∧ Ok x.2.1 x.1 ∧ x.2.1.n = n ∧ HSat No w0 (GrpA c n x.2.1 x.2.2 :: GCel c :: GPts c n :: Sl vl 4 OpR.enc l :: []) w) (fun x => l.length - x.1) (0, Grp.z n, z) (S.nil.cons S 11 rfl) (⟨Nat.zero_le _, Ok.start (by omega), Grp.z_n n, H⟩) (fun x a w S hW => ?_)
  simp only [List.cons_append, List.nil_append] at S
  obtain ⟨k, g, z⟩ := x
  obtain ⟨hk, hO, hgn, H⟩ := hW
  dsimp only at S H hk hO hgn
  refine g_seq ?_
  refine gsr ?_
  refine gm S fun a S => ?_
  refine gm S fun a S => ?_
  refine gy rfl rfl rfl S (y_lens rfl Try.underlying22 S H rfl) fun a S => ?_
  refine gy rfl rfl rfl S (y_bin rfl S rfl rfl rfl) fun a S => ?_
  refine gnt ?_
  refine c_if S rfl (fun h3 => ?_) (fun h3 => ?_)
  ·have h3p := h3; try simp only [DL] at h3p
   refine g_skip ?_
   refine n_then ?_
   have S := ((((((S.nil.cons S 2 rfl).cons S 1 rfl).cons S 6 rfl).cons S 7 rfl).cons S 8 rfl).cons S 9 rfl).cons S 11 rfl
   refine g_seq ?_
   refine g_block ?_
   refine g_region ?_
   refine gm S fun a S => ?_
   refine gm S fun a S => ?_
   refine gm S fun a S => ?_
   refine gm S fun a S => ?_
   refine gy rfl rfl rfl S (y_iaddrn rfl Try.underlying22 Fsiz33 S H rfl rfl (by first | assumption | omega | (simp only [LL]; omega))) fun a S => ?_
   refine gy rfl rfl rfl S (y_loadsa _ rfl S H rfl (by exact Fagg33) (by first | assumption | omega | (simp only [LL]; omega))) fun a S => ?_
   refine wl_of (op_call (wn rfl) rfl rfl S (co_func rfl Try.call23 S rfl) (do_spec c n g z l[k] _ H (hO.fit (by omega)) (hok _ (List.getElem_mem _)) (by omega)) fun v w hc a S => ?_)
   obtain ⟨rfl, z1, H⟩ := hc
   
   refine gl_nil ?_
   refine n_block ?_
   refine n_then ?_
   have S := ((((((S.nil.cons S 2 rfl).cons S 1 rfl).cons S 6 rfl).cons S 7 rfl).cons S 8 rfl).cons S 9 rfl).cons S 11 rfl
   refine g_region ?_
   refine gm S fun a S => ?_
   refine gy rfl rfl rfl S (y_add rfl S rfl rfl (by omega)) fun a S => ?_
   refine ga S fun a S => ?_
   refine gnt ?_
   exact ⟨(k + 1, g.do_ n l[k], z1), S.nil.cons S 11 rfl, (((((S.nil.cons S 2 rfl).cons S 1 rfl).cons S 6 rfl).cons S 7 rfl).cons S 8 rfl).cons S 9 rfl, ⟨by dsimp only; omega, hO.do_ n _, by dsimp only; rw [Grp.do_n]; exact hgn, H⟩, by dsimp only; omega⟩
  ·have h3p := h3; try simp only [DL] at h3p
   refine g_exit ?_
   refine x_then (x_then (x_eq ?_))
   refine n_then ?_
   have S := ((((S.nil.cons S 2 rfl).cons S 6 rfl).cons S 7 rfl).cons S 8 rfl).cons S 9 rfl
   refine g_seq ?_
   refine gsr ?_
   refine ga S fun a S => ?_
   refine gnt ?_
   refine g_block ?_
   have SU := ((((S.nil.cons S 2 rfl).cons S 6 rfl).cons S 7 rfl).cons S 8 rfl).cons S 9 rfl
   refine loopW (X := Nat × Grp × GV) SU (fun x => [(12, .int .i64 (x.1 : Int))]) (fun x w => x.1 ≤ n ∧ Pre x.2.1 n x.1 ∧ HSat No w0 (GrpA c n x.2.1 x.2.2 :: GCel c :: GPts c n :: Sl vl 4 OpR.enc l :: []) w) (fun x => n - x.1) (0, g, z) (S.nil.cons S 12 rfl) (⟨Nat.zero_le _, hO.pre (by omega) hgn, H⟩) (fun x a w S hW => ?_)
   simp only [List.cons_append, List.nil_append] at S
   obtain ⟨m, g, z⟩ := x
   obtain ⟨hm, hPre, H⟩ := hW
   dsimp only at S H hm hPre
   refine g_seq ?_
   refine gsr ?_
   refine gm S fun a S => ?_
   refine gm S fun a S => ?_
   refine gy rfl rfl rfl S (y_bin rfl S rfl rfl rfl) fun a S => ?_
   refine gnt ?_
   refine c_if S rfl (fun h4 => ?_) (fun h4 => ?_)
   ·have h4p := h4; try simp only [DL] at h4p
    refine g_skip ?_
    refine n_then ?_
    refine g_seq ?_
    refine g_block ?_
    refine g_region ?_
    refine gm S fun a S => ?_
    refine gm S fun a S => ?_
    refine wl_of (op_call (wn rfl) rfl rfl S (co_func rfl Try.call18 S rfl) (crash_spec c n g z m false _ H) fun v w hc a S => ?_)
    obtain ⟨rfl, z1, H⟩ := hc
    
    refine gl_nil ?_
    refine n_block ?_
    refine n_then ?_
    have S := (((((S.nil.cons S 2 rfl).cons S 6 rfl).cons S 7 rfl).cons S 8 rfl).cons S 9 rfl).cons S 12 rfl
    refine g_region ?_
    refine gm S fun a S => ?_
    refine gy rfl rfl rfl S (y_add rfl S rfl rfl (by omega)) fun a S => ?_
    refine ga S fun a S => ?_
    refine gnt ?_
    exact ⟨(m + 1, g.crash m false, z1), S.nil.cons S 12 rfl, ((((S.nil.cons S 2 rfl).cons S 6 rfl).cons S 7 rfl).cons S 8 rfl).cons S 9 rfl, ⟨by dsimp only; omega, hPre.crash (by omega), H⟩, by dsimp only; omega⟩
   ·have h4p := h4; try simp only [DL] at h4p
    refine g_exit ?_
    refine x_then (x_then (x_eq ?_))
    refine n_then ?_
    have S := ((((S.nil.cons S 2 rfl).cons S 6 rfl).cons S 7 rfl).cons S 8 rfl).cons S 9 rfl
    refine g_seq ?_
    refine g_seq ?_
    have hmn : m = n := by have := h4p; omega
    rw [hmn] at hPre
    obtain ⟨hG0, hJ0⟩ := hPre.good
    ·skip
     refine g_region ?_
     refine gm S fun a S => ?_
     refine gm S fun a S => ?_
     refine wl_of (op_call (wn rfl) rfl rfl S (co_func rfl Try.call24 S rfl) (flush_spec c n (g) z (Jn (fun _ => True) n 80 80) 19999 _ H (Jn.still (fun _ _ _ _ => trivial) _ _ _) (hJ0) (hG0) (by decide)) fun v w hc a S => ?_)
     obtain ⟨rfl, g2, z2, hj2, hG2, hq2, hn2, H⟩ := hc
     have hPg0 := Pg.start (by omega) hG2 hj2 hq2
     refine gy rfl rfl rfl S (y_not rfl S rfl) fun a S => ?_
     refine gnt ?_
     refine c_if S rfl (fun h5 => ?_) (fun h5 => ?_)
     ·have h5p := h5; try simp only [DL] at h5p
      all_goals (
        exact absurd h5 (by simp))
     ·have h5p := h5; try simp only [DL] at h5p
      refine g_skip ?_
      refine n_then ?_
      have S := ((((S.nil.cons S 2 rfl).cons S 6 rfl).cons S 7 rfl).cons S 8 rfl).cons S 9 rfl
      refine g_seq ?_
      refine gsr ?_
      refine ga S fun a S => ?_
      refine gnt ?_
      refine g_block ?_
      have SU := (((S.nil.cons S 2 rfl).cons S 7 rfl).cons S 8 rfl).cons S 9 rfl
      refine loopW (X := Nat × Grp × GV) SU (fun x => [(13, .int .i64 (x.1 : Int))]) (fun x w => x.1 ≤ 2 * n ∧ Pg x.2.1 n x.1 ∧ HSat No w0 (GrpA c n x.2.1 x.2.2 :: GCel c :: GPts c n :: Sl vl 4 OpR.enc l :: []) w) (fun x => 2 * n - x.1) (0, g2, z2) (S.nil.cons S 13 rfl) (⟨Nat.zero_le _, hPg0, H⟩) (fun x a w S hW => ?_)
      simp only [List.cons_append, List.nil_append] at S
      obtain ⟨p, g, z⟩ := x
      obtain ⟨hp, hPg, H⟩ := hW
      dsimp only at S H hp hPg
      refine g_seq ?_
      refine gsr ?_
      refine gm S fun a S => ?_
      refine gm S fun a S => ?_
      refine gy rfl rfl rfl S (y_mul rfl S rfl rfl (by omega)) fun a S => ?_
      refine gy rfl rfl rfl S (y_bin rfl S rfl rfl rfl) fun a S => ?_
      refine gnt ?_
      refine c_if S rfl (fun h6 => ?_) (fun h6 => ?_)
      ·have h6p := h6; try simp only [DL] at h6p
       refine g_skip ?_
       refine n_then ?_
       have S := ((((S.nil.cons S 2 rfl).cons S 7 rfl).cons S 8 rfl).cons S 9 rfl).cons S 13 rfl
       refine g_seq ?_
       refine g_block ?_
       refine g_seq ?_
       obtain ⟨J, s1, s2, s3, s4⟩ := hPg.step (by omega) rec hsz.2
       ·skip
        refine g_region ?_
        refine gm S fun a S => ?_
        refine gm S fun a S => ?_
        refine gm S fun a S => ?_
        refine gy rfl rfl rfl S ((y_remN (m := p) (q := n) rfl S rfl rfl (by omega))) fun a S => ?_
        refine wl_of (op_call (wn rfl) rfl rfl S (co_func rfl Try.call14 S rfl) (elect_spec c n g z (p % n) _ H (hPg.fit (by omega))) fun v w hc a S => ?_)
        obtain ⟨rfl, z1, H⟩ := hc
        
        refine gnt ?_
        have S := ((((S.nil.cons S 2 rfl).cons S 7 rfl).cons S 8 rfl).cons S 9 rfl).cons S 13 rfl
        refine g_seq ?_
        refine gsr ?_
        refine gm S fun a S => ?_
        refine gm S fun a S => ?_
        refine wl_of (op_call (wn rfl) rfl rfl S (co_func rfl Try.call24 S rfl) (flush_spec c n (g.elect (p % n)) z1 (J) 19999 _ H (s1) (s2) (s3) (by decide)) fun v w hc a S => ?_)
        obtain ⟨rfl, g2, z2, hj2, hG2, hq2, hn2, H⟩ := hc
        obtain ⟨hF2, hcase⟩ := s4 g2 hj2 hG2 hq2
        refine gy rfl rfl rfl S (y_not rfl S rfl) fun a S => ?_
        refine gnt ?_
        refine c_if S rfl (fun h7 => ?_) (fun h7 => ?_)
        ·have h7p := h7; try simp only [DL] at h7p
         all_goals (
           exact absurd h7 (by simp))
        ·have h7p := h7; try simp only [DL] at h7p
         refine g_skip ?_
         refine n_then ?_
         have S := ((((S.nil.cons S 2 rfl).cons S 7 rfl).cons S 8 rfl).cons S 9 rfl).cons S 13 rfl
         refine g_seq ?_
         rcases hcase with ⟨hpx, hPg2⟩ | ⟨kk, J2, hpx, hk100, t1, t2, t3, t4⟩
         ·skip
          refine g_region ?_
          refine gm S fun a S => ?_
          refine gm S fun a S => ?_
          refine wl_of (op_call (wn rfl) rfl rfl S (co_func rfl Try.call16 S rfl) (propose_spec c n g2 z2 rec _ H hF2) fun v w hc a S => ?_)
          obtain ⟨rfl, z3, H⟩ := hc
          rw [hpx] at S
          refine gm S fun a S => ?_
          refine gy rfl rfl rfl S (y_extract rfl S rfl rfl) fun a S => ?_
          refine gy rfl rfl rfl S (y_extract rfl S rfl rfl) fun a S => ?_
          refine ga S fun a S => ?_
          refine ga S fun a S => ?_
          refine gnt ?_
          have S := ((((((S.nil.cons S 2 rfl).cons S 7 rfl).cons S 8 rfl).cons S 9 rfl).cons S 13 rfl).cons S 14 rfl).cons S 15 rfl
          refine g_seq ?_
          refine gsr ?_
          refine gm S fun a S => ?_
          refine gy rfl rfl rfl S (y_bin rfl S rfl rfl rfl) fun a S => ?_
          refine gnt ?_
          refine c_if S rfl (fun h8 => ?_) (fun h8 => ?_)
          ·have h8p := h8; try simp only [DL] at h8p
           refine g_exit ?_
           refine x_then (x_eq ?_)
           refine n_then ?_
           have S := ((((S.nil.cons S 2 rfl).cons S 7 rfl).cons S 8 rfl).cons S 9 rfl).cons S 13 rfl
           refine g_region ?_
           refine gm S fun a S => ?_
           refine gy rfl rfl rfl S (y_add rfl S rfl rfl (by omega)) fun a S => ?_
           refine ga S fun a S => ?_
           refine gnt ?_
           first
           | exact ⟨(p + 1, g2.propose rec, z3), S.nil.cons S 13 rfl, (((S.nil.cons S 2 rfl).cons S 7 rfl).cons S 8 rfl).cons S 9 rfl, ⟨by dsimp only; omega, hPg2, H⟩, by dsimp only; omega⟩
           | exact ⟨(p + 1, g4, z4), S.nil.cons S 13 rfl, (((S.nil.cons S 2 rfl).cons S 7 rfl).cons S 8 rfl).cons S 9 rfl, ⟨by dsimp only; omega, hres.resolve_right (hi.2 (by simpa using @c10)), H⟩, by dsimp only; omega⟩
          ·have h8p := h8; try simp only [DL] at h8p
           all_goals (
             exact absurd h8 (by simp))
         ·skip
          refine g_region ?_
          refine gm S fun a S => ?_
          refine gm S fun a S => ?_
          refine wl_of (op_call (wn rfl) rfl rfl S (co_func rfl Try.call16 S rfl) (propose_spec c n g2 z2 rec _ H hF2) fun v w hc a S => ?_)
          obtain ⟨rfl, z3, H⟩ := hc
          rw [hpx] at S
          refine gm S fun a S => ?_
          refine gy rfl rfl rfl S (y_extract rfl S rfl rfl) fun a S => ?_
          refine gy rfl rfl rfl S (y_extract rfl S rfl rfl) fun a S => ?_
          refine ga S fun a S => ?_
          refine ga S fun a S => ?_
          refine gnt ?_
          have S := ((((((S.nil.cons S 2 rfl).cons S 7 rfl).cons S 8 rfl).cons S 9 rfl).cons S 13 rfl).cons S 14 rfl).cons S 15 rfl
          refine g_seq ?_
          refine gsr ?_
          refine gm S fun a S => ?_
          refine gy rfl rfl rfl S (y_bin rfl S rfl rfl rfl) fun a S => ?_
          refine gnt ?_
          refine c_if S rfl (fun h9 => ?_) (fun h9 => ?_)
          ·have h9p := h9; try simp only [DL] at h9p
           all_goals (
             exact absurd h9 (by simp))
          ·have h9p := h9; try simp only [DL] at h9p
           refine g_skip ?_
           refine n_then ?_
           refine g_seq ?_
           refine gsr ?_
           refine gm S fun a S => ?_
           refine gy rfl rfl rfl S (y_bin rfl S rfl rfl rfl) fun a S => ?_
           refine gm S fun a S => ?_
           refine gz 86 rfl S rfl rfl rfl rfl rfl rfl (y_move rfl S rfl) fun a S => ?_
           refine gz 86 rfl S rfl rfl rfl rfl rfl rfl (y_move rfl S rfl) fun a S => ?_
           refine wl_of (op_call (wg' 86 rfl rfl S rfl rfl rfl) rfl rfl S (co_func rfl Try.call24 S rfl) (flush_spec c n (g2.propose rec) z3 (J2) 19999 _ H (t1) (t2) (t3) (by decide)) fun v w hc a S => ?_)
           obtain ⟨rfl, g4, z4, hj4, hG4, hq4, hn4, H⟩ := hc
           obtain ⟨hF4, hres⟩ := t4 g4 hj4 hG4 hq4
           refine gz 86 rfl S rfl rfl rfl rfl rfl rfl (y_not rfl S rfl) fun a S => ?_
           refine gy rfl rfl rfl S (y_or' rfl rfl S rfl rfl) fun a S => ?_
           refine gnt ?_
           have S := ((((((S.nil.cons S 2 rfl).cons S 7 rfl).cons S 8 rfl).cons S 9 rfl).cons S 13 rfl).cons S 14 rfl).cons S 91 rfl
           refine c_if S rfl (fun h11 => ?_) (fun h11 => ?_)
           ·have h11p := h11; try simp only [DL] at h11p
            all_goals (
              exact absurd h11 (by simp))
           ·have h11p := h11; try simp only [DL] at h11p
            refine g_skip ?_
            refine n_then ?_
            refine gsr ?_
            refine ga S fun a S => ?_
            refine gnt ?_
            refine g_seq ?_
            refine gsr ?_
            refine ga S fun a S => ?_
            refine gnt ?_
            refine g_block ?_
            have SU := (((((S.nil.cons S 2 rfl).cons S 7 rfl).cons S 8 rfl).cons S 9 rfl).cons S 13 rfl).cons S 14 rfl
            refine loop_k (X := Nat × Bool) SU (fun x => [(16, .bool x.2), (17, .int .i64 (x.1 : Int))]) (fun x => x.1 ≤ n ∧ (x.2 = false → ¬ Won g4 kk rec)) (fun x => n - x.1) (0, true) ((S.nil.cons S 17 rfl).cons S 16 rfl) H (⟨Nat.zero_le _, fun h => (by cases h)⟩) (fun x a w S H hi => ?_)
            simp only [List.cons_append, List.nil_append] at S hi
            obtain ⟨v, al⟩ := x
            dsimp only at S
            have hv1 : v ≤ n := hi.1
            refine g_seq ?_
            refine gsr ?_
            refine gm S fun a S => ?_
            refine gm S fun a S => ?_
            refine gy rfl rfl rfl S (y_bin rfl S rfl rfl rfl) fun a S => ?_
            refine gnt ?_
            refine c_if S rfl (fun h12 => ?_) (fun h12 => ?_)
            ·have h12p := h12; try simp only [DL] at h12p
             refine g_skip ?_
             refine n_then ?_
             refine g_seq ?_
             refine g_block ?_
             refine gsr ?_
             refine gm S fun a S => ?_
             refine gm S fun a S => ?_
             refine wl_of (op_call (wn rfl) rfl rfl S (co_func rfl Try.call20 S rfl) (committed_spec c n g4 z4 v _ H hF4) fun u99 w hc a S => ?_)
             have H1 := hc
             have H := H.call1 H1 rfl
             refine ga S fun a S => ?_
             refine gnt ?_
             have S := ((((((((S.nil.cons S 2 rfl).cons S 7 rfl).cons S 8 rfl).cons S 9 rfl).cons S 13 rfl).cons S 14 rfl).cons S 17 rfl).cons S 16 rfl).cons S 18 rfl
             refine g_region ?_
             refine gm S fun a S => ?_
             refine gm S fun a S => ?_
             refine' wl_and 5 101 rfl S H rfl rfl rfl rfl rfl rfl rfl (fun _ S => (wn rfl)) (fun h13 kk => ?yh13) (fun a w S H => ?_)
             case yh13 =>
              have h13p := h13; try simp only [DL] at h13p
              refine gz 101 h13 S rfl rfl rfl rfl rfl rfl (y_move rfl S rfl) fun a S => ?_
              refine gz 101 h13 S rfl rfl rfl rfl rfl rfl (y_lens rfl Try.underlying39 S H rfl) fun a S => ?_
              refine gz 101 h13 S rfl rfl rfl rfl rfl rfl (y_move rfl S rfl) fun a S => ?_
              refine gz 101 h13 S rfl rfl rfl rfl rfl rfl (y_add rfl S rfl rfl (by omega)) fun a S => ?_
              refine gz 101 h13 S rfl rfl rfl rfl rfl rfl (y_bin rfl S rfl rfl rfl) fun a S => ?_
              refine gy rfl rfl rfl S (y_and' rfl h13 S rfl rfl) fun a S => ?_
              exact kk _ _ (S.join 6 107 rfl rfl) H
             refine gm S fun a S => ?_
             refine' wl_and 6 108 rfl S H rfl rfl rfl rfl rfl rfl rfl (fun _ S => (wn rfl)) (fun h14 kk => ?yh14) (fun a w S H => ?_)
             case yh14 =>
              have h14p := h14; try simp only [DL] at h14p
              refine gz 108 h14 S rfl rfl rfl rfl rfl rfl (y_move rfl S rfl) fun a S => ?_
              refine gz 108 h14 S rfl rfl rfl rfl rfl rfl (y_move rfl S rfl) fun a S => ?_
              refine gz 108 h14 S rfl rfl rfl rfl rfl rfl (y_iaddrn rfl Try.underlying39 Fsiz9 S H rfl rfl (by first | assumption | omega | (simp only [LL]; omega))) fun a S => ?_
              refine gz 108 h14 S rfl rfl rfl rfl rfl rfl ((y_loadsD u99 ⟨#[]⟩ rfl Fsca9 S H rfl (by omega) rfl)) fun a S => ?_
              refine gz 108 h14 S rfl rfl rfl rfl rfl rfl (y_move rfl S rfl) fun a S => ?_
              refine gz 108 h14 S rfl rfl rfl rfl rfl rfl (y_eqs rfl Try.underlying9 S rfl rfl) fun a S => ?_
              refine gy rfl rfl rfl S (y_and' rfl h14 S rfl rfl) fun a S => ?_
              exact kk _ _ (S.join 7 115 rfl rfl) H
             refine ga S fun a S => ?_
             refine gl_nil ?_
             refine n_block ?_
             refine n_then ?_
             have S := (((((((S.nil.cons S 2 rfl).cons S 7 rfl).cons S 8 rfl).cons S 9 rfl).cons S 13 rfl).cons S 14 rfl).cons S 17 rfl).cons S 16 rfl
             refine g_region ?_
             refine gm S fun a S => ?_
             refine gy rfl rfl rfl S (y_add rfl S rfl rfl (by omega)) fun a S => ?_
             refine ga S fun a S => ?_
             refine gnt ?_
             exact ⟨(v + 1, _), (S.nil.cons S 17 rfl).cons S 16 rfl, (((((S.nil.cons S 2 rfl).cons S 7 rfl).cons S 8 rfl).cons S 9 rfl).cons S 13 rfl).cons S 14 rfl, H.drop 1, ⟨by dsimp only; omega, won_step (by omega) hi.2⟩, by dsimp only; omega⟩
            ·have h12p := h12; try simp only [DL] at h12p
             refine g_exit ?_
             refine x_then (x_then (x_eq ?_))
             refine n_then ?_
             have S := (((((S.nil.cons S 2 rfl).cons S 7 rfl).cons S 8 rfl).cons S 9 rfl).cons S 13 rfl).cons S 16 rfl
             refine gsr ?_
             refine gm S fun a S => ?_
             refine gnt ?_
             refine c_if S rfl (fun h15 => ?_) (fun h15 => ?_)
             ·have h15p := h15; try simp only [DL] at h15p
              refine gsr ?_
              refine gm S fun a S => ?_
              refine ga S fun a S => ?_
              refine gnt ?_
              refine g_ret ?_
              refine r_block (r_then (r_then (r_block (r_then (ret1 rfl S rfl ?_)))))
              first
              | exact ⟨rfl, H.toExt⟩
              | exact absurd (show Pg g n (2 * n) from (show p = 2 * n by have := h6p; omega) ▸ hPg) (fun h => h.over)
             ·have h15p := h15; try simp only [DL] at h15p
              refine g_skip ?_
              refine n_block ?_
              refine n_then ?_
              refine g_region ?_
              refine gm S fun a S => ?_
              refine gy rfl rfl rfl S (y_add rfl S rfl rfl (by omega)) fun a S => ?_
              refine ga S fun a S => ?_
              refine gnt ?_
              first
              | exact ⟨(p + 1, g2.propose rec, z3), S.nil.cons S 13 rfl, (((S.nil.cons S 2 rfl).cons S 7 rfl).cons S 8 rfl).cons S 9 rfl, ⟨by dsimp only; omega, hPg2, H⟩, by dsimp only; omega⟩
              | exact ⟨(p + 1, g4, z4), S.nil.cons S 13 rfl, (((S.nil.cons S 2 rfl).cons S 7 rfl).cons S 8 rfl).cons S 9 rfl, ⟨by dsimp only; omega, hres.resolve_right (hi.2 (by simpa using h15)), H⟩, by dsimp only; omega⟩
      ·have h6p := h6; try simp only [DL] at h6p
       refine g_exit ?_
       refine x_then (x_then (x_eq ?_))
       refine n_then ?_
       have S := S.nil
       refine gsr ?_
       refine ga S fun a S => ?_
       refine gnt ?_
       refine g_ret ?_
       refine ret1 rfl S rfl ?_
       first
       | exact ⟨rfl, H.toExt⟩
       | exact absurd (show Pg g n (2 * n) from (show p = 2 * n by have := h6p; omega) ▸ hPg) (fun h => h.over)
end Go.Proofs.Ytbjknckddoegfaa
