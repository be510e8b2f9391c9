/- The walks. No condition. -/
import Derived.Test.YtbjknckddoegfaaChecked
import Derived.Test.YtbjknckddoegfaaGwFam
import Derived.Test.YtbjknckddoegfaaFacts
import Derived.Test.YtbjknckddoegfaaPlainP
import Derived.Test.YtbjknckddoegfaaT0
import Derived.Test.YtbjknckddoegfaaTH
import Derived.Test.YtbjknckddoegfaaW13
namespace Go.Proofs.Ytbjknckddoegfaa
open Go Go.Gw
set_option linter.unusedVariables false
set_option linter.unusedSimpArgs false
theorem new_err (m : Int) (w0 : World) : Ret Try.prog 10 #[.int .i64 m] w0 (fun u w => ∃ pv, u = .tuple #[pv, .int .i64 (if 1 ≤ m ∧ m ≤ 7 then 0 else 1)] ∧ Ext w0 w) := (new_spec m w0).mono fun u w hh => by
  by_cases h : 1 ≤ m ∧ m ≤ 7
  · obtain ⟨c, z, e, H⟩ := hh.2 h
    exact ⟨_, by rw [if_pos h]; exact e, H.toExt⟩
  · obtain ⟨e, H⟩ := hh.1 h
    exact ⟨_, by rw [if_neg h]; exact e, H⟩
set_option maxHeartbeats 4000000 in
/-- foyer/foyerlaw48.ReplicaMatchesReference -/
theorem law1 (x0 : Nat) (other : Int) (vl : Value) (l : List OpR) (w0 : World) (hx0 : x0 < 256) (hl : IsSl w0 vl 4 OpR.enc l) (hok : ∀ x ∈ l, x.ok) :
    Ret Try.prog 3 #[.int .u8 (x0 : Int), .int .i64 other, vl] w0 (fun u w => u = .bool true ∧ Ext w0 w) := by
 refine ret_of_wp (nt := 195) Try.func3 rfl rfl rfl (fl := [(0, .int .u8 (x0 : Int)), (1, .int .i64 other), (2, vl)]) rfl (fun a S => ?_)
 have H := HSat.start w0
 have H := H.ro0 (Sl vl 4 OpR.enc l) rfl (hl)
 have hlen := hl.len
 refine gsr ?_
 refine ga S fun a S => ?_
 refine gnt ?_
 refine gsr ?_
 refine wl_of (op_call (wn rfl) rfl rfl S (co_func rfl Try.call8 S rfl) (head_spec _) fun v w hc a S => ?_)
 obtain ⟨rfl, he⟩ := hc
 have H := H.ext he
 refine ga S fun a S => ?_
 refine gnt ?_
 refine g_seq ?_
 refine gsr ?_
 refine gm S fun a S => ?_
 refine gy rfl rfl rfl S (y_lens rfl Try.underlying22 S H rfl) fun a S => ?_
 refine gy rfl rfl rfl S (y_bin rfl S rfl rfl rfl) fun a S => ?_
 refine gnt ?_
 refine c_if S rfl (fun h1 => ?_) (fun h1 => ?_)
 ·have h1p := h1; try simp only [DL] at h1p
  refine gsr ?_
  refine gm S fun a S => ?_
  refine ga S fun a S => ?_
  refine gnt ?_
  have S := ((((S.nil.cons S 2 rfl).cons S 1 rfl).cons S 0 rfl).cons S 7 rfl).cons S 6 rfl
  refine g_ret ?_
  refine r_then (ret1 rfl S rfl ?_)
  exact ⟨rfl, H.toExt⟩
 ·have h1p := h1; try simp only [DL] at h1p
  refine g_skip ?_
  refine n_then ?_
  have S := ((((S.nil.cons S 2 rfl).cons S 1 rfl).cons S 0 rfl).cons S 6 rfl).cons S 7 rfl
  refine gsr ?_
  refine gm S fun a S => ?_
  refine wl_of (op_call (wn rfl) rfl rfl S (co_func rfl Try.call9 S rfl) (size_spec x0 _ hx0) fun v w hc a S => ?_)
  obtain ⟨rfl, he⟩ := hc
  have H := H.ext he
  obtain ⟨n, hn⟩ : ∃ n : Nat, n = 1 + x0 % 7 := ⟨_, rfl⟩
  rw [← hn] at S
  refine ga S fun a S => ?_
  refine gnt ?_
  refine gsr ?_
  refine gm S fun a S => ?_
  refine wl_of (op_call (wn rfl) rfl rfl S (co_func rfl Try.call10 S rfl) (new_ok n _ H (by omega)) fun v w hc a S => ?_)
  obtain ⟨c, z, rfl, H⟩ := hc
  
  refine gm S fun a S => ?_
  refine gy rfl rfl rfl S (y_extract rfl S rfl rfl) fun a S => ?_
  refine gy rfl rfl rfl S (y_extract rfl S rfl rfl) fun a S => ?_
  refine ga S fun a S => ?_
  refine ga S fun a S => ?_
  refine gnt ?_
  have S := ((((((S.nil.cons S 2 rfl).cons S 1 rfl).cons S 6 rfl).cons S 7 rfl).cons S 8 rfl).cons S 9 rfl).cons S 10 rfl
  refine gsr ?_
  refine gm S fun a S => ?_
  refine wl_of (op_call (wn rfl) rfl rfl S (co_func rfl Try.call11 S rfl) (rnew_ok n _ H (by omega)) fun v w hc a S => ?_)
  obtain ⟨d, zr, rfl, H⟩ := hc
  
  refine gm S fun a S => ?_
  refine gy rfl rfl rfl S (y_extract rfl S rfl rfl) fun a S => ?_
  refine gy rfl rfl rfl S (y_extract rfl S rfl rfl) fun a S => ?_
  refine ga S fun a S => ?_
  refine ga S fun a S => ?_
  refine gnt ?_
  have S := ((((((((S.nil.cons S 2 rfl).cons S 1 rfl).cons S 6 rfl).cons S 7 rfl).cons S 8 rfl).cons S 9 rfl).cons S 10 rfl).cons S 11 rfl).cons S 12 rfl
  refine gsr ?_
  refine gm S fun a S => ?_
  refine wl_of (op_call (wn rfl) rfl rfl S (co_func rfl Try.call10 S rfl) (new_err other _) fun v w hc a S => ?_)
  obtain ⟨pv, rfl, he⟩ := hc
  have H := H.ext he
  refine gm S fun a S => ?_
  refine gy rfl rfl rfl S (y_extract rfl S rfl rfl) fun a S => ?_
  refine gy rfl rfl rfl S (y_extract rfl S rfl rfl) fun a S => ?_
  refine ga S fun a S => ?_
  refine ga S fun a S => ?_
  refine gnt ?_
  have S := (((((((((S.nil.cons S 2 rfl).cons S 1 rfl).cons S 6 rfl).cons S 7 rfl).cons S 8 rfl).cons S 9 rfl).cons S 10 rfl).cons S 11 rfl).cons S 12 rfl).cons S 14 rfl
  refine g_seq ?_
  refine gsr ?_
  refine gm S fun a S => ?_
  refine gm S fun a S => ?_
  refine gy rfl rfl rfl S (y_bin rfl S rfl rfl rfl) fun a S => ?_
  refine gm S fun a S => ?_
  refine gz 53 rfl S rfl rfl rfl rfl rfl rfl (y_move rfl S rfl) fun a S => ?_
  refine gz 53 rfl S rfl rfl rfl rfl rfl rfl (y_bin rfl S rfl rfl rfl) fun a S => ?_
  refine gz 53 rfl S rfl rfl rfl rfl rfl rfl (y_move rfl S rfl) fun a S => ?_
  refine gz 53 rfl S rfl rfl rfl rfl rfl rfl (y_bin rfl S rfl rfl rfl) fun a S => ?_
  refine gz 53 rfl S rfl rfl rfl rfl rfl rfl (y_move rfl S rfl) fun a S => ?_
  refine' wl_and 2 58 rfl S H rfl rfl rfl rfl rfl rfl rfl (fun _ S => (wg' 53 rfl rfl S rfl rfl rfl)) (fun h3 kk => ?yh3) (fun a w S H => ?_)
  case yh3 =>
   have h3p := h3; try simp only [DL] at h3p
   refine gz 58 h3 S rfl rfl rfl rfl rfl rfl (y_move rfl S rfl) fun a S => ?_
   refine gz 58 h3 S rfl rfl rfl rfl rfl rfl (y_bin rfl S rfl rfl rfl) fun a S => ?_
   refine gz 53 rfl S rfl rfl rfl rfl rfl rfl (y_and' rfl h3 S rfl rfl) fun a S => ?_
   exact kk _ _ (S.join 3 61 rfl rfl) H
  refine gz 53 rfl S rfl rfl rfl rfl rfl rfl (y_neb rfl Try.underlying4 S rfl rfl) fun a S => ?_
  refine gy rfl rfl rfl S (y_or' rfl rfl S rfl rfl) fun a S => ?_
  refine gnt ?_
  have S := ((((((S.nil.cons S 2 rfl).cons S 6 rfl).cons S 7 rfl).cons S 8 rfl).cons S 9 rfl).cons S 11 rfl).cons S 63 rfl
  refine c_if S rfl (fun h4 => ?_) (fun h4 => ?_)
  ·have h4p := h4; try simp only [DL] at h4p
   all_goals (
     exfalso
     have hh := h4
     by_cases hb : 1 ≤ other ∧ other ≤ 7
     · simp [hb] at hh <;> omega
     · simp [hb] at hh <;> omega)
  ·have h4p := h4; try simp only [DL] at h4p
   refine g_skip ?_
   refine n_then ?_
   refine g_seq ?_
   refine gsr ?_
   refine ga S fun a S => ?_
   refine gnt ?_
   refine g_block ?_
   have SU := ((((S.nil.cons S 2 rfl).cons S 7 rfl).cons S 8 rfl).cons S 9 rfl).cons S 11 rfl
   refine loopW (X := Nat × Grp × GV × RGV) SU (fun x => [(15, .int .i64 (x.1 : Int))]) (fun x w => x.1 ≤ l.length ∧ Ok x.2.1 x.1 ∧ x.2.1.n = n ∧ HSat No w0 (GrpA c n x.2.1 x.2.2.1 :: GCel c :: GPts c n :: RGrpA d n x.2.1 x.2.2.2 :: RCel d :: RPts d n :: Sl vl 4 OpR.enc l :: []) w) (fun x => l.length - x.1) (0, Grp.z n, z, zr) (S.nil.cons S 15 rfl) (⟨Nat.zero_le _, Ok.start (by omega), Grp.z_n n, H.take [GrpA c n (Grp.z n) z, GCel c, GPts c n, RGrpA d n (Grp.z n) zr, RCel d, RPts d n, Sl vl 4 OpR.enc l]⟩) (fun x a w S hW => ?_)
   simp only [List.cons_append, List.nil_append] at S
   obtain ⟨k, g, z, zr⟩ := x
   obtain ⟨hk, hO, hgn, H⟩ := hW
   dsimp only at S H hk hO hgn
   refine g_seq ?_
   refine gsr ?_
   refine gm S fun a S => ?_
   refine gm S fun a S => ?_
   refine gy rfl rfl rfl S (y_lens rfl Try.underlying22 S H rfl) fun a S => ?_
   refine gy rfl rfl rfl S (y_bin rfl S rfl rfl rfl) fun a S => ?_
   refine gnt ?_
   refine c_if S rfl (fun h5 => ?_) (fun h5 => ?_)
   ·have h5p := h5; try simp only [DL] at h5p
    have hxo := hok l[k] (List.getElem_mem (by omega))
    have hxa := hxo.a
    have hxb := hxo.b
    have hkd : l[k].kind % 6 < 6 := Nat.mod_lt _ (by decide)
    refine g_skip ?_
    refine n_then ?_
    have S := (((((S.nil.cons S 2 rfl).cons S 7 rfl).cons S 8 rfl).cons S 9 rfl).cons S 11 rfl).cons S 15 rfl
    refine g_seq ?_
    refine g_block ?_
    refine g_seq ?_
    refine region_st (loud := []) (tails := []) (free := []) [0, 1, 2, 3, 4, 5, 6, 7, 8, 9, 10, 11, 12, 13, 14, 15, 16, 17, 18, 19] [Sl vl 4 OpR.enc l] Fmo (by kernel_rfl) (by kernel_rfl) rfl H ?_
    refine m_w rfl rfl (wn rfl) rfl rfl S (fun w H => y_move rfl S rfl) fun a S => ?_
    refine m_w rfl rfl (wn rfl) rfl rfl S (fun w H => y_move rfl S rfl) fun a S => ?_
    refine m_w rfl rfl (wn rfl) rfl rfl S (fun w H => y_iaddrn rfl Try.underlying22 Fsiz33 S H rfl rfl (by first | assumption | omega | (simp only [LL]; omega))) fun a S => ?_
    refine m_w rfl rfl (wn rfl) rfl rfl S (fun w H => y_faddr rfl Ffo33_1 S rfl) fun a S => ?_
    refine m_loadsf _ rfl rfl (wn rfl) rfl rfl S rfl Fsca5 rfl (by first | assumption | omega | (simp only [LL]; omega)) rfl fun a S => ?_
    refine m_w rfl rfl (wn rfl) rfl rfl S (fun w H => y_conv rfl Try.underlying5 Try.underlying3 S rfl (by omega)) fun a S => ?_
    refine m_w rfl rfl (wn rfl) rfl rfl S (fun w H => y_move rfl S rfl) fun a S => ?_
    refine m_w rfl rfl (wn rfl) rfl rfl S (fun w H => y_add rfl S rfl rfl (by omega)) fun a S => ?_
    refine m_w rfl rfl (wn rfl) rfl rfl S (fun w H => (y_remN (m := l[k].a) (q := n + 1) rfl S rfl rfl (by omega))) fun a S => ?_
    refine m_w rfl rfl (wn rfl) rfl rfl S (fun w H => y_move rfl S rfl) fun a S => ?_
    refine m_w rfl rfl (wn rfl) rfl rfl S (fun w H => y_move rfl S rfl) fun a S => ?_
    refine m_w rfl rfl (wn rfl) rfl rfl S (fun w H => y_iaddrn rfl Try.underlying22 Fsiz33 S H rfl rfl (by first | assumption | omega | (simp only [LL]; omega))) fun a S => ?_
    refine m_w rfl rfl (wn rfl) rfl rfl S (fun w H => y_faddr rfl Ffo33_2 S rfl) fun a S => ?_
    refine m_loadsf _ rfl rfl (wn rfl) rfl rfl S rfl Fsca5 rfl (by first | assumption | omega | (simp only [LL]; omega)) rfl fun a S => ?_
    refine m_w rfl rfl (wn rfl) rfl rfl S (fun w H => y_conv rfl Try.underlying5 Try.underlying3 S rfl (by omega)) fun a S => ?_
    refine m_w rfl rfl (wn rfl) rfl rfl S (fun w H => y_move rfl S rfl) fun a S => ?_
    refine m_w rfl rfl (wn rfl) rfl rfl S (fun w H => y_add rfl S rfl rfl (by omega)) fun a S => ?_
    refine m_w rfl rfl (wn rfl) rfl rfl S (fun w H => (y_remN (m := l[k].b) (q := n + 1) rfl S rfl rfl (by omega))) fun a S => ?_
    refine m_w rfl rfl (wn rfl) rfl rfl S (fun w H => y_assign rfl S rfl) fun a S => ?_
    refine m_w rfl rfl (wn rfl) rfl rfl S (fun w H => y_assign rfl S rfl) fun a S => ?_
    refine m_nil (fun w H => ?_)
    refine n_then ?_
    have S := (((((((S.nil.cons S 2 rfl).cons S 7 rfl).cons S 8 rfl).cons S 9 rfl).cons S 11 rfl).cons S 15 rfl).cons S 16 rfl).cons S 17 rfl
    refine gsr ?_
    refine ga S fun a S => ?_
    refine gnt ?_
    refine g_seq ?_
    refine gsr ?_
    refine gm S fun a S => ?_
    refine gm S fun a S => ?_
    refine gy rfl rfl rfl S (y_iaddrn rfl Try.underlying22 Fsiz33 S H rfl rfl (by first | assumption | omega | (simp only [LL]; omega))) fun a S => ?_
    refine gy rfl rfl rfl S (y_faddr rfl Ffo33_0 S rfl) fun a S => ?_
    refine gy rfl rfl rfl S (y_loadsf _ rfl Fsca5 S H rfl (by first | assumption | omega | (simp only [LL]; omega)) rfl) fun a S => ?_
    refine gy rfl rfl rfl S ((y_remN (m := l[k].kind) (q := 6) rfl S rfl rfl (by decide))) fun a S => ?_
    refine gnt ?_
    have S := (((((((((S.nil.cons S 2 rfl).cons S 7 rfl).cons S 8 rfl).cons S 9 rfl).cons S 11 rfl).cons S 15 rfl).cons S 16 rfl).cons S 17 rfl).cons S 18 rfl).cons S 93 rfl
    refine g_block ?_
    refine g_seq ?_
    refine gsr ?_
    refine gy rfl rfl rfl S (y_bin rfl S rfl rfl rfl) fun a S => ?_
    refine ga S fun a S => ?_
    refine gnt ?_
    refine c_if S rfl (fun h6 => ?_) (fun h6 => ?_)
    ·have h6p := h6; try simp only [DL] at h6p
     refine g_skip ?_
     refine n_then ?_
     refine c_if S rfl (fun h7 => ?_) (fun h7 => ?_)
     ·have h7p := h7; try simp only [DL] at h7p
      refine gsr ?_
      refine gm S fun a S => ?_
      refine gm S fun a S => ?_
      refine gy rfl rfl rfl S (y_iaddrn rfl Try.underlying22 Fsiz33 S H rfl rfl (by first | assumption | omega | (simp only [LL]; omega))) fun a S => ?_
      refine gy rfl rfl rfl S (y_faddr rfl Ffo33_0 S rfl) fun a S => ?_
      refine gy rfl rfl rfl S (y_loadsf _ rfl Fsca5 S H rfl (by first | assumption | omega | (simp only [LL]; omega)) rfl) fun a S => ?_
      refine gy rfl rfl rfl S ((y_remN (m := l[k].kind) (q := 6) rfl S rfl rfl (by decide))) fun a S => ?_
      refine gy rfl rfl rfl S (y_bin rfl S rfl rfl rfl) fun a S => ?_
      refine ga S fun a S => ?_
      refine gnt ?_
      have S := (((((((((S.nil.cons S 2 rfl).cons S 7 rfl).cons S 8 rfl).cons S 9 rfl).cons S 11 rfl).cons S 15 rfl).cons S 16 rfl).cons S 17 rfl).cons S 18 rfl).cons S 19 rfl
      refine g_region ?_
      refine gm S fun a S => ?_
      refine gm S fun a S => ?_
      refine gm S fun a S => ?_
      refine gm S fun a S => ?_
      refine wl_of (op_call (wn rfl) rfl rfl S (co_func rfl Try.call12 S rfl) (deliver_spec c n g z (l[k].a % (n + 1)) (l[k].b % (n + 1)) (decide (((l[k].kind % 6 : Nat) : Int) = 1)) _ H (hO.fit (by omega))) fun v w hc a S => ?_)
      obtain ⟨rfl, z1, H⟩ := hc
      
      refine gm S fun a S => ?_
      refine gm S fun a S => ?_
      refine gm S fun a S => ?_
      refine gm S fun a S => ?_
      refine wl_of (op_call (wn rfl) rfl rfl S (co_func rfl Try.call13 S rfl) (rdeliver_spec d n g zr (l[k].a % (n + 1)) (l[k].b % (n + 1)) (decide (((l[k].kind % 6 : Nat) : Int) = 1)) _ (H.takeT [RGrpA d n g zr, RCel d, RPts d n] [GrpA c n ((g.deliver (l[k].a % (n + 1)) (l[k].b % (n + 1)) (decide (((l[k].kind % 6 : Nat) : Int) = 1))).1) z1, GCel c, GPts c n, Sl vl 4 OpR.enc l]) (hO.fit (by omega))) fun v w hc a S => ?_)
      obtain ⟨rfl, y1, H⟩ := hc
      simp only [List.append_eq, List.nil_append] at H
      have H := H.take [GrpA c n ((g.deliver (l[k].a % (n + 1)) (l[k].b % (n + 1)) (decide (((l[k].kind % 6 : Nat) : Int) = 1))).1) z1, GCel c, GPts c n, RGrpA d n ((g.deliver (l[k].a % (n + 1)) (l[k].b % (n + 1)) (decide (((l[k].kind % 6 : Nat) : Int) = 1))).1) y1, RCel d, RPts d n, Sl vl 4 OpR.enc l]
      obtain ⟨g1, hO1, hgn1, H⟩ : ∃ g1, Ok g1 (k + 1) ∧ g1.n = n ∧ HSat No w0 (GrpA c n g1 z1 :: GCel c :: GPts c n :: RGrpA d n g1 y1 :: RCel d :: RPts d n :: Sl vl 4 OpR.enc l :: []) _ := ⟨((g.deliver (l[k].a % (n + 1)) (l[k].b % (n + 1)) (decide (((l[k].kind % 6 : Nat) : Int) = 1))).1), hO.deliver _ _ _, by rw [Grp.deliver_n]; exact hgn, H⟩
      refine gy rfl rfl rfl S (y_eqb rfl Try.underlying4 S rfl rfl) fun a S => ?_
      refine ga S fun a S => ?_
      refine gl_nil ?_
      refine n_block ?_
      refine n_then ?_
      have S := ((((((S.nil.cons S 2 rfl).cons S 7 rfl).cons S 8 rfl).cons S 9 rfl).cons S 11 rfl).cons S 15 rfl).cons S 18 rfl
      refine g_seq ?_
      refine gsr ?_
      refine gm S fun a S => ?_
      refine gy rfl rfl rfl S (y_not rfl S rfl) fun a S => ?_
      refine gnt ?_
      refine c_if S rfl (fun h8 => ?_) (fun h8 => ?_)
      ·have h8p := h8; try simp only [DL] at h8p
       all_goals (
         exact absurd h8 (by simp))
      ·have h8p := h8; try simp only [DL] at h8p
       refine g_skip ?_
       refine n_then ?_
       refine gsr ?_
       refine ga S fun a S => ?_
       refine gnt ?_
       refine g_block ?_
       have SU := (((((S.nil.cons S 2 rfl).cons S 7 rfl).cons S 8 rfl).cons S 9 rfl).cons S 11 rfl).cons S 15 rfl
       refine loop_k (X := Nat) SU (fun r => [(25, .int .i64 (r : Int))]) (fun r => r ≤ n + 1) (fun r => n + 1 - r) 0 (S.nil.cons S 25 rfl) H (Nat.zero_le _) (fun r a w S H hi => ?_)
       simp only [List.cons_append, List.nil_append] at S hi
       refine g_seq ?_
       refine gsr ?_
       refine gm S fun a S => ?_
       refine gm S fun a S => ?_
       refine gy rfl rfl rfl S (y_bin rfl S rfl rfl rfl) fun a S => ?_
       refine gnt ?_
       refine c_if S rfl (fun h9 => ?_) (fun h9 => ?_)
       ·have h9p := h9; try simp only [DL] at h9p
        refine g_skip ?_
        refine n_then ?_
        refine g_seq ?_
        refine g_block ?_
        refine gsr ?_
        refine gm S fun a S => ?_
        refine gm S fun a S => ?_
        refine wl_of (op_call (wn rfl) rfl rfl S (co_func rfl Try.call20 S rfl) (committed_spec c n g1 z1 r _ H (hO1.fit (by omega))) fun u179 w hc a S => ?_)
        have H1 := hc
        have H := H.call1 H1 rfl
        refine gm S fun a S => ?_
        refine gm S fun a S => ?_
        refine wl_of (op_call (wn rfl) rfl rfl S (co_func rfl Try.call21 S rfl) (rcommitted_spec d n g1 y1 r _ (H.takeT [RGrpA d n g1 y1, RCel d, RPts d n] [OSl 9 u179 1 encS (comR g1 r), GrpA c n g1 z1, GCel c, GPts c n, Sl vl 4 OpR.enc l]) (hO1.fit (by omega))) fun u182 w hc a S => ?_)
        have H1 := hc
        have H := H.call1 H1 rfl
        refine ga S fun a S => ?_
        refine ga S fun a S => ?_
        refine gnt ?_
        have S := ((((((((S.nil.cons S 2 rfl).cons S 7 rfl).cons S 8 rfl).cons S 9 rfl).cons S 11 rfl).cons S 15 rfl).cons S 25 rfl).cons S 26 rfl).cons S 27 rfl
        refine gsr ?_
        refine gm S fun a S => ?_
        refine gy rfl rfl rfl S (y_lens rfl Try.underlying39 S H rfl) fun a S => ?_
        refine gm S fun a S => ?_
        refine gy rfl rfl rfl S (y_lens rfl Try.underlying39 S H rfl) fun a S => ?_
        refine gy rfl rfl rfl S (y_bin rfl S rfl rfl rfl) fun a S => ?_
        refine gm S fun a S => ?_
        refine wl_of (op_y (wg' 188 rfl rfl S rfl (by simp) rfl) rfl rfl S (y_move rfl S rfl) fun a S => ?_)
        refine wl_of (op_y (wg' 188 rfl rfl S rfl (by simp) rfl) rfl rfl S (y_move rfl S rfl) fun a S => ?_)
        refine wl_of (op_call (wg' 188 rfl rfl S rfl (by simp) rfl) rfl rfl S (co_func rfl Try.call22 S rfl) (begins_spec u179 u182 (comR g1 r) (comR g1 r) _ (H.sl u179) (H.sl u182)) fun v w hc a S => ?_)
        obtain ⟨rfl, he⟩ := hc
        have H := H.ext he
        rw [beginsB_refl] at S
        refine wl_of (op_y (wg' 188 rfl rfl S rfl (by simp) rfl) rfl rfl S (y_not rfl S rfl) fun a S => ?_)
        refine gy rfl rfl rfl S (y_or' rfl (by simp) S rfl rfl) fun a S => ?_
        refine gnt ?_
        have S := (((((((S.nil.cons S 2 rfl).cons S 7 rfl).cons S 8 rfl).cons S 9 rfl).cons S 11 rfl).cons S 15 rfl).cons S 25 rfl).cons S 193 rfl
        refine c_if S rfl (fun h11 => ?_) (fun h11 => ?_)
        ·have h11p := h11; try simp only [DL] at h11p
         all_goals (
           exact absurd h11 (by simp))
        ·have h11p := h11; try simp only [DL] at h11p
         refine g_skip ?_
         refine n_block ?_
         refine n_then ?_
         refine g_region ?_
         refine gm S fun a S => ?_
         refine gy rfl rfl rfl S (y_add rfl S rfl rfl (by omega)) fun a S => ?_
         refine ga S fun a S => ?_
         refine gnt ?_
         exact ⟨r + 1, S.nil.cons S 25 rfl, (((((S.nil.cons S 2 rfl).cons S 7 rfl).cons S 8 rfl).cons S 9 rfl).cons S 11 rfl).cons S 15 rfl, H.drop 2, by omega, by omega⟩
       ·have h9p := h9; try simp only [DL] at h9p
        refine g_exit ?_
        refine x_then (x_then (x_eq ?_))
        refine n_block ?_
        refine n_then ?_
        have S := (((((S.nil.cons S 2 rfl).cons S 7 rfl).cons S 8 rfl).cons S 9 rfl).cons S 11 rfl).cons S 15 rfl
        refine g_region ?_
        refine gm S fun a S => ?_
        refine gy rfl rfl rfl S (y_add rfl S rfl rfl (by omega)) fun a S => ?_
        refine ga S fun a S => ?_
        refine gnt ?_
        exact ⟨(k + 1, g1, z1, y1), S.nil.cons S 15 rfl, ((((S.nil.cons S 2 rfl).cons S 7 rfl).cons S 8 rfl).cons S 9 rfl).cons S 11 rfl, ⟨by dsimp only; omega, hO1, hgn1, H⟩, by dsimp only; omega⟩
     ·have h7p := h7; try simp only [DL] at h7p
      all_goals (
        rw [h6] at h7
        cases h7)
    ·have h6p := h6; try simp only [DL] at h6p
     refine g_region ?_
     refine gy rfl rfl rfl S (y_bin rfl S rfl rfl rfl) fun a S => ?_
     refine ga S fun a S => ?_
     refine gnt ?_
     refine c_if S rfl (fun h12 => ?_) (fun h12 => ?_)
     ·have h12p := h12; try simp only [DL] at h12p
      refine gsr ?_
      refine gm S fun a S => ?_
      refine gm S fun a S => ?_
      refine gy rfl rfl rfl S (y_iaddrn rfl Try.underlying22 Fsiz33 S H rfl rfl (by first | assumption | omega | (simp only [LL]; omega))) fun a S => ?_
      refine gy rfl rfl rfl S (y_faddr rfl Ffo33_0 S rfl) fun a S => ?_
      refine gy rfl rfl rfl S (y_loadsf _ rfl Fsca5 S H rfl (by first | assumption | omega | (simp only [LL]; omega)) rfl) fun a S => ?_
      refine gy rfl rfl rfl S ((y_remN (m := l[k].kind) (q := 6) rfl S rfl rfl (by decide))) fun a S => ?_
      refine gy rfl rfl rfl S (y_bin rfl S rfl rfl rfl) fun a S => ?_
      refine ga S fun a S => ?_
      refine gnt ?_
      have S := (((((((((S.nil.cons S 2 rfl).cons S 7 rfl).cons S 8 rfl).cons S 9 rfl).cons S 11 rfl).cons S 15 rfl).cons S 16 rfl).cons S 17 rfl).cons S 18 rfl).cons S 19 rfl
      refine g_region ?_
      refine gm S fun a S => ?_
      refine gm S fun a S => ?_
      refine gm S fun a S => ?_
      refine gm S fun a S => ?_
      refine wl_of (op_call (wn rfl) rfl rfl S (co_func rfl Try.call12 S rfl) (deliver_spec c n g z (l[k].a % (n + 1)) (l[k].b % (n + 1)) (decide (((l[k].kind % 6 : Nat) : Int) = 1)) _ H (hO.fit (by omega))) fun v w hc a S => ?_)
      obtain ⟨rfl, z1, H⟩ := hc
      
      refine gm S fun a S => ?_
      refine gm S fun a S => ?_
      refine gm S fun a S => ?_
      refine gm S fun a S => ?_
      refine wl_of (op_call (wn rfl) rfl rfl S (co_func rfl Try.call13 S rfl) (rdeliver_spec d n g zr (l[k].a % (n + 1)) (l[k].b % (n + 1)) (decide (((l[k].kind % 6 : Nat) : Int) = 1)) _ (H.takeT [RGrpA d n g zr, RCel d, RPts d n] [GrpA c n ((g.deliver (l[k].a % (n + 1)) (l[k].b % (n + 1)) (decide (((l[k].kind % 6 : Nat) : Int) = 1))).1) z1, GCel c, GPts c n, Sl vl 4 OpR.enc l]) (hO.fit (by omega))) fun v w hc a S => ?_)
      obtain ⟨rfl, y1, H⟩ := hc
      simp only [List.append_eq, List.nil_append] at H
      have H := H.take [GrpA c n ((g.deliver (l[k].a % (n + 1)) (l[k].b % (n + 1)) (decide (((l[k].kind % 6 : Nat) : Int) = 1))).1) z1, GCel c, GPts c n, RGrpA d n ((g.deliver (l[k].a % (n + 1)) (l[k].b % (n + 1)) (decide (((l[k].kind % 6 : Nat) : Int) = 1))).1) y1, RCel d, RPts d n, Sl vl 4 OpR.enc l]
      obtain ⟨g1, hO1, hgn1, H⟩ : ∃ g1, Ok g1 (k + 1) ∧ g1.n = n ∧ HSat No w0 (GrpA c n g1 z1 :: GCel c :: GPts c n :: RGrpA d n g1 y1 :: RCel d :: RPts d n :: Sl vl 4 OpR.enc l :: []) _ := ⟨((g.deliver (l[k].a % (n + 1)) (l[k].b % (n + 1)) (decide (((l[k].kind % 6 : Nat) : Int) = 1))).1), hO.deliver _ _ _, by rw [Grp.deliver_n]; exact hgn, H⟩
      refine gy rfl rfl rfl S (y_eqb rfl Try.underlying4 S rfl rfl) fun a S => ?_
      refine ga S fun a S => ?_
      refine gl_nil ?_
      refine n_block ?_
      refine n_then ?_
      have S := ((((((S.nil.cons S 2 rfl).cons S 7 rfl).cons S 8 rfl).cons S 9 rfl).cons S 11 rfl).cons S 15 rfl).cons S 18 rfl
      refine g_seq ?_
      refine gsr ?_
      refine gm S fun a S => ?_
      refine gy rfl rfl rfl S (y_not rfl S rfl) fun a S => ?_
      refine gnt ?_
      refine c_if S rfl (fun h13 => ?_) (fun h13 => ?_)
      ·have h13p := h13; try simp only [DL] at h13p
       all_goals (
         exact absurd h13 (by simp))
      ·have h13p := h13; try simp only [DL] at h13p
       refine g_skip ?_
       refine n_then ?_
       refine gsr ?_
       refine ga S fun a S => ?_
       refine gnt ?_
       refine g_block ?_
       have SU := (((((S.nil.cons S 2 rfl).cons S 7 rfl).cons S 8 rfl).cons S 9 rfl).cons S 11 rfl).cons S 15 rfl
       refine loop_k (X := Nat) SU (fun r => [(25, .int .i64 (r : Int))]) (fun r => r ≤ n + 1) (fun r => n + 1 - r) 0 (S.nil.cons S 25 rfl) H (Nat.zero_le _) (fun r a w S H hi => ?_)
       simp only [List.cons_append, List.nil_append] at S hi
       refine g_seq ?_
       refine gsr ?_
       refine gm S fun a S => ?_
       refine gm S fun a S => ?_
       refine gy rfl rfl rfl S (y_bin rfl S rfl rfl rfl) fun a S => ?_
       refine gnt ?_
       refine c_if S rfl (fun h14 => ?_) (fun h14 => ?_)
       ·have h14p := h14; try simp only [DL] at h14p
        refine g_skip ?_
        refine n_then ?_
        refine g_seq ?_
        refine g_block ?_
        refine gsr ?_
        refine gm S fun a S => ?_
        refine gm S fun a S => ?_
        refine wl_of (op_call (wn rfl) rfl rfl S (co_func rfl Try.call20 S rfl) (committed_spec c n g1 z1 r _ H (hO1.fit (by omega))) fun u179 w hc a S => ?_)
        have H1 := hc
        have H := H.call1 H1 rfl
        refine gm S fun a S => ?_
        refine gm S fun a S => ?_
        refine wl_of (op_call (wn rfl) rfl rfl S (co_func rfl Try.call21 S rfl) (rcommitted_spec d n g1 y1 r _ (H.takeT [RGrpA d n g1 y1, RCel d, RPts d n] [OSl 9 u179 1 encS (comR g1 r), GrpA c n g1 z1, GCel c, GPts c n, Sl vl 4 OpR.enc l]) (hO1.fit (by omega))) fun u182 w hc a S => ?_)
        have H1 := hc
        have H := H.call1 H1 rfl
        refine ga S fun a S => ?_
        refine ga S fun a S => ?_
        refine gnt ?_
        have S := ((((((((S.nil.cons S 2 rfl).cons S 7 rfl).cons S 8 rfl).cons S 9 rfl).cons S 11 rfl).cons S 15 rfl).cons S 25 rfl).cons S 26 rfl).cons S 27 rfl
        refine gsr ?_
        refine gm S fun a S => ?_
        refine gy rfl rfl rfl S (y_lens rfl Try.underlying39 S H rfl) fun a S => ?_
        refine gm S fun a S => ?_
        refine gy rfl rfl rfl S (y_lens rfl Try.underlying39 S H rfl) fun a S => ?_
        refine gy rfl rfl rfl S (y_bin rfl S rfl rfl rfl) fun a S => ?_
        refine gm S fun a S => ?_
        refine wl_of (op_y (wg' 188 rfl rfl S rfl (by simp) rfl) rfl rfl S (y_move rfl S rfl) fun a S => ?_)
        refine wl_of (op_y (wg' 188 rfl rfl S rfl (by simp) rfl) rfl rfl S (y_move rfl S rfl) fun a S => ?_)
        refine wl_of (op_call (wg' 188 rfl rfl S rfl (by simp) rfl) rfl rfl S (co_func rfl Try.call22 S rfl) (begins_spec u179 u182 (comR g1 r) (comR g1 r) _ (H.sl u179) (H.sl u182)) fun v w hc a S => ?_)
        obtain ⟨rfl, he⟩ := hc
        have H := H.ext he
        rw [beginsB_refl] at S
        refine wl_of (op_y (wg' 188 rfl rfl S rfl (by simp) rfl) rfl rfl S (y_not rfl S rfl) fun a S => ?_)
        refine gy rfl rfl rfl S (y_or' rfl (by simp) S rfl rfl) fun a S => ?_
        refine gnt ?_
        have S := (((((((S.nil.cons S 2 rfl).cons S 7 rfl).cons S 8 rfl).cons S 9 rfl).cons S 11 rfl).cons S 15 rfl).cons S 25 rfl).cons S 193 rfl
        refine c_if S rfl (fun h16 => ?_) (fun h16 => ?_)
        ·have h16p := h16; try simp only [DL] at h16p
         all_goals (
           exact absurd h16 (by simp))
        ·have h16p := h16; try simp only [DL] at h16p
         refine g_skip ?_
         refine n_block ?_
         refine n_then ?_
         refine g_region ?_
         refine gm S fun a S => ?_
         refine gy rfl rfl rfl S (y_add rfl S rfl rfl (by omega)) fun a S => ?_
         refine ga S fun a S => ?_
         refine gnt ?_
         exact ⟨r + 1, S.nil.cons S 25 rfl, (((((S.nil.cons S 2 rfl).cons S 7 rfl).cons S 8 rfl).cons S 9 rfl).cons S 11 rfl).cons S 15 rfl, H.drop 2, by omega, by omega⟩
       ·have h14p := h14; try simp only [DL] at h14p
        refine g_exit ?_
        refine x_then (x_then (x_eq ?_))
        refine n_block ?_
        refine n_then ?_
        have S := (((((S.nil.cons S 2 rfl).cons S 7 rfl).cons S 8 rfl).cons S 9 rfl).cons S 11 rfl).cons S 15 rfl
        refine g_region ?_
        refine gm S fun a S => ?_
        refine gy rfl rfl rfl S (y_add rfl S rfl rfl (by omega)) fun a S => ?_
        refine ga S fun a S => ?_
        refine gnt ?_
        exact ⟨(k + 1, g1, z1, y1), S.nil.cons S 15 rfl, ((((S.nil.cons S 2 rfl).cons S 7 rfl).cons S 8 rfl).cons S 9 rfl).cons S 11 rfl, ⟨by dsimp only; omega, hO1, hgn1, H⟩, by dsimp only; omega⟩
     ·have h12p := h12; try simp only [DL] at h12p
      refine gsr ?_
      refine gy rfl rfl rfl S (y_bin rfl S rfl rfl rfl) fun a S => ?_
      refine ga S fun a S => ?_
      refine gnt ?_
      have S := (((((((((S.nil.cons S 2 rfl).cons S 7 rfl).cons S 8 rfl).cons S 9 rfl).cons S 11 rfl).cons S 15 rfl).cons S 16 rfl).cons S 18 rfl).cons S 93 rfl).cons S 131 rfl
      refine c_if S rfl (fun h17 => ?_) (fun h17 => ?_)
      ·have h17p := h17; try simp only [DL] at h17p
       refine g_region ?_
       refine gm S fun a S => ?_
       refine gm S fun a S => ?_
       refine wl_of (op_call (wn rfl) rfl rfl S (co_func rfl Try.call14 S rfl) (elect_spec c n g z (l[k].a % (n + 1)) _ H (hO.fit (by omega))) fun v w hc a S => ?_)
       obtain ⟨rfl, z1, H⟩ := hc
       
       refine gm S fun a S => ?_
       refine gm S fun a S => ?_
       refine wl_of (op_call (wn rfl) rfl rfl S (co_func rfl Try.call15 S rfl) (relect_spec d n g zr (l[k].a % (n + 1)) _ (H.takeT [RGrpA d n g zr, RCel d, RPts d n] [GrpA c n (g.elect (l[k].a % (n + 1))) z1, GCel c, GPts c n, Sl vl 4 OpR.enc l]) (hO.fit (by omega))) fun v w hc a S => ?_)
       obtain ⟨rfl, y1, H⟩ := hc
       simp only [List.append_eq, List.nil_append] at H
       have H := H.take [GrpA c n (g.elect (l[k].a % (n + 1))) z1, GCel c, GPts c n, RGrpA d n (g.elect (l[k].a % (n + 1))) y1, RCel d, RPts d n, Sl vl 4 OpR.enc l]
       obtain ⟨g1, hO1, hgn1, H⟩ : ∃ g1, Ok g1 (k + 1) ∧ g1.n = n ∧ HSat No w0 (GrpA c n g1 z1 :: GCel c :: GPts c n :: RGrpA d n g1 y1 :: RCel d :: RPts d n :: Sl vl 4 OpR.enc l :: []) _ := ⟨(g.elect (l[k].a % (n + 1))), hO.elect _, by rw [Grp.elect_n]; exact hgn, H⟩
       refine gy rfl rfl rfl S (y_bin rfl S rfl rfl rfl) fun a S => ?_
       refine ga S fun a S => ?_
       refine gl_nil ?_
       refine n_block ?_
       refine n_then ?_
       have S := ((((((S.nil.cons S 2 rfl).cons S 7 rfl).cons S 8 rfl).cons S 9 rfl).cons S 11 rfl).cons S 15 rfl).cons S 18 rfl
       refine g_seq ?_
       refine gsr ?_
       refine gm S fun a S => ?_
       refine gy rfl rfl rfl S (y_not rfl S rfl) fun a S => ?_
       refine gnt ?_
       refine c_if S rfl (fun h18 => ?_) (fun h18 => ?_)
       ·have h18p := h18; try simp only [DL] at h18p
        all_goals (
          exact absurd h18 (by simp))
       ·have h18p := h18; try simp only [DL] at h18p
        refine g_skip ?_
        refine n_then ?_
        refine gsr ?_
        refine ga S fun a S => ?_
        refine gnt ?_
        refine g_block ?_
        have SU := (((((S.nil.cons S 2 rfl).cons S 7 rfl).cons S 8 rfl).cons S 9 rfl).cons S 11 rfl).cons S 15 rfl
        refine loop_k (X := Nat) SU (fun r => [(25, .int .i64 (r : Int))]) (fun r => r ≤ n + 1) (fun r => n + 1 - r) 0 (S.nil.cons S 25 rfl) H (Nat.zero_le _) (fun r a w S H hi => ?_)
        simp only [List.cons_append, List.nil_append] at S hi
        refine g_seq ?_
        refine gsr ?_
        refine gm S fun a S => ?_
        refine gm S fun a S => ?_
        refine gy rfl rfl rfl S (y_bin rfl S rfl rfl rfl) fun a S => ?_
        refine gnt ?_
        refine c_if S rfl (fun h19 => ?_) (fun h19 => ?_)
        ·have h19p := h19; try simp only [DL] at h19p
         refine g_skip ?_
         refine n_then ?_
         refine g_seq ?_
         refine g_block ?_
         refine gsr ?_
         refine gm S fun a S => ?_
         refine gm S fun a S => ?_
         refine wl_of (op_call (wn rfl) rfl rfl S (co_func rfl Try.call20 S rfl) (committed_spec c n g1 z1 r _ H (hO1.fit (by omega))) fun u179 w hc a S => ?_)
         have H1 := hc
         have H := H.call1 H1 rfl
         refine gm S fun a S => ?_
         refine gm S fun a S => ?_
         refine wl_of (op_call (wn rfl) rfl rfl S (co_func rfl Try.call21 S rfl) (rcommitted_spec d n g1 y1 r _ (H.takeT [RGrpA d n g1 y1, RCel d, RPts d n] [OSl 9 u179 1 encS (comR g1 r), GrpA c n g1 z1, GCel c, GPts c n, Sl vl 4 OpR.enc l]) (hO1.fit (by omega))) fun u182 w hc a S => ?_)
         have H1 := hc
         have H := H.call1 H1 rfl
         refine ga S fun a S => ?_
         refine ga S fun a S => ?_
         refine gnt ?_
         have S := ((((((((S.nil.cons S 2 rfl).cons S 7 rfl).cons S 8 rfl).cons S 9 rfl).cons S 11 rfl).cons S 15 rfl).cons S 25 rfl).cons S 26 rfl).cons S 27 rfl
         refine gsr ?_
         refine gm S fun a S => ?_
         refine gy rfl rfl rfl S (y_lens rfl Try.underlying39 S H rfl) fun a S => ?_
         refine gm S fun a S => ?_
         refine gy rfl rfl rfl S (y_lens rfl Try.underlying39 S H rfl) fun a S => ?_
         refine gy rfl rfl rfl S (y_bin rfl S rfl rfl rfl) fun a S => ?_
         refine gm S fun a S => ?_
         refine wl_of (op_y (wg' 188 rfl rfl S rfl (by simp) rfl) rfl rfl S (y_move rfl S rfl) fun a S => ?_)
         refine wl_of (op_y (wg' 188 rfl rfl S rfl (by simp) rfl) rfl rfl S (y_move rfl S rfl) fun a S => ?_)
         refine wl_of (op_call (wg' 188 rfl rfl S rfl (by simp) rfl) rfl rfl S (co_func rfl Try.call22 S rfl) (begins_spec u179 u182 (comR g1 r) (comR g1 r) _ (H.sl u179) (H.sl u182)) fun v w hc a S => ?_)
         obtain ⟨rfl, he⟩ := hc
         have H := H.ext he
         rw [beginsB_refl] at S
         refine wl_of (op_y (wg' 188 rfl rfl S rfl (by simp) rfl) rfl rfl S (y_not rfl S rfl) fun a S => ?_)
         refine gy rfl rfl rfl S (y_or' rfl (by simp) S rfl rfl) fun a S => ?_
         refine gnt ?_
         have S := (((((((S.nil.cons S 2 rfl).cons S 7 rfl).cons S 8 rfl).cons S 9 rfl).cons S 11 rfl).cons S 15 rfl).cons S 25 rfl).cons S 193 rfl
         refine c_if S rfl (fun h21 => ?_) (fun h21 => ?_)
         ·have h21p := h21; try simp only [DL] at h21p
          all_goals (
            exact absurd h21 (by simp))
         ·have h21p := h21; try simp only [DL] at h21p
          refine g_skip ?_
          refine n_block ?_
          refine n_then ?_
          refine g_region ?_
          refine gm S fun a S => ?_
          refine gy rfl rfl rfl S (y_add rfl S rfl rfl (by omega)) fun a S => ?_
          refine ga S fun a S => ?_
          refine gnt ?_
          exact ⟨r + 1, S.nil.cons S 25 rfl, (((((S.nil.cons S 2 rfl).cons S 7 rfl).cons S 8 rfl).cons S 9 rfl).cons S 11 rfl).cons S 15 rfl, H.drop 2, by omega, by omega⟩
        ·have h19p := h19; try simp only [DL] at h19p
         refine g_exit ?_
         refine x_then (x_then (x_eq ?_))
         refine n_block ?_
         refine n_then ?_
         have S := (((((S.nil.cons S 2 rfl).cons S 7 rfl).cons S 8 rfl).cons S 9 rfl).cons S 11 rfl).cons S 15 rfl
         refine g_region ?_
         refine gm S fun a S => ?_
         refine gy rfl rfl rfl S (y_add rfl S rfl rfl (by omega)) fun a S => ?_
         refine ga S fun a S => ?_
         refine gnt ?_
         exact ⟨(k + 1, g1, z1, y1), S.nil.cons S 15 rfl, ((((S.nil.cons S 2 rfl).cons S 7 rfl).cons S 8 rfl).cons S 9 rfl).cons S 11 rfl, ⟨by dsimp only; omega, hO1, hgn1, H⟩, by dsimp only; omega⟩
      ·have h17p := h17; try simp only [DL] at h17p
       refine gsr ?_
       refine gy rfl rfl rfl S (y_bin rfl S rfl rfl rfl) fun a S => ?_
       refine ga S fun a S => ?_
       refine gnt ?_
       refine c_if S rfl (fun h22 => ?_) (fun h22 => ?_)
       ·have h22p := h22; try simp only [DL] at h22p
        refine gsr ?_
        refine gm S fun a S => ?_
        refine gm S fun a S => ?_
        refine gm S fun a S => ?_
        refine gy rfl rfl rfl S (y_iaddrn rfl Try.underlying22 Fsiz33 S H rfl rfl (by first | assumption | omega | (simp only [LL]; omega))) fun a S => ?_
        refine gy rfl rfl rfl S (y_faddr rfl Ffo33_3 S rfl) fun a S => ?_
        refine gy rfl rfl rfl S (y_loadsf _ rfl Fsca9 S H rfl (by first | assumption | omega | (simp only [LL]; omega)) rfl) fun a S => ?_
        refine wl_of (op_call (wn rfl) rfl rfl S (co_func rfl Try.call16 S rfl) (propose_spec c n g z l[k].txt _ H (hO.fit (by omega))) fun v w hc a S => ?_)
        obtain ⟨rfl, z1, H⟩ := hc
        
        refine gm S fun a S => ?_
        refine gy rfl rfl rfl S (y_extract rfl S rfl rfl) fun a S => ?_
        refine gy rfl rfl rfl S (y_extract rfl S rfl rfl) fun a S => ?_
        refine ga S fun a S => ?_
        refine ga S fun a S => ?_
        refine gnt ?_
        have S := ((((((((S.nil.cons S 2 rfl).cons S 7 rfl).cons S 8 rfl).cons S 9 rfl).cons S 11 rfl).cons S 15 rfl).cons S 18 rfl).cons S 20 rfl).cons S 21 rfl
        refine gsr ?_
        refine gm S fun a S => ?_
        refine gm S fun a S => ?_
        refine gm S fun a S => ?_
        refine gy rfl rfl rfl S (y_iaddrn rfl Try.underlying22 Fsiz33 S H rfl rfl (by first | assumption | omega | (simp only [LL]; omega))) fun a S => ?_
        refine gy rfl rfl rfl S (y_faddr rfl Ffo33_3 S rfl) fun a S => ?_
        refine gy rfl rfl rfl S (y_loadsf _ rfl Fsca9 S H rfl (by first | assumption | omega | (simp only [LL]; omega)) rfl) fun a S => ?_
        refine wl_of (op_call (wn rfl) rfl rfl S (co_func rfl Try.call17 S rfl) (rpropose_spec d n g zr l[k].txt _ (H.takeT [RGrpA d n g zr, RCel d, RPts d n] [GrpA c n (g.propose l[k].txt) z1, GCel c, GPts c n, Sl vl 4 OpR.enc l]) (hO.fit (by omega))) fun v w hc a S => ?_)
        obtain ⟨rfl, y1, H⟩ := hc
        simp only [List.append_eq, List.nil_append] at H
        have H := H.take [GrpA c n (g.propose l[k].txt) z1, GCel c, GPts c n, RGrpA d n (g.propose l[k].txt) y1, RCel d, RPts d n, Sl vl 4 OpR.enc l]
        obtain ⟨g1, hO1, hgn1, H⟩ : ∃ g1, Ok g1 (k + 1) ∧ g1.n = n ∧ HSat No w0 (GrpA c n g1 z1 :: GCel c :: GPts c n :: RGrpA d n g1 y1 :: RCel d :: RPts d n :: Sl vl 4 OpR.enc l :: []) _ := ⟨(g.propose l[k].txt), hO.propose _, by rw [Grp.propose_n]; exact hgn, H⟩
        refine gm S fun a S => ?_
        refine gy rfl rfl rfl S (y_extract rfl S rfl rfl) fun a S => ?_
        refine gy rfl rfl rfl S (y_extract rfl S rfl rfl) fun a S => ?_
        refine ga S fun a S => ?_
        refine ga S fun a S => ?_
        refine gnt ?_
        have S := ((((((((((S.nil.cons S 2 rfl).cons S 7 rfl).cons S 8 rfl).cons S 9 rfl).cons S 11 rfl).cons S 15 rfl).cons S 18 rfl).cons S 20 rfl).cons S 21 rfl).cons S 22 rfl).cons S 23 rfl
        refine g_region ?_
        refine gm S fun a S => ?_
        refine gm S fun a S => ?_
        refine gy rfl rfl rfl S (y_bin rfl S rfl rfl rfl) fun a S => ?_
        refine gm S fun a S => ?_
        refine wl_of (op_y (wg' 165 rfl rfl S rfl (by simp) rfl) rfl rfl S (y_move rfl S rfl) fun a S => ?_)
        refine wl_of (op_y (wg' 165 rfl rfl S rfl (by simp) rfl) rfl rfl S (y_move rfl S rfl) fun a S => ?_)
        refine wl_of (op_y (wg' 165 rfl rfl S rfl (by simp) rfl) rfl rfl S (y_bin rfl S rfl rfl rfl) fun a S => ?_)
        refine gy rfl rfl rfl S (y_and' rfl (by simp) S rfl rfl) fun a S => ?_
        refine ga S fun a S => ?_
        refine gl_nil ?_
        refine n_block ?_
        refine n_then ?_
        have S := ((((((S.nil.cons S 2 rfl).cons S 7 rfl).cons S 8 rfl).cons S 9 rfl).cons S 11 rfl).cons S 15 rfl).cons S 18 rfl
        refine g_seq ?_
        refine gsr ?_
        refine gm S fun a S => ?_
        refine gy rfl rfl rfl S (y_not rfl S rfl) fun a S => ?_
        refine gnt ?_
        refine c_if S rfl (fun h24 => ?_) (fun h24 => ?_)
        ·have h24p := h24; try simp only [DL] at h24p
         all_goals (
           exact absurd h24 (by simp))
        ·have h24p := h24; try simp only [DL] at h24p
         refine g_skip ?_
         refine n_then ?_
         refine gsr ?_
         refine ga S fun a S => ?_
         refine gnt ?_
         refine g_block ?_
         have SU := (((((S.nil.cons S 2 rfl).cons S 7 rfl).cons S 8 rfl).cons S 9 rfl).cons S 11 rfl).cons S 15 rfl
         refine loop_k (X := Nat) SU (fun r => [(25, .int .i64 (r : Int))]) (fun r => r ≤ n + 1) (fun r => n + 1 - r) 0 (S.nil.cons S 25 rfl) H (Nat.zero_le _) (fun r a w S H hi => ?_)
         simp only [List.cons_append, List.nil_append] at S hi
         refine g_seq ?_
         refine gsr ?_
         refine gm S fun a S => ?_
         refine gm S fun a S => ?_
         refine gy rfl rfl rfl S (y_bin rfl S rfl rfl rfl) fun a S => ?_
         refine gnt ?_
         refine c_if S rfl (fun h25 => ?_) (fun h25 => ?_)
         ·have h25p := h25; try simp only [DL] at h25p
          refine g_skip ?_
          refine n_then ?_
          refine g_seq ?_
          refine g_block ?_
          refine gsr ?_
          refine gm S fun a S => ?_
          refine gm S fun a S => ?_
          refine wl_of (op_call (wn rfl) rfl rfl S (co_func rfl Try.call20 S rfl) (committed_spec c n g1 z1 r _ H (hO1.fit (by omega))) fun u179 w hc a S => ?_)
          have H1 := hc
          have H := H.call1 H1 rfl
          refine gm S fun a S => ?_
          refine gm S fun a S => ?_
          refine wl_of (op_call (wn rfl) rfl rfl S (co_func rfl Try.call21 S rfl) (rcommitted_spec d n g1 y1 r _ (H.takeT [RGrpA d n g1 y1, RCel d, RPts d n] [OSl 9 u179 1 encS (comR g1 r), GrpA c n g1 z1, GCel c, GPts c n, Sl vl 4 OpR.enc l]) (hO1.fit (by omega))) fun u182 w hc a S => ?_)
          have H1 := hc
          have H := H.call1 H1 rfl
          refine ga S fun a S => ?_
          refine ga S fun a S => ?_
          refine gnt ?_
          have S := ((((((((S.nil.cons S 2 rfl).cons S 7 rfl).cons S 8 rfl).cons S 9 rfl).cons S 11 rfl).cons S 15 rfl).cons S 25 rfl).cons S 26 rfl).cons S 27 rfl
          refine gsr ?_
          refine gm S fun a S => ?_
          refine gy rfl rfl rfl S (y_lens rfl Try.underlying39 S H rfl) fun a S => ?_
          refine gm S fun a S => ?_
          refine gy rfl rfl rfl S (y_lens rfl Try.underlying39 S H rfl) fun a S => ?_
          refine gy rfl rfl rfl S (y_bin rfl S rfl rfl rfl) fun a S => ?_
          refine gm S fun a S => ?_
          refine wl_of (op_y (wg' 188 rfl rfl S rfl (by simp) rfl) rfl rfl S (y_move rfl S rfl) fun a S => ?_)
          refine wl_of (op_y (wg' 188 rfl rfl S rfl (by simp) rfl) rfl rfl S (y_move rfl S rfl) fun a S => ?_)
          refine wl_of (op_call (wg' 188 rfl rfl S rfl (by simp) rfl) rfl rfl S (co_func rfl Try.call22 S rfl) (begins_spec u179 u182 (comR g1 r) (comR g1 r) _ (H.sl u179) (H.sl u182)) fun v w hc a S => ?_)
          obtain ⟨rfl, he⟩ := hc
          have H := H.ext he
          rw [beginsB_refl] at S
          refine wl_of (op_y (wg' 188 rfl rfl S rfl (by simp) rfl) rfl rfl S (y_not rfl S rfl) fun a S => ?_)
          refine gy rfl rfl rfl S (y_or' rfl (by simp) S rfl rfl) fun a S => ?_
          refine gnt ?_
          have S := (((((((S.nil.cons S 2 rfl).cons S 7 rfl).cons S 8 rfl).cons S 9 rfl).cons S 11 rfl).cons S 15 rfl).cons S 25 rfl).cons S 193 rfl
          refine c_if S rfl (fun h27 => ?_) (fun h27 => ?_)
          ·have h27p := h27; try simp only [DL] at h27p
           all_goals (
             exact absurd h27 (by simp))
          ·have h27p := h27; try simp only [DL] at h27p
           refine g_skip ?_
           refine n_block ?_
           refine n_then ?_
           refine g_region ?_
           refine gm S fun a S => ?_
           refine gy rfl rfl rfl S (y_add rfl S rfl rfl (by omega)) fun a S => ?_
           refine ga S fun a S => ?_
           refine gnt ?_
           exact ⟨r + 1, S.nil.cons S 25 rfl, (((((S.nil.cons S 2 rfl).cons S 7 rfl).cons S 8 rfl).cons S 9 rfl).cons S 11 rfl).cons S 15 rfl, H.drop 2, by omega, by omega⟩
         ·have h25p := h25; try simp only [DL] at h25p
          refine g_exit ?_
          refine x_then (x_then (x_eq ?_))
          refine n_block ?_
          refine n_then ?_
          have S := (((((S.nil.cons S 2 rfl).cons S 7 rfl).cons S 8 rfl).cons S 9 rfl).cons S 11 rfl).cons S 15 rfl
          refine g_region ?_
          refine gm S fun a S => ?_
          refine gy rfl rfl rfl S (y_add rfl S rfl rfl (by omega)) fun a S => ?_
          refine ga S fun a S => ?_
          refine gnt ?_
          exact ⟨(k + 1, g1, z1, y1), S.nil.cons S 15 rfl, ((((S.nil.cons S 2 rfl).cons S 7 rfl).cons S 8 rfl).cons S 9 rfl).cons S 11 rfl, ⟨by dsimp only; omega, hO1, hgn1, H⟩, by dsimp only; omega⟩
       ·have h22p := h22; try simp only [DL] at h22p
        refine gsr ?_
        refine gm S fun a S => ?_
        refine gm S fun a S => ?_
        refine gy rfl rfl rfl S (y_iaddrn rfl Try.underlying22 Fsiz33 S H rfl rfl (by first | assumption | omega | (simp only [LL]; omega))) fun a S => ?_
        refine gy rfl rfl rfl S (y_faddr rfl Ffo33_0 S rfl) fun a S => ?_
        refine gy rfl rfl rfl S (y_loadsf _ rfl Fsca5 S H rfl (by first | assumption | omega | (simp only [LL]; omega)) rfl) fun a S => ?_
        refine gy rfl rfl rfl S ((y_remN (m := l[k].kind) (q := 6) rfl S rfl rfl (by decide))) fun a S => ?_
        refine gy rfl rfl rfl S (y_bin rfl S rfl rfl rfl) fun a S => ?_
        refine ga S fun a S => ?_
        refine gnt ?_
        have S := ((((((((S.nil.cons S 2 rfl).cons S 7 rfl).cons S 8 rfl).cons S 9 rfl).cons S 11 rfl).cons S 15 rfl).cons S 16 rfl).cons S 18 rfl).cons S 24 rfl
        refine g_region ?_
        refine gm S fun a S => ?_
        refine gm S fun a S => ?_
        refine gm S fun a S => ?_
        refine wl_of (op_call (wn rfl) rfl rfl S (co_func rfl Try.call18 S rfl) (crash_spec c n g z (l[k].a % (n + 1)) (decide (((l[k].kind % 6 : Nat) : Int) = 4)) _ H) fun v w hc a S => ?_)
        obtain ⟨rfl, z1, H⟩ := hc
        
        refine gm S fun a S => ?_
        refine gm S fun a S => ?_
        refine gm S fun a S => ?_
        refine wl_of (op_call (wn rfl) rfl rfl S (co_func rfl Try.call19 S rfl) (rcrash_spec d n g zr (l[k].a % (n + 1)) (decide (((l[k].kind % 6 : Nat) : Int) = 4)) _ (H.takeT [RGrpA d n g zr, RCel d, RPts d n] [GrpA c n (g.crash (l[k].a % (n + 1)) (decide (((l[k].kind % 6 : Nat) : Int) = 4))) z1, GCel c, GPts c n, Sl vl 4 OpR.enc l])) fun v w hc a S => ?_)
        obtain ⟨rfl, y1, H⟩ := hc
        simp only [List.append_eq, List.nil_append] at H
        have H := H.take [GrpA c n (g.crash (l[k].a % (n + 1)) (decide (((l[k].kind % 6 : Nat) : Int) = 4))) z1, GCel c, GPts c n, RGrpA d n (g.crash (l[k].a % (n + 1)) (decide (((l[k].kind % 6 : Nat) : Int) = 4))) y1, RCel d, RPts d n, Sl vl 4 OpR.enc l]
        obtain ⟨g1, hO1, hgn1, H⟩ : ∃ g1, Ok g1 (k + 1) ∧ g1.n = n ∧ HSat No w0 (GrpA c n g1 z1 :: GCel c :: GPts c n :: RGrpA d n g1 y1 :: RCel d :: RPts d n :: Sl vl 4 OpR.enc l :: []) _ := ⟨(g.crash (l[k].a % (n + 1)) (decide (((l[k].kind % 6 : Nat) : Int) = 4))), hO.crash _ _, by rw [Grp.crash_n]; exact hgn, H⟩
        refine gy rfl rfl rfl S (y_bin rfl S rfl rfl rfl) fun a S => ?_
        refine ga S fun a S => ?_
        refine gl_nil ?_
        refine n_block ?_
        refine n_then ?_
        have S := ((((((S.nil.cons S 2 rfl).cons S 7 rfl).cons S 8 rfl).cons S 9 rfl).cons S 11 rfl).cons S 15 rfl).cons S 18 rfl
        refine g_seq ?_
        refine gsr ?_
        refine gm S fun a S => ?_
        refine gy rfl rfl rfl S (y_not rfl S rfl) fun a S => ?_
        refine gnt ?_
        refine c_if S rfl (fun h28 => ?_) (fun h28 => ?_)
        ·have h28p := h28; try simp only [DL] at h28p
         all_goals (
           exact absurd h28 (by simp))
        ·have h28p := h28; try simp only [DL] at h28p
         refine g_skip ?_
         refine n_then ?_
         refine gsr ?_
         refine ga S fun a S => ?_
         refine gnt ?_
         refine g_block ?_
         have SU := (((((S.nil.cons S 2 rfl).cons S 7 rfl).cons S 8 rfl).cons S 9 rfl).cons S 11 rfl).cons S 15 rfl
         refine loop_k (X := Nat) SU (fun r => [(25, .int .i64 (r : Int))]) (fun r => r ≤ n + 1) (fun r => n + 1 - r) 0 (S.nil.cons S 25 rfl) H (Nat.zero_le _) (fun r a w S H hi => ?_)
         simp only [List.cons_append, List.nil_append] at S hi
         refine g_seq ?_
         refine gsr ?_
         refine gm S fun a S => ?_
         refine gm S fun a S => ?_
         refine gy rfl rfl rfl S (y_bin rfl S rfl rfl rfl) fun a S => ?_
         refine gnt ?_
         refine c_if S rfl (fun h29 => ?_) (fun h29 => ?_)
         ·have h29p := h29; try simp only [DL] at h29p
          refine g_skip ?_
          refine n_then ?_
          refine g_seq ?_
          refine g_block ?_
          refine gsr ?_
          refine gm S fun a S => ?_
          refine gm S fun a S => ?_
          refine wl_of (op_call (wn rfl) rfl rfl S (co_func rfl Try.call20 S rfl) (committed_spec c n g1 z1 r _ H (hO1.fit (by omega))) fun u179 w hc a S => ?_)
          have H1 := hc
          have H := H.call1 H1 rfl
          refine gm S fun a S => ?_
          refine gm S fun a S => ?_
          refine wl_of (op_call (wn rfl) rfl rfl S (co_func rfl Try.call21 S rfl) (rcommitted_spec d n g1 y1 r _ (H.takeT [RGrpA d n g1 y1, RCel d, RPts d n] [OSl 9 u179 1 encS (comR g1 r), GrpA c n g1 z1, GCel c, GPts c n, Sl vl 4 OpR.enc l]) (hO1.fit (by omega))) fun u182 w hc a S => ?_)
          have H1 := hc
          have H := H.call1 H1 rfl
          refine ga S fun a S => ?_
          refine ga S fun a S => ?_
          refine gnt ?_
          have S := ((((((((S.nil.cons S 2 rfl).cons S 7 rfl).cons S 8 rfl).cons S 9 rfl).cons S 11 rfl).cons S 15 rfl).cons S 25 rfl).cons S 26 rfl).cons S 27 rfl
          refine gsr ?_
          refine gm S fun a S => ?_
          refine gy rfl rfl rfl S (y_lens rfl Try.underlying39 S H rfl) fun a S => ?_
          refine gm S fun a S => ?_
          refine gy rfl rfl rfl S (y_lens rfl Try.underlying39 S H rfl) fun a S => ?_
          refine gy rfl rfl rfl S (y_bin rfl S rfl rfl rfl) fun a S => ?_
          refine gm S fun a S => ?_
          refine wl_of (op_y (wg' 188 rfl rfl S rfl (by simp) rfl) rfl rfl S (y_move rfl S rfl) fun a S => ?_)
          refine wl_of (op_y (wg' 188 rfl rfl S rfl (by simp) rfl) rfl rfl S (y_move rfl S rfl) fun a S => ?_)
          refine wl_of (op_call (wg' 188 rfl rfl S rfl (by simp) rfl) rfl rfl S (co_func rfl Try.call22 S rfl) (begins_spec u179 u182 (comR g1 r) (comR g1 r) _ (H.sl u179) (H.sl u182)) fun v w hc a S => ?_)
          obtain ⟨rfl, he⟩ := hc
          have H := H.ext he
          rw [beginsB_refl] at S
          refine wl_of (op_y (wg' 188 rfl rfl S rfl (by simp) rfl) rfl rfl S (y_not rfl S rfl) fun a S => ?_)
          refine gy rfl rfl rfl S (y_or' rfl (by simp) S rfl rfl) fun a S => ?_
          refine gnt ?_
          have S := (((((((S.nil.cons S 2 rfl).cons S 7 rfl).cons S 8 rfl).cons S 9 rfl).cons S 11 rfl).cons S 15 rfl).cons S 25 rfl).cons S 193 rfl
          refine c_if S rfl (fun h31 => ?_) (fun h31 => ?_)
          ·have h31p := h31; try simp only [DL] at h31p
           all_goals (
             exact absurd h31 (by simp))
          ·have h31p := h31; try simp only [DL] at h31p
           refine g_skip ?_
           refine n_block ?_
           refine n_then ?_
           refine g_region ?_
           refine gm S fun a S => ?_
           refine gy rfl rfl rfl S (y_add rfl S rfl rfl (by omega)) fun a S => ?_
           refine ga S fun a S => ?_
           refine gnt ?_
           exact ⟨r + 1, S.nil.cons S 25 rfl, (((((S.nil.cons S 2 rfl).cons S 7 rfl).cons S 8 rfl).cons S 9 rfl).cons S 11 rfl).cons S 15 rfl, H.drop 2, by omega, by omega⟩
         ·have h29p := h29; try simp only [DL] at h29p
          refine g_exit ?_
          refine x_then (x_then (x_eq ?_))
          refine n_block ?_
          refine n_then ?_
          have S := (((((S.nil.cons S 2 rfl).cons S 7 rfl).cons S 8 rfl).cons S 9 rfl).cons S 11 rfl).cons S 15 rfl
          refine g_region ?_
          refine gm S fun a S => ?_
          refine gy rfl rfl rfl S (y_add rfl S rfl rfl (by omega)) fun a S => ?_
          refine ga S fun a S => ?_
          refine gnt ?_
          exact ⟨(k + 1, g1, z1, y1), S.nil.cons S 15 rfl, ((((S.nil.cons S 2 rfl).cons S 7 rfl).cons S 8 rfl).cons S 9 rfl).cons S 11 rfl, ⟨by dsimp only; omega, hO1, hgn1, H⟩, by dsimp only; omega⟩
   ·have h5p := h5; try simp only [DL] at h5p
    refine g_exit ?_
    refine x_then (x_then (x_eq ?_))
    refine n_then ?_
    have S := S.nil.cons S 7 rfl
    refine gsr ?_
    refine gm S fun a S => ?_
    refine ga S fun a S => ?_
    refine gnt ?_
    refine g_ret ?_
    refine ret1 rfl S rfl ?_
    exact ⟨rfl, H.toExt⟩
end Go.Proofs.Ytbjknckddoegfaa
