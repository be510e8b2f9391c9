/- The walks. No condition. -/
import Derived.Test.YtnnendajegdnhaaChecked
import Derived.Test.YtnnendajegdnhaaGwDel
import Derived.Test.YtnnendajegdnhaaFacts
import Derived.Test.YtnnendajegdnhaaPlain
import Derived.Test.YtnnendajegdnhaaPlainTk
import Derived.Test.YtnnendajegdnhaaT11
import Derived.Test.YtnnendajegdnhaaW16
import Derived.Test.YtnnendajegdnhaaT8
namespace Go.Proofs.Ytnnendajegdnhaa
open Go Go.Gw
set_option linter.unusedVariables false
set_option linter.unusedSimpArgs false
theorem rnew_any (v1 v2 : Value) (old next : List Pl) (v3 : Value) (ts : List Ow) (w0 : World) (hv1 : IsSl w0 v1 9 Pl.enc old) (hv2 : IsSl w0 v2 9 Pl.enc next) (hv3 : IsSl w0 v3 11 Ow.enc ts) (hok : ∀ o ∈ ts, o.ok) (hl : ts.length ≤ 100000) : Ret Try.prog 10 #[v1, v2, v3] w0 (fun u w => ∃ pp, u = .tuple #[.pointer pp, .int .i64 (newE old next ts)] ∧ ((newE old next ts ≠ 0 ∧ pp = none ∧ Ext w0 w) ∨ (newE old next ts = 0 ∧ ∃ b vt, pp = some ⟨b, 0, none⟩ ∧ HSat No w0 [RTwA b v1 v2 vt ts] w))) :=
  Ret.mono (rnew_spec v1 v2 old next v3 ts w0 hv1 hv2 hv3 hok hl) (fun u w h => by
    rcases h with ⟨h1, rfl, h2⟩ | ⟨h1, b, vt, rfl, h2⟩
    · exact ⟨none, rfl, .inl ⟨h1, rfl, h2⟩⟩
    · exact ⟨_, by rw [h1], .inr ⟨h1, b, vt, rfl, h2⟩⟩)
set_option maxHeartbeats 8000000 in
/-- foyer/foyerlaw42.TwinMatchesReference -/
theorem law1 (v1 v2 : Value) (old next : List Pl) (v3 : Value) (ts : List Ow) (v4 : Value) (ops : List Op) (acc : Bool) (w0 : World) (hv1 : IsSl w0 v1 9 Pl.enc old) (hv2 : IsSl w0 v2 9 Pl.enc next) (hv3 : IsSl w0 v3 11 Ow.enc ts) (hok : ∀ o ∈ ts, o.ok) (hv4 : IsSl w0 v4 3 Op.enc ops) (hpe : ∀ o ∈ ts, ∃ s : ByteArray, o.person = .string s) (hof : ∀ o ∈ ts, ∃ xs, IsSl w0 o.offers 1 encI xs) :
    Ret Try.prog 3 #[v1, v2, v3, v4, .bool acc] w0 (fun u w => u = .bool true ∧ Ext w0 w) := by
 refine ret_of_wp (nt := 168) Try.func3 rfl rfl rfl (fl := [(0, v1), (1, v2), (2, v3), (3, v4), (4, .bool acc)]) rfl (fun a S => ?_)
 have H := HSat.start w0
 have H := H.ro0 (Sl v1 9 Pl.enc old) rfl (hv1)
 have H := H.ro0 (Sl v2 9 Pl.enc next) rfl (hv2)
 have H := H.ro0 (Sl v3 11 Ow.enc ts) rfl (hv3)
 have H := H.ro0 (Sl v4 3 Op.enc ops) rfl (hv4)
 have hlo := hv4.len
 refine gsr ?_
 refine ga S fun a S => ?_
 refine gnt ?_
 refine gsr ?_
 refine wl_of (op_call (wn rfl) rfl rfl S (co_func rfl Try.call7 S rfl) (head_spec _) fun v w hc a S => ?_)
 obtain ⟨rfl, he⟩ := hc
 have H := H.ext he
 refine ga S fun a S => ?_
 refine gnt ?_
 refine g_seq ?_
 refine gsr ?_
 refine gm S fun a S => ?_
 refine gm S fun a S => ?_
 refine gm S fun a S => ?_
 refine gm S fun a S => ?_
 refine wl_of (op_call (wn rfl) rfl rfl S (co_func rfl Try.call8 S rfl) (few42_spec v1 v2 old next v3 ts v4 ops _ (H.sl v1) (H.sl v2) (H.sl v3) (H.sl v4)) fun v w hc a S => ?_)
 obtain ⟨rfl, he⟩ := hc
 have H := H.ext he
 refine gy rfl rfl rfl S (y_not rfl S rfl) fun a S => ?_
 refine gnt ?_
 have S := (((((((S.nil.cons S 4 rfl).cons S 3 rfl).cons S 2 rfl).cons S 1 rfl).cons S 0 rfl).cons S 10 rfl).cons S 11 rfl).cons S 32 rfl
 refine c_if S rfl (fun h1 => ?_) (fun h1 => ?_)
 ·have h1p := h1; try simp only [DL] at h1p
  refine gsr ?_
  refine gm S fun a S => ?_
  refine ga S fun a S => ?_
  refine gnt ?_
  refine g_ret ?_
  refine r_then (ret1 rfl S rfl ?_)
  exact ⟨rfl, H.toExt⟩
 ·have h1p := h1; try simp only [DL] at h1p
  obtain ⟨hf1, hf2, hf3, hf4⟩ := fewT_yes (by have := h1p; simpa using this)
  refine g_skip ?_
  refine n_then ?_
  refine gsr ?_
  refine gm S fun a S => ?_
  refine gm S fun a S => ?_
  refine gm S fun a S => ?_
  refine wl_of (op_call (wn rfl) rfl rfl S (co_func rfl Try.call9 S rfl) (new_any v1 v2 old next v3 ts _ (H.sl v1) (H.sl v2) (H.sl v3) hok (by omega)) fun un w hc a S => ?_)
  obtain ⟨pp, rfl, hn⟩ := hc
  skip
  refine gm S fun a S => ?_
  refine gy rfl rfl rfl S (y_extract rfl S rfl rfl) fun a S => ?_
  refine gy rfl rfl rfl S (y_extract rfl S rfl rfl) fun a S => ?_
  refine ga S fun a S => ?_
  refine ga S fun a S => ?_
  refine gnt ?_
  have S := ((((((((S.nil.cons S 4 rfl).cons S 3 rfl).cons S 2 rfl).cons S 1 rfl).cons S 0 rfl).cons S 10 rfl).cons S 11 rfl).cons S 12 rfl).cons S 13 rfl
  refine g_seq ?_
  rcases hn with ⟨hne, rfl, he⟩ | ⟨hne, b, vt, rfl, H1⟩
  ·have H := H.ext he
   refine g_region ?_
   refine gm S fun a S => ?_
   refine gm S fun a S => ?_
   refine gm S fun a S => ?_
   refine wl_of (op_call (wn rfl) rfl rfl S (co_func rfl Try.call10 S rfl) (rnew_any v1 v2 old next v3 ts _ (H.sl v1) (H.sl v2) (H.sl v3) hok (by omega)) fun un2 w hc a S => ?_)
   obtain ⟨qq, rfl, hm⟩ := hc
   obtain ⟨_, rfl, he2⟩ := hm.resolve_right (fun h => hne h.1)
   have H := H.ext he2
   refine gm S fun a S => ?_
   refine gy rfl rfl rfl S (y_extract rfl S rfl rfl) fun a S => ?_
   refine gy rfl rfl rfl S (y_extract rfl S rfl rfl) fun a S => ?_
   refine ga S fun a S => ?_
   refine ga S fun a S => ?_
   refine gnt ?_
   have S := (((((((S.nil.cons S 4 rfl).cons S 3 rfl).cons S 10 rfl).cons S 11 rfl).cons S 12 rfl).cons S 13 rfl).cons S 14 rfl).cons S 15 rfl
   refine g_seq ?_
   refine gsr ?_
   refine gm S fun a S => ?_
   refine gm S fun a S => ?_
   refine gy rfl rfl rfl S (y_bin rfl S rfl rfl rfl) fun a S => ?_
   refine gm S fun a S => ?_
   refine wl_of (op_y (wg' 51 rfl rfl S rfl (bneSelf _) rfl) rfl rfl S (y_move rfl S rfl) fun a S => ?_)
   refine wl_of (op_y (wg' 51 rfl rfl S rfl (bneSelf _) rfl) rfl rfl S (y_eqp rfl Try.underlying27 S rfl rfl) fun a S => ?_)
   refine wl_of (op_y (wg' 51 rfl rfl S rfl (bneSelf _) rfl) rfl rfl S (y_move rfl S rfl) fun a S => ?_)
   refine wl_of (op_y (wg' 51 rfl rfl S rfl (bneSelf _) rfl) rfl rfl S (y_eqp rfl Try.underlying31 S rfl rfl) fun a S => ?_)
   refine wl_of (op_y (wg' 51 rfl rfl S rfl (bneSelf _) rfl) rfl rfl S (y_neb rfl Try.underlying4 S rfl rfl) fun a S => ?_)
   refine gy rfl rfl rfl S (y_or' rfl (bneSelf _) S rfl rfl) fun a S => ?_
   refine gnt ?_
   have S := ((((((S.nil.cons S 4 rfl).cons S 3 rfl).cons S 10 rfl).cons S 11 rfl).cons S 12 rfl).cons S 14 rfl).cons S 57 rfl
   refine c_if S rfl (fun h3 => ?_) (fun h3 => ?_)
   ·have h3p := h3; try simp only [DL] at h3p
    all_goals (
      have hh := h3
      simp at hh)
   ·have h3p := h3; try simp only [DL] at h3p
    refine g_skip ?_
    refine n_then ?_
    refine g_seq ?_
    refine gsr ?_
    refine ga S fun a S => ?_
    refine gnt ?_
    refine g_block ?_
    have SU := ((((S.nil.cons S 4 rfl).cons S 3 rfl).cons S 11 rfl).cons S 12 rfl).cons S 14 rfl
    refine loopW (X := Nat) SU (fun k => [(16, .int .i64 (k : Int))]) (fun k w => k ≤ ops.length ∧ HSat No w0 [Sl v4 3 Op.enc ops, Sl v3 11 Ow.enc ts, Sl v2 9 Pl.enc next, Sl v1 9 Pl.enc old] w) (fun k => ops.length - k) 0 (S.nil.cons S 16 rfl) (⟨by omega, H.take [Sl v4 3 Op.enc ops, Sl v3 11 Ow.enc ts, Sl v2 9 Pl.enc next, Sl v1 9 Pl.enc old]⟩) (fun k a w S hW => ?_)
    simp only [List.cons_append, List.nil_append] at S
    clear H
    obtain ⟨hk, H⟩ := hW
    refine g_seq ?_
    refine gsr ?_
    refine gm S fun a S => ?_
    refine gm S fun a S => ?_
    refine gy rfl rfl rfl S (y_lens rfl Try.underlying24 S H rfl) fun a S => ?_
    refine gy rfl rfl rfl S (y_bin rfl S rfl rfl rfl) fun a S => ?_
    refine gnt ?_
    refine c_if S rfl (fun h4 => ?_) (fun h4 => ?_)
    ·have h4p := h4; try simp only [DL] at h4p
     have hkl : k < ops.length := by omega
     refine g_skip ?_
     refine n_then ?_
     have S := (((((S.nil.cons S 4 rfl).cons S 3 rfl).cons S 11 rfl).cons S 12 rfl).cons S 14 rfl).cons S 16 rfl
     refine g_seq ?_
     refine g_block ?_
     refine g_seq ?_
     refine region_st (loud := []) (tails := []) (free := []) [0, 1, 2, 3, 4, 5, 6, 7, 8, 9, 10, 11, 12, 13, 14, 15, 16, 17, 18, 19, 20, 21, 22, 23, 24, 25, 26, 27, 28, 29, 30, 31, 32, 33, 34, 35, 36, 37, 38, 39, 40, 41, 42, 43, 44, 45, 46, 47, 48, 49, 50, 51, 52, 53, 54, 55, 56] [] Fmo (by kernel_rfl) (by kernel_rfl) rfl H ?_
     refine m_w rfl rfl (wn rfl) rfl rfl S (fun w H => y_move rfl S rfl) fun a S => ?_
     refine m_w rfl rfl (wn rfl) rfl rfl S (fun w H => y_move rfl S rfl) fun a S => ?_
     refine m_w rfl rfl (wn rfl) rfl rfl S (fun w H => y_iaddrn rfl Try.underlying24 Fsiz35 S H rfl rfl (by first | assumption | omega | (simp only [LL]; omega))) fun a S => ?_
     refine m_w rfl rfl (wn rfl) rfl rfl S (fun w H => y_faddr rfl Ffo35_0 S rfl) fun a S => ?_
     refine m_loadsf _ rfl rfl (wn rfl) rfl rfl S rfl Fsca4 rfl (by first | assumption | omega | (simp only [LL]; omega)) rfl fun a S => ?_
     refine m_w rfl rfl (wn rfl) rfl rfl S (fun w H => y_move rfl S rfl) fun a S => ?_
     refine' m_andq [6, 7, 8, 9, 10, 11, 12, 13, 14, 15, 16, 17, 18, 19, 20] 69 S rfl rfl rfl rfl rfl rfl rfl rfl rfl (fun _ S => (wn rfl)) (fun h5 kk => ?yh5) (fun a S => ?_)
     case yh5 =>
      have h5p := h5; try simp only [DL] at h5p
      refine m_w rfl rfl (wg' 69 rfl rfl S rfl h5 rfl) rfl rfl S (fun w H => y_move rfl S rfl) fun a S => ?_
      refine m_w rfl rfl (wg' 69 rfl rfl S rfl h5 rfl) rfl rfl S (fun w H => y_move rfl S rfl) fun a S => ?_
      refine m_w rfl rfl (wg' 69 rfl rfl S rfl h5 rfl) rfl rfl S (fun w H => y_move rfl S rfl) fun a S => ?_
      refine m_w rfl rfl (wg' 69 rfl rfl S rfl h5 rfl) rfl rfl S (fun w H => y_iaddrn rfl Try.underlying24 Fsiz35 S H rfl rfl (by first | assumption | omega | (simp only [LL]; omega))) fun a S => ?_
      refine m_w rfl rfl (wg' 69 rfl rfl S rfl h5 rfl) rfl rfl S (fun w H => y_faddr rfl Ffo35_2 S rfl) fun a S => ?_
      refine m_loadsf _ rfl rfl (wg' 69 rfl rfl S rfl h5 rfl) rfl rfl S rfl Fsca3 rfl (by first | assumption | omega | (simp only [LL]; omega)) rfl fun a S => ?_
      refine m_c rfl rfl (wg' 69 rfl rfl S rfl h5 rfl) rfl rfl S (fun w => co_func rfl Try.call11 S rfl) (fun w H => drop_no none ops[k].serial 1 (by decide) _ (fun w2 hx => ready_nil w2)) fun a S => ?_
      refine m_w rfl rfl (wg' 69 rfl rfl S rfl h5 rfl) rfl rfl S (fun w H => y_move rfl S rfl) fun a S => ?_
      refine m_w rfl rfl (wg' 69 rfl rfl S rfl h5 rfl) rfl rfl S (fun w H => y_move rfl S rfl) fun a S => ?_
      refine m_w rfl rfl (wg' 69 rfl rfl S rfl h5 rfl) rfl rfl S (fun w H => y_move rfl S rfl) fun a S => ?_
      refine m_w rfl rfl (wg' 69 rfl rfl S rfl h5 rfl) rfl rfl S (fun w H => y_iaddrn rfl Try.underlying24 Fsiz35 S H rfl rfl (by first | assumption | omega | (simp only [LL]; omega))) fun a S => ?_
      refine m_w rfl rfl (wg' 69 rfl rfl S rfl h5 rfl) rfl rfl S (fun w H => y_faddr rfl Ffo35_2 S rfl) fun a S => ?_
      refine m_loadsf _ rfl rfl (wg' 69 rfl rfl S rfl h5 rfl) rfl rfl S rfl Fsca3 rfl (by first | assumption | omega | (simp only [LL]; omega)) rfl fun a S => ?_
      refine m_c rfl rfl (wg' 69 rfl rfl S rfl h5 rfl) rfl rfl S (fun w => co_func rfl Try.call12 S rfl) (fun w H => rdrop_nil ops[k].serial _) fun a S => ?_
      refine m_w rfl rfl (wg' 69 rfl rfl S rfl h5 rfl) rfl rfl S (fun w H => y_bin rfl S rfl rfl rfl) fun a S => ?_
      refine m_w rfl rfl (wn rfl) rfl rfl S (fun w H => y_and' rfl h5 S rfl rfl) fun a S => ?_
      exact kk _ (S.join 16 85 rfl rfl)
     refine m_w rfl rfl (wn rfl) rfl rfl S (fun w H => y_move rfl S rfl) fun a S => ?_
     refine' m_orq [23, 24, 25, 26, 27, 28, 29, 30, 31, 32, 33, 34, 35, 36, 37, 38, 39, 40, 41, 42, 43, 44, 45, 46, 47, 48, 49, 50, 51, 52, 53, 54, 55] 86 S rfl rfl rfl rfl rfl rfl rfl rfl rfl (fun _ S => (wn rfl)) (fun h6 kk => ?yh6) (fun a S => ?_)
     case yh6 =>
      have h6p := h6; try simp only [DL] at h6p
      refine m_w rfl rfl (wg' 86 rfl rfl S rfl h6 rfl) rfl rfl S (fun w H => y_move rfl S rfl) fun a S => ?_
      refine m_w rfl rfl (wg' 86 rfl rfl S rfl h6 rfl) rfl rfl S (fun w H => y_move rfl S rfl) fun a S => ?_
      refine m_w rfl rfl (wg' 86 rfl rfl S rfl h6 rfl) rfl rfl S (fun w H => y_iaddrn rfl Try.underlying24 Fsiz35 S H rfl rfl (by first | assumption | omega | (simp only [LL]; omega))) fun a S => ?_
      refine m_w rfl rfl (wg' 86 rfl rfl S rfl h6 rfl) rfl rfl S (fun w H => y_faddr rfl Ffo35_0 S rfl) fun a S => ?_
      refine m_loadsf _ rfl rfl (wg' 86 rfl rfl S rfl h6 rfl) rfl rfl S rfl Fsca4 rfl (by first | assumption | omega | (simp only [LL]; omega)) rfl fun a S => ?_
      refine m_w rfl rfl (wg' 86 rfl rfl S rfl h6 rfl) rfl rfl S (fun w H => y_not rfl S rfl) fun a S => ?_
      refine m_w rfl rfl (wg' 86 rfl rfl S rfl h6 rfl) rfl rfl S (fun w H => y_move rfl S rfl) fun a S => ?_
      refine' m_andq [30, 31, 32, 33, 34, 35, 36, 37, 38, 39, 40, 41, 42, 43, 44, 45, 46, 47, 48, 49, 50, 51, 52, 53, 54] 93 S rfl rfl rfl rfl rfl rfl rfl rfl rfl (fun _ S => (wg' 86 rfl rfl S rfl h6 rfl)) (fun h7 kk => ?yh7) (fun a S => ?_)
      case yh7 =>
       have h7p := h7; try simp only [DL] at h7p
       refine m_w rfl rfl (wg' 93 rfl rfl S rfl h7 rfl) rfl rfl S (fun w H => y_move rfl S rfl) fun a S => ?_
       refine m_w rfl rfl (wg' 93 rfl rfl S rfl h7 rfl) rfl rfl S (fun w H => y_move rfl S rfl) fun a S => ?_
       refine m_w rfl rfl (wg' 93 rfl rfl S rfl h7 rfl) rfl rfl S (fun w H => y_move rfl S rfl) fun a S => ?_
       refine m_w rfl rfl (wg' 93 rfl rfl S rfl h7 rfl) rfl rfl S (fun w H => y_iaddrn rfl Try.underlying24 Fsiz35 S H rfl rfl (by first | assumption | omega | (simp only [LL]; omega))) fun a S => ?_
       refine m_w rfl rfl (wg' 93 rfl rfl S rfl h7 rfl) rfl rfl S (fun w H => y_faddr rfl Ffo35_1 S rfl) fun a S => ?_
       refine m_loadsf _ rfl rfl (wg' 93 rfl rfl S rfl h7 rfl) rfl rfl S rfl Fsca3 rfl (by first | assumption | omega | (simp only [LL]; omega)) rfl fun a S => ?_
       refine m_w rfl rfl (wg' 93 rfl rfl S rfl h7 rfl) rfl rfl S (fun w H => y_move rfl S rfl) fun a S => ?_
       refine m_w rfl rfl (wg' 93 rfl rfl S rfl h7 rfl) rfl rfl S (fun w H => y_move rfl S rfl) fun a S => ?_
       refine m_w rfl rfl (wg' 93 rfl rfl S rfl h7 rfl) rfl rfl S (fun w H => y_iaddrn rfl Try.underlying24 Fsiz35 S H rfl rfl (by first | assumption | omega | (simp only [LL]; omega))) fun a S => ?_
       refine m_w rfl rfl (wg' 93 rfl rfl S rfl h7 rfl) rfl rfl S (fun w H => y_faddr rfl Ffo35_2 S rfl) fun a S => ?_
       refine m_loadsf _ rfl rfl (wg' 93 rfl rfl S rfl h7 rfl) rfl rfl S rfl Fsca3 rfl (by first | assumption | omega | (simp only [LL]; omega)) rfl fun a S => ?_
       refine m_c rfl rfl (wg' 93 rfl rfl S rfl h7 rfl) rfl rfl S (fun w => co_func rfl Try.call13 S rfl) (fun w H => sell_no none ops[k].place ops[k].serial 1 (by decide) _ (fun w2 hx => ready_nil w2)) fun a S => ?_
       refine m_w rfl rfl (wg' 93 rfl rfl S rfl h7 rfl) rfl rfl S (fun w H => y_move rfl S rfl) fun a S => ?_
       refine m_w rfl rfl (wg' 93 rfl rfl S rfl h7 rfl) rfl rfl S (fun w H => y_move rfl S rfl) fun a S => ?_
       refine m_w rfl rfl (wg' 93 rfl rfl S rfl h7 rfl) rfl rfl S (fun w H => y_move rfl S rfl) fun a S => ?_
       refine m_w rfl rfl (wg' 93 rfl rfl S rfl h7 rfl) rfl rfl S (fun w H => y_iaddrn rfl Try.underlying24 Fsiz35 S H rfl rfl (by first | assumption | omega | (simp only [LL]; omega))) fun a S => ?_
       refine m_w rfl rfl (wg' 93 rfl rfl S rfl h7 rfl) rfl rfl S (fun w H => y_faddr rfl Ffo35_1 S rfl) fun a S => ?_
       refine m_loadsf _ rfl rfl (wg' 93 rfl rfl S rfl h7 rfl) rfl rfl S rfl Fsca3 rfl (by first | assumption | omega | (simp only [LL]; omega)) rfl fun a S => ?_
       refine m_w rfl rfl (wg' 93 rfl rfl S rfl h7 rfl) rfl rfl S (fun w H => y_move rfl S rfl) fun a S => ?_
       refine m_w rfl rfl (wg' 93 rfl rfl S rfl h7 rfl) rfl rfl S (fun w H => y_move rfl S rfl) fun a S => ?_
       refine m_w rfl rfl (wg' 93 rfl rfl S rfl h7 rfl) rfl rfl S (fun w H => y_iaddrn rfl Try.underlying24 Fsiz35 S H rfl rfl (by first | assumption | omega | (simp only [LL]; omega))) fun a S => ?_
       refine m_w rfl rfl (wg' 93 rfl rfl S rfl h7 rfl) rfl rfl S (fun w H => y_faddr rfl Ffo35_2 S rfl) fun a S => ?_
       refine m_loadsf _ rfl rfl (wg' 93 rfl rfl S rfl h7 rfl) rfl rfl S rfl Fsca3 rfl (by first | assumption | omega | (simp only [LL]; omega)) rfl fun a S => ?_
       refine m_c rfl rfl (wg' 93 rfl rfl S rfl h7 rfl) rfl rfl S (fun w => co_func rfl Try.call14 S rfl) (fun w H => rsell_nil ops[k].place ops[k].serial _) fun a S => ?_
       refine m_w rfl rfl (wg' 93 rfl rfl S rfl h7 rfl) rfl rfl S (fun w H => y_bin rfl S rfl rfl rfl) fun a S => ?_
       refine m_w rfl rfl (wg' 86 rfl rfl S rfl h6 rfl) rfl rfl S (fun w H => y_and' rfl h7 S rfl rfl) fun a S => ?_
       exact kk _ (S.join 26 119 rfl rfl)
      refine m_w rfl rfl (wn rfl) rfl rfl S (fun w H => y_or' rfl h6 S rfl rfl) fun a S => ?_
      exact kk _ (S.join 9 120 rfl rfl)
     refine m_nil (fun w H => ?_)
     refine n_then ?_
     have S := ((((((S.nil.cons S 4 rfl).cons S 3 rfl).cons S 11 rfl).cons S 12 rfl).cons S 14 rfl).cons S 16 rfl).cons S 120 rfl
     refine c_if S rfl (fun h8 => ?_) (fun h8 => ?_)
     ·have h8p := h8; try simp only [DL] at h8p
      all_goals (
        have hh := h8
        simp at hh)
     ·have h8p := h8; try simp only [DL] at h8p
      refine g_skip ?_
      refine n_block ?_
      refine n_then ?_
      refine g_region ?_
      refine gm S fun a S => ?_
      refine gy rfl rfl rfl S (y_add rfl S rfl rfl (by omega)) fun a S => ?_
      refine ga S fun a S => ?_
      refine gnt ?_
      exact ⟨k + 1, S.nil.cons S 16 rfl, ((((S.nil.cons S 4 rfl).cons S 3 rfl).cons S 11 rfl).cons S 12 rfl).cons S 14 rfl, ⟨by omega, H⟩, by omega⟩
    ·have h4p := h4; try simp only [DL] at h4p
     skip
     refine g_exit ?_
     refine x_then (x_then (x_eq ?_))
     refine n_then ?_
     have S := (((S.nil.cons S 4 rfl).cons S 11 rfl).cons S 12 rfl).cons S 14 rfl
     refine g_seq ?_
     refine gsr ?_
     refine ga S fun a S => ?_
     refine gnt ?_
     refine g_block ?_
     have SU := (((S.nil.cons S 4 rfl).cons S 11 rfl).cons S 12 rfl).cons S 14 rfl
     refine loopW (X := Nat) SU (fun m => [(17, .int .i64 (m : Int))]) (fun m w => m ≤ 2 ∧ HSat No w0 [Sl v4 3 Op.enc ops, Sl v3 11 Ow.enc ts, Sl v2 9 Pl.enc next, Sl v1 9 Pl.enc old] w) (fun m => 2 - m) 0 (S.nil.cons S 17 rfl) (⟨by omega, H⟩) (fun m a w S hW => ?_)
     simp only [List.cons_append, List.nil_append] at S
     clear H
     obtain ⟨hm2, H⟩ := hW
     refine g_seq ?_
     refine gsr ?_
     refine gm S fun a S => ?_
     refine gy rfl rfl rfl S (y_bin rfl S rfl rfl rfl) fun a S => ?_
     refine gnt ?_
     refine c_if S rfl (fun h9 => ?_) (fun h9 => ?_)
     ·have h9p := h9; try simp only [DL] at h9p
      refine g_skip ?_
      refine n_then ?_
      refine g_seq ?_
      refine g_block ?_
      refine gsr ?_
      refine gm S fun a S => ?_
      refine wl_of (op_call (wn rfl) rfl rfl S (co_func rfl Try.call15 S rfl) (change_no none 1 (by decide) _ (fun w2 hx => ready_nil w2)) fun v w hc a S => ?_)
      obtain ⟨rfl, he⟩ := hc
      have H := H.ext he
      refine gm S fun a S => ?_
      refine gy rfl rfl rfl S (y_extract rfl S rfl rfl) fun a S => ?_
      refine gy rfl rfl rfl S (y_extract rfl S rfl rfl) fun a S => ?_
      refine wl_of (op_alloc (wn rfl) rfl rfl rfl S H Fzer43 fun b18 a w S H => ?_)
      refine wl_of (op_storea (wn rfl) rfl rfl S H rfl rfl rfl Fsiz43 rfl (cs' := [_, _, _]) rfl fun a w S H => ?_)
      refine ga S fun a S => ?_
      refine gnt ?_
      have S := ((((((S.nil.cons S 4 rfl).cons S 11 rfl).cons S 12 rfl).cons S 14 rfl).cons S 17 rfl).cons S 18 rfl).cons S 19 rfl
      refine gsr ?_
      refine gm S fun a S => ?_
      refine wl_of (op_call (wn rfl) rfl rfl S (co_func rfl Try.call16 S rfl) (rchange_nil _) fun v w hc a S => ?_)
      obtain ⟨rfl, he⟩ := hc
      have H := H.ext he
      refine gm S fun a S => ?_
      refine gy rfl rfl rfl S (y_extract rfl S rfl rfl) fun a S => ?_
      refine gy rfl rfl rfl S (y_extract rfl S rfl rfl) fun a S => ?_
      refine wl_of (op_alloc (wn rfl) rfl rfl rfl S H Fzer43 fun b20 a w S H => ?_)
      refine wl_of (op_storea (wn rfl) rfl rfl S H rfl rfl rfl Fsiz43 rfl (cs' := [_, _, _]) rfl fun a w S H => ?_)
      refine ga S fun a S => ?_
      refine gnt ?_
      have S := ((((((((S.nil.cons S 4 rfl).cons S 11 rfl).cons S 12 rfl).cons S 14 rfl).cons S 17 rfl).cons S 18 rfl).cons S 19 rfl).cons S 20 rfl).cons S 21 rfl
      refine gsr ?_
      refine gm S fun a S => ?_
      refine gm S fun a S => ?_
      refine wl_of (op_call (wn rfl) rfl rfl S (co_func rfl Try.call17 S rfl) (finish_no none acc 1 (by decide) _ (fun w2 hx => ready_nil w2)) fun v w hc a S => ?_)
      obtain ⟨rfl, he⟩ := hc
      have H := H.ext he
      refine gm S fun a S => ?_
      refine gy rfl rfl rfl S (y_extract rfl S rfl rfl) fun a S => ?_
      refine gy rfl rfl rfl S (y_extract rfl S rfl rfl) fun a S => ?_
      refine ga S fun a S => ?_
      refine ga S fun a S => ?_
      refine gnt ?_
      have S := ((((((((((S.nil.cons S 4 rfl).cons S 11 rfl).cons S 12 rfl).cons S 14 rfl).cons S 17 rfl).cons S 18 rfl).cons S 19 rfl).cons S 20 rfl).cons S 21 rfl).cons S 22 rfl).cons S 23 rfl
      refine gsr ?_
      refine gm S fun a S => ?_
      refine gm S fun a S => ?_
      refine wl_of (op_call (wn rfl) rfl rfl S (co_func rfl Try.call18 S rfl) (rfinish_nil acc _) fun v w hc a S => ?_)
      obtain ⟨rfl, he⟩ := hc
      have H := H.ext he
      refine gm S fun a S => ?_
      refine gy rfl rfl rfl S (y_extract rfl S rfl rfl) fun a S => ?_
      refine gy rfl rfl rfl S (y_extract rfl S rfl rfl) fun a S => ?_
      refine ga S fun a S => ?_
      refine ga S fun a S => ?_
      refine gnt ?_
      have S := ((((((((((((S.nil.cons S 4 rfl).cons S 11 rfl).cons S 12 rfl).cons S 14 rfl).cons S 17 rfl).cons S 18 rfl).cons S 19 rfl).cons S 20 rfl).cons S 21 rfl).cons S 22 rfl).cons S 23 rfl).cons S 24 rfl).cons S 25 rfl
      refine gsr ?_
      refine gm S fun a S => ?_
      refine gm S fun a S => ?_
      refine gy rfl rfl rfl S (y_bin rfl S rfl rfl rfl) fun a S => ?_
      refine gm S fun a S => ?_
      refine gz 150 rfl S rfl rfl rfl rfl rfl rfl (y_load0 rfl S H rfl (by exact Fagg43)) fun a S => ?_
      refine gz 150 rfl S rfl rfl rfl rfl rfl rfl (y_load0 rfl S H rfl (by exact Fagg43)) fun a S => ?_
      refine wl_of (op_call (wg' 150 rfl rfl S rfl rfl rfl) rfl rfl S (co_func rfl Try.call19 S rfl) (same_spec (.slice none 0 0) (.slice none 0 0) (.slice none 0 0) [] [] [] (.slice none 0 0) (.slice none 0 0) (.slice none 0 0) [] [] [] _ (IsSl.nil _ 3 Mv.enc) (fun p hp => by cases hp) (IsSl.nil _ 1 encI) (IsSl.nil _ 1 encI) (IsSl.nil _ 3 Mv.enc) (fun p hp => by cases hp) (IsSl.nil _ 1 encI) (IsSl.nil _ 1 encI)) fun v w hc a S => ?_)
      obtain ⟨rfl, he⟩ := hc
      have H := H.ext he
      refine gz 150 rfl S rfl rfl rfl rfl rfl rfl (y_not rfl S rfl) fun a S => ?_
      refine gy rfl rfl rfl S (y_or' rfl rfl S rfl rfl) fun a S => ?_
      refine gm S fun a S => ?_
      refine wl_of (op_y (wg' 156 rfl rfl S rfl (by rw [nilSame]; rfl) rfl) rfl rfl S (y_move rfl S rfl) fun a S => ?_)
      refine wl_of (op_y (wg' 156 rfl rfl S rfl (by rw [nilSame]; rfl) rfl) rfl rfl S (y_move rfl S rfl) fun a S => ?_)
      refine wl_of (op_y (wg' 156 rfl rfl S rfl (by rw [nilSame]; rfl) rfl) rfl rfl S (y_bin rfl S rfl rfl rfl) fun a S => ?_)
      refine gy rfl rfl rfl S (y_or' rfl (by rw [nilSame]; rfl) S rfl rfl) fun a S => ?_
      refine gm S fun a S => ?_
      refine wl_of (op_y (wg' 161 rfl rfl S rfl (by rw [nilSame]; rfl) rfl) rfl rfl S (y_move rfl S rfl) fun a S => ?_)
      refine wl_of (op_y (wg' 161 rfl rfl S rfl (by rw [nilSame]; rfl) rfl) rfl rfl S (y_move rfl S rfl) fun a S => ?_)
      refine wl_of (op_call (wg' 161 rfl rfl S rfl (by rw [nilSame]; rfl) rfl) rfl rfl S (co_func rfl Try.call20 S rfl) (rsame_spec (.slice none 0 0) (.slice none 0 0) [] [] (fun _ => []) _ (IsSl.nil _ 11 Ow.enc) (IsSl.nil _ 11 Ow.enc) rfl (fun i h => by cases h) (fun i h => by cases h) (fun i h => by cases h)) fun v w hc a S => ?_)
      obtain ⟨rfl, he⟩ := hc
      have H := H.ext he
      refine wl_of (op_y (wg' 161 rfl rfl S rfl (by rw [nilSame]; rfl) rfl) rfl rfl S (y_not rfl S rfl) fun a S => ?_)
      refine gy rfl rfl rfl S (y_or' rfl (by rw [nilSame]; rfl) S rfl rfl) fun a S => ?_
      refine gnt ?_
      have S := (((((S.nil.cons S 4 rfl).cons S 11 rfl).cons S 12 rfl).cons S 14 rfl).cons S 17 rfl).cons S 166 rfl
      refine c_if S rfl (fun h13 => ?_) (fun h13 => ?_)
      ·have h13p := h13; try simp only [DL] at h13p
       all_goals (
         have hh := h13
         rw [nilSame] at hh
         simp at hh)
      ·have h13p := h13; try simp only [DL] at h13p
       refine g_skip ?_
       refine n_block ?_
       refine n_then ?_
       refine g_region ?_
       refine gm S fun a S => ?_
       refine gy rfl rfl rfl S (y_add rfl S rfl rfl (by omega)) fun a S => ?_
       refine ga S fun a S => ?_
       refine gnt ?_
       exact ⟨m + 1, S.nil.cons S 17 rfl, (((S.nil.cons S 4 rfl).cons S 11 rfl).cons S 12 rfl).cons S 14 rfl, ⟨by omega, H.take [Sl v4 3 Op.enc ops, Sl v3 11 Ow.enc ts, Sl v2 9 Pl.enc next, Sl v1 9 Pl.enc old]⟩, by omega⟩
     ·have h9p := h9; try simp only [DL] at h9p
      refine g_exit ?_
      refine x_then (x_then (x_eq ?_))
      refine n_then ?_
      have S := S.nil.cons S 11 rfl
      refine gsr ?_
      refine gm S fun a S => ?_
      refine ga S fun a S => ?_
      refine gnt ?_
      refine g_ret ?_
      refine ret1 rfl S rfl ?_
      exact ⟨rfl, H.toExt⟩
  ·have H := H.call1 H1 rfl
   have htw := new_tw (n := 20) hne hf3 hok
   refine g_region ?_
   refine gm S fun a S => ?_
   refine gm S fun a S => ?_
   refine gm S fun a S => ?_
   refine wl_of (op_call (wn rfl) rfl rfl S (co_func rfl Try.call10 S rfl) (rnew_any v1 v2 old next v3 ts _ (H.sl v1) (H.sl v2) (H.sl v3) hok (by omega)) fun un2 w hc a S => ?_)
   obtain ⟨qq, rfl, hm⟩ := hc
   obtain ⟨_, b2, wt, rfl, H2⟩ := hm.resolve_left (fun h => h.1 hne)
   have H := H.call1 H2 rfl
   refine gm S fun a S => ?_
   refine gy rfl rfl rfl S (y_extract rfl S rfl rfl) fun a S => ?_
   refine gy rfl rfl rfl S (y_extract rfl S rfl rfl) fun a S => ?_
   refine ga S fun a S => ?_
   refine ga S fun a S => ?_
   refine gnt ?_
   have S := (((((((S.nil.cons S 4 rfl).cons S 3 rfl).cons S 10 rfl).cons S 11 rfl).cons S 12 rfl).cons S 13 rfl).cons S 14 rfl).cons S 15 rfl
   refine g_seq ?_
   refine gsr ?_
   refine gm S fun a S => ?_
   refine gm S fun a S => ?_
   refine gy rfl rfl rfl S (y_bin rfl S rfl rfl rfl) fun a S => ?_
   refine gm S fun a S => ?_
   refine wl_of (op_y (wg' 51 rfl rfl S rfl (bneSelf _) rfl) rfl rfl S (y_move rfl S rfl) fun a S => ?_)
   refine wl_of (op_y (wg' 51 rfl rfl S rfl (bneSelf _) rfl) rfl rfl S (y_eqp rfl Try.underlying27 S rfl rfl) fun a S => ?_)
   refine wl_of (op_y (wg' 51 rfl rfl S rfl (bneSelf _) rfl) rfl rfl S (y_move rfl S rfl) fun a S => ?_)
   refine wl_of (op_y (wg' 51 rfl rfl S rfl (bneSelf _) rfl) rfl rfl S (y_eqp rfl Try.underlying31 S rfl rfl) fun a S => ?_)
   refine wl_of (op_y (wg' 51 rfl rfl S rfl (bneSelf _) rfl) rfl rfl S (y_neb rfl Try.underlying4 S rfl rfl) fun a S => ?_)
   refine gy rfl rfl rfl S (y_or' rfl (bneSelf _) S rfl rfl) fun a S => ?_
   refine gnt ?_
   have S := ((((((S.nil.cons S 4 rfl).cons S 3 rfl).cons S 10 rfl).cons S 11 rfl).cons S 12 rfl).cons S 14 rfl).cons S 57 rfl
   refine c_if S rfl (fun h15 => ?_) (fun h15 => ?_)
   ·have h15p := h15; try simp only [DL] at h15p
    all_goals (
      have hh := h15
      simp at hh)
   ·have h15p := h15; try simp only [DL] at h15p
    refine g_skip ?_
    refine n_then ?_
    refine g_seq ?_
    refine gsr ?_
    refine ga S fun a S => ?_
    refine gnt ?_
    refine g_block ?_
    have SU := ((((S.nil.cons S 4 rfl).cons S 3 rfl).cons S 11 rfl).cons S 12 rfl).cons S 14 rfl
    refine loopW (X := Nat) SU (fun k => [(16, .int .i64 (k : Int))]) (fun k w => k ≤ ops.length ∧ ∃ vt wt, HSat No w0 [TwA b v1 v2 vt (runT old next ts (ops.take k)), Sl v1 9 Pl.enc old, Sl v2 9 Pl.enc next, RTwA b2 v1 v2 wt (runT old next ts (ops.take k)), Sl v4 3 Op.enc ops, Sl v3 11 Ow.enc ts] w) (fun k => ops.length - k) 0 (S.nil.cons S 16 rfl) (⟨by omega, vt, wt, H.take [TwA b v1 v2 vt ts, Sl v1 9 Pl.enc old, Sl v2 9 Pl.enc next, RTwA b2 v1 v2 wt ts, Sl v4 3 Op.enc ops, Sl v3 11 Ow.enc ts]⟩) (fun k a w S hW => ?_)
    simp only [List.cons_append, List.nil_append] at S
    clear H
    obtain ⟨hk, vt, wt, H⟩ := hW
    refine g_seq ?_
    refine gsr ?_
    refine gm S fun a S => ?_
    refine gm S fun a S => ?_
    refine gy rfl rfl rfl S (y_lens rfl Try.underlying24 S H rfl) fun a S => ?_
    refine gy rfl rfl rfl S (y_bin rfl S rfl rfl rfl) fun a S => ?_
    refine gnt ?_
    refine c_if S rfl (fun h16 => ?_) (fun h16 => ?_)
    ·have h16p := h16; try simp only [DL] at h16p
     have hkl : k < ops.length := by omega
     have hrt := run_take (old := old) (next := next) (ts := ts) hkl
     have hwk := (htw.run (ops.take k)).mono (m := 50) (by rw [List.length_take]; omega)
     refine g_skip ?_
     refine n_then ?_
     have S := (((((S.nil.cons S 4 rfl).cons S 3 rfl).cons S 11 rfl).cons S 12 rfl).cons S 14 rfl).cons S 16 rfl
     refine g_seq ?_
     refine g_block ?_
     refine g_seq ?_
     rcases Bool.eq_false_or_eq_true ops[k].drop with hdr | hdr
     ·obtain ⟨TN, hTN⟩ : ∃ TN, TN = dropT (runT old next ts (ops.take k)) ops[k].serial := ⟨_, rfl⟩
      have hrt2 : runT old next ts (ops.take (k + 1)) = TN := by rw [hrt, stepT, if_pos hdr, hTN]
      refine region_st (loud := [12, 19, 41, 53]) (tails := [12, 19, 41, 53]) (free := [13, 14, 15, 16, 17, 18, 42, 43, 44, 45, 46, 47, 48, 49, 50, 51, 52]) [0, 1, 2, 3, 4, 5, 6, 7, 8, 9, 10, 11, 13, 14, 15, 16, 17, 18, 12, 19, 20, 21, 22, 23, 24, 25, 26, 27, 28, 29, 30, 31, 32, 33, 34, 35, 36, 37, 38, 39, 40, 42, 43, 44, 45, 46, 47, 48, 49, 50, 51, 52, 41, 53, 54, 55, 56] [Sl v4 3 Op.enc ops] Fmo (by kernel_rfl) (by kernel_rfl) rfl H ?_
      refine m_w rfl rfl (wn rfl) rfl rfl S (fun w H => y_move rfl S rfl) fun a S => ?_
      refine m_w rfl rfl (wn rfl) rfl rfl S (fun w H => y_move rfl S rfl) fun a S => ?_
      refine m_w rfl rfl (wn rfl) rfl rfl S (fun w H => y_iaddrn rfl Try.underlying24 Fsiz35 S H rfl rfl (by first | assumption | omega | (simp only [LL]; omega))) fun a S => ?_
      refine m_w rfl rfl (wn rfl) rfl rfl S (fun w H => y_faddr rfl Ffo35_0 S rfl) fun a S => ?_
      refine m_loadsf _ rfl rfl (wn rfl) rfl rfl S rfl Fsca4 rfl (by first | assumption | omega | (simp only [LL]; omega)) rfl fun a S => ?_
      refine m_w rfl rfl (wn rfl) rfl rfl S (fun w H => y_move rfl S rfl) fun a S => ?_
      refine m_w rfl rfl (wg' 69 rfl rfl S rfl hdr rfl) rfl rfl S (fun w H => y_move rfl S rfl) fun a S => ?_
      refine m_w rfl rfl (wg' 69 rfl rfl S rfl hdr rfl) rfl rfl S (fun w H => y_move rfl S rfl) fun a S => ?_
      refine m_w rfl rfl (wg' 69 rfl rfl S rfl hdr rfl) rfl rfl S (fun w H => y_move rfl S rfl) fun a S => ?_
      refine m_w rfl rfl (wg' 69 rfl rfl S rfl hdr rfl) rfl rfl S (fun w H => y_iaddrn rfl Try.underlying24 Fsiz35 S H rfl rfl (by first | assumption | omega | (simp only [LL]; omega))) fun a S => ?_
      refine m_w rfl rfl (wg' 69 rfl rfl S rfl hdr rfl) rfl rfl S (fun w H => y_faddr rfl Ffo35_2 S rfl) fun a S => ?_
      refine m_loadsf _ rfl rfl (wg' 69 rfl rfl S rfl hdr rfl) rfl rfl S rfl Fsca3 rfl (by first | assumption | omega | (simp only [LL]; omega)) rfl fun a S => ?_
      refine m_f rfl rfl (wg' 69 rfl rfl S rfl hdr rfl) rfl rfl S (fun w H => y_move rfl S rfl) fun a S => ?_
      refine m_f rfl rfl (wg' 69 rfl rfl S rfl hdr rfl) rfl rfl S (fun w H => y_move rfl S rfl) fun a S => ?_
      refine m_f rfl rfl (wg' 69 rfl rfl S rfl hdr rfl) rfl rfl S (fun w H => y_move rfl S rfl) fun a S => ?_
      refine m_f rfl rfl (wg' 69 rfl rfl S rfl hdr rfl) rfl rfl S (fun w H => y_iaddrn rfl Try.underlying24 Fsiz35 S H rfl rfl (by first | assumption | omega | (simp only [LL]; omega))) fun a S => ?_
      refine m_f rfl rfl (wg' 69 rfl rfl S rfl hdr rfl) rfl rfl S (fun w H => y_faddr rfl Ffo35_2 S rfl) fun a S => ?_
      refine m_floadsf _ rfl rfl (wg' 69 rfl rfl S rfl hdr rfl) rfl rfl S rfl Fsca3 rfl (by first | assumption | omega | (simp only [LL]; omega)) rfl fun a S => ?_
      refine m_l rfl rfl (fun w H => op_call (wg' 69 rfl rfl S rfl hdr rfl) rfl rfl S (co_func rfl Try.call11 S rfl) (drop_ok b v1 v2 vt old next (runT old next ts (ops.take k)) ops[k].serial _ H hwk.ok (by have := hwk.len; omega)) fun v w hc a S => ?_)
      obtain ⟨rfl, vt3, H⟩ := hc
      skip
      refine m_tail H rfl ?_
      refine m_l rfl rfl (fun w H => op_call (wg' 69 rfl rfl S rfl hdr rfl) rfl rfl S (co_func rfl Try.call12 S rfl) (rdrop_ok b2 v1 v2 wt old next (runT old next ts (ops.take k)) ops[k].serial _ (H.pick [RTwA b2 v1 v2 wt (runT old next ts (ops.take k)), Sl v1 9 Pl.enc old, Sl v2 9 Pl.enc next]) hwk.ok (by have := hwk.len; omega)) fun v w hc a S => ?_)
      obtain ⟨rfl, wt3, H⟩ := hc
      simp only [List.append_eq, List.cons_append, List.nil_append] at H
      refine m_tail H rfl ?_
      refine m_w rfl rfl (wg' 69 rfl rfl S rfl hdr rfl) rfl rfl S (fun w H => y_bin rfl S rfl rfl rfl) fun a S => ?_
      refine m_w rfl rfl (wn rfl) rfl rfl S (fun w H => y_and' rfl hdr S rfl rfl) fun a S => ?_
      refine m_w rfl rfl (wn rfl) rfl rfl S (fun w H => y_move rfl S rfl) fun a S => ?_
      refine m_w rfl rfl (wg' 86 rfl rfl S rfl (by rw [hdr]; simp) rfl) rfl rfl S (fun w H => y_move rfl S rfl) fun a S => ?_
      refine m_w rfl rfl (wg' 86 rfl rfl S rfl (by rw [hdr]; simp) rfl) rfl rfl S (fun w H => y_move rfl S rfl) fun a S => ?_
      refine m_w rfl rfl (wg' 86 rfl rfl S rfl (by rw [hdr]; simp) rfl) rfl rfl S (fun w H => y_iaddrn rfl Try.underlying24 Fsiz35 S H rfl rfl (by first | assumption | omega | (simp only [LL]; omega))) fun a S => ?_
      refine m_w rfl rfl (wg' 86 rfl rfl S rfl (by rw [hdr]; simp) rfl) rfl rfl S (fun w H => y_faddr rfl Ffo35_0 S rfl) fun a S => ?_
      refine m_loadsf _ rfl rfl (wg' 86 rfl rfl S rfl (by rw [hdr]; simp) rfl) rfl rfl S rfl Fsca4 rfl (by first | assumption | omega | (simp only [LL]; omega)) rfl fun a S => ?_
      refine m_w rfl rfl (wg' 86 rfl rfl S rfl (by rw [hdr]; simp) rfl) rfl rfl S (fun w H => y_not rfl S rfl) fun a S => ?_
      refine m_w rfl rfl (wg' 86 rfl rfl S rfl (by rw [hdr]; simp) rfl) rfl rfl S (fun w H => y_move rfl S rfl) fun a S => ?_
      refine' m_andq (B2 := false) [30, 31, 32, 33, 34, 35, 36, 37, 38, 39, 40, 42, 43, 44, 45, 46, 47, 48, 49, 50, 51, 52, 41, 53, 54] 93 S rfl rfl rfl rfl rfl rfl rfl rfl rfl (fun _ S => (wg' 86 rfl rfl S rfl (by rw [hdr]; simp) rfl)) (fun h kk => absurd h (by simp [hdr])) (fun a S => ?_)
      refine m_w rfl rfl (wn rfl) rfl rfl S (fun w H => y_or' rfl (by rw [hdr]; simp) S rfl rfl) fun a S => ?_
      refine m_nil (fun w H => ?_)
      refine n_then ?_
      have S := ((((((S.nil.cons S 4 rfl).cons S 3 rfl).cons S 11 rfl).cons S 12 rfl).cons S 14 rfl).cons S 16 rfl).cons S 120 rfl
      refine c_if S rfl (fun h17 => ?_) (fun h17 => ?_)
      ·have h17p := h17; try simp only [DL] at h17p
       all_goals (
         have hh := h17
         simp [hdr] at hh)
      ·have h17p := h17; try simp only [DL] at h17p
       rw [← hTN] at H
       refine g_skip ?_
       refine n_block ?_
       refine n_then ?_
       refine g_region ?_
       refine gm S fun a S => ?_
       refine gy rfl rfl rfl S (y_add rfl S rfl rfl (by omega)) fun a S => ?_
       refine ga S fun a S => ?_
       refine gnt ?_
       exact ⟨k + 1, S.nil.cons S 16 rfl, ((((S.nil.cons S 4 rfl).cons S 3 rfl).cons S 11 rfl).cons S 12 rfl).cons S 14 rfl, ⟨by omega, vt3, wt3, by rw [hrt2]; exact H.take [TwA b v1 v2 vt3 TN, Sl v1 9 Pl.enc old, Sl v2 9 Pl.enc next, RTwA b2 v1 v2 wt3 TN, Sl v4 3 Op.enc ops, Sl v3 11 Ow.enc ts]⟩, by omega⟩
     ·obtain ⟨TN, hTN⟩ : ∃ TN, TN = sellT old next (runT old next ts (ops.take k)) ops[k].place ops[k].serial := ⟨_, rfl⟩
      have hrt2 : runT old next ts (ops.take (k + 1)) = TN := by rw [hrt, stepT, if_neg (by rw [hdr]; simp), hTN]
      refine region_st (loud := [12, 19, 41, 53]) (tails := [12, 19, 41, 53]) (free := [13, 14, 15, 16, 17, 18, 42, 43, 44, 45, 46, 47, 48, 49, 50, 51, 52]) [0, 1, 2, 3, 4, 5, 6, 7, 8, 9, 10, 11, 13, 14, 15, 16, 17, 18, 12, 19, 20, 21, 22, 23, 24, 25, 26, 27, 28, 29, 30, 31, 32, 33, 34, 35, 36, 37, 38, 39, 40, 42, 43, 44, 45, 46, 47, 48, 49, 50, 51, 52, 41, 53, 54, 55, 56] [Sl v4 3 Op.enc ops] Fmo (by kernel_rfl) (by kernel_rfl) rfl H ?_
      refine m_w rfl rfl (wn rfl) rfl rfl S (fun w H => y_move rfl S rfl) fun a S => ?_
      refine m_w rfl rfl (wn rfl) rfl rfl S (fun w H => y_move rfl S rfl) fun a S => ?_
      refine m_w rfl rfl (wn rfl) rfl rfl S (fun w H => y_iaddrn rfl Try.underlying24 Fsiz35 S H rfl rfl (by first | assumption | omega | (simp only [LL]; omega))) fun a S => ?_
      refine m_w rfl rfl (wn rfl) rfl rfl S (fun w H => y_faddr rfl Ffo35_0 S rfl) fun a S => ?_
      refine m_loadsf _ rfl rfl (wn rfl) rfl rfl S rfl Fsca4 rfl (by first | assumption | omega | (simp only [LL]; omega)) rfl fun a S => ?_
      refine m_w rfl rfl (wn rfl) rfl rfl S (fun w H => y_move rfl S rfl) fun a S => ?_
      refine' m_andq (B2 := false) [6, 7, 8, 9, 10, 11, 13, 14, 15, 16, 17, 18, 12, 19, 20] 69 S rfl rfl rfl rfl rfl rfl rfl rfl rfl (fun _ S => (wn rfl)) (fun h kk => absurd h (by simp [hdr])) (fun a S => ?_)
      refine m_w rfl rfl (wn rfl) rfl rfl S (fun w H => y_move rfl S rfl) fun a S => ?_
      refine m_w rfl rfl (wg' 86 rfl rfl S rfl (by rw [hdr]; rfl) rfl) rfl rfl S (fun w H => y_move rfl S rfl) fun a S => ?_
      refine m_w rfl rfl (wg' 86 rfl rfl S rfl (by rw [hdr]; rfl) rfl) rfl rfl S (fun w H => y_move rfl S rfl) fun a S => ?_
      refine m_w rfl rfl (wg' 86 rfl rfl S rfl (by rw [hdr]; rfl) rfl) rfl rfl S (fun w H => y_iaddrn rfl Try.underlying24 Fsiz35 S H rfl rfl (by first | assumption | omega | (simp only [LL]; omega))) fun a S => ?_
      refine m_w rfl rfl (wg' 86 rfl rfl S rfl (by rw [hdr]; rfl) rfl) rfl rfl S (fun w H => y_faddr rfl Ffo35_0 S rfl) fun a S => ?_
      refine m_loadsf _ rfl rfl (wg' 86 rfl rfl S rfl (by rw [hdr]; rfl) rfl) rfl rfl S rfl Fsca4 rfl (by first | assumption | omega | (simp only [LL]; omega)) rfl fun a S => ?_
      refine m_w rfl rfl (wg' 86 rfl rfl S rfl (by rw [hdr]; rfl) rfl) rfl rfl S (fun w H => y_not rfl S rfl) fun a S => ?_
      refine m_w rfl rfl (wg' 86 rfl rfl S rfl (by rw [hdr]; rfl) rfl) rfl rfl S (fun w H => y_move rfl S rfl) fun a S => ?_
      refine m_w rfl rfl (wg' 93 rfl rfl S rfl (by rw [hdr]; rfl) rfl) rfl rfl S (fun w H => y_move rfl S rfl) fun a S => ?_
      refine m_w rfl rfl (wg' 93 rfl rfl S rfl (by rw [hdr]; rfl) rfl) rfl rfl S (fun w H => y_move rfl S rfl) fun a S => ?_
      refine m_w rfl rfl (wg' 93 rfl rfl S rfl (by rw [hdr]; rfl) rfl) rfl rfl S (fun w H => y_move rfl S rfl) fun a S => ?_
      refine m_w rfl rfl (wg' 93 rfl rfl S rfl (by rw [hdr]; rfl) rfl) rfl rfl S (fun w H => y_iaddrn rfl Try.underlying24 Fsiz35 S H rfl rfl (by first | assumption | omega | (simp only [LL]; omega))) fun a S => ?_
      refine m_w rfl rfl (wg' 93 rfl rfl S rfl (by rw [hdr]; rfl) rfl) rfl rfl S (fun w H => y_faddr rfl Ffo35_1 S rfl) fun a S => ?_
      refine m_loadsf _ rfl rfl (wg' 93 rfl rfl S rfl (by rw [hdr]; rfl) rfl) rfl rfl S rfl Fsca3 rfl (by first | assumption | omega | (simp only [LL]; omega)) rfl fun a S => ?_
      refine m_w rfl rfl (wg' 93 rfl rfl S rfl (by rw [hdr]; rfl) rfl) rfl rfl S (fun w H => y_move rfl S rfl) fun a S => ?_
      refine m_w rfl rfl (wg' 93 rfl rfl S rfl (by rw [hdr]; rfl) rfl) rfl rfl S (fun w H => y_move rfl S rfl) fun a S => ?_
      refine m_w rfl rfl (wg' 93 rfl rfl S rfl (by rw [hdr]; rfl) rfl) rfl rfl S (fun w H => y_iaddrn rfl Try.underlying24 Fsiz35 S H rfl rfl (by first | assumption | omega | (simp only [LL]; omega))) fun a S => ?_
      refine m_w rfl rfl (wg' 93 rfl rfl S rfl (by rw [hdr]; rfl) rfl) rfl rfl S (fun w H => y_faddr rfl Ffo35_2 S rfl) fun a S => ?_
      refine m_loadsf _ rfl rfl (wg' 93 rfl rfl S rfl (by rw [hdr]; rfl) rfl) rfl rfl S rfl Fsca3 rfl (by first | assumption | omega | (simp only [LL]; omega)) rfl fun a S => ?_
      refine m_f rfl rfl (wg' 93 rfl rfl S rfl (by rw [hdr]; rfl) rfl) rfl rfl S (fun w H => y_move rfl S rfl) fun a S => ?_
      refine m_f rfl rfl (wg' 93 rfl rfl S rfl (by rw [hdr]; rfl) rfl) rfl rfl S (fun w H => y_move rfl S rfl) fun a S => ?_
      refine m_f rfl rfl (wg' 93 rfl rfl S rfl (by rw [hdr]; rfl) rfl) rfl rfl S (fun w H => y_move rfl S rfl) fun a S => ?_
      refine m_f rfl rfl (wg' 93 rfl rfl S rfl (by rw [hdr]; rfl) rfl) rfl rfl S (fun w H => y_iaddrn rfl Try.underlying24 Fsiz35 S H rfl rfl (by first | assumption | omega | (simp only [LL]; omega))) fun a S => ?_
      refine m_f rfl rfl (wg' 93 rfl rfl S rfl (by rw [hdr]; rfl) rfl) rfl rfl S (fun w H => y_faddr rfl Ffo35_1 S rfl) fun a S => ?_
      refine m_floadsf _ rfl rfl (wg' 93 rfl rfl S rfl (by rw [hdr]; rfl) rfl) rfl rfl S rfl Fsca3 rfl (by first | assumption | omega | (simp only [LL]; omega)) rfl fun a S => ?_
      refine m_f rfl rfl (wg' 93 rfl rfl S rfl (by rw [hdr]; rfl) rfl) rfl rfl S (fun w H => y_move rfl S rfl) fun a S => ?_
      refine m_f rfl rfl (wg' 93 rfl rfl S rfl (by rw [hdr]; rfl) rfl) rfl rfl S (fun w H => y_move rfl S rfl) fun a S => ?_
      refine m_f rfl rfl (wg' 93 rfl rfl S rfl (by rw [hdr]; rfl) rfl) rfl rfl S (fun w H => y_iaddrn rfl Try.underlying24 Fsiz35 S H rfl rfl (by first | assumption | omega | (simp only [LL]; omega))) fun a S => ?_
      refine m_f rfl rfl (wg' 93 rfl rfl S rfl (by rw [hdr]; rfl) rfl) rfl rfl S (fun w H => y_faddr rfl Ffo35_2 S rfl) fun a S => ?_
      refine m_floadsf _ rfl rfl (wg' 93 rfl rfl S rfl (by rw [hdr]; rfl) rfl) rfl rfl S rfl Fsca3 rfl (by first | assumption | omega | (simp only [LL]; omega)) rfl fun a S => ?_
      refine m_l rfl rfl (fun w H => op_call (wg' 93 rfl rfl S rfl (by rw [hdr]; rfl) rfl) rfl rfl S (co_func rfl Try.call13 S rfl) (sell_ok b v1 v2 vt old next (runT old next ts (ops.take k)) ops[k].place ops[k].serial _ _ H hwk (by omega)) fun v w hc a S => ?_)
      obtain ⟨rfl, vt3, H⟩ := hc
      skip
      refine m_tail H rfl ?_
      refine m_l rfl rfl (fun w H => op_call (wg' 93 rfl rfl S rfl (by rw [hdr]; rfl) rfl) rfl rfl S (co_func rfl Try.call14 S rfl) (rsell_ok b2 v1 v2 wt old next (runT old next ts (ops.take k)) ops[k].place ops[k].serial _ _ (H.pick [RTwA b2 v1 v2 wt (runT old next ts (ops.take k)), Sl v1 9 Pl.enc old, Sl v2 9 Pl.enc next]) hwk (by omega)) fun v w hc a S => ?_)
      obtain ⟨rfl, wt3, H⟩ := hc
      simp only [List.append_eq, List.cons_append, List.nil_append] at H
      refine m_tail H rfl ?_
      refine m_w rfl rfl (wg' 93 rfl rfl S rfl (by rw [hdr]; rfl) rfl) rfl rfl S (fun w H => y_bin rfl S rfl rfl rfl) fun a S => ?_
      refine m_w rfl rfl (wg' 86 rfl rfl S rfl (by rw [hdr]; rfl) rfl) rfl rfl S (fun w H => y_and' rfl (by rw [hdr]; rfl) S rfl rfl) fun a S => ?_
      refine m_w rfl rfl (wn rfl) rfl rfl S (fun w H => y_or' rfl (by rw [hdr]; rfl) S rfl rfl) fun a S => ?_
      refine m_nil (fun w H => ?_)
      refine n_then ?_
      have S := ((((((S.nil.cons S 4 rfl).cons S 3 rfl).cons S 11 rfl).cons S 12 rfl).cons S 14 rfl).cons S 16 rfl).cons S 120 rfl
      refine c_if S rfl (fun h18 => ?_) (fun h18 => ?_)
      ·have h18p := h18; try simp only [DL] at h18p
       all_goals (
         have hh := h18
         simp [hdr] at hh)
      ·have h18p := h18; try simp only [DL] at h18p
       rw [← hTN] at H
       refine g_skip ?_
       refine n_block ?_
       refine n_then ?_
       refine g_region ?_
       refine gm S fun a S => ?_
       refine gy rfl rfl rfl S (y_add rfl S rfl rfl (by omega)) fun a S => ?_
       refine ga S fun a S => ?_
       refine gnt ?_
       exact ⟨k + 1, S.nil.cons S 16 rfl, ((((S.nil.cons S 4 rfl).cons S 3 rfl).cons S 11 rfl).cons S 12 rfl).cons S 14 rfl, ⟨by omega, vt3, wt3, by rw [hrt2]; exact H.take [TwA b v1 v2 vt3 TN, Sl v1 9 Pl.enc old, Sl v2 9 Pl.enc next, RTwA b2 v1 v2 wt3 TN, Sl v4 3 Op.enc ops, Sl v3 11 Ow.enc ts]⟩, by omega⟩
    ·have h16p := h16; try simp only [DL] at h16p
     obtain rfl : k = ops.length := by omega
     rw [List.take_length] at H
     obtain ⟨T, hT⟩ : ∃ T, T = runT old next ts ops := ⟨_, rfl⟩
     have hTw := (htw.run ops).mono (m := 50) (by omega)
     have hTp := run_all (old := old) (next := next) (l := ops) (p := fun o => ∃ s : ByteArray, o.person = .string s) (fun s q => ⟨_, rfl⟩) hpe
     have hTg := run_all (old := old) (next := next) (l := ops) (p := fun o => IsSl w0 o.offers 1 encI (gOff w0 o)) (fun s q => gOff_at ⟨[], IsSl.nil _ 1 encI⟩) (fun o ho => gOff_at (hof o ho))
     rw [← hT] at H hTw hTp hTg
     have hTl := hTw.len
     refine g_exit ?_
     refine x_then (x_then (x_eq ?_))
     refine n_then ?_
     have S := (((S.nil.cons S 4 rfl).cons S 11 rfl).cons S 12 rfl).cons S 14 rfl
     refine g_seq ?_
     refine gsr ?_
     refine ga S fun a S => ?_
     refine gnt ?_
     refine g_block ?_
     have SU := (((S.nil.cons S 4 rfl).cons S 11 rfl).cons S 12 rfl).cons S 14 rfl
     refine loopW (X := Nat) SU (fun m => [(17, .int .i64 (m : Int))]) (fun m w => m ≤ 2 ∧ ((m = 0 ∧ ∃ vt wt, HSat No w0 [TwA b v1 v2 vt T, Sl v1 9 Pl.enc old, Sl v2 9 Pl.enc next, RTwA b2 v1 v2 wt T, Sl v4 3 Op.enc ops, Sl v3 11 Ow.enc ts] w) ∨ (1 ≤ m ∧ ∃ vt wt, HSat No w0 [Cel b 76 [v1, v2, vt, .bool true], Cel b2 78 [v1, v2, wt, .bool true], Sl v1 9 Pl.enc old, Sl v2 9 Pl.enc next, Sl v4 3 Op.enc ops, Sl v3 11 Ow.enc ts] w))) (fun m => 2 - m) 0 (S.nil.cons S 17 rfl) (⟨by omega, .inl ⟨rfl, vt, wt, H⟩⟩) (fun m a w S hW => ?_)
     simp only [List.cons_append, List.nil_append] at S
     clear H
     obtain ⟨hm2, hsp⟩ := hW
     refine g_seq ?_
     refine gsr ?_
     refine gm S fun a S => ?_
     refine gy rfl rfl rfl S (y_bin rfl S rfl rfl rfl) fun a S => ?_
     refine gnt ?_
     refine c_if S rfl (fun h19 => ?_) (fun h19 => ?_)
     ·have h19p := h19; try simp only [DL] at h19p
      refine g_skip ?_
      refine n_then ?_
      refine g_seq ?_
      refine g_block ?_
      refine g_seq ?_
      rcases hsp with ⟨hm0, vt, wt, H⟩ | ⟨hm0, vt, wt, H⟩
      ·skip
       refine g_region ?_
       refine gm S fun a S => ?_
       refine wl_of (op_call (wn rfl) rfl rfl S (co_func rfl Try.call15 S rfl) (change_ok b v1 v2 vt old next T _ H hTw.ok (by omega)) fun uc w hc a S => ?_)
       obtain ⟨mvA, vlA, vrA, msA, rfl, hmA, H⟩ := hc
       rw [hTw.err] at S
       refine gm S fun a S => ?_
       refine gy rfl rfl rfl S (y_extract rfl S rfl rfl) fun a S => ?_
       refine gy rfl rfl rfl S (y_extract rfl S rfl rfl) fun a S => ?_
       refine wl_of (op_alloc (wn rfl) rfl rfl rfl S H Fzer43 fun b18 a w S H => ?_)
       refine wl_of (op_storea (wn rfl) rfl rfl S H rfl rfl (by rw [List.all_cons, List.all_cons, List.all_cons, H.sl1 mvA, H.sl1 vlA, H.sl1 vrA]; rfl) Fsiz43 rfl (cs' := [_, _, _]) rfl fun a w S H => ?_)
       refine ga S fun a S => ?_
       refine gnt ?_
       have S := ((((((S.nil.cons S 4 rfl).cons S 11 rfl).cons S 12 rfl).cons S 14 rfl).cons S 17 rfl).cons S 18 rfl).cons S 19 rfl
       refine gsr ?_
       refine gm S fun a S => ?_
       have H := H.pick [RTwA b2 v1 v2 wt T, Sl v1 9 Pl.enc old, Sl v2 9 Pl.enc next]
       simp only [List.append_eq, List.cons_append, List.nil_append] at H
       refine wl_of (op_call (wn rfl) rfl rfl S (co_func rfl Try.call16 S rfl) (rchange_ok b2 v1 v2 wt old next T _ H hTw.ok (by omega)) fun uc w hc a S => ?_)
       obtain ⟨mvB, vlB, vrB, msB, rfl, hmB, H⟩ := hc
       rw [hTw.err] at S
       refine gm S fun a S => ?_
       refine gy rfl rfl rfl S (y_extract rfl S rfl rfl) fun a S => ?_
       refine gy rfl rfl rfl S (y_extract rfl S rfl rfl) fun a S => ?_
       refine wl_of (op_alloc (wn rfl) rfl rfl rfl S H Fzer43 fun b20 a w S H => ?_)
       refine wl_of (op_storea (wn rfl) rfl rfl S H rfl rfl (by rw [List.all_cons, List.all_cons, List.all_cons, H.sl1 mvB, H.sl1 vlB, H.sl1 vrB]; rfl) Fsiz43 rfl (cs' := [_, _, _]) rfl fun a w S H => ?_)
       refine ga S fun a S => ?_
       refine gnt ?_
       have S := ((((((((S.nil.cons S 4 rfl).cons S 11 rfl).cons S 12 rfl).cons S 14 rfl).cons S 17 rfl).cons S 18 rfl).cons S 19 rfl).cons S 20 rfl).cons S 21 rfl
       refine gsr ?_
       refine gm S fun a S => ?_
       refine gm S fun a S => ?_
       have H := H.pick [TwA b v1 v2 vt T, Sl v1 9 Pl.enc old, Sl v2 9 Pl.enc next]
       simp only [List.append_eq, List.cons_append, List.nil_append] at H
       refine wl_of (op_call (wn rfl) rfl rfl S (co_func rfl Try.call17 S rfl) (finish_ok b v1 v2 vt old next T acc _ H hTw.err hTw.ok (by omega)) fun uf w hc a S => ?_)
       obtain ⟨vo, msF, rfl, hmF, H⟩ := hc
       skip
       refine gm S fun a S => ?_
       refine gy rfl rfl rfl S (y_extract rfl S rfl rfl) fun a S => ?_
       refine gy rfl rfl rfl S (y_extract rfl S rfl rfl) fun a S => ?_
       refine ga S fun a S => ?_
       refine ga S fun a S => ?_
       refine gnt ?_
       have S := ((((((((((S.nil.cons S 4 rfl).cons S 11 rfl).cons S 12 rfl).cons S 14 rfl).cons S 17 rfl).cons S 18 rfl).cons S 19 rfl).cons S 20 rfl).cons S 21 rfl).cons S 22 rfl).cons S 23 rfl
       refine g_seq ?_
       cases acc
       ·skip
        refine g_region ?_
        refine gm S fun a S => ?_
        refine gm S fun a S => ?_
        have H := H.pick [RTwA b2 v1 v2 wt T, Sl v1 9 Pl.enc old, Sl v2 9 Pl.enc next]
        simp only [List.append_eq, List.cons_append, List.nil_append] at H
        refine wl_of (op_call (wn rfl) rfl rfl S (co_func rfl Try.call18 S rfl) (rfinish_f b2 v1 v2 wt old next T _ H) fun ug w hc a S => ?_)
        obtain ⟨rfl, H⟩ := hc
        rw [finT_no] at H
        refine gm S fun a S => ?_
        refine gy rfl rfl rfl S (y_extract rfl S rfl rfl) fun a S => ?_
        refine gy rfl rfl rfl S (y_extract rfl S rfl rfl) fun a S => ?_
        refine ga S fun a S => ?_
        refine ga S fun a S => ?_
        refine gnt ?_
        have S := ((((((((((((S.nil.cons S 4 rfl).cons S 11 rfl).cons S 12 rfl).cons S 14 rfl).cons S 17 rfl).cons S 18 rfl).cons S 19 rfl).cons S 20 rfl).cons S 21 rfl).cons S 22 rfl).cons S 23 rfl).cons S 24 rfl).cons S 25 rfl
        refine g_seq ?_
        have hsm : (decide (msA.map Mv.say = msB.map Mv.say) && (decide (clP old next T = clP old next T) && decide (crP old next T = crP old next T))) = true := by rw [hmA, hmB]; simp
        ·skip
         refine g_region ?_
         refine gm S fun a S => ?_
         refine gm S fun a S => ?_
         refine gy rfl rfl rfl S (y_bin rfl S rfl rfl rfl) fun a S => ?_
         refine gm S fun a S => ?_
         refine gz 150 rfl S rfl rfl rfl rfl rfl rfl (y_load0 rfl S H rfl (by exact Fagg43)) fun a S => ?_
         refine gz 150 rfl S rfl rfl rfl rfl rfl rfl (y_load0 rfl S H rfl (by exact Fagg43)) fun a S => ?_
         refine wl_of (op_call (wg' 150 rfl rfl S rfl rfl rfl) rfl rfl S (co_func rfl Try.call19 S rfl) (same_spec mvA vlA vrA msA (clP old next T) (crP old next T) mvB vlB vrB msB (clP old next T) (crP old next T) _ (H.sl mvA) (H.rws 3 (rowsOf msA)) (H.sl vlA) (H.sl vrA) (H.sl mvB) (H.rws 3 (rowsOf msB)) (H.sl vlB) (H.sl vrB)) fun v w hc a S => ?_)
         obtain ⟨rfl, he⟩ := hc
         have H := H.ext he
         refine gz 150 rfl S rfl rfl rfl rfl rfl rfl (y_not rfl S rfl) fun a S => ?_
         refine gy rfl rfl rfl S (y_or' rfl rfl S rfl rfl) fun a S => ?_
         refine gm S fun a S => ?_
         refine wl_of (op_y (wg' 156 rfl rfl S rfl (by rw [hsm]; rfl) rfl) rfl rfl S (y_move rfl S rfl) fun a S => ?_)
         refine wl_of (op_y (wg' 156 rfl rfl S rfl (by rw [hsm]; rfl) rfl) rfl rfl S (y_move rfl S rfl) fun a S => ?_)
         refine wl_of (op_y (wg' 156 rfl rfl S rfl (by rw [hsm]; rfl) rfl) rfl rfl S (y_bin rfl S rfl rfl rfl) fun a S => ?_)
         refine gy rfl rfl rfl S (y_or' rfl (by rw [hsm]; rfl) S rfl rfl) fun a S => ?_
         refine gm S fun a S => ?_
         refine wl_of (op_y (wg' 161 rfl rfl S rfl (by rw [hsm]; rfl) rfl) rfl rfl S (y_move rfl S rfl) fun a S => ?_)
         refine wl_of (op_y (wg' 161 rfl rfl S rfl (by rw [hsm]; rfl) rfl) rfl rfl S (y_move rfl S rfl) fun a S => ?_)
         refine wl_of (op_call (wg' 161 rfl rfl S rfl (by rw [hsm]; rfl) rfl) rfl rfl S (co_func rfl Try.call20 S rfl) (rsame_spec vo wt T T (fun i => gOff w0 (T.getD i (newOw 0 0))) _ (H.sl vo) (H.sl wt) rfl (plain_hyps hTp) (plain_offs (fun o ho => (H.ro0 (Sl o.offers 1 encI (gOff w0 o)) rfl (hTg o ho)).sl o.offers)) (plain_offs (fun o ho => (H.ro0 (Sl o.offers 1 encI (gOff w0 o)) rfl (hTg o ho)).sl o.offers))) fun v w hc a S => ?_)
         obtain ⟨rfl, he⟩ := hc
         have H := H.ext he
         refine wl_of (op_y (wg' 161 rfl rfl S rfl (by rw [hsm]; rfl) rfl) rfl rfl S (y_not rfl S rfl) fun a S => ?_)
         refine gy rfl rfl rfl S (y_or' rfl (by rw [hsm]; rfl) S rfl rfl) fun a S => ?_
         refine gnt ?_
         have S := (((((S.nil.cons S 4 rfl).cons S 11 rfl).cons S 12 rfl).cons S 14 rfl).cons S 17 rfl).cons S 166 rfl
         refine c_if S rfl (fun h23 => ?_) (fun h23 => ?_)
         ·have h23p := h23; try simp only [DL] at h23p
          all_goals (
            have hh := h23
            rw [hsm] at hh
            simp at hh)
         ·have h23p := h23; try simp only [DL] at h23p
          refine g_skip ?_
          refine n_block ?_
          refine n_then ?_
          refine g_region ?_
          refine gm S fun a S => ?_
          refine gy rfl rfl rfl S (y_add rfl S rfl rfl (by omega)) fun a S => ?_
          refine ga S fun a S => ?_
          refine gnt ?_
          exact ⟨m + 1, S.nil.cons S 17 rfl, (((S.nil.cons S 4 rfl).cons S 11 rfl).cons S 12 rfl).cons S 14 rfl, ⟨by omega, .inr ⟨by omega, vt, wt, H.take [Cel b 76 [v1, v2, vt, .bool true], Cel b2 78 [v1, v2, wt, .bool true], Sl v1 9 Pl.enc old, Sl v2 9 Pl.enc next, Sl v4 3 Op.enc ops, Sl v3 11 Ow.enc ts]⟩⟩, by omega⟩
       ·skip
        refine g_region ?_
        refine gm S fun a S => ?_
        refine gm S fun a S => ?_
        have H := H.pick [RTwA b2 v1 v2 wt T, Sl v1 9 Pl.enc old, Sl v2 9 Pl.enc next]
        simp only [List.append_eq, List.cons_append, List.nil_append] at H
        refine wl_of (op_call (wn rfl) rfl rfl S (co_func rfl Try.call18 S rfl) (rfinish_t b2 v1 v2 wt old next T _ H hTw.ok (by omega)) fun ug w hc a S => ?_)
        obtain ⟨wo, msG, rfl, hmG, H⟩ := hc
        have hsFG := hmF.trans hmG.symm
        refine gm S fun a S => ?_
        refine gy rfl rfl rfl S (y_extract rfl S rfl rfl) fun a S => ?_
        refine gy rfl rfl rfl S (y_extract rfl S rfl rfl) fun a S => ?_
        refine ga S fun a S => ?_
        refine ga S fun a S => ?_
        refine gnt ?_
        have S := ((((((((((((S.nil.cons S 4 rfl).cons S 11 rfl).cons S 12 rfl).cons S 14 rfl).cons S 17 rfl).cons S 18 rfl).cons S 19 rfl).cons S 20 rfl).cons S 21 rfl).cons S 22 rfl).cons S 23 rfl).cons S 24 rfl).cons S 25 rfl
        refine g_seq ?_
        have hsm : (decide (msA.map Mv.say = msB.map Mv.say) && (decide (clP old next T = clP old next T) && decide (crP old next T = crP old next T))) = true := by rw [hmA, hmB]; simp
        ·skip
         refine g_region ?_
         refine gm S fun a S => ?_
         refine gm S fun a S => ?_
         refine gy rfl rfl rfl S (y_bin rfl S rfl rfl rfl) fun a S => ?_
         refine gm S fun a S => ?_
         refine gz 150 rfl S rfl rfl rfl rfl rfl rfl (y_load0 rfl S H rfl (by exact Fagg43)) fun a S => ?_
         refine gz 150 rfl S rfl rfl rfl rfl rfl rfl (y_load0 rfl S H rfl (by exact Fagg43)) fun a S => ?_
         refine wl_of (op_call (wg' 150 rfl rfl S rfl rfl rfl) rfl rfl S (co_func rfl Try.call19 S rfl) (same_spec mvA vlA vrA msA (clP old next T) (crP old next T) mvB vlB vrB msB (clP old next T) (crP old next T) _ (H.sl mvA) (H.rws 3 (rowsOf msA)) (H.sl vlA) (H.sl vrA) (H.sl mvB) (H.rws 3 (rowsOf msB)) (H.sl vlB) (H.sl vrB)) fun v w hc a S => ?_)
         obtain ⟨rfl, he⟩ := hc
         have H := H.ext he
         refine gz 150 rfl S rfl rfl rfl rfl rfl rfl (y_not rfl S rfl) fun a S => ?_
         refine gy rfl rfl rfl S (y_or' rfl rfl S rfl rfl) fun a S => ?_
         refine gm S fun a S => ?_
         refine wl_of (op_y (wg' 156 rfl rfl S rfl (by rw [hsm]; rfl) rfl) rfl rfl S (y_move rfl S rfl) fun a S => ?_)
         refine wl_of (op_y (wg' 156 rfl rfl S rfl (by rw [hsm]; rfl) rfl) rfl rfl S (y_move rfl S rfl) fun a S => ?_)
         refine wl_of (op_y (wg' 156 rfl rfl S rfl (by rw [hsm]; rfl) rfl) rfl rfl S (y_bin rfl S rfl rfl rfl) fun a S => ?_)
         refine gy rfl rfl rfl S (y_or' rfl (by rw [hsm]; rfl) S rfl rfl) fun a S => ?_
         refine gm S fun a S => ?_
         refine wl_of (op_y (wg' 161 rfl rfl S rfl (by rw [hsm]; rfl) rfl) rfl rfl S (y_move rfl S rfl) fun a S => ?_)
         refine wl_of (op_y (wg' 161 rfl rfl S rfl (by rw [hsm]; rfl) rfl) rfl rfl S (y_move rfl S rfl) fun a S => ?_)
         refine wl_of (op_call (wg' 161 rfl rfl S rfl (by rw [hsm]; rfl) rfl) rfl rfl S (co_func rfl Try.call20 S rfl) (rsame_spec vo wo (finT T msF true) (finT T msG true) (fun i => offO msF true (gOff w0) (T.getD i (newOw 0 0))) _ (H.sl vo) (H.sl wo) (by rw [finT_len, finT_len]) (same_hyps hsFG hTp) (same_offs (H.rws 3 (rowsOf msF)) (fun o ho => (H.ro0 (Sl o.offers 1 encI (gOff w0 o)) rfl (hTg o ho)).sl o.offers)) (fun i h => by rw [offO_same hsFG]; exact same_offs (H.rws 3 (rowsOf msG)) (fun o ho => (H.ro0 (Sl o.offers 1 encI (gOff w0 o)) rfl (hTg o ho)).sl o.offers) i h)) fun v w hc a S => ?_)
         obtain ⟨rfl, he⟩ := hc
         have H := H.ext he
         refine wl_of (op_y (wg' 161 rfl rfl S rfl (by rw [hsm]; rfl) rfl) rfl rfl S (y_not rfl S rfl) fun a S => ?_)
         refine gy rfl rfl rfl S (y_or' rfl (by rw [hsm]; rfl) S rfl rfl) fun a S => ?_
         refine gnt ?_
         have S := (((((S.nil.cons S 4 rfl).cons S 11 rfl).cons S 12 rfl).cons S 14 rfl).cons S 17 rfl).cons S 166 rfl
         refine c_if S rfl (fun h27 => ?_) (fun h27 => ?_)
         ·have h27p := h27; try simp only [DL] at h27p
          all_goals (
            have hh := h27
            rw [hsm] at hh
            simp at hh)
         ·have h27p := h27; try simp only [DL] at h27p
          refine g_skip ?_
          refine n_block ?_
          refine n_then ?_
          refine g_region ?_
          refine gm S fun a S => ?_
          refine gy rfl rfl rfl S (y_add rfl S rfl rfl (by omega)) fun a S => ?_
          refine ga S fun a S => ?_
          refine gnt ?_
          exact ⟨m + 1, S.nil.cons S 17 rfl, (((S.nil.cons S 4 rfl).cons S 11 rfl).cons S 12 rfl).cons S 14 rfl, ⟨by omega, .inr ⟨by omega, vt, wt, H.take [Cel b 76 [v1, v2, vt, .bool true], Cel b2 78 [v1, v2, wt, .bool true], Sl v1 9 Pl.enc old, Sl v2 9 Pl.enc next, Sl v4 3 Op.enc ops, Sl v3 11 Ow.enc ts]⟩⟩, by omega⟩
      ·skip
       refine g_region ?_
       refine gm S fun a S => ?_
       refine wl_of (op_call (wn rfl) rfl rfl S (co_func rfl Try.call15 S rfl) (change_no (some ⟨b, 0, none⟩) 27 (by decide) _ (fun w2 hx => ready_closed b v1 v2 vt w2 ((H.ext hx).rd b))) fun v w hc a S => ?_)
       obtain ⟨rfl, he⟩ := hc
       have H := H.ext he
       refine gm S fun a S => ?_
       refine gy rfl rfl rfl S (y_extract rfl S rfl rfl) fun a S => ?_
       refine gy rfl rfl rfl S (y_extract rfl S rfl rfl) fun a S => ?_
       refine wl_of (op_alloc (wn rfl) rfl rfl rfl S H Fzer43 fun b18 a w S H => ?_)
       refine wl_of (op_storea (wn rfl) rfl rfl S H rfl rfl rfl Fsiz43 rfl (cs' := [_, _, _]) rfl fun a w S H => ?_)
       refine ga S fun a S => ?_
       refine gnt ?_
       have S := ((((((S.nil.cons S 4 rfl).cons S 11 rfl).cons S 12 rfl).cons S 14 rfl).cons S 17 rfl).cons S 18 rfl).cons S 19 rfl
       refine gsr ?_
       refine gm S fun a S => ?_
       refine wl_of (op_call (wn rfl) rfl rfl S (co_func rfl Try.call16 S rfl) (rchange_closed b2 v1 v2 wt _ (H.rd b2)) fun v w hc a S => ?_)
       obtain ⟨rfl, he⟩ := hc
       have H := H.ext he
       refine gm S fun a S => ?_
       refine gy rfl rfl rfl S (y_extract rfl S rfl rfl) fun a S => ?_
       refine gy rfl rfl rfl S (y_extract rfl S rfl rfl) fun a S => ?_
       refine wl_of (op_alloc (wn rfl) rfl rfl rfl S H Fzer43 fun b20 a w S H => ?_)
       refine wl_of (op_storea (wn rfl) rfl rfl S H rfl rfl rfl Fsiz43 rfl (cs' := [_, _, _]) rfl fun a w S H => ?_)
       refine ga S fun a S => ?_
       refine gnt ?_
       have S := ((((((((S.nil.cons S 4 rfl).cons S 11 rfl).cons S 12 rfl).cons S 14 rfl).cons S 17 rfl).cons S 18 rfl).cons S 19 rfl).cons S 20 rfl).cons S 21 rfl
       refine gsr ?_
       refine gm S fun a S => ?_
       refine gm S fun a S => ?_
       refine wl_of (op_call (wn rfl) rfl rfl S (co_func rfl Try.call17 S rfl) (finish_no (some ⟨b, 0, none⟩) acc 27 (by decide) _ (fun w2 hx => ready_closed b v1 v2 vt w2 ((H.ext hx).rd b))) fun v w hc a S => ?_)
       obtain ⟨rfl, he⟩ := hc
       have H := H.ext he
       refine gm S fun a S => ?_
       refine gy rfl rfl rfl S (y_extract rfl S rfl rfl) fun a S => ?_
       refine gy rfl rfl rfl S (y_extract rfl S rfl rfl) fun a S => ?_
       refine ga S fun a S => ?_
       refine ga S fun a S => ?_
       refine gnt ?_
       have S := ((((((((((S.nil.cons S 4 rfl).cons S 11 rfl).cons S 12 rfl).cons S 14 rfl).cons S 17 rfl).cons S 18 rfl).cons S 19 rfl).cons S 20 rfl).cons S 21 rfl).cons S 22 rfl).cons S 23 rfl
       refine gsr ?_
       refine gm S fun a S => ?_
       refine gm S fun a S => ?_
       refine wl_of (op_call (wn rfl) rfl rfl S (co_func rfl Try.call18 S rfl) (rfinish_closed b2 v1 v2 wt acc _ (H.rd b2)) fun v w hc a S => ?_)
       obtain ⟨rfl, he⟩ := hc
       have H := H.ext he
       refine gm S fun a S => ?_
       refine gy rfl rfl rfl S (y_extract rfl S rfl rfl) fun a S => ?_
       refine gy rfl rfl rfl S (y_extract rfl S rfl rfl) fun a S => ?_
       refine ga S fun a S => ?_
       refine ga S fun a S => ?_
       refine gnt ?_
       have S := ((((((((((((S.nil.cons S 4 rfl).cons S 11 rfl).cons S 12 rfl).cons S 14 rfl).cons S 17 rfl).cons S 18 rfl).cons S 19 rfl).cons S 20 rfl).cons S 21 rfl).cons S 22 rfl).cons S 23 rfl).cons S 24 rfl).cons S 25 rfl
       refine gsr ?_
       refine gm S fun a S => ?_
       refine gm S fun a S => ?_
       refine gy rfl rfl rfl S (y_bin rfl S rfl rfl rfl) fun a S => ?_
       refine gm S fun a S => ?_
       refine gz 150 rfl S rfl rfl rfl rfl rfl rfl (y_load0 rfl S H rfl (by exact Fagg43)) fun a S => ?_
       refine gz 150 rfl S rfl rfl rfl rfl rfl rfl (y_load0 rfl S H rfl (by exact Fagg43)) fun a S => ?_
       refine wl_of (op_call (wg' 150 rfl rfl S rfl rfl rfl) rfl rfl S (co_func rfl Try.call19 S rfl) (same_spec (.slice none 0 0) (.slice none 0 0) (.slice none 0 0) [] [] [] (.slice none 0 0) (.slice none 0 0) (.slice none 0 0) [] [] [] _ (IsSl.nil _ 3 Mv.enc) (fun p hp => by cases hp) (IsSl.nil _ 1 encI) (IsSl.nil _ 1 encI) (IsSl.nil _ 3 Mv.enc) (fun p hp => by cases hp) (IsSl.nil _ 1 encI) (IsSl.nil _ 1 encI)) fun v w hc a S => ?_)
       obtain ⟨rfl, he⟩ := hc
       have H := H.ext he
       refine gz 150 rfl S rfl rfl rfl rfl rfl rfl (y_not rfl S rfl) fun a S => ?_
       refine gy rfl rfl rfl S (y_or' rfl rfl S rfl rfl) fun a S => ?_
       refine gm S fun a S => ?_
       refine wl_of (op_y (wg' 156 rfl rfl S rfl (by rw [nilSame]; rfl) rfl) rfl rfl S (y_move rfl S rfl) fun a S => ?_)
       refine wl_of (op_y (wg' 156 rfl rfl S rfl (by rw [nilSame]; rfl) rfl) rfl rfl S (y_move rfl S rfl) fun a S => ?_)
       refine wl_of (op_y (wg' 156 rfl rfl S rfl (by rw [nilSame]; rfl) rfl) rfl rfl S (y_bin rfl S rfl rfl rfl) fun a S => ?_)
       refine gy rfl rfl rfl S (y_or' rfl (by rw [nilSame]; rfl) S rfl rfl) fun a S => ?_
       refine gm S fun a S => ?_
       refine wl_of (op_y (wg' 161 rfl rfl S rfl (by rw [nilSame]; rfl) rfl) rfl rfl S (y_move rfl S rfl) fun a S => ?_)
       refine wl_of (op_y (wg' 161 rfl rfl S rfl (by rw [nilSame]; rfl) rfl) rfl rfl S (y_move rfl S rfl) fun a S => ?_)
       refine wl_of (op_call (wg' 161 rfl rfl S rfl (by rw [nilSame]; rfl) rfl) rfl rfl S (co_func rfl Try.call20 S rfl) (rsame_spec (.slice none 0 0) (.slice none 0 0) [] [] (fun _ => []) _ (IsSl.nil _ 11 Ow.enc) (IsSl.nil _ 11 Ow.enc) rfl (fun i h => by cases h) (fun i h => by cases h) (fun i h => by cases h)) fun v w hc a S => ?_)
       obtain ⟨rfl, he⟩ := hc
       have H := H.ext he
       refine wl_of (op_y (wg' 161 rfl rfl S rfl (by rw [nilSame]; rfl) rfl) rfl rfl S (y_not rfl S rfl) fun a S => ?_)
       refine gy rfl rfl rfl S (y_or' rfl (by rw [nilSame]; rfl) S rfl rfl) fun a S => ?_
       refine gnt ?_
       have S := (((((S.nil.cons S 4 rfl).cons S 11 rfl).cons S 12 rfl).cons S 14 rfl).cons S 17 rfl).cons S 166 rfl
       refine c_if S rfl (fun h31 => ?_) (fun h31 => ?_)
       ·have h31p := h31; try simp only [DL] at h31p
        all_goals (
          have hh := h31
          rw [nilSame] at hh
          simp at hh)
       ·have h31p := h31; try simp only [DL] at h31p
        refine g_skip ?_
        refine n_block ?_
        refine n_then ?_
        refine g_region ?_
        refine gm S fun a S => ?_
        refine gy rfl rfl rfl S (y_add rfl S rfl rfl (by omega)) fun a S => ?_
        refine ga S fun a S => ?_
        refine gnt ?_
        exact ⟨m + 1, S.nil.cons S 17 rfl, (((S.nil.cons S 4 rfl).cons S 11 rfl).cons S 12 rfl).cons S 14 rfl, ⟨by omega, .inr ⟨by omega, vt, wt, H.take [Cel b 76 [v1, v2, vt, .bool true], Cel b2 78 [v1, v2, wt, .bool true], Sl v1 9 Pl.enc old, Sl v2 9 Pl.enc next, Sl v4 3 Op.enc ops, Sl v3 11 Ow.enc ts]⟩⟩, by omega⟩
     ·have h19p := h19; try simp only [DL] at h19p
      have H : ∃ l, HSat No w0 l w := by
        rcases hsp with ⟨_, vt, wt, H⟩ | ⟨_, vt, wt, H⟩
        · exact ⟨_, H⟩
        · exact ⟨_, H⟩
      obtain ⟨l0, H⟩ := H
      refine g_exit ?_
      refine x_then (x_then (x_eq ?_))
      refine n_then ?_
      have S := S.nil.cons S 11 rfl
      refine gsr ?_
      refine gm S fun a S => ?_
      refine ga S fun a S => ?_
      refine gnt ?_
      refine g_ret ?_
      refine ret1 rfl S rfl ?_
      exact ⟨rfl, H.toExt⟩
end Go.Proofs.Ytnnendajegdnhaa
