/- The walks. No condition. -/
import Derived.Test.YtnnendajegdnhaaChecked
import Derived.Test.YtnnendajegdnhaaGwBits
import Derived.Test.YtnnendajegdnhaaFacts
import Derived.Test.YtnnendajegdnhaaPlain
import Derived.Test.YtnnendajegdnhaaPlainT
import Derived.Test.YtnnendajegdnhaaW1
namespace Go.Proofs.Ytnnendajegdnhaa
open Go Go.Gw
set_option linter.unusedVariables false
set_option linter.unusedSimpArgs false
/-- slices.Backward[[]int,int] -/
theorem backward_spec (v : Value) (xs : List Int) (w0 : World) (hv : IsSl w0 v 1 encI xs) :
    Ret Try.prog 63 #[v] w0 (fun u w => ∃ b, u = .func (.func 79) #[] #[.pointer (some ⟨b, 0, none⟩)] ∧ HSat No w0 [Cel b 39 [v]] w) := by
 refine ret_of_wp (nt := 4) Try.func63 rfl rfl rfl (fl := [(0, v)]) rfl (fun a S => ?_)
 have H := HSat.start w0
 have H := H.ro0 (Sl v 1 encI xs) rfl (hv)
 refine gsr ?_
 refine wl_of (op_box1 (wn rfl) rfl rfl rfl S H rfl (H.slc _) fun b1 a w S H => ?_)
 refine ga S fun a S => ?_
 refine gnt ?_
 refine gsr ?_
 refine gy rfl rfl rfl S (y_makeFunc rfl S rfl rfl) fun a S => ?_
 refine ga S fun a S => ?_
 refine gnt ?_
 have S := S.nil.cons S 2 rfl
 refine g_ret ?_
 refine ret1 rfl S rfl ?_
 exact ⟨_, rfl, H.take [Cel b1 39 [v]]⟩
/-- slices.Backward[[]int,int]$1 -/
theorem backward_iter (lb b : Nat) (v : Value) (xs : List Int) (w0 : World) (J : Nat → World → Prop) (hJ : ∀ k w, J k w → w.heap[b]? = some (.cells [v].toArray 39 (0, 0)) ∧ IsSl w v 1 encI xs) (hst : ∀ k w w', J k w → Ext w w' → J k w')
    (hround : ∀ k (h : k < xs.length) w, J (k + 1) w → YieldRet Try.prog lb #[.int .i64 (k : Int), .int .i64 xs[k]] w (fun u w' => u = .bool true ∧ J k w')) (h0 : J xs.length w0) :
    Ret Try.prog 79 #[.func (.yield lb) #[] #[], .pointer (some ⟨b, 0, none⟩)] w0 (fun u w => J 0 w) := by
 refine ret_of_wp (nt := 19) Try.func79 rfl rfl rfl (fl := [(0, .func (.yield lb) #[] #[]), (1, .pointer (some ⟨b, 0, none⟩))]) rfl (fun a S => ?_)
 have H := ((HSat.start w0).ro0 (Sl v 1 encI xs) rfl (hJ _ _ h0).2).ro0 (Atom.ro (Cel b 39 [v])) rfl (hJ _ _ h0).1
 have hlx := (H.sl v).len
 refine gsr ?_
 refine gy rfl rfl rfl S (y_load rfl Fsca39 S H rfl rfl) fun a S => ?_
 refine gy rfl rfl rfl S (y_lens rfl Try.underlying39 S H rfl) fun a S => ?_
 refine gy rfl rfl rfl S (y_sub rfl S rfl rfl (by omega)) fun a S => ?_
 refine ga S fun a S => ?_
 refine gnt ?_
 refine g_block ?_
 have SU := (S.nil.cons S 1 rfl).cons S 0 rfl
 refine loopW (X := Nat) SU (fun r => [(3, .int .i64 ((r : Int) - 1))]) (fun r w => r ≤ xs.length ∧ J r w) (fun r => r) xs.length (S.nil.cons S 3 rfl) (⟨by omega, hst _ _ _ h0 H.toExt⟩) (fun r a w S hW => ?_)
 simp only [List.cons_append, List.nil_append] at S
 obtain ⟨hk, hW⟩ := hW
 have H := ((HSat.start w).ro0 (Sl v 1 encI xs) rfl (hJ _ _ hW).2).ro0 (Atom.ro (Cel b 39 [v])) rfl (hJ _ _ hW).1
 refine g_seq ?_
 refine gsr ?_
 refine gm S fun a S => ?_
 refine gy rfl rfl rfl S (y_bin rfl S rfl rfl rfl) fun a S => ?_
 refine gnt ?_
 refine c_if S rfl (fun h1 => ?_) (fun h1 => ?_)
 ·have h1p := h1; try simp only [DL] at h1p
  obtain ⟨k, rfl⟩ : ∃ k, r = k + 1 := ⟨r - 1, by omega⟩
  rw [show (((k + 1 : Nat) : Int) - 1) = (k : Int) by omega] at S
  refine g_skip ?_
  refine n_then ?_
  refine g_seq ?_
  refine g_block ?_
  refine gsr ?_
  refine gm S fun a S => ?_
  refine gm S fun a S => ?_
  refine gy rfl rfl rfl S (y_load rfl Fsca39 S H rfl rfl) fun a S => ?_
  refine gm S fun a S => ?_
  refine gy rfl rfl rfl S (y_iaddrn rfl Try.underlying39 Fsiz3 S H rfl rfl (by first | assumption | omega | (simp only [LL]; omega))) fun a S => ?_
  refine gy rfl rfl rfl S (y_loads _ rfl Fsca3 S H rfl (by first | assumption | omega | (simp only [LL]; omega)) rfl) fun a S => ?_
  refine wl_of (op_yield (wn rfl) rfl rfl rfl S rfl rfl (hround k (by omega) _ (hst _ _ _ hW H.toExt)) fun u w hc a S => ?_)
  obtain ⟨rfl, hJ1⟩ := hc
  refine gy rfl rfl rfl S (y_not rfl S rfl) fun a S => ?_
  refine gnt ?_
  have S := (((S.nil.cons S 1 rfl).cons S 0 rfl).cons S 3 rfl).cons S 18 rfl
  refine c_if S rfl (fun h2 => ?_) (fun h2 => ?_)
  ·have h2p := h2; try simp only [DL] at h2p
   all_goals (
     exact absurd h2 (by simp))
  ·have h2p := h2; try simp only [DL] at h2p
   refine g_skip ?_
   refine n_block ?_
   refine n_then ?_
   refine g_region ?_
   refine gm S fun a S => ?_
   refine gy rfl rfl rfl S (y_sub rfl S rfl rfl (by omega)) fun a S => ?_
   refine ga S fun a S => ?_
   refine gnt ?_
   exact ⟨k, S.nil.cons S 3 rfl, (S.nil.cons S 1 rfl).cons S 0 rfl, ⟨by omega, hJ1⟩, by omega⟩
 ·have h1p := h1; try simp only [DL] at h1p
  obtain rfl : r = 0 := by omega
  refine g_exit ?_
  refine x_then (x_then (x_eq ?_))
  refine ret0n rfl S ?_
  exact hst _ _ _ hW H.toExt
/-- (foyer/rebuild.work).match$1 -/
theorem give_spec {M : Nat → Prop} {u0 : World} {l : List Atom} (i k bt bp bm c : Nat) (vp : Value) (owner got : List Int) (w0 : World) (hi : i < got.length) (hk : k < owner.length) (h0 : HSat M u0 (MapA bm (fun n : Int => .int .i64 n) (fun n : Int => .int .i64 n) (ownM (owner)) c :: OSl 3 vp 1 encI (got) :: Atom.ro (Cel bt 118 [.map (some bm)]) :: Atom.ro (Cel bp 39 [vp]) :: l) w0) :
    Ret Try.prog 62 #[.int .i64 (i : Int), .int .i64 (k : Int), .pointer (some ⟨bt, 0, none⟩), .pointer (some ⟨bp, 0, none⟩)] w0 (fun u w => u = .tuple #[] ∧ ∃ c2, HSat M u0 (MapA bm (fun n : Int => .int .i64 n) (fun n : Int => .int .i64 n) (ownM (owner.set k (i : Int))) c2 :: OSl 3 vp 1 encI (got.set i (k : Int)) :: Atom.ro (Cel bt 118 [.map (some bm)]) :: Atom.ro (Cel bp 39 [vp]) :: l) w) := by
 refine ret_of_wp (nt := 13) Try.func62 rfl rfl rfl (fl := [(0, .int .i64 (i : Int)), (1, .int .i64 (k : Int)), (2, .pointer (some ⟨bt, 0, none⟩)), (3, .pointer (some ⟨bp, 0, none⟩))]) rfl (fun a S => ?_)
 have H := h0
 refine region_st (loud := [6, 8]) (tails := [6, 8]) (free := [2, 3, 5]) [0, 1, 2, 3, 4, 5, 6, 7, 8] [Atom.ro (Cel bt 118 [.map (some bm)]), Atom.ro (Cel bp 39 [vp])] Fmo (by kernel_rfl) (by kernel_rfl) rfl H ?_
 refine m_w rfl rfl (wn rfl) rfl rfl S (fun w H => y_load rfl Fsca118 S H rfl rfl) fun a S => ?_
 refine m_w rfl rfl (wn rfl) rfl rfl S (fun w H => y_move rfl S rfl) fun a S => ?_
 refine m_f rfl rfl (wn rfl) rfl rfl S (fun w H => y_load rfl Fsca39 S H rfl rfl) fun a S => ?_
 refine m_f rfl rfl (wn rfl) rfl rfl S (fun w H => y_move rfl S rfl) fun a S => ?_
 refine m_w rfl rfl (wn rfl) rfl rfl S (fun w H => y_move rfl S rfl) fun a S => ?_
 refine m_f rfl rfl (wn rfl) rfl rfl S (fun w H => y_move rfl S rfl) fun a S => ?_
 refine m_l rfl rfl (fun w H => op_mapUpdate (_) (_) (wn rfl) rfl rfl Try.underlying118 S H rfl (keyOK_int Try.underlying3) (by exact rfl) (by exact rfl) fun a w S H => m_tail H rfl ?_)
 refine m_w rfl rfl (wn rfl) rfl rfl S (fun w H => y_iaddrn rfl Try.underlying39 Fsiz3 S H rfl rfl (by first | assumption | omega | (simp only [LL]; omega))) fun a S => ?_
 refine m_l rfl rfl (fun w H => op_store1 _ (_) (wn rfl) rfl rfl S H rfl rfl rfl rfl Fsiz3 (by first | assumption | omega | (simp only [LL]; omega)) (by exact rfl) fun a w S H => m_tail H rfl ?_)
 refine m_nil (fun w H => ?_)
 refine ret0n rfl S ?_
 rw [ownM_set hk (by omega)] at H
 exact ⟨rfl, _, H⟩
/-- what the search for a place does: f rounds deep at most -/
def LookSpec (f : Nat) (r : Nat) (vs vp vt vo vn ve : Value) (ps : List (Value × List Int)) (bw bs bt bl bg bp bm : Nat) : Prop := ∀ {M : Nat → Prop} {u0 : World} {l : List Atom} (i : Nat) (s0 : AS) (c0 : Nat) (w0 : World), i < ps.length → AWF (gr ps) r s0 → r < f + s0.seen.length →
    HSat M u0 (OSl 4 vs 1 encB (seenB r (s0.seen)) :: MapA bm (fun n : Int => .int .i64 n) (fun n : Int => .int .i64 n) (ownM (s0.owner)) c0 :: OSl 3 vp 1 encI (s0.got) :: Cel bs 129 [vs] :: Atom.ro (Cel bt 118 [.map (some bm)]) :: Atom.ro (Cel bp 39 [vp]) :: Atom.ro (Cel bw 99 [vt, vo, vn, ve]) :: Atom.ro (Cel bl 111 [.func (.func 65) #[] #[.pointer (some ⟨bw, 0, none⟩), .pointer (some ⟨bs, 0, none⟩), .pointer (some ⟨bt, 0, none⟩), .pointer (some ⟨bl, 0, none⟩), .pointer (some ⟨bg, 0, none⟩)]]) :: Atom.ro (Cel bg 120 [.func (.func 62) #[] #[.pointer (some ⟨bt, 0, none⟩), .pointer (some ⟨bp, 0, none⟩)]]) :: RowsS 1 encI ps :: Sl ve 1 encRow ps :: l) w0 → Ret Try.prog 65 #[.int .i64 (i : Int), .pointer (some ⟨bw, 0, none⟩), .pointer (some ⟨bs, 0, none⟩), .pointer (some ⟨bt, 0, none⟩), .pointer (some ⟨bl, 0, none⟩), .pointer (some ⟨bg, 0, none⟩)] w0 (fun u w => u = .bool (aug (gr ps) f (i : Int) s0).1 ∧ ∃ c, HSat M u0 (OSl 4 vs 1 encB (seenB r ((aug (gr ps) f (i : Int) s0).2.seen)) :: MapA bm (fun n : Int => .int .i64 n) (fun n : Int => .int .i64 n) (ownM ((aug (gr ps) f (i : Int) s0).2.owner)) c :: OSl 3 vp 1 encI ((aug (gr ps) f (i : Int) s0).2.got) :: Cel bs 129 [vs] :: Atom.ro (Cel bt 118 [.map (some bm)]) :: Atom.ro (Cel bp 39 [vp]) :: Atom.ro (Cel bw 99 [vt, vo, vn, ve]) :: Atom.ro (Cel bl 111 [.func (.func 65) #[] #[.pointer (some ⟨bw, 0, none⟩), .pointer (some ⟨bs, 0, none⟩), .pointer (some ⟨bt, 0, none⟩), .pointer (some ⟨bl, 0, none⟩), .pointer (some ⟨bg, 0, none⟩)]]) :: Atom.ro (Cel bg 120 [.func (.func 62) #[] #[.pointer (some ⟨bt, 0, none⟩), .pointer (some ⟨bp, 0, none⟩)]]) :: RowsS 1 encI ps :: Sl ve 1 encRow ps :: l) w)
set_option maxHeartbeats 2000000 in
/-- (foyer/rebuild.work).match$2 -/
theorem look_step {M : Nat → Prop} {u0 : World} {l : List Atom} (f : Nat) (r : Nat) (vs vp vt vo vn ve : Value) (ps : List (Value × List Int)) (bw bs bt bl bg bp bm : Nat) (hvg : validG (gr ps) r = true) (ih : LookSpec f r vs vp vt vo vn ve ps bw bs bt bl bg bp bm) (i : Nat) (s0 : AS) (c0 : Nat) (w0 : World) (hi0 : i < ps.length) (hwf0 : AWF (gr ps) r s0) (hf0 : r < f + 1 + s0.seen.length) (h0 : HSat M u0 (OSl 4 vs 1 encB (seenB r (s0.seen)) :: MapA bm (fun n : Int => .int .i64 n) (fun n : Int => .int .i64 n) (ownM (s0.owner)) c0 :: OSl 3 vp 1 encI (s0.got) :: Cel bs 129 [vs] :: Atom.ro (Cel bt 118 [.map (some bm)]) :: Atom.ro (Cel bp 39 [vp]) :: Atom.ro (Cel bw 99 [vt, vo, vn, ve]) :: Atom.ro (Cel bl 111 [.func (.func 65) #[] #[.pointer (some ⟨bw, 0, none⟩), .pointer (some ⟨bs, 0, none⟩), .pointer (some ⟨bt, 0, none⟩), .pointer (some ⟨bl, 0, none⟩), .pointer (some ⟨bg, 0, none⟩)]]) :: Atom.ro (Cel bg 120 [.func (.func 62) #[] #[.pointer (some ⟨bt, 0, none⟩), .pointer (some ⟨bp, 0, none⟩)]]) :: RowsS 1 encI ps :: Sl ve 1 encRow ps :: l) w0) :
    Ret Try.prog 65 #[.int .i64 (i : Int), .pointer (some ⟨bw, 0, none⟩), .pointer (some ⟨bs, 0, none⟩), .pointer (some ⟨bt, 0, none⟩), .pointer (some ⟨bl, 0, none⟩), .pointer (some ⟨bg, 0, none⟩)] w0 (fun u w => u = .bool (aug (gr ps) (f + 1) (i : Int) s0).1 ∧ ∃ c, HSat M u0 (OSl 4 vs 1 encB (seenB r ((aug (gr ps) (f + 1) (i : Int) s0).2.seen)) :: MapA bm (fun n : Int => .int .i64 n) (fun n : Int => .int .i64 n) (ownM ((aug (gr ps) (f + 1) (i : Int) s0).2.owner)) c :: OSl 3 vp 1 encI ((aug (gr ps) (f + 1) (i : Int) s0).2.got) :: Cel bs 129 [vs] :: Atom.ro (Cel bt 118 [.map (some bm)]) :: Atom.ro (Cel bp 39 [vp]) :: Atom.ro (Cel bw 99 [vt, vo, vn, ve]) :: Atom.ro (Cel bl 111 [.func (.func 65) #[] #[.pointer (some ⟨bw, 0, none⟩), .pointer (some ⟨bs, 0, none⟩), .pointer (some ⟨bt, 0, none⟩), .pointer (some ⟨bl, 0, none⟩), .pointer (some ⟨bg, 0, none⟩)]]) :: Atom.ro (Cel bg 120 [.func (.func 62) #[] #[.pointer (some ⟨bt, 0, none⟩), .pointer (some ⟨bp, 0, none⟩)]]) :: RowsS 1 encI ps :: Sl ve 1 encRow ps :: l) w) := by
 refine ret_of_wp (nt := 47) Try.func65 rfl rfl rfl (fl := [(0, .int .i64 (i : Int)), (1, .pointer (some ⟨bw, 0, none⟩)), (2, .pointer (some ⟨bs, 0, none⟩)), (3, .pointer (some ⟨bt, 0, none⟩)), (4, .pointer (some ⟨bl, 0, none⟩)), (5, .pointer (some ⟨bg, 0, none⟩))]) rfl (fun a S => ?_)
 have H := h0
 have hgl := gr_len ps
 have hrw := gr_row ps hi0
 have hvp := validG_parts hvg
 have hlv := (H.sl ve).len
 have hrl := (H.rwsS (sz := 1) (enc := encI) ps _ (List.getElem_mem hi0)).len
 refine gsr ?_
 refine ga S fun a S => ?_
 refine gnt ?_
 refine g_seq ?_
 refine gsr ?_
 refine gy rfl rfl rfl S (y_faddrb rfl Ffo99_3 S rfl) fun a S => ?_
 refine gy rfl rfl rfl S (y_load rfl Fsca96 S H rfl rfl) fun a S => ?_
 refine gm S fun a S => ?_
 refine gy rfl rfl rfl S (y_iaddrn rfl Try.underlying96 Fsiz39 S H rfl rfl (by first | assumption | omega | (rw [seenB_len]; omega))) fun a S => ?_
 refine gy rfl rfl rfl S (y_loads _ rfl Fsca39 S H rfl (by first | assumption | omega | (rw [seenB_len]; omega)) rfl) fun a S => ?_
 refine gy rfl rfl rfl S (y_lens rfl Try.underlying39 S H rfl) fun a S => ?_
 refine gm S fun a S => ?_
 refine gnt ?_
 have S := ((((((((S.nil.cons S 5 rfl).cons S 4 rfl).cons S 3 rfl).cons S 2 rfl).cons S 0 rfl).cons S 7 rfl).cons S 16 rfl).cons S 17 rfl).cons S 18 rfl
 refine g_block ?_
 have SU := ((((((S.nil.cons S 5 rfl).cons S 4 rfl).cons S 3 rfl).cons S 2 rfl).cons S 0 rfl).cons S 16 rfl).cons S 17 rfl
 refine loopW (X := Nat) SU (fun k => [(18, .int .i64 (k : Int))]) (fun k w => k ≤ ps[i].2.length ∧ ∃ s c, augRow (aug (gr ps) f) i ps[i].2 s0 = augRow (aug (gr ps) f) i (ps[i].2.drop k) s ∧ AWF (gr ps) r s ∧ r < f + 1 + s.seen.length ∧ HSat M u0 (OSl 4 vs 1 encB (seenB r (s.seen)) :: MapA bm (fun n : Int => .int .i64 n) (fun n : Int => .int .i64 n) (ownM (s.owner)) c :: OSl 3 vp 1 encI (s.got) :: Cel bs 129 [vs] :: Atom.ro (Cel bt 118 [.map (some bm)]) :: Atom.ro (Cel bp 39 [vp]) :: Atom.ro (Cel bw 99 [vt, vo, vn, ve]) :: Atom.ro (Cel bl 111 [.func (.func 65) #[] #[.pointer (some ⟨bw, 0, none⟩), .pointer (some ⟨bs, 0, none⟩), .pointer (some ⟨bt, 0, none⟩), .pointer (some ⟨bl, 0, none⟩), .pointer (some ⟨bg, 0, none⟩)]]) :: Atom.ro (Cel bg 120 [.func (.func 62) #[] #[.pointer (some ⟨bt, 0, none⟩), .pointer (some ⟨bp, 0, none⟩)]]) :: RowsS 1 encI ps :: Sl ve 1 encRow ps :: l) w) (fun k => ps[i].2.length - k) 0 (S.nil.cons S 18 rfl) (⟨by omega, s0, c0, rfl, hwf0, hf0, H⟩) (fun k a w S hW => ?_)
 simp only [List.cons_append, List.nil_append] at S
 obtain ⟨hk, s, c, hau, hwf, hfu, H⟩ := hW
 have hlo := hwf.lo
 have hlg := hwf.lg
 refine gsr ?_
 refine gy rfl rfl rfl S (y_bin rfl S rfl rfl rfl) fun a S => ?_
 refine gnt ?_
 refine g_seq ?_
 refine c_if S rfl (fun h1 => ?_) (fun h1 => ?_)
 ·have h1p := h1; try simp only [DL] at h1p
  have hkl : k < ps[i].2.length := by omega
  obtain ⟨n, hn⟩ : ∃ n : Nat, ps[i].2[k] = n := ⟨ps[i].2[k].toNat, by have := hvp.2.2.2 i ps[i].2[k] (by rw [hrw]; exact List.getElem_mem _); omega⟩
  have hnr : (0 : Int) ≤ n ∧ (n : Int) < r := hvp.2.2.2 i n (by rw [hrw, ← hn]; exact List.getElem_mem _)
  have hrd : ps[i].2.drop k = (n : Int) :: ps[i].2.drop (k + 1) := by rw [← hn]; exact List.drop_eq_getElem_cons hkl
  have hnrr : n < r := by omega
  refine g_skip ?_
  refine n_then ?_
  refine g_seq ?_
  refine g_block ?_
  refine gsr ?_
  refine gy rfl rfl rfl S (y_iaddrn rfl Try.underlying39 Fsiz3 S H rfl rfl (by first | assumption | omega | (rw [seenB_len]; omega))) fun a S => ?_
  refine gy rfl rfl rfl S (y_loads _ rfl Fsca3 S H rfl (by first | assumption | omega | (rw [seenB_len]; omega)) rfl) fun a S => ?_
  rw [hn] at S
  refine ga S fun a S => ?_
  refine gnt ?_
  refine g_seq ?_
  refine gsr ?_
  refine gy rfl rfl rfl S (y_load rfl Fsca129 S H rfl rfl) fun a S => ?_
  refine gm S fun a S => ?_
  refine gy rfl rfl rfl S (y_iaddrn rfl Try.underlying129 Fsiz4 S H rfl rfl (by first | assumption | omega | (rw [seenB_len]; omega))) fun a S => ?_
  refine gy rfl rfl rfl S (y_loads _ rfl Fsca4 S H rfl (by first | assumption | omega | (rw [seenB_len]; omega)) rfl) fun a S => ?_
  refine gnt ?_
  have S := (((((((((S.nil.cons S 5 rfl).cons S 4 rfl).cons S 3 rfl).cons S 2 rfl).cons S 0 rfl).cons S 16 rfl).cons S 17 rfl).cons S 18 rfl).cons S 9 rfl).cons S 25 rfl
  refine c_if S rfl (fun h2 => ?_) (fun h2 => ?_)
  ·have h2p := h2; try simp only [DL] at h2p
   have hx : (n : Int) ∈ s.seen := by have := h2; rw [seenB_get] at this; simpa using this
   refine g_exit ?_
   refine x_then (x_eq ?_)
   refine n_then ?_
   refine g_region ?_
   refine gy rfl rfl rfl S (y_add rfl S rfl rfl (by omega)) fun a S => ?_
   refine gm S fun a S => ?_
   refine gnt ?_
   first
   | exact ⟨k + 1, S.nil.cons S 18 rfl, ((((((S.nil.cons S 5 rfl).cons S 4 rfl).cons S 3 rfl).cons S 2 rfl).cons S 0 rfl).cons S 16 rfl).cons S 17 rfl, ⟨by omega, s, c, by rw [hau, hrd, augRow, if_pos hx], hwf, hfu, H⟩, by omega⟩
   | (have hbf : b = false := by simpa using @c3
      subst hbf
      exact ⟨k + 1, S.nil.cons S 18 rfl, ((((((S.nil.cons S 5 rfl).cons S 4 rfl).cons S 3 rfl).cons S 2 rfl).cons S 0 rfl).cons S 16 rfl).cons S 17 rfl, ⟨by omega, s2, c2, by rw [hau, hrd, augRow, if_neg hx, Int.toNat_natCast, if_neg hb, ho, hq], hout.wf, by omega, H⟩, by omega⟩)
  ·have h2p := h2; try simp only [DL] at h2p
   have hx : (n : Int) ∉ s.seen := by have := h2; rw [seenB_get] at this; simpa using this
   have hwf1 := hwf.see hnr hx
   have hon := hwf.own n
   refine g_skip ?_
   refine n_then ?_
   refine gsr ?_
   refine gy rfl rfl rfl S (y_load rfl Fsca129 S H rfl rfl) fun a S => ?_
   refine gm S fun a S => ?_
   refine gy rfl rfl rfl S (y_iaddrn rfl Try.underlying129 Fsiz4 S H rfl rfl (by first | assumption | omega | (rw [seenB_len]; omega))) fun a S => ?_
   refine wl_of (op_store1 _ (true) (wn rfl) rfl rfl S H rfl rfl rfl rfl Fsiz4 (by first | assumption | omega | (rw [seenB_len]; omega)) (by exact rfl) fun a w S H => ?_)
   refine gnt ?_
   have S := ((((((((S.nil.cons S 5 rfl).cons S 4 rfl).cons S 3 rfl).cons S 2 rfl).cons S 0 rfl).cons S 16 rfl).cons S 17 rfl).cons S 18 rfl).cons S 9 rfl
   refine g_seq ?_
   rw [seenB_set] at H
   have H : ∃ c1, HSat M u0 (OSl 4 vs 1 encB (seenB r ((s.see n).seen)) :: MapA bm (fun n : Int => .int .i64 n) (fun n : Int => .int .i64 n) (ownM (s.owner)) c1 :: OSl 3 vp 1 encI (s.got) :: Cel bs 129 [vs] :: Atom.ro (Cel bt 118 [.map (some bm)]) :: Atom.ro (Cel bp 39 [vp]) :: Atom.ro (Cel bw 99 [vt, vo, vn, ve]) :: Atom.ro (Cel bl 111 [.func (.func 65) #[] #[.pointer (some ⟨bw, 0, none⟩), .pointer (some ⟨bs, 0, none⟩), .pointer (some ⟨bt, 0, none⟩), .pointer (some ⟨bl, 0, none⟩), .pointer (some ⟨bg, 0, none⟩)]]) :: Atom.ro (Cel bg 120 [.func (.func 62) #[] #[.pointer (some ⟨bt, 0, none⟩), .pointer (some ⟨bp, 0, none⟩)]]) :: RowsS 1 encI ps :: Sl ve 1 encRow ps :: l) _ := ⟨_, H⟩
   obtain ⟨c1, H⟩ := H
   by_cases hb : atI s.owner n < 0
   ·skip
    refine g_region ?_
    refine gy rfl rfl rfl S (y_load rfl Fsca118 S H rfl rfl) fun a S => ?_
    refine gm S fun a S => ?_
    refine gy rfl rfl rfl S (y_lookupok (_) ((0 : Int)) rfl Try.underlying118 Finf3 S H rfl (keyOK_int Try.underlying3) (by exact rfl) (by exact rfl)) fun a S => ?_
    rw [ownM_get, if_neg (by omega)] at S
    refine gm S fun a S => ?_
    refine gy rfl rfl rfl S (y_extract rfl S rfl rfl) fun a S => ?_
    refine gy rfl rfl rfl S (y_extract rfl S rfl rfl) fun a S => ?_
    refine ga S fun a S => ?_
    refine ga S fun a S => ?_
    refine gnt ?_
    have S := ((((((((((S.nil.cons S 5 rfl).cons S 4 rfl).cons S 3 rfl).cons S 2 rfl).cons S 0 rfl).cons S 16 rfl).cons S 17 rfl).cons S 18 rfl).cons S 9 rfl).cons S 10 rfl).cons S 11 rfl
    refine gsr ?_
    refine gm S fun a S => ?_
    refine gy rfl rfl rfl S (y_not rfl S rfl) fun a S => ?_
    refine gm S fun a S => ?_
    refine' wl_or (B2 := false) 3 37 rfl S H rfl rfl rfl rfl rfl rfl rfl (fun _ S => (wn rfl)) (fun h3 kk => ?yh3) (fun a w S H => ?_)
    case yh3 => exact absurd h3 (by simp)
    refine gnt ?_
    have S := (((((((((S.nil.cons S 5 rfl).cons S 4 rfl).cons S 3 rfl).cons S 2 rfl).cons S 0 rfl).cons S 16 rfl).cons S 17 rfl).cons S 18 rfl).cons S 9 rfl).cons S 41 rfl
    refine c_if S rfl (fun h4 => ?_) (fun h4 => ?_)
    ·have h4p := h4; try simp only [DL] at h4p
     refine gsr ?_
     refine gy rfl rfl rfl S (y_load rfl Fsca120 S H rfl rfl) fun a S => ?_
     refine gm S fun a S => ?_
     refine gm S fun a S => ?_
     refine wl_of (op_call (wn rfl) rfl rfl S (co_value rfl Try.call62 S rfl rfl) (give_spec i n bt bp bm c1 vp s.owner s.got _ (by omega) (by omega) (H.pick [MapA bm (fun n : Int => .int .i64 n) (fun n : Int => .int .i64 n) (ownM (s.owner)) c1, OSl 3 vp 1 encI (s.got), Atom.ro (Cel bt 118 [.map (some bm)]), Atom.ro (Cel bp 39 [vp])])) fun v w hc a S => ?_)
     obtain ⟨rfl, c2, H⟩ := hc
     simp only [List.append_eq, List.nil_append] at H
     have H := H.pick [OSl 4 vs 1 encB (seenB r ((s.see n).seen)), MapA bm (fun n : Int => .int .i64 n) (fun n : Int => .int .i64 n) (ownM (s.owner.set n (i : Int))) c2, OSl 3 vp 1 encI (s.got.set i (n : Int)), Cel bs 129 [vs], Atom.ro (Cel bt 118 [.map (some bm)]), Atom.ro (Cel bp 39 [vp]), Atom.ro (Cel bw 99 [vt, vo, vn, ve]), Atom.ro (Cel bl 111 [.func (.func 65) #[] #[.pointer (some ⟨bw, 0, none⟩), .pointer (some ⟨bs, 0, none⟩), .pointer (some ⟨bt, 0, none⟩), .pointer (some ⟨bl, 0, none⟩), .pointer (some ⟨bg, 0, none⟩)]]), Atom.ro (Cel bg 120 [.func (.func 62) #[] #[.pointer (some ⟨bt, 0, none⟩), .pointer (some ⟨bp, 0, none⟩)]]), RowsS 1 encI ps, Sl ve 1 encRow ps]
     refine gnt ?_
     have S := (((((((S.nil.cons S 5 rfl).cons S 4 rfl).cons S 3 rfl).cons S 2 rfl).cons S 0 rfl).cons S 16 rfl).cons S 17 rfl).cons S 18 rfl
     refine gsr ?_
     refine ga S fun a S => ?_
     refine gnt ?_
     refine g_ret ?_
     refine r_block (r_then (r_then (r_block (r_then (ret1 rfl S rfl ?_)))))
     first
     | (have e : aug (gr ps) (f + 1) i s0 = (true, (s.see n).pair n i) := by rw [aug_succ ps f i s0 hi0, hau, hrd, augRow, if_neg hx, Int.toNat_natCast, if_pos hb]
        rw [e]; exact ⟨rfl, _, H⟩)
     | (have hbt : b = true := by simpa using h4
        subst hbt
        have e : aug (gr ps) (f + 1) i s0 = (true, s2.pair n i) := by rw [aug_succ ps f i s0 hi0, hau, hrd, augRow, if_neg hx, Int.toNat_natCast, if_neg hb, ho, hq]
        rw [e]; exact ⟨rfl, _, H⟩)
    ·have h4p := h4; try simp only [DL] at h4p
     all_goals (
       exact absurd h4 (by simp))
   ·obtain ⟨o, ho⟩ : ∃ o : Nat, atI s.owner n = o := ⟨(atI s.owner n).toNat, by omega⟩
    refine g_region ?_
    refine gy rfl rfl rfl S (y_load rfl Fsca118 S H rfl rfl) fun a S => ?_
    refine gm S fun a S => ?_
    refine gy rfl rfl rfl S (y_lookupok (_) ((0 : Int)) rfl Try.underlying118 Finf3 S H rfl (keyOK_int Try.underlying3) (by exact rfl) (by exact rfl)) fun a S => ?_
    rw [ownM_get, if_pos (by omega), ho] at S
    simp only [Option.getD_some, Option.isSome_some] at S
    refine gm S fun a S => ?_
    refine gy rfl rfl rfl S (y_extract rfl S rfl rfl) fun a S => ?_
    refine gy rfl rfl rfl S (y_extract rfl S rfl rfl) fun a S => ?_
    refine ga S fun a S => ?_
    refine ga S fun a S => ?_
    refine gnt ?_
    have S := ((((((((((S.nil.cons S 5 rfl).cons S 4 rfl).cons S 3 rfl).cons S 2 rfl).cons S 0 rfl).cons S 16 rfl).cons S 17 rfl).cons S 18 rfl).cons S 9 rfl).cons S 10 rfl).cons S 11 rfl
    refine gsr ?_
    refine gm S fun a S => ?_
    refine gy rfl rfl rfl S (y_not rfl S rfl) fun a S => ?_
    refine gm S fun a S => ?_
    refine gz 37 rfl S rfl rfl rfl rfl rfl rfl (y_load rfl Fsca111 S H rfl rfl) fun a S => ?_
    refine gz 37 rfl S rfl rfl rfl rfl rfl rfl (y_move rfl S rfl) fun a S => ?_
    refine wl_of (op_call (wg' 37 rfl rfl S rfl rfl rfl) rfl rfl S (co_value rfl Try.call65 S rfl rfl) (ih o (s.see n) c1 _ (by omega) hwf1 (by simp [AS.see]; omega) H) fun v w hc a S => ?_)
    obtain ⟨rfl, c2, H⟩ := hc
    have hout := aug_out hvg f o (s.see n) (by omega) hwf1
    obtain ⟨b, s2, hq⟩ : ∃ b s2, aug (gr ps) f o (s.see n) = (b, s2) := ⟨_, _, rfl⟩
    rw [hq] at S H hout
    dsimp only at S H hout
    have hlo2 := hout.wf.lo
    have hlg2 := hout.wf.lg
    have hln2 := hout.len
    simp only [AS.see, List.length_cons] at hln2
    refine gy rfl rfl rfl S (y_or' rfl rfl S rfl rfl) fun a S => ?_
    refine gnt ?_
    have S := (((((((((S.nil.cons S 5 rfl).cons S 4 rfl).cons S 3 rfl).cons S 2 rfl).cons S 0 rfl).cons S 16 rfl).cons S 17 rfl).cons S 18 rfl).cons S 9 rfl).cons S 41 rfl
    refine c_if S rfl (fun h6 => ?_) (fun h6 => ?_)
    ·have h6p := h6; try simp only [DL] at h6p
     refine gsr ?_
     refine gy rfl rfl rfl S (y_load rfl Fsca120 S H rfl rfl) fun a S => ?_
     refine gm S fun a S => ?_
     refine gm S fun a S => ?_
     refine wl_of (op_call (wn rfl) rfl rfl S (co_value rfl Try.call62 S rfl rfl) (give_spec i n bt bp bm c2 vp s2.owner s2.got _ (by omega) (by omega) (H.pick [MapA bm (fun n : Int => .int .i64 n) (fun n : Int => .int .i64 n) (ownM (s2.owner)) c2, OSl 3 vp 1 encI (s2.got), Atom.ro (Cel bt 118 [.map (some bm)]), Atom.ro (Cel bp 39 [vp])])) fun v w hc a S => ?_)
     obtain ⟨rfl, c3, H⟩ := hc
     simp only [List.append_eq, List.nil_append] at H
     have H := H.pick [OSl 4 vs 1 encB (seenB r (s2.seen)), MapA bm (fun n : Int => .int .i64 n) (fun n : Int => .int .i64 n) (ownM (s2.owner.set n (i : Int))) c3, OSl 3 vp 1 encI (s2.got.set i (n : Int)), Cel bs 129 [vs], Atom.ro (Cel bt 118 [.map (some bm)]), Atom.ro (Cel bp 39 [vp]), Atom.ro (Cel bw 99 [vt, vo, vn, ve]), Atom.ro (Cel bl 111 [.func (.func 65) #[] #[.pointer (some ⟨bw, 0, none⟩), .pointer (some ⟨bs, 0, none⟩), .pointer (some ⟨bt, 0, none⟩), .pointer (some ⟨bl, 0, none⟩), .pointer (some ⟨bg, 0, none⟩)]]), Atom.ro (Cel bg 120 [.func (.func 62) #[] #[.pointer (some ⟨bt, 0, none⟩), .pointer (some ⟨bp, 0, none⟩)]]), RowsS 1 encI ps, Sl ve 1 encRow ps]
     refine gnt ?_
     have S := (((((((S.nil.cons S 5 rfl).cons S 4 rfl).cons S 3 rfl).cons S 2 rfl).cons S 0 rfl).cons S 16 rfl).cons S 17 rfl).cons S 18 rfl
     refine gsr ?_
     refine ga S fun a S => ?_
     refine gnt ?_
     refine g_ret ?_
     refine r_block (r_then (r_then (r_block (r_then (ret1 rfl S rfl ?_)))))
     first
     | (have e : aug (gr ps) (f + 1) i s0 = (true, (s.see n).pair n i) := by rw [aug_succ ps f i s0 hi0, hau, hrd, augRow, if_neg hx, Int.toNat_natCast, if_pos hb]
        rw [e]; exact ⟨rfl, _, H⟩)
     | (have hbt : b = true := by simpa using h6
        subst hbt
        have e : aug (gr ps) (f + 1) i s0 = (true, s2.pair n i) := by rw [aug_succ ps f i s0 hi0, hau, hrd, augRow, if_neg hx, Int.toNat_natCast, if_neg hb, ho, hq]
        rw [e]; exact ⟨rfl, _, H⟩)
    ·have h6p := h6; try simp only [DL] at h6p
     refine g_skip ?_
     refine n_block ?_
     refine n_then ?_
     refine g_region ?_
     refine gy rfl rfl rfl S (y_add rfl S rfl rfl (by omega)) fun a S => ?_
     refine gm S fun a S => ?_
     refine gnt ?_
     first
     | exact ⟨k + 1, S.nil.cons S 18 rfl, ((((((S.nil.cons S 5 rfl).cons S 4 rfl).cons S 3 rfl).cons S 2 rfl).cons S 0 rfl).cons S 16 rfl).cons S 17 rfl, ⟨by omega, s, c, by rw [hau, hrd, augRow, if_pos hx], hwf, hfu, H⟩, by omega⟩
     | (have hbf : b = false := by simpa using h6
        subst hbf
        exact ⟨k + 1, S.nil.cons S 18 rfl, ((((((S.nil.cons S 5 rfl).cons S 4 rfl).cons S 3 rfl).cons S 2 rfl).cons S 0 rfl).cons S 16 rfl).cons S 17 rfl, ⟨by omega, s2, c2, by rw [hau, hrd, augRow, if_neg hx, Int.toNat_natCast, if_neg hb, ho, hq], hout.wf, by omega, H⟩, by omega⟩)
 ·have h1p := h1; try simp only [DL] at h1p
  refine g_exit ?_
  refine x_then (x_then (x_eq ?_))
  refine n_then ?_
  have S := S.nil
  refine gsr ?_
  refine ga S fun a S => ?_
  refine gnt ?_
  refine g_ret ?_
  refine ret1 rfl S rfl ?_
  have e : aug (gr ps) (f + 1) i s0 = (false, s) := by rw [aug_succ ps f i s0 hi0, hau, List.drop_of_length_le (by omega)]; rfl
  rw [e]; exact ⟨rfl, _, H⟩
theorem look_spec (r : Nat) (vs vp vt vo vn ve : Value) (ps : List (Value × List Int)) (bw bs bt bl bg bp bm : Nat) (hvg : validG (gr ps) r = true) : ∀ f, LookSpec f r vs vp vt vo vn ve ps bw bs bt bl bg bp bm
  | 0 => fun i s0 c0 w0 hi hwf hf h => by have := hwf.few; omega
  | f + 1 => fun i s0 c0 w0 hi hwf hf h => look_step f r vs vp vt vo vn ve ps bw bs bt bl bg bp bm hvg (look_spec r vs vp vt vo vn ve ps bw bs bt bl bg bp bm hvg f) i s0 c0 w0 hi hwf hf h
/-- what the search for all that can be reached does: f rounds deep at most -/
def Reach2Spec (f : Nat) (r : Nat) (vq vx vt vo vn ve : Value) (ps : List (Value × List Int)) (owner : List Int) (bq bw bx bt br bm c : Nat) : Prop := ∀ {M : Nat → Prop} {u0 : World} {l : List Atom} (i : Nat) (s0 : RS) (w0 : World), i < ps.length → R2WF (gr ps) s0 → (gr ps).length < f + s0.left.length →
    HSat M u0 (OSl 4 vq 1 encB (seenB ps.length (s0.left)) :: OSl 4 vx 1 encB (seenB r (s0.reached)) :: Atom.ro (Cel bq 129 [vq]) :: Atom.ro (Cel bx 129 [vx]) :: Atom.ro (MapA bm (fun n : Int => .int .i64 n) (fun n : Int => .int .i64 n) (ownM (owner)) c) :: Atom.ro (Cel bt 118 [.map (some bm)]) :: Atom.ro (Cel bw 99 [vt, vo, vn, ve]) :: Atom.ro (Cel br 114 [.func (.func 66) #[] #[.pointer (some ⟨bq, 0, none⟩), .pointer (some ⟨bw, 0, none⟩), .pointer (some ⟨bx, 0, none⟩), .pointer (some ⟨bt, 0, none⟩), .pointer (some ⟨br, 0, none⟩)]]) :: RowsS 1 encI ps :: Sl ve 1 encRow ps :: l) w0 → Ret Try.prog 66 #[.int .i64 (i : Int), .pointer (some ⟨bq, 0, none⟩), .pointer (some ⟨bw, 0, none⟩), .pointer (some ⟨bx, 0, none⟩), .pointer (some ⟨bt, 0, none⟩), .pointer (some ⟨br, 0, none⟩)] w0 (fun u w => u = .tuple #[] ∧ HSat M u0 (OSl 4 vq 1 encB (seenB ps.length ((reach2 (gr ps) owner f (i : Int) s0).left)) :: OSl 4 vx 1 encB (seenB r ((reach2 (gr ps) owner f (i : Int) s0).reached)) :: Atom.ro (Cel bq 129 [vq]) :: Atom.ro (Cel bx 129 [vx]) :: Atom.ro (MapA bm (fun n : Int => .int .i64 n) (fun n : Int => .int .i64 n) (ownM (owner)) c) :: Atom.ro (Cel bt 118 [.map (some bm)]) :: Atom.ro (Cel bw 99 [vt, vo, vn, ve]) :: Atom.ro (Cel br 114 [.func (.func 66) #[] #[.pointer (some ⟨bq, 0, none⟩), .pointer (some ⟨bw, 0, none⟩), .pointer (some ⟨bx, 0, none⟩), .pointer (some ⟨bt, 0, none⟩), .pointer (some ⟨br, 0, none⟩)]]) :: RowsS 1 encI ps :: Sl ve 1 encRow ps :: l) w)
set_option maxHeartbeats 2000000 in
/-- (foyer/rebuild.work).match$3 -/
theorem reach2_step {M : Nat → Prop} {u0 : World} {l : List Atom} (f : Nat) (r : Nat) (vq vx vt vo vn ve : Value) (ps : List (Value × List Int)) (owner : List Int) (bq bw bx bt br bm c : Nat) (hvg : validG (gr ps) r = true) (hol : owner.length = r) (hown : ∀ n : Nat, atI owner n < (gr ps).length) (ih : Reach2Spec f r vq vx vt vo vn ve ps owner bq bw bx bt br bm c) (i : Nat) (s0 : RS) (w0 : World) (hi0 : i < ps.length) (hwf0 : R2WF (gr ps) s0) (hf0 : (gr ps).length < f + 1 + s0.left.length) (h0 : HSat M u0 (OSl 4 vq 1 encB (seenB ps.length (s0.left)) :: OSl 4 vx 1 encB (seenB r (s0.reached)) :: Atom.ro (Cel bq 129 [vq]) :: Atom.ro (Cel bx 129 [vx]) :: Atom.ro (MapA bm (fun n : Int => .int .i64 n) (fun n : Int => .int .i64 n) (ownM (owner)) c) :: Atom.ro (Cel bt 118 [.map (some bm)]) :: Atom.ro (Cel bw 99 [vt, vo, vn, ve]) :: Atom.ro (Cel br 114 [.func (.func 66) #[] #[.pointer (some ⟨bq, 0, none⟩), .pointer (some ⟨bw, 0, none⟩), .pointer (some ⟨bx, 0, none⟩), .pointer (some ⟨bt, 0, none⟩), .pointer (some ⟨br, 0, none⟩)]]) :: RowsS 1 encI ps :: Sl ve 1 encRow ps :: l) w0) :
    Ret Try.prog 66 #[.int .i64 (i : Int), .pointer (some ⟨bq, 0, none⟩), .pointer (some ⟨bw, 0, none⟩), .pointer (some ⟨bx, 0, none⟩), .pointer (some ⟨bt, 0, none⟩), .pointer (some ⟨br, 0, none⟩)] w0 (fun u w => u = .tuple #[] ∧ HSat M u0 (OSl 4 vq 1 encB (seenB ps.length ((reach2 (gr ps) owner (f + 1) (i : Int) s0).left)) :: OSl 4 vx 1 encB (seenB r ((reach2 (gr ps) owner (f + 1) (i : Int) s0).reached)) :: Atom.ro (Cel bq 129 [vq]) :: Atom.ro (Cel bx 129 [vx]) :: Atom.ro (MapA bm (fun n : Int => .int .i64 n) (fun n : Int => .int .i64 n) (ownM (owner)) c) :: Atom.ro (Cel bt 118 [.map (some bm)]) :: Atom.ro (Cel bw 99 [vt, vo, vn, ve]) :: Atom.ro (Cel br 114 [.func (.func 66) #[] #[.pointer (some ⟨bq, 0, none⟩), .pointer (some ⟨bw, 0, none⟩), .pointer (some ⟨bx, 0, none⟩), .pointer (some ⟨bt, 0, none⟩), .pointer (some ⟨br, 0, none⟩)]]) :: RowsS 1 encI ps :: Sl ve 1 encRow ps :: l) w) := by
 refine ret_of_wp (nt := 42) Try.func66 rfl rfl rfl (fl := [(0, .int .i64 (i : Int)), (1, .pointer (some ⟨bq, 0, none⟩)), (2, .pointer (some ⟨bw, 0, none⟩)), (3, .pointer (some ⟨bx, 0, none⟩)), (4, .pointer (some ⟨bt, 0, none⟩)), (5, .pointer (some ⟨br, 0, none⟩))]) rfl (fun a S => ?_)
 have H := h0
 have hgl := gr_len ps
 have hrw := gr_row ps hi0
 have hvp := validG_parts hvg
 have hlv := (H.sl ve).len
 have hrl := (H.rwsS (sz := 1) (enc := encI) ps _ (List.getElem_mem hi0)).len
 refine g_seq ?_
 refine gsr ?_
 refine gy rfl rfl rfl S (y_load rfl Fsca129 S H rfl rfl) fun a S => ?_
 refine gm S fun a S => ?_
 refine gy rfl rfl rfl S (y_iaddrn rfl Try.underlying129 Fsiz4 S H rfl rfl (by first | assumption | omega | (rw [seenB_len]; omega))) fun a S => ?_
 refine gy rfl rfl rfl S (y_loads _ rfl Fsca4 S H rfl (by first | assumption | omega | (rw [seenB_len]; omega)) rfl) fun a S => ?_
 refine gnt ?_
 refine c_if S rfl (fun h1 => ?_) (fun h1 => ?_)
 ·have h1p := h1; try simp only [DL] at h1p
  have hx0 : (i : Int) ∈ s0.left := by have := h1; rw [seenB_get] at this; simpa using this
  refine g_ret ?_
  refine r_then (ret0 rfl S ?_)
  rw [reach2_in _ _ _ _ _ hx0]; exact ⟨rfl, H⟩
 ·have h1p := h1; try simp only [DL] at h1p
  have hx0 : (i : Int) ∉ s0.left := by have := h1; rw [seenB_get] at this; simpa using this
  have hwf1 : R2WF (gr ps) { s0 with left := (i : Int) :: s0.left } := ⟨fun j hj => by rcases List.mem_cons.1 hj with rfl | hj; omega; exact hwf0.lft j hj, List.nodup_cons.2 ⟨hx0, hwf0.lnd⟩⟩
  refine g_skip ?_
  refine n_then ?_
  have S := (((((S.nil.cons S 5 rfl).cons S 4 rfl).cons S 3 rfl).cons S 2 rfl).cons S 1 rfl).cons S 0 rfl
  refine gsr ?_
  refine gy rfl rfl rfl S (y_load rfl Fsca129 S H rfl rfl) fun a S => ?_
  refine gm S fun a S => ?_
  refine gy rfl rfl rfl S (y_iaddrn rfl Try.underlying129 Fsiz4 S H rfl rfl (by first | assumption | omega | (rw [seenB_len]; omega))) fun a S => ?_
  refine wl_of (op_store1 _ (true) (wn rfl) rfl rfl S H rfl rfl rfl rfl Fsiz4 (by first | assumption | omega | (rw [seenB_len]; omega)) (by exact rfl) fun a w S H => ?_)
  refine gnt ?_
  have S := ((((S.nil.cons S 5 rfl).cons S 4 rfl).cons S 3 rfl).cons S 2 rfl).cons S 0 rfl
  refine gsr ?_
  refine gy rfl rfl rfl S (y_faddrb rfl Ffo99_3 S rfl) fun a S => ?_
  refine gy rfl rfl rfl S (y_load rfl Fsca96 S H rfl rfl) fun a S => ?_
  refine gm S fun a S => ?_
  refine gy rfl rfl rfl S (y_iaddrn rfl Try.underlying96 Fsiz39 S H rfl rfl (by first | assumption | omega | (rw [seenB_len]; omega))) fun a S => ?_
  refine gy rfl rfl rfl S (y_loads _ rfl Fsca39 S H rfl (by first | assumption | omega | (rw [seenB_len]; omega)) rfl) fun a S => ?_
  refine gy rfl rfl rfl S (y_lens rfl Try.underlying39 S H rfl) fun a S => ?_
  refine gm S fun a S => ?_
  refine gnt ?_
  have S := (((((S.nil.cons S 5 rfl).cons S 4 rfl).cons S 3 rfl).cons S 22 rfl).cons S 23 rfl).cons S 24 rfl
  refine g_block ?_
  rw [seenB_set] at H
  have SU := ((((S.nil.cons S 5 rfl).cons S 4 rfl).cons S 3 rfl).cons S 22 rfl).cons S 23 rfl
  refine loopW (X := Nat) SU (fun k => [(24, .int .i64 (k : Int))]) (fun k w => k ≤ ps[i].2.length ∧ ∃ s, reach2Row (reach2 (gr ps) owner f) owner ps[i].2 { s0 with left := (i : Int) :: s0.left } = reach2Row (reach2 (gr ps) owner f) owner (ps[i].2.drop k) s ∧ R2WF (gr ps) s ∧ (gr ps).length < f + s.left.length ∧ HSat M u0 (OSl 4 vq 1 encB (seenB ps.length (s.left)) :: OSl 4 vx 1 encB (seenB r (s.reached)) :: Atom.ro (Cel bq 129 [vq]) :: Atom.ro (Cel bx 129 [vx]) :: Atom.ro (MapA bm (fun n : Int => .int .i64 n) (fun n : Int => .int .i64 n) (ownM (owner)) c) :: Atom.ro (Cel bt 118 [.map (some bm)]) :: Atom.ro (Cel bw 99 [vt, vo, vn, ve]) :: Atom.ro (Cel br 114 [.func (.func 66) #[] #[.pointer (some ⟨bq, 0, none⟩), .pointer (some ⟨bw, 0, none⟩), .pointer (some ⟨bx, 0, none⟩), .pointer (some ⟨bt, 0, none⟩), .pointer (some ⟨br, 0, none⟩)]]) :: RowsS 1 encI ps :: Sl ve 1 encRow ps :: l) w) (fun k => ps[i].2.length - k) 0 (S.nil.cons S 24 rfl) (⟨by omega, { s0 with left := (i : Int) :: s0.left }, rfl, hwf1, by simp only [List.length_cons]; omega, H⟩) (fun k a w S hW => ?_)
  simp only [List.cons_append, List.nil_append] at S
  obtain ⟨hk, s, hau, hwf, hfu, H⟩ := hW
  refine gsr ?_
  refine gy rfl rfl rfl S (y_bin rfl S rfl rfl rfl) fun a S => ?_
  refine gnt ?_
  refine g_seq ?_
  refine c_if S rfl (fun h2 => ?_) (fun h2 => ?_)
  ·have h2p := h2; try simp only [DL] at h2p
   have hkl : k < ps[i].2.length := by omega
   obtain ⟨n, hn⟩ : ∃ n : Nat, ps[i].2[k] = n := ⟨ps[i].2[k].toNat, by have := hvp.2.2.2 i ps[i].2[k] (by rw [hrw]; exact List.getElem_mem _); omega⟩
   have hnr : (0 : Int) ≤ n ∧ (n : Int) < r := hvp.2.2.2 i n (by rw [hrw, ← hn]; exact List.getElem_mem _)
   have hrd : ps[i].2.drop k = (n : Int) :: ps[i].2.drop (k + 1) := by rw [← hn]; exact List.drop_eq_getElem_cons hkl
   have hnrr : n < r := by omega
   have hon := hown n
   have hwf2 : R2WF (gr ps) { s with reached := (n : Int) :: s.reached } := ⟨hwf.lft, hwf.lnd⟩
   refine g_skip ?_
   refine n_then ?_
   refine g_seq ?_
   refine g_block ?_
   refine gsr ?_
   refine gy rfl rfl rfl S (y_iaddrn rfl Try.underlying39 Fsiz3 S H rfl rfl (by first | assumption | omega | (rw [seenB_len]; omega))) fun a S => ?_
   refine gy rfl rfl rfl S (y_loads _ rfl Fsca3 S H rfl (by first | assumption | omega | (rw [seenB_len]; omega)) rfl) fun a S => ?_
   rw [hn] at S
   refine ga S fun a S => ?_
   refine gnt ?_
   refine gsr ?_
   refine gy rfl rfl rfl S (y_load rfl Fsca129 S H rfl rfl) fun a S => ?_
   refine gm S fun a S => ?_
   refine gy rfl rfl rfl S (y_iaddrn rfl Try.underlying129 Fsiz4 S H rfl rfl (by first | assumption | omega | (rw [seenB_len]; omega))) fun a S => ?_
   refine wl_of (op_store1 _ (true) (wn rfl) rfl rfl S H rfl rfl rfl rfl Fsiz4 (by first | assumption | omega | (rw [seenB_len]; omega)) (by exact rfl) fun a w S H => ?_)
   refine gnt ?_
   have S := ((((((S.nil.cons S 5 rfl).cons S 4 rfl).cons S 3 rfl).cons S 22 rfl).cons S 23 rfl).cons S 24 rfl).cons S 8 rfl
   refine gsr ?_
   refine gy rfl rfl rfl S (y_load rfl Fsca118 S H rfl rfl) fun a S => ?_
   refine gm S fun a S => ?_
   refine gy rfl rfl rfl S (y_lookupok (_) ((0 : Int)) rfl Try.underlying118 Finf3 S H rfl (keyOK_int Try.underlying3) (by exact rfl) (by exact rfl)) fun a S => ?_
   refine gm S fun a S => ?_
   refine gy rfl rfl rfl S (y_extract rfl S rfl rfl) fun a S => ?_
   refine gy rfl rfl rfl S (y_extract rfl S rfl rfl) fun a S => ?_
   refine ga S fun a S => ?_
   refine ga S fun a S => ?_
   refine gnt ?_
   have S := (((((((S.nil.cons S 5 rfl).cons S 4 rfl).cons S 3 rfl).cons S 22 rfl).cons S 23 rfl).cons S 24 rfl).cons S 9 rfl).cons S 10 rfl
   refine gsr ?_
   refine gm S fun a S => ?_
   refine gnt ?_
   refine c_if S rfl (fun h3 => ?_) (fun h3 => ?_)
   ·have h3p := h3; try simp only [DL] at h3p
    have hb : 0 ≤ atI owner n := by have hh := h3; rw [ownM_get] at hh; by_cases h0 : 0 ≤ atI owner n; exact h0; rw [if_neg h0] at hh; cases hh
    obtain ⟨o, ho⟩ : ∃ o : Nat, atI owner n = o := ⟨(atI owner n).toNat, by omega⟩
    rw [show (ownM owner (n : Int)).getD 0 = (o : Int) by rw [ownM_get, if_pos hb, ho]; rfl] at S
    refine g_region ?_
    refine gy rfl rfl rfl S (y_load rfl Fsca114 S H rfl rfl) fun a S => ?_
    refine gm S fun a S => ?_
    refine wl_of (op_call (wn rfl) rfl rfl S (co_value rfl Try.call66 S rfl rfl) (ih o { s with reached := (n : Int) :: s.reached } _ (by omega) hwf2 (by dsimp only; omega) (by rw [seenB_set] at H; exact H)) fun v w hc a S => ?_)
    obtain ⟨rfl, H⟩ := hc
    have ho1 := (reach2_law hown f o { s with reached := (n : Int) :: s.reached } (by omega) hwf2 (by dsimp only; omega)).out
    have hln2 := ho1.len
    dsimp only at hln2
    refine gl_nil ?_
    refine n_block ?_
    refine n_then ?_
    have S := (((((S.nil.cons S 5 rfl).cons S 4 rfl).cons S 3 rfl).cons S 22 rfl).cons S 23 rfl).cons S 24 rfl
    refine g_region ?_
    refine gy rfl rfl rfl S (y_add rfl S rfl rfl (by omega)) fun a S => ?_
    refine gm S fun a S => ?_
    refine gnt ?_
    first
    | exact ⟨k + 1, S.nil.cons S 24 rfl, ((((S.nil.cons S 5 rfl).cons S 4 rfl).cons S 3 rfl).cons S 22 rfl).cons S 23 rfl, ⟨by omega, _, by rw [hau, hrd, reach2Row, Int.toNat_natCast, if_pos hb, ho], ho1.wf, by omega, H⟩, by omega⟩
    | (rw [seenB_set] at H
       exact ⟨k + 1, S.nil.cons S 24 rfl, ((((S.nil.cons S 5 rfl).cons S 4 rfl).cons S 3 rfl).cons S 22 rfl).cons S 23 rfl, ⟨by omega, { s with reached := (n : Int) :: s.reached }, by rw [hau, hrd, reach2Row, Int.toNat_natCast, if_neg hb], hwf2, hfu, H⟩, by omega⟩)
   ·have h3p := h3; try simp only [DL] at h3p
    have hb : ¬ 0 ≤ atI owner n := by intro h0; have hh := h3; rw [ownM_get, if_pos h0] at hh; cases hh
    refine g_skip ?_
    refine n_block ?_
    refine n_then ?_
    refine g_region ?_
    refine gy rfl rfl rfl S (y_add rfl S rfl rfl (by omega)) fun a S => ?_
    refine gm S fun a S => ?_
    refine gnt ?_
    first
    | exact ⟨k + 1, S.nil.cons S 24 rfl, ((((S.nil.cons S 5 rfl).cons S 4 rfl).cons S 3 rfl).cons S 22 rfl).cons S 23 rfl, ⟨by omega, _, by rw [hau, hrd, reach2Row, Int.toNat_natCast, if_pos hb, ho], ho1.wf, by omega, H⟩, by omega⟩
    | (rw [seenB_set] at H
       exact ⟨k + 1, S.nil.cons S 24 rfl, ((((S.nil.cons S 5 rfl).cons S 4 rfl).cons S 3 rfl).cons S 22 rfl).cons S 23 rfl, ⟨by omega, { s with reached := (n : Int) :: s.reached }, by rw [hau, hrd, reach2Row, Int.toNat_natCast, if_neg hb], hwf2, hfu, H⟩, by omega⟩)
  ·have h2p := h2; try simp only [DL] at h2p
   refine g_exit ?_
   refine x_then (x_then (x_eq ?_))
   refine ret0n rfl S ?_
   rw [reach2_succ ps owner f i s0 hi0 hx0, hau, List.drop_of_length_le (by omega)]; exact ⟨rfl, H⟩
theorem reach2_spec (r : Nat) (vq vx vt vo vn ve : Value) (ps : List (Value × List Int)) (owner : List Int) (bq bw bx bt br bm c : Nat) (hvg : validG (gr ps) r = true) (hol : owner.length = r) (hown : ∀ n : Nat, atI owner n < (gr ps).length) : ∀ f, Reach2Spec f r vq vx vt vo vn ve ps owner bq bw bx bt br bm c
  | 0 => fun i s0 w0 hi hwf hf h => by have := hwf.few; omega
  | f + 1 => fun i s0 w0 hi hwf hf h => reach2_step f r vq vx vt vo vn ve ps owner bq bw bx bt br bm c hvg hol hown (reach2_spec r vq vx vt vo vn ve ps owner bq bw bx bt br bm c hvg hol hown f) i s0 w0 hi hwf hf h
end Go.Proofs.Ytnnendajegdnhaa
