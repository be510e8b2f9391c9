/- The walks. No condition. -/
import Derived.Test.YtnnendajegdnhaaChecked
import Derived.Test.YtnnendajegdnhaaGwDel
import Derived.Test.YtnnendajegdnhaaFacts
import Derived.Test.YtnnendajegdnhaaPlain
import Derived.Test.YtnnendajegdnhaaPlainTh
import Derived.Test.YtnnendajegdnhaaT4
namespace Go.Proofs.Ytnnendajegdnhaa
open Go Go.Gw
set_option linter.unusedVariables false
set_option linter.unusedSimpArgs false
theorem new_any (v1 v2 : Value) (old next : List Pl) (v3 : Value) (ts : List Ow) (w0 : World) (hv1 : IsSl w0 v1 9 Pl.enc old) (hv2 : IsSl w0 v2 9 Pl.enc next) (hv3 : IsSl w0 v3 11 Ow.enc ts) (hok : ∀ o ∈ ts, o.ok) (hl : ts.length ≤ 100000) : Ret Try.prog 9 #[v1, v2, v3] w0 (fun u w => ∃ pp, u = .tuple #[.pointer pp, .int .i64 (newE old next ts)] ∧ ((newE old next ts ≠ 0 ∧ pp = none ∧ Ext w0 w) ∨ (newE old next ts = 0 ∧ ∃ b vt, pp = some ⟨b, 0, none⟩ ∧ HSat No w0 [TwA b v1 v2 vt ts] w))) :=
  Ret.mono (new_spec v1 v2 old next v3 ts w0 hv1 hv2 hv3 hok hl) (fun u w h => by
    rcases h with ⟨h1, rfl, h2⟩ | ⟨h1, b, vt, rfl, h2⟩
    · exact ⟨none, rfl, .inl ⟨h1, rfl, h2⟩⟩
    · exact ⟨_, by rw [h1], .inr ⟨h1, b, vt, rfl, h2⟩⟩)
/-- foyer/foyerlaw42.seats -/
theorem seats_spec (v : Value) (xs : List Int) (w0 : World) (hv : IsSl w0 v 1 encI xs) (hl : xs.length ≤ 1000) :
    Ret Try.prog 26 #[v] w0 (fun u w => HSat No w0 [OSl 85 u 9 Pl.enc (seatsK xs xs.length)] w) := by
 refine ret_of_wp (nt := 22) Try.func26 rfl rfl rfl (fl := [(0, v)]) rfl (fun a S => ?_)
 have H := HSat.start w0
 have H := H.ro0 (Sl v 1 encI xs) rfl (hv)
 refine gsr ?_
 refine ga S fun a S => ?_
 refine gnt ?_
 refine gsr ?_
 refine ga S fun a S => ?_
 refine gnt ?_
 refine g_seq ?_
 refine gsr ?_
 refine ga S fun a S => ?_
 refine gnt ?_
 refine g_block ?_
 have H := H.nilO 85 9 Pl.enc
 have SU := (S.nil.cons S 0 rfl).cons S 2 rfl
 refine loopW (X := Nat × Value) SU (fun x => [(3, x.2), (4, .int .i64 (x.1 : Int))]) (fun x w => x.1 ≤ xs.length ∧ HSat No w0 [OSl 85 x.2 9 Pl.enc (seatsK xs x.1), Sl v 1 encI xs] w) (fun x => xs.length - x.1) (0, .slice none 0 0) ((S.nil.cons S 4 rfl).cons S 3 rfl) (⟨by simp, H⟩) (fun x a w S hW => ?_)
 simp only [List.cons_append, List.nil_append] at S
 clear H
 obtain ⟨k, vo⟩ := x
 obtain ⟨hk, H⟩ := hW
 dsimp only at S H hk
 refine g_seq ?_
 refine gsr ?_
 refine gm S fun a S => ?_
 refine gm S fun a S => ?_
 refine gy rfl rfl rfl S (y_lens rfl Try.underlying39 S H rfl) fun a S => ?_
 refine gy rfl rfl rfl S (y_bin rfl S rfl rfl rfl) fun a S => ?_
 refine gnt ?_
 refine c_if S rfl (fun h1 => ?_) (fun h1 => ?_)
 ·have h1p := h1; try simp only [DL] at h1p
  have hkl : k < xs.length := by omega
  have hst := seatsK_step hkl
  refine g_skip ?_
  refine n_then ?_
  have S := (((S.nil.cons S 0 rfl).cons S 2 rfl).cons S 4 rfl).cons S 3 rfl
  refine g_seq ?_
  refine g_block ?_
  refine g_region ?_
  refine gm S fun a S => ?_
  refine gm S fun a S => ?_
  refine gy rfl rfl rfl S (y_add rfl S rfl rfl (by omega)) fun a S => ?_
  refine gm S fun a S => ?_
  refine gm S fun a S => ?_
  refine gy rfl rfl rfl S (y_iaddrn rfl Try.underlying39 Fsiz3 S H rfl rfl (by first | assumption | omega | (simp only [LL]; omega))) fun a S => ?_
  refine gy rfl rfl rfl S (y_loads _ rfl Fsca3 S H rfl (by first | assumption | omega | (simp only [LL]; omega)) rfl) fun a S => ?_
  refine gy rfl rfl rfl S (y_buildf rfl Fbld85 S rfl (idx := [4, 7, 8]) rfl (cs := [.int .i64 (seatT ((k : Int) + 1) xs[k]).kind, .int .i64 (seatT ((k : Int) + 1) xs[k]).level, .int .i64 (seatT ((k : Int) + 1) xs[k]).block, .int .i64 (seatT ((k : Int) + 1) xs[k]).row, .int .i64 (seatT ((k : Int) + 1) xs[k]).seat, .int .i64 (seatT ((k : Int) + 1) xs[k]).x, .int .i64 (seatT ((k : Int) + 1) xs[k]).y, .int .i64 (seatT ((k : Int) + 1) xs[k]).view, .int .i64 (seatT ((k : Int) + 1) xs[k]).with_]) (by kernel_rfl)) fun a S => ?_
  refine wl_of (op_buildSlice (wn rfl) rfl rfl rfl Try.underlying22 Finf85 S H (idx := [0]) rfl rfl rfl (z := [.int .i64 0, .int .i64 0, .int .i64 0, .int .i64 0, .int .i64 0, .int .i64 0, .int .i64 0, .int .i64 0, .int .i64 0]) (by kernel_rfl) (cs := [.int .i64 (seatT ((k : Int) + 1) xs[k]).kind, .int .i64 (seatT ((k : Int) + 1) xs[k]).level, .int .i64 (seatT ((k : Int) + 1) xs[k]).block, .int .i64 (seatT ((k : Int) + 1) xs[k]).row, .int .i64 (seatT ((k : Int) + 1) xs[k]).seat, .int .i64 (seatT ((k : Int) + 1) xs[k]).x, .int .i64 (seatT ((k : Int) + 1) xs[k]).y, .int .i64 (seatT ((k : Int) + 1) xs[k]).view, .int .i64 (seatT ((k : Int) + 1) xs[k]).with_]) (by kernel_rfl) fun b19 a w S H => ?_)
  refine wl_of (op_append ([seatT ((k : Int) + 1) xs[k]]) (wn rfl) rfl rfl rfl Try.underlying22 Finf85 rfl rfl S H rfl rfl rfl rfl (by simp) (by simp [Pl.enc]) (by simp [Pl.enc, Value.oneCell']) (by simp only [seatsK_len, List.length_cons, List.length_nil]; omega) (by simp only [seatsK_len, List.length_cons, List.length_nil]; omega) fun u20 a w hn20 S H => ?_)
  refine ga S fun a S => ?_
  refine gl_nil ?_
  refine n_block ?_
  refine n_then ?_
  have S := (((S.nil.cons S 0 rfl).cons S 2 rfl).cons S 4 rfl).cons S 3 rfl
  refine g_region ?_
  refine gm S fun a S => ?_
  refine gy rfl rfl rfl S (y_add rfl S rfl rfl (by omega)) fun a S => ?_
  refine ga S fun a S => ?_
  refine gnt ?_
  exact ⟨(k + 1, u20), (S.nil.cons S 4 rfl).cons S 3 rfl, (S.nil.cons S 0 rfl).cons S 2 rfl, ⟨by dsimp only; omega, by dsimp only; rw [hst]; exact H.take [OSl 85 u20 9 Pl.enc (seatsK xs k ++ [seatT ((k : Int) + 1) xs[k]]), Sl v 1 encI xs]⟩, by dsimp only; omega⟩
 ·have h1p := h1; try simp only [DL] at h1p
  obtain rfl : k = xs.length := by omega
  refine g_exit ?_
  refine x_then (x_then (x_eq ?_))
  refine n_then ?_
  have S := (S.nil.cons S 2 rfl).cons S 3 rfl
  refine gsr ?_
  refine gm S fun a S => ?_
  refine ga S fun a S => ?_
  refine gnt ?_
  refine g_ret ?_
  refine ret1 rfl S rfl ?_
  exact H.take [OSl 85 vo 9 Pl.enc (seatsK xs xs.length)]
/-- foyer/foyerlaw42.few -/
theorem few42_spec (v1 v2 : Value) (old next : List Pl) (v3 : Value) (ts : List Ow) (v4 : Value) (ops : List Op) (w0 : World) (hv1 : IsSl w0 v1 9 Pl.enc old) (hv2 : IsSl w0 v2 9 Pl.enc next) (hv3 : IsSl w0 v3 11 Ow.enc ts) (hv4 : IsSl w0 v4 3 Op.enc ops) :
    Ret Try.prog 8 #[v1, v2, v3, v4] w0 (fun u w => u = .bool (fewT old next ts ops.length) ∧ Ext w0 w) := by
 refine ret_of_wp (nt := 18) Try.func8 rfl rfl rfl (fl := [(0, v1), (1, v2), (2, v3), (3, v4)]) rfl (fun a S => ?_)
 have H := HSat.start w0
 have H := H.ro0 (Sl v1 9 Pl.enc old) rfl (hv1)
 have H := H.ro0 (Sl v2 9 Pl.enc next) rfl (hv2)
 have H := H.ro0 (Sl v3 11 Ow.enc ts) rfl (hv3)
 have H := H.ro0 (Sl v4 3 Op.enc ops) rfl (hv4)
 refine gsr ?_
 refine ga S fun a S => ?_
 refine gnt ?_
 refine gsr ?_
 refine gm S fun a S => ?_
 refine gm S fun a S => ?_
 refine gm S fun a S => ?_
 refine wl_of (op_call (wn rfl) rfl rfl S (co_func rfl Try.call27 S rfl) (few_spec v1 v2 old next v3 ts 20 _ (H.sl v1) (H.sl v2) (H.sl v3)) fun v w hc a S => ?_)
 obtain ⟨rfl, he⟩ := hc
 have H := H.ext he
 refine gm S fun a S => ?_
 refine' wl_and 3 13 rfl S H rfl rfl rfl rfl rfl rfl rfl (fun _ S => (wn rfl)) (fun h1 kk => ?yh1) (fun a w S H => ?_)
 case yh1 =>
  have h1p := h1; try simp only [DL] at h1p
  refine gz 13 h1 S rfl rfl rfl rfl rfl rfl (y_move rfl S rfl) fun a S => ?_
  refine gz 13 h1 S rfl rfl rfl rfl rfl rfl (y_lens rfl Try.underlying24 S H rfl) fun a S => ?_
  refine gz 13 h1 S rfl rfl rfl rfl rfl rfl (y_bin rfl S rfl rfl rfl) fun a S => ?_
  refine gy rfl rfl rfl S (y_and' rfl h1 S rfl rfl) fun a S => ?_
  exact kk _ _ (S.join 4 17 rfl rfl) H
 refine ga S fun a S => ?_
 refine gnt ?_
 have S := S.nil.cons S 8 rfl
 refine g_ret ?_
 refine ret1 rfl S rfl ?_
 exact ⟨rfl, H.toExt⟩
set_option maxHeartbeats 4000000 in
/-- foyer/foyerlaw42.head -/
theorem head_spec (w0 : World) :
    Ret Try.prog 7 #[] w0 (fun v w => v = .bool true ∧ Ext w0 w) := by
 refine ret_of_wp (nt := 90) Try.func7 rfl rfl rfl (fl := []) rfl (fun a S => ?_)
 have H := HSat.start w0
 refine gsr ?_
 refine ga S fun a S => ?_
 refine gnt ?_
 refine gsr ?_
 refine wl_of (op_buildSlice (wn rfl) rfl rfl rfl Try.underlying39 Finf3 S H (idx := [0, 1]) rfl rfl rfl (z := [.int .i64 0, .int .i64 0]) (by kernel_rfl) (cs := [_, _]) rfl fun b8 a w S H => ?_)
 have hb8 := H.slb b8 [0, 1] encI 1 (m := 2) (c := 2) rfl rfl (fun _ _ => rfl) (by omega)
 refine wl_of (op_call (wn rfl) rfl rfl S (co_func rfl Try.call26 S rfl) (seats_spec (.slice (some ⟨b8, 0, none⟩) 2 2) [0, 1] _ hb8 (by decide)) fun u9 w hc a S => ?_)
 have H1 := hc
 have H1 : HSat No _ [OSl 85 u9 9 Pl.enc oldT] _ := H1
 have H := (H.call1 H1 rfl).giveSl
 refine wl_of (op_buildSlice (wn rfl) rfl rfl rfl Try.underlying39 Finf3 S H (idx := [0, 1]) rfl rfl rfl (z := [.int .i64 0, .int .i64 0]) (by kernel_rfl) (cs := [_, _]) rfl fun b10 a w S H => ?_)
 have hb10 := H.slb b10 [1, 2] encI 1 (m := 2) (c := 2) rfl rfl (fun _ _ => rfl) (by omega)
 refine wl_of (op_call (wn rfl) rfl rfl S (co_func rfl Try.call26 S rfl) (seats_spec (.slice (some ⟨b10, 0, none⟩) 2 2) [1, 2] _ hb10 (by decide)) fun u11 w hc a S => ?_)
 have H1 := hc
 have H1 : HSat No _ [OSl 85 u11 9 Pl.enc nextT] _ := H1
 have H := (H.call1 H1 rfl).giveSl
 refine wl_of (op_call (wn rfl) rfl rfl S (co_func rfl Try.call9 S rfl) (new_any u9 u11 oldT nextT (.slice none 0 0) [] _ (H.sl u9) (H.sl u11) (IsSl.nil _ 11 Ow.enc) (fun o ho => by cases ho) (by decide)) fun un w hc a S => ?_)
 obtain ⟨pp, rfl, hn⟩ := hc
 obtain ⟨_, b, vt, rfl, H1⟩ := hn.resolve_left (fun h => h.1 newT)
 rw [newT] at S
 have H := (H.call1 H1 rfl).pick [TwA b u9 u11 vt [], Sl u9 9 Pl.enc oldT, Sl u11 9 Pl.enc nextT]
 simp only [List.cons_append, List.nil_append] at H
 refine gm S fun a S => ?_
 refine gy rfl rfl rfl S (y_extract rfl S rfl rfl) fun a S => ?_
 refine gy rfl rfl rfl S (y_extract rfl S rfl rfl) fun a S => ?_
 refine ga S fun a S => ?_
 refine ga S fun a S => ?_
 refine gnt ?_
 have S := ((S.nil.cons S 0 rfl).cons S 1 rfl).cons S 2 rfl
 refine g_seq ?_
 refine gsr ?_
 refine gm S fun a S => ?_
 refine gy rfl rfl rfl S (y_bin rfl S rfl rfl rfl) fun a S => ?_
 refine gm S fun a S => ?_
 refine gz 17 rfl S rfl rfl rfl rfl rfl rfl (y_move rfl S rfl) fun a S => ?_
 refine gz 17 rfl S rfl rfl rfl rfl rfl rfl (y_eqp rfl Try.underlying27 S rfl rfl) fun a S => ?_
 refine gy rfl rfl rfl S (y_or' rfl rfl S rfl rfl) fun a S => ?_
 refine gnt ?_
 have S := ((S.nil.cons S 0 rfl).cons S 1 rfl).cons S 20 rfl
 refine c_if S rfl (fun h2 => ?_) (fun h2 => ?_)
 ·have h2p := h2; try simp only [DL] at h2p
  all_goals (
    simp at h2)
 ·have h2p := h2; try simp only [DL] at h2p
  refine g_skip ?_
  refine n_then ?_
  refine gsr ?_
  refine gm S fun a S => ?_
  refine wl_of (op_call (wn rfl) rfl rfl S (co_func rfl Try.call13 S rfl) (sell_ok b u9 u11 vt oldT nextT [] 0 6 0 _ H twT (by omega)) fun v w hc a S => ?_)
  obtain ⟨rfl, vt, H⟩ := hc
  rw [tT1] at H
  rw [sT1] at S
  refine gy rfl rfl rfl S (y_bin rfl S rfl rfl rfl) fun a S => ?_
  refine gm S fun a S => ?_
  refine gz 24 rfl S rfl rfl rfl rfl rfl rfl (y_move rfl S rfl) fun a S => ?_
  refine wl_of (op_call (wg' 24 rfl rfl S rfl rfl rfl) rfl rfl S (co_func rfl Try.call13 S rfl) (sell_ok b u9 u11 vt oldT nextT [] 1 7 0 _ H twT (by omega)) fun v w hc a S => ?_)
  obtain ⟨rfl, vt, H⟩ := hc
  rw [tT2] at H
  rw [sT2] at S
  refine gz 24 rfl S rfl rfl rfl rfl rfl rfl (y_bin rfl S rfl rfl rfl) fun a S => ?_
  refine gy rfl rfl rfl S (y_and' rfl rfl S rfl rfl) fun a S => ?_
  refine gm S fun a S => ?_
  refine gz 29 rfl S rfl rfl rfl rfl rfl rfl (y_move rfl S rfl) fun a S => ?_
  refine wl_of (op_call (wg' 29 rfl rfl S rfl rfl rfl) rfl rfl S (co_func rfl Try.call13 S rfl) (sell_ok b u9 u11 vt oldT nextT [newOw 7 1] 1 8 1 _ H twT2 (by omega)) fun v w hc a S => ?_)
  obtain ⟨rfl, vt, H⟩ := hc
  rw [tT3] at H
  rw [sT3] at S
  refine gz 29 rfl S rfl rfl rfl rfl rfl rfl (y_bin rfl S rfl rfl rfl) fun a S => ?_
  refine gy rfl rfl rfl S (y_and' rfl rfl S rfl rfl) fun a S => ?_
  refine gm S fun a S => ?_
  refine gz 34 rfl S rfl rfl rfl rfl rfl rfl (y_move rfl S rfl) fun a S => ?_
  refine wl_of (op_call (wg' 34 rfl rfl S rfl rfl rfl) rfl rfl S (co_func rfl Try.call13 S rfl) (sell_ok b u9 u11 vt oldT nextT [newOw 7 1] 1 7 1 _ H twT2 (by omega)) fun v w hc a S => ?_)
  obtain ⟨rfl, vt, H⟩ := hc
  rw [tT4] at H
  rw [sT4] at S
  refine gz 34 rfl S rfl rfl rfl rfl rfl rfl (y_bin rfl S rfl rfl rfl) fun a S => ?_
  refine gy rfl rfl rfl S (y_and' rfl rfl S rfl rfl) fun a S => ?_
  refine gm S fun a S => ?_
  refine gz 39 rfl S rfl rfl rfl rfl rfl rfl (y_move rfl S rfl) fun a S => ?_
  refine wl_of (op_call (wg' 39 rfl rfl S rfl rfl rfl) rfl rfl S (co_func rfl Try.call13 S rfl) (sell_ok b u9 u11 vt oldT nextT [newOw 7 1] 2 9 1 _ H twT2 (by omega)) fun v w hc a S => ?_)
  obtain ⟨rfl, vt, H⟩ := hc
  rw [tT5] at H
  rw [sT5] at S
  refine gz 39 rfl S rfl rfl rfl rfl rfl rfl (y_bin rfl S rfl rfl rfl) fun a S => ?_
  refine gy rfl rfl rfl S (y_and' rfl rfl S rfl rfl) fun a S => ?_
  refine gm S fun a S => ?_
  refine gz 44 rfl S rfl rfl rfl rfl rfl rfl (y_move rfl S rfl) fun a S => ?_
  refine wl_of (op_call (wg' 44 rfl rfl S rfl rfl rfl) rfl rfl S (co_func rfl Try.call11 S rfl) (drop_ok b u9 u11 vt oldT nextT [newOw 7 1] 6 _ H twT2.ok (by decide)) fun v w hc a S => ?_)
  obtain ⟨rfl, vt, H⟩ := hc
  rw [tT6] at H
  rw [sT6] at S
  refine gz 44 rfl S rfl rfl rfl rfl rfl rfl (y_bin rfl S rfl rfl rfl) fun a S => ?_
  refine gy rfl rfl rfl S (y_and' rfl rfl S rfl rfl) fun a S => ?_
  refine ga S fun a S => ?_
  refine gnt ?_
  have S := ((S.nil.cons S 0 rfl).cons S 1 rfl).cons S 3 rfl
  refine gsr ?_
  refine gm S fun a S => ?_
  refine wl_of (op_call (wn rfl) rfl rfl S (co_func rfl Try.call17 S rfl) (finish_ok b u9 u11 vt oldT nextT [newOw 7 1] true _ H twT2.err twT2.ok (by decide)) fun v w hc a S => ?_)
  obtain ⟨vo, ms, rfl, hms, H⟩ := hc
  obtain ⟨y, hy, hy1, hy2⟩ := finTT hms
  rw [hy] at H
  refine gm S fun a S => ?_
  refine gy rfl rfl rfl S (y_extract rfl S rfl rfl) fun a S => ?_
  refine gy rfl rfl rfl S (y_extract rfl S rfl rfl) fun a S => ?_
  refine ga S fun a S => ?_
  refine ga S fun a S => ?_
  refine gnt ?_
  have S := ((((S.nil.cons S 0 rfl).cons S 1 rfl).cons S 3 rfl).cons S 4 rfl).cons S 5 rfl
  refine gsr ?_
  refine ga S fun a S => ?_
  refine gnt ?_
  refine gsr ?_
  refine gm S fun a S => ?_
  refine gm S fun a S => ?_
  refine gz 55 rfl S rfl rfl rfl rfl rfl rfl (y_move rfl S rfl) fun a S => ?_
  refine gz 55 rfl S rfl rfl rfl rfl rfl rfl (y_bin rfl S rfl rfl rfl) fun a S => ?_
  refine gy rfl rfl rfl S (y_and' rfl rfl S rfl rfl) fun a S => ?_
  refine gm S fun a S => ?_
  refine gz 59 rfl S rfl rfl rfl rfl rfl rfl (y_move rfl S rfl) fun a S => ?_
  refine gz 59 rfl S rfl rfl rfl rfl rfl rfl (y_lens rfl Try.underlying23 S H rfl) fun a S => ?_
  refine gz 59 rfl S rfl rfl rfl rfl rfl rfl (y_bin rfl S rfl rfl rfl) fun a S => ?_
  refine gy rfl rfl rfl S (y_and' rfl rfl S rfl rfl) fun a S => ?_
  refine gm S fun a S => ?_
  refine gz 64 rfl S rfl rfl rfl rfl rfl rfl (y_move rfl S rfl) fun a S => ?_
  refine gz 64 rfl S rfl rfl rfl rfl rfl rfl (y_iaddrs rfl Try.underlying23 Fsiz66 S H rfl rfl (by first | decide | (simp; done) | omega)) fun a S => ?_
  refine gz 64 rfl S rfl rfl rfl rfl rfl rfl (y_faddr rfl Ffo66_0 S rfl) fun a S => ?_
  refine gz 64 rfl S rfl rfl rfl rfl rfl rfl (y_faddr rfl Ffo60_0 S rfl) fun a S => ?_
  refine gz 64 rfl S rfl rfl rfl rfl rfl rfl (y_loadsff _ rfl Fsca3 S H rfl (by simp) rfl) fun a S => ?_
  refine gz 64 rfl S rfl rfl rfl rfl rfl rfl (y_bin rfl S rfl rfl rfl) fun a S => ?_
  refine gy rfl rfl rfl S (y_and' rfl rfl S rfl rfl) fun a S => ?_
  refine gm S fun a S => ?_
  refine wl_of (op_y (wg' 72 rfl rfl S rfl (show (true && y.serial == 7) = true by rw [hy1]; rfl) rfl) rfl rfl S (y_move rfl S rfl) fun a S => ?_)
  refine wl_of (op_y (wg' 72 rfl rfl S rfl (show (true && y.serial == 7) = true by rw [hy1]; rfl) rfl) rfl rfl S (y_iaddrs rfl Try.underlying23 Fsiz66 S H rfl rfl (by first | decide | (simp; done) | omega)) fun a S => ?_)
  refine wl_of (op_y (wg' 72 rfl rfl S rfl (show (true && y.serial == 7) = true by rw [hy1]; rfl) rfl) rfl rfl S (y_faddr rfl Ffo66_0 S rfl) fun a S => ?_)
  refine wl_of (op_y (wg' 72 rfl rfl S rfl (show (true && y.serial == 7) = true by rw [hy1]; rfl) rfl) rfl rfl S (y_faddr rfl Ffo60_2 S rfl) fun a S => ?_)
  refine wl_of (op_y (wg' 72 rfl rfl S rfl (show (true && y.serial == 7) = true by rw [hy1]; rfl) rfl) rfl rfl S (y_loadsff _ rfl Fsca3 S H rfl (by simp) rfl) fun a S => ?_)
  refine wl_of (op_y (wg' 72 rfl rfl S rfl (show (true && y.serial == 7) = true by rw [hy1]; rfl) rfl) rfl rfl S (y_bin rfl S rfl rfl rfl) fun a S => ?_)
  refine gy rfl rfl rfl S (y_and' rfl (show (true && y.serial == 7) = true by rw [hy1]; rfl) S rfl rfl) fun a S => ?_
  refine gm S fun a S => ?_
  refine wl_of (op_y (wg' 80 rfl rfl S rfl (show (true && y.serial == 7 && y.place == 0) = true by rw [hy1, hy2]; rfl) rfl) rfl rfl S (y_move rfl S rfl) fun a S => ?_)
  refine wl_of (op_call (wg' 80 rfl rfl S rfl (show (true && y.serial == 7 && y.place == 0) = true by rw [hy1, hy2]; rfl) rfl) rfl rfl S (co_func rfl Try.call13 S rfl) (sell_no (some ⟨b, 0, none⟩) 0 9 27 (by decide) _ (fun w2 hx => ready_closed b u9 u11 vt w2 ((H.ext hx).rd b))) fun v w hc a S => ?_)
  obtain ⟨rfl, he⟩ := hc
  have H := H.ext he
  refine wl_of (op_y (wg' 80 rfl rfl S rfl (show (true && y.serial == 7 && y.place == 0) = true by rw [hy1, hy2]; rfl) rfl) rfl rfl S (y_bin rfl S rfl rfl rfl) fun a S => ?_)
  refine gy rfl rfl rfl S (y_and' rfl (show (true && y.serial == 7 && y.place == 0) = true by rw [hy1, hy2]; rfl) S rfl rfl) fun a S => ?_
  refine gm S fun a S => ?_
  refine wl_of (op_y (wg' 85 rfl rfl S rfl (show (true && y.serial == 7 && y.place == 0 && ((27 : Int) == 27)) = true by rw [hy1, hy2]; rfl) rfl) rfl rfl S (y_move rfl S rfl) fun a S => ?_)
  refine wl_of (op_call (wg' 85 rfl rfl S rfl (show (true && y.serial == 7 && y.place == 0 && ((27 : Int) == 27)) = true by rw [hy1, hy2]; rfl) rfl) rfl rfl S (co_func rfl Try.call11 S rfl) (drop_no none 1 1 (by decide) _ (fun w2 hx => ready_nil w2)) fun v w hc a S => ?_)
  obtain ⟨rfl, he⟩ := hc
  have H := H.ext he
  refine wl_of (op_y (wg' 85 rfl rfl S rfl (show (true && y.serial == 7 && y.place == 0 && ((27 : Int) == 27)) = true by rw [hy1, hy2]; rfl) rfl) rfl rfl S (y_bin rfl S rfl rfl rfl) fun a S => ?_)
  refine gy rfl rfl rfl S (y_and' rfl (show (true && y.serial == 7 && y.place == 0 && ((27 : Int) == 27)) = true by rw [hy1, hy2]; rfl) S rfl rfl) fun a S => ?_
  refine ga S fun a S => ?_
  refine gnt ?_
  have S := S.nil.cons S 0 rfl
  refine g_ret ?_
  refine ret1 rfl S rfl ?_
  refine ⟨congrArg Value.bool ?_, H.toExt⟩
  show (true && y.serial == 7 && y.place == 0 && ((27 : Int) == 27) && ((1 : Int) == 1)) = true
  rw [hy1, hy2]; rfl
end Go.Proofs.Ytnnendajegdnhaa
