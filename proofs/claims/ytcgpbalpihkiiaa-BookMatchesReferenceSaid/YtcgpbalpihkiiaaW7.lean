/- The walks. No condition. -/
import Derived.Test.YtcgpbalpihkiiaaChecked
import Derived.Test.YtcgpbalpihkiiaaGwIns
import Derived.Test.YtcgpbalpihkiiaaFacts
import Derived.Test.YtcgpbalpihkiiaaPlain
import Derived.Test.YtcgpbalpihkiiaaW6
namespace Go.Proofs.Ytcgpbalpihkiiaa
open Go Go.Gw
set_option linter.unusedVariables false
set_option linter.unusedSimpArgs false
set_option maxHeartbeats 4000000 in
/-- (*foyer/foyerref33.Book).Place -/
theorem rplace_spec {M : Nat → Prop} {u0 : World} {l : List Atom} (b : Nat) (vo vi : Value) (r : RB) (o : Ord) (w0 : World) (h0 : HSat M u0 (RBL b vo vi r ++ l) w0) (ho : o.ok) (hlo : r.opn.length ≤ 2000) (hli : r.ids.length ≤ 2000) :
    Ret Try.prog 14 #[.pointer (some ⟨b, 0, none⟩), .agg (Ord.enc o).toArray] w0 (fun u w => u = .tuple #[.agg (Trd.enc (rplaceR r o).1).toArray, .bool (rplaceR r o).2.1, .int .i64 (rplaceR r o).2.2] ∧ ∃ vo' vi', HSat M u0 (RBL b vo' vi' (rplaceS r o) ++ l) w) := by
 refine ret_of_wp (nt := 202) Try.func14 rfl rfl rfl (fl := [(0, .pointer (some ⟨b, 0, none⟩)), (1, .agg (Ord.enc o).toArray)]) rfl (fun a S => ?_)
 have H := h0
 simp only [RBL, List.cons_append, List.nil_append] at H
 refine gsr ?_
 refine wl_of (op_boxa (wn rfl) rfl rfl rfl S H rfl fun b3 a w S H => ?_)
 refine wl_of (op_alloc (wn rfl) rfl rfl rfl S H Fzer35 fun b4 a w S H => ?_)
 refine ga S fun a S => ?_
 refine ga S fun a S => ?_
 refine gnt ?_
 refine g_seq ?_
 refine gsr ?_
 refine gm S fun a S => ?_
 refine gy rfl rfl rfl S (y_eqp rfl Try.underlying26 S rfl rfl) fun a S => ?_
 refine gm S fun a S => ?_
 refine gz 15 rfl S rfl rfl rfl rfl rfl rfl (y_load0 rfl S H rfl (by exact Fagg29)) fun a S => ?_
 refine wl_of (op_call (wg' 15 rfl rfl S rfl rfl rfl) rfl rfl S (co_func rfl Try.call21 S rfl) (rvalid_spec o _ ho) fun v w hc a S => ?_)
 obtain ⟨rfl, he⟩ := hc
 have H := H.ext he
 refine gz 15 rfl S rfl rfl rfl rfl rfl rfl (y_not rfl S rfl) fun a S => ?_
 refine gy rfl rfl rfl S (y_or' rfl rfl S rfl rfl) fun a S => ?_
 refine gnt ?_
 have S := (((((S.nil.cons S 0 rfl).cons S 3 rfl).cons S 4 rfl).cons S 5 rfl).cons S 6 rfl).cons S 19 rfl
 refine c_if S rfl (fun h2 => ?_) (fun h2 => ?_)
 ·have h2p := h2; try simp only [DL] at h2p
  have hbad : validB o = false := by simpa using h2
  refine gsr ?_
  refine gy rfl rfl rfl S (y_buildf rfl Fbld35 S rfl (idx := []) rfl (cs := [_, _, _]) rfl) fun a S => ?_
  refine wl_of (op_storea (wn rfl) rfl rfl S H rfl rfl rfl Fsiz35 rfl (cs' := [_, _, _]) rfl fun a w S H => ?_)
  refine ga S fun a S => ?_
  refine ga S fun a S => ?_
  refine gnt ?_
  have S := ((((S.nil.cons S 0 rfl).cons S 3 rfl).cons S 4 rfl).cons S 5 rfl).cons S 6 rfl
  refine g_ret ?_
  refine r_then (ret3ctt rfl S H rfl rfl rfl (by exact Fagg35) ?_)
  have hp2 := rpl_bad (r := r) hbad
  rw [hp2.1, hp2.2]
  exact ⟨rfl, vo, vi, H.takeT [Cel b 54 [vo, vi], OSl 29 vo 5 Ord.enc (r.opn), OSl 3 vi 1 encI (r.ids)] l⟩
 ·have h2p := h2; try simp only [DL] at h2p
  have hva : validB o = true := by simpa using h2
  refine g_skip ?_
  refine n_then ?_
  refine g_seq ?_
  refine gsr ?_
  refine ga S fun a S => ?_
  refine gnt ?_
  refine g_block ?_
  have SU := ((S.nil.cons S 0 rfl).cons S 3 rfl).cons S 4 rfl
  refine loopW (X := Nat) SU (fun k => [(7, .int .i64 (k : Int))]) (fun k w => k ≤ r.ids.length ∧ (∀ q (hq : q < r.ids.length), q < k → r.ids[q] ≠ o.id) ∧ HSat M u0 (Cel b4 35 [.int .i64 0, .int .i64 0, .int .i64 0] :: Cel b3 29 (Ord.enc o) :: Cel b 54 [vo, vi] :: OSl 29 vo 5 Ord.enc (r.opn) :: OSl 3 vi 1 encI (r.ids) :: l) w) (fun k => r.ids.length - k) 0 (S.nil.cons S 7 rfl) (⟨Nat.zero_le _, fun q hq h => by omega, H⟩) (fun k a w S hW => ?_)
  simp only [List.cons_append, List.nil_append] at S
  obtain ⟨hk, hni, H⟩ := hW
  refine g_seq ?_
  refine gsr ?_
  refine gm S fun a S => ?_
  refine gm S fun a S => ?_
  refine gy rfl rfl rfl S (y_nilCheck rfl S rfl) fun a S => ?_
  refine gy rfl rfl rfl S (y_faddrb rfl Ffo54_1 S rfl) fun a S => ?_
  refine gy rfl rfl rfl S (y_load rfl Fsca52 S H rfl rfl) fun a S => ?_
  refine gy rfl rfl rfl S (y_lens rfl Try.underlying52 S H rfl) fun a S => ?_
  refine gy rfl rfl rfl S (y_bin rfl S rfl rfl rfl) fun a S => ?_
  refine gnt ?_
  have S := ((((S.nil.cons S 0 rfl).cons S 3 rfl).cons S 4 rfl).cons S 7 rfl).cons S 27 rfl
  refine c_if S rfl (fun h3 => ?_) (fun h3 => ?_)
  ·have h3p := h3; try simp only [DL] at h3p
   have hkl : k < r.ids.length := by omega
   refine g_skip ?_
   refine n_then ?_
   refine g_seq ?_
   refine g_block ?_
   refine g_seq ?_
   refine region_st (loud := []) (tails := []) (free := []) [0, 1, 2, 3, 4, 5, 6, 7, 8, 9] [] Fmo (by kernel_rfl) (by kernel_rfl) rfl H ?_
   refine m_w rfl rfl (wn rfl) rfl rfl S (fun w H => y_move rfl S rfl) fun a S => ?_
   refine m_w rfl rfl (wn rfl) rfl rfl S (fun w H => y_nilCheck rfl S rfl) fun a S => ?_
   refine m_w rfl rfl (wn rfl) rfl rfl S (fun w H => y_faddrb rfl Ffo54_1 S rfl) fun a S => ?_
   refine m_w rfl rfl (wn rfl) rfl rfl S (fun w H => y_load rfl Fsca52 S H rfl rfl) fun a S => ?_
   refine m_w rfl rfl (wn rfl) rfl rfl S (fun w H => y_move rfl S rfl) fun a S => ?_
   refine m_w rfl rfl (wn rfl) rfl rfl S (fun w H => y_iaddrn rfl Try.underlying52 Fsiz3 S H rfl rfl (by first | assumption | omega | (simp only [LL]; omega))) fun a S => ?_
   refine m_loads _ rfl rfl (wn rfl) rfl rfl S rfl Fsca3 rfl (by first | assumption | omega | (simp only [LL]; omega)) rfl fun a S => ?_
   refine m_w rfl rfl (wn rfl) rfl rfl S (fun w H => y_faddrb rfl Ffo29_0 S rfl) fun a S => ?_
   refine m_w rfl rfl (wn rfl) rfl rfl S (fun w H => y_load rfl Fsca3 S H rfl rfl) fun a S => ?_
   refine m_w rfl rfl (wn rfl) rfl rfl S (fun w H => y_bin rfl S rfl rfl rfl) fun a S => ?_
   refine m_nil (fun w H => ?_)
   refine n_then ?_
   have S := ((((S.nil.cons S 0 rfl).cons S 3 rfl).cons S 4 rfl).cons S 7 rfl).cons S 39 rfl
   refine c_if S rfl (fun h4 => ?_) (fun h4 => ?_)
   ·have h4p := h4; try simp only [DL] at h4p
    have htw := rtw_ids hkl (by simpa using h4)
    refine gsr ?_
    refine gy rfl rfl rfl S (y_buildf rfl Fbld35 S rfl (idx := []) rfl (cs := [_, _, _]) rfl) fun a S => ?_
    refine wl_of (op_storea (wn rfl) rfl rfl S H rfl rfl rfl Fsiz35 rfl (cs' := [_, _, _]) rfl fun a w S H => ?_)
    refine ga S fun a S => ?_
    refine ga S fun a S => ?_
    refine gnt ?_
    refine g_ret ?_
    refine r_block (r_then (r_then (r_block (r_then (ret3ctt rfl S H rfl rfl rfl (by exact Fagg35) ?_)))))
    have hp2 := rpl_twice hva htw
    rw [hp2.1, hp2.2]
    exact ⟨rfl, vo, vi, H.takeT [Cel b 54 [vo, vi], OSl 29 vo 5 Ord.enc (r.opn), OSl 3 vi 1 encI (r.ids)] l⟩
   ·have h4p := h4; try simp only [DL] at h4p
    have hne : r.ids[k] ≠ o.id := by simpa using h4
    refine g_skip ?_
    refine n_block ?_
    refine n_then ?_
    refine g_region ?_
    refine gm S fun a S => ?_
    refine gy rfl rfl rfl S (y_add rfl S rfl rfl (by omega)) fun a S => ?_
    refine ga S fun a S => ?_
    refine gnt ?_
    exact ⟨k + 1, S.nil.cons S 7 rfl, ((S.nil.cons S 0 rfl).cons S 3 rfl).cons S 4 rfl, ⟨by omega, fun q hq h => by by_cases e : q < k; exact hni q hq e; (obtain rfl : q = k := by omega); exact hne, H⟩, by omega⟩
  ·have h3p := h3; try simp only [DL] at h3p
   obtain rfl : k = r.ids.length := by omega
   refine g_exit ?_
   refine x_then (x_then (x_eq ?_))
   refine n_then ?_
   refine g_seq ?_
   refine gsr ?_
   refine ga S fun a S => ?_
   refine gnt ?_
   refine g_block ?_
   have SU := ((S.nil.cons S 0 rfl).cons S 3 rfl).cons S 4 rfl
   refine loopW (X := Nat) SU (fun k => [(8, .int .i64 (k : Int))]) (fun k w => k ≤ r.opn.length ∧ (∀ q (hq : q < r.opn.length), q < k → serR o r.opn[q] = false) ∧ HSat M u0 (Cel b4 35 [.int .i64 0, .int .i64 0, .int .i64 0] :: Cel b3 29 (Ord.enc o) :: Cel b 54 [vo, vi] :: OSl 29 vo 5 Ord.enc (r.opn) :: OSl 3 vi 1 encI (r.ids) :: l) w) (fun k => r.opn.length - k) 0 (S.nil.cons S 8 rfl) (⟨Nat.zero_le _, fun q hq h => by omega, H⟩) (fun k a w S hW => ?_)
   simp only [List.cons_append, List.nil_append] at S
   obtain ⟨hk, hns, H⟩ := hW
   refine g_seq ?_
   refine gsr ?_
   refine gm S fun a S => ?_
   refine gm S fun a S => ?_
   refine gy rfl rfl rfl S (y_nilCheck rfl S rfl) fun a S => ?_
   refine gy rfl rfl rfl S (y_faddrb rfl Ffo54_0 S rfl) fun a S => ?_
   refine gy rfl rfl rfl S (y_load rfl Fsca39 S H rfl rfl) fun a S => ?_
   refine gy rfl rfl rfl S (y_lens rfl Try.underlying39 S H rfl) fun a S => ?_
   refine gy rfl rfl rfl S (y_bin rfl S rfl rfl rfl) fun a S => ?_
   refine gnt ?_
   have S := ((((S.nil.cons S 0 rfl).cons S 3 rfl).cons S 4 rfl).cons S 8 rfl).cons S 47 rfl
   refine c_if S rfl (fun h5 => ?_) (fun h5 => ?_)
   ·have h5p := h5; try simp only [DL] at h5p
    have hkl : k < r.opn.length := by omega
    refine g_skip ?_
    refine n_then ?_
    refine g_seq ?_
    refine g_block ?_
    refine g_seq ?_
    refine region_st (loud := []) (tails := []) (free := []) [0, 1, 2, 3, 4, 5, 6, 7, 8, 9, 10, 11, 12, 13, 14, 15, 16, 17, 18, 19, 20, 21, 22, 23, 24] [] Fmo (by kernel_rfl) (by kernel_rfl) rfl H ?_
    refine m_w rfl rfl (wn rfl) rfl rfl S (fun w H => y_faddrb rfl Ffo29_2 S rfl) fun a S => ?_
    refine m_w rfl rfl (wn rfl) rfl rfl S (fun w H => y_load rfl Fsca4 S H rfl rfl) fun a S => ?_
    refine m_w rfl rfl (wn rfl) rfl rfl S (fun w H => y_move rfl S rfl) fun a S => ?_
    refine' m_andq [3, 4, 5, 6, 7, 8, 9, 10] 52 S rfl rfl rfl rfl rfl rfl rfl rfl rfl (fun _ S => (wn rfl)) (fun h6 kk => ?yh6) (fun a S => ?_)
    case yh6 =>
     have h6p := h6; try simp only [DL] at h6p
     refine m_w rfl rfl (wg' 52 rfl rfl S rfl h6 rfl) rfl rfl S (fun w H => y_move rfl S rfl) fun a S => ?_
     refine m_w rfl rfl (wg' 52 rfl rfl S rfl h6 rfl) rfl rfl S (fun w H => y_nilCheck rfl S rfl) fun a S => ?_
     refine m_w rfl rfl (wg' 52 rfl rfl S rfl h6 rfl) rfl rfl S (fun w H => y_faddrb rfl Ffo54_0 S rfl) fun a S => ?_
     refine m_w rfl rfl (wg' 52 rfl rfl S rfl h6 rfl) rfl rfl S (fun w H => y_load rfl Fsca39 S H rfl rfl) fun a S => ?_
     refine m_w rfl rfl (wg' 52 rfl rfl S rfl h6 rfl) rfl rfl S (fun w H => y_move rfl S rfl) fun a S => ?_
     refine m_w rfl rfl (wg' 52 rfl rfl S rfl h6 rfl) rfl rfl S (fun w H => y_iaddrn rfl Try.underlying39 Fsiz29 S H rfl rfl (by first | assumption | omega | (simp only [LL]; omega))) fun a S => ?_
     refine m_w rfl rfl (wg' 52 rfl rfl S rfl h6 rfl) rfl rfl S (fun w H => y_faddr rfl Ffo29_2 S rfl) fun a S => ?_
     refine m_loadsf _ rfl rfl (wg' 52 rfl rfl S rfl h6 rfl) rfl rfl S rfl Fsca4 rfl (by first | assumption | omega | (simp only [LL]; omega)) rfl fun a S => ?_
     refine m_w rfl rfl (wn rfl) rfl rfl S (fun w H => y_and' rfl h6 S rfl rfl) fun a S => ?_
     exact kk _ (S.join 9 61 rfl rfl)
    refine m_w rfl rfl (wn rfl) rfl rfl S (fun w H => y_move rfl S rfl) fun a S => ?_
    refine' m_andq [13, 14, 15, 16, 17, 18, 19, 20, 21, 22, 23] 62 S rfl rfl rfl rfl rfl rfl rfl rfl rfl (fun _ S => (wn rfl)) (fun h7 kk => ?yh7) (fun a S => ?_)
    case yh7 =>
     have h7p := h7; try simp only [DL] at h7p
     refine m_w rfl rfl (wg' 62 rfl rfl S rfl h7 rfl) rfl rfl S (fun w H => y_move rfl S rfl) fun a S => ?_
     refine m_w rfl rfl (wg' 62 rfl rfl S rfl h7 rfl) rfl rfl S (fun w H => y_nilCheck rfl S rfl) fun a S => ?_
     refine m_w rfl rfl (wg' 62 rfl rfl S rfl h7 rfl) rfl rfl S (fun w H => y_faddrb rfl Ffo54_0 S rfl) fun a S => ?_
     refine m_w rfl rfl (wg' 62 rfl rfl S rfl h7 rfl) rfl rfl S (fun w H => y_load rfl Fsca39 S H rfl rfl) fun a S => ?_
     refine m_w rfl rfl (wg' 62 rfl rfl S rfl h7 rfl) rfl rfl S (fun w H => y_move rfl S rfl) fun a S => ?_
     refine m_w rfl rfl (wg' 62 rfl rfl S rfl h7 rfl) rfl rfl S (fun w H => y_iaddrn rfl Try.underlying39 Fsiz29 S H rfl rfl (by first | assumption | omega | (simp only [LL]; omega))) fun a S => ?_
     refine m_w rfl rfl (wg' 62 rfl rfl S rfl h7 rfl) rfl rfl S (fun w H => y_faddr rfl Ffo29_4 S rfl) fun a S => ?_
     refine m_loadsf _ rfl rfl (wg' 62 rfl rfl S rfl h7 rfl) rfl rfl S rfl Fsca3 rfl (by first | assumption | omega | (simp only [LL]; omega)) rfl fun a S => ?_
     refine m_w rfl rfl (wg' 62 rfl rfl S rfl h7 rfl) rfl rfl S (fun w H => y_faddrb rfl Ffo29_4 S rfl) fun a S => ?_
     refine m_w rfl rfl (wg' 62 rfl rfl S rfl h7 rfl) rfl rfl S (fun w H => y_load rfl Fsca3 S H rfl rfl) fun a S => ?_
     refine m_w rfl rfl (wg' 62 rfl rfl S rfl h7 rfl) rfl rfl S (fun w H => y_bin rfl S rfl rfl rfl) fun a S => ?_
     refine m_w rfl rfl (wn rfl) rfl rfl S (fun w H => y_and' rfl h7 S rfl rfl) fun a S => ?_
     exact kk _ (S.join 12 74 rfl rfl)
    refine m_nil (fun w H => ?_)
    refine n_then ?_
    have S := ((((S.nil.cons S 0 rfl).cons S 3 rfl).cons S 4 rfl).cons S 8 rfl).cons S 74 rfl
    refine c_if S rfl (fun h8 => ?_) (fun h8 => ?_)
    ·have h8p := h8; try simp only [DL] at h8p
     have htw := rtw_ser hkl (by simpa [serR] using h8)
     refine gsr ?_
     refine gy rfl rfl rfl S (y_buildf rfl Fbld35 S rfl (idx := []) rfl (cs := [_, _, _]) rfl) fun a S => ?_
     refine wl_of (op_storea (wn rfl) rfl rfl S H rfl rfl rfl Fsiz35 rfl (cs' := [_, _, _]) rfl fun a w S H => ?_)
     refine ga S fun a S => ?_
     refine ga S fun a S => ?_
     refine gnt ?_
     refine g_ret ?_
     refine r_block (r_then (r_then (r_block (r_then (ret3ctt rfl S H rfl rfl rfl (by exact Fagg35) ?_)))))
     have hp2 := rpl_twice hva htw
     rw [hp2.1, hp2.2]
     exact ⟨rfl, vo, vi, H.takeT [Cel b 54 [vo, vi], OSl 29 vo 5 Ord.enc (r.opn), OSl 3 vi 1 encI (r.ids)] l⟩
    ·have h8p := h8; try simp only [DL] at h8p
     have hne : serR o r.opn[k] = false := by simpa [serR] using h8
     refine g_skip ?_
     refine n_block ?_
     refine n_then ?_
     refine g_region ?_
     refine gm S fun a S => ?_
     refine gy rfl rfl rfl S (y_add rfl S rfl rfl (by omega)) fun a S => ?_
     refine ga S fun a S => ?_
     refine gnt ?_
     exact ⟨k + 1, S.nil.cons S 8 rfl, ((S.nil.cons S 0 rfl).cons S 3 rfl).cons S 4 rfl, ⟨by omega, fun q hq h => by by_cases e : q < k; exact hns q hq e; (obtain rfl : q = k := by omega); exact hne, H⟩, by omega⟩
   ·have h5p := h5; try simp only [DL] at h5p
    obtain rfl : k = r.opn.length := by omega
    have htw := rtw_no (fun q hq => hni q hq hq) (fun q hq => hns q hq hq)
    refine g_exit ?_
    refine x_then (x_then (x_eq ?_))
    refine n_then ?_
    refine g_seq ?_
    refine gsr ?_
    refine ga S fun a S => ?_
    refine gnt ?_
    refine g_block ?_
    have SU := ((S.nil.cons S 0 rfl).cons S 3 rfl).cons S 4 rfl
    refine loopW (X := Nat) SU (fun k => [(9, .int .i64 (k : Int))]) (fun k w => k ≤ r.opn.length ∧ (∀ q (hq : q < r.opn.length), q < k → matchB r.opn[q] o = false) ∧ HSat M u0 (Cel b4 35 [.int .i64 0, .int .i64 0, .int .i64 0] :: Cel b3 29 (Ord.enc o) :: Cel b 54 [vo, vi] :: OSl 29 vo 5 Ord.enc (r.opn) :: OSl 3 vi 1 encI (r.ids) :: l) w) (fun k => r.opn.length - k) 0 (S.nil.cons S 9 rfl) (⟨Nat.zero_le _, fun q hq h => by omega, H⟩) (fun k a w S hW => ?_)
    simp only [List.cons_append, List.nil_append] at S
    obtain ⟨hk, hnm, H⟩ := hW
    refine g_seq ?_
    refine gsr ?_
    refine gm S fun a S => ?_
    refine gm S fun a S => ?_
    refine gy rfl rfl rfl S (y_nilCheck rfl S rfl) fun a S => ?_
    refine gy rfl rfl rfl S (y_faddrb rfl Ffo54_0 S rfl) fun a S => ?_
    refine gy rfl rfl rfl S (y_load rfl Fsca39 S H rfl rfl) fun a S => ?_
    refine gy rfl rfl rfl S (y_lens rfl Try.underlying39 S H rfl) fun a S => ?_
    refine gy rfl rfl rfl S (y_bin rfl S rfl rfl rfl) fun a S => ?_
    refine gnt ?_
    have S := ((((S.nil.cons S 0 rfl).cons S 3 rfl).cons S 4 rfl).cons S 9 rfl).cons S 82 rfl
    refine c_if S rfl (fun h9 => ?_) (fun h9 => ?_)
    ·have h9p := h9; try simp only [DL] at h9p
     have hkl : k < r.opn.length := by omega
     refine g_skip ?_
     refine n_then ?_
     refine g_seq ?_
     refine g_block ?_
     refine gsr ?_
     refine gm S fun a S => ?_
     refine gy rfl rfl rfl S (y_nilCheck rfl S rfl) fun a S => ?_
     refine gy rfl rfl rfl S (y_faddrb rfl Ffo54_0 S rfl) fun a S => ?_
     refine gy rfl rfl rfl S (y_load rfl Fsca39 S H rfl rfl) fun a S => ?_
     refine gm S fun a S => ?_
     refine gy rfl rfl rfl S (y_iaddrn rfl Try.underlying39 Fsiz29 S H rfl rfl (by first | assumption | omega | (simp only [LL]; omega))) fun a S => ?_
     refine gy rfl rfl rfl S (y_loadsa _ rfl S H rfl (by exact Fagg29) (by first | assumption | omega | (simp only [LL]; omega))) fun a S => ?_
     obtain ⟨x, hxk⟩ : ∃ x, x = r.opn[k] := ⟨_, rfl⟩
     rw [← hxk] at S
     refine wl_of (op_alloc (wn rfl) rfl rfl rfl S H Fzer29 fun b10 a w S H => ?_)
     refine wl_of (op_storea (wn rfl) rfl rfl S H rfl rfl rfl Fsiz29 rfl (cs' := [_, _, _, _, _]) rfl fun a w S H => ?_)
     refine gnt ?_
     have S := ((((S.nil.cons S 0 rfl).cons S 3 rfl).cons S 4 rfl).cons S 9 rfl).cons S 10 rfl
     refine gsr ?_
     refine gy rfl rfl rfl S (y_load0 rfl S H rfl (by exact Fagg29)) fun a S => ?_
     refine gy rfl rfl rfl S (y_load0 rfl S H rfl (by exact Fagg29)) fun a S => ?_
     refine wl_of (op_call (wn rfl) rfl rfl S (co_func rfl Try.call19 S rfl) (match_spec _ _ _) fun v w hc a S => ?_)
     obtain ⟨rfl, he⟩ := hc
     have H := H.ext he
     refine gnt ?_
     refine c_if S rfl (fun h10 => ?_) (fun h10 => ?_)
     ·have h10p := h10; try simp only [DL] at h10p
      have hmk : matchB r.opn[k] o = true := by rw [← hxk]; exact h10
      have hp2 := rpl_trade hva htw hkl hmk hnm
      rw [← hxk] at hp2
      refine g_seq ?_
      refine cut (fun a w => ∃ vo2, St 202 [(0, .pointer (some ⟨b, 0, none⟩)), (3, .pointer (some ⟨b3, 0, none⟩)), (4, .pointer (some ⟨b4, 0, none⟩)), (10, .pointer (some ⟨b10, 0, none⟩))] a ∧ HSat M u0 (Cel b10 29 [.int .i64 x.id, .int .i64 x.price, .bool x.sell, .string x.person, .int .i64 x.serial] :: Cel b4 35 [.int .i64 0, .int .i64 0, .int .i64 0] :: Cel b3 29 (Ord.enc o) :: [Cel b 54 [vo2, vi], OSl 29 vo2 5 Ord.enc (r.opn.eraseIdx k), OSl 3 vi 1 encI (r.ids)] ++ l) w) ?_ ?_
      ·skip
       refine t_st (tails := [8, 16, 19]) [] Fmo H ?_
       refine t_p 0 rfl (by kernel_rfl) (rem' := [1, 2, 3, 4, 5, 6, 7, 8, 9, 10, 11, 12, 13, 14, 15, 16, 17, 18, 19]) rfl rfl rfl rfl S (fun w => y_move rfl S rfl) fun a S => ?_
       refine t_q 2 rfl (by kernel_rfl) (rem' := [1, 3, 4, 5, 6, 7, 8, 9, 10, 11, 12, 13, 14, 15, 16, 17, 18, 19]) rfl rfl rfl rfl S (fun w H => y_move rfl S rfl) fun a S => ?_
       refine t_q 3 rfl (by kernel_rfl) (rem' := [1, 4, 5, 6, 7, 8, 9, 10, 11, 12, 13, 14, 15, 16, 17, 18, 19]) rfl rfl rfl rfl S (fun w H => y_nilCheck rfl S rfl) fun a S => ?_
       refine t_q 4 rfl (by kernel_rfl) (rem' := [1, 5, 6, 7, 8, 9, 10, 11, 12, 13, 14, 15, 16, 17, 18, 19]) rfl rfl rfl rfl S (fun w H => y_faddrb rfl Ffo54_0 S rfl) fun a S => ?_
       refine t_q 5 rfl (by kernel_rfl) (rem' := [1, 6, 7, 8, 9, 10, 11, 12, 13, 14, 15, 16, 17, 18, 19]) rfl rfl rfl rfl S (fun w H => y_load rfl Fsca39 S H rfl rfl) fun a S => ?_
       refine t_q 6 rfl (by kernel_rfl) (rem' := [1, 7, 8, 9, 10, 11, 12, 13, 14, 15, 16, 17, 18, 19]) rfl rfl rfl rfl S (fun w H => y_move rfl S rfl) fun a S => ?_
       refine t_q 7 rfl (by kernel_rfl) (rem' := [1, 8, 9, 10, 11, 12, 13, 14, 15, 16, 17, 18, 19]) rfl rfl rfl rfl S (fun w H => y_sliceH rfl Try.underlying39 Fsiz29 S H rfl rfl (by first | assumption | omega | (simp only [LL]; omega))) fun a S => ?_
       refine t_p 9 rfl (by kernel_rfl) (rem' := [1, 8, 10, 11, 12, 13, 14, 15, 16, 17, 18, 19]) rfl rfl rfl rfl S (fun w => y_move rfl S rfl) fun a S => ?_
       refine t_p 10 rfl (by kernel_rfl) (rem' := [1, 8, 11, 12, 13, 14, 15, 16, 17, 18, 19]) rfl rfl rfl rfl S (fun w => y_nilCheck rfl S rfl) fun a S => ?_
       refine t_p 11 rfl (by kernel_rfl) (rem' := [1, 8, 12, 13, 14, 15, 16, 17, 18, 19]) rfl rfl rfl rfl S (fun w => y_faddrb rfl Ffo54_0 S rfl) fun a S => ?_
       refine t_p 13 rfl (by kernel_rfl) (rem' := [1, 8, 12, 14, 15, 16, 17, 18, 19]) rfl rfl rfl rfl S (fun w => y_move rfl S rfl) fun a S => ?_
       refine t_p 14 rfl (by kernel_rfl) (rem' := [1, 8, 12, 15, 16, 17, 18, 19]) rfl rfl rfl rfl S (fun w => y_add rfl S rfl rfl (by omega)) fun a S => ?_
       refine t_b [1, 12] (by kernel_rfl) rfl (fa2 ?_ ?_)
       ·refine ⟨_, rfl, fun w H => ?_⟩
        refine op_buildSlice (wn rfl) rfl rfl rfl Try.underlying39 Finf29 S H (idx := []) rfl rfl rfl (z := []) (by kernel_rfl) (cs := []) rfl fun b96 a w S H => ?_
        have H := H.celO [] Ord.enc 5 (m := 0) rfl (by simp) rfl (by omega)
        refine t_n H (rem' := [8, 12, 15, 16, 17, 18, 19]) rfl ?_
        refine t_b [8, 12] (by kernel_rfl) rfl (fa2 ?_ ?_)
        ·refine ⟨_, rfl, fun w H => ?_⟩
         refine op_appendT (wn rfl) rfl rfl rfl Try.underlying39 Finf29 rfl rfl S H rfl rfl (by simp [Ord.enc, Value.oneCell']) (by simp only [List.length_append, List.length_drop, List.length_take, List.length_nil, List.length_cons]; omega) (by simp only [List.length_append, List.length_drop, List.length_take, List.length_nil, List.length_cons]; omega) fun u103 a w S H => ?_
         refine t_tail H rfl (rem' := [12, 15, 16, 17, 18, 19]) rfl ?_
         refine t_q 12 rfl (by kernel_rfl) (rem' := [15, 16, 17, 18, 19]) rfl rfl rfl rfl S (fun w H => y_load rfl Fsca39 S H rfl rfl) fun a S => ?_
         refine t_q 15 rfl (by kernel_rfl) (rem' := [16, 17, 18, 19]) rfl rfl rfl rfl S (fun w H => y_sliceL rfl Try.underlying39 Fsiz29 S H rfl rfl (by first | assumption | omega | (simp only [LL]; omega))) fun a S => ?_
         refine t_b1 16 (by kernel_rfl) rfl fun w H => ?_
         refine op_appendT (wn rfl) rfl rfl rfl Try.underlying39 Finf29 rfl rfl S H rfl rfl (by simp [Ord.enc, Value.oneCell']) (by simp only [List.length_append, List.length_drop, List.length_take, List.length_nil, List.length_cons]; omega) (by simp only [List.length_append, List.length_drop, List.length_take, List.length_nil, List.length_cons]; omega) fun u111 a w S H => ?_
         refine t_tail H rfl (rem' := [17, 18, 19]) rfl ?_
         refine t_q 17 rfl (by kernel_rfl) (rem' := [18, 19]) rfl rfl rfl rfl S (fun w H => y_nilCheck rfl S rfl) fun a S => ?_
         refine t_q 18 rfl (by kernel_rfl) (rem' := [19]) rfl rfl rfl rfl S (fun w H => y_faddrb rfl Ffo54_0 S rfl) fun a S => ?_
         refine t_b1 19 (by kernel_rfl) rfl fun w H => ?_
         refine op_store (wn rfl) rfl rfl S H rfl rfl (H.sl1 _) Fsiz39 rfl fun a w S H => ?_
         dsimp only [List.set, Nat.zero_add, Nat.reduceAdd] at H
         refine t_tail H rfl (rem' := []) rfl ?_
         refine t_nil (fun w H => ?_)
         rw [show ([] ++ (r.opn.take k).drop 0) ++ (r.opn.take r.opn.length).drop (k + 1) = r.opn.eraseIdx k by rw [List.eraseIdx_eq_take_drop_succ]; simp] at H
         exact ⟨u111, (((S.nil.cons S 10 rfl).cons S 4 rfl).cons S 3 rfl).cons S 0 rfl, H.takeT (Cel b10 29 [.int .i64 x.id, .int .i64 x.price, .bool x.sell, .string x.person, .int .i64 x.serial] :: Cel b4 35 [.int .i64 0, .int .i64 0, .int .i64 0] :: Cel b3 29 (Ord.enc o) :: [Cel b 54 [u111, vi], OSl 29 u111 5 Ord.enc (r.opn.eraseIdx k), OSl 3 vi 1 encI (r.ids)]) l⟩
        ·refine ⟨_, rfl, fun w H => ?_⟩
         refine op_y (wn rfl) rfl rfl S (y_load rfl Fsca39 S H rfl rfl) fun a S => ?_
         refine t_n H (rem' := [8, 15, 16, 17, 18, 19]) rfl ?_
         refine t_b [8, 15] (by kernel_rfl) rfl (fa2 ?_ ?_)
         ·refine ⟨_, rfl, fun w H => ?_⟩
          refine op_appendT (wn rfl) rfl rfl rfl Try.underlying39 Finf29 rfl rfl S H rfl rfl (by simp [Ord.enc, Value.oneCell']) (by simp only [List.length_append, List.length_drop, List.length_take, List.length_nil, List.length_cons]; omega) (by simp only [List.length_append, List.length_drop, List.length_take, List.length_nil, List.length_cons]; omega) fun u103 a w S H => ?_
          refine t_tail H rfl (rem' := [15, 16, 17, 18, 19]) rfl ?_
          refine t_q 15 rfl (by kernel_rfl) (rem' := [16, 17, 18, 19]) rfl rfl rfl rfl S (fun w H => y_sliceL rfl Try.underlying39 Fsiz29 S H rfl rfl (by first | assumption | omega | (simp only [LL]; omega))) fun a S => ?_
          refine t_b1 16 (by kernel_rfl) rfl fun w H => ?_
          refine op_appendT (wn rfl) rfl rfl rfl Try.underlying39 Finf29 rfl rfl S H rfl rfl (by simp [Ord.enc, Value.oneCell']) (by simp only [List.length_append, List.length_drop, List.length_take, List.length_nil, List.length_cons]; omega) (by simp only [List.length_append, List.length_drop, List.length_take, List.length_nil, List.length_cons]; omega) fun u111 a w S H => ?_
          refine t_tail H rfl (rem' := [17, 18, 19]) rfl ?_
          refine t_q 17 rfl (by kernel_rfl) (rem' := [18, 19]) rfl rfl rfl rfl S (fun w H => y_nilCheck rfl S rfl) fun a S => ?_
          refine t_q 18 rfl (by kernel_rfl) (rem' := [19]) rfl rfl rfl rfl S (fun w H => y_faddrb rfl Ffo54_0 S rfl) fun a S => ?_
          refine t_b1 19 (by kernel_rfl) rfl fun w H => ?_
          refine op_store (wn rfl) rfl rfl S H rfl rfl (H.sl1 _) Fsiz39 rfl fun a w S H => ?_
          dsimp only [List.set, Nat.zero_add, Nat.reduceAdd] at H
          refine t_tail H rfl (rem' := []) rfl ?_
          refine t_nil (fun w H => ?_)
          rw [show ([] ++ (r.opn.take k).drop 0) ++ (r.opn.take r.opn.length).drop (k + 1) = r.opn.eraseIdx k by rw [List.eraseIdx_eq_take_drop_succ]; simp] at H
          exact ⟨u111, (((S.nil.cons S 10 rfl).cons S 4 rfl).cons S 3 rfl).cons S 0 rfl, H.takeT (Cel b10 29 [.int .i64 x.id, .int .i64 x.price, .bool x.sell, .string x.person, .int .i64 x.serial] :: Cel b4 35 [.int .i64 0, .int .i64 0, .int .i64 0] :: Cel b3 29 (Ord.enc o) :: [Cel b 54 [u111, vi], OSl 29 u111 5 Ord.enc (r.opn.eraseIdx k), OSl 3 vi 1 encI (r.ids)]) l⟩
         ·refine ⟨_, rfl, fun w H => ?_⟩
          refine op_y (wn rfl) rfl rfl S (y_sliceL rfl Try.underlying39 Fsiz29 S H rfl rfl (by first | assumption | omega | (simp only [LL]; omega))) fun a S => ?_
          refine t_n H (rem' := [8, 16, 17, 18, 19]) rfl ?_
          refine t_b1 8 (by kernel_rfl) rfl fun w H => ?_
          refine op_appendT (wn rfl) rfl rfl rfl Try.underlying39 Finf29 rfl rfl S H rfl rfl (by simp [Ord.enc, Value.oneCell']) (by simp only [List.length_append, List.length_drop, List.length_take, List.length_nil, List.length_cons]; omega) (by simp only [List.length_append, List.length_drop, List.length_take, List.length_nil, List.length_cons]; omega) fun u103 a w S H => ?_
          refine t_tail H rfl (rem' := [16, 17, 18, 19]) rfl ?_
          refine t_b1 16 (by kernel_rfl) rfl fun w H => ?_
          refine op_appendT (wn rfl) rfl rfl rfl Try.underlying39 Finf29 rfl rfl S H rfl rfl (by simp [Ord.enc, Value.oneCell']) (by simp only [List.length_append, List.length_drop, List.length_take, List.length_nil, List.length_cons]; omega) (by simp only [List.length_append, List.length_drop, List.length_take, List.length_nil, List.length_cons]; omega) fun u111 a w S H => ?_
          refine t_tail H rfl (rem' := [17, 18, 19]) rfl ?_
          refine t_q 17 rfl (by kernel_rfl) (rem' := [18, 19]) rfl rfl rfl rfl S (fun w H => y_nilCheck rfl S rfl) fun a S => ?_
          refine t_q 18 rfl (by kernel_rfl) (rem' := [19]) rfl rfl rfl rfl S (fun w H => y_faddrb rfl Ffo54_0 S rfl) fun a S => ?_
          refine t_b1 19 (by kernel_rfl) rfl fun w H => ?_
          refine op_store (wn rfl) rfl rfl S H rfl rfl (H.sl1 _) Fsiz39 rfl fun a w S H => ?_
          dsimp only [List.set, Nat.zero_add, Nat.reduceAdd] at H
          refine t_tail H rfl (rem' := []) rfl ?_
          refine t_nil (fun w H => ?_)
          rw [show ([] ++ (r.opn.take k).drop 0) ++ (r.opn.take r.opn.length).drop (k + 1) = r.opn.eraseIdx k by rw [List.eraseIdx_eq_take_drop_succ]; simp] at H
          exact ⟨u111, (((S.nil.cons S 10 rfl).cons S 4 rfl).cons S 3 rfl).cons S 0 rfl, H.takeT (Cel b10 29 [.int .i64 x.id, .int .i64 x.price, .bool x.sell, .string x.person, .int .i64 x.serial] :: Cel b4 35 [.int .i64 0, .int .i64 0, .int .i64 0] :: Cel b3 29 (Ord.enc o) :: [Cel b 54 [u111, vi], OSl 29 u111 5 Ord.enc (r.opn.eraseIdx k), OSl 3 vi 1 encI (r.ids)]) l⟩
       ·refine ⟨_, rfl, fun w H => ?_⟩
        refine op_y (wn rfl) rfl rfl S (y_load rfl Fsca39 S H rfl rfl) fun a S => ?_
        refine t_n H (rem' := [1, 8, 15, 16, 17, 18, 19]) rfl ?_
        refine t_b [1, 15] (by kernel_rfl) rfl (fa2 ?_ ?_)
        ·refine ⟨_, rfl, fun w H => ?_⟩
         refine op_buildSlice (wn rfl) rfl rfl rfl Try.underlying39 Finf29 S H (idx := []) rfl rfl rfl (z := []) (by kernel_rfl) (cs := []) rfl fun b96 a w S H => ?_
         have H := H.celO [] Ord.enc 5 (m := 0) rfl (by simp) rfl (by omega)
         refine t_n H (rem' := [8, 15, 16, 17, 18, 19]) rfl ?_
         refine t_b [8, 15] (by kernel_rfl) rfl (fa2 ?_ ?_)
         ·refine ⟨_, rfl, fun w H => ?_⟩
          refine op_appendT (wn rfl) rfl rfl rfl Try.underlying39 Finf29 rfl rfl S H rfl rfl (by simp [Ord.enc, Value.oneCell']) (by simp only [List.length_append, List.length_drop, List.length_take, List.length_nil, List.length_cons]; omega) (by simp only [List.length_append, List.length_drop, List.length_take, List.length_nil, List.length_cons]; omega) fun u103 a w S H => ?_
          refine t_tail H rfl (rem' := [15, 16, 17, 18, 19]) rfl ?_
          refine t_q 15 rfl (by kernel_rfl) (rem' := [16, 17, 18, 19]) rfl rfl rfl rfl S (fun w H => y_sliceL rfl Try.underlying39 Fsiz29 S H rfl rfl (by first | assumption | omega | (simp only [LL]; omega))) fun a S => ?_
          refine t_b1 16 (by kernel_rfl) rfl fun w H => ?_
          refine op_appendT (wn rfl) rfl rfl rfl Try.underlying39 Finf29 rfl rfl S H rfl rfl (by simp [Ord.enc, Value.oneCell']) (by simp only [List.length_append, List.length_drop, List.length_take, List.length_nil, List.length_cons]; omega) (by simp only [List.length_append, List.length_drop, List.length_take, List.length_nil, List.length_cons]; omega) fun u111 a w S H => ?_
          refine t_tail H rfl (rem' := [17, 18, 19]) rfl ?_
          refine t_q 17 rfl (by kernel_rfl) (rem' := [18, 19]) rfl rfl rfl rfl S (fun w H => y_nilCheck rfl S rfl) fun a S => ?_
          refine t_q 18 rfl (by kernel_rfl) (rem' := [19]) rfl rfl rfl rfl S (fun w H => y_faddrb rfl Ffo54_0 S rfl) fun a S => ?_
          refine t_b1 19 (by kernel_rfl) rfl fun w H => ?_
          refine op_store (wn rfl) rfl rfl S H rfl rfl (H.sl1 _) Fsiz39 rfl fun a w S H => ?_
          dsimp only [List.set, Nat.zero_add, Nat.reduceAdd] at H
          refine t_tail H rfl (rem' := []) rfl ?_
          refine t_nil (fun w H => ?_)
          rw [show ([] ++ (r.opn.take k).drop 0) ++ (r.opn.take r.opn.length).drop (k + 1) = r.opn.eraseIdx k by rw [List.eraseIdx_eq_take_drop_succ]; simp] at H
          exact ⟨u111, (((S.nil.cons S 10 rfl).cons S 4 rfl).cons S 3 rfl).cons S 0 rfl, H.takeT (Cel b10 29 [.int .i64 x.id, .int .i64 x.price, .bool x.sell, .string x.person, .int .i64 x.serial] :: Cel b4 35 [.int .i64 0, .int .i64 0, .int .i64 0] :: Cel b3 29 (Ord.enc o) :: [Cel b 54 [u111, vi], OSl 29 u111 5 Ord.enc (r.opn.eraseIdx k), OSl 3 vi 1 encI (r.ids)]) l⟩
         ·refine ⟨_, rfl, fun w H => ?_⟩
          refine op_y (wn rfl) rfl rfl S (y_sliceL rfl Try.underlying39 Fsiz29 S H rfl rfl (by first | assumption | omega | (simp only [LL]; omega))) fun a S => ?_
          refine t_n H (rem' := [8, 16, 17, 18, 19]) rfl ?_
          refine t_b1 8 (by kernel_rfl) rfl fun w H => ?_
          refine op_appendT (wn rfl) rfl rfl rfl Try.underlying39 Finf29 rfl rfl S H rfl rfl (by simp [Ord.enc, Value.oneCell']) (by simp only [List.length_append, List.length_drop, List.length_take, List.length_nil, List.length_cons]; omega) (by simp only [List.length_append, List.length_drop, List.length_take, List.length_nil, List.length_cons]; omega) fun u103 a w S H => ?_
          refine t_tail H rfl (rem' := [16, 17, 18, 19]) rfl ?_
          refine t_b1 16 (by kernel_rfl) rfl fun w H => ?_
          refine op_appendT (wn rfl) rfl rfl rfl Try.underlying39 Finf29 rfl rfl S H rfl rfl (by simp [Ord.enc, Value.oneCell']) (by simp only [List.length_append, List.length_drop, List.length_take, List.length_nil, List.length_cons]; omega) (by simp only [List.length_append, List.length_drop, List.length_take, List.length_nil, List.length_cons]; omega) fun u111 a w S H => ?_
          refine t_tail H rfl (rem' := [17, 18, 19]) rfl ?_
          refine t_q 17 rfl (by kernel_rfl) (rem' := [18, 19]) rfl rfl rfl rfl S (fun w H => y_nilCheck rfl S rfl) fun a S => ?_
          refine t_q 18 rfl (by kernel_rfl) (rem' := [19]) rfl rfl rfl rfl S (fun w H => y_faddrb rfl Ffo54_0 S rfl) fun a S => ?_
          refine t_b1 19 (by kernel_rfl) rfl fun w H => ?_
          refine op_store (wn rfl) rfl rfl S H rfl rfl (H.sl1 _) Fsiz39 rfl fun a w S H => ?_
          dsimp only [List.set, Nat.zero_add, Nat.reduceAdd] at H
          refine t_tail H rfl (rem' := []) rfl ?_
          refine t_nil (fun w H => ?_)
          rw [show ([] ++ (r.opn.take k).drop 0) ++ (r.opn.take r.opn.length).drop (k + 1) = r.opn.eraseIdx k by rw [List.eraseIdx_eq_take_drop_succ]; simp] at H
          exact ⟨u111, (((S.nil.cons S 10 rfl).cons S 4 rfl).cons S 3 rfl).cons S 0 rfl, H.takeT (Cel b10 29 [.int .i64 x.id, .int .i64 x.price, .bool x.sell, .string x.person, .int .i64 x.serial] :: Cel b4 35 [.int .i64 0, .int .i64 0, .int .i64 0] :: Cel b3 29 (Ord.enc o) :: [Cel b 54 [u111, vi], OSl 29 u111 5 Ord.enc (r.opn.eraseIdx k), OSl 3 vi 1 encI (r.ids)]) l⟩
        ·refine ⟨_, rfl, fun w H => ?_⟩
         refine op_y (wn rfl) rfl rfl S (y_sliceL rfl Try.underlying39 Fsiz29 S H rfl rfl (by first | assumption | omega | (simp only [LL]; omega))) fun a S => ?_
         refine t_n H (rem' := [1, 8, 16, 17, 18, 19]) rfl ?_
         refine t_b1 1 (by kernel_rfl) rfl fun w H => ?_
         refine op_buildSlice (wn rfl) rfl rfl rfl Try.underlying39 Finf29 S H (idx := []) rfl rfl rfl (z := []) (by kernel_rfl) (cs := []) rfl fun b96 a w S H => ?_
         have H := H.celO [] Ord.enc 5 (m := 0) rfl (by simp) rfl (by omega)
         refine t_n H (rem' := [8, 16, 17, 18, 19]) rfl ?_
         refine t_b1 8 (by kernel_rfl) rfl fun w H => ?_
         refine op_appendT (wn rfl) rfl rfl rfl Try.underlying39 Finf29 rfl rfl S H rfl rfl (by simp [Ord.enc, Value.oneCell']) (by simp only [List.length_append, List.length_drop, List.length_take, List.length_nil, List.length_cons]; omega) (by simp only [List.length_append, List.length_drop, List.length_take, List.length_nil, List.length_cons]; omega) fun u103 a w S H => ?_
         refine t_tail H rfl (rem' := [16, 17, 18, 19]) rfl ?_
         refine t_b1 16 (by kernel_rfl) rfl fun w H => ?_
         refine op_appendT (wn rfl) rfl rfl rfl Try.underlying39 Finf29 rfl rfl S H rfl rfl (by simp [Ord.enc, Value.oneCell']) (by simp only [List.length_append, List.length_drop, List.length_take, List.length_nil, List.length_cons]; omega) (by simp only [List.length_append, List.length_drop, List.length_take, List.length_nil, List.length_cons]; omega) fun u111 a w S H => ?_
         refine t_tail H rfl (rem' := [17, 18, 19]) rfl ?_
         refine t_q 17 rfl (by kernel_rfl) (rem' := [18, 19]) rfl rfl rfl rfl S (fun w H => y_nilCheck rfl S rfl) fun a S => ?_
         refine t_q 18 rfl (by kernel_rfl) (rem' := [19]) rfl rfl rfl rfl S (fun w H => y_faddrb rfl Ffo54_0 S rfl) fun a S => ?_
         refine t_b1 19 (by kernel_rfl) rfl fun w H => ?_
         refine op_store (wn rfl) rfl rfl S H rfl rfl (H.sl1 _) Fsiz39 rfl fun a w S H => ?_
         dsimp only [List.set, Nat.zero_add, Nat.reduceAdd] at H
         refine t_tail H rfl (rem' := []) rfl ?_
         refine t_nil (fun w H => ?_)
         rw [show ([] ++ (r.opn.take k).drop 0) ++ (r.opn.take r.opn.length).drop (k + 1) = r.opn.eraseIdx k by rw [List.eraseIdx_eq_take_drop_succ]; simp] at H
         exact ⟨u111, (((S.nil.cons S 10 rfl).cons S 4 rfl).cons S 3 rfl).cons S 0 rfl, H.takeT (Cel b10 29 [.int .i64 x.id, .int .i64 x.price, .bool x.sell, .string x.person, .int .i64 x.serial] :: Cel b4 35 [.int .i64 0, .int .i64 0, .int .i64 0] :: Cel b3 29 (Ord.enc o) :: [Cel b 54 [u111, vi], OSl 29 u111 5 Ord.enc (r.opn.eraseIdx k), OSl 3 vi 1 encI (r.ids)]) l⟩
      rintro a w ⟨vo2, S, H⟩
      simp only [List.cons_append, List.nil_append] at H
      refine g_seq ?_
      refine region_st (loud := [7, 8, 11]) (tails := [8, 11]) (free := [0]) [0, 1, 2, 3, 4, 5, 6, 7, 8, 9, 10, 11] [] Fmo (by kernel_rfl) (by kernel_rfl) rfl H ?_
      refine m_f rfl rfl (wn rfl) rfl rfl S (fun w H => y_move rfl S rfl) fun a S => ?_
      refine m_w rfl rfl (wn rfl) rfl rfl S (fun w H => y_move rfl S rfl) fun a S => ?_
      refine m_w rfl rfl (wn rfl) rfl rfl S (fun w H => y_nilCheck rfl S rfl) fun a S => ?_
      refine m_w rfl rfl (wn rfl) rfl rfl S (fun w H => y_faddrb rfl Ffo54_1 S rfl) fun a S => ?_
      refine m_w rfl rfl (wn rfl) rfl rfl S (fun w H => y_load rfl Fsca52 S H rfl rfl) fun a S => ?_
      refine m_w rfl rfl (wn rfl) rfl rfl S (fun w H => y_faddrb rfl Ffo29_0 S rfl) fun a S => ?_
      refine m_w rfl rfl (wn rfl) rfl rfl S (fun w H => y_load rfl Fsca3 S H rfl rfl) fun a S => ?_
      refine m_l rfl rfl (fun w H => op_buildSlice (wn rfl) rfl rfl rfl Try.underlying52 Finf3 S H (idx := [0]) rfl rfl rfl (z := [.int .i64 0]) (by kernel_rfl) (cs := [.int .i64 o.id]) (by kernel_rfl) fun b121 a w S H => m_next H (List.sublist_cons_self _ _) ?_)
      refine m_l rfl rfl (fun w H => op_append ([o.id]) (wn rfl) rfl rfl rfl Try.underlying52 Finf3 rfl rfl S H rfl rfl rfl rfl (by simp) (by simp [encI]) (by simp [encI, Value.oneCell']) (by simp only [List.length_singleton]; omega) (by simp only [List.length_singleton]; omega) fun u122 a w hn122 S H => m_tail H rfl ?_)
      refine m_w rfl rfl (wn rfl) rfl rfl S (fun w H => y_nilCheck rfl S rfl) fun a S => ?_
      refine m_w rfl rfl (wn rfl) rfl rfl S (fun w H => y_faddrb rfl Ffo54_1 S rfl) fun a S => ?_
      refine m_l rfl rfl (fun w H => op_store (wn rfl) rfl rfl S H rfl rfl (H.sl1 _) Fsiz52 rfl fun a w S H => m_tail H rfl ?_)
      dsimp only [List.set, Nat.zero_add, Nat.reduceAdd] at H
      refine m_nil (fun w H => ?_)
      refine n_then ?_
      have S := (((S.nil.cons S 10 rfl).cons S 4 rfl).cons S 3 rfl).cons S 0 rfl
      refine g_seq ?_
      refine gsr ?_
      refine gy rfl rfl rfl S (y_faddrb rfl Ffo29_2 S rfl) fun a S => ?_
      refine gy rfl rfl rfl S (y_load rfl Fsca4 S H rfl rfl) fun a S => ?_
      refine gnt ?_
      refine c_if S rfl (fun h11 => ?_) (fun h11 => ?_)
      ·have h11p := h11; try simp only [DL] at h11p
       refine gsr ?_
       refine gy rfl rfl rfl S (y_faddrb rfl Ffo29_0 S rfl) fun a S => ?_
       refine gy rfl rfl rfl S (y_load rfl Fsca3 S H rfl rfl) fun a S => ?_
       refine gy rfl rfl rfl S (y_faddrb rfl Ffo29_0 S rfl) fun a S => ?_
       refine gy rfl rfl rfl S (y_load rfl Fsca3 S H rfl rfl) fun a S => ?_
       refine gy rfl rfl rfl S (y_faddrb rfl Ffo29_1 S rfl) fun a S => ?_
       refine gy rfl rfl rfl S (y_load rfl Fsca3 S H rfl rfl) fun a S => ?_
       refine gy rfl rfl rfl S (y_buildf rfl Fbld35 S rfl (idx := [0, 1, 2]) rfl (cs := [.int .i64 o.id, .int .i64 x.id, .int .i64 x.price]) (by kernel_rfl)) fun a S => ?_
       refine wl_of (op_storea (wn rfl) rfl rfl S H rfl rfl rfl Fsiz35 rfl (cs' := [_, _, _]) rfl fun a w S H => ?_)
       refine ga S fun a S => ?_
       refine ga S fun a S => ?_
       refine gnt ?_
       have S := (((((S.nil.cons S 10 rfl).cons S 4 rfl).cons S 3 rfl).cons S 0 rfl).cons S 5 rfl).cons S 6 rfl
       refine g_ret ?_
       refine r_then (r_block (r_then (r_then (r_block (r_then (ret3ctt rfl S H rfl rfl rfl (by exact Fagg35) ?_))))))
       dsimp only [List.set, Nat.zero_add, Nat.reduceAdd] at H
       rw [hp2.1, hp2.2]
       exact ⟨by simp only [tradeOf, if_pos h11p]; rfl, vo2, u122, H.takeT [Cel b 54 [vo2, u122], OSl 29 vo2 5 Ord.enc (r.opn.eraseIdx k), OSl 3 u122 1 encI (r.ids ++ [o.id])] l⟩
      ·have h11p := h11; try simp only [DL] at h11p
       refine g_skip ?_
       refine n_then ?_
       refine gsr ?_
       refine gy rfl rfl rfl S (y_faddrb rfl Ffo29_0 S rfl) fun a S => ?_
       refine gy rfl rfl rfl S (y_load rfl Fsca3 S H rfl rfl) fun a S => ?_
       refine gy rfl rfl rfl S (y_faddrb rfl Ffo29_0 S rfl) fun a S => ?_
       refine gy rfl rfl rfl S (y_load rfl Fsca3 S H rfl rfl) fun a S => ?_
       refine gy rfl rfl rfl S (y_faddrb rfl Ffo29_1 S rfl) fun a S => ?_
       refine gy rfl rfl rfl S (y_load rfl Fsca3 S H rfl rfl) fun a S => ?_
       refine gy rfl rfl rfl S (y_buildf rfl Fbld35 S rfl (idx := [0, 1, 2]) rfl (cs := [.int .i64 x.id, .int .i64 o.id, .int .i64 x.price]) (by kernel_rfl)) fun a S => ?_
       refine wl_of (op_storea (wn rfl) rfl rfl S H rfl rfl rfl Fsiz35 rfl (cs' := [_, _, _]) rfl fun a w S H => ?_)
       refine ga S fun a S => ?_
       refine ga S fun a S => ?_
       refine gnt ?_
       have S := ((((S.nil.cons S 4 rfl).cons S 3 rfl).cons S 0 rfl).cons S 5 rfl).cons S 6 rfl
       refine g_ret ?_
       refine r_block (r_then (r_then (r_block (r_then (ret3ctt rfl S H rfl rfl rfl (by exact Fagg35) ?_)))))
       dsimp only [List.set, Nat.zero_add, Nat.reduceAdd] at H
       rw [hp2.1, hp2.2]
       exact ⟨by simp only [tradeOf, h11p]; rfl, vo2, u122, H.takeT [Cel b 54 [vo2, u122], OSl 29 vo2 5 Ord.enc (r.opn.eraseIdx k), OSl 3 u122 1 encI (r.ids ++ [o.id])] l⟩
     ·have h10p := h10; try simp only [DL] at h10p
      have hmk : matchB r.opn[k] o = false := by rw [← hxk]; exact h10
      refine g_skip ?_
      refine n_block ?_
      refine n_then ?_
      have S := (((S.nil.cons S 0 rfl).cons S 3 rfl).cons S 4 rfl).cons S 9 rfl
      refine g_region ?_
      refine gm S fun a S => ?_
      refine gy rfl rfl rfl S (y_add rfl S rfl rfl (by omega)) fun a S => ?_
      refine ga S fun a S => ?_
      refine gnt ?_
      exact ⟨k + 1, S.nil.cons S 9 rfl, ((S.nil.cons S 0 rfl).cons S 3 rfl).cons S 4 rfl, ⟨by omega, fun q hq h => by by_cases e : q < k; exact hnm q hq e; (obtain rfl : q = k := by omega); exact hmk, H.drop 1⟩, by omega⟩
    ·have h9p := h9; try simp only [DL] at h9p
     obtain rfl : k = r.opn.length := by omega
     have hall : ∀ x ∈ r.opn, matchB x o = false := fun x hx => by obtain ⟨q, hq, rfl⟩ := List.getElem_of_mem hx; exact hnm q hq hq
     refine g_exit ?_
     refine x_then (x_then (x_eq ?_))
     refine n_then ?_
     refine g_seq ?_
     refine gsr ?_
     refine gm S fun a S => ?_
     refine gy rfl rfl rfl S (y_nilCheck rfl S rfl) fun a S => ?_
     refine gy rfl rfl rfl S (y_faddrb rfl Ffo54_0 S rfl) fun a S => ?_
     refine gy rfl rfl rfl S (y_load rfl Fsca39 S H rfl rfl) fun a S => ?_
     refine gy rfl rfl rfl S (y_lens rfl Try.underlying39 S H rfl) fun a S => ?_
     refine gy rfl rfl rfl S (y_bin rfl S rfl rfl rfl) fun a S => ?_
     refine gnt ?_
     have S := (((S.nil.cons S 0 rfl).cons S 3 rfl).cons S 4 rfl).cons S 146 rfl
     refine c_if S rfl (fun h12 => ?_) (fun h12 => ?_)
     ·have h12p := h12; try simp only [DL] at h12p
      refine gsr ?_
      refine gy rfl rfl rfl S (y_buildf rfl Fbld35 S rfl (idx := []) rfl (cs := [_, _, _]) rfl) fun a S => ?_
      refine wl_of (op_storea (wn rfl) rfl rfl S H rfl rfl rfl Fsiz35 rfl (cs' := [_, _, _]) rfl fun a w S H => ?_)
      refine ga S fun a S => ?_
      refine ga S fun a S => ?_
      refine gnt ?_
      refine g_ret ?_
      refine r_then (ret3ctt rfl S H rfl rfl rfl (by exact Fagg35) ?_)
      have hp2 := rpl_full hva htw hall (by omega)
      rw [hp2.1, hp2.2]
      exact ⟨rfl, vo, vi, H.takeT [Cel b 54 [vo, vi], OSl 29 vo 5 Ord.enc (r.opn), OSl 3 vi 1 encI (r.ids)] l⟩
     ·have h12p := h12; try simp only [DL] at h12p
      refine g_skip ?_
      refine n_then ?_
      refine gsr ?_
      refine ga S fun a S => ?_
      refine gnt ?_
      refine g_seq ?_
      refine g_block ?_
      have SU := ((S.nil.cons S 0 rfl).cons S 3 rfl).cons S 4 rfl
      refine loopW (X := Nat) SU (fun k => [(11, .int .i64 (k : Int))]) (fun k w => k ≤ r.opn.length ∧ (∀ q (hq : q < r.opn.length), q < k → befB r.opn[q] o = true) ∧ HSat M u0 (Cel b4 35 [.int .i64 0, .int .i64 0, .int .i64 0] :: Cel b3 29 (Ord.enc o) :: Cel b 54 [vo, vi] :: OSl 29 vo 5 Ord.enc (r.opn) :: OSl 3 vi 1 encI (r.ids) :: l) w) (fun k => r.opn.length - k) 0 (S.nil.cons S 11 rfl) (⟨Nat.zero_le _, fun q hq h => by omega, H⟩) (fun k a w S hW => ?_)
      simp only [List.cons_append, List.nil_append] at S
      obtain ⟨hk, hnb, H⟩ := hW
      refine g_seq ?_
      refine g_seq ?_
      refine region_st (loud := [16]) (tails := []) (free := []) [0, 1, 2, 3, 4, 5, 6, 7, 8, 9, 10, 11, 12, 13, 14, 15, 16, 17] [] Fmo (by kernel_rfl) (by kernel_rfl) rfl H ?_
      refine m_w rfl rfl (wn rfl) rfl rfl S (fun w H => y_move rfl S rfl) fun a S => ?_
      refine m_w rfl rfl (wn rfl) rfl rfl S (fun w H => y_move rfl S rfl) fun a S => ?_
      refine m_w rfl rfl (wn rfl) rfl rfl S (fun w H => y_nilCheck rfl S rfl) fun a S => ?_
      refine m_w rfl rfl (wn rfl) rfl rfl S (fun w H => y_faddrb rfl Ffo54_0 S rfl) fun a S => ?_
      refine m_w rfl rfl (wn rfl) rfl rfl S (fun w H => y_load rfl Fsca39 S H rfl rfl) fun a S => ?_
      refine m_w rfl rfl (wn rfl) rfl rfl S (fun w H => y_lens rfl Try.underlying39 S H rfl) fun a S => ?_
      refine m_w rfl rfl (wn rfl) rfl rfl S (fun w H => y_bin rfl S rfl rfl rfl) fun a S => ?_
      refine m_w rfl rfl (wn rfl) rfl rfl S (fun w H => y_move rfl S rfl) fun a S => ?_
      refine' m_and [8, 9, 10, 11, 12, 13, 14, 15, 16] 155 S rfl rfl rfl rfl rfl rfl rfl rfl rfl (fun _ S => (wn rfl)) (fun h13 kk => ?yh13) (fun l1 a S => ?_)
      case yh13 =>
       have h13p := h13; try simp only [DL] at h13p
       refine m_w rfl rfl (wg' 155 rfl rfl S rfl h13 rfl) rfl rfl S (fun w H => y_move rfl S rfl) fun a S => ?_
       refine m_w rfl rfl (wg' 155 rfl rfl S rfl h13 rfl) rfl rfl S (fun w H => y_nilCheck rfl S rfl) fun a S => ?_
       refine m_w rfl rfl (wg' 155 rfl rfl S rfl h13 rfl) rfl rfl S (fun w H => y_faddrb rfl Ffo54_0 S rfl) fun a S => ?_
       refine m_w rfl rfl (wg' 155 rfl rfl S rfl h13 rfl) rfl rfl S (fun w H => y_load rfl Fsca39 S H rfl rfl) fun a S => ?_
       refine m_w rfl rfl (wg' 155 rfl rfl S rfl h13 rfl) rfl rfl S (fun w H => y_move rfl S rfl) fun a S => ?_
       refine m_w rfl rfl (wg' 155 rfl rfl S rfl h13 rfl) rfl rfl S (fun w H => y_iaddrn rfl Try.underlying39 Fsiz29 S H rfl rfl (by first | assumption | omega | (simp only [LL]; omega))) fun a S => ?_
       refine m_w rfl rfl (wg' 155 rfl rfl S rfl h13 rfl) rfl rfl S (fun w H => y_loadsaD vo Ord.z rfl S H rfl (by exact Fagg29) (by omega) rfl) fun a S => ?_
       refine m_w rfl rfl (wg' 155 rfl rfl S rfl h13 rfl) rfl rfl S (fun w H => y_load0 rfl S H rfl (by exact Fagg29)) fun a S => ?_
       refine m_l rfl rfl (fun w H => op_call (wg' 155 rfl rfl S rfl h13 rfl) rfl rfl S (co_func rfl Try.call35 S rfl) (before_spec _ _ _) fun v w hc a S => ?_)
       obtain ⟨rfl, he⟩ := hc
       have H := H.ext he
       refine m_next H (by exact List.Sublist.refl _) ?_
       refine m_w rfl rfl (wn rfl) rfl rfl S (fun w H => y_and' rfl h13 S rfl rfl) fun a S => ?_
       exact kk [] _ (S.join 10 165 rfl rfl)
      refine m_nil (fun w H => ?_)
      have H := H.right
      refine n_then ?_
      have S := ((((S.nil.cons S 0 rfl).cons S 3 rfl).cons S 4 rfl).cons S 11 rfl).cons S 165 rfl
      refine c_if S rfl (fun h14 => ?_) (fun h14 => ?_)
      ·have h14p := h14; try simp only [DL] at h14p
       obtain ⟨hkl, hbf⟩ : k < r.opn.length ∧ befB (r.opn.getD k Ord.z) o = true := by simpa using h14
       have hgd : r.opn.getD k Ord.z = r.opn[k] := by rw [List.getD_eq_getElem?_getD, List.getElem?_eq_getElem hkl]; rfl
       have hbk : befB r.opn[k] o = true := by rw [hgd] at hbf; exact hbf
       refine g_skip ?_
       refine n_then ?_
       refine g_block ?_
       refine g_region ?_
       refine gm S fun a S => ?_
       refine gy rfl rfl rfl S (y_add rfl S rfl rfl (by omega)) fun a S => ?_
       refine ga S fun a S => ?_
       refine gl_nil ?_
       refine n_block ?_
       refine n_then ?_
       exact ⟨k + 1, S.nil.cons S 11 rfl, ((S.nil.cons S 0 rfl).cons S 3 rfl).cons S 4 rfl, ⟨by omega, fun q hq h => by by_cases e : q < k; exact hnb q hq e; (obtain rfl : q = k := by omega); exact hbk, H⟩, by omega⟩
      ·have h14p := h14; try simp only [DL] at h14p
       have hins := insO_at hk hnb (fun h => by
         have hgd : r.opn.getD k Ord.z = r.opn[k] := by rw [List.getD_eq_getElem?_getD, List.getElem?_eq_getElem h]; rfl
         rw [← hgd]
         have := h14
         simpa [h] using this)
       refine g_exit ?_
       refine x_then (x_then (x_eq ?_))
       refine n_then ?_
       refine g_seq ?_
       refine region_st (loud := [1, 8]) (tails := [8]) (free := []) [0, 2, 3, 4, 5, 6, 7, 1, 8, 9] [] Fmo (by kernel_rfl) (by kernel_rfl) rfl H ?_
       refine m_w rfl rfl (wn rfl) rfl rfl S (fun w H => y_load0 rfl S H rfl (by exact Fagg29)) fun a S => ?_
       refine m_w rfl rfl (wn rfl) rfl rfl S (fun w H => y_move rfl S rfl) fun a S => ?_
       refine m_w rfl rfl (wn rfl) rfl rfl S (fun w H => y_nilCheck rfl S rfl) fun a S => ?_
       refine m_w rfl rfl (wn rfl) rfl rfl S (fun w H => y_faddrb rfl Ffo54_0 S rfl) fun a S => ?_
       refine m_w rfl rfl (wn rfl) rfl rfl S (fun w H => y_load rfl Fsca39 S H rfl rfl) fun a S => ?_
       refine m_w rfl rfl (wn rfl) rfl rfl S (fun w H => y_move rfl S rfl) fun a S => ?_
       refine m_w rfl rfl (wn rfl) rfl rfl S (fun w H => y_sliceL rfl Try.underlying39 Fsiz29 S H rfl rfl (by first | assumption | omega | (simp only [LL]; omega))) fun a S => ?_
       refine m_l rfl rfl (fun w H => op_buildSlice (wn rfl) rfl rfl rfl Try.underlying39 Finf29 S H (idx := [0]) rfl rfl rfl (z := [.int .i64 0, .int .i64 0, .bool false, .string ⟨#[]⟩, .int .i64 0]) (by kernel_rfl) (cs := [.int .i64 o.id, .int .i64 o.price, .bool o.sell, .string o.person, .int .i64 o.serial]) (by kernel_rfl) fun b169 a w S H => ?_)
       have H := H.celO [o] Ord.enc 5 (m := 1) rfl (by simp [Ord.enc]) rfl (by omega)
       refine m_next H (by repeat (first | exact List.Sublist.refl _ | apply List.Sublist.cons)) ?_
       refine m_l rfl rfl (fun w H => op_appendT (wn rfl) rfl rfl rfl Try.underlying39 Finf29 rfl rfl S H rfl rfl (by simp [Ord.enc, Value.oneCell']) (by simp only [List.length_append, List.length_drop, List.length_take, List.length_nil, List.length_cons]; omega) (by simp only [List.length_append, List.length_drop, List.length_take, List.length_nil, List.length_cons]; omega) fun u176 a w S H => m_tail H rfl ?_)
       refine m_w rfl rfl (wn rfl) rfl rfl S (fun w H => y_assign rfl S rfl) fun a S => ?_
       refine m_nil (fun w H => ?_)
       refine n_then ?_
       have S := ((((S.nil.cons S 0 rfl).cons S 3 rfl).cons S 4 rfl).cons S 11 rfl).cons S 12 rfl
       refine gsr ?_
       refine gm S fun a S => ?_
       refine wl_of (op_buildSlice (wn rfl) rfl rfl rfl Try.underlying39 Finf29 S H (idx := []) rfl rfl rfl (z := []) (by kernel_rfl) (cs := []) rfl fun b178 a w S H => ?_)
       have H := H.celO [] Ord.enc 5 (m := 0) rfl (by simp) rfl (by omega)
       refine gm S fun a S => ?_
       refine gy rfl rfl rfl S (y_nilCheck rfl S rfl) fun a S => ?_
       refine gy rfl rfl rfl S (y_faddrb rfl Ffo54_0 S rfl) fun a S => ?_
       refine gy rfl rfl rfl S (y_load rfl Fsca39 S H rfl rfl) fun a S => ?_
       refine gm S fun a S => ?_
       refine gy rfl rfl rfl S (y_sliceH rfl Try.underlying39 Fsiz29 S H rfl rfl (by first | assumption | omega | (simp only [LL]; omega))) fun a S => ?_
       refine wl_of (op_appendT (wn rfl) rfl rfl rfl Try.underlying39 Finf29 rfl rfl S H rfl rfl (by simp [Ord.enc, Value.oneCell']) (by simp only [List.length_append, List.length_drop, List.length_take, List.length_nil, List.length_cons]; omega) (by simp only [List.length_append, List.length_drop, List.length_take, List.length_nil, List.length_cons]; omega) fun u185 a w S H => ?_)
       refine gm S fun a S => ?_
       refine wl_of (op_appendT (wn rfl) rfl rfl rfl Try.underlying39 Finf29 rfl rfl S H rfl rfl (by simp [Ord.enc, Value.oneCell']) (by simp only [List.length_append, List.length_drop, List.length_take, List.length_nil, List.length_cons]; omega) (by simp only [List.length_append, List.length_drop, List.length_take, List.length_nil, List.length_cons]; omega) fun u187 a w S H => ?_)
       refine gy rfl rfl rfl S (y_nilCheck rfl S rfl) fun a S => ?_
       refine gy rfl rfl rfl S (y_faddrb rfl Ffo54_0 S rfl) fun a S => ?_
       refine wl_of (op_store (wn rfl) rfl rfl S H rfl rfl (H.sl1 _) Fsiz39 rfl fun a w S H => ?_)
       dsimp only [List.set, Nat.zero_add, Nat.reduceAdd] at H
       refine gnt ?_
       have S := ((S.nil.cons S 0 rfl).cons S 3 rfl).cons S 4 rfl
       refine g_seq ?_
       refine region_st (loud := [7, 8, 11]) (tails := [8, 11]) (free := [0]) [0, 1, 2, 3, 4, 5, 6, 7, 8, 9, 10, 11] [] Fmo (by kernel_rfl) (by kernel_rfl) rfl H ?_
       refine m_f rfl rfl (wn rfl) rfl rfl S (fun w H => y_move rfl S rfl) fun a S => ?_
       refine m_w rfl rfl (wn rfl) rfl rfl S (fun w H => y_move rfl S rfl) fun a S => ?_
       refine m_w rfl rfl (wn rfl) rfl rfl S (fun w H => y_nilCheck rfl S rfl) fun a S => ?_
       refine m_w rfl rfl (wn rfl) rfl rfl S (fun w H => y_faddrb rfl Ffo54_1 S rfl) fun a S => ?_
       refine m_w rfl rfl (wn rfl) rfl rfl S (fun w H => y_load rfl Fsca52 S H rfl rfl) fun a S => ?_
       refine m_w rfl rfl (wn rfl) rfl rfl S (fun w H => y_faddrb rfl Ffo29_0 S rfl) fun a S => ?_
       refine m_w rfl rfl (wn rfl) rfl rfl S (fun w H => y_load rfl Fsca3 S H rfl rfl) fun a S => ?_
       refine m_l rfl rfl (fun w H => op_buildSlice (wn rfl) rfl rfl rfl Try.underlying52 Finf3 S H (idx := [0]) rfl rfl rfl (z := [.int .i64 0]) (by kernel_rfl) (cs := [.int .i64 o.id]) (by kernel_rfl) fun b197 a w S H => m_next H (List.sublist_cons_self _ _) ?_)
       refine m_l rfl rfl (fun w H => op_append ([o.id]) (wn rfl) rfl rfl rfl Try.underlying52 Finf3 rfl rfl S H rfl rfl rfl rfl (by simp) (by simp [encI]) (by simp [encI, Value.oneCell']) (by simp only [List.length_singleton]; omega) (by simp only [List.length_singleton]; omega) fun u198 a w hn198 S H => m_tail H rfl ?_)
       refine m_w rfl rfl (wn rfl) rfl rfl S (fun w H => y_nilCheck rfl S rfl) fun a S => ?_
       refine m_w rfl rfl (wn rfl) rfl rfl S (fun w H => y_faddrb rfl Ffo54_1 S rfl) fun a S => ?_
       refine m_l rfl rfl (fun w H => op_store (wn rfl) rfl rfl S H rfl rfl (H.sl1 _) Fsiz52 rfl fun a w S H => m_tail H rfl ?_)
       dsimp only [List.set, Nat.zero_add, Nat.reduceAdd] at H
       refine m_nil (fun w H => ?_)
       refine n_then ?_
       have S := S.nil.cons S 4 rfl
       refine gsr ?_
       refine gy rfl rfl rfl S (y_buildf rfl Fbld35 S rfl (idx := []) rfl (cs := [_, _, _]) rfl) fun a S => ?_
       refine wl_of (op_storea (wn rfl) rfl rfl S H rfl rfl rfl Fsiz35 rfl (cs' := [_, _, _]) rfl fun a w S H => ?_)
       refine ga S fun a S => ?_
       refine ga S fun a S => ?_
       refine gnt ?_
       refine g_ret ?_
       refine ret3ctt rfl S H rfl rfl rfl (by exact Fagg35) ?_
       dsimp only [List.set, Nat.zero_add, Nat.reduceAdd] at H
       rw [show ([] ++ (r.opn.take k).drop 0) ++ ([o] ++ (r.opn.take r.opn.length).drop k) = insO r.opn o by rw [hins]; simp] at H
       have hp2 := rpl_open hva htw hall (by omega)
       rw [hp2.1, hp2.2]
       exact ⟨rfl, u187, u198, H.takeT [Cel b 54 [u187, u198], OSl 29 u187 5 Ord.enc (insO r.opn o), OSl 3 u198 1 encI (r.ids ++ [o.id])] l⟩
end Go.Proofs.Ytcgpbalpihkiiaa
