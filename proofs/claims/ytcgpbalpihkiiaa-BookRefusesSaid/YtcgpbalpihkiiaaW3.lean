/- The walks. No condition. -/
import Derived.Test.YtcgpbalpihkiiaaChecked
import Derived.Test.YtcgpbalpihkiiaaGwIns
import Derived.Test.YtcgpbalpihkiiaaFacts
import Derived.Test.YtcgpbalpihkiiaaPlain
import Derived.Test.YtcgpbalpihkiiaaW2
namespace Go.Proofs.Ytcgpbalpihkiiaa
open Go Go.Gw
set_option linter.unusedVariables false
set_option linter.unusedSimpArgs false
theorem over_run {M : Nat → Prop} {u0 w : World} {l : List Atom} {g m c off la ca lb cb bl : Nat} {xs : List Ord} {T' : TypeId} {cs : List Value} (H : HSat M u0 (OSl 29 (.slice (some ⟨g, 0, none⟩) m c) 5 Ord.enc xs :: Cel bl T' cs :: l) w) (hc : 0 < c) : (callFunc 42 [Value.slice (some ⟨bl, 0, none⟩) la ca, .slice (some ⟨g, off, none⟩) lb cb].toArray).run Try.prog w = .ok (.value (.bool false)) w := by
  rw [run_callFunc_extern Try.func42 (by kernel_rfl) (by kernel_rfl) (by kernel_rfl) (e := Extern.SlicesOverlaps.overlaps #[39, 39] #[4]) (by kernel_rfl)]
  rw [overlaps_no H Try.underlying39 Fsiz29 rfl hc]; rfl
theorem ones {ys : List Ord} : ∀ y ∈ ys, ∀ u ∈ Ord.enc y, u.oneCell' = true := by simp [Ord.enc, Value.oneCell']
theorem fives {ys : List Ord} : ∀ y ∈ ys, (Ord.enc y).length = 5 := by simp [Ord.enc]
/-- slices.Insert[[]foyer/api.Order,foyer/api.Order] -/
theorem insert_spec {M : Nat → Prop} {u0 : World} {l : List Atom} (v : Value) (xs : List Ord) (k : Nat) (o : Ord) (bl : Nat) (w0 : World) (h0 : HSat M u0 (OSl 29 v 5 Ord.enc xs :: Cel bl 29 (Ord.enc o) :: l) w0) (hk : k ≤ xs.length) (hl : xs.length ≤ 200000) :
    Ret Try.prog 34 #[v, .int .i64 (k : Int), .slice (some ⟨bl, 0, none⟩) 1 1] w0 (fun u w => HSat M u0 (OSl 29 u 5 Ord.enc (xs.take k ++ o :: xs.drop k) :: l) w) := by
 refine ret_of_wp (nt := 95) Try.func34 rfl rfl rfl (fl := [(0, v), (1, .int .i64 (k : Int)), (2, .slice (some ⟨bl, 0, none⟩) 1 1)]) rfl (fun a S => ?_)
 have H := h0
 have hcap := H.cap v
 have hlt : (xs.take k).length = k := by rw [List.length_take]; omega
 refine gsr ?_
 refine ga S fun a S => ?_
 refine gnt ?_
 refine gsr ?_
 refine gm S fun a S => ?_
 refine gm S fun a S => ?_
 refine gy rfl rfl rfl S (y_sliceL rfl Try.underlying39 Fsiz29 S H rfl rfl (by first | assumption | omega | (simp only [LL]; omega))) fun a S => ?_
 refine gnt ?_
 refine gsr ?_
 refine gm S fun a S => ?_
 refine gy rfl rfl rfl S (y_len rfl Try.underlying39 S rfl) fun a S => ?_
 refine ga S fun a S => ?_
 refine gnt ?_
 have S := ((((S.nil.cons S 2 rfl).cons S 1 rfl).cons S 0 rfl).cons S 6 rfl).cons S 7 rfl
 refine g_seq ?_
 refine gsr ?_
 refine gm S fun a S => ?_
 refine gy rfl rfl rfl S (y_bin rfl S rfl rfl rfl) fun a S => ?_
 refine gnt ?_
 refine c_if S rfl (fun h1 => ?_) (fun h1 => ?_)
 ·have h1p := h1; try simp only [DL] at h1p
  all_goals (
    exact absurd h1 (by simp))
 ·have h1p := h1; try simp only [DL] at h1p
  refine g_skip ?_
  refine n_then ?_
  refine gsr ?_
  refine gm S fun a S => ?_
  refine gy rfl rfl rfl S (y_lens rfl Try.underlying39 S H rfl) fun a S => ?_
  refine ga S fun a S => ?_
  refine gnt ?_
  have S := (((((S.nil.cons S 2 rfl).cons S 1 rfl).cons S 0 rfl).cons S 6 rfl).cons S 7 rfl).cons S 8 rfl
  refine g_seq ?_
  refine gsr ?_
  refine gm S fun a S => ?_
  refine gm S fun a S => ?_
  refine gy rfl rfl rfl S (y_bin rfl S rfl rfl rfl) fun a S => ?_
  refine gnt ?_
  refine c_if S rfl (fun h2 => ?_) (fun h2 => ?_)
  ·have h2p := h2; try simp only [DL] at h2p
   obtain rfl : k = xs.length := by omega
   refine gsr ?_
   refine gm S fun a S => ?_
   refine gm S fun a S => ?_
   refine wl_of (op_append ([o]) (wn rfl) rfl rfl rfl Try.underlying39 Finf29 rfl rfl S H rfl rfl rfl rfl (by simp) (by simp [Ord.enc]) (by simp [Ord.enc, Value.oneCell']) (by simp only [List.length_singleton]; omega) (by simp only [List.length_singleton]; omega) fun u25 a w hn25 S H => ?_)
   refine ga S fun a S => ?_
   refine gnt ?_
   have S := (((((S.nil.cons S 2 rfl).cons S 1 rfl).cons S 0 rfl).cons S 7 rfl).cons S 8 rfl).cons S 6 rfl
   refine g_ret ?_
   refine r_then (ret1 rfl S rfl ?_)
   rw [List.take_length, List.drop_length]; exact H.mid (xs := [_])
  ·have h2p := h2; try simp only [DL] at h2p
   have hk2 : k < xs.length := by omega
   obtain ⟨g, c, rfl, hnc⟩ := H.ownG (by omega)
   have hA := insA xs k o Ord.z hk2
   have hB := insB xs k o Ord.z hk2
   have hC := insC xs k hk2
   have hD := insD xs k o hk2
   refine g_skip ?_
   refine n_then ?_
   refine g_seq ?_
   refine gsr ?_
   refine gm S fun a S => ?_
   refine gm S fun a S => ?_
   refine gy rfl rfl rfl S (y_add rfl S rfl rfl (by omega)) fun a S => ?_
   refine gm S fun a S => ?_
   refine gy rfl rfl rfl S (y_cap rfl Try.underlying39 S rfl) fun a S => ?_
   refine gy rfl rfl rfl S (y_bin rfl S rfl rfl rfl) fun a S => ?_
   refine gnt ?_
   have S := ((((((S.nil.cons S 2 rfl).cons S 1 rfl).cons S 0 rfl).cons S 6 rfl).cons S 7 rfl).cons S 8 rfl).cons S 31 rfl
   refine c_if S rfl (fun h3 => ?_) (fun h3 => ?_)
   ·have h3p := h3; try simp only [DL] at h3p
    have hgc : c = xs.length := by omega
    refine gsr ?_
    refine gm S fun a S => ?_
    refine gm S fun a S => ?_
    refine gy rfl rfl rfl S ((y_sliceY (j := k) rfl Try.underlying39 Fsiz29 S rfl rfl (by omega))) fun a S => ?_
    refine gm S fun a S => ?_
    refine gm S fun a S => ?_
    refine gy rfl rfl rfl S (y_add rfl S rfl rfl (by omega)) fun a S => ?_
    refine gm S fun a S => ?_
    refine gy rfl rfl rfl S (y_sub rfl S rfl rfl (by omega)) fun a S => ?_
    rw [show ((xs.length : Int) + ((1 : Nat) : Int) - (k : Int)) = ((xs.length + 1 - k : Nat) : Int) by omega] at S
    refine wl_of (op_appendZ (i := k) (m := xs.length + 1 - k) (c := c) (xs.take k) Ord.z (wn rfl) rfl rfl rfl Try.underlying39 Try.underlying3 Finf29 rfl rfl rfl S H rfl rfl (fun j u hu => ⟨_, rfl, by rw [add_plain, Nat.zero_add]; exact (show IsOSl _ _ _ _ _ _ from H.hd).cellsT k j u hk hu⟩) hlt (fun e => by cases e) fives (by omega) (by omega) (by omega) (by omega) fun g2 c2 a w hc2 S H => ?_)
    rw [show k + (xs.length + 1 - k) = xs.length + 1 by omega] at S H hc2
    refine ga S fun a S => ?_
    refine gnt ?_
    have S := ((((((S.nil.cons S 2 rfl).cons S 1 rfl).cons S 0 rfl).cons S 6 rfl).cons S 7 rfl).cons S 8 rfl).cons S 9 rfl
    refine gsr ?_
    refine gm S fun a S => ?_
    refine gm S fun a S => ?_
    refine gy rfl rfl rfl S ((y_sliceX (i := k) rfl Try.underlying39 Fsiz29 S rfl rfl (by omega) (by omega) (by omega))) fun a S => ?_
    refine gm S fun a S => ?_
    refine wl_of (op_copyE (m := xs.length + 1) (c := c2) (i := k) ([o]) (wn rfl) rfl rfl rfl Try.underlying39 Fsiz29 S H rfl rfl (by omega) (fun q u hu => by rw [add_plain, H.cell (b := bl) inferInstance]; simpa using hu) fives ones (by simp only [List.length_drop, List.length_singleton]; omega) (by rw [List.length_append, hlt]; omega) (by simp only [List.length_drop, List.length_singleton]; omega) fun a w S H => ?_)
    rw [hA.1, hA.2] at H
    refine gnt ?_
    have S := ((((((S.nil.cons S 2 rfl).cons S 1 rfl).cons S 0 rfl).cons S 6 rfl).cons S 7 rfl).cons S 8 rfl).cons S 9 rfl
    refine g_seq ?_
    refine region_st (loud := [8]) (tails := [8]) (free := []) [0, 1, 2, 3, 4, 5, 6, 7, 8] [] Fmo (by kernel_rfl) (by kernel_rfl) rfl H ?_
    refine m_w rfl rfl (wn rfl) rfl rfl S (fun w H => y_move rfl S rfl) fun a S => ?_
    refine m_w rfl rfl (wn rfl) rfl rfl S (fun w H => y_move rfl S rfl) fun a S => ?_
    refine m_w rfl rfl (wn rfl) rfl rfl S (fun w H => y_move rfl S rfl) fun a S => ?_
    refine m_w rfl rfl (wn rfl) rfl rfl S (fun w H => y_add rfl S rfl rfl (by omega)) fun a S => ?_
    refine m_w rfl rfl (wn rfl) rfl rfl S (fun w H => (y_sliceX (i := k + 1) rfl Try.underlying39 Fsiz29 S rfl rfl (by omega) (by omega) (by omega))) fun a S => ?_
    refine m_w rfl rfl (wn rfl) rfl rfl S (fun w H => y_move rfl S rfl) fun a S => ?_
    refine m_w rfl rfl (wn rfl) rfl rfl S (fun w H => y_move rfl S rfl) fun a S => ?_
    refine m_w rfl rfl (wn rfl) rfl rfl S (fun w H => (y_sliceX (i := k) rfl Try.underlying39 Fsiz29 S rfl rfl (by omega) (by omega) (by omega))) fun a S => ?_
    refine m_l rfl rfl (fun w H => op_copyE (m := xs.length + 1) (c := c2) (i := k + 1) (xs.drop k) (wn rfl) rfl rfl rfl Try.underlying39 Fsiz29 S H rfl rfl (by omega) (fun q u hu => by rw [add_plain, Nat.zero_add]; exact (show IsOSl _ _ _ _ _ _ from H.tail.hd).cells k q u hk hu) fives ones (by simp only [List.length_drop, List.length_singleton]; omega) (by simp only [List.length_append, hlt, List.length_singleton, List.length_replicate]; omega) (by simp only [List.length_drop, List.length_singleton]; omega) fun a w S H => m_tail H rfl ?_)
    refine m_nil (fun w H => ?_)
    refine n_then ?_
    have S := ((((((S.nil.cons S 2 rfl).cons S 1 rfl).cons S 0 rfl).cons S 6 rfl).cons S 7 rfl).cons S 8 rfl).cons S 9 rfl
    refine gsr ?_
    refine gm S fun a S => ?_
    refine ga S fun a S => ?_
    refine gnt ?_
    refine g_ret ?_
    refine r_then (ret1 rfl S rfl ?_)
    rw [hB.1, hB.2] at H
    exact H.sub (List.Sublist.cons_cons _ (List.Sublist.cons _ (List.sublist_cons_self _ _)))
   ·have h3p := h3; try simp only [DL] at h3p
    have hgc : xs.length + 1 ≤ c := by omega
    refine g_skip ?_
    refine n_then ?_
    refine gsr ?_
    refine gm S fun a S => ?_
    refine gm S fun a S => ?_
    refine gm S fun a S => ?_
    refine gy rfl rfl rfl S (y_add rfl S rfl rfl (by omega)) fun a S => ?_
    refine gy rfl rfl rfl S ((y_sliceY (j := xs.length + 1) rfl Try.underlying39 Fsiz29 S rfl rfl (by omega))) fun a S => ?_
    refine ga S fun a S => ?_
    refine gnt ?_
    have S := (((((S.nil.cons S 2 rfl).cons S 1 rfl).cons S 6 rfl).cons S 7 rfl).cons S 8 rfl).cons S 0 rfl
    refine g_seq ?_
    refine gsr ?_
    refine gm S fun a S => ?_
    refine gm S fun a S => ?_
    refine gm S fun a S => ?_
    refine gm S fun a S => ?_
    refine gy rfl rfl rfl S (y_add rfl S rfl rfl (by omega)) fun a S => ?_
    refine gy rfl rfl rfl S ((y_sliceX (i := k + 1) rfl Try.underlying39 Fsiz29 S rfl rfl (by omega) (by omega) (by omega))) fun a S => ?_
    refine gy rfl rfl rfl S ((y_extern rfl S rfl (over_run H (by omega)))) fun a S => ?_
    refine gy rfl rfl rfl S (y_not rfl S rfl) fun a S => ?_
    refine gnt ?_
    have S := ((((((S.nil.cons S 2 rfl).cons S 1 rfl).cons S 6 rfl).cons S 7 rfl).cons S 8 rfl).cons S 0 rfl).cons S 68 rfl
    refine c_if S rfl (fun h4 => ?_) (fun h4 => ?_)
    ·have h4p := h4; try simp only [DL] at h4p
     refine g_seq ?_
     refine region_st (loud := [8]) (tails := [8]) (free := []) [0, 1, 2, 3, 4, 5, 6, 7, 8] [] Fmo (by kernel_rfl) (by kernel_rfl) rfl H ?_
     refine m_w rfl rfl (wn rfl) rfl rfl S (fun w H => y_move rfl S rfl) fun a S => ?_
     refine m_w rfl rfl (wn rfl) rfl rfl S (fun w H => y_move rfl S rfl) fun a S => ?_
     refine m_w rfl rfl (wn rfl) rfl rfl S (fun w H => y_move rfl S rfl) fun a S => ?_
     refine m_w rfl rfl (wn rfl) rfl rfl S (fun w H => y_add rfl S rfl rfl (by omega)) fun a S => ?_
     refine m_w rfl rfl (wn rfl) rfl rfl S (fun w H => (y_sliceX (i := k + 1) rfl Try.underlying39 Fsiz29 S rfl rfl (by omega) (by omega) (by omega))) fun a S => ?_
     refine m_w rfl rfl (wn rfl) rfl rfl S (fun w H => y_move rfl S rfl) fun a S => ?_
     refine m_w rfl rfl (wn rfl) rfl rfl S (fun w H => y_move rfl S rfl) fun a S => ?_
     refine m_w rfl rfl (wn rfl) rfl rfl S (fun w H => (y_sliceX (i := k) rfl Try.underlying39 Fsiz29 S rfl rfl (by omega) (by omega) (by omega))) fun a S => ?_
     refine m_l rfl rfl (fun w H => op_copyE (m := xs.length) (c := c) (i := k + 1) (xs.drop k) (wn rfl) rfl rfl rfl Try.underlying39 Fsiz29 S H rfl rfl (by omega) (fun q u hu => by rw [add_plain, Nat.zero_add]; exact (show IsOSl _ _ _ _ _ _ from H.hd).cells k q u hk hu) fives ones (by simp only [List.length_drop, List.length_singleton]; omega) (by omega) (by simp only [List.length_drop, List.length_singleton]; omega) fun a w S H => m_tail H rfl ?_)
     refine m_nil (fun w H => ?_)
     refine n_then ?_
     have S := (((((S.nil.cons S 2 rfl).cons S 1 rfl).cons S 6 rfl).cons S 7 rfl).cons S 8 rfl).cons S 0 rfl
     refine gsr ?_
     refine gm S fun a S => ?_
     rw [hC.1, hC.2] at H
     refine gm S fun a S => ?_
     refine gy rfl rfl rfl S ((y_sliceX (i := k) rfl Try.underlying39 Fsiz29 S rfl rfl (by omega) (by omega) (by omega))) fun a S => ?_
     refine gm S fun a S => ?_
     refine wl_of (op_copyE (m := xs.length + 1) (c := c) (i := k) ([o]) (wn rfl) rfl rfl rfl Try.underlying39 Fsiz29 S H rfl rfl (by omega) (fun q u hu => by rw [add_plain, H.cell (b := bl) inferInstance]; simpa using hu) fives ones (by simp only [List.length_drop, List.length_singleton]; omega) (by simp only [List.length_append, List.length_take, List.length_drop]; omega) (by simp only [List.length_drop, List.length_singleton]; omega) fun a w S H => ?_)
     rw [hD.1, hD.2] at H
     refine gnt ?_
     have S := (((((S.nil.cons S 2 rfl).cons S 1 rfl).cons S 6 rfl).cons S 7 rfl).cons S 8 rfl).cons S 0 rfl
     refine gsr ?_
     refine gm S fun a S => ?_
     refine ga S fun a S => ?_
     refine gnt ?_
     refine g_ret ?_
     refine r_then (ret1 rfl S rfl ?_)
     exact H.mid (xs := [_])
    ·have h4p := h4; try simp only [DL] at h4p
     all_goals (
       exact absurd h4 (by simp))
/-- slices.Grow[[]foyer/api.Order,foyer/api.Order] -/
theorem grow_spec (m : Nat) (w0 : World) (hm : m ≤ 200000) :
    Ret Try.prog 44 #[.slice none 0 0, .int .i64 (m : Int)] w0 (fun u w => HSat No w0 [OSl 29 u 5 Ord.enc []] w) := by
 refine ret_of_wp (nt := 27) Try.func44 rfl rfl rfl (fl := [(0, .slice none 0 0), (1, .int .i64 (m : Int))]) rfl (fun a S => ?_)
 have H := HSat.start w0
 refine gsr ?_
 refine ga S fun a S => ?_
 refine gnt ?_
 refine g_seq ?_
 refine gsr ?_
 refine gm S fun a S => ?_
 refine gy rfl rfl rfl S (y_bin rfl S rfl rfl rfl) fun a S => ?_
 refine gnt ?_
 refine c_if S rfl (fun h1 => ?_) (fun h1 => ?_)
 ·have h1p := h1; try simp only [DL] at h1p
  all_goals (
    exact absurd h1 (by simp))
 ·have h1p := h1; try simp only [DL] at h1p
  refine g_skip ?_
  refine n_then ?_
  refine g_seq ?_
  refine gsr ?_
  refine gm S fun a S => ?_
  refine gm S fun a S => ?_
  refine gy rfl rfl rfl S (y_cap rfl Try.underlying39 S rfl) fun a S => ?_
  refine gm S fun a S => ?_
  refine gy rfl rfl rfl S (y_len rfl Try.underlying39 S rfl) fun a S => ?_
  refine gy rfl rfl rfl S (y_sub rfl S rfl rfl (by omega)) fun a S => ?_
  refine gy rfl rfl rfl S (y_sub rfl S rfl rfl (by omega)) fun a S => ?_
  rw [show ((m : Int) - (((0 : Nat) : Int) - ((0 : Nat) : Int))) = (m : Int) by omega] at S
  refine ga S fun a S => ?_
  refine gnt ?_
  have S := ((S.nil.cons S 0 rfl).cons S 4 rfl).cons S 1 rfl
  refine gsr ?_
  refine gm S fun a S => ?_
  refine gy rfl rfl rfl S (y_bin rfl S rfl rfl rfl) fun a S => ?_
  refine gnt ?_
  refine c_if S rfl (fun h2 => ?_) (fun h2 => ?_)
  ·have h2p := h2; try simp only [DL] at h2p
   refine g_region ?_
   refine gm S fun a S => ?_
   refine gm S fun a S => ?_
   refine gy rfl rfl rfl S (y_cap rfl Try.underlying39 S rfl) fun a S => ?_
   refine gy rfl rfl rfl S ((y_sliceY (j := 0) rfl Try.underlying39 Fsiz29 S rfl rfl (by omega))) fun a S => ?_
   refine gm S fun a S => ?_
   refine wl_of (op_appendZ (enc := Ord.enc) (i := 0) (m := m) (c := 0) [] Ord.z (wn rfl) rfl rfl rfl Try.underlying39 Try.underlying3 Finf29 rfl rfl rfl S H rfl rfl (fun j u hu => by simp at hu) rfl (fun _ => rfl) (by simp) (by omega) (by omega) (by omega) (by omega) fun g2 c2 a w hc2 S H => ?_)
   refine gm S fun a S => ?_
   refine gy rfl rfl rfl S (y_len rfl Try.underlying39 S rfl) fun a S => ?_
   refine gy rfl rfl rfl S ((y_sliceY (j := 0) rfl Try.underlying39 Fsiz29 S rfl rfl (by omega))) fun a S => ?_
   refine ga S fun a S => ?_
   refine gnt ?_
   have S := (S.nil.cons S 4 rfl).cons S 0 rfl
   refine gsr ?_
   refine gm S fun a S => ?_
   refine ga S fun a S => ?_
   refine gnt ?_
   refine g_ret ?_
   refine ret1 rfl S rfl ?_
   exact H.cutO (by simp) 0 (Nat.zero_le _)
  ·have h2p := h2; try simp only [DL] at h2p
   refine g_skip ?_
   refine n_then ?_
   refine gsr ?_
   refine gm S fun a S => ?_
   refine ga S fun a S => ?_
   refine gnt ?_
   have S := S.nil.cons S 4 rfl
   refine g_ret ?_
   refine ret1 rfl S rfl ?_
   exact (H.nilO 29 5 Ord.enc).take [OSl 29 (.slice none 0 0) 5 Ord.enc []]
set_option maxHeartbeats 1000000 in
/-- slices.Concat[[]foyer/api.Order,foyer/api.Order] -/
theorem concat_spec (v : Value) (ps : List (Value × List Ord)) (w0 : World) (hv : IsSl w0 v 1 encRow ps) (hr : ∀ p ∈ ps, IsSl w0 p.1 5 Ord.enc p.2) (hl : (catO ps).length ≤ 200000) :
    Ret Try.prog 36 #[v] w0 (fun u w => HSat No w0 [OSl 29 u 5 Ord.enc (catO ps)] w) := by
 refine ret_of_wp (nt := 36) Try.func36 rfl rfl rfl (fl := [(0, v)]) rfl (fun a S => ?_)
 have H := HSat.start w0
 have H := H.ro0 (Sl v 1 encRow ps) rfl (hv)
 have H := H.ro0 (RowsS 5 Ord.enc ps) rfl (hr)
 have hlen := hv.len
 refine gsr ?_
 refine ga S fun a S => ?_
 refine gnt ?_
 refine gsr ?_
 refine ga S fun a S => ?_
 refine gnt ?_
 refine g_seq ?_
 refine gsr ?_
 refine gm S fun a S => ?_
 refine gy rfl rfl rfl S (y_lens rfl Try.underlying74 S H rfl) fun a S => ?_
 refine gm S fun a S => ?_
 refine gnt ?_
 refine g_block ?_
 have SU := (((S.nil.cons S 0 rfl).cons S 2 rfl).cons S 9 rfl).cons S 10 rfl
 refine loop_k (X := Nat) SU (fun k => [(3, .int .i64 ((catO (ps.take k)).length : Int)), (11, .int .i64 (k : Int))]) (fun k => k ≤ ps.length) (fun k => ps.length - k) 0 ((S.nil.cons S 11 rfl).cons S 3 rfl) H (Nat.zero_le _) (fun k a w S H hi => ?_)
 simp only [List.cons_append, List.nil_append] at S hi
 refine gsr ?_
 refine gy rfl rfl rfl S (y_bin rfl S rfl rfl rfl) fun a S => ?_
 refine gnt ?_
 refine g_seq ?_
 refine c_if S rfl (fun h1 => ?_) (fun h1 => ?_)
 ·have h1p := h1; try simp only [DL] at h1p
  have hct := catO_take (show k < ps.length by omega)
  have hcl := catO_le ps (k + 1)
  rw [hct, List.length_append] at hcl
  refine g_skip ?_
  refine n_then ?_
  refine g_seq ?_
  refine g_block ?_
  refine gsr ?_
  refine gy rfl rfl rfl S (y_iaddrn rfl Try.underlying74 Fsiz39 S H rfl rfl (by first | assumption | omega | (simp only [LL]; omega))) fun a S => ?_
  refine gy rfl rfl rfl S (y_loads _ rfl Fsca39 S H rfl (by first | assumption | omega | (simp only [LL]; omega)) rfl) fun a S => ?_
  refine ga S fun a S => ?_
  refine gnt ?_
  refine gsr ?_
  refine gm S fun a S => ?_
  refine gm S fun a S => ?_
  refine gy rfl rfl rfl S (y_lens rfl Try.underlying39 S H rfl) fun a S => ?_
  refine gy rfl rfl rfl S (y_add rfl S rfl rfl (by omega)) fun a S => ?_
  refine ga S fun a S => ?_
  refine gnt ?_
  have S := (((((S.nil.cons S 0 rfl).cons S 2 rfl).cons S 9 rfl).cons S 10 rfl).cons S 11 rfl).cons S 3 rfl
  refine gsr ?_
  refine gm S fun a S => ?_
  refine gy rfl rfl rfl S (y_bin rfl S rfl rfl rfl) fun a S => ?_
  refine gnt ?_
  refine c_if S rfl (fun h2 => ?_) (fun h2 => ?_)
  ·have h2p := h2; try simp only [DL] at h2p
   all_goals (
     have := h2p; omega)
  ·have h2p := h2; try simp only [DL] at h2p
   refine g_skip ?_
   refine n_block ?_
   refine n_then ?_
   refine g_region ?_
   refine gy rfl rfl rfl S (y_add rfl S rfl rfl (by omega)) fun a S => ?_
   refine gm S fun a S => ?_
   refine gnt ?_
   refine ⟨k + 1, (S.nil.cons S 11 rfl).cons S 3 (by rw [hct, List.length_append]; rfl), (((S.nil.cons S 0 rfl).cons S 2 rfl).cons S 9 rfl).cons S 10 rfl, H, by omega, by omega⟩
 ·have h1p := h1; try simp only [DL] at h1p
  obtain rfl : k = ps.length := by omega
  rw [List.take_length] at S
  refine g_exit ?_
  refine x_then (x_then (x_eq ?_))
  refine n_then ?_
  have S := ((S.nil.cons S 0 rfl).cons S 2 rfl).cons S 3 rfl
  refine gsr ?_
  refine gm S fun a S => ?_
  refine wl_of (op_call (wn rfl) rfl rfl S (co_func rfl Try.call44 S rfl) (grow_spec _ _ hl) fun u24 w hc a S => ?_)
  have H1 := hc
  have H := H.call1 H1 rfl
  refine ga S fun a S => ?_
  refine gnt ?_
  refine g_seq ?_
  refine gsr ?_
  refine gm S fun a S => ?_
  refine gy rfl rfl rfl S (y_lens rfl Try.underlying74 S H rfl) fun a S => ?_
  refine gm S fun a S => ?_
  refine gnt ?_
  have S := ((((S.nil.cons S 2 rfl).cons S 6 rfl).cons S 25 rfl).cons S 26 rfl).cons S 27 rfl
  refine g_block ?_
  have SU := ((S.nil.cons S 2 rfl).cons S 25 rfl).cons S 26 rfl
  refine loopW (X := Nat × Value) SU (fun x => [(6, x.2), (27, .int .i64 (x.1 : Int))]) (fun x w => x.1 ≤ ps.length ∧ HSat No w0 [OSl 29 x.2 5 Ord.enc (catO (ps.take x.1)), RowsS 5 Ord.enc ps, Sl v 1 encRow ps] w) (fun x => ps.length - x.1) (0, u24) ((S.nil.cons S 27 rfl).cons S 6 rfl) (⟨Nat.zero_le _, H⟩) (fun x a w S hW => ?_)
  simp only [List.cons_append, List.nil_append] at S
  obtain ⟨k, s⟩ := x
  obtain ⟨hk, H⟩ := hW
  dsimp only at S H hk
  refine gsr ?_
  refine gy rfl rfl rfl S (y_bin rfl S rfl rfl rfl) fun a S => ?_
  refine gnt ?_
  refine g_seq ?_
  refine c_if S rfl (fun h3 => ?_) (fun h3 => ?_)
  ·have h3p := h3; try simp only [DL] at h3p
   have hct := catO_take (show k < ps.length by omega)
   have hcl := catO_le ps (k + 1)
   rw [hct, List.length_append] at hcl
   refine g_skip ?_
   refine n_then ?_
   refine g_seq ?_
   refine g_block ?_
   refine gsr ?_
   refine gy rfl rfl rfl S (y_iaddrn rfl Try.underlying74 Fsiz39 S H rfl rfl (by first | assumption | omega | (simp only [LL]; omega))) fun a S => ?_
   refine gy rfl rfl rfl S (y_loads _ rfl Fsca39 S H rfl (by first | assumption | omega | (simp only [LL]; omega)) rfl) fun a S => ?_
   refine ga S fun a S => ?_
   refine gnt ?_
   refine g_region ?_
   refine gm S fun a S => ?_
   refine gm S fun a S => ?_
   refine wl_of (op_appendT (wn rfl) rfl rfl rfl Try.underlying39 Finf29 rfl rfl S H rfl rfl (by simp [Ord.enc, Value.oneCell']) (by first | assumption | omega | (simp only [LL]; omega)) (by first | assumption | omega | (simp only [LL]; omega)) fun u33 a w S H => ?_)
   refine ga S fun a S => ?_
   refine gl_nil ?_
   refine n_block ?_
   refine n_then ?_
   have S := ((((S.nil.cons S 2 rfl).cons S 25 rfl).cons S 26 rfl).cons S 27 rfl).cons S 6 rfl
   refine g_region ?_
   refine gy rfl rfl rfl S (y_add rfl S rfl rfl (by omega)) fun a S => ?_
   refine gm S fun a S => ?_
   refine gnt ?_
   rw [← hct] at H
   exact ⟨(k + 1, u33), (S.nil.cons S 27 rfl).cons S 6 rfl, ((S.nil.cons S 2 rfl).cons S 25 rfl).cons S 26 rfl, ⟨by dsimp only; omega, H⟩, by dsimp only; omega⟩
  ·have h3p := h3; try simp only [DL] at h3p
   obtain rfl : k = ps.length := by omega
   rw [List.take_length] at H
   refine g_exit ?_
   refine x_then (x_then (x_eq ?_))
   refine n_then ?_
   have S := (S.nil.cons S 2 rfl).cons S 6 rfl
   refine gsr ?_
   refine gm S fun a S => ?_
   refine ga S fun a S => ?_
   refine gnt ?_
   refine g_ret ?_
   refine ret1 rfl S rfl ?_
   exact H.take [OSl 29 s 5 Ord.enc (catO ps)]
/-- foyer/foyerref33.Same -/
theorem same_spec (va vb : Value) (xs ys : List Ord) (w0 : World) (ha : IsSl w0 va 5 Ord.enc xs) (hb : IsSl w0 vb 5 Ord.enc ys) :
    Ret Try.prog 15 #[va, vb] w0 (fun u w => u = .bool (decide (xs = ys)) ∧ Ext w0 w) := by
 refine ret_of_wp (nt := 26) Try.func15 rfl rfl rfl (fl := [(0, va), (1, vb)]) rfl (fun a S => ?_)
 have H := HSat.start w0
 have H := H.ro0 (Sl va 5 Ord.enc xs) rfl (ha)
 have H := H.ro0 (Sl vb 5 Ord.enc ys) rfl (hb)
 have hl1 := ha.len
 refine gsr ?_
 refine ga S fun a S => ?_
 refine gnt ?_
 refine g_seq ?_
 refine gsr ?_
 refine gm S fun a S => ?_
 refine gy rfl rfl rfl S (y_lens rfl Try.underlying39 S H rfl) fun a S => ?_
 refine gm S fun a S => ?_
 refine gy rfl rfl rfl S (y_lens rfl Try.underlying39 S H rfl) fun a S => ?_
 refine gy rfl rfl rfl S (y_bin rfl S rfl rfl rfl) fun a S => ?_
 refine gnt ?_
 have S := (((S.nil.cons S 1 rfl).cons S 0 rfl).cons S 4 rfl).cons S 10 rfl
 refine c_if S rfl (fun h1 => ?_) (fun h1 => ?_)
 ·have h1p := h1; try simp only [DL] at h1p
  refine gsr ?_
  refine ga S fun a S => ?_
  refine gnt ?_
  refine g_ret ?_
  refine r_then (ret1 rfl S rfl ?_)
  refine ⟨congrArg Value.bool ?_, H.toExt⟩
  symm; rw [decide_eq_false_iff_not]; rintro rfl; simp at h1
 ·have h1p := h1; try simp only [DL] at h1p
  refine g_skip ?_
  refine n_then ?_
  refine g_seq ?_
  refine gsr ?_
  refine ga S fun a S => ?_
  refine gnt ?_
  refine g_block ?_
  have SU := (S.nil.cons S 1 rfl).cons S 0 rfl
  refine loop_k (X := Nat) SU (fun k => [(5, .int .i64 (k : Int))]) (fun k => k ≤ xs.length ∧ xs.take k = ys.take k) (fun k => xs.length - k) 0 (S.nil.cons S 5 rfl) H (⟨by omega, rfl⟩) (fun k a w S H hi => ?_)
  simp only [List.cons_append, List.nil_append] at S hi
  obtain ⟨hk, htk⟩ := hi
  refine g_seq ?_
  refine gsr ?_
  refine gm S fun a S => ?_
  refine gm S fun a S => ?_
  refine gy rfl rfl rfl S (y_lens rfl Try.underlying39 S H rfl) fun a S => ?_
  refine gy rfl rfl rfl S (y_bin rfl S rfl rfl rfl) fun a S => ?_
  refine gnt ?_
  refine c_if S rfl (fun h2 => ?_) (fun h2 => ?_)
  ·have h2p := h2; try simp only [DL] at h2p
   refine g_skip ?_
   refine n_then ?_
   have S := ((S.nil.cons S 1 rfl).cons S 0 rfl).cons S 5 rfl
   refine g_seq ?_
   refine g_block ?_
   refine g_seq ?_
   refine region_st (loud := []) (tails := []) (free := []) [0, 1, 2, 3, 4, 5, 6, 7, 8] [] Fmo (by kernel_rfl) (by kernel_rfl) rfl H ?_
   refine m_w rfl rfl (wn rfl) rfl rfl S (fun w H => y_move rfl S rfl) fun a S => ?_
   refine m_w rfl rfl (wn rfl) rfl rfl S (fun w H => y_move rfl S rfl) fun a S => ?_
   refine m_w rfl rfl (wn rfl) rfl rfl S (fun w H => y_iaddrn rfl Try.underlying39 Fsiz29 S H rfl rfl (by first | assumption | omega | (simp only [LL]; omega))) fun a S => ?_
   refine m_loadsa _ rfl rfl (wn rfl) rfl rfl S rfl rfl (by exact Fagg29) (by first | assumption | omega | (simp only [LL]; omega)) fun a S => ?_
   refine m_w rfl rfl (wn rfl) rfl rfl S (fun w H => y_move rfl S rfl) fun a S => ?_
   refine m_w rfl rfl (wn rfl) rfl rfl S (fun w H => y_move rfl S rfl) fun a S => ?_
   refine m_w rfl rfl (wn rfl) rfl rfl S (fun w H => y_iaddrn rfl Try.underlying39 Fsiz29 S H rfl rfl (by first | assumption | omega | (simp only [LL]; omega))) fun a S => ?_
   refine m_loadsa _ rfl rfl (wn rfl) rfl rfl S rfl rfl (by exact Fagg29) (by first | assumption | omega | (simp only [LL]; omega)) fun a S => ?_
   refine m_w rfl rfl (wn rfl) rfl rfl S (fun w H => y_nea (ordEq _ _) rfl Feqg29 S rfl rfl) fun a S => ?_
   refine m_nil (fun w H => ?_)
   refine n_then ?_
   have S := (((S.nil.cons S 1 rfl).cons S 0 rfl).cons S 5 rfl).cons S 25 rfl
   refine c_if S rfl (fun h3 => ?_) (fun h3 => ?_)
   ·have h3p := h3; try simp only [DL] at h3p
    refine gsr ?_
    refine ga S fun a S => ?_
    refine gnt ?_
    refine g_ret ?_
    refine r_block (r_then (r_then (r_block (r_then (ret1 rfl S rfl ?_)))))
    refine ⟨congrArg Value.bool ?_, H.toExt⟩
    symm; rw [decide_eq_false_iff_not]; rintro rfl; simp at h3
   ·have h3p := h3; try simp only [DL] at h3p
    refine g_skip ?_
    refine n_block ?_
    refine n_then ?_
    refine g_region ?_
    refine gm S fun a S => ?_
    refine gy rfl rfl rfl S (y_add rfl S rfl rfl (by omega)) fun a S => ?_
    refine ga S fun a S => ?_
    refine gnt ?_
    refine ⟨k + 1, S.nil.cons S 5 rfl, (S.nil.cons S 1 rfl).cons S 0 rfl, H, ?_, ?_⟩
    · exact ⟨by omega, by rw [List.take_succ_eq_append_getElem (by omega), List.take_succ_eq_append_getElem (by omega), htk, show xs[k] = ys[k] from h3p]⟩
    · omega
  ·have h2p := h2; try simp only [DL] at h2p
   refine g_exit ?_
   refine x_then (x_then (x_eq ?_))
   refine n_then ?_
   have S := S.nil
   refine gsr ?_
   refine ga S fun a S => ?_
   refine gnt ?_
   refine g_ret ?_
   refine ret1 rfl S rfl ?_
   refine ⟨congrArg Value.bool ?_, H.toExt⟩
   symm; rw [decide_eq_true_eq]
   obtain rfl : k = xs.length := by omega
   rwa [List.take_length, List.take_of_length_le (by omega)] at htk
end Go.Proofs.Ytcgpbalpihkiiaa
