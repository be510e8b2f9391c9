/- The walks. No condition. -/
import Derived.Test.YtcgpbalpihkiiaaChecked
import Derived.Test.YtcgpbalpihkiiaaGwIns
import Derived.Test.YtcgpbalpihkiiaaFacts
import Derived.Test.YtcgpbalpihkiiaaPlain
import Derived.Test.YtcgpbalpihkiiaaW4
namespace Go.Proofs.Ytcgpbalpihkiiaa
open Go Go.Gw
set_option linter.unusedVariables false
set_option linter.unusedSimpArgs false
/-- (*foyer/book.Book).sides -/
theorem sides_sell (b : Nat) (o : Ord) (hs : o.sell = true) (w0 : World) :
    Ret Try.prog 30 #[.pointer (some ⟨b, 0, none⟩), .agg (Ord.enc o).toArray] w0 (fun u w => u = .tuple #[.pointer (some ⟨b, 0, none⟩), .pointer (some ⟨b, 1, none⟩)] ∧ Ext w0 w) := by
 refine ret_of_wp (nt := 20) Try.func30 rfl rfl rfl (fl := [(0, .pointer (some ⟨b, 0, none⟩)), (1, .agg (Ord.enc o).toArray)]) rfl (fun a S => ?_)
 have H := HSat.start w0
 refine gsr ?_
 refine wl_of (op_boxa (wn rfl) rfl rfl rfl S H rfl fun b3 a w S H => ?_)
 refine ga S fun a S => ?_
 refine ga S fun a S => ?_
 refine gnt ?_
 refine g_seq ?_
 refine gsr ?_
 refine gy rfl rfl rfl S (y_faddrb rfl Ffo29_2 S rfl) fun a S => ?_
 refine gy rfl rfl rfl S (y_load rfl Fsca4 S H rfl rfl) fun a S => ?_
 refine gnt ?_
 refine c_if S rfl (fun h1 => ?_) (fun h1 => ?_)
 ·have h1p := h1; try simp only [DL] at h1p
  refine g_seq ?_
  refine region_st (loud := []) (tails := []) (free := []) [0, 1, 2, 3, 4, 5, 6, 7] [] Fmo (by kernel_rfl) (by kernel_rfl) rfl H ?_
  refine m_w rfl rfl (wn rfl) rfl rfl S (fun w H => y_move rfl S rfl) fun a S => ?_
  refine m_w rfl rfl (wn rfl) rfl rfl S (fun w H => y_nilCheck rfl S rfl) fun a S => ?_
  refine m_w rfl rfl (wn rfl) rfl rfl S (fun w H => y_faddrb rfl Ffo51_0 S rfl) fun a S => ?_
  refine m_w rfl rfl (wn rfl) rfl rfl S (fun w H => y_move rfl S rfl) fun a S => ?_
  refine m_w rfl rfl (wn rfl) rfl rfl S (fun w H => y_nilCheck rfl S rfl) fun a S => ?_
  refine m_w rfl rfl (wn rfl) rfl rfl S (fun w H => y_faddrb rfl Ffo51_1 S rfl) fun a S => ?_
  refine m_w rfl rfl (wn rfl) rfl rfl S (fun w H => y_assign rfl S rfl) fun a S => ?_
  refine m_w rfl rfl (wn rfl) rfl rfl S (fun w H => y_assign rfl S rfl) fun a S => ?_
  refine m_nil (fun w H => ?_)
  refine n_then ?_
  have S := ((S.nil.cons S 0 rfl).cons S 4 rfl).cons S 5 rfl
  refine g_ret ?_
  refine r_then (ret2 rfl S rfl rfl ?_)
  exact ⟨rfl, H.toExt⟩
 ·have h1p := h1; try simp only [DL] at h1p
  all_goals (
    rw [hs] at h1; cases h1)
/-- (*foyer/book.Book).sides -/
theorem sides_bid (b : Nat) (o : Ord) (hs : o.sell = false) (w0 : World) :
    Ret Try.prog 30 #[.pointer (some ⟨b, 0, none⟩), .agg (Ord.enc o).toArray] w0 (fun u w => u = .tuple #[.pointer (some ⟨b, 1, none⟩), .pointer (some ⟨b, 0, none⟩)] ∧ Ext w0 w) := by
 refine ret_of_wp (nt := 20) Try.func30 rfl rfl rfl (fl := [(0, .pointer (some ⟨b, 0, none⟩)), (1, .agg (Ord.enc o).toArray)]) rfl (fun a S => ?_)
 have H := HSat.start w0
 refine gsr ?_
 refine wl_of (op_boxa (wn rfl) rfl rfl rfl S H rfl fun b3 a w S H => ?_)
 refine ga S fun a S => ?_
 refine ga S fun a S => ?_
 refine gnt ?_
 refine g_seq ?_
 refine gsr ?_
 refine gy rfl rfl rfl S (y_faddrb rfl Ffo29_2 S rfl) fun a S => ?_
 refine gy rfl rfl rfl S (y_load rfl Fsca4 S H rfl rfl) fun a S => ?_
 refine gnt ?_
 refine c_if S rfl (fun h1 => ?_) (fun h1 => ?_)
 ·have h1p := h1; try simp only [DL] at h1p
  all_goals (
    rw [hs] at h1; cases h1)
 ·have h1p := h1; try simp only [DL] at h1p
  refine g_skip ?_
  refine n_then ?_
  have S := ((S.nil.cons S 0 rfl).cons S 4 rfl).cons S 5 rfl
  refine g_seq ?_
  refine region_st (loud := []) (tails := []) (free := []) [0, 1, 2, 3, 4, 5, 6, 7] [] Fmo (by kernel_rfl) (by kernel_rfl) rfl H ?_
  refine m_w rfl rfl (wn rfl) rfl rfl S (fun w H => y_move rfl S rfl) fun a S => ?_
  refine m_w rfl rfl (wn rfl) rfl rfl S (fun w H => y_nilCheck rfl S rfl) fun a S => ?_
  refine m_w rfl rfl (wn rfl) rfl rfl S (fun w H => y_faddrb rfl Ffo51_1 S rfl) fun a S => ?_
  refine m_w rfl rfl (wn rfl) rfl rfl S (fun w H => y_move rfl S rfl) fun a S => ?_
  refine m_w rfl rfl (wn rfl) rfl rfl S (fun w H => y_nilCheck rfl S rfl) fun a S => ?_
  refine m_w rfl rfl (wn rfl) rfl rfl S (fun w H => y_faddrb rfl Ffo51_0 S rfl) fun a S => ?_
  refine m_w rfl rfl (wn rfl) rfl rfl S (fun w H => y_assign rfl S rfl) fun a S => ?_
  refine m_w rfl rfl (wn rfl) rfl rfl S (fun w H => y_assign rfl S rfl) fun a S => ?_
  refine m_nil (fun w H => ?_)
  refine n_then ?_
  have S := (S.nil.cons S 4 rfl).cons S 5 rfl
  refine g_ret ?_
  refine ret2 rfl S rfl rfl ?_
  exact ⟨rfl, H.toExt⟩
set_option maxHeartbeats 2000000 in
/-- (*foyer/book.Book).Place -/
theorem place_spec {M : Nat → Prop} {u0 : World} {l : List Atom} (b mb : Nat) (vo vb : Value) (s : Bk) (o : Ord) (w0 : World) (h0 : HSat M u0 (BookL b mb vo vb s ++ l) w0) (ho : o.ok) (hlo : s.offers.length ≤ 1000) (hlb : s.bids.length ≤ 1000) (hw : s.Srt) :
    Ret Try.prog 13 #[.pointer (some ⟨b, 0, none⟩), .agg (Ord.enc o).toArray] w0 (fun u w => u = .tuple #[.agg (Trd.enc (placeR s o).1).toArray, .bool (placeR s o).2.1, .int .i64 (placeR s o).2.2] ∧ ∃ vo' vb', HSat M u0 (BookL b mb vo' vb' (placeS s o) ++ l) w) := by
 refine ret_of_wp (nt := 131) Try.func13 rfl rfl rfl (fl := [(0, .pointer (some ⟨b, 0, none⟩)), (1, .agg (Ord.enc o).toArray)]) rfl (fun a S => ?_)
 have H := h0
 simp only [BookL, List.cons_append, List.nil_append] at H
 refine gsr ?_
 refine wl_of (op_boxa (wn rfl) rfl rfl rfl S H rfl fun b3 a w S H => ?_)
 refine wl_of (op_alloc (wn rfl) rfl rfl rfl S H Fzer35 fun b4 a w S H => ?_)
 refine ga S fun a S => ?_
 refine ga S fun a S => ?_
 refine gnt ?_
 refine g_seq ?_
 refine gsr ?_
 refine gm S fun a S => ?_
 refine gy rfl rfl rfl S (y_eqp rfl Try.underlying24 S rfl rfl) fun a S => ?_
 refine gm S fun a S => ?_
 refine gz 15 rfl S rfl rfl rfl rfl rfl rfl (y_load0 rfl S H rfl (by exact Fagg29)) fun a S => ?_
 refine wl_of (op_call (wg' 15 rfl rfl S rfl rfl rfl) rfl rfl S (co_func rfl Try.call27 S rfl) (valid_spec o _ ho) fun v w hc a S => ?_)
 obtain ⟨rfl, he⟩ := hc
 have H := H.ext he
 refine gz 15 rfl S rfl rfl rfl rfl rfl rfl (y_not rfl S rfl) fun a S => ?_
 refine gy rfl rfl rfl S (y_or' rfl rfl S rfl rfl) fun a S => ?_
 refine gnt ?_
 have S := (((((S.nil.cons S 0 rfl).cons S 3 rfl).cons S 4 rfl).cons S 5 rfl).cons S 6 rfl).cons S 19 rfl
 refine c_if S rfl (fun h2 => ?_) (fun h2 => ?_)
 ·have h2p := h2; try simp only [DL] at h2p
  have hbad : validB o = false := by simpa using h2
  refine gsr ?_
  refine gy rfl rfl rfl S (y_buildf rfl Fbld35 S rfl (idx := []) rfl (cs := [_, _, _]) rfl) fun a S => ?_
  refine wl_of (op_storea (wn rfl) rfl rfl S H rfl rfl rfl Fsiz35 rfl (cs' := [_, _, _]) rfl fun a w S H => ?_)
  refine ga S fun a S => ?_
  refine ga S fun a S => ?_
  refine gnt ?_
  have S := ((((S.nil.cons S 0 rfl).cons S 3 rfl).cons S 4 rfl).cons S 5 rfl).cons S 6 rfl
  refine g_ret ?_
  refine r_then (ret3ctt rfl S H rfl rfl rfl (by exact Fagg35) ?_)
  have hp2 := pl_bad (s := s) hbad
  rw [hp2.1, hp2.2]
  exact ⟨rfl, vo, vb, H.takeT [Cel b 51 [vo, vb, .map (some mb)], OSl 29 vo 5 Ord.enc (s.offers), OSl 29 vb 5 Ord.enc (s.bids), MapA mb (fun n : Int => Value.int .i64 n) (fun b : Bool => Value.bool b) (memS (s.ids)) (s.ids).length] l⟩
 ·have h2p := h2; try simp only [DL] at h2p
  have hva : validB o = true := by simpa using h2
  refine g_skip ?_
  refine n_then ?_
  refine gsr ?_
  refine gy rfl rfl rfl S (y_faddrb rfl Ffo29_2 S rfl) fun a S => ?_
  refine gy rfl rfl rfl S (y_load rfl Fsca4 S H rfl rfl) fun a S => ?_
  refine gm S fun a S => ?_
  refine' wl_and 6 23 rfl S H rfl rfl rfl rfl rfl rfl rfl (fun _ S => (wn rfl)) (fun h3 kk => ?yh3) (fun a w S H => ?_)
  case yh3 =>
   have h3p := h3; try simp only [DL] at h3p
   refine gz 23 h3 S rfl rfl rfl rfl rfl rfl (y_move rfl S rfl) fun a S => ?_
   refine gz 23 h3 S rfl rfl rfl rfl rfl rfl (y_nilCheck rfl S rfl) fun a S => ?_
   refine gz 23 h3 S rfl rfl rfl rfl rfl rfl (y_faddrb rfl Ffo51_0 S rfl) fun a S => ?_
   refine gz 23 h3 S rfl rfl rfl rfl rfl rfl (y_load rfl Fsca39 S H rfl rfl) fun a S => ?_
   refine gz 23 h3 S rfl rfl rfl rfl rfl rfl (y_makeFunc rfl S rfl rfl) fun a S => ?_
   refine wl_of (op_call (wg' 23 rfl rfl S rfl h3 rfl) rfl rfl S (co_func rfl Try.call28 S rfl) (has_spec vo s.offers 29 [.pointer (some ⟨b3, 0, none⟩)] Try.call29 (serP o) _ (H.sl vo) (fun x _ w1 hx => serP_spec x o b3 w1 ((H.ext hx).rd b3))) fun v w hc a S => ?_)
   obtain ⟨rfl, he⟩ := hc
   have H := H.ext he
   refine gy rfl rfl rfl S (y_and' rfl h3 S rfl rfl) fun a S => ?_
   exact kk _ _ (S.join 7 30 rfl rfl) H
  refine ga S fun a S => ?_
  refine gnt ?_
  have S := (((((S.nil.cons S 0 rfl).cons S 3 rfl).cons S 4 rfl).cons S 5 rfl).cons S 6 rfl).cons S 7 rfl
  refine g_seq ?_
  refine g_seq ?_
  refine region_st (loud := []) (tails := []) (free := []) [0, 1, 2, 3, 4, 5, 6, 7, 8, 9] [] Fmo (by kernel_rfl) (by kernel_rfl) rfl H ?_
  refine m_w rfl rfl (wn rfl) rfl rfl S (fun w H => y_move rfl S rfl) fun a S => ?_
  refine m_w rfl rfl (wn rfl) rfl rfl S (fun w H => y_nilCheck rfl S rfl) fun a S => ?_
  refine m_w rfl rfl (wn rfl) rfl rfl S (fun w H => y_faddrb rfl Ffo51_2 S rfl) fun a S => ?_
  refine m_w rfl rfl (wn rfl) rfl rfl S (fun w H => y_load rfl Fsca49 S H rfl rfl) fun a S => ?_
  refine m_w rfl rfl (wn rfl) rfl rfl S (fun w H => y_faddrb rfl Ffo29_0 S rfl) fun a S => ?_
  refine m_w rfl rfl (wn rfl) rfl rfl S (fun w H => y_load rfl Fsca3 S H rfl rfl) fun a S => ?_
  refine m_w rfl rfl (wn rfl) rfl rfl S (fun w H => y_lookup (_) (false) rfl Try.underlying49 Finf4 S H rfl (keyOK_int Try.underlying3) (by exact rfl) (by exact rfl)) fun a S => ?_
  refine m_w rfl rfl (wn rfl) rfl rfl S (fun w H => y_move rfl S rfl) fun a S => ?_
  refine' m_orq [8] 38 S rfl rfl rfl rfl rfl rfl rfl rfl rfl (fun _ S => (wn rfl)) (fun h4 kk => ?yh4) (fun a S => ?_)
  case yh4 =>
   have h4p := h4; try simp only [DL] at h4p
   refine m_w rfl rfl (wg' 38 rfl rfl S rfl h4 rfl) rfl rfl S (fun w H => y_move rfl S rfl) fun a S => ?_
   refine m_w rfl rfl (wn rfl) rfl rfl S (fun w H => y_or' rfl h4 S rfl rfl) fun a S => ?_
   exact kk _ (S.join 2 40 rfl rfl)
  refine m_nil (fun w H => ?_)
  refine n_then ?_
  have S := (((((S.nil.cons S 0 rfl).cons S 3 rfl).cons S 4 rfl).cons S 5 rfl).cons S 6 rfl).cons S 40 rfl
  refine c_if S rfl (fun h5 => ?_) (fun h5 => ?_)
  ·have h5p := h5; try simp only [DL] at h5p
   have htw : twice s o = true := by simp only [twice, offered]; simpa [memS_get] using h5
   refine gsr ?_
   refine gy rfl rfl rfl S (y_buildf rfl Fbld35 S rfl (idx := []) rfl (cs := [_, _, _]) rfl) fun a S => ?_
   refine wl_of (op_storea (wn rfl) rfl rfl S H rfl rfl rfl Fsiz35 rfl (cs' := [_, _, _]) rfl fun a w S H => ?_)
   refine ga S fun a S => ?_
   refine ga S fun a S => ?_
   refine gnt ?_
   have S := ((((S.nil.cons S 0 rfl).cons S 3 rfl).cons S 4 rfl).cons S 5 rfl).cons S 6 rfl
   refine g_ret ?_
   refine r_then (ret3ctt rfl S H rfl rfl rfl (by exact Fagg35) ?_)
   have hp2 := pl_twice hva htw
   rw [hp2.1, hp2.2]
   exact ⟨rfl, vo, vb, H.takeT [Cel b 51 [vo, vb, .map (some mb)], OSl 29 vo 5 Ord.enc (s.offers), OSl 29 vb 5 Ord.enc (s.bids), MapA mb (fun n : Int => Value.int .i64 n) (fun b : Bool => Value.bool b) (memS (s.ids)) (s.ids).length] l⟩
  ·have h5p := h5; try simp only [DL] at h5p
   have htw : twice s o = false := by simp only [twice, offered]; simpa [memS_get] using h5
   have hmp : (if (memS s.ids o.id).isSome = true then s.ids.length else s.ids.length + 1) = (o.id :: s.ids).length := by rw [memS_some, if_neg (notwice htw)]; rfl
   have hup : upd (memS s.ids) o.id true = memS (o.id :: s.ids) := rfl
   refine g_skip ?_
   refine n_then ?_
   refine g_seq ?_
   rcases hsell : o.sell
   ·have hoth : s.other o = s.offers := by simp [Bk.other, hsell]
    have hown : s.own o = s.bids := by simp [Bk.own, hsell]
    refine g_region ?_
    refine gm S fun a S => ?_
    refine gy rfl rfl rfl S (y_load0 rfl S H rfl (by exact Fagg29)) fun a S => ?_
    refine wl_of (op_call (wn rfl) rfl rfl S (co_func rfl Try.call30 S rfl) (sides_bid b o hsell _) fun v w hc a S => ?_)
    obtain ⟨rfl, he⟩ := hc
    have H := H.ext he
    refine gm S fun a S => ?_
    refine gy rfl rfl rfl S (y_extract rfl S rfl rfl) fun a S => ?_
    refine gy rfl rfl rfl S (y_extract rfl S rfl rfl) fun a S => ?_
    refine ga S fun a S => ?_
    refine ga S fun a S => ?_
    refine gnt ?_
    have S := ((((((S.nil.cons S 0 rfl).cons S 3 rfl).cons S 4 rfl).cons S 5 rfl).cons S 6 rfl).cons S 8 rfl).cons S 9 rfl
    refine gsr ?_
    refine gm S fun a S => ?_
    refine gy rfl rfl rfl S (y_nilCheck rfl S rfl) fun a S => ?_
    refine gy rfl rfl rfl S (y_load rfl Fsca39 S H rfl rfl) fun a S => ?_
    refine gy rfl rfl rfl S (y_makeFunc rfl S rfl rfl) fun a S => ?_
    refine wl_of (op_call (wn rfl) rfl rfl S (co_func rfl Try.call23 S rfl) (idx_spec vo s.offers 31 [.pointer (some ⟨b3, 0, none⟩)] Try.call31 (agreeB o) _ (H.sl vo) (fun x _ w1 hx => agreeP_spec x o b3 w1 ((H.ext hx).rd b3))) fun v w hc a S => ?_)
    obtain ⟨z, rfl, hz, he⟩ := hc
    have H := H.ext he
    refine ga S fun a S => ?_
    refine gnt ?_
    have S := (((((((S.nil.cons S 0 rfl).cons S 3 rfl).cons S 4 rfl).cons S 5 rfl).cons S 6 rfl).cons S 8 rfl).cons S 9 rfl).cons S 10 rfl
    refine g_seq ?_
    refine gsr ?_
    refine gm S fun a S => ?_
    refine gy rfl rfl rfl S (y_bin rfl S rfl rfl rfl) fun a S => ?_
    refine gnt ?_
    refine c_if S rfl (fun h6 => ?_) (fun h6 => ?_)
    ·have h6p := h6; try simp only [DL] at h6p
     obtain ⟨rfl, hall⟩ | ⟨j, hj, rfl, hp, hn⟩ := hz
     · exfalso; have := h6p; omega
     refine gsr ?_
     refine gm S fun a S => ?_
     refine gy rfl rfl rfl S (y_nilCheck rfl S rfl) fun a S => ?_
     refine gy rfl rfl rfl S (y_load rfl Fsca39 S H rfl rfl) fun a S => ?_
     refine gm S fun a S => ?_
     refine gy rfl rfl rfl S (y_iaddrn rfl Try.underlying39 Fsiz29 S H rfl rfl (by first | assumption | omega | (simp only [LL]; omega))) fun a S => ?_
     refine gy rfl rfl rfl S (y_loadsa _ rfl S H rfl (by exact Fagg29) (by first | assumption | omega | (simp only [LL]; omega))) fun a S => ?_
     obtain ⟨x, hxj⟩ : ∃ x, x = s.offers[j] := ⟨_, rfl⟩
     rw [← hxj] at S
     refine wl_of (op_alloc (wn rfl) rfl rfl rfl S H Fzer29 fun b11 a w S H => ?_)
     refine wl_of (op_storea (wn rfl) rfl rfl S H rfl rfl rfl Fsiz29 rfl (cs' := [_, _, _, _, _]) rfl fun a w S H => ?_)
     refine gnt ?_
     have S := ((((((((S.nil.cons S 0 rfl).cons S 3 rfl).cons S 4 rfl).cons S 5 rfl).cons S 6 rfl).cons S 8 rfl).cons S 9 rfl).cons S 10 rfl).cons S 11 rfl
     refine gsr ?_
     refine gm S fun a S => ?_
     refine gm S fun a S => ?_
     refine gy rfl rfl rfl S (y_nilCheck rfl S rfl) fun a S => ?_
     refine gy rfl rfl rfl S (y_load rfl Fsca39 S H rfl rfl) fun a S => ?_
     refine wl_of (op_call (wn rfl) rfl rfl S (co_func rfl Try.call26 S rfl) (clone_spec vo s.offers _ (H.sl vo) (by omega)) fun u65 w hc a S => ?_)
     have H1 := hc
     have H := H.call1 H1 rfl
     refine gm S fun a S => ?_
     refine gm S fun a S => ?_
     refine gy rfl rfl rfl S (y_add rfl S rfl rfl (by omega)) fun a S => ?_
     refine wl_of (op_call (wn rfl) rfl rfl S (co_func rfl Try.call25 S rfl) (delete_spec u65 s.offers j _ H hj) fun u69 w hc a S => ?_)
     have H := hc
     
     refine gy rfl rfl rfl S (y_nilCheck rfl S rfl) fun a S => ?_
     refine wl_of (op_store (wn rfl) rfl rfl S H rfl rfl (H.sl1 _) Fsiz39 rfl fun a w S H => ?_)
     dsimp only [List.set, Nat.zero_add, Nat.reduceAdd] at H
     refine gnt ?_
     have S := ((((((S.nil.cons S 0 rfl).cons S 3 rfl).cons S 4 rfl).cons S 5 rfl).cons S 6 rfl).cons S 8 rfl).cons S 11 rfl
     refine g_seq ?_
     refine region_st (loud := [6]) (tails := [6]) (free := []) [0, 1, 2, 3, 4, 5, 6] [] Fmo (by kernel_rfl) (by kernel_rfl) rfl H ?_
     refine m_w rfl rfl (wn rfl) rfl rfl S (fun w H => y_move rfl S rfl) fun a S => ?_
     refine m_w rfl rfl (wn rfl) rfl rfl S (fun w H => y_nilCheck rfl S rfl) fun a S => ?_
     refine m_w rfl rfl (wn rfl) rfl rfl S (fun w H => y_faddrb rfl Ffo51_2 S rfl) fun a S => ?_
     refine m_w rfl rfl (wn rfl) rfl rfl S (fun w H => y_load rfl Fsca49 S H rfl rfl) fun a S => ?_
     refine m_w rfl rfl (wn rfl) rfl rfl S (fun w H => y_faddrb rfl Ffo29_0 S rfl) fun a S => ?_
     refine m_w rfl rfl (wn rfl) rfl rfl S (fun w H => y_load rfl Fsca3 S H rfl rfl) fun a S => ?_
     refine m_l rfl rfl (fun w H => op_mapUpdate (_) (_) (wn rfl) rfl rfl Try.underlying49 S H rfl (keyOK_int Try.underlying3) (by exact rfl) (by exact rfl) fun a w S H => m_tail H rfl ?_)
     refine m_nil (fun w H => ?_)
     refine n_then ?_
     have S := ((((((S.nil.cons S 0 rfl).cons S 3 rfl).cons S 4 rfl).cons S 5 rfl).cons S 6 rfl).cons S 8 rfl).cons S 11 rfl
     refine gsr ?_
     refine gy rfl rfl rfl S (y_faddrb rfl Ffo29_0 S rfl) fun a S => ?_
     rw [hmp, hup] at H
     refine gy rfl rfl rfl S (y_load rfl Fsca3 S H rfl rfl) fun a S => ?_
     refine gy rfl rfl rfl S (y_faddrb rfl Ffo29_0 S rfl) fun a S => ?_
     refine gy rfl rfl rfl S (y_load rfl Fsca3 S H rfl rfl) fun a S => ?_
     refine gy rfl rfl rfl S (y_faddrb rfl Ffo29_1 S rfl) fun a S => ?_
     refine gy rfl rfl rfl S (y_load rfl Fsca3 S H rfl rfl) fun a S => ?_
     refine gy rfl rfl rfl S (y_buildf rfl Fbld35 S rfl (idx := [0, 1, 2]) rfl (cs := [.int .i64 x.id, .int .i64 o.id, .int .i64 x.price]) (by kernel_rfl)) fun a S => ?_
     refine wl_of (op_alloc (wn rfl) rfl rfl rfl S H Fzer35 fun b12 a w S H => ?_)
     refine wl_of (op_storea (wn rfl) rfl rfl S H rfl rfl rfl Fsiz35 rfl (cs' := [_, _, _]) rfl fun a w S H => ?_)
     refine gnt ?_
     have S := (((((((S.nil.cons S 0 rfl).cons S 3 rfl).cons S 4 rfl).cons S 5 rfl).cons S 6 rfl).cons S 8 rfl).cons S 11 rfl).cons S 12 rfl
     refine g_seq ?_
     refine gsr ?_
     refine gy rfl rfl rfl S (y_faddrb rfl Ffo29_2 S rfl) fun a S => ?_
     refine gy rfl rfl rfl S (y_load rfl Fsca4 S H rfl rfl) fun a S => ?_
     refine gnt ?_
     refine c_if S rfl (fun h7 => ?_) (fun h7 => ?_)
     ·have h7p := h7; try simp only [DL] at h7p
      all_goals (
        rw [hsell] at h7; cases h7)
     ·have h7p := h7; try simp only [DL] at h7p
      refine g_skip ?_
      refine n_then ?_
      refine gsr ?_
      refine gy rfl rfl rfl S (y_load0 rfl S H rfl (by exact Fagg35)) fun a S => ?_
      refine wl_of (op_storea (wn rfl) rfl rfl S H rfl rfl rfl Fsiz35 rfl (cs' := [_, _, _]) rfl fun a w S H => ?_)
      refine ga S fun a S => ?_
      refine ga S fun a S => ?_
      refine gnt ?_
      have S := (((((S.nil.cons S 0 rfl).cons S 3 rfl).cons S 4 rfl).cons S 8 rfl).cons S 5 rfl).cons S 6 rfl
      refine g_ret ?_
      refine r_then (ret3ctt rfl S H rfl rfl rfl (by exact Fagg35) ?_)
      have hp2 := (pl_trade hva htw hoth hj hp hn)
      rw [hp2.1, hp2.2]
      rw [← hxj]
      exact ⟨by simp only [tradeOf, hsell]; rfl, u69, vb, by simp only [Bk.setOther, hsell, Bk.use]; exact H.takeT [Cel b 51 [u69, vb, .map (some mb)], OSl 29 u69 5 Ord.enc (s.offers.eraseIdx j), OSl 29 vb 5 Ord.enc (s.bids), MapA mb (fun n : Int => Value.int .i64 n) (fun b : Bool => Value.bool b) (memS (o.id :: s.ids)) (o.id :: s.ids).length] l⟩
    ·have h6p := h6; try simp only [DL] at h6p
     have hall : ∀ x ∈ s.offers, agreeB o x = false := by rcases hz with ⟨_, h⟩ | ⟨q, hq, e, _⟩; exact h; exfalso; have := h6p; omega
     refine g_skip ?_
     refine n_then ?_
     have S := (((((S.nil.cons S 0 rfl).cons S 3 rfl).cons S 4 rfl).cons S 5 rfl).cons S 6 rfl).cons S 8 rfl
     refine g_seq ?_
     refine g_seq ?_
     refine region_st (loud := []) (tails := []) (free := []) [0, 1, 2, 3, 4, 5, 6, 7, 8, 9, 10, 11] [] Fmo (by kernel_rfl) (by kernel_rfl) rfl H ?_
     refine m_w rfl rfl (wn rfl) rfl rfl S (fun w H => y_move rfl S rfl) fun a S => ?_
     refine m_w rfl rfl (wn rfl) rfl rfl S (fun w H => y_nilCheck rfl S rfl) fun a S => ?_
     refine m_w rfl rfl (wn rfl) rfl rfl S (fun w H => y_faddrb rfl Ffo51_0 S rfl) fun a S => ?_
     refine m_w rfl rfl (wn rfl) rfl rfl S (fun w H => y_load rfl Fsca39 S H rfl rfl) fun a S => ?_
     refine m_w rfl rfl (wn rfl) rfl rfl S (fun w H => y_lens rfl Try.underlying39 S H rfl) fun a S => ?_
     refine m_w rfl rfl (wn rfl) rfl rfl S (fun w H => y_move rfl S rfl) fun a S => ?_
     refine m_w rfl rfl (wn rfl) rfl rfl S (fun w H => y_nilCheck rfl S rfl) fun a S => ?_
     refine m_w rfl rfl (wn rfl) rfl rfl S (fun w H => y_faddrb rfl Ffo51_1 S rfl) fun a S => ?_
     refine m_w rfl rfl (wn rfl) rfl rfl S (fun w H => y_load rfl Fsca39 S H rfl rfl) fun a S => ?_
     refine m_w rfl rfl (wn rfl) rfl rfl S (fun w H => y_lens rfl Try.underlying39 S H rfl) fun a S => ?_
     refine m_w rfl rfl (wn rfl) rfl rfl S (fun w H => y_add rfl S rfl rfl (by omega)) fun a S => ?_
     refine m_w rfl rfl (wn rfl) rfl rfl S (fun w H => y_bin rfl S rfl rfl rfl) fun a S => ?_
     refine m_nil (fun w H => ?_)
     refine n_then ?_
     have S := ((((((S.nil.cons S 0 rfl).cons S 3 rfl).cons S 4 rfl).cons S 5 rfl).cons S 6 rfl).cons S 8 rfl).cons S 104 rfl
     refine c_if S rfl (fun h8 => ?_) (fun h8 => ?_)
     ·have h8p := h8; try simp only [DL] at h8p
      refine gsr ?_
      refine gy rfl rfl rfl S (y_buildf rfl Fbld35 S rfl (idx := []) rfl (cs := [_, _, _]) rfl) fun a S => ?_
      refine wl_of (op_storea (wn rfl) rfl rfl S H rfl rfl rfl Fsiz35 rfl (cs' := [_, _, _]) rfl fun a w S H => ?_)
      refine ga S fun a S => ?_
      refine ga S fun a S => ?_
      refine gnt ?_
      have S := (((((S.nil.cons S 0 rfl).cons S 3 rfl).cons S 4 rfl).cons S 8 rfl).cons S 5 rfl).cons S 6 rfl
      refine g_ret ?_
      refine r_then (ret3ctt rfl S H rfl rfl rfl (by exact Fagg35) ?_)
      have hp2 := pl_full hva htw (by rw [hoth]; exact hall) (by omega)
      rw [hp2.1, hp2.2]
      exact ⟨rfl, vo, vb, H.takeT [Cel b 51 [vo, vb, .map (some mb)], OSl 29 vo 5 Ord.enc (s.offers), OSl 29 vb 5 Ord.enc (s.bids), MapA mb (fun n : Int => Value.int .i64 n) (fun b : Bool => Value.bool b) (memS (s.ids)) (s.ids).length] l⟩
     ·have h8p := h8; try simp only [DL] at h8p
      refine g_skip ?_
      refine n_then ?_
      refine g_seq ?_
      refine region_st (loud := [6]) (tails := [6]) (free := []) [0, 1, 2, 3, 4, 5, 6] [] Fmo (by kernel_rfl) (by kernel_rfl) rfl H ?_
      refine m_w rfl rfl (wn rfl) rfl rfl S (fun w H => y_move rfl S rfl) fun a S => ?_
      refine m_w rfl rfl (wn rfl) rfl rfl S (fun w H => y_nilCheck rfl S rfl) fun a S => ?_
      refine m_w rfl rfl (wn rfl) rfl rfl S (fun w H => y_faddrb rfl Ffo51_2 S rfl) fun a S => ?_
      refine m_w rfl rfl (wn rfl) rfl rfl S (fun w H => y_load rfl Fsca49 S H rfl rfl) fun a S => ?_
      refine m_w rfl rfl (wn rfl) rfl rfl S (fun w H => y_faddrb rfl Ffo29_0 S rfl) fun a S => ?_
      refine m_w rfl rfl (wn rfl) rfl rfl S (fun w H => y_load rfl Fsca3 S H rfl rfl) fun a S => ?_
      refine m_l rfl rfl (fun w H => op_mapUpdate (_) (_) (wn rfl) rfl rfl Try.underlying49 S H rfl (keyOK_int Try.underlying3) (by exact rfl) (by exact rfl) fun a w S H => m_tail H rfl ?_)
      refine m_nil (fun w H => ?_)
      refine n_then ?_
      have S := ((((S.nil.cons S 3 rfl).cons S 4 rfl).cons S 5 rfl).cons S 6 rfl).cons S 8 rfl
      refine g_seq ?_
      refine region_st (loud := [4]) (tails := []) (free := []) [0, 1, 2, 3, 4, 5, 6, 7, 8] [] Fmo (by kernel_rfl) (by kernel_rfl) rfl H ?_
      refine m_w rfl rfl (wn rfl) rfl rfl S (fun w H => y_move rfl S rfl) fun a S => ?_
      refine m_w rfl rfl (wn rfl) rfl rfl S (fun w H => y_nilCheck rfl S rfl) fun a S => ?_
      refine m_w rfl rfl (wn rfl) rfl rfl S (fun w H => y_load rfl Fsca39 S H rfl rfl) fun a S => ?_
      refine m_w rfl rfl (wn rfl) rfl rfl S (fun w H => y_load0 rfl S H rfl (by exact Fagg29)) fun a S => ?_
      refine m_l rfl rfl (fun w H => op_call (wn rfl) rfl rfl S (co_func rfl Try.call32 S rfl) (bsearch_spec vb s.bids o _ (H.sl vb) (by omega)) fun v w hc a S => ?_)
      obtain ⟨j, bb, rfl, hj, hjl, hjh, he⟩ := hc
      have H := H.ext he
      have hins := bs_at (l := s.bids) (o := o) (fun x hx => (hw.hb x hx).trans hsell.symm) hw.sb hj hjl hjh
      refine m_next H (by exact List.Sublist.refl _) ?_
      refine m_w rfl rfl (wn rfl) rfl rfl S (fun w H => y_move rfl S rfl) fun a S => ?_
      refine m_w rfl rfl (wn rfl) rfl rfl S (fun w H => y_extract rfl S rfl rfl) fun a S => ?_
      refine m_w rfl rfl (wn rfl) rfl rfl S (fun w H => y_extract rfl S rfl rfl) fun a S => ?_
      refine m_w rfl rfl (wn rfl) rfl rfl S (fun w H => y_assign rfl S rfl) fun a S => ?_
      refine m_nil (fun w H => ?_)
      refine n_then ?_
      have S := (((((S.nil.cons S 3 rfl).cons S 4 rfl).cons S 5 rfl).cons S 6 rfl).cons S 8 rfl).cons S 10 rfl
      refine g_seq ?_
      rw [hmp, hup] at H
      ·skip
       refine cut (fun a w => ∃ vi, St 131 [(4, .pointer (some ⟨b4, 0, none⟩))] a ∧ HSat M u0 (Cel b4 35 [.int .i64 0, .int .i64 0, .int .i64 0] :: [Cel b 51 [vo, vi, .map (some mb)], OSl 29 vo 5 Ord.enc (s.offers), OSl 29 vi 5 Ord.enc (insO s.bids o), MapA mb (fun n : Int => Value.int .i64 n) (fun b : Bool => Value.bool b) (memS (o.id :: s.ids)) (o.id :: s.ids).length] ++ l) w) ?_ ?_
       ·skip
        refine t_st (tails := [8, 10]) [] Fmo H ?_
        refine t_p 0 rfl (by kernel_rfl) (rem' := [1, 2, 3, 4, 5, 6, 7, 8, 9, 10]) rfl rfl rfl rfl S (fun w => y_move rfl S rfl) fun a S => ?_
        refine t_q 1 rfl (by kernel_rfl) (rem' := [2, 3, 4, 5, 6, 7, 8, 9, 10]) rfl rfl rfl rfl S (fun w H => y_move rfl S rfl) fun a S => ?_
        refine t_q 2 rfl (by kernel_rfl) (rem' := [3, 4, 5, 6, 7, 8, 9, 10]) rfl rfl rfl rfl S (fun w H => y_nilCheck rfl S rfl) fun a S => ?_
        refine t_q 3 rfl (by kernel_rfl) (rem' := [4, 5, 6, 7, 8, 9, 10]) rfl rfl rfl rfl S (fun w H => y_load rfl Fsca39 S H rfl rfl) fun a S => ?_
        refine t_q 5 rfl (by kernel_rfl) (rem' := [4, 6, 7, 8, 9, 10]) rfl rfl rfl rfl S (fun w H => y_move rfl S rfl) fun a S => ?_
        refine t_q 6 rfl (by kernel_rfl) (rem' := [4, 7, 8, 9, 10]) rfl rfl rfl rfl S (fun w H => y_load0 rfl S H rfl (by exact Fagg29)) fun a S => ?_
        refine t_b [4, 7] (by kernel_rfl) rfl (fa2 ?_ ?_)
        ·refine ⟨_, rfl, fun w H => ?_⟩
         refine op_call (wn rfl) rfl rfl S (co_func rfl Try.call26 S rfl) (clone_spec vb s.bids _ (H.sl vb) (by omega)) fun u124 w hc a S => ?_
         have H1 := hc
         have H := H.call1 H1 rfl
         refine t_n H (rem' := [7, 8, 9, 10]) rfl ?_
         refine t_b1 7 (by kernel_rfl) rfl fun w H => ?_
         refine op_buildSlice (wn rfl) rfl rfl rfl Try.underlying39 Finf29 S H (idx := [0]) rfl rfl rfl (z := [.int .i64 0, .int .i64 0, .bool false, .string ⟨#[]⟩, .int .i64 0]) (by kernel_rfl) (cs := [.int .i64 o.id, .int .i64 o.price, .bool o.sell, .string o.person, .int .i64 o.serial]) (by kernel_rfl) fun b127 a w S H => ?_
         refine t_n H (rem' := [8, 9, 10]) rfl ?_
         refine t_b1 8 (by kernel_rfl) rfl fun w H => ?_
         refine op_call (wn rfl) rfl rfl S (co_func rfl Try.call34 S rfl) (insert_spec u124 s.bids j o b127 _ (H.pick [OSl 29 u124 5 Ord.enc s.bids, Cel b127 29 [.int .i64 o.id, .int .i64 o.price, .bool o.sell, .string o.person, .int .i64 o.serial]]) hj (by omega)) fun u128 w hc a S => ?_
         have H := hc
         simp only [List.cons_append, List.nil_append, List.append_eq] at H
         refine t_tail H rfl (rem' := [9, 10]) rfl ?_
         refine t_q 9 rfl (by kernel_rfl) (rem' := [10]) rfl rfl rfl rfl S (fun w H => y_nilCheck rfl S rfl) fun a S => ?_
         refine t_b1 10 (by kernel_rfl) rfl fun w H => ?_
         refine op_store (wn rfl) rfl rfl S H rfl rfl (H.sl1 _) Fsiz39 rfl fun a w S H => ?_
         dsimp only [List.set, Nat.zero_add, Nat.reduceAdd] at H
         refine t_tail H rfl (rem' := []) rfl ?_
         refine t_nil (fun w H => ?_)
         rw [← hins] at H
         exact ⟨_, S.nil.cons S 4 rfl, H.takeT (Cel b4 35 [.int .i64 0, .int .i64 0, .int .i64 0] :: [Cel b 51 [vo, u128, .map (some mb)], OSl 29 vo 5 Ord.enc (s.offers), OSl 29 u128 5 Ord.enc (insO s.bids o), MapA mb (fun n : Int => Value.int .i64 n) (fun b : Bool => Value.bool b) (memS (o.id :: s.ids)) (o.id :: s.ids).length]) l⟩
        ·refine ⟨_, rfl, fun w H => ?_⟩
         refine op_buildSlice (wn rfl) rfl rfl rfl Try.underlying39 Finf29 S H (idx := [0]) rfl rfl rfl (z := [.int .i64 0, .int .i64 0, .bool false, .string ⟨#[]⟩, .int .i64 0]) (by kernel_rfl) (cs := [.int .i64 o.id, .int .i64 o.price, .bool o.sell, .string o.person, .int .i64 o.serial]) (by kernel_rfl) fun b127 a w S H => ?_
         refine t_n H (rem' := [4, 8, 9, 10]) rfl ?_
         refine t_b1 4 (by kernel_rfl) rfl fun w H => ?_
         refine op_call (wn rfl) rfl rfl S (co_func rfl Try.call26 S rfl) (clone_spec vb s.bids _ (H.sl vb) (by omega)) fun u124 w hc a S => ?_
         have H1 := hc
         have H := H.call1 H1 rfl
         refine t_n H (rem' := [8, 9, 10]) rfl ?_
         refine t_b1 8 (by kernel_rfl) rfl fun w H => ?_
         refine op_call (wn rfl) rfl rfl S (co_func rfl Try.call34 S rfl) (insert_spec u124 s.bids j o b127 _ (H.pick [OSl 29 u124 5 Ord.enc s.bids, Cel b127 29 [.int .i64 o.id, .int .i64 o.price, .bool o.sell, .string o.person, .int .i64 o.serial]]) hj (by omega)) fun u128 w hc a S => ?_
         have H := hc
         simp only [List.cons_append, List.nil_append, List.append_eq] at H
         refine t_tail H rfl (rem' := [9, 10]) rfl ?_
         refine t_q 9 rfl (by kernel_rfl) (rem' := [10]) rfl rfl rfl rfl S (fun w H => y_nilCheck rfl S rfl) fun a S => ?_
         refine t_b1 10 (by kernel_rfl) rfl fun w H => ?_
         refine op_store (wn rfl) rfl rfl S H rfl rfl (H.sl1 _) Fsiz39 rfl fun a w S H => ?_
         dsimp only [List.set, Nat.zero_add, Nat.reduceAdd] at H
         refine t_tail H rfl (rem' := []) rfl ?_
         refine t_nil (fun w H => ?_)
         rw [← hins] at H
         exact ⟨_, S.nil.cons S 4 rfl, H.takeT (Cel b4 35 [.int .i64 0, .int .i64 0, .int .i64 0] :: [Cel b 51 [vo, u128, .map (some mb)], OSl 29 vo 5 Ord.enc (s.offers), OSl 29 u128 5 Ord.enc (insO s.bids o), MapA mb (fun n : Int => Value.int .i64 n) (fun b : Bool => Value.bool b) (memS (o.id :: s.ids)) (o.id :: s.ids).length]) l⟩
       rintro a w ⟨vi, S, H⟩
       simp only [List.cons_append, List.nil_append] at H
       refine gsr ?_
       refine gy rfl rfl rfl S (y_buildf rfl Fbld35 S rfl (idx := []) rfl (cs := [_, _, _]) rfl) fun a S => ?_
       refine wl_of (op_storea (wn rfl) rfl rfl S H rfl rfl rfl Fsiz35 rfl (cs' := [_, _, _]) rfl fun a w S H => ?_)
       refine ga S fun a S => ?_
       refine ga S fun a S => ?_
       refine gnt ?_
       refine g_ret ?_
       refine ret3ctt rfl S H rfl rfl rfl (by exact Fagg35) ?_
       have hp2 := pl_open hva htw (by rw [hoth]; exact hall) (by omega)
       rw [hp2.1, hp2.2]
       exact ⟨rfl, vo, vi, by simp only [Bk.setOwn, Bk.own, hsell, Bk.use]; exact H.tail⟩
   ·have hoth : s.other o = s.bids := by simp [Bk.other, hsell]
    have hown : s.own o = s.offers := by simp [Bk.own, hsell]
    refine g_region ?_
    refine gm S fun a S => ?_
    refine gy rfl rfl rfl S (y_load0 rfl S H rfl (by exact Fagg29)) fun a S => ?_
    refine wl_of (op_call (wn rfl) rfl rfl S (co_func rfl Try.call30 S rfl) (sides_sell b o hsell _) fun v w hc a S => ?_)
    obtain ⟨rfl, he⟩ := hc
    have H := H.ext he
    refine gm S fun a S => ?_
    refine gy rfl rfl rfl S (y_extract rfl S rfl rfl) fun a S => ?_
    refine gy rfl rfl rfl S (y_extract rfl S rfl rfl) fun a S => ?_
    refine ga S fun a S => ?_
    refine ga S fun a S => ?_
    refine gnt ?_
    have S := ((((((S.nil.cons S 0 rfl).cons S 3 rfl).cons S 4 rfl).cons S 5 rfl).cons S 6 rfl).cons S 8 rfl).cons S 9 rfl
    refine gsr ?_
    refine gm S fun a S => ?_
    refine gy rfl rfl rfl S (y_nilCheck rfl S rfl) fun a S => ?_
    refine gy rfl rfl rfl S (y_load rfl Fsca39 S H rfl rfl) fun a S => ?_
    refine gy rfl rfl rfl S (y_makeFunc rfl S rfl rfl) fun a S => ?_
    refine wl_of (op_call (wn rfl) rfl rfl S (co_func rfl Try.call23 S rfl) (idx_spec vb s.bids 31 [.pointer (some ⟨b3, 0, none⟩)] Try.call31 (agreeB o) _ (H.sl vb) (fun x _ w1 hx => agreeP_spec x o b3 w1 ((H.ext hx).rd b3))) fun v w hc a S => ?_)
    obtain ⟨z, rfl, hz, he⟩ := hc
    have H := H.ext he
    refine ga S fun a S => ?_
    refine gnt ?_
    have S := (((((((S.nil.cons S 0 rfl).cons S 3 rfl).cons S 4 rfl).cons S 5 rfl).cons S 6 rfl).cons S 8 rfl).cons S 9 rfl).cons S 10 rfl
    refine g_seq ?_
    refine gsr ?_
    refine gm S fun a S => ?_
    refine gy rfl rfl rfl S (y_bin rfl S rfl rfl rfl) fun a S => ?_
    refine gnt ?_
    refine c_if S rfl (fun h9 => ?_) (fun h9 => ?_)
    ·have h9p := h9; try simp only [DL] at h9p
     obtain ⟨rfl, hall⟩ | ⟨j, hj, rfl, hp, hn⟩ := hz
     · exfalso; have := h9p; omega
     refine gsr ?_
     refine gm S fun a S => ?_
     refine gy rfl rfl rfl S (y_nilCheck rfl S rfl) fun a S => ?_
     refine gy rfl rfl rfl S (y_load rfl Fsca39 S H rfl rfl) fun a S => ?_
     refine gm S fun a S => ?_
     refine gy rfl rfl rfl S (y_iaddrn rfl Try.underlying39 Fsiz29 S H rfl rfl (by first | assumption | omega | (simp only [LL]; omega))) fun a S => ?_
     refine gy rfl rfl rfl S (y_loadsa _ rfl S H rfl (by exact Fagg29) (by first | assumption | omega | (simp only [LL]; omega))) fun a S => ?_
     obtain ⟨x, hxj⟩ : ∃ x, x = s.bids[j] := ⟨_, rfl⟩
     rw [← hxj] at S
     refine wl_of (op_alloc (wn rfl) rfl rfl rfl S H Fzer29 fun b11 a w S H => ?_)
     refine wl_of (op_storea (wn rfl) rfl rfl S H rfl rfl rfl Fsiz29 rfl (cs' := [_, _, _, _, _]) rfl fun a w S H => ?_)
     refine gnt ?_
     have S := ((((((((S.nil.cons S 0 rfl).cons S 3 rfl).cons S 4 rfl).cons S 5 rfl).cons S 6 rfl).cons S 8 rfl).cons S 9 rfl).cons S 10 rfl).cons S 11 rfl
     refine gsr ?_
     refine gm S fun a S => ?_
     refine gm S fun a S => ?_
     refine gy rfl rfl rfl S (y_nilCheck rfl S rfl) fun a S => ?_
     refine gy rfl rfl rfl S (y_load rfl Fsca39 S H rfl rfl) fun a S => ?_
     refine wl_of (op_call (wn rfl) rfl rfl S (co_func rfl Try.call26 S rfl) (clone_spec vb s.bids _ (H.sl vb) (by omega)) fun u65 w hc a S => ?_)
     have H1 := hc
     have H := H.call1 H1 rfl
     refine gm S fun a S => ?_
     refine gm S fun a S => ?_
     refine gy rfl rfl rfl S (y_add rfl S rfl rfl (by omega)) fun a S => ?_
     refine wl_of (op_call (wn rfl) rfl rfl S (co_func rfl Try.call25 S rfl) (delete_spec u65 s.bids j _ H hj) fun u69 w hc a S => ?_)
     have H := hc
     
     refine gy rfl rfl rfl S (y_nilCheck rfl S rfl) fun a S => ?_
     refine wl_of (op_store (wn rfl) rfl rfl S H rfl rfl (H.sl1 _) Fsiz39 rfl fun a w S H => ?_)
     dsimp only [List.set, Nat.zero_add, Nat.reduceAdd] at H
     refine gnt ?_
     have S := ((((((S.nil.cons S 0 rfl).cons S 3 rfl).cons S 4 rfl).cons S 5 rfl).cons S 6 rfl).cons S 8 rfl).cons S 11 rfl
     refine g_seq ?_
     refine region_st (loud := [6]) (tails := [6]) (free := []) [0, 1, 2, 3, 4, 5, 6] [] Fmo (by kernel_rfl) (by kernel_rfl) rfl H ?_
     refine m_w rfl rfl (wn rfl) rfl rfl S (fun w H => y_move rfl S rfl) fun a S => ?_
     refine m_w rfl rfl (wn rfl) rfl rfl S (fun w H => y_nilCheck rfl S rfl) fun a S => ?_
     refine m_w rfl rfl (wn rfl) rfl rfl S (fun w H => y_faddrb rfl Ffo51_2 S rfl) fun a S => ?_
     refine m_w rfl rfl (wn rfl) rfl rfl S (fun w H => y_load rfl Fsca49 S H rfl rfl) fun a S => ?_
     refine m_w rfl rfl (wn rfl) rfl rfl S (fun w H => y_faddrb rfl Ffo29_0 S rfl) fun a S => ?_
     refine m_w rfl rfl (wn rfl) rfl rfl S (fun w H => y_load rfl Fsca3 S H rfl rfl) fun a S => ?_
     refine m_l rfl rfl (fun w H => op_mapUpdate (_) (_) (wn rfl) rfl rfl Try.underlying49 S H rfl (keyOK_int Try.underlying3) (by exact rfl) (by exact rfl) fun a w S H => m_tail H rfl ?_)
     refine m_nil (fun w H => ?_)
     refine n_then ?_
     have S := ((((((S.nil.cons S 0 rfl).cons S 3 rfl).cons S 4 rfl).cons S 5 rfl).cons S 6 rfl).cons S 8 rfl).cons S 11 rfl
     refine gsr ?_
     refine gy rfl rfl rfl S (y_faddrb rfl Ffo29_0 S rfl) fun a S => ?_
     rw [hmp, hup] at H
     refine gy rfl rfl rfl S (y_load rfl Fsca3 S H rfl rfl) fun a S => ?_
     refine gy rfl rfl rfl S (y_faddrb rfl Ffo29_0 S rfl) fun a S => ?_
     refine gy rfl rfl rfl S (y_load rfl Fsca3 S H rfl rfl) fun a S => ?_
     refine gy rfl rfl rfl S (y_faddrb rfl Ffo29_1 S rfl) fun a S => ?_
     refine gy rfl rfl rfl S (y_load rfl Fsca3 S H rfl rfl) fun a S => ?_
     refine gy rfl rfl rfl S (y_buildf rfl Fbld35 S rfl (idx := [0, 1, 2]) rfl (cs := [.int .i64 x.id, .int .i64 o.id, .int .i64 x.price]) (by kernel_rfl)) fun a S => ?_
     refine wl_of (op_alloc (wn rfl) rfl rfl rfl S H Fzer35 fun b12 a w S H => ?_)
     refine wl_of (op_storea (wn rfl) rfl rfl S H rfl rfl rfl Fsiz35 rfl (cs' := [_, _, _]) rfl fun a w S H => ?_)
     refine gnt ?_
     have S := (((((((S.nil.cons S 0 rfl).cons S 3 rfl).cons S 4 rfl).cons S 5 rfl).cons S 6 rfl).cons S 8 rfl).cons S 11 rfl).cons S 12 rfl
     refine g_seq ?_
     refine gsr ?_
     refine gy rfl rfl rfl S (y_faddrb rfl Ffo29_2 S rfl) fun a S => ?_
     refine gy rfl rfl rfl S (y_load rfl Fsca4 S H rfl rfl) fun a S => ?_
     refine gnt ?_
     refine c_if S rfl (fun h10 => ?_) (fun h10 => ?_)
     ·have h10p := h10; try simp only [DL] at h10p
      have H := (H.front (Cel b11 29 [.int .i64 x.id, .int .i64 x.price, .bool x.sell, .string x.person, .int .i64 x.serial])).freeze
      refine region_st (loud := [5, 7]) (tails := [5, 7]) (free := [2, 3]) [0, 1, 2, 3, 4, 5, 6, 7] [Atom.ro (Cel b11 29 [.int .i64 x.id, .int .i64 x.price, .bool x.sell, .string x.person, .int .i64 x.serial])] Fmo (by kernel_rfl) (by kernel_rfl) rfl H ?_
      refine m_w rfl rfl (wn rfl) rfl rfl S (fun w H => y_faddrb rfl Ffo29_0 S rfl) fun a S => ?_
      refine m_w rfl rfl (wn rfl) rfl rfl S (fun w H => y_load rfl Fsca3 S H rfl rfl) fun a S => ?_
      refine m_f rfl rfl (wn rfl) rfl rfl S (fun w H => y_faddrb rfl Ffo29_0 S rfl) fun a S => ?_
      refine m_f rfl rfl (wn rfl) rfl rfl S (fun w H => y_load rfl Fsca3 S H rfl rfl) fun a S => ?_
      refine m_w rfl rfl (wn rfl) rfl rfl S (fun w H => y_faddrb rfl Ffo35_0 S rfl) fun a S => ?_
      refine m_l rfl rfl (fun w H => op_store (wn rfl) rfl rfl S H rfl rfl rfl Fsiz3 rfl fun a w S H => m_tail H rfl ?_)
      dsimp only [List.set, Nat.zero_add, Nat.reduceAdd] at H
      refine m_w rfl rfl (wn rfl) rfl rfl S (fun w H => y_faddrb rfl Ffo35_1 S rfl) fun a S => ?_
      refine m_l rfl rfl (fun w H => op_store (wn rfl) rfl rfl S H rfl rfl rfl Fsiz3 rfl fun a w S H => m_tail H rfl ?_)
      dsimp only [List.set, Nat.zero_add, Nat.reduceAdd] at H
      refine m_nil (fun w H => ?_)
      refine n_then ?_
      have S := ((((((S.nil.cons S 0 rfl).cons S 3 rfl).cons S 4 rfl).cons S 5 rfl).cons S 6 rfl).cons S 8 rfl).cons S 12 rfl
      refine gsr ?_
      refine gy rfl rfl rfl S (y_load0 rfl S H rfl (by exact Fagg35)) fun a S => ?_
      refine wl_of (op_storea (wn rfl) rfl rfl S H rfl rfl rfl Fsiz35 rfl (cs' := [_, _, _]) rfl fun a w S H => ?_)
      refine ga S fun a S => ?_
      refine ga S fun a S => ?_
      refine gnt ?_
      have S := (((((S.nil.cons S 0 rfl).cons S 3 rfl).cons S 4 rfl).cons S 8 rfl).cons S 5 rfl).cons S 6 rfl
      refine g_ret ?_
      refine r_then (ret3ctt rfl S H rfl rfl rfl (by exact Fagg35) ?_)
      have hp2 := (pl_trade hva htw hoth hj hp hn)
      rw [hp2.1, hp2.2]
      rw [← hxj]
      exact ⟨by simp only [tradeOf, hsell]; rfl, vo, u69, by simp only [Bk.setOther, hsell, Bk.use]; exact H.takeT [Cel b 51 [vo, u69, .map (some mb)], OSl 29 vo 5 Ord.enc (s.offers), OSl 29 u69 5 Ord.enc (s.bids.eraseIdx j), MapA mb (fun n : Int => Value.int .i64 n) (fun b : Bool => Value.bool b) (memS (o.id :: s.ids)) (o.id :: s.ids).length] l⟩
     ·have h10p := h10; try simp only [DL] at h10p
      all_goals (
        rw [hsell] at h10; cases h10)
    ·have h9p := h9; try simp only [DL] at h9p
     have hall : ∀ x ∈ s.bids, agreeB o x = false := by rcases hz with ⟨_, h⟩ | ⟨q, hq, e, _⟩; exact h; exfalso; have := h9p; omega
     refine g_skip ?_
     refine n_then ?_
     have S := (((((S.nil.cons S 0 rfl).cons S 3 rfl).cons S 4 rfl).cons S 5 rfl).cons S 6 rfl).cons S 8 rfl
     refine g_seq ?_
     refine g_seq ?_
     refine region_st (loud := []) (tails := []) (free := []) [0, 1, 2, 3, 4, 5, 6, 7, 8, 9, 10, 11] [] Fmo (by kernel_rfl) (by kernel_rfl) rfl H ?_
     refine m_w rfl rfl (wn rfl) rfl rfl S (fun w H => y_move rfl S rfl) fun a S => ?_
     refine m_w rfl rfl (wn rfl) rfl rfl S (fun w H => y_nilCheck rfl S rfl) fun a S => ?_
     refine m_w rfl rfl (wn rfl) rfl rfl S (fun w H => y_faddrb rfl Ffo51_0 S rfl) fun a S => ?_
     refine m_w rfl rfl (wn rfl) rfl rfl S (fun w H => y_load rfl Fsca39 S H rfl rfl) fun a S => ?_
     refine m_w rfl rfl (wn rfl) rfl rfl S (fun w H => y_lens rfl Try.underlying39 S H rfl) fun a S => ?_
     refine m_w rfl rfl (wn rfl) rfl rfl S (fun w H => y_move rfl S rfl) fun a S => ?_
     refine m_w rfl rfl (wn rfl) rfl rfl S (fun w H => y_nilCheck rfl S rfl) fun a S => ?_
     refine m_w rfl rfl (wn rfl) rfl rfl S (fun w H => y_faddrb rfl Ffo51_1 S rfl) fun a S => ?_
     refine m_w rfl rfl (wn rfl) rfl rfl S (fun w H => y_load rfl Fsca39 S H rfl rfl) fun a S => ?_
     refine m_w rfl rfl (wn rfl) rfl rfl S (fun w H => y_lens rfl Try.underlying39 S H rfl) fun a S => ?_
     refine m_w rfl rfl (wn rfl) rfl rfl S (fun w H => y_add rfl S rfl rfl (by omega)) fun a S => ?_
     refine m_w rfl rfl (wn rfl) rfl rfl S (fun w H => y_bin rfl S rfl rfl rfl) fun a S => ?_
     refine m_nil (fun w H => ?_)
     refine n_then ?_
     have S := ((((((S.nil.cons S 0 rfl).cons S 3 rfl).cons S 4 rfl).cons S 5 rfl).cons S 6 rfl).cons S 8 rfl).cons S 104 rfl
     refine c_if S rfl (fun h11 => ?_) (fun h11 => ?_)
     ·have h11p := h11; try simp only [DL] at h11p
      refine gsr ?_
      refine gy rfl rfl rfl S (y_buildf rfl Fbld35 S rfl (idx := []) rfl (cs := [_, _, _]) rfl) fun a S => ?_
      refine wl_of (op_storea (wn rfl) rfl rfl S H rfl rfl rfl Fsiz35 rfl (cs' := [_, _, _]) rfl fun a w S H => ?_)
      refine ga S fun a S => ?_
      refine ga S fun a S => ?_
      refine gnt ?_
      have S := (((((S.nil.cons S 0 rfl).cons S 3 rfl).cons S 4 rfl).cons S 8 rfl).cons S 5 rfl).cons S 6 rfl
      refine g_ret ?_
      refine r_then (ret3ctt rfl S H rfl rfl rfl (by exact Fagg35) ?_)
      have hp2 := pl_full hva htw (by rw [hoth]; exact hall) (by omega)
      rw [hp2.1, hp2.2]
      exact ⟨rfl, vo, vb, H.takeT [Cel b 51 [vo, vb, .map (some mb)], OSl 29 vo 5 Ord.enc (s.offers), OSl 29 vb 5 Ord.enc (s.bids), MapA mb (fun n : Int => Value.int .i64 n) (fun b : Bool => Value.bool b) (memS (s.ids)) (s.ids).length] l⟩
     ·have h11p := h11; try simp only [DL] at h11p
      refine g_skip ?_
      refine n_then ?_
      refine g_seq ?_
      refine region_st (loud := [6]) (tails := [6]) (free := []) [0, 1, 2, 3, 4, 5, 6] [] Fmo (by kernel_rfl) (by kernel_rfl) rfl H ?_
      refine m_w rfl rfl (wn rfl) rfl rfl S (fun w H => y_move rfl S rfl) fun a S => ?_
      refine m_w rfl rfl (wn rfl) rfl rfl S (fun w H => y_nilCheck rfl S rfl) fun a S => ?_
      refine m_w rfl rfl (wn rfl) rfl rfl S (fun w H => y_faddrb rfl Ffo51_2 S rfl) fun a S => ?_
      refine m_w rfl rfl (wn rfl) rfl rfl S (fun w H => y_load rfl Fsca49 S H rfl rfl) fun a S => ?_
      refine m_w rfl rfl (wn rfl) rfl rfl S (fun w H => y_faddrb rfl Ffo29_0 S rfl) fun a S => ?_
      refine m_w rfl rfl (wn rfl) rfl rfl S (fun w H => y_load rfl Fsca3 S H rfl rfl) fun a S => ?_
      refine m_l rfl rfl (fun w H => op_mapUpdate (_) (_) (wn rfl) rfl rfl Try.underlying49 S H rfl (keyOK_int Try.underlying3) (by exact rfl) (by exact rfl) fun a w S H => m_tail H rfl ?_)
      refine m_nil (fun w H => ?_)
      refine n_then ?_
      have S := ((((S.nil.cons S 3 rfl).cons S 4 rfl).cons S 5 rfl).cons S 6 rfl).cons S 8 rfl
      refine g_seq ?_
      refine region_st (loud := [4]) (tails := []) (free := []) [0, 1, 2, 3, 4, 5, 6, 7, 8] [] Fmo (by kernel_rfl) (by kernel_rfl) rfl H ?_
      refine m_w rfl rfl (wn rfl) rfl rfl S (fun w H => y_move rfl S rfl) fun a S => ?_
      refine m_w rfl rfl (wn rfl) rfl rfl S (fun w H => y_nilCheck rfl S rfl) fun a S => ?_
      refine m_w rfl rfl (wn rfl) rfl rfl S (fun w H => y_load rfl Fsca39 S H rfl rfl) fun a S => ?_
      refine m_w rfl rfl (wn rfl) rfl rfl S (fun w H => y_load0 rfl S H rfl (by exact Fagg29)) fun a S => ?_
      refine m_l rfl rfl (fun w H => op_call (wn rfl) rfl rfl S (co_func rfl Try.call32 S rfl) (bsearch_spec vo s.offers o _ (H.sl vo) (by omega)) fun v w hc a S => ?_)
      obtain ⟨j, bb, rfl, hj, hjl, hjh, he⟩ := hc
      have H := H.ext he
      have hins := bs_at (l := s.offers) (o := o) (fun x hx => (hw.ho x hx).trans hsell.symm) hw.so hj hjl hjh
      refine m_next H (by exact List.Sublist.refl _) ?_
      refine m_w rfl rfl (wn rfl) rfl rfl S (fun w H => y_move rfl S rfl) fun a S => ?_
      refine m_w rfl rfl (wn rfl) rfl rfl S (fun w H => y_extract rfl S rfl rfl) fun a S => ?_
      refine m_w rfl rfl (wn rfl) rfl rfl S (fun w H => y_extract rfl S rfl rfl) fun a S => ?_
      refine m_w rfl rfl (wn rfl) rfl rfl S (fun w H => y_assign rfl S rfl) fun a S => ?_
      refine m_nil (fun w H => ?_)
      refine n_then ?_
      have S := (((((S.nil.cons S 3 rfl).cons S 4 rfl).cons S 5 rfl).cons S 6 rfl).cons S 8 rfl).cons S 10 rfl
      refine g_seq ?_
      rw [hmp, hup] at H
      ·skip
       refine cut (fun a w => ∃ vi, St 131 [(4, .pointer (some ⟨b4, 0, none⟩))] a ∧ HSat M u0 (Cel b4 35 [.int .i64 0, .int .i64 0, .int .i64 0] :: [Cel b 51 [vi, vb, .map (some mb)], OSl 29 vi 5 Ord.enc (insO s.offers o), OSl 29 vb 5 Ord.enc (s.bids), MapA mb (fun n : Int => Value.int .i64 n) (fun b : Bool => Value.bool b) (memS (o.id :: s.ids)) (o.id :: s.ids).length] ++ l) w) ?_ ?_
       ·skip
        refine t_st (tails := [8, 10]) [] Fmo H ?_
        refine t_p 0 rfl (by kernel_rfl) (rem' := [1, 2, 3, 4, 5, 6, 7, 8, 9, 10]) rfl rfl rfl rfl S (fun w => y_move rfl S rfl) fun a S => ?_
        refine t_q 1 rfl (by kernel_rfl) (rem' := [2, 3, 4, 5, 6, 7, 8, 9, 10]) rfl rfl rfl rfl S (fun w H => y_move rfl S rfl) fun a S => ?_
        refine t_q 2 rfl (by kernel_rfl) (rem' := [3, 4, 5, 6, 7, 8, 9, 10]) rfl rfl rfl rfl S (fun w H => y_nilCheck rfl S rfl) fun a S => ?_
        refine t_q 3 rfl (by kernel_rfl) (rem' := [4, 5, 6, 7, 8, 9, 10]) rfl rfl rfl rfl S (fun w H => y_load rfl Fsca39 S H rfl rfl) fun a S => ?_
        refine t_q 5 rfl (by kernel_rfl) (rem' := [4, 6, 7, 8, 9, 10]) rfl rfl rfl rfl S (fun w H => y_move rfl S rfl) fun a S => ?_
        refine t_q 6 rfl (by kernel_rfl) (rem' := [4, 7, 8, 9, 10]) rfl rfl rfl rfl S (fun w H => y_load0 rfl S H rfl (by exact Fagg29)) fun a S => ?_
        refine t_b [4, 7] (by kernel_rfl) rfl (fa2 ?_ ?_)
        ·refine ⟨_, rfl, fun w H => ?_⟩
         refine op_call (wn rfl) rfl rfl S (co_func rfl Try.call26 S rfl) (clone_spec vo s.offers _ (H.sl vo) (by omega)) fun u124 w hc a S => ?_
         have H1 := hc
         have H := H.call1 H1 rfl
         refine t_n H (rem' := [7, 8, 9, 10]) rfl ?_
         refine t_b1 7 (by kernel_rfl) rfl fun w H => ?_
         refine op_buildSlice (wn rfl) rfl rfl rfl Try.underlying39 Finf29 S H (idx := [0]) rfl rfl rfl (z := [.int .i64 0, .int .i64 0, .bool false, .string ⟨#[]⟩, .int .i64 0]) (by kernel_rfl) (cs := [.int .i64 o.id, .int .i64 o.price, .bool o.sell, .string o.person, .int .i64 o.serial]) (by kernel_rfl) fun b127 a w S H => ?_
         refine t_n H (rem' := [8, 9, 10]) rfl ?_
         refine t_b1 8 (by kernel_rfl) rfl fun w H => ?_
         refine op_call (wn rfl) rfl rfl S (co_func rfl Try.call34 S rfl) (insert_spec u124 s.offers j o b127 _ (H.pick [OSl 29 u124 5 Ord.enc s.offers, Cel b127 29 [.int .i64 o.id, .int .i64 o.price, .bool o.sell, .string o.person, .int .i64 o.serial]]) hj (by omega)) fun u128 w hc a S => ?_
         have H := hc
         simp only [List.cons_append, List.nil_append, List.append_eq] at H
         refine t_tail H rfl (rem' := [9, 10]) rfl ?_
         refine t_q 9 rfl (by kernel_rfl) (rem' := [10]) rfl rfl rfl rfl S (fun w H => y_nilCheck rfl S rfl) fun a S => ?_
         refine t_b1 10 (by kernel_rfl) rfl fun w H => ?_
         refine op_store (wn rfl) rfl rfl S H rfl rfl (H.sl1 _) Fsiz39 rfl fun a w S H => ?_
         dsimp only [List.set, Nat.zero_add, Nat.reduceAdd] at H
         refine t_tail H rfl (rem' := []) rfl ?_
         refine t_nil (fun w H => ?_)
         rw [← hins] at H
         exact ⟨_, S.nil.cons S 4 rfl, H.takeT (Cel b4 35 [.int .i64 0, .int .i64 0, .int .i64 0] :: [Cel b 51 [u128, vb, .map (some mb)], OSl 29 u128 5 Ord.enc (insO s.offers o), OSl 29 vb 5 Ord.enc (s.bids), MapA mb (fun n : Int => Value.int .i64 n) (fun b : Bool => Value.bool b) (memS (o.id :: s.ids)) (o.id :: s.ids).length]) l⟩
        ·refine ⟨_, rfl, fun w H => ?_⟩
         refine op_buildSlice (wn rfl) rfl rfl rfl Try.underlying39 Finf29 S H (idx := [0]) rfl rfl rfl (z := [.int .i64 0, .int .i64 0, .bool false, .string ⟨#[]⟩, .int .i64 0]) (by kernel_rfl) (cs := [.int .i64 o.id, .int .i64 o.price, .bool o.sell, .string o.person, .int .i64 o.serial]) (by kernel_rfl) fun b127 a w S H => ?_
         refine t_n H (rem' := [4, 8, 9, 10]) rfl ?_
         refine t_b1 4 (by kernel_rfl) rfl fun w H => ?_
         refine op_call (wn rfl) rfl rfl S (co_func rfl Try.call26 S rfl) (clone_spec vo s.offers _ (H.sl vo) (by omega)) fun u124 w hc a S => ?_
         have H1 := hc
         have H := H.call1 H1 rfl
         refine t_n H (rem' := [8, 9, 10]) rfl ?_
         refine t_b1 8 (by kernel_rfl) rfl fun w H => ?_
         refine op_call (wn rfl) rfl rfl S (co_func rfl Try.call34 S rfl) (insert_spec u124 s.offers j o b127 _ (H.pick [OSl 29 u124 5 Ord.enc s.offers, Cel b127 29 [.int .i64 o.id, .int .i64 o.price, .bool o.sell, .string o.person, .int .i64 o.serial]]) hj (by omega)) fun u128 w hc a S => ?_
         have H := hc
         simp only [List.cons_append, List.nil_append, List.append_eq] at H
         refine t_tail H rfl (rem' := [9, 10]) rfl ?_
         refine t_q 9 rfl (by kernel_rfl) (rem' := [10]) rfl rfl rfl rfl S (fun w H => y_nilCheck rfl S rfl) fun a S => ?_
         refine t_b1 10 (by kernel_rfl) rfl fun w H => ?_
         refine op_store (wn rfl) rfl rfl S H rfl rfl (H.sl1 _) Fsiz39 rfl fun a w S H => ?_
         dsimp only [List.set, Nat.zero_add, Nat.reduceAdd] at H
         refine t_tail H rfl (rem' := []) rfl ?_
         refine t_nil (fun w H => ?_)
         rw [← hins] at H
         exact ⟨_, S.nil.cons S 4 rfl, H.takeT (Cel b4 35 [.int .i64 0, .int .i64 0, .int .i64 0] :: [Cel b 51 [u128, vb, .map (some mb)], OSl 29 u128 5 Ord.enc (insO s.offers o), OSl 29 vb 5 Ord.enc (s.bids), MapA mb (fun n : Int => Value.int .i64 n) (fun b : Bool => Value.bool b) (memS (o.id :: s.ids)) (o.id :: s.ids).length]) l⟩
       rintro a w ⟨vi, S, H⟩
       simp only [List.cons_append, List.nil_append] at H
       refine gsr ?_
       refine gy rfl rfl rfl S (y_buildf rfl Fbld35 S rfl (idx := []) rfl (cs := [_, _, _]) rfl) fun a S => ?_
       refine wl_of (op_storea (wn rfl) rfl rfl S H rfl rfl rfl Fsiz35 rfl (cs' := [_, _, _]) rfl fun a w S H => ?_)
       refine ga S fun a S => ?_
       refine ga S fun a S => ?_
       refine gnt ?_
       refine g_ret ?_
       refine ret3ctt rfl S H rfl rfl rfl (by exact Fagg35) ?_
       have hp2 := pl_open hva htw (by rw [hoth]; exact hall) (by omega)
       rw [hp2.1, hp2.2]
       exact ⟨rfl, vi, vb, by simp only [Bk.setOwn, Bk.own, hsell, Bk.use]; exact H.tail⟩
end Go.Proofs.Ytcgpbalpihkiiaa
