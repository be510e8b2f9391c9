/- The walks. No condition. -/
import Derived.Test.YtnnendajegdnhaaChecked
import Derived.Test.YtnnendajegdnhaaGwBits
import Derived.Test.YtnnendajegdnhaaFacts
import Derived.Test.YtnnendajegdnhaaPlain
import Derived.Test.YtnnendajegdnhaaPlainT
import Derived.Test.YtnnendajegdnhaaW5
namespace Go.Proofs.Ytnnendajegdnhaa
open Go Go.Gw
set_option linter.unusedVariables false
set_option linter.unusedSimpArgs false
set_option maxHeartbeats 8000000 in
/-- (foyer/rebuild.work).match -/
theorem match_spec (vt vo vn ve : Value) (ts : List Ow) (olds next : List Pl) (ps : List (Value × List Int)) (w0 : World) (hvt : IsSl w0 vt 11 Ow.enc ts) (hvo : IsSl w0 vo 9 Pl.enc olds) (hvn : IsSl w0 vn 9 Pl.enc next) (hv : IsSl w0 ve 1 encRow ps) (hr : ∀ p ∈ ps, IsSl w0 p.1 1 encI p.2) (hps : gr ps = edgesL olds next) (hto : ts.length = olds.length) (hm1 : olds.length ≤ 4000) (hm2 : next.length ≤ 4000) :
    Ret Try.prog 48 #[.agg #[vt, vo, vn, ve]] w0 (fun u w => ∃ vp vl vr, u = .tuple #[vp, .agg #[vl, vr]] ∧ HSat No w0 [OSl 3 vp 1 encI (plL olds next), OSl 3 vl 1 encI (clL olds next), OSl 3 vr 1 encI (crL olds next)] w) := by
 refine ret_of_wp (nt := 155) Try.func48 rfl rfl rfl (fl := [(0, .agg #[vt, vo, vn, ve])]) rfl (fun a S => ?_)
 have H := HSat.start w0
 have H := H.ro0 (Sl vt 11 Ow.enc ts) rfl (hvt)
 have H := H.ro0 (Sl vo 9 Pl.enc olds) rfl (hvo)
 have H := H.ro0 (Sl vn 9 Pl.enc next) rfl (hvn)
 have H := H.ro0 (Sl ve 1 encRow ps) rfl (hv)
 have H := H.ro0 (RowsS 1 encI ps) rfl (hr)
 have hpl0 : ps.length = olds.length := by have := congrArg List.length hps; rw [gr_len, edges_len] at this; exact this
 have hvg0 := edges_valid hm1 hm2
 have hvg : validG (gr ps) next.length = true := by rw [hps]; exact hvg0
 have hvp := validG_parts hvg
 refine gsr ?_
 refine wl_of (op_boxa (wn rfl) rfl rfl rfl S H rfl fun b1 a w S H => ?_)
 refine ga S fun a S => ?_
 refine wl_of (op_alloc (wn rfl) rfl rfl rfl S H Fzer41 fun b3 a w S H => ?_)
 refine gnt ?_
 refine gsr ?_
 refine wl_of (op_makeMap (fun n : Int => .int .i64 n) (fun n : Int => .int .i64 n) (wn rfl) rfl rfl rfl S H fun b29 a w S H => ?_)
 rw [show MapA b29 (fun n : Int => .int .i64 n) (fun n : Int => .int .i64 n) (fun _ => none) 0 = MapA b29 (fun n : Int => .int .i64 n) (fun n : Int => .int .i64 n) (ownM (startK olds next 0).1) 0 from congrArg (fun m => MapA b29 (fun n : Int => .int .i64 n) (fun n : Int => .int .i64 n) m 0) (ownM_none next.length).symm] at H
 refine wl_of (op_alloc (wn rfl) rfl rfl rfl S H Fzer118 fun b4 a w S H => ?_)
 refine wl_of (op_store (wn rfl) rfl rfl S H rfl rfl rfl Fsiz118 rfl fun a w S H => ?_)
 dsimp only [List.set, Nat.zero_add, Nat.reduceAdd] at H
 refine gnt ?_
 refine gsr ?_
 refine wl_of (op_buildSlice (wn rfl) rfl rfl rfl Try.underlying39 Finf3 S H (idx := [0]) rfl rfl rfl (z := [.int .i64 0]) (by kernel_rfl) (cs := [_]) rfl fun b30 a w S H => ?_)
 refine gy rfl rfl rfl S (y_faddrb rfl Ffo99_0 S rfl) fun a S => ?_
 refine gy rfl rfl rfl S (y_load rfl Fsca23 S H rfl rfl) fun a S => ?_
 refine gy rfl rfl rfl S (y_lens rfl Try.underlying23 S H rfl) fun a S => ?_
 refine wl_of (op_call (wn rfl) rfl rfl S (co_func rfl Try.call61 S rfl) (repeat_spec (.slice (some ⟨b30, 0, none⟩) 1 1) ts.length _ (H.slb b30 [-1] encI 1 rfl rfl (by simp [encI]) (by omega)) (by omega)) fun u34 w hc a S => ?_)
 have H1 := hc
 have H := H.call1 H1 rfl
 refine wl_of (op_alloc (wn rfl) rfl rfl rfl S H Fzer39 fun b5 a w S H => ?_)
 refine wl_of (op_store (wn rfl) rfl rfl S H rfl rfl (H.sl1 _) Fsiz39 rfl fun a w S H => ?_)
 dsimp only [List.set, Nat.zero_add, Nat.reduceAdd] at H
 refine gnt ?_
 have S := ((((S.nil.cons S 1 rfl).cons S 2 rfl).cons S 3 rfl).cons S 4 rfl).cons S 5 rfl
 refine gsr ?_
 refine gy rfl rfl rfl S (y_makeFunc rfl S rfl rfl) fun a S => ?_
 refine wl_of (op_alloc (wn rfl) rfl rfl rfl S H Fzer120 fun b6 a w S H => ?_)
 refine wl_of (op_store (wn rfl) rfl rfl S H rfl rfl rfl Fsiz120 rfl fun a w S H => ?_)
 dsimp only [List.set, Nat.zero_add, Nat.reduceAdd] at H
 refine gnt ?_
 refine g_seq ?_
 refine gsr ?_
 refine gy rfl rfl rfl S (y_faddrb rfl Ffo99_3 S rfl) fun a S => ?_
 refine gy rfl rfl rfl S (y_load rfl Fsca96 S H rfl rfl) fun a S => ?_
 refine gy rfl rfl rfl S (y_lens rfl Try.underlying96 S H rfl) fun a S => ?_
 refine gm S fun a S => ?_
 refine gnt ?_
 refine g_block ?_
 have H := H.defs0
 rw [show List.replicate ts.length (-1) = (startK olds next 0).2 by rw [hto]; rfl] at H
 have H := (H.front (Cel b6 120 [.func (.func 62) #[] #[.pointer (some ⟨b4, 0, none⟩), .pointer (some ⟨b5, 0, none⟩)]])).freeze
 have H := (H.front (Cel b5 39 [u34])).freeze
 have H := (H.front (Cel b4 118 [.map (some b29)])).freeze
 have H := (H.front (Cel b1 99 [vt, vo, vn, ve])).freeze
 
 have SU := (((((((S.nil.cons S 1 rfl).cons S 2 rfl).cons S 3 rfl).cons S 4 rfl).cons S 5 rfl).cons S 6 rfl).cons S 37 rfl).cons S 38 rfl
 refine loopD (X := Nat × List Nat) (fun x => x.2) (fun x => [(39, .int .i64 (x.1 : Int))]) (fun x w => x.1 ≤ olds.length ∧ ∃ c, HSat No w0 [DefsA x.2, MapA b29 (fun n : Int => .int .i64 n) (fun n : Int => .int .i64 n) (ownM ((startK olds next x.1).1)) c, OSl 3 u34 1 encI (startK olds next x.1).2, Cel b3 41 [.slice none 0 0, .slice none 0 0], Atom.ro (Cel b6 120 [.func (.func 62) #[] #[.pointer (some ⟨b4, 0, none⟩), .pointer (some ⟨b5, 0, none⟩)]]), Atom.ro (Cel b5 39 [u34]), Atom.ro (Cel b4 118 [.map (some b29)]), Atom.ro (Cel b1 99 [vt, vo, vn, ve]), RowsS 1 encI ps, Sl ve 1 encRow ps, Sl vn 9 Pl.enc next, Sl vo 9 Pl.enc olds, Sl vt 11 Ow.enc ts] w) (fun x => olds.length - x.1) (0, []) SU (S.nil.cons S 39 rfl) (⟨by simp, 0, H.take [DefsA [], MapA b29 (fun n : Int => .int .i64 n) (fun n : Int => .int .i64 n) (ownM ((startK olds next 0).1)) 0, OSl 3 u34 1 encI (startK olds next 0).2, Cel b3 41 [.slice none 0 0, .slice none 0 0], Atom.ro (Cel b6 120 [.func (.func 62) #[] #[.pointer (some ⟨b4, 0, none⟩), .pointer (some ⟨b5, 0, none⟩)]]), Atom.ro (Cel b5 39 [u34]), Atom.ro (Cel b4 118 [.map (some b29)]), Atom.ro (Cel b1 99 [vt, vo, vn, ve]), RowsS 1 encI ps, Sl ve 1 encRow ps, Sl vn 9 Pl.enc next, Sl vo 9 Pl.enc olds, Sl vt 11 Ow.enc ts]⟩) (fun x a w S hW => ?_)
 simp only [List.cons_append, List.nil_append] at S
 obtain ⟨i, ds⟩ := x
 obtain ⟨hi, c, H⟩ := hW
 dsimp only at S H hi
 refine gsr ?_
 refine gy rfl rfl rfl S (y_bin rfl S rfl rfl rfl) fun a S => ?_
 refine gnt ?_
 refine g_seq ?_
 refine c_if S rfl (fun h1 => ?_) (fun h1 => ?_)
 ·have h1p := h1; try simp only [DL] at h1p
  have hip : i < ps.length := by omega
  have hio : i < olds.length := by omega
  have hrw := gr_row ps hip
  have hrl := (hr _ (List.getElem_mem hip)).len
  have hrng : ∀ x ∈ ps[i].2, 0 ≤ x ∧ x < next.length := fun x hx => hvp.2.2.2 i x (by rw [hrw]; exact hx)
  have hI := startK_inv hm1 hm2 i (by omega)
  have hlo : (startK olds next i).1.length = next.length := by have := hI.wf.lo; simpa using this
  have hlg : (startK olds next i).2.length = olds.length := by have := hI.wf.lg; rw [edges_len] at this; exact this
  have hch : findS next ps[i].2 (spot4 olds[i]) = chF olds next i := by
    rw [findS_first (fun x hx => by have := hrng x hx; omega), ← hrw, hps]
    unfold chF
    rw [List.getD_eq_getElem?_getD, List.getElem?_eq_getElem hio]; rfl
  refine g_skip ?_
  refine n_then ?_
  refine g_seq ?_
  refine g_block ?_
  refine gsr ?_
  refine gm S fun a S => ?_
  refine gy rfl rfl rfl S (y_iaddrn rfl Try.underlying96 Fsiz39 S H rfl rfl (by first | assumption | omega | (rw [hpk]; omega) | (rw [hpl]; omega) | (rw [seenB_len]; omega))) fun a S => ?_
  refine gy rfl rfl rfl S (y_loads _ rfl Fsca39 S H rfl (by first | assumption | omega | (rw [hpk]; omega) | (rw [hpl]; omega) | (rw [seenB_len]; omega)) rfl) fun a S => ?_
  refine ga S fun a S => ?_
  refine ga S fun a S => ?_
  refine gnt ?_
  have S := ((((((((((S.nil.cons S 1 rfl).cons S 2 rfl).cons S 3 rfl).cons S 4 rfl).cons S 5 rfl).cons S 6 rfl).cons S 37 rfl).cons S 38 rfl).cons S 39 rfl).cons S 7 rfl).cons S 8 rfl
  refine gsr ?_
  refine wl_of (op_makeMap (encI4) (fun n : Int => .int .i64 n) (wn rfl) rfl rfl rfl S H fun b44 a w S H => ?_)
  refine wl_of (op_alloc (wn rfl) rfl rfl rfl S H Fzer121 fun b9 a w S H => ?_)
  refine wl_of (op_store (wn rfl) rfl rfl S H rfl rfl rfl Fsiz121 rfl fun a w S H => ?_)
  dsimp only [List.set, Nat.zero_add, Nat.reduceAdd] at H
  refine gnt ?_
  refine g_seq ?_
  refine gsr ?_
  refine gm S fun a S => ?_
  refine wl_of (op_call (wn rfl) rfl rfl S (co_func rfl Try.call63 S rfl) (backward_spec ps[i].1 ps[i].2 _ (H.rwsS ps _ (List.getElem_mem hip))) fun v w hc a S => ?_)
  obtain ⟨bi, rfl, H1⟩ := hc
  have H := H.call1 H1 rfl
  refine gnt ?_
  refine g_block ?_
  rw [show MapA b44 (encI4) (fun n : Int => .int .i64 n) (fun _ => none) 0 = MapA b44 (encI4) (fun n : Int => .int .i64 n) (findS next (ps[i].2.drop ps[i].2.length)) 0 by rw [List.drop_length]; rfl] at H
  have H := (H.front (Cel b9 121 [.map (some b44)])).freeze
  have H := (H.front (Cel bi 39 [ps[i].1])).freeze
  have H := H.take [DefsA ds, MapA b44 (encI4) (fun n : Int => .int .i64 n) (findS next (ps[i].2.drop ps[i].2.length)) 0, Atom.ro (Cel b9 121 [.map (some b44)]), Atom.ro (Cel bi 39 [ps[i].1]), MapA b29 (fun n : Int => .int .i64 n) (fun n : Int => .int .i64 n) (ownM ((startK olds next i).1)) c, OSl 3 u34 1 encI (startK olds next i).2, Cel b3 41 [.slice none 0 0, .slice none 0 0], Atom.ro (Cel b6 120 [.func (.func 62) #[] #[.pointer (some ⟨b4, 0, none⟩), .pointer (some ⟨b5, 0, none⟩)]]), Atom.ro (Cel b5 39 [u34]), Atom.ro (Cel b4 118 [.map (some b29)]), Atom.ro (Cel b1 99 [vt, vo, vn, ve]), RowsS 1 encI ps, Sl ve 1 encRow ps, Sl vn 9 Pl.enc next, Sl vo 9 Pl.enc olds, Sl vt 11 Ow.enc ts]
  refine g_range (Φ := fun p l2 => p = none ∧ ∃ c2, l2 = [MapA b44 (encI4) (fun n : Int => .int .i64 n) (findS next (ps[i].2.drop 0)) c2, Atom.ro (Cel b9 121 [.map (some b44)]), Atom.ro (Cel bi 39 [ps[i].1]), MapA b29 (fun n : Int => .int .i64 n) (fun n : Int => .int .i64 n) (ownM ((startK olds next i).1)) c, OSl 3 u34 1 encI (startK olds next i).2, Cel b3 41 [.slice none 0 0, .slice none 0 0], Atom.ro (Cel b6 120 [.func (.func 62) #[] #[.pointer (some ⟨b4, 0, none⟩), .pointer (some ⟨b5, 0, none⟩)]]), Atom.ro (Cel b5 39 [u34]), Atom.ro (Cel b4 118 [.map (some b29)]), Atom.ro (Cel b1 99 [vt, vo, vn, ve]), RowsS 1 encI ps, Sl ve 1 encRow ps, Sl vn 9 Pl.enc next, Sl vo 9 Pl.enc olds, Sl vt 11 Ow.enc ts]) S (H) rfl Try.call79 (fun R lb w1 hrec H1 => ?_) ?_
  ·have SR := S.recd
   refine Ret.mono (backward_iter lb bi ps[i].1 ps[i].2 w1 (fun k w => ∃ c2, HSat No w0 [Blk lb (.loop R), DefsA (R.defers :: ds), MapA b44 (encI4) (fun n : Int => .int .i64 n) (findS next (ps[i].2.drop k)) c2, Atom.ro (Cel b9 121 [.map (some b44)]), Atom.ro (Cel bi 39 [ps[i].1]), MapA b29 (fun n : Int => .int .i64 n) (fun n : Int => .int .i64 n) (ownM ((startK olds next i).1)) c, OSl 3 u34 1 encI (startK olds next i).2, Cel b3 41 [.slice none 0 0, .slice none 0 0], Atom.ro (Cel b6 120 [.func (.func 62) #[] #[.pointer (some ⟨b4, 0, none⟩), .pointer (some ⟨b5, 0, none⟩)]]), Atom.ro (Cel b5 39 [u34]), Atom.ro (Cel b4 118 [.map (some b29)]), Atom.ro (Cel b1 99 [vt, vo, vn, ve]), RowsS 1 encI ps, Sl ve 1 encRow ps, Sl vn 9 Pl.enc next, Sl vo 9 Pl.enc olds, Sl vt 11 Ow.enc ts] w) (fun k w ⟨c2, H⟩ => ⟨H.rd bi, H.rwsS ps _ (List.getElem_mem hip)⟩) (fun k w w' ⟨c2, H⟩ e => ⟨c2, H.ext e⟩) (fun k hk w hJ => ?_) ⟨0, H1⟩) ?_
   ·obtain ⟨c2, H⟩ := hJ
    obtain ⟨n, hn⟩ : ∃ n : Nat, ps[i].2[k] = n := ⟨ps[i].2[k].toNat, by have := hrng _ (List.getElem_mem hk); omega⟩
    have hnn : n < next.length := by have := hrng _ (List.getElem_mem hk); omega
    refine yield2 hrec SR H rfl rfl (fun a S => ?_)
    refine g_region ?_
    refine ga S fun a S => ?_
    rw [hn] at S
    refine gnt ?_
    refine r_begin hrec H (fun w H => ?_)
    refine g_block ?_
    refine region_st (loud := [8]) (tails := [8]) (free := []) [0, 1, 2, 3, 4, 5, 6, 7, 8] [] Fmo (by kernel_rfl) (by kernel_rfl) rfl H ?_
    refine m_w rfl rfl (wn rfl) rfl rfl S (fun w H => y_load rfl Fsca121 S H rfl rfl) fun a S => ?_
    refine m_w rfl rfl (wn rfl) rfl rfl S (fun w H => y_faddrb rfl Ffo99_2 S rfl) fun a S => ?_
    refine m_w rfl rfl (wn rfl) rfl rfl S (fun w H => y_load rfl Fsca22 S H rfl rfl) fun a S => ?_
    refine m_w rfl rfl (wn rfl) rfl rfl S (fun w H => y_move rfl S rfl) fun a S => ?_
    refine m_w rfl rfl (wn rfl) rfl rfl S (fun w H => y_iaddrn rfl Try.underlying22 Fsiz85 S H rfl rfl (by first | assumption | omega | (rw [hpk]; omega) | (rw [hpl]; omega) | (rw [seenB_len]; omega))) fun a S => ?_
    refine m_loadsa _ rfl rfl (wn rfl) rfl rfl S rfl rfl (by exact Fagg85) (by first | assumption | omega | (rw [hpk]; omega) | (rw [hpl]; omega) | (rw [seenB_len]; omega)) fun a S => ?_
    refine m_c rfl rfl (wn rfl) rfl rfl S (fun w => co_func rfl Try.call64 S rfl) (fun w H => numbers_spec next[n] _) fun a S => ?_
    refine m_w rfl rfl (wn rfl) rfl rfl S (fun w H => y_move rfl S rfl) fun a S => ?_
    refine m_l rfl rfl (fun w H => op_mapUpdate (spot4 next[n]) ((n : Int)) (wn rfl) rfl rfl Try.underlying121 S H rfl (keyOK_i4 Try.underlying126 (by kernel_rfl) (by kernel_rfl)) (by exact rfl) (by exact rfl) fun a w S H => m_tail H rfl ?_)
    refine m_nil (fun w H => ?_)
    refine n_block ?_
    refine r_end hrec H (fun w H => ?_)
    rw [findS_step hk hn hnn] at H
    exact ⟨rfl, _, H⟩
   ·rintro _ w2 ⟨c2, H2⟩
    exact ⟨.ready, none, _, by simp, ⟨rfl, c2, rfl⟩, by rw [hrec.same]; exact H2⟩
  ·intro bd a w pend l2 S H hΦ
   obtain ⟨rfl, c2, rfl⟩ := hΦ
   rw [List.drop_zero] at H
   refine n_block ?_
   refine n_then ?_
   have S := ((((((((((S.nil.cons S 1 rfl).cons S 2 rfl).cons S 3 rfl).cons S 4 rfl).cons S 5 rfl).cons S 6 rfl).cons S 37 rfl).cons S 38 rfl).cons S 39 rfl).cons S 7 rfl).cons S 9 rfl
   refine g_seq ?_
   refine region_st (loud := []) (tails := []) (free := []) [0, 1, 2, 3, 4, 5, 6, 7, 8, 9, 10, 11, 12] [] Fmo (by kernel_rfl) (by kernel_rfl) rfl H ?_
   refine m_w rfl rfl (wn rfl) rfl rfl S (fun w H => y_load rfl Fsca121 S H rfl rfl) fun a S => ?_
   refine m_w rfl rfl (wn rfl) rfl rfl S (fun w H => y_faddrb rfl Ffo99_1 S rfl) fun a S => ?_
   refine m_w rfl rfl (wn rfl) rfl rfl S (fun w H => y_load rfl Fsca22 S H rfl rfl) fun a S => ?_
   refine m_w rfl rfl (wn rfl) rfl rfl S (fun w H => y_move rfl S rfl) fun a S => ?_
   refine m_w rfl rfl (wn rfl) rfl rfl S (fun w H => y_iaddrn rfl Try.underlying22 Fsiz85 S H rfl rfl (by first | assumption | omega | (rw [hpk]; omega) | (rw [hpl]; omega) | (rw [seenB_len]; omega))) fun a S => ?_
   refine m_loadsa _ rfl rfl (wn rfl) rfl rfl S rfl rfl (by exact Fagg85) (by first | assumption | omega | (rw [hpk]; omega) | (rw [hpl]; omega) | (rw [seenB_len]; omega)) fun a S => ?_
   refine m_c rfl rfl (wn rfl) rfl rfl S (fun w => co_func rfl Try.call64 S rfl) (fun w H => numbers_spec olds[i] _) fun a S => ?_
   refine m_w rfl rfl (wn rfl) rfl rfl S (fun w H => y_lookupokE (spot4 olds[i]) ((0 : Int)) rfl Try.underlying121 Finf3 S H rfl (keyOK_i4 Try.underlying126 (by kernel_rfl) (by kernel_rfl)) (by exact rfl) (by exact rfl) rfl) fun a S => ?_
   rw [hch] at S
   refine m_w rfl rfl (wn rfl) rfl rfl S (fun w H => y_move rfl S rfl) fun a S => ?_
   refine m_w rfl rfl (wn rfl) rfl rfl S (fun w H => y_extract rfl S rfl rfl) fun a S => ?_
   refine m_w rfl rfl (wn rfl) rfl rfl S (fun w H => y_extract rfl S rfl rfl) fun a S => ?_
   refine m_w rfl rfl (wn rfl) rfl rfl S (fun w H => y_assign rfl S rfl) fun a S => ?_
   refine m_w rfl rfl (wn rfl) rfl rfl S (fun w H => y_assign rfl S rfl) fun a S => ?_
   refine m_nil (fun w H => ?_)
   refine n_then ?_
   have S := (((((((((((S.nil.cons S 1 rfl).cons S 2 rfl).cons S 3 rfl).cons S 4 rfl).cons S 5 rfl).cons S 6 rfl).cons S 37 rfl).cons S 38 rfl).cons S 39 rfl).cons S 7 rfl).cons S 12 rfl).cons S 13 rfl
   refine gsr ?_
   refine gm S fun a S => ?_
   refine gnt ?_
   refine c_if S rfl (fun h2 => ?_) (fun h2 => ?_)
   ·have h2p := h2; try simp only [DL] at h2p
    obtain ⟨m, hm⟩ := Option.isSome_iff_exists.1 h2
    have hmr : m ∈ ps[i].2 := by rw [← hrw, hps]; exact firstS_mem hm
    obtain ⟨n, rfl⟩ : ∃ n : Nat, m = n := ⟨m.toNat, by have := hrng m hmr; omega⟩
    have hnn := hrng _ hmr
    rw [hm] at S
    simp only [Option.getD_some, Option.isSome_some] at S
    refine gsr ?_
    refine gy rfl rfl rfl S (y_load rfl Fsca118 S H rfl rfl) fun a S => ?_
    refine gm S fun a S => ?_
    refine gy rfl rfl rfl S (y_lookupok (_) ((0 : Int)) rfl Try.underlying118 Finf3 S H rfl (keyOK_int Try.underlying3) (by exact rfl) (by exact rfl)) fun a S => ?_
    refine gm S fun a S => ?_
    refine gy rfl rfl rfl S (y_extract rfl S rfl rfl) fun a S => ?_
    refine gy rfl rfl rfl S (y_extract rfl S rfl rfl) fun a S => ?_
    refine ga S fun a S => ?_
    refine ga S fun a S => ?_
    refine gnt ?_
    have S := (((((((((((S.nil.cons S 1 rfl).cons S 2 rfl).cons S 3 rfl).cons S 4 rfl).cons S 5 rfl).cons S 6 rfl).cons S 37 rfl).cons S 38 rfl).cons S 39 rfl).cons S 7 rfl).cons S 12 rfl).cons S 15 rfl
    refine gsr ?_
    refine gm S fun a S => ?_
    refine gy rfl rfl rfl S (y_not rfl S rfl) fun a S => ?_
    refine gnt ?_
    refine c_if S rfl (fun h3 => ?_) (fun h3 => ?_)
    ·have h3p := h3; try simp only [DL] at h3p
     have hfr : atI (startK olds next i).1 n < 0 := by have hh := h3; rw [ownM_get] at hh; by_cases h0 : 0 ≤ atI (startK olds next i).1 n; rw [if_pos h0] at hh; cases hh; omega
     have stp := startK_give hm hfr
     refine g_region ?_
     refine gy rfl rfl rfl S (y_load rfl Fsca120 S H rfl rfl) fun a S => ?_
     refine gm S fun a S => ?_
     refine gm S fun a S => ?_
     refine wl_of (op_call (wn rfl) rfl rfl S (co_value rfl Try.call62 S rfl rfl) (give_spec i n b4 b5 b29 c u34 (startK olds next i).1 (startK olds next i).2 _ (by omega) (by omega) (H.pick [MapA b29 (fun n : Int => .int .i64 n) (fun n : Int => .int .i64 n) (ownM ((startK olds next i).1)) c, OSl 3 u34 1 encI ((startK olds next i).2), Atom.ro (Cel b4 118 [.map (some b29)]), Atom.ro (Cel b5 39 [u34])])) fun v w hc a S => ?_)
     obtain ⟨rfl, c3, H⟩ := hc
     simp only [List.append_eq, List.nil_append] at H
     refine gl_nil ?_
     refine n_block ?_
     refine n_then ?_
     have S := ((((((((S.nil.cons S 1 rfl).cons S 2 rfl).cons S 3 rfl).cons S 4 rfl).cons S 5 rfl).cons S 6 rfl).cons S 37 rfl).cons S 38 rfl).cons S 39 rfl
     refine g_region ?_
     refine gy rfl rfl rfl S (y_add rfl S rfl rfl (by omega)) fun a S => ?_
     refine gm S fun a S => ?_
     refine gnt ?_
     first
     | exact ⟨(i + 1, bd :: ds), S.nil.cons S 39 rfl, (((((((S.nil.cons S 1 rfl).cons S 2 rfl).cons S 3 rfl).cons S 4 rfl).cons S 5 rfl).cons S 6 rfl).cons S 37 rfl).cons S 38 rfl, ⟨by dsimp only; omega, c, by dsimp only; rw [stp]; exact H.take [DefsA (bd :: ds), MapA b29 (fun n : Int => .int .i64 n) (fun n : Int => .int .i64 n) (ownM ((startK olds next i).1)) c, OSl 3 u34 1 encI (startK olds next i).2, Cel b3 41 [.slice none 0 0, .slice none 0 0], Atom.ro (Cel b6 120 [.func (.func 62) #[] #[.pointer (some ⟨b4, 0, none⟩), .pointer (some ⟨b5, 0, none⟩)]]), Atom.ro (Cel b5 39 [u34]), Atom.ro (Cel b4 118 [.map (some b29)]), Atom.ro (Cel b1 99 [vt, vo, vn, ve]), RowsS 1 encI ps, Sl ve 1 encRow ps, Sl vn 9 Pl.enc next, Sl vo 9 Pl.enc olds, Sl vt 11 Ow.enc ts]⟩, by dsimp only; omega⟩
     | exact ⟨(i + 1, bd :: ds), S.nil.cons S 39 rfl, (((((((S.nil.cons S 1 rfl).cons S 2 rfl).cons S 3 rfl).cons S 4 rfl).cons S 5 rfl).cons S 6 rfl).cons S 37 rfl).cons S 38 rfl, ⟨by dsimp only; omega, c3, by dsimp only; rw [stp]; exact H.take [DefsA (bd :: ds), MapA b29 (fun n : Int => .int .i64 n) (fun n : Int => .int .i64 n) (ownM ((startK olds next i).1.set n (i : Int))) c3, OSl 3 u34 1 encI ((startK olds next i).2.set i (n : Int)), Cel b3 41 [.slice none 0 0, .slice none 0 0], Atom.ro (Cel b6 120 [.func (.func 62) #[] #[.pointer (some ⟨b4, 0, none⟩), .pointer (some ⟨b5, 0, none⟩)]]), Atom.ro (Cel b5 39 [u34]), Atom.ro (Cel b4 118 [.map (some b29)]), Atom.ro (Cel b1 99 [vt, vo, vn, ve]), RowsS 1 encI ps, Sl ve 1 encRow ps, Sl vn 9 Pl.enc next, Sl vo 9 Pl.enc olds, Sl vt 11 Ow.enc ts]⟩, by dsimp only; omega⟩
    ·have h3p := h3; try simp only [DL] at h3p
     have hfr : ¬ atI (startK olds next i).1 n < 0 := by intro h0; have hh := h3; rw [ownM_get, if_neg (by omega)] at hh; cases hh
     have stp := startK_taken hm hfr
     refine g_skip ?_
     refine n_block ?_
     refine n_then ?_
     have S := ((((((((S.nil.cons S 1 rfl).cons S 2 rfl).cons S 3 rfl).cons S 4 rfl).cons S 5 rfl).cons S 6 rfl).cons S 37 rfl).cons S 38 rfl).cons S 39 rfl
     refine g_region ?_
     refine gy rfl rfl rfl S (y_add rfl S rfl rfl (by omega)) fun a S => ?_
     refine gm S fun a S => ?_
     refine gnt ?_
     first
     | exact ⟨(i + 1, bd :: ds), S.nil.cons S 39 rfl, (((((((S.nil.cons S 1 rfl).cons S 2 rfl).cons S 3 rfl).cons S 4 rfl).cons S 5 rfl).cons S 6 rfl).cons S 37 rfl).cons S 38 rfl, ⟨by dsimp only; omega, c, by dsimp only; rw [stp]; exact H.take [DefsA (bd :: ds), MapA b29 (fun n : Int => .int .i64 n) (fun n : Int => .int .i64 n) (ownM ((startK olds next i).1)) c, OSl 3 u34 1 encI (startK olds next i).2, Cel b3 41 [.slice none 0 0, .slice none 0 0], Atom.ro (Cel b6 120 [.func (.func 62) #[] #[.pointer (some ⟨b4, 0, none⟩), .pointer (some ⟨b5, 0, none⟩)]]), Atom.ro (Cel b5 39 [u34]), Atom.ro (Cel b4 118 [.map (some b29)]), Atom.ro (Cel b1 99 [vt, vo, vn, ve]), RowsS 1 encI ps, Sl ve 1 encRow ps, Sl vn 9 Pl.enc next, Sl vo 9 Pl.enc olds, Sl vt 11 Ow.enc ts]⟩, by dsimp only; omega⟩
     | exact ⟨(i + 1, bd :: ds), S.nil.cons S 39 rfl, (((((((S.nil.cons S 1 rfl).cons S 2 rfl).cons S 3 rfl).cons S 4 rfl).cons S 5 rfl).cons S 6 rfl).cons S 37 rfl).cons S 38 rfl, ⟨by dsimp only; omega, c3, by dsimp only; rw [stp]; exact H.take [DefsA (bd :: ds), MapA b29 (fun n : Int => .int .i64 n) (fun n : Int => .int .i64 n) (ownM ((startK olds next i).1.set n (i : Int))) c3, OSl 3 u34 1 encI ((startK olds next i).2.set i (n : Int)), Cel b3 41 [.slice none 0 0, .slice none 0 0], Atom.ro (Cel b6 120 [.func (.func 62) #[] #[.pointer (some ⟨b4, 0, none⟩), .pointer (some ⟨b5, 0, none⟩)]]), Atom.ro (Cel b5 39 [u34]), Atom.ro (Cel b4 118 [.map (some b29)]), Atom.ro (Cel b1 99 [vt, vo, vn, ve]), RowsS 1 encI ps, Sl ve 1 encRow ps, Sl vn 9 Pl.enc next, Sl vo 9 Pl.enc olds, Sl vt 11 Ow.enc ts]⟩, by dsimp only; omega⟩
   ·have h2p := h2; try simp only [DL] at h2p
    have stp := startK_none (by cases e : chF olds next i; rfl; rw [e] at h2; cases h2)
    refine g_skip ?_
    refine n_block ?_
    refine n_then ?_
    have S := ((((((((S.nil.cons S 1 rfl).cons S 2 rfl).cons S 3 rfl).cons S 4 rfl).cons S 5 rfl).cons S 6 rfl).cons S 37 rfl).cons S 38 rfl).cons S 39 rfl
    refine g_region ?_
    refine gy rfl rfl rfl S (y_add rfl S rfl rfl (by omega)) fun a S => ?_
    refine gm S fun a S => ?_
    refine gnt ?_
    first
    | exact ⟨(i + 1, bd :: ds), S.nil.cons S 39 rfl, (((((((S.nil.cons S 1 rfl).cons S 2 rfl).cons S 3 rfl).cons S 4 rfl).cons S 5 rfl).cons S 6 rfl).cons S 37 rfl).cons S 38 rfl, ⟨by dsimp only; omega, c, by dsimp only; rw [stp]; exact H.take [DefsA (bd :: ds), MapA b29 (fun n : Int => .int .i64 n) (fun n : Int => .int .i64 n) (ownM ((startK olds next i).1)) c, OSl 3 u34 1 encI (startK olds next i).2, Cel b3 41 [.slice none 0 0, .slice none 0 0], Atom.ro (Cel b6 120 [.func (.func 62) #[] #[.pointer (some ⟨b4, 0, none⟩), .pointer (some ⟨b5, 0, none⟩)]]), Atom.ro (Cel b5 39 [u34]), Atom.ro (Cel b4 118 [.map (some b29)]), Atom.ro (Cel b1 99 [vt, vo, vn, ve]), RowsS 1 encI ps, Sl ve 1 encRow ps, Sl vn 9 Pl.enc next, Sl vo 9 Pl.enc olds, Sl vt 11 Ow.enc ts]⟩, by dsimp only; omega⟩
    | exact ⟨(i + 1, bd :: ds), S.nil.cons S 39 rfl, (((((((S.nil.cons S 1 rfl).cons S 2 rfl).cons S 3 rfl).cons S 4 rfl).cons S 5 rfl).cons S 6 rfl).cons S 37 rfl).cons S 38 rfl, ⟨by dsimp only; omega, c3, by dsimp only; rw [stp]; exact H.take [DefsA (bd :: ds), MapA b29 (fun n : Int => .int .i64 n) (fun n : Int => .int .i64 n) (ownM ((startK olds next i).1.set n (i : Int))) c3, OSl 3 u34 1 encI ((startK olds next i).2.set i (n : Int)), Cel b3 41 [.slice none 0 0, .slice none 0 0], Atom.ro (Cel b6 120 [.func (.func 62) #[] #[.pointer (some ⟨b4, 0, none⟩), .pointer (some ⟨b5, 0, none⟩)]]), Atom.ro (Cel b5 39 [u34]), Atom.ro (Cel b4 118 [.map (some b29)]), Atom.ro (Cel b1 99 [vt, vo, vn, ve]), RowsS 1 encI ps, Sl ve 1 encRow ps, Sl vn 9 Pl.enc next, Sl vo 9 Pl.enc olds, Sl vt 11 Ow.enc ts]⟩, by dsimp only; omega⟩
 ·have h1p := h1; try simp only [DL] at h1p
  obtain rfl : i = olds.length := by omega
  have hpl1 : (startK olds next olds.length).2.length = olds.length := by have := (startK_inv hm1 hm2 olds.length (Nat.le_refl _)).wf.lg; rw [edges_len] at this; exact this
  refine g_exit ?_
  refine x_then (x_then (x_eq ?_))
  refine n_then ?_
  have S := (((((S.nil.cons S 1 rfl).cons S 2 rfl).cons S 3 rfl).cons S 4 rfl).cons S 5 rfl).cons S 6 rfl
  refine gsr ?_
  refine wl_of (op_alloc (wn rfl) rfl rfl rfl S H Fzer129 fun b16 a w S H => ?_)
  refine gnt ?_
  refine gsr ?_
  refine wl_of (op_alloc (wn rfl) rfl rfl rfl S H Fzer111 fun b17 a w S H => ?_)
  refine gnt ?_
  refine gsr ?_
  refine gy rfl rfl rfl S (y_makeFunc rfl S rfl rfl) fun a S => ?_
  refine wl_of (op_store (wn rfl) rfl rfl S H rfl rfl rfl Fsiz111 rfl fun a w S H => ?_)
  dsimp only [List.set, Nat.zero_add, Nat.reduceAdd] at H
  refine gnt ?_
  refine g_seq ?_
  refine gsr ?_
  refine gy rfl rfl rfl S (y_load rfl Fsca39 S H rfl rfl) fun a S => ?_
  refine gy rfl rfl rfl S (y_lens rfl Try.underlying39 S H rfl) fun a S => ?_
  rw [hpl1] at S
  refine gm S fun a S => ?_
  refine gnt ?_
  refine g_block ?_
  have H := (H.front (Cel b17 111 [.func (.func 65) #[] #[.pointer (some ⟨b1, 0, none⟩), .pointer (some ⟨b16, 0, none⟩), .pointer (some ⟨b4, 0, none⟩), .pointer (some ⟨b17, 0, none⟩), .pointer (some ⟨b6, 0, none⟩)]])).freeze
  rw [show startK olds next olds.length = pairK olds next 0 from rfl] at H
  have SU := (((((((S.nil.cons S 1 rfl).cons S 2 rfl).cons S 3 rfl).cons S 4 rfl).cons S 5 rfl).cons S 16 rfl).cons S 17 rfl).cons S 84 rfl
  refine loopW (X := Nat) SU (fun k => [(85, .int .i64 (k : Int))]) (fun k w => k ≤ olds.length ∧ ∃ c vs, HSat No w0 [DefsA ds, Cel b16 129 [vs], MapA b29 (fun n : Int => .int .i64 n) (fun n : Int => .int .i64 n) (ownM ((pairK olds next k).1)) c, OSl 3 u34 1 encI (pairK olds next k).2, Cel b3 41 [.slice none 0 0, .slice none 0 0], Atom.ro (Cel b17 111 [.func (.func 65) #[] #[.pointer (some ⟨b1, 0, none⟩), .pointer (some ⟨b16, 0, none⟩), .pointer (some ⟨b4, 0, none⟩), .pointer (some ⟨b17, 0, none⟩), .pointer (some ⟨b6, 0, none⟩)]]), Atom.ro (Cel b6 120 [.func (.func 62) #[] #[.pointer (some ⟨b4, 0, none⟩), .pointer (some ⟨b5, 0, none⟩)]]), Atom.ro (Cel b5 39 [u34]), Atom.ro (Cel b4 118 [.map (some b29)]), Atom.ro (Cel b1 99 [vt, vo, vn, ve]), RowsS 1 encI ps, Sl ve 1 encRow ps, Sl vn 9 Pl.enc next, Sl vo 9 Pl.enc olds, Sl vt 11 Ow.enc ts] w) (fun k => olds.length - k) 0 (S.nil.cons S 85 rfl) (⟨by omega, c, .slice none 0 0, H.take [DefsA ds, Cel b16 129 [.slice none 0 0], MapA b29 (fun n : Int => .int .i64 n) (fun n : Int => .int .i64 n) (ownM ((pairK olds next 0).1)) c, OSl 3 u34 1 encI (pairK olds next 0).2, Cel b3 41 [.slice none 0 0, .slice none 0 0], Atom.ro (Cel b17 111 [.func (.func 65) #[] #[.pointer (some ⟨b1, 0, none⟩), .pointer (some ⟨b16, 0, none⟩), .pointer (some ⟨b4, 0, none⟩), .pointer (some ⟨b17, 0, none⟩), .pointer (some ⟨b6, 0, none⟩)]]), Atom.ro (Cel b6 120 [.func (.func 62) #[] #[.pointer (some ⟨b4, 0, none⟩), .pointer (some ⟨b5, 0, none⟩)]]), Atom.ro (Cel b5 39 [u34]), Atom.ro (Cel b4 118 [.map (some b29)]), Atom.ro (Cel b1 99 [vt, vo, vn, ve]), RowsS 1 encI ps, Sl ve 1 encRow ps, Sl vn 9 Pl.enc next, Sl vo 9 Pl.enc olds, Sl vt 11 Ow.enc ts]⟩) (fun k a w S hW => ?_)
  simp only [List.cons_append, List.nil_append] at S
  clear H
  obtain ⟨hk, c, vs0, H⟩ := hW
  have hpk : (pairK olds next k).2.length = olds.length := by have := (pairK_inv hm1 hm2 k hk).1.wf.lg; rw [edges_len] at this; exact this
  refine gsr ?_
  refine gy rfl rfl rfl S (y_bin rfl S rfl rfl rfl) fun a S => ?_
  refine gnt ?_
  refine g_seq ?_
  refine c_if S rfl (fun h4 => ?_) (fun h4 => ?_)
  ·have h4p := h4; try simp only [DL] at h4p
   have hI := (pairK_inv hm1 hm2 k (by omega)).1
   have hatk := atI_eq (show k < (pairK olds next k).2.length by omega)
   refine g_skip ?_
   refine n_then ?_
   refine g_seq ?_
   refine g_block ?_
   refine gsr ?_
   refine gm S fun a S => ?_
   refine ga S fun a S => ?_
   refine gnt ?_
   refine gsr ?_
   refine gy rfl rfl rfl S (y_load rfl Fsca39 S H rfl rfl) fun a S => ?_
   refine gm S fun a S => ?_
   refine gy rfl rfl rfl S (y_iaddrn rfl Try.underlying39 Fsiz3 S H rfl rfl (by first | assumption | omega | (rw [hpk]; omega) | (rw [hpl]; omega) | (rw [seenB_len]; omega))) fun a S => ?_
   refine gy rfl rfl rfl S (y_loads _ rfl Fsca3 S H rfl (by first | assumption | omega | (rw [hpk]; omega) | (rw [hpl]; omega) | (rw [seenB_len]; omega)) rfl) fun a S => ?_
   refine gy rfl rfl rfl S (y_bin rfl S rfl rfl rfl) fun a S => ?_
   refine gnt ?_
   have S := ((((((((((S.nil.cons S 1 rfl).cons S 2 rfl).cons S 3 rfl).cons S 4 rfl).cons S 5 rfl).cons S 16 rfl).cons S 17 rfl).cons S 84 rfl).cons S 85 rfl).cons S 18 rfl).cons S 92 rfl
   refine c_if S rfl (fun h5 => ?_) (fun h5 => ?_)
   ·have h5p := h5; try simp only [DL] at h5p
    have hneg : atI (pairK olds next k).2 k < 0 := by rw [hatk]; exact h5p
    have stp := pairK_yes hneg
    refine gsr ?_
    refine gy rfl rfl rfl S (y_faddrb rfl Ffo99_2 S rfl) fun a S => ?_
    refine gy rfl rfl rfl S (y_load rfl Fsca22 S H rfl rfl) fun a S => ?_
    refine gy rfl rfl rfl S (y_lens rfl Try.underlying22 S H rfl) fun a S => ?_
    refine wl_of (op_make (encB) (false) (wn rfl) rfl rfl rfl Try.underlying129 Finf4 rfl rfl S H rfl rfl rfl (by omega) (by omega) fun b96 a w S H => ?_)
    rw [← seenB_nil] at H
    refine wl_of (op_store (wn rfl) rfl rfl S H rfl rfl (H.sl1 _) Fsiz129 rfl fun a w S H => ?_)
    dsimp only [List.set, Nat.zero_add, Nat.reduceAdd] at H
    refine gnt ?_
    have S := (((((((((S.nil.cons S 1 rfl).cons S 2 rfl).cons S 3 rfl).cons S 4 rfl).cons S 5 rfl).cons S 16 rfl).cons S 17 rfl).cons S 84 rfl).cons S 85 rfl).cons S 18 rfl
    refine g_region ?_
    refine gy rfl rfl rfl S (y_load rfl Fsca111 S H rfl rfl) fun a S => ?_
    refine gm S fun a S => ?_
    refine wl_of (op_call (wn rfl) rfl rfl S (co_value rfl Try.call65 S rfl rfl) (look_spec next.length (.slice (some ⟨b96, 0, none⟩) next.length next.length) u34 vt vo vn ve ps b1 b16 b4 b17 b6 b5 b29 hvg (fuelG next.length) k ⟨[], (pairK olds next k).1, (pairK olds next k).2⟩ c _ (by omega) (by rw [hps]; exact hI.wf) (by simp [fuelG]) (H.pick [OSl 4 (.slice (some ⟨b96, 0, none⟩) next.length next.length) 1 encB (seenB next.length ([])), MapA b29 (fun n : Int => .int .i64 n) (fun n : Int => .int .i64 n) (ownM ((pairK olds next k).1)) c, OSl 3 u34 1 encI ((pairK olds next k).2), Cel b16 129 [(.slice (some ⟨b96, 0, none⟩) next.length next.length)], Atom.ro (Cel b4 118 [.map (some b29)]), Atom.ro (Cel b5 39 [u34]), Atom.ro (Cel b1 99 [vt, vo, vn, ve]), Atom.ro (Cel b17 111 [.func (.func 65) #[] #[.pointer (some ⟨b1, 0, none⟩), .pointer (some ⟨b16, 0, none⟩), .pointer (some ⟨b4, 0, none⟩), .pointer (some ⟨b17, 0, none⟩), .pointer (some ⟨b6, 0, none⟩)]]), Atom.ro (Cel b6 120 [.func (.func 62) #[] #[.pointer (some ⟨b4, 0, none⟩), .pointer (some ⟨b5, 0, none⟩)]]), RowsS 1 encI ps, Sl ve 1 encRow ps])) fun v w hc a S => ?_)
    obtain ⟨rfl, c2, H⟩ := hc
    simp only [List.append_eq, List.nil_append] at H
    rw [hps] at H
    refine gl_nil ?_
    refine n_block ?_
    refine n_then ?_
    have S := ((((((((S.nil.cons S 1 rfl).cons S 2 rfl).cons S 3 rfl).cons S 4 rfl).cons S 5 rfl).cons S 16 rfl).cons S 17 rfl).cons S 84 rfl).cons S 85 rfl
    refine g_region ?_
    refine gy rfl rfl rfl S (y_add rfl S rfl rfl (by omega)) fun a S => ?_
    refine gm S fun a S => ?_
    refine gnt ?_
    first
    | exact ⟨k + 1, S.nil.cons S 85 rfl, (((((((S.nil.cons S 1 rfl).cons S 2 rfl).cons S 3 rfl).cons S 4 rfl).cons S 5 rfl).cons S 16 rfl).cons S 17 rfl).cons S 84 rfl, ⟨by omega, c, vs0, by rw [stp]; exact H⟩, by omega⟩
    | exact ⟨k + 1, S.nil.cons S 85 rfl, (((((((S.nil.cons S 1 rfl).cons S 2 rfl).cons S 3 rfl).cons S 4 rfl).cons S 5 rfl).cons S 16 rfl).cons S 17 rfl).cons S 84 rfl, ⟨by omega, c2, (.slice (some ⟨b96, 0, none⟩) next.length next.length), by rw [stp]; exact H.take [DefsA ds, Cel b16 129 [(.slice (some ⟨b96, 0, none⟩) next.length next.length)], MapA b29 (fun n : Int => .int .i64 n) (fun n : Int => .int .i64 n) (ownM ((aug (edgesL olds next) (fuelG next.length) k ⟨[], (pairK olds next k).1, (pairK olds next k).2⟩).2.owner)) c2, OSl 3 u34 1 encI (aug (edgesL olds next) (fuelG next.length) k ⟨[], (pairK olds next k).1, (pairK olds next k).2⟩).2.got, Cel b3 41 [.slice none 0 0, .slice none 0 0], Atom.ro (Cel b17 111 [.func (.func 65) #[] #[.pointer (some ⟨b1, 0, none⟩), .pointer (some ⟨b16, 0, none⟩), .pointer (some ⟨b4, 0, none⟩), .pointer (some ⟨b17, 0, none⟩), .pointer (some ⟨b6, 0, none⟩)]]), Atom.ro (Cel b6 120 [.func (.func 62) #[] #[.pointer (some ⟨b4, 0, none⟩), .pointer (some ⟨b5, 0, none⟩)]]), Atom.ro (Cel b5 39 [u34]), Atom.ro (Cel b4 118 [.map (some b29)]), Atom.ro (Cel b1 99 [vt, vo, vn, ve]), RowsS 1 encI ps, Sl ve 1 encRow ps, Sl vn 9 Pl.enc next, Sl vo 9 Pl.enc olds, Sl vt 11 Ow.enc ts]⟩, by omega⟩
   ·have h5p := h5; try simp only [DL] at h5p
    have hneg : ¬ atI (pairK olds next k).2 k < 0 := by rw [hatk]; have := h5p; omega
    have stp := pairK_no hneg
    refine g_skip ?_
    refine n_block ?_
    refine n_then ?_
    refine g_region ?_
    refine gy rfl rfl rfl S (y_add rfl S rfl rfl (by omega)) fun a S => ?_
    refine gm S fun a S => ?_
    refine gnt ?_
    first
    | exact ⟨k + 1, S.nil.cons S 85 rfl, (((((((S.nil.cons S 1 rfl).cons S 2 rfl).cons S 3 rfl).cons S 4 rfl).cons S 5 rfl).cons S 16 rfl).cons S 17 rfl).cons S 84 rfl, ⟨by omega, c, vs0, by rw [stp]; exact H⟩, by omega⟩
    | exact ⟨k + 1, S.nil.cons S 85 rfl, (((((((S.nil.cons S 1 rfl).cons S 2 rfl).cons S 3 rfl).cons S 4 rfl).cons S 5 rfl).cons S 16 rfl).cons S 17 rfl).cons S 84 rfl, ⟨by omega, c2, (.slice (some ⟨b96, 0, none⟩) next.length next.length), by rw [stp]; exact H.take [DefsA ds, Cel b16 129 [(.slice (some ⟨b96, 0, none⟩) next.length next.length)], MapA b29 (fun n : Int => .int .i64 n) (fun n : Int => .int .i64 n) (ownM ((aug (edgesL olds next) (fuelG next.length) k ⟨[], (pairK olds next k).1, (pairK olds next k).2⟩).2.owner)) c2, OSl 3 u34 1 encI (aug (edgesL olds next) (fuelG next.length) k ⟨[], (pairK olds next k).1, (pairK olds next k).2⟩).2.got, Cel b3 41 [.slice none 0 0, .slice none 0 0], Atom.ro (Cel b17 111 [.func (.func 65) #[] #[.pointer (some ⟨b1, 0, none⟩), .pointer (some ⟨b16, 0, none⟩), .pointer (some ⟨b4, 0, none⟩), .pointer (some ⟨b17, 0, none⟩), .pointer (some ⟨b6, 0, none⟩)]]), Atom.ro (Cel b6 120 [.func (.func 62) #[] #[.pointer (some ⟨b4, 0, none⟩), .pointer (some ⟨b5, 0, none⟩)]]), Atom.ro (Cel b5 39 [u34]), Atom.ro (Cel b4 118 [.map (some b29)]), Atom.ro (Cel b1 99 [vt, vo, vn, ve]), RowsS 1 encI ps, Sl ve 1 encRow ps, Sl vn 9 Pl.enc next, Sl vo 9 Pl.enc olds, Sl vt 11 Ow.enc ts]⟩, by omega⟩
  ·have h4p := h4; try simp only [DL] at h4p
   obtain rfl : k = olds.length := by omega
   have hI := (pairK_inv hm1 hm2 olds.length (Nat.le_refl _)).1
   have hpl : (pairP olds next).2.length = olds.length := hpk
   have hol : (pairP olds next).1.length = next.length := hI.wf.lo
   have hown : ∀ n : Nat, atI (pairP olds next).1 n < (edgesL olds next).length := fun n => (hI.wf.own n).2
   rw [show pairK olds next olds.length = pairP olds next from rfl] at H
   refine g_exit ?_
   refine x_then (x_then (x_eq ?_))
   refine n_then ?_
   have S := ((((S.nil.cons S 1 rfl).cons S 2 rfl).cons S 3 rfl).cons S 4 rfl).cons S 5 rfl
   refine g_seq ?_
   refine cut (fun a w => ∃ b103 b107 b19 b20, St ⟨155, ds⟩ [(1, .pointer (some ⟨b1, 0, none⟩)), (3, .pointer (some ⟨b3, 0, none⟩)), (4, .pointer (some ⟨b4, 0, none⟩)), (5, .pointer (some ⟨b5, 0, none⟩)), (19, .pointer (some ⟨b19, 0, none⟩)), (20, .pointer (some ⟨b20, 0, none⟩))] a ∧ HSat No w0 [Cel b20 129 [(.slice (some ⟨b107, 0, none⟩) next.length next.length)], Cel b19 129 [.slice (some ⟨b103, 0, none⟩) (pairP olds next).2.length (pairP olds next).2.length], OSl 4 (.slice (some ⟨b103, 0, none⟩) (pairP olds next).2.length (pairP olds next).2.length) 1 encB (List.replicate (pairP olds next).2.length false), OSl 4 (.slice (some ⟨b107, 0, none⟩) next.length next.length) 1 encB (List.replicate next.length false), DefsA ds, Cel b16 129 [vs0], MapA b29 (fun n : Int => .int .i64 n) (fun n : Int => .int .i64 n) (ownM ((pairP olds next).1)) c, OSl 3 u34 1 encI (pairP olds next).2, Cel b3 41 [.slice none 0 0, .slice none 0 0], Atom.ro (Cel b17 111 [.func (.func 65) #[] #[.pointer (some ⟨b1, 0, none⟩), .pointer (some ⟨b16, 0, none⟩), .pointer (some ⟨b4, 0, none⟩), .pointer (some ⟨b17, 0, none⟩), .pointer (some ⟨b6, 0, none⟩)]]), Atom.ro (Cel b6 120 [.func (.func 62) #[] #[.pointer (some ⟨b4, 0, none⟩), .pointer (some ⟨b5, 0, none⟩)]]), Atom.ro (Cel b5 39 [u34]), Atom.ro (Cel b4 118 [.map (some b29)]), Atom.ro (Cel b1 99 [vt, vo, vn, ve]), RowsS 1 encI ps, Sl ve 1 encRow ps, Sl vn 9 Pl.enc next, Sl vo 9 Pl.enc olds, Sl vt 11 Ow.enc ts] w) ?_ ?_
   ·skip
    refine t_st (tails := [9, 10]) [Atom.ro (Cel b5 39 [u34]), Atom.ro (Cel b1 99 [vt, vo, vn, ve]), Sl vn 9 Pl.enc next] Fmo H ?_
    refine t_q 0 rfl (by kernel_rfl) (rem' := [1, 2, 3, 4, 5, 6, 7, 8, 9, 10]) rfl rfl rfl rfl S (fun w H => y_load rfl Fsca39 S H rfl rfl) fun a S => ?_
    refine t_q 1 rfl (by kernel_rfl) (rem' := [2, 3, 4, 5, 6, 7, 8, 9, 10]) rfl rfl rfl rfl S (fun w H => y_lens rfl Try.underlying39 S H rfl) fun a S => ?_
    refine t_p 3 rfl (by kernel_rfl) (rem' := [2, 4, 5, 6, 7, 8, 9, 10]) rfl rfl rfl rfl S (fun w => y_faddrb rfl Ffo99_2 S rfl) fun a S => ?_
    refine t_f 4 rfl (by kernel_rfl) (rem' := [2, 5, 6, 7, 8, 9, 10]) rfl rfl rfl rfl S (fun w H => y_load rfl Fsca22 S H rfl rfl) fun a S => ?_
    refine t_f 5 rfl (by kernel_rfl) (rem' := [2, 6, 7, 8, 9, 10]) rfl rfl rfl rfl S (fun w H => y_lens rfl Try.underlying22 S H rfl) fun a S => ?_
    refine t_b [2, 6, 7, 8] (by kernel_rfl) rfl (fa4 ?_ ?_ ?_ ?_)
    ·refine ⟨_, rfl, fun w H => ?_⟩
     refine op_make (encB) (false) (wn rfl) rfl rfl rfl Try.underlying129 Finf4 rfl rfl S H rfl rfl rfl (by rw [hpl]; omega) (by rw [hpl]; omega) fun b103 a w S H => ?_
     refine t_n H (rem' := [6, 7, 8, 9, 10]) rfl ?_
     refine t_b [6, 7, 8] (by kernel_rfl) rfl (fa3 ?_ ?_ ?_)
     ·refine ⟨_, rfl, fun w H => ?_⟩
      refine op_make (encB) (false) (wn rfl) rfl rfl rfl Try.underlying129 Finf4 rfl rfl S H rfl rfl rfl (by omega) (by omega) fun b107 a w S H => ?_
      refine t_n H (rem' := [7, 8, 9, 10]) rfl ?_
      refine t_b [7, 8] (by kernel_rfl) rfl (fa2 ?_ ?_)
      ·refine ⟨_, rfl, fun w H => ?_⟩
       refine op_alloc (wn rfl) rfl rfl rfl S H Fzer129 fun b19 a w S H => ?_
       refine t_n H (rem' := [8, 9, 10]) rfl ?_
       refine t_b1 8 (by kernel_rfl) rfl fun w H => ?_
       refine op_alloc (wn rfl) rfl rfl rfl S H Fzer129 fun b20 a w S H => ?_
       refine t_n H (rem' := [9, 10]) rfl ?_
       refine t_b1 9 (by kernel_rfl) rfl fun w H => ?_
       refine op_store (wn rfl) rfl rfl S H rfl rfl (H.sl1 _) Fsiz129 rfl fun a w S H => ?_
       dsimp only [List.set, Nat.zero_add, Nat.reduceAdd] at H
       refine t_tail H rfl (rem' := [10]) rfl ?_
       refine t_b1 10 (by kernel_rfl) rfl fun w H => ?_
       refine op_store (wn rfl) rfl rfl S H rfl rfl (H.sl1 _) Fsiz129 rfl fun a w S H => ?_
       dsimp only [List.set, Nat.zero_add, Nat.reduceAdd] at H
       refine t_tail H rfl (rem' := []) rfl ?_
       refine t_nil (fun w H => ?_)
       exact ⟨b103, b107, b19, b20, (((((S.nil.cons S 20 rfl).cons S 19 rfl).cons S 5 rfl).cons S 4 rfl).cons S 3 rfl).cons S 1 rfl, H.take [Cel b20 129 [(.slice (some ⟨b107, 0, none⟩) next.length next.length)], Cel b19 129 [.slice (some ⟨b103, 0, none⟩) (pairP olds next).2.length (pairP olds next).2.length], OSl 4 (.slice (some ⟨b103, 0, none⟩) (pairP olds next).2.length (pairP olds next).2.length) 1 encB (List.replicate (pairP olds next).2.length false), OSl 4 (.slice (some ⟨b107, 0, none⟩) next.length next.length) 1 encB (List.replicate next.length false), DefsA ds, Cel b16 129 [vs0], MapA b29 (fun n : Int => .int .i64 n) (fun n : Int => .int .i64 n) (ownM ((pairP olds next).1)) c, OSl 3 u34 1 encI (pairP olds next).2, Cel b3 41 [.slice none 0 0, .slice none 0 0], Atom.ro (Cel b17 111 [.func (.func 65) #[] #[.pointer (some ⟨b1, 0, none⟩), .pointer (some ⟨b16, 0, none⟩), .pointer (some ⟨b4, 0, none⟩), .pointer (some ⟨b17, 0, none⟩), .pointer (some ⟨b6, 0, none⟩)]]), Atom.ro (Cel b6 120 [.func (.func 62) #[] #[.pointer (some ⟨b4, 0, none⟩), .pointer (some ⟨b5, 0, none⟩)]]), Atom.ro (Cel b5 39 [u34]), Atom.ro (Cel b4 118 [.map (some b29)]), Atom.ro (Cel b1 99 [vt, vo, vn, ve]), RowsS 1 encI ps, Sl ve 1 encRow ps, Sl vn 9 Pl.enc next, Sl vo 9 Pl.enc olds, Sl vt 11 Ow.enc ts]⟩
      ·refine ⟨_, rfl, fun w H => ?_⟩
       refine op_alloc (wn rfl) rfl rfl rfl S H Fzer129 fun b20 a w S H => ?_
       refine t_n H (rem' := [7, 9, 10]) rfl ?_
       refine t_b1 7 (by kernel_rfl) rfl fun w H => ?_
       refine op_alloc (wn rfl) rfl rfl rfl S H Fzer129 fun b19 a w S H => ?_
       refine t_n H (rem' := [9, 10]) rfl ?_
       refine t_b1 9 (by kernel_rfl) rfl fun w H => ?_
       refine op_store (wn rfl) rfl rfl S H rfl rfl (H.sl1 _) Fsiz129 rfl fun a w S H => ?_
       dsimp only [List.set, Nat.zero_add, Nat.reduceAdd] at H
       refine t_tail H rfl (rem' := [10]) rfl ?_
       refine t_b1 10 (by kernel_rfl) rfl fun w H => ?_
       refine op_store (wn rfl) rfl rfl S H rfl rfl (H.sl1 _) Fsiz129 rfl fun a w S H => ?_
       dsimp only [List.set, Nat.zero_add, Nat.reduceAdd] at H
       refine t_tail H rfl (rem' := []) rfl ?_
       refine t_nil (fun w H => ?_)
       exact ⟨b103, b107, b19, b20, (((((S.nil.cons S 20 rfl).cons S 19 rfl).cons S 5 rfl).cons S 4 rfl).cons S 3 rfl).cons S 1 rfl, H.take [Cel b20 129 [(.slice (some ⟨b107, 0, none⟩) next.length next.length)], Cel b19 129 [.slice (some ⟨b103, 0, none⟩) (pairP olds next).2.length (pairP olds next).2.length], OSl 4 (.slice (some ⟨b103, 0, none⟩) (pairP olds next).2.length (pairP olds next).2.length) 1 encB (List.replicate (pairP olds next).2.length false), OSl 4 (.slice (some ⟨b107, 0, none⟩) next.length next.length) 1 encB (List.replicate next.length false), DefsA ds, Cel b16 129 [vs0], MapA b29 (fun n : Int => .int .i64 n) (fun n : Int => .int .i64 n) (ownM ((pairP olds next).1)) c, OSl 3 u34 1 encI (pairP olds next).2, Cel b3 41 [.slice none 0 0, .slice none 0 0], Atom.ro (Cel b17 111 [.func (.func 65) #[] #[.pointer (some ⟨b1, 0, none⟩), .pointer (some ⟨b16, 0, none⟩), .pointer (some ⟨b4, 0, none⟩), .pointer (some ⟨b17, 0, none⟩), .pointer (some ⟨b6, 0, none⟩)]]), Atom.ro (Cel b6 120 [.func (.func 62) #[] #[.pointer (some ⟨b4, 0, none⟩), .pointer (some ⟨b5, 0, none⟩)]]), Atom.ro (Cel b5 39 [u34]), Atom.ro (Cel b4 118 [.map (some b29)]), Atom.ro (Cel b1 99 [vt, vo, vn, ve]), RowsS 1 encI ps, Sl ve 1 encRow ps, Sl vn 9 Pl.enc next, Sl vo 9 Pl.enc olds, Sl vt 11 Ow.enc ts]⟩
     ·refine ⟨_, rfl, fun w H => ?_⟩
      refine op_alloc (wn rfl) rfl rfl rfl S H Fzer129 fun b19 a w S H => ?_
      refine t_n H (rem' := [6, 8, 9, 10]) rfl ?_
      refine t_b [6, 8] (by kernel_rfl) rfl (fa2 ?_ ?_)
      ·refine ⟨_, rfl, fun w H => ?_⟩
       refine op_make (encB) (false) (wn rfl) rfl rfl rfl Try.underlying129 Finf4 rfl rfl S H rfl rfl rfl (by omega) (by omega) fun b107 a w S H => ?_
       refine t_n H (rem' := [8, 9, 10]) rfl ?_
       refine t_b1 8 (by kernel_rfl) rfl fun w H => ?_
       refine op_alloc (wn rfl) rfl rfl rfl S H Fzer129 fun b20 a w S H => ?_
       refine t_n H (rem' := [9, 10]) rfl ?_
       refine t_b1 9 (by kernel_rfl) rfl fun w H => ?_
       refine op_store (wn rfl) rfl rfl S H rfl rfl (H.sl1 _) Fsiz129 rfl fun a w S H => ?_
       dsimp only [List.set, Nat.zero_add, Nat.reduceAdd] at H
       refine t_tail H rfl (rem' := [10]) rfl ?_
       refine t_b1 10 (by kernel_rfl) rfl fun w H => ?_
       refine op_store (wn rfl) rfl rfl S H rfl rfl (H.sl1 _) Fsiz129 rfl fun a w S H => ?_
       dsimp only [List.set, Nat.zero_add, Nat.reduceAdd] at H
       refine t_tail H rfl (rem' := []) rfl ?_
       refine t_nil (fun w H => ?_)
       exact ⟨b103, b107, b19, b20, (((((S.nil.cons S 20 rfl).cons S 19 rfl).cons S 5 rfl).cons S 4 rfl).cons S 3 rfl).cons S 1 rfl, H.take [Cel b20 129 [(.slice (some ⟨b107, 0, none⟩) next.length next.length)], Cel b19 129 [.slice (some ⟨b103, 0, none⟩) (pairP olds next).2.length (pairP olds next).2.length], OSl 4 (.slice (some ⟨b103, 0, none⟩) (pairP olds next).2.length (pairP olds next).2.length) 1 encB (List.replicate (pairP olds next).2.length false), OSl 4 (.slice (some ⟨b107, 0, none⟩) next.length next.length) 1 encB (List.replicate next.length false), DefsA ds, Cel b16 129 [vs0], MapA b29 (fun n : Int => .int .i64 n) (fun n : Int => .int .i64 n) (ownM ((pairP olds next).1)) c, OSl 3 u34 1 encI (pairP olds next).2, Cel b3 41 [.slice none 0 0, .slice none 0 0], Atom.ro (Cel b17 111 [.func (.func 65) #[] #[.pointer (some ⟨b1, 0, none⟩), .pointer (some ⟨b16, 0, none⟩), .pointer (some ⟨b4, 0, none⟩), .pointer (some ⟨b17, 0, none⟩), .pointer (some ⟨b6, 0, none⟩)]]), Atom.ro (Cel b6 120 [.func (.func 62) #[] #[.pointer (some ⟨b4, 0, none⟩), .pointer (some ⟨b5, 0, none⟩)]]), Atom.ro (Cel b5 39 [u34]), Atom.ro (Cel b4 118 [.map (some b29)]), Atom.ro (Cel b1 99 [vt, vo, vn, ve]), RowsS 1 encI ps, Sl ve 1 encRow ps, Sl vn 9 Pl.enc next, Sl vo 9 Pl.enc olds, Sl vt 11 Ow.enc ts]⟩
      ·refine ⟨_, rfl, fun w H => ?_⟩
       refine op_alloc (wn rfl) rfl rfl rfl S H Fzer129 fun b20 a w S H => ?_
       refine t_n H (rem' := [6, 9, 10]) rfl ?_
       refine t_b [6, 9] (by kernel_rfl) rfl (fa2 ?_ ?_)
       ·refine ⟨_, rfl, fun w H => ?_⟩
        refine op_make (encB) (false) (wn rfl) rfl rfl rfl Try.underlying129 Finf4 rfl rfl S H rfl rfl rfl (by omega) (by omega) fun b107 a w S H => ?_
        refine t_n H (rem' := [9, 10]) rfl ?_
        refine t_b1 9 (by kernel_rfl) rfl fun w H => ?_
        refine op_store (wn rfl) rfl rfl S H rfl rfl (H.sl1 _) Fsiz129 rfl fun a w S H => ?_
        dsimp only [List.set, Nat.zero_add, Nat.reduceAdd] at H
        refine t_tail H rfl (rem' := [10]) rfl ?_
        refine t_b1 10 (by kernel_rfl) rfl fun w H => ?_
        refine op_store (wn rfl) rfl rfl S H rfl rfl (H.sl1 _) Fsiz129 rfl fun a w S H => ?_
        dsimp only [List.set, Nat.zero_add, Nat.reduceAdd] at H
        refine t_tail H rfl (rem' := []) rfl ?_
        refine t_nil (fun w H => ?_)
        exact ⟨b103, b107, b19, b20, (((((S.nil.cons S 20 rfl).cons S 19 rfl).cons S 5 rfl).cons S 4 rfl).cons S 3 rfl).cons S 1 rfl, H.take [Cel b20 129 [(.slice (some ⟨b107, 0, none⟩) next.length next.length)], Cel b19 129 [.slice (some ⟨b103, 0, none⟩) (pairP olds next).2.length (pairP olds next).2.length], OSl 4 (.slice (some ⟨b103, 0, none⟩) (pairP olds next).2.length (pairP olds next).2.length) 1 encB (List.replicate (pairP olds next).2.length false), OSl 4 (.slice (some ⟨b107, 0, none⟩) next.length next.length) 1 encB (List.replicate next.length false), DefsA ds, Cel b16 129 [vs0], MapA b29 (fun n : Int => .int .i64 n) (fun n : Int => .int .i64 n) (ownM ((pairP olds next).1)) c, OSl 3 u34 1 encI (pairP olds next).2, Cel b3 41 [.slice none 0 0, .slice none 0 0], Atom.ro (Cel b17 111 [.func (.func 65) #[] #[.pointer (some ⟨b1, 0, none⟩), .pointer (some ⟨b16, 0, none⟩), .pointer (some ⟨b4, 0, none⟩), .pointer (some ⟨b17, 0, none⟩), .pointer (some ⟨b6, 0, none⟩)]]), Atom.ro (Cel b6 120 [.func (.func 62) #[] #[.pointer (some ⟨b4, 0, none⟩), .pointer (some ⟨b5, 0, none⟩)]]), Atom.ro (Cel b5 39 [u34]), Atom.ro (Cel b4 118 [.map (some b29)]), Atom.ro (Cel b1 99 [vt, vo, vn, ve]), RowsS 1 encI ps, Sl ve 1 encRow ps, Sl vn 9 Pl.enc next, Sl vo 9 Pl.enc olds, Sl vt 11 Ow.enc ts]⟩
       ·refine ⟨_, rfl, fun w H => ?_⟩
        refine op_store (wn rfl) rfl rfl S H rfl rfl (H.sl1 _) Fsiz129 rfl fun a w S H => ?_
        dsimp only [List.set, Nat.zero_add, Nat.reduceAdd] at H
        refine t_tail H rfl (rem' := [6, 10]) rfl ?_
        refine t_b1 6 (by kernel_rfl) rfl fun w H => ?_
        refine op_make (encB) (false) (wn rfl) rfl rfl rfl Try.underlying129 Finf4 rfl rfl S H rfl rfl rfl (by omega) (by omega) fun b107 a w S H => ?_
        refine t_n H (rem' := [10]) rfl ?_
        refine t_b1 10 (by kernel_rfl) rfl fun w H => ?_
        refine op_store (wn rfl) rfl rfl S H rfl rfl (H.sl1 _) Fsiz129 rfl fun a w S H => ?_
        dsimp only [List.set, Nat.zero_add, Nat.reduceAdd] at H
        refine t_tail H rfl (rem' := []) rfl ?_
        refine t_nil (fun w H => ?_)
        exact ⟨b103, b107, b19, b20, (((((S.nil.cons S 20 rfl).cons S 19 rfl).cons S 5 rfl).cons S 4 rfl).cons S 3 rfl).cons S 1 rfl, H.take [Cel b20 129 [(.slice (some ⟨b107, 0, none⟩) next.length next.length)], Cel b19 129 [.slice (some ⟨b103, 0, none⟩) (pairP olds next).2.length (pairP olds next).2.length], OSl 4 (.slice (some ⟨b103, 0, none⟩) (pairP olds next).2.length (pairP olds next).2.length) 1 encB (List.replicate (pairP olds next).2.length false), OSl 4 (.slice (some ⟨b107, 0, none⟩) next.length next.length) 1 encB (List.replicate next.length false), DefsA ds, Cel b16 129 [vs0], MapA b29 (fun n : Int => .int .i64 n) (fun n : Int => .int .i64 n) (ownM ((pairP olds next).1)) c, OSl 3 u34 1 encI (pairP olds next).2, Cel b3 41 [.slice none 0 0, .slice none 0 0], Atom.ro (Cel b17 111 [.func (.func 65) #[] #[.pointer (some ⟨b1, 0, none⟩), .pointer (some ⟨b16, 0, none⟩), .pointer (some ⟨b4, 0, none⟩), .pointer (some ⟨b17, 0, none⟩), .pointer (some ⟨b6, 0, none⟩)]]), Atom.ro (Cel b6 120 [.func (.func 62) #[] #[.pointer (some ⟨b4, 0, none⟩), .pointer (some ⟨b5, 0, none⟩)]]), Atom.ro (Cel b5 39 [u34]), Atom.ro (Cel b4 118 [.map (some b29)]), Atom.ro (Cel b1 99 [vt, vo, vn, ve]), RowsS 1 encI ps, Sl ve 1 encRow ps, Sl vn 9 Pl.enc next, Sl vo 9 Pl.enc olds, Sl vt 11 Ow.enc ts]⟩
     ·refine ⟨_, rfl, fun w H => ?_⟩
      refine op_alloc (wn rfl) rfl rfl rfl S H Fzer129 fun b20 a w S H => ?_
      refine t_n H (rem' := [6, 7, 9, 10]) rfl ?_
      refine t_b [6, 7] (by kernel_rfl) rfl (fa2 ?_ ?_)
      ·refine ⟨_, rfl, fun w H => ?_⟩
       refine op_make (encB) (false) (wn rfl) rfl rfl rfl Try.underlying129 Finf4 rfl rfl S H rfl rfl rfl (by omega) (by omega) fun b107 a w S H => ?_
       refine t_n H (rem' := [7, 9, 10]) rfl ?_
       refine t_b1 7 (by kernel_rfl) rfl fun w H => ?_
       refine op_alloc (wn rfl) rfl rfl rfl S H Fzer129 fun b19 a w S H => ?_
       refine t_n H (rem' := [9, 10]) rfl ?_
       refine t_b1 9 (by kernel_rfl) rfl fun w H => ?_
       refine op_store (wn rfl) rfl rfl S H rfl rfl (H.sl1 _) Fsiz129 rfl fun a w S H => ?_
       dsimp only [List.set, Nat.zero_add, Nat.reduceAdd] at H
       refine t_tail H rfl (rem' := [10]) rfl ?_
       refine t_b1 10 (by kernel_rfl) rfl fun w H => ?_
       refine op_store (wn rfl) rfl rfl S H rfl rfl (H.sl1 _) Fsiz129 rfl fun a w S H => ?_
       dsimp only [List.set, Nat.zero_add, Nat.reduceAdd] at H
       refine t_tail H rfl (rem' := []) rfl ?_
       refine t_nil (fun w H => ?_)
       exact ⟨b103, b107, b19, b20, (((((S.nil.cons S 20 rfl).cons S 19 rfl).cons S 5 rfl).cons S 4 rfl).cons S 3 rfl).cons S 1 rfl, H.take [Cel b20 129 [(.slice (some ⟨b107, 0, none⟩) next.length next.length)], Cel b19 129 [.slice (some ⟨b103, 0, none⟩) (pairP olds next).2.length (pairP olds next).2.length], OSl 4 (.slice (some ⟨b103, 0, none⟩) (pairP olds next).2.length (pairP olds next).2.length) 1 encB (List.replicate (pairP olds next).2.length false), OSl 4 (.slice (some ⟨b107, 0, none⟩) next.length next.length) 1 encB (List.replicate next.length false), DefsA ds, Cel b16 129 [vs0], MapA b29 (fun n : Int => .int .i64 n) (fun n : Int => .int .i64 n) (ownM ((pairP olds next).1)) c, OSl 3 u34 1 encI (pairP olds next).2, Cel b3 41 [.slice none 0 0, .slice none 0 0], Atom.ro (Cel b17 111 [.func (.func 65) #[] #[.pointer (some ⟨b1, 0, none⟩), .pointer (some ⟨b16, 0, none⟩), .pointer (some ⟨b4, 0, none⟩), .pointer (some ⟨b17, 0, none⟩), .pointer (some ⟨b6, 0, none⟩)]]), Atom.ro (Cel b6 120 [.func (.func 62) #[] #[.pointer (some ⟨b4, 0, none⟩), .pointer (some ⟨b5, 0, none⟩)]]), Atom.ro (Cel b5 39 [u34]), Atom.ro (Cel b4 118 [.map (some b29)]), Atom.ro (Cel b1 99 [vt, vo, vn, ve]), RowsS 1 encI ps, Sl ve 1 encRow ps, Sl vn 9 Pl.enc next, Sl vo 9 Pl.enc olds, Sl vt 11 Ow.enc ts]⟩
      ·refine ⟨_, rfl, fun w H => ?_⟩
       refine op_alloc (wn rfl) rfl rfl rfl S H Fzer129 fun b19 a w S H => ?_
       refine t_n H (rem' := [6, 9, 10]) rfl ?_
       refine t_b [6, 9] (by kernel_rfl) rfl (fa2 ?_ ?_)
       ·refine ⟨_, rfl, fun w H => ?_⟩
        refine op_make (encB) (false) (wn rfl) rfl rfl rfl Try.underlying129 Finf4 rfl rfl S H rfl rfl rfl (by omega) (by omega) fun b107 a w S H => ?_
        refine t_n H (rem' := [9, 10]) rfl ?_
        refine t_b1 9 (by kernel_rfl) rfl fun w H => ?_
        refine op_store (wn rfl) rfl rfl S H rfl rfl (H.sl1 _) Fsiz129 rfl fun a w S H => ?_
        dsimp only [List.set, Nat.zero_add, Nat.reduceAdd] at H
        refine t_tail H rfl (rem' := [10]) rfl ?_
        refine t_b1 10 (by kernel_rfl) rfl fun w H => ?_
        refine op_store (wn rfl) rfl rfl S H rfl rfl (H.sl1 _) Fsiz129 rfl fun a w S H => ?_
        dsimp only [List.set, Nat.zero_add, Nat.reduceAdd] at H
        refine t_tail H rfl (rem' := []) rfl ?_
        refine t_nil (fun w H => ?_)
        exact ⟨b103, b107, b19, b20, (((((S.nil.cons S 20 rfl).cons S 19 rfl).cons S 5 rfl).cons S 4 rfl).cons S 3 rfl).cons S 1 rfl, H.take [Cel b20 129 [(.slice (some ⟨b107, 0, none⟩) next.length next.length)], Cel b19 129 [.slice (some ⟨b103, 0, none⟩) (pairP olds next).2.length (pairP olds next).2.length], OSl 4 (.slice (some ⟨b103, 0, none⟩) (pairP olds next).2.length (pairP olds next).2.length) 1 encB (List.replicate (pairP olds next).2.length false), OSl 4 (.slice (some ⟨b107, 0, none⟩) next.length next.length) 1 encB (List.replicate next.length false), DefsA ds, Cel b16 129 [vs0], MapA b29 (fun n : Int => .int .i64 n) (fun n : Int => .int .i64 n) (ownM ((pairP olds next).1)) c, OSl 3 u34 1 encI (pairP olds next).2, Cel b3 41 [.slice none 0 0, .slice none 0 0], Atom.ro (Cel b17 111 [.func (.func 65) #[] #[.pointer (some ⟨b1, 0, none⟩), .pointer (some ⟨b16, 0, none⟩), .pointer (some ⟨b4, 0, none⟩), .pointer (some ⟨b17, 0, none⟩), .pointer (some ⟨b6, 0, none⟩)]]), Atom.ro (Cel b6 120 [.func (.func 62) #[] #[.pointer (some ⟨b4, 0, none⟩), .pointer (some ⟨b5, 0, none⟩)]]), Atom.ro (Cel b5 39 [u34]), Atom.ro (Cel b4 118 [.map (some b29)]), Atom.ro (Cel b1 99 [vt, vo, vn, ve]), RowsS 1 encI ps, Sl ve 1 encRow ps, Sl vn 9 Pl.enc next, Sl vo 9 Pl.enc olds, Sl vt 11 Ow.enc ts]⟩
       ·refine ⟨_, rfl, fun w H => ?_⟩
        refine op_store (wn rfl) rfl rfl S H rfl rfl (H.sl1 _) Fsiz129 rfl fun a w S H => ?_
        dsimp only [List.set, Nat.zero_add, Nat.reduceAdd] at H
        refine t_tail H rfl (rem' := [6, 10]) rfl ?_
        refine t_b1 6 (by kernel_rfl) rfl fun w H => ?_
        refine op_make (encB) (false) (wn rfl) rfl rfl rfl Try.underlying129 Finf4 rfl rfl S H rfl rfl rfl (by omega) (by omega) fun b107 a w S H => ?_
        refine t_n H (rem' := [10]) rfl ?_
        refine t_b1 10 (by kernel_rfl) rfl fun w H => ?_
        refine op_store (wn rfl) rfl rfl S H rfl rfl (H.sl1 _) Fsiz129 rfl fun a w S H => ?_
        dsimp only [List.set, Nat.zero_add, Nat.reduceAdd] at H
        refine t_tail H rfl (rem' := []) rfl ?_
        refine t_nil (fun w H => ?_)
        exact ⟨b103, b107, b19, b20, (((((S.nil.cons S 20 rfl).cons S 19 rfl).cons S 5 rfl).cons S 4 rfl).cons S 3 rfl).cons S 1 rfl, H.take [Cel b20 129 [(.slice (some ⟨b107, 0, none⟩) next.length next.length)], Cel b19 129 [.slice (some ⟨b103, 0, none⟩) (pairP olds next).2.length (pairP olds next).2.length], OSl 4 (.slice (some ⟨b103, 0, none⟩) (pairP olds next).2.length (pairP olds next).2.length) 1 encB (List.replicate (pairP olds next).2.length false), OSl 4 (.slice (some ⟨b107, 0, none⟩) next.length next.length) 1 encB (List.replicate next.length false), DefsA ds, Cel b16 129 [vs0], MapA b29 (fun n : Int => .int .i64 n) (fun n : Int => .int .i64 n) (ownM ((pairP olds next).1)) c, OSl 3 u34 1 encI (pairP olds next).2, Cel b3 41 [.slice none 0 0, .slice none 0 0], Atom.ro (Cel b17 111 [.func (.func 65) #[] #[.pointer (some ⟨b1, 0, none⟩), .pointer (some ⟨b16, 0, none⟩), .pointer (some ⟨b4, 0, none⟩), .pointer (some ⟨b17, 0, none⟩), .pointer (some ⟨b6, 0, none⟩)]]), Atom.ro (Cel b6 120 [.func (.func 62) #[] #[.pointer (some ⟨b4, 0, none⟩), .pointer (some ⟨b5, 0, none⟩)]]), Atom.ro (Cel b5 39 [u34]), Atom.ro (Cel b4 118 [.map (some b29)]), Atom.ro (Cel b1 99 [vt, vo, vn, ve]), RowsS 1 encI ps, Sl ve 1 encRow ps, Sl vn 9 Pl.enc next, Sl vo 9 Pl.enc olds, Sl vt 11 Ow.enc ts]⟩
    ·refine ⟨_, rfl, fun w H => ?_⟩
     refine op_make (encB) (false) (wn rfl) rfl rfl rfl Try.underlying129 Finf4 rfl rfl S H rfl rfl rfl (by omega) (by omega) fun b107 a w S H => ?_
     refine t_n H (rem' := [2, 7, 8, 9, 10]) rfl ?_
     refine t_b [2, 7, 8] (by kernel_rfl) rfl (fa3 ?_ ?_ ?_)
     ·refine ⟨_, rfl, fun w H => ?_⟩
      refine op_make (encB) (false) (wn rfl) rfl rfl rfl Try.underlying129 Finf4 rfl rfl S H rfl rfl rfl (by rw [hpl]; omega) (by rw [hpl]; omega) fun b103 a w S H => ?_
      refine t_n H (rem' := [7, 8, 9, 10]) rfl ?_
      refine t_b [7, 8] (by kernel_rfl) rfl (fa2 ?_ ?_)
      ·refine ⟨_, rfl, fun w H => ?_⟩
       refine op_alloc (wn rfl) rfl rfl rfl S H Fzer129 fun b19 a w S H => ?_
       refine t_n H (rem' := [8, 9, 10]) rfl ?_
       refine t_b1 8 (by kernel_rfl) rfl fun w H => ?_
       refine op_alloc (wn rfl) rfl rfl rfl S H Fzer129 fun b20 a w S H => ?_
       refine t_n H (rem' := [9, 10]) rfl ?_
       refine t_b1 9 (by kernel_rfl) rfl fun w H => ?_
       refine op_store (wn rfl) rfl rfl S H rfl rfl (H.sl1 _) Fsiz129 rfl fun a w S H => ?_
       dsimp only [List.set, Nat.zero_add, Nat.reduceAdd] at H
       refine t_tail H rfl (rem' := [10]) rfl ?_
       refine t_b1 10 (by kernel_rfl) rfl fun w H => ?_
       refine op_store (wn rfl) rfl rfl S H rfl rfl (H.sl1 _) Fsiz129 rfl fun a w S H => ?_
       dsimp only [List.set, Nat.zero_add, Nat.reduceAdd] at H
       refine t_tail H rfl (rem' := []) rfl ?_
       refine t_nil (fun w H => ?_)
       exact ⟨b103, b107, b19, b20, (((((S.nil.cons S 20 rfl).cons S 19 rfl).cons S 5 rfl).cons S 4 rfl).cons S 3 rfl).cons S 1 rfl, H.take [Cel b20 129 [(.slice (some ⟨b107, 0, none⟩) next.length next.length)], Cel b19 129 [.slice (some ⟨b103, 0, none⟩) (pairP olds next).2.length (pairP olds next).2.length], OSl 4 (.slice (some ⟨b103, 0, none⟩) (pairP olds next).2.length (pairP olds next).2.length) 1 encB (List.replicate (pairP olds next).2.length false), OSl 4 (.slice (some ⟨b107, 0, none⟩) next.length next.length) 1 encB (List.replicate next.length false), DefsA ds, Cel b16 129 [vs0], MapA b29 (fun n : Int => .int .i64 n) (fun n : Int => .int .i64 n) (ownM ((pairP olds next).1)) c, OSl 3 u34 1 encI (pairP olds next).2, Cel b3 41 [.slice none 0 0, .slice none 0 0], Atom.ro (Cel b17 111 [.func (.func 65) #[] #[.pointer (some ⟨b1, 0, none⟩), .pointer (some ⟨b16, 0, none⟩), .pointer (some ⟨b4, 0, none⟩), .pointer (some ⟨b17, 0, none⟩), .pointer (some ⟨b6, 0, none⟩)]]), Atom.ro (Cel b6 120 [.func (.func 62) #[] #[.pointer (some ⟨b4, 0, none⟩), .pointer (some ⟨b5, 0, none⟩)]]), Atom.ro (Cel b5 39 [u34]), Atom.ro (Cel b4 118 [.map (some b29)]), Atom.ro (Cel b1 99 [vt, vo, vn, ve]), RowsS 1 encI ps, Sl ve 1 encRow ps, Sl vn 9 Pl.enc next, Sl vo 9 Pl.enc olds, Sl vt 11 Ow.enc ts]⟩
      ·refine ⟨_, rfl, fun w H => ?_⟩
       refine op_alloc (wn rfl) rfl rfl rfl S H Fzer129 fun b20 a w S H => ?_
       refine t_n H (rem' := [7, 9, 10]) rfl ?_
       refine t_b1 7 (by kernel_rfl) rfl fun w H => ?_
       refine op_alloc (wn rfl) rfl rfl rfl S H Fzer129 fun b19 a w S H => ?_
       refine t_n H (rem' := [9, 10]) rfl ?_
       refine t_b1 9 (by kernel_rfl) rfl fun w H => ?_
       refine op_store (wn rfl) rfl rfl S H rfl rfl (H.sl1 _) Fsiz129 rfl fun a w S H => ?_
       dsimp only [List.set, Nat.zero_add, Nat.reduceAdd] at H
       refine t_tail H rfl (rem' := [10]) rfl ?_
       refine t_b1 10 (by kernel_rfl) rfl fun w H => ?_
       refine op_store (wn rfl) rfl rfl S H rfl rfl (H.sl1 _) Fsiz129 rfl fun a w S H => ?_
       dsimp only [List.set, Nat.zero_add, Nat.reduceAdd] at H
       refine t_tail H rfl (rem' := []) rfl ?_
       refine t_nil (fun w H => ?_)
       exact ⟨b103, b107, b19, b20, (((((S.nil.cons S 20 rfl).cons S 19 rfl).cons S 5 rfl).cons S 4 rfl).cons S 3 rfl).cons S 1 rfl, H.take [Cel b20 129 [(.slice (some ⟨b107, 0, none⟩) next.length next.length)], Cel b19 129 [.slice (some ⟨b103, 0, none⟩) (pairP olds next).2.length (pairP olds next).2.length], OSl 4 (.slice (some ⟨b103, 0, none⟩) (pairP olds next).2.length (pairP olds next).2.length) 1 encB (List.replicate (pairP olds next).2.length false), OSl 4 (.slice (some ⟨b107, 0, none⟩) next.length next.length) 1 encB (List.replicate next.length false), DefsA ds, Cel b16 129 [vs0], MapA b29 (fun n : Int => .int .i64 n) (fun n : Int => .int .i64 n) (ownM ((pairP olds next).1)) c, OSl 3 u34 1 encI (pairP olds next).2, Cel b3 41 [.slice none 0 0, .slice none 0 0], Atom.ro (Cel b17 111 [.func (.func 65) #[] #[.pointer (some ⟨b1, 0, none⟩), .pointer (some ⟨b16, 0, none⟩), .pointer (some ⟨b4, 0, none⟩), .pointer (some ⟨b17, 0, none⟩), .pointer (some ⟨b6, 0, none⟩)]]), Atom.ro (Cel b6 120 [.func (.func 62) #[] #[.pointer (some ⟨b4, 0, none⟩), .pointer (some ⟨b5, 0, none⟩)]]), Atom.ro (Cel b5 39 [u34]), Atom.ro (Cel b4 118 [.map (some b29)]), Atom.ro (Cel b1 99 [vt, vo, vn, ve]), RowsS 1 encI ps, Sl ve 1 encRow ps, Sl vn 9 Pl.enc next, Sl vo 9 Pl.enc olds, Sl vt 11 Ow.enc ts]⟩
     ·refine ⟨_, rfl, fun w H => ?_⟩
      refine op_alloc (wn rfl) rfl rfl rfl S H Fzer129 fun b19 a w S H => ?_
      refine t_n H (rem' := [2, 8, 9, 10]) rfl ?_
      refine t_b [2, 8] (by kernel_rfl) rfl (fa2 ?_ ?_)
      ·refine ⟨_, rfl, fun w H => ?_⟩
       refine op_make (encB) (false) (wn rfl) rfl rfl rfl Try.underlying129 Finf4 rfl rfl S H rfl rfl rfl (by rw [hpl]; omega) (by rw [hpl]; omega) fun b103 a w S H => ?_
       refine t_n H (rem' := [8, 9, 10]) rfl ?_
       refine t_b1 8 (by kernel_rfl) rfl fun w H => ?_
       refine op_alloc (wn rfl) rfl rfl rfl S H Fzer129 fun b20 a w S H => ?_
       refine t_n H (rem' := [9, 10]) rfl ?_
       refine t_b1 9 (by kernel_rfl) rfl fun w H => ?_
       refine op_store (wn rfl) rfl rfl S H rfl rfl (H.sl1 _) Fsiz129 rfl fun a w S H => ?_
       dsimp only [List.set, Nat.zero_add, Nat.reduceAdd] at H
       refine t_tail H rfl (rem' := [10]) rfl ?_
       refine t_b1 10 (by kernel_rfl) rfl fun w H => ?_
       refine op_store (wn rfl) rfl rfl S H rfl rfl (H.sl1 _) Fsiz129 rfl fun a w S H => ?_
       dsimp only [List.set, Nat.zero_add, Nat.reduceAdd] at H
       refine t_tail H rfl (rem' := []) rfl ?_
       refine t_nil (fun w H => ?_)
       exact ⟨b103, b107, b19, b20, (((((S.nil.cons S 20 rfl).cons S 19 rfl).cons S 5 rfl).cons S 4 rfl).cons S 3 rfl).cons S 1 rfl, H.take [Cel b20 129 [(.slice (some ⟨b107, 0, none⟩) next.length next.length)], Cel b19 129 [.slice (some ⟨b103, 0, none⟩) (pairP olds next).2.length (pairP olds next).2.length], OSl 4 (.slice (some ⟨b103, 0, none⟩) (pairP olds next).2.length (pairP olds next).2.length) 1 encB (List.replicate (pairP olds next).2.length false), OSl 4 (.slice (some ⟨b107, 0, none⟩) next.length next.length) 1 encB (List.replicate next.length false), DefsA ds, Cel b16 129 [vs0], MapA b29 (fun n : Int => .int .i64 n) (fun n : Int => .int .i64 n) (ownM ((pairP olds next).1)) c, OSl 3 u34 1 encI (pairP olds next).2, Cel b3 41 [.slice none 0 0, .slice none 0 0], Atom.ro (Cel b17 111 [.func (.func 65) #[] #[.pointer (some ⟨b1, 0, none⟩), .pointer (some ⟨b16, 0, none⟩), .pointer (some ⟨b4, 0, none⟩), .pointer (some ⟨b17, 0, none⟩), .pointer (some ⟨b6, 0, none⟩)]]), Atom.ro (Cel b6 120 [.func (.func 62) #[] #[.pointer (some ⟨b4, 0, none⟩), .pointer (some ⟨b5, 0, none⟩)]]), Atom.ro (Cel b5 39 [u34]), Atom.ro (Cel b4 118 [.map (some b29)]), Atom.ro (Cel b1 99 [vt, vo, vn, ve]), RowsS 1 encI ps, Sl ve 1 encRow ps, Sl vn 9 Pl.enc next, Sl vo 9 Pl.enc olds, Sl vt 11 Ow.enc ts]⟩
      ·refine ⟨_, rfl, fun w H => ?_⟩
       refine op_alloc (wn rfl) rfl rfl rfl S H Fzer129 fun b20 a w S H => ?_
       refine t_n H (rem' := [2, 9, 10]) rfl ?_
       refine t_b1 2 (by kernel_rfl) rfl fun w H => ?_
       refine op_make (encB) (false) (wn rfl) rfl rfl rfl Try.underlying129 Finf4 rfl rfl S H rfl rfl rfl (by rw [hpl]; omega) (by rw [hpl]; omega) fun b103 a w S H => ?_
       refine t_n H (rem' := [9, 10]) rfl ?_
       refine t_b1 9 (by kernel_rfl) rfl fun w H => ?_
       refine op_store (wn rfl) rfl rfl S H rfl rfl (H.sl1 _) Fsiz129 rfl fun a w S H => ?_
       dsimp only [List.set, Nat.zero_add, Nat.reduceAdd] at H
       refine t_tail H rfl (rem' := [10]) rfl ?_
       refine t_b1 10 (by kernel_rfl) rfl fun w H => ?_
       refine op_store (wn rfl) rfl rfl S H rfl rfl (H.sl1 _) Fsiz129 rfl fun a w S H => ?_
       dsimp only [List.set, Nat.zero_add, Nat.reduceAdd] at H
       refine t_tail H rfl (rem' := []) rfl ?_
       refine t_nil (fun w H => ?_)
       exact ⟨b103, b107, b19, b20, (((((S.nil.cons S 20 rfl).cons S 19 rfl).cons S 5 rfl).cons S 4 rfl).cons S 3 rfl).cons S 1 rfl, H.take [Cel b20 129 [(.slice (some ⟨b107, 0, none⟩) next.length next.length)], Cel b19 129 [.slice (some ⟨b103, 0, none⟩) (pairP olds next).2.length (pairP olds next).2.length], OSl 4 (.slice (some ⟨b103, 0, none⟩) (pairP olds next).2.length (pairP olds next).2.length) 1 encB (List.replicate (pairP olds next).2.length false), OSl 4 (.slice (some ⟨b107, 0, none⟩) next.length next.length) 1 encB (List.replicate next.length false), DefsA ds, Cel b16 129 [vs0], MapA b29 (fun n : Int => .int .i64 n) (fun n : Int => .int .i64 n) (ownM ((pairP olds next).1)) c, OSl 3 u34 1 encI (pairP olds next).2, Cel b3 41 [.slice none 0 0, .slice none 0 0], Atom.ro (Cel b17 111 [.func (.func 65) #[] #[.pointer (some ⟨b1, 0, none⟩), .pointer (some ⟨b16, 0, none⟩), .pointer (some ⟨b4, 0, none⟩), .pointer (some ⟨b17, 0, none⟩), .pointer (some ⟨b6, 0, none⟩)]]), Atom.ro (Cel b6 120 [.func (.func 62) #[] #[.pointer (some ⟨b4, 0, none⟩), .pointer (some ⟨b5, 0, none⟩)]]), Atom.ro (Cel b5 39 [u34]), Atom.ro (Cel b4 118 [.map (some b29)]), Atom.ro (Cel b1 99 [vt, vo, vn, ve]), RowsS 1 encI ps, Sl ve 1 encRow ps, Sl vn 9 Pl.enc next, Sl vo 9 Pl.enc olds, Sl vt 11 Ow.enc ts]⟩
     ·refine ⟨_, rfl, fun w H => ?_⟩
      refine op_alloc (wn rfl) rfl rfl rfl S H Fzer129 fun b20 a w S H => ?_
      refine t_n H (rem' := [2, 7, 9, 10]) rfl ?_
      refine t_b [2, 7] (by kernel_rfl) rfl (fa2 ?_ ?_)
      ·refine ⟨_, rfl, fun w H => ?_⟩
       refine op_make (encB) (false) (wn rfl) rfl rfl rfl Try.underlying129 Finf4 rfl rfl S H rfl rfl rfl (by rw [hpl]; omega) (by rw [hpl]; omega) fun b103 a w S H => ?_
       refine t_n H (rem' := [7, 9, 10]) rfl ?_
       refine t_b1 7 (by kernel_rfl) rfl fun w H => ?_
       refine op_alloc (wn rfl) rfl rfl rfl S H Fzer129 fun b19 a w S H => ?_
       refine t_n H (rem' := [9, 10]) rfl ?_
       refine t_b1 9 (by kernel_rfl) rfl fun w H => ?_
       refine op_store (wn rfl) rfl rfl S H rfl rfl (H.sl1 _) Fsiz129 rfl fun a w S H => ?_
       dsimp only [List.set, Nat.zero_add, Nat.reduceAdd] at H
       refine t_tail H rfl (rem' := [10]) rfl ?_
       refine t_b1 10 (by kernel_rfl) rfl fun w H => ?_
       refine op_store (wn rfl) rfl rfl S H rfl rfl (H.sl1 _) Fsiz129 rfl fun a w S H => ?_
       dsimp only [List.set, Nat.zero_add, Nat.reduceAdd] at H
       refine t_tail H rfl (rem' := []) rfl ?_
       refine t_nil (fun w H => ?_)
       exact ⟨b103, b107, b19, b20, (((((S.nil.cons S 20 rfl).cons S 19 rfl).cons S 5 rfl).cons S 4 rfl).cons S 3 rfl).cons S 1 rfl, H.take [Cel b20 129 [(.slice (some ⟨b107, 0, none⟩) next.length next.length)], Cel b19 129 [.slice (some ⟨b103, 0, none⟩) (pairP olds next).2.length (pairP olds next).2.length], OSl 4 (.slice (some ⟨b103, 0, none⟩) (pairP olds next).2.length (pairP olds next).2.length) 1 encB (List.replicate (pairP olds next).2.length false), OSl 4 (.slice (some ⟨b107, 0, none⟩) next.length next.length) 1 encB (List.replicate next.length false), DefsA ds, Cel b16 129 [vs0], MapA b29 (fun n : Int => .int .i64 n) (fun n : Int => .int .i64 n) (ownM ((pairP olds next).1)) c, OSl 3 u34 1 encI (pairP olds next).2, Cel b3 41 [.slice none 0 0, .slice none 0 0], Atom.ro (Cel b17 111 [.func (.func 65) #[] #[.pointer (some ⟨b1, 0, none⟩), .pointer (some ⟨b16, 0, none⟩), .pointer (some ⟨b4, 0, none⟩), .pointer (some ⟨b17, 0, none⟩), .pointer (some ⟨b6, 0, none⟩)]]), Atom.ro (Cel b6 120 [.func (.func 62) #[] #[.pointer (some ⟨b4, 0, none⟩), .pointer (some ⟨b5, 0, none⟩)]]), Atom.ro (Cel b5 39 [u34]), Atom.ro (Cel b4 118 [.map (some b29)]), Atom.ro (Cel b1 99 [vt, vo, vn, ve]), RowsS 1 encI ps, Sl ve 1 encRow ps, Sl vn 9 Pl.enc next, Sl vo 9 Pl.enc olds, Sl vt 11 Ow.enc ts]⟩
      ·refine ⟨_, rfl, fun w H => ?_⟩
       refine op_alloc (wn rfl) rfl rfl rfl S H Fzer129 fun b19 a w S H => ?_
       refine t_n H (rem' := [2, 9, 10]) rfl ?_
       refine t_b1 2 (by kernel_rfl) rfl fun w H => ?_
       refine op_make (encB) (false) (wn rfl) rfl rfl rfl Try.underlying129 Finf4 rfl rfl S H rfl rfl rfl (by rw [hpl]; omega) (by rw [hpl]; omega) fun b103 a w S H => ?_
       refine t_n H (rem' := [9, 10]) rfl ?_
       refine t_b1 9 (by kernel_rfl) rfl fun w H => ?_
       refine op_store (wn rfl) rfl rfl S H rfl rfl (H.sl1 _) Fsiz129 rfl fun a w S H => ?_
       dsimp only [List.set, Nat.zero_add, Nat.reduceAdd] at H
       refine t_tail H rfl (rem' := [10]) rfl ?_
       refine t_b1 10 (by kernel_rfl) rfl fun w H => ?_
       refine op_store (wn rfl) rfl rfl S H rfl rfl (H.sl1 _) Fsiz129 rfl fun a w S H => ?_
       dsimp only [List.set, Nat.zero_add, Nat.reduceAdd] at H
       refine t_tail H rfl (rem' := []) rfl ?_
       refine t_nil (fun w H => ?_)
       exact ⟨b103, b107, b19, b20, (((((S.nil.cons S 20 rfl).cons S 19 rfl).cons S 5 rfl).cons S 4 rfl).cons S 3 rfl).cons S 1 rfl, H.take [Cel b20 129 [(.slice (some ⟨b107, 0, none⟩) next.length next.length)], Cel b19 129 [.slice (some ⟨b103, 0, none⟩) (pairP olds next).2.length (pairP olds next).2.length], OSl 4 (.slice (some ⟨b103, 0, none⟩) (pairP olds next).2.length (pairP olds next).2.length) 1 encB (List.replicate (pairP olds next).2.length false), OSl 4 (.slice (some ⟨b107, 0, none⟩) next.length next.length) 1 encB (List.replicate next.length false), DefsA ds, Cel b16 129 [vs0], MapA b29 (fun n : Int => .int .i64 n) (fun n : Int => .int .i64 n) (ownM ((pairP olds next).1)) c, OSl 3 u34 1 encI (pairP olds next).2, Cel b3 41 [.slice none 0 0, .slice none 0 0], Atom.ro (Cel b17 111 [.func (.func 65) #[] #[.pointer (some ⟨b1, 0, none⟩), .pointer (some ⟨b16, 0, none⟩), .pointer (some ⟨b4, 0, none⟩), .pointer (some ⟨b17, 0, none⟩), .pointer (some ⟨b6, 0, none⟩)]]), Atom.ro (Cel b6 120 [.func (.func 62) #[] #[.pointer (some ⟨b4, 0, none⟩), .pointer (some ⟨b5, 0, none⟩)]]), Atom.ro (Cel b5 39 [u34]), Atom.ro (Cel b4 118 [.map (some b29)]), Atom.ro (Cel b1 99 [vt, vo, vn, ve]), RowsS 1 encI ps, Sl ve 1 encRow ps, Sl vn 9 Pl.enc next, Sl vo 9 Pl.enc olds, Sl vt 11 Ow.enc ts]⟩
    ·refine ⟨_, rfl, fun w H => ?_⟩
     refine op_alloc (wn rfl) rfl rfl rfl S H Fzer129 fun b19 a w S H => ?_
     refine t_n H (rem' := [2, 6, 8, 9, 10]) rfl ?_
     refine t_b [2, 6, 8] (by kernel_rfl) rfl (fa3 ?_ ?_ ?_)
     ·refine ⟨_, rfl, fun w H => ?_⟩
      refine op_make (encB) (false) (wn rfl) rfl rfl rfl Try.underlying129 Finf4 rfl rfl S H rfl rfl rfl (by rw [hpl]; omega) (by rw [hpl]; omega) fun b103 a w S H => ?_
      refine t_n H (rem' := [6, 8, 9, 10]) rfl ?_
      refine t_b [6, 8] (by kernel_rfl) rfl (fa2 ?_ ?_)
      ·refine ⟨_, rfl, fun w H => ?_⟩
       refine op_make (encB) (false) (wn rfl) rfl rfl rfl Try.underlying129 Finf4 rfl rfl S H rfl rfl rfl (by omega) (by omega) fun b107 a w S H => ?_
       refine t_n H (rem' := [8, 9, 10]) rfl ?_
       refine t_b1 8 (by kernel_rfl) rfl fun w H => ?_
       refine op_alloc (wn rfl) rfl rfl rfl S H Fzer129 fun b20 a w S H => ?_
       refine t_n H (rem' := [9, 10]) rfl ?_
       refine t_b1 9 (by kernel_rfl) rfl fun w H => ?_
       refine op_store (wn rfl) rfl rfl S H rfl rfl (H.sl1 _) Fsiz129 rfl fun a w S H => ?_
       dsimp only [List.set, Nat.zero_add, Nat.reduceAdd] at H
       refine t_tail H rfl (rem' := [10]) rfl ?_
       refine t_b1 10 (by kernel_rfl) rfl fun w H => ?_
       refine op_store (wn rfl) rfl rfl S H rfl rfl (H.sl1 _) Fsiz129 rfl fun a w S H => ?_
       dsimp only [List.set, Nat.zero_add, Nat.reduceAdd] at H
       refine t_tail H rfl (rem' := []) rfl ?_
       refine t_nil (fun w H => ?_)
       exact ⟨b103, b107, b19, b20, (((((S.nil.cons S 20 rfl).cons S 19 rfl).cons S 5 rfl).cons S 4 rfl).cons S 3 rfl).cons S 1 rfl, H.take [Cel b20 129 [(.slice (some ⟨b107, 0, none⟩) next.length next.length)], Cel b19 129 [.slice (some ⟨b103, 0, none⟩) (pairP olds next).2.length (pairP olds next).2.length], OSl 4 (.slice (some ⟨b103, 0, none⟩) (pairP olds next).2.length (pairP olds next).2.length) 1 encB (List.replicate (pairP olds next).2.length false), OSl 4 (.slice (some ⟨b107, 0, none⟩) next.length next.length) 1 encB (List.replicate next.length false), DefsA ds, Cel b16 129 [vs0], MapA b29 (fun n : Int => .int .i64 n) (fun n : Int => .int .i64 n) (ownM ((pairP olds next).1)) c, OSl 3 u34 1 encI (pairP olds next).2, Cel b3 41 [.slice none 0 0, .slice none 0 0], Atom.ro (Cel b17 111 [.func (.func 65) #[] #[.pointer (some ⟨b1, 0, none⟩), .pointer (some ⟨b16, 0, none⟩), .pointer (some ⟨b4, 0, none⟩), .pointer (some ⟨b17, 0, none⟩), .pointer (some ⟨b6, 0, none⟩)]]), Atom.ro (Cel b6 120 [.func (.func 62) #[] #[.pointer (some ⟨b4, 0, none⟩), .pointer (some ⟨b5, 0, none⟩)]]), Atom.ro (Cel b5 39 [u34]), Atom.ro (Cel b4 118 [.map (some b29)]), Atom.ro (Cel b1 99 [vt, vo, vn, ve]), RowsS 1 encI ps, Sl ve 1 encRow ps, Sl vn 9 Pl.enc next, Sl vo 9 Pl.enc olds, Sl vt 11 Ow.enc ts]⟩
      ·refine ⟨_, rfl, fun w H => ?_⟩
       refine op_alloc (wn rfl) rfl rfl rfl S H Fzer129 fun b20 a w S H => ?_
       refine t_n H (rem' := [6, 9, 10]) rfl ?_
       refine t_b [6, 9] (by kernel_rfl) rfl (fa2 ?_ ?_)
       ·refine ⟨_, rfl, fun w H => ?_⟩
        refine op_make (encB) (false) (wn rfl) rfl rfl rfl Try.underlying129 Finf4 rfl rfl S H rfl rfl rfl (by omega) (by omega) fun b107 a w S H => ?_
        refine t_n H (rem' := [9, 10]) rfl ?_
        refine t_b1 9 (by kernel_rfl) rfl fun w H => ?_
        refine op_store (wn rfl) rfl rfl S H rfl rfl (H.sl1 _) Fsiz129 rfl fun a w S H => ?_
        dsimp only [List.set, Nat.zero_add, Nat.reduceAdd] at H
        refine t_tail H rfl (rem' := [10]) rfl ?_
        refine t_b1 10 (by kernel_rfl) rfl fun w H => ?_
        refine op_store (wn rfl) rfl rfl S H rfl rfl (H.sl1 _) Fsiz129 rfl fun a w S H => ?_
        dsimp only [List.set, Nat.zero_add, Nat.reduceAdd] at H
        refine t_tail H rfl (rem' := []) rfl ?_
        refine t_nil (fun w H => ?_)
        exact ⟨b103, b107, b19, b20, (((((S.nil.cons S 20 rfl).cons S 19 rfl).cons S 5 rfl).cons S 4 rfl).cons S 3 rfl).cons S 1 rfl, H.take [Cel b20 129 [(.slice (some ⟨b107, 0, none⟩) next.length next.length)], Cel b19 129 [.slice (some ⟨b103, 0, none⟩) (pairP olds next).2.length (pairP olds next).2.length], OSl 4 (.slice (some ⟨b103, 0, none⟩) (pairP olds next).2.length (pairP olds next).2.length) 1 encB (List.replicate (pairP olds next).2.length false), OSl 4 (.slice (some ⟨b107, 0, none⟩) next.length next.length) 1 encB (List.replicate next.length false), DefsA ds, Cel b16 129 [vs0], MapA b29 (fun n : Int => .int .i64 n) (fun n : Int => .int .i64 n) (ownM ((pairP olds next).1)) c, OSl 3 u34 1 encI (pairP olds next).2, Cel b3 41 [.slice none 0 0, .slice none 0 0], Atom.ro (Cel b17 111 [.func (.func 65) #[] #[.pointer (some ⟨b1, 0, none⟩), .pointer (some ⟨b16, 0, none⟩), .pointer (some ⟨b4, 0, none⟩), .pointer (some ⟨b17, 0, none⟩), .pointer (some ⟨b6, 0, none⟩)]]), Atom.ro (Cel b6 120 [.func (.func 62) #[] #[.pointer (some ⟨b4, 0, none⟩), .pointer (some ⟨b5, 0, none⟩)]]), Atom.ro (Cel b5 39 [u34]), Atom.ro (Cel b4 118 [.map (some b29)]), Atom.ro (Cel b1 99 [vt, vo, vn, ve]), RowsS 1 encI ps, Sl ve 1 encRow ps, Sl vn 9 Pl.enc next, Sl vo 9 Pl.enc olds, Sl vt 11 Ow.enc ts]⟩
       ·refine ⟨_, rfl, fun w H => ?_⟩
        refine op_store (wn rfl) rfl rfl S H rfl rfl (H.sl1 _) Fsiz129 rfl fun a w S H => ?_
        dsimp only [List.set, Nat.zero_add, Nat.reduceAdd] at H
        refine t_tail H rfl (rem' := [6, 10]) rfl ?_
        refine t_b1 6 (by kernel_rfl) rfl fun w H => ?_
        refine op_make (encB) (false) (wn rfl) rfl rfl rfl Try.underlying129 Finf4 rfl rfl S H rfl rfl rfl (by omega) (by omega) fun b107 a w S H => ?_
        refine t_n H (rem' := [10]) rfl ?_
        refine t_b1 10 (by kernel_rfl) rfl fun w H => ?_
        refine op_store (wn rfl) rfl rfl S H rfl rfl (H.sl1 _) Fsiz129 rfl fun a w S H => ?_
        dsimp only [List.set, Nat.zero_add, Nat.reduceAdd] at H
        refine t_tail H rfl (rem' := []) rfl ?_
        refine t_nil (fun w H => ?_)
        exact ⟨b103, b107, b19, b20, (((((S.nil.cons S 20 rfl).cons S 19 rfl).cons S 5 rfl).cons S 4 rfl).cons S 3 rfl).cons S 1 rfl, H.take [Cel b20 129 [(.slice (some ⟨b107, 0, none⟩) next.length next.length)], Cel b19 129 [.slice (some ⟨b103, 0, none⟩) (pairP olds next).2.length (pairP olds next).2.length], OSl 4 (.slice (some ⟨b103, 0, none⟩) (pairP olds next).2.length (pairP olds next).2.length) 1 encB (List.replicate (pairP olds next).2.length false), OSl 4 (.slice (some ⟨b107, 0, none⟩) next.length next.length) 1 encB (List.replicate next.length false), DefsA ds, Cel b16 129 [vs0], MapA b29 (fun n : Int => .int .i64 n) (fun n : Int => .int .i64 n) (ownM ((pairP olds next).1)) c, OSl 3 u34 1 encI (pairP olds next).2, Cel b3 41 [.slice none 0 0, .slice none 0 0], Atom.ro (Cel b17 111 [.func (.func 65) #[] #[.pointer (some ⟨b1, 0, none⟩), .pointer (some ⟨b16, 0, none⟩), .pointer (some ⟨b4, 0, none⟩), .pointer (some ⟨b17, 0, none⟩), .pointer (some ⟨b6, 0, none⟩)]]), Atom.ro (Cel b6 120 [.func (.func 62) #[] #[.pointer (some ⟨b4, 0, none⟩), .pointer (some ⟨b5, 0, none⟩)]]), Atom.ro (Cel b5 39 [u34]), Atom.ro (Cel b4 118 [.map (some b29)]), Atom.ro (Cel b1 99 [vt, vo, vn, ve]), RowsS 1 encI ps, Sl ve 1 encRow ps, Sl vn 9 Pl.enc next, Sl vo 9 Pl.enc olds, Sl vt 11 Ow.enc ts]⟩
     ·refine ⟨_, rfl, fun w H => ?_⟩
      refine op_make (encB) (false) (wn rfl) rfl rfl rfl Try.underlying129 Finf4 rfl rfl S H rfl rfl rfl (by omega) (by omega) fun b107 a w S H => ?_
      refine t_n H (rem' := [2, 8, 9, 10]) rfl ?_
      refine t_b [2, 8] (by kernel_rfl) rfl (fa2 ?_ ?_)
      ·refine ⟨_, rfl, fun w H => ?_⟩
       refine op_make (encB) (false) (wn rfl) rfl rfl rfl Try.underlying129 Finf4 rfl rfl S H rfl rfl rfl (by rw [hpl]; omega) (by rw [hpl]; omega) fun b103 a w S H => ?_
       refine t_n H (rem' := [8, 9, 10]) rfl ?_
       refine t_b1 8 (by kernel_rfl) rfl fun w H => ?_
       refine op_alloc (wn rfl) rfl rfl rfl S H Fzer129 fun b20 a w S H => ?_
       refine t_n H (rem' := [9, 10]) rfl ?_
       refine t_b1 9 (by kernel_rfl) rfl fun w H => ?_
       refine op_store (wn rfl) rfl rfl S H rfl rfl (H.sl1 _) Fsiz129 rfl fun a w S H => ?_
       dsimp only [List.set, Nat.zero_add, Nat.reduceAdd] at H
       refine t_tail H rfl (rem' := [10]) rfl ?_
       refine t_b1 10 (by kernel_rfl) rfl fun w H => ?_
       refine op_store (wn rfl) rfl rfl S H rfl rfl (H.sl1 _) Fsiz129 rfl fun a w S H => ?_
       dsimp only [List.set, Nat.zero_add, Nat.reduceAdd] at H
       refine t_tail H rfl (rem' := []) rfl ?_
       refine t_nil (fun w H => ?_)
       exact ⟨b103, b107, b19, b20, (((((S.nil.cons S 20 rfl).cons S 19 rfl).cons S 5 rfl).cons S 4 rfl).cons S 3 rfl).cons S 1 rfl, H.take [Cel b20 129 [(.slice (some ⟨b107, 0, none⟩) next.length next.length)], Cel b19 129 [.slice (some ⟨b103, 0, none⟩) (pairP olds next).2.length (pairP olds next).2.length], OSl 4 (.slice (some ⟨b103, 0, none⟩) (pairP olds next).2.length (pairP olds next).2.length) 1 encB (List.replicate (pairP olds next).2.length false), OSl 4 (.slice (some ⟨b107, 0, none⟩) next.length next.length) 1 encB (List.replicate next.length false), DefsA ds, Cel b16 129 [vs0], MapA b29 (fun n : Int => .int .i64 n) (fun n : Int => .int .i64 n) (ownM ((pairP olds next).1)) c, OSl 3 u34 1 encI (pairP olds next).2, Cel b3 41 [.slice none 0 0, .slice none 0 0], Atom.ro (Cel b17 111 [.func (.func 65) #[] #[.pointer (some ⟨b1, 0, none⟩), .pointer (some ⟨b16, 0, none⟩), .pointer (some ⟨b4, 0, none⟩), .pointer (some ⟨b17, 0, none⟩), .pointer (some ⟨b6, 0, none⟩)]]), Atom.ro (Cel b6 120 [.func (.func 62) #[] #[.pointer (some ⟨b4, 0, none⟩), .pointer (some ⟨b5, 0, none⟩)]]), Atom.ro (Cel b5 39 [u34]), Atom.ro (Cel b4 118 [.map (some b29)]), Atom.ro (Cel b1 99 [vt, vo, vn, ve]), RowsS 1 encI ps, Sl ve 1 encRow ps, Sl vn 9 Pl.enc next, Sl vo 9 Pl.enc olds, Sl vt 11 Ow.enc ts]⟩
      ·refine ⟨_, rfl, fun w H => ?_⟩
       refine op_alloc (wn rfl) rfl rfl rfl S H Fzer129 fun b20 a w S H => ?_
       refine t_n H (rem' := [2, 9, 10]) rfl ?_
       refine t_b1 2 (by kernel_rfl) rfl fun w H => ?_
       refine op_make (encB) (false) (wn rfl) rfl rfl rfl Try.underlying129 Finf4 rfl rfl S H rfl rfl rfl (by rw [hpl]; omega) (by rw [hpl]; omega) fun b103 a w S H => ?_
       refine t_n H (rem' := [9, 10]) rfl ?_
       refine t_b1 9 (by kernel_rfl) rfl fun w H => ?_
       refine op_store (wn rfl) rfl rfl S H rfl rfl (H.sl1 _) Fsiz129 rfl fun a w S H => ?_
       dsimp only [List.set, Nat.zero_add, Nat.reduceAdd] at H
       refine t_tail H rfl (rem' := [10]) rfl ?_
       refine t_b1 10 (by kernel_rfl) rfl fun w H => ?_
       refine op_store (wn rfl) rfl rfl S H rfl rfl (H.sl1 _) Fsiz129 rfl fun a w S H => ?_
       dsimp only [List.set, Nat.zero_add, Nat.reduceAdd] at H
       refine t_tail H rfl (rem' := []) rfl ?_
       refine t_nil (fun w H => ?_)
       exact ⟨b103, b107, b19, b20, (((((S.nil.cons S 20 rfl).cons S 19 rfl).cons S 5 rfl).cons S 4 rfl).cons S 3 rfl).cons S 1 rfl, H.take [Cel b20 129 [(.slice (some ⟨b107, 0, none⟩) next.length next.length)], Cel b19 129 [.slice (some ⟨b103, 0, none⟩) (pairP olds next).2.length (pairP olds next).2.length], OSl 4 (.slice (some ⟨b103, 0, none⟩) (pairP olds next).2.length (pairP olds next).2.length) 1 encB (List.replicate (pairP olds next).2.length false), OSl 4 (.slice (some ⟨b107, 0, none⟩) next.length next.length) 1 encB (List.replicate next.length false), DefsA ds, Cel b16 129 [vs0], MapA b29 (fun n : Int => .int .i64 n) (fun n : Int => .int .i64 n) (ownM ((pairP olds next).1)) c, OSl 3 u34 1 encI (pairP olds next).2, Cel b3 41 [.slice none 0 0, .slice none 0 0], Atom.ro (Cel b17 111 [.func (.func 65) #[] #[.pointer (some ⟨b1, 0, none⟩), .pointer (some ⟨b16, 0, none⟩), .pointer (some ⟨b4, 0, none⟩), .pointer (some ⟨b17, 0, none⟩), .pointer (some ⟨b6, 0, none⟩)]]), Atom.ro (Cel b6 120 [.func (.func 62) #[] #[.pointer (some ⟨b4, 0, none⟩), .pointer (some ⟨b5, 0, none⟩)]]), Atom.ro (Cel b5 39 [u34]), Atom.ro (Cel b4 118 [.map (some b29)]), Atom.ro (Cel b1 99 [vt, vo, vn, ve]), RowsS 1 encI ps, Sl ve 1 encRow ps, Sl vn 9 Pl.enc next, Sl vo 9 Pl.enc olds, Sl vt 11 Ow.enc ts]⟩
     ·refine ⟨_, rfl, fun w H => ?_⟩
      refine op_alloc (wn rfl) rfl rfl rfl S H Fzer129 fun b20 a w S H => ?_
      refine t_n H (rem' := [2, 6, 9, 10]) rfl ?_
      refine t_b [2, 6] (by kernel_rfl) rfl (fa2 ?_ ?_)
      ·refine ⟨_, rfl, fun w H => ?_⟩
       refine op_make (encB) (false) (wn rfl) rfl rfl rfl Try.underlying129 Finf4 rfl rfl S H rfl rfl rfl (by rw [hpl]; omega) (by rw [hpl]; omega) fun b103 a w S H => ?_
       refine t_n H (rem' := [6, 9, 10]) rfl ?_
       refine t_b [6, 9] (by kernel_rfl) rfl (fa2 ?_ ?_)
       ·refine ⟨_, rfl, fun w H => ?_⟩
        refine op_make (encB) (false) (wn rfl) rfl rfl rfl Try.underlying129 Finf4 rfl rfl S H rfl rfl rfl (by omega) (by omega) fun b107 a w S H => ?_
        refine t_n H (rem' := [9, 10]) rfl ?_
        refine t_b1 9 (by kernel_rfl) rfl fun w H => ?_
        refine op_store (wn rfl) rfl rfl S H rfl rfl (H.sl1 _) Fsiz129 rfl fun a w S H => ?_
        dsimp only [List.set, Nat.zero_add, Nat.reduceAdd] at H
        refine t_tail H rfl (rem' := [10]) rfl ?_
        refine t_b1 10 (by kernel_rfl) rfl fun w H => ?_
        refine op_store (wn rfl) rfl rfl S H rfl rfl (H.sl1 _) Fsiz129 rfl fun a w S H => ?_
        dsimp only [List.set, Nat.zero_add, Nat.reduceAdd] at H
        refine t_tail H rfl (rem' := []) rfl ?_
        refine t_nil (fun w H => ?_)
        exact ⟨b103, b107, b19, b20, (((((S.nil.cons S 20 rfl).cons S 19 rfl).cons S 5 rfl).cons S 4 rfl).cons S 3 rfl).cons S 1 rfl, H.take [Cel b20 129 [(.slice (some ⟨b107, 0, none⟩) next.length next.length)], Cel b19 129 [.slice (some ⟨b103, 0, none⟩) (pairP olds next).2.length (pairP olds next).2.length], OSl 4 (.slice (some ⟨b103, 0, none⟩) (pairP olds next).2.length (pairP olds next).2.length) 1 encB (List.replicate (pairP olds next).2.length false), OSl 4 (.slice (some ⟨b107, 0, none⟩) next.length next.length) 1 encB (List.replicate next.length false), DefsA ds, Cel b16 129 [vs0], MapA b29 (fun n : Int => .int .i64 n) (fun n : Int => .int .i64 n) (ownM ((pairP olds next).1)) c, OSl 3 u34 1 encI (pairP olds next).2, Cel b3 41 [.slice none 0 0, .slice none 0 0], Atom.ro (Cel b17 111 [.func (.func 65) #[] #[.pointer (some ⟨b1, 0, none⟩), .pointer (some ⟨b16, 0, none⟩), .pointer (some ⟨b4, 0, none⟩), .pointer (some ⟨b17, 0, none⟩), .pointer (some ⟨b6, 0, none⟩)]]), Atom.ro (Cel b6 120 [.func (.func 62) #[] #[.pointer (some ⟨b4, 0, none⟩), .pointer (some ⟨b5, 0, none⟩)]]), Atom.ro (Cel b5 39 [u34]), Atom.ro (Cel b4 118 [.map (some b29)]), Atom.ro (Cel b1 99 [vt, vo, vn, ve]), RowsS 1 encI ps, Sl ve 1 encRow ps, Sl vn 9 Pl.enc next, Sl vo 9 Pl.enc olds, Sl vt 11 Ow.enc ts]⟩
       ·refine ⟨_, rfl, fun w H => ?_⟩
        refine op_store (wn rfl) rfl rfl S H rfl rfl (H.sl1 _) Fsiz129 rfl fun a w S H => ?_
        dsimp only [List.set, Nat.zero_add, Nat.reduceAdd] at H
        refine t_tail H rfl (rem' := [6, 10]) rfl ?_
        refine t_b1 6 (by kernel_rfl) rfl fun w H => ?_
        refine op_make (encB) (false) (wn rfl) rfl rfl rfl Try.underlying129 Finf4 rfl rfl S H rfl rfl rfl (by omega) (by omega) fun b107 a w S H => ?_
        refine t_n H (rem' := [10]) rfl ?_
        refine t_b1 10 (by kernel_rfl) rfl fun w H => ?_
        refine op_store (wn rfl) rfl rfl S H rfl rfl (H.sl1 _) Fsiz129 rfl fun a w S H => ?_
        dsimp only [List.set, Nat.zero_add, Nat.reduceAdd] at H
        refine t_tail H rfl (rem' := []) rfl ?_
        refine t_nil (fun w H => ?_)
        exact ⟨b103, b107, b19, b20, (((((S.nil.cons S 20 rfl).cons S 19 rfl).cons S 5 rfl).cons S 4 rfl).cons S 3 rfl).cons S 1 rfl, H.take [Cel b20 129 [(.slice (some ⟨b107, 0, none⟩) next.length next.length)], Cel b19 129 [.slice (some ⟨b103, 0, none⟩) (pairP olds next).2.length (pairP olds next).2.length], OSl 4 (.slice (some ⟨b103, 0, none⟩) (pairP olds next).2.length (pairP olds next).2.length) 1 encB (List.replicate (pairP olds next).2.length false), OSl 4 (.slice (some ⟨b107, 0, none⟩) next.length next.length) 1 encB (List.replicate next.length false), DefsA ds, Cel b16 129 [vs0], MapA b29 (fun n : Int => .int .i64 n) (fun n : Int => .int .i64 n) (ownM ((pairP olds next).1)) c, OSl 3 u34 1 encI (pairP olds next).2, Cel b3 41 [.slice none 0 0, .slice none 0 0], Atom.ro (Cel b17 111 [.func (.func 65) #[] #[.pointer (some ⟨b1, 0, none⟩), .pointer (some ⟨b16, 0, none⟩), .pointer (some ⟨b4, 0, none⟩), .pointer (some ⟨b17, 0, none⟩), .pointer (some ⟨b6, 0, none⟩)]]), Atom.ro (Cel b6 120 [.func (.func 62) #[] #[.pointer (some ⟨b4, 0, none⟩), .pointer (some ⟨b5, 0, none⟩)]]), Atom.ro (Cel b5 39 [u34]), Atom.ro (Cel b4 118 [.map (some b29)]), Atom.ro (Cel b1 99 [vt, vo, vn, ve]), RowsS 1 encI ps, Sl ve 1 encRow ps, Sl vn 9 Pl.enc next, Sl vo 9 Pl.enc olds, Sl vt 11 Ow.enc ts]⟩
      ·refine ⟨_, rfl, fun w H => ?_⟩
       refine op_make (encB) (false) (wn rfl) rfl rfl rfl Try.underlying129 Finf4 rfl rfl S H rfl rfl rfl (by omega) (by omega) fun b107 a w S H => ?_
       refine t_n H (rem' := [2, 9, 10]) rfl ?_
       refine t_b1 2 (by kernel_rfl) rfl fun w H => ?_
       refine op_make (encB) (false) (wn rfl) rfl rfl rfl Try.underlying129 Finf4 rfl rfl S H rfl rfl rfl (by rw [hpl]; omega) (by rw [hpl]; omega) fun b103 a w S H => ?_
       refine t_n H (rem' := [9, 10]) rfl ?_
       refine t_b1 9 (by kernel_rfl) rfl fun w H => ?_
       refine op_store (wn rfl) rfl rfl S H rfl rfl (H.sl1 _) Fsiz129 rfl fun a w S H => ?_
       dsimp only [List.set, Nat.zero_add, Nat.reduceAdd] at H
       refine t_tail H rfl (rem' := [10]) rfl ?_
       refine t_b1 10 (by kernel_rfl) rfl fun w H => ?_
       refine op_store (wn rfl) rfl rfl S H rfl rfl (H.sl1 _) Fsiz129 rfl fun a w S H => ?_
       dsimp only [List.set, Nat.zero_add, Nat.reduceAdd] at H
       refine t_tail H rfl (rem' := []) rfl ?_
       refine t_nil (fun w H => ?_)
       exact ⟨b103, b107, b19, b20, (((((S.nil.cons S 20 rfl).cons S 19 rfl).cons S 5 rfl).cons S 4 rfl).cons S 3 rfl).cons S 1 rfl, H.take [Cel b20 129 [(.slice (some ⟨b107, 0, none⟩) next.length next.length)], Cel b19 129 [.slice (some ⟨b103, 0, none⟩) (pairP olds next).2.length (pairP olds next).2.length], OSl 4 (.slice (some ⟨b103, 0, none⟩) (pairP olds next).2.length (pairP olds next).2.length) 1 encB (List.replicate (pairP olds next).2.length false), OSl 4 (.slice (some ⟨b107, 0, none⟩) next.length next.length) 1 encB (List.replicate next.length false), DefsA ds, Cel b16 129 [vs0], MapA b29 (fun n : Int => .int .i64 n) (fun n : Int => .int .i64 n) (ownM ((pairP olds next).1)) c, OSl 3 u34 1 encI (pairP olds next).2, Cel b3 41 [.slice none 0 0, .slice none 0 0], Atom.ro (Cel b17 111 [.func (.func 65) #[] #[.pointer (some ⟨b1, 0, none⟩), .pointer (some ⟨b16, 0, none⟩), .pointer (some ⟨b4, 0, none⟩), .pointer (some ⟨b17, 0, none⟩), .pointer (some ⟨b6, 0, none⟩)]]), Atom.ro (Cel b6 120 [.func (.func 62) #[] #[.pointer (some ⟨b4, 0, none⟩), .pointer (some ⟨b5, 0, none⟩)]]), Atom.ro (Cel b5 39 [u34]), Atom.ro (Cel b4 118 [.map (some b29)]), Atom.ro (Cel b1 99 [vt, vo, vn, ve]), RowsS 1 encI ps, Sl ve 1 encRow ps, Sl vn 9 Pl.enc next, Sl vo 9 Pl.enc olds, Sl vt 11 Ow.enc ts]⟩
    ·refine ⟨_, rfl, fun w H => ?_⟩
     refine op_alloc (wn rfl) rfl rfl rfl S H Fzer129 fun b20 a w S H => ?_
     refine t_n H (rem' := [2, 6, 7, 9, 10]) rfl ?_
     refine t_b [2, 6, 7] (by kernel_rfl) rfl (fa3 ?_ ?_ ?_)
     ·refine ⟨_, rfl, fun w H => ?_⟩
      refine op_make (encB) (false) (wn rfl) rfl rfl rfl Try.underlying129 Finf4 rfl rfl S H rfl rfl rfl (by rw [hpl]; omega) (by rw [hpl]; omega) fun b103 a w S H => ?_
      refine t_n H (rem' := [6, 7, 9, 10]) rfl ?_
      refine t_b [6, 7] (by kernel_rfl) rfl (fa2 ?_ ?_)
      ·refine ⟨_, rfl, fun w H => ?_⟩
       refine op_make (encB) (false) (wn rfl) rfl rfl rfl Try.underlying129 Finf4 rfl rfl S H rfl rfl rfl (by omega) (by omega) fun b107 a w S H => ?_
       refine t_n H (rem' := [7, 9, 10]) rfl ?_
       refine t_b1 7 (by kernel_rfl) rfl fun w H => ?_
       refine op_alloc (wn rfl) rfl rfl rfl S H Fzer129 fun b19 a w S H => ?_
       refine t_n H (rem' := [9, 10]) rfl ?_
       refine t_b1 9 (by kernel_rfl) rfl fun w H => ?_
       refine op_store (wn rfl) rfl rfl S H rfl rfl (H.sl1 _) Fsiz129 rfl fun a w S H => ?_
       dsimp only [List.set, Nat.zero_add, Nat.reduceAdd] at H
       refine t_tail H rfl (rem' := [10]) rfl ?_
       refine t_b1 10 (by kernel_rfl) rfl fun w H => ?_
       refine op_store (wn rfl) rfl rfl S H rfl rfl (H.sl1 _) Fsiz129 rfl fun a w S H => ?_
       dsimp only [List.set, Nat.zero_add, Nat.reduceAdd] at H
       refine t_tail H rfl (rem' := []) rfl ?_
       refine t_nil (fun w H => ?_)
       exact ⟨b103, b107, b19, b20, (((((S.nil.cons S 20 rfl).cons S 19 rfl).cons S 5 rfl).cons S 4 rfl).cons S 3 rfl).cons S 1 rfl, H.take [Cel b20 129 [(.slice (some ⟨b107, 0, none⟩) next.length next.length)], Cel b19 129 [.slice (some ⟨b103, 0, none⟩) (pairP olds next).2.length (pairP olds next).2.length], OSl 4 (.slice (some ⟨b103, 0, none⟩) (pairP olds next).2.length (pairP olds next).2.length) 1 encB (List.replicate (pairP olds next).2.length false), OSl 4 (.slice (some ⟨b107, 0, none⟩) next.length next.length) 1 encB (List.replicate next.length false), DefsA ds, Cel b16 129 [vs0], MapA b29 (fun n : Int => .int .i64 n) (fun n : Int => .int .i64 n) (ownM ((pairP olds next).1)) c, OSl 3 u34 1 encI (pairP olds next).2, Cel b3 41 [.slice none 0 0, .slice none 0 0], Atom.ro (Cel b17 111 [.func (.func 65) #[] #[.pointer (some ⟨b1, 0, none⟩), .pointer (some ⟨b16, 0, none⟩), .pointer (some ⟨b4, 0, none⟩), .pointer (some ⟨b17, 0, none⟩), .pointer (some ⟨b6, 0, none⟩)]]), Atom.ro (Cel b6 120 [.func (.func 62) #[] #[.pointer (some ⟨b4, 0, none⟩), .pointer (some ⟨b5, 0, none⟩)]]), Atom.ro (Cel b5 39 [u34]), Atom.ro (Cel b4 118 [.map (some b29)]), Atom.ro (Cel b1 99 [vt, vo, vn, ve]), RowsS 1 encI ps, Sl ve 1 encRow ps, Sl vn 9 Pl.enc next, Sl vo 9 Pl.enc olds, Sl vt 11 Ow.enc ts]⟩
      ·refine ⟨_, rfl, fun w H => ?_⟩
       refine op_alloc (wn rfl) rfl rfl rfl S H Fzer129 fun b19 a w S H => ?_
       refine t_n H (rem' := [6, 9, 10]) rfl ?_
       refine t_b [6, 9] (by kernel_rfl) rfl (fa2 ?_ ?_)
       ·refine ⟨_, rfl, fun w H => ?_⟩
        refine op_make (encB) (false) (wn rfl) rfl rfl rfl Try.underlying129 Finf4 rfl rfl S H rfl rfl rfl (by omega) (by omega) fun b107 a w S H => ?_
        refine t_n H (rem' := [9, 10]) rfl ?_
        refine t_b1 9 (by kernel_rfl) rfl fun w H => ?_
        refine op_store (wn rfl) rfl rfl S H rfl rfl (H.sl1 _) Fsiz129 rfl fun a w S H => ?_
        dsimp only [List.set, Nat.zero_add, Nat.reduceAdd] at H
        refine t_tail H rfl (rem' := [10]) rfl ?_
        refine t_b1 10 (by kernel_rfl) rfl fun w H => ?_
        refine op_store (wn rfl) rfl rfl S H rfl rfl (H.sl1 _) Fsiz129 rfl fun a w S H => ?_
        dsimp only [List.set, Nat.zero_add, Nat.reduceAdd] at H
        refine t_tail H rfl (rem' := []) rfl ?_
        refine t_nil (fun w H => ?_)
        exact ⟨b103, b107, b19, b20, (((((S.nil.cons S 20 rfl).cons S 19 rfl).cons S 5 rfl).cons S 4 rfl).cons S 3 rfl).cons S 1 rfl, H.take [Cel b20 129 [(.slice (some ⟨b107, 0, none⟩) next.length next.length)], Cel b19 129 [.slice (some ⟨b103, 0, none⟩) (pairP olds next).2.length (pairP olds next).2.length], OSl 4 (.slice (some ⟨b103, 0, none⟩) (pairP olds next).2.length (pairP olds next).2.length) 1 encB (List.replicate (pairP olds next).2.length false), OSl 4 (.slice (some ⟨b107, 0, none⟩) next.length next.length) 1 encB (List.replicate next.length false), DefsA ds, Cel b16 129 [vs0], MapA b29 (fun n : Int => .int .i64 n) (fun n : Int => .int .i64 n) (ownM ((pairP olds next).1)) c, OSl 3 u34 1 encI (pairP olds next).2, Cel b3 41 [.slice none 0 0, .slice none 0 0], Atom.ro (Cel b17 111 [.func (.func 65) #[] #[.pointer (some ⟨b1, 0, none⟩), .pointer (some ⟨b16, 0, none⟩), .pointer (some ⟨b4, 0, none⟩), .pointer (some ⟨b17, 0, none⟩), .pointer (some ⟨b6, 0, none⟩)]]), Atom.ro (Cel b6 120 [.func (.func 62) #[] #[.pointer (some ⟨b4, 0, none⟩), .pointer (some ⟨b5, 0, none⟩)]]), Atom.ro (Cel b5 39 [u34]), Atom.ro (Cel b4 118 [.map (some b29)]), Atom.ro (Cel b1 99 [vt, vo, vn, ve]), RowsS 1 encI ps, Sl ve 1 encRow ps, Sl vn 9 Pl.enc next, Sl vo 9 Pl.enc olds, Sl vt 11 Ow.enc ts]⟩
       ·refine ⟨_, rfl, fun w H => ?_⟩
        refine op_store (wn rfl) rfl rfl S H rfl rfl (H.sl1 _) Fsiz129 rfl fun a w S H => ?_
        dsimp only [List.set, Nat.zero_add, Nat.reduceAdd] at H
        refine t_tail H rfl (rem' := [6, 10]) rfl ?_
        refine t_b1 6 (by kernel_rfl) rfl fun w H => ?_
        refine op_make (encB) (false) (wn rfl) rfl rfl rfl Try.underlying129 Finf4 rfl rfl S H rfl rfl rfl (by omega) (by omega) fun b107 a w S H => ?_
        refine t_n H (rem' := [10]) rfl ?_
        refine t_b1 10 (by kernel_rfl) rfl fun w H => ?_
        refine op_store (wn rfl) rfl rfl S H rfl rfl (H.sl1 _) Fsiz129 rfl fun a w S H => ?_
        dsimp only [List.set, Nat.zero_add, Nat.reduceAdd] at H
        refine t_tail H rfl (rem' := []) rfl ?_
        refine t_nil (fun w H => ?_)
        exact ⟨b103, b107, b19, b20, (((((S.nil.cons S 20 rfl).cons S 19 rfl).cons S 5 rfl).cons S 4 rfl).cons S 3 rfl).cons S 1 rfl, H.take [Cel b20 129 [(.slice (some ⟨b107, 0, none⟩) next.length next.length)], Cel b19 129 [.slice (some ⟨b103, 0, none⟩) (pairP olds next).2.length (pairP olds next).2.length], OSl 4 (.slice (some ⟨b103, 0, none⟩) (pairP olds next).2.length (pairP olds next).2.length) 1 encB (List.replicate (pairP olds next).2.length false), OSl 4 (.slice (some ⟨b107, 0, none⟩) next.length next.length) 1 encB (List.replicate next.length false), DefsA ds, Cel b16 129 [vs0], MapA b29 (fun n : Int => .int .i64 n) (fun n : Int => .int .i64 n) (ownM ((pairP olds next).1)) c, OSl 3 u34 1 encI (pairP olds next).2, Cel b3 41 [.slice none 0 0, .slice none 0 0], Atom.ro (Cel b17 111 [.func (.func 65) #[] #[.pointer (some ⟨b1, 0, none⟩), .pointer (some ⟨b16, 0, none⟩), .pointer (some ⟨b4, 0, none⟩), .pointer (some ⟨b17, 0, none⟩), .pointer (some ⟨b6, 0, none⟩)]]), Atom.ro (Cel b6 120 [.func (.func 62) #[] #[.pointer (some ⟨b4, 0, none⟩), .pointer (some ⟨b5, 0, none⟩)]]), Atom.ro (Cel b5 39 [u34]), Atom.ro (Cel b4 118 [.map (some b29)]), Atom.ro (Cel b1 99 [vt, vo, vn, ve]), RowsS 1 encI ps, Sl ve 1 encRow ps, Sl vn 9 Pl.enc next, Sl vo 9 Pl.enc olds, Sl vt 11 Ow.enc ts]⟩
     ·refine ⟨_, rfl, fun w H => ?_⟩
      refine op_make (encB) (false) (wn rfl) rfl rfl rfl Try.underlying129 Finf4 rfl rfl S H rfl rfl rfl (by omega) (by omega) fun b107 a w S H => ?_
      refine t_n H (rem' := [2, 7, 9, 10]) rfl ?_
      refine t_b [2, 7] (by kernel_rfl) rfl (fa2 ?_ ?_)
      ·refine ⟨_, rfl, fun w H => ?_⟩
       refine op_make (encB) (false) (wn rfl) rfl rfl rfl Try.underlying129 Finf4 rfl rfl S H rfl rfl rfl (by rw [hpl]; omega) (by rw [hpl]; omega) fun b103 a w S H => ?_
       refine t_n H (rem' := [7, 9, 10]) rfl ?_
       refine t_b1 7 (by kernel_rfl) rfl fun w H => ?_
       refine op_alloc (wn rfl) rfl rfl rfl S H Fzer129 fun b19 a w S H => ?_
       refine t_n H (rem' := [9, 10]) rfl ?_
       refine t_b1 9 (by kernel_rfl) rfl fun w H => ?_
       refine op_store (wn rfl) rfl rfl S H rfl rfl (H.sl1 _) Fsiz129 rfl fun a w S H => ?_
       dsimp only [List.set, Nat.zero_add, Nat.reduceAdd] at H
       refine t_tail H rfl (rem' := [10]) rfl ?_
       refine t_b1 10 (by kernel_rfl) rfl fun w H => ?_
       refine op_store (wn rfl) rfl rfl S H rfl rfl (H.sl1 _) Fsiz129 rfl fun a w S H => ?_
       dsimp only [List.set, Nat.zero_add, Nat.reduceAdd] at H
       refine t_tail H rfl (rem' := []) rfl ?_
       refine t_nil (fun w H => ?_)
       exact ⟨b103, b107, b19, b20, (((((S.nil.cons S 20 rfl).cons S 19 rfl).cons S 5 rfl).cons S 4 rfl).cons S 3 rfl).cons S 1 rfl, H.take [Cel b20 129 [(.slice (some ⟨b107, 0, none⟩) next.length next.length)], Cel b19 129 [.slice (some ⟨b103, 0, none⟩) (pairP olds next).2.length (pairP olds next).2.length], OSl 4 (.slice (some ⟨b103, 0, none⟩) (pairP olds next).2.length (pairP olds next).2.length) 1 encB (List.replicate (pairP olds next).2.length false), OSl 4 (.slice (some ⟨b107, 0, none⟩) next.length next.length) 1 encB (List.replicate next.length false), DefsA ds, Cel b16 129 [vs0], MapA b29 (fun n : Int => .int .i64 n) (fun n : Int => .int .i64 n) (ownM ((pairP olds next).1)) c, OSl 3 u34 1 encI (pairP olds next).2, Cel b3 41 [.slice none 0 0, .slice none 0 0], Atom.ro (Cel b17 111 [.func (.func 65) #[] #[.pointer (some ⟨b1, 0, none⟩), .pointer (some ⟨b16, 0, none⟩), .pointer (some ⟨b4, 0, none⟩), .pointer (some ⟨b17, 0, none⟩), .pointer (some ⟨b6, 0, none⟩)]]), Atom.ro (Cel b6 120 [.func (.func 62) #[] #[.pointer (some ⟨b4, 0, none⟩), .pointer (some ⟨b5, 0, none⟩)]]), Atom.ro (Cel b5 39 [u34]), Atom.ro (Cel b4 118 [.map (some b29)]), Atom.ro (Cel b1 99 [vt, vo, vn, ve]), RowsS 1 encI ps, Sl ve 1 encRow ps, Sl vn 9 Pl.enc next, Sl vo 9 Pl.enc olds, Sl vt 11 Ow.enc ts]⟩
      ·refine ⟨_, rfl, fun w H => ?_⟩
       refine op_alloc (wn rfl) rfl rfl rfl S H Fzer129 fun b19 a w S H => ?_
       refine t_n H (rem' := [2, 9, 10]) rfl ?_
       refine t_b1 2 (by kernel_rfl) rfl fun w H => ?_
       refine op_make (encB) (false) (wn rfl) rfl rfl rfl Try.underlying129 Finf4 rfl rfl S H rfl rfl rfl (by rw [hpl]; omega) (by rw [hpl]; omega) fun b103 a w S H => ?_
       refine t_n H (rem' := [9, 10]) rfl ?_
       refine t_b1 9 (by kernel_rfl) rfl fun w H => ?_
       refine op_store (wn rfl) rfl rfl S H rfl rfl (H.sl1 _) Fsiz129 rfl fun a w S H => ?_
       dsimp only [List.set, Nat.zero_add, Nat.reduceAdd] at H
       refine t_tail H rfl (rem' := [10]) rfl ?_
       refine t_b1 10 (by kernel_rfl) rfl fun w H => ?_
       refine op_store (wn rfl) rfl rfl S H rfl rfl (H.sl1 _) Fsiz129 rfl fun a w S H => ?_
       dsimp only [List.set, Nat.zero_add, Nat.reduceAdd] at H
       refine t_tail H rfl (rem' := []) rfl ?_
       refine t_nil (fun w H => ?_)
       exact ⟨b103, b107, b19, b20, (((((S.nil.cons S 20 rfl).cons S 19 rfl).cons S 5 rfl).cons S 4 rfl).cons S 3 rfl).cons S 1 rfl, H.take [Cel b20 129 [(.slice (some ⟨b107, 0, none⟩) next.length next.length)], Cel b19 129 [.slice (some ⟨b103, 0, none⟩) (pairP olds next).2.length (pairP olds next).2.length], OSl 4 (.slice (some ⟨b103, 0, none⟩) (pairP olds next).2.length (pairP olds next).2.length) 1 encB (List.replicate (pairP olds next).2.length false), OSl 4 (.slice (some ⟨b107, 0, none⟩) next.length next.length) 1 encB (List.replicate next.length false), DefsA ds, Cel b16 129 [vs0], MapA b29 (fun n : Int => .int .i64 n) (fun n : Int => .int .i64 n) (ownM ((pairP olds next).1)) c, OSl 3 u34 1 encI (pairP olds next).2, Cel b3 41 [.slice none 0 0, .slice none 0 0], Atom.ro (Cel b17 111 [.func (.func 65) #[] #[.pointer (some ⟨b1, 0, none⟩), .pointer (some ⟨b16, 0, none⟩), .pointer (some ⟨b4, 0, none⟩), .pointer (some ⟨b17, 0, none⟩), .pointer (some ⟨b6, 0, none⟩)]]), Atom.ro (Cel b6 120 [.func (.func 62) #[] #[.pointer (some ⟨b4, 0, none⟩), .pointer (some ⟨b5, 0, none⟩)]]), Atom.ro (Cel b5 39 [u34]), Atom.ro (Cel b4 118 [.map (some b29)]), Atom.ro (Cel b1 99 [vt, vo, vn, ve]), RowsS 1 encI ps, Sl ve 1 encRow ps, Sl vn 9 Pl.enc next, Sl vo 9 Pl.enc olds, Sl vt 11 Ow.enc ts]⟩
     ·refine ⟨_, rfl, fun w H => ?_⟩
      refine op_alloc (wn rfl) rfl rfl rfl S H Fzer129 fun b19 a w S H => ?_
      refine t_n H (rem' := [2, 6, 9, 10]) rfl ?_
      refine t_b [2, 6] (by kernel_rfl) rfl (fa2 ?_ ?_)
      ·refine ⟨_, rfl, fun w H => ?_⟩
       refine op_make (encB) (false) (wn rfl) rfl rfl rfl Try.underlying129 Finf4 rfl rfl S H rfl rfl rfl (by rw [hpl]; omega) (by rw [hpl]; omega) fun b103 a w S H => ?_
       refine t_n H (rem' := [6, 9, 10]) rfl ?_
       refine t_b [6, 9] (by kernel_rfl) rfl (fa2 ?_ ?_)
       ·refine ⟨_, rfl, fun w H => ?_⟩
        refine op_make (encB) (false) (wn rfl) rfl rfl rfl Try.underlying129 Finf4 rfl rfl S H rfl rfl rfl (by omega) (by omega) fun b107 a w S H => ?_
        refine t_n H (rem' := [9, 10]) rfl ?_
        refine t_b1 9 (by kernel_rfl) rfl fun w H => ?_
        refine op_store (wn rfl) rfl rfl S H rfl rfl (H.sl1 _) Fsiz129 rfl fun a w S H => ?_
        dsimp only [List.set, Nat.zero_add, Nat.reduceAdd] at H
        refine t_tail H rfl (rem' := [10]) rfl ?_
        refine t_b1 10 (by kernel_rfl) rfl fun w H => ?_
        refine op_store (wn rfl) rfl rfl S H rfl rfl (H.sl1 _) Fsiz129 rfl fun a w S H => ?_
        dsimp only [List.set, Nat.zero_add, Nat.reduceAdd] at H
        refine t_tail H rfl (rem' := []) rfl ?_
        refine t_nil (fun w H => ?_)
        exact ⟨b103, b107, b19, b20, (((((S.nil.cons S 20 rfl).cons S 19 rfl).cons S 5 rfl).cons S 4 rfl).cons S 3 rfl).cons S 1 rfl, H.take [Cel b20 129 [(.slice (some ⟨b107, 0, none⟩) next.length next.length)], Cel b19 129 [.slice (some ⟨b103, 0, none⟩) (pairP olds next).2.length (pairP olds next).2.length], OSl 4 (.slice (some ⟨b103, 0, none⟩) (pairP olds next).2.length (pairP olds next).2.length) 1 encB (List.replicate (pairP olds next).2.length false), OSl 4 (.slice (some ⟨b107, 0, none⟩) next.length next.length) 1 encB (List.replicate next.length false), DefsA ds, Cel b16 129 [vs0], MapA b29 (fun n : Int => .int .i64 n) (fun n : Int => .int .i64 n) (ownM ((pairP olds next).1)) c, OSl 3 u34 1 encI (pairP olds next).2, Cel b3 41 [.slice none 0 0, .slice none 0 0], Atom.ro (Cel b17 111 [.func (.func 65) #[] #[.pointer (some ⟨b1, 0, none⟩), .pointer (some ⟨b16, 0, none⟩), .pointer (some ⟨b4, 0, none⟩), .pointer (some ⟨b17, 0, none⟩), .pointer (some ⟨b6, 0, none⟩)]]), Atom.ro (Cel b6 120 [.func (.func 62) #[] #[.pointer (some ⟨b4, 0, none⟩), .pointer (some ⟨b5, 0, none⟩)]]), Atom.ro (Cel b5 39 [u34]), Atom.ro (Cel b4 118 [.map (some b29)]), Atom.ro (Cel b1 99 [vt, vo, vn, ve]), RowsS 1 encI ps, Sl ve 1 encRow ps, Sl vn 9 Pl.enc next, Sl vo 9 Pl.enc olds, Sl vt 11 Ow.enc ts]⟩
       ·refine ⟨_, rfl, fun w H => ?_⟩
        refine op_store (wn rfl) rfl rfl S H rfl rfl (H.sl1 _) Fsiz129 rfl fun a w S H => ?_
        dsimp only [List.set, Nat.zero_add, Nat.reduceAdd] at H
        refine t_tail H rfl (rem' := [6, 10]) rfl ?_
        refine t_b1 6 (by kernel_rfl) rfl fun w H => ?_
        refine op_make (encB) (false) (wn rfl) rfl rfl rfl Try.underlying129 Finf4 rfl rfl S H rfl rfl rfl (by omega) (by omega) fun b107 a w S H => ?_
        refine t_n H (rem' := [10]) rfl ?_
        refine t_b1 10 (by kernel_rfl) rfl fun w H => ?_
        refine op_store (wn rfl) rfl rfl S H rfl rfl (H.sl1 _) Fsiz129 rfl fun a w S H => ?_
        dsimp only [List.set, Nat.zero_add, Nat.reduceAdd] at H
        refine t_tail H rfl (rem' := []) rfl ?_
        refine t_nil (fun w H => ?_)
        exact ⟨b103, b107, b19, b20, (((((S.nil.cons S 20 rfl).cons S 19 rfl).cons S 5 rfl).cons S 4 rfl).cons S 3 rfl).cons S 1 rfl, H.take [Cel b20 129 [(.slice (some ⟨b107, 0, none⟩) next.length next.length)], Cel b19 129 [.slice (some ⟨b103, 0, none⟩) (pairP olds next).2.length (pairP olds next).2.length], OSl 4 (.slice (some ⟨b103, 0, none⟩) (pairP olds next).2.length (pairP olds next).2.length) 1 encB (List.replicate (pairP olds next).2.length false), OSl 4 (.slice (some ⟨b107, 0, none⟩) next.length next.length) 1 encB (List.replicate next.length false), DefsA ds, Cel b16 129 [vs0], MapA b29 (fun n : Int => .int .i64 n) (fun n : Int => .int .i64 n) (ownM ((pairP olds next).1)) c, OSl 3 u34 1 encI (pairP olds next).2, Cel b3 41 [.slice none 0 0, .slice none 0 0], Atom.ro (Cel b17 111 [.func (.func 65) #[] #[.pointer (some ⟨b1, 0, none⟩), .pointer (some ⟨b16, 0, none⟩), .pointer (some ⟨b4, 0, none⟩), .pointer (some ⟨b17, 0, none⟩), .pointer (some ⟨b6, 0, none⟩)]]), Atom.ro (Cel b6 120 [.func (.func 62) #[] #[.pointer (some ⟨b4, 0, none⟩), .pointer (some ⟨b5, 0, none⟩)]]), Atom.ro (Cel b5 39 [u34]), Atom.ro (Cel b4 118 [.map (some b29)]), Atom.ro (Cel b1 99 [vt, vo, vn, ve]), RowsS 1 encI ps, Sl ve 1 encRow ps, Sl vn 9 Pl.enc next, Sl vo 9 Pl.enc olds, Sl vt 11 Ow.enc ts]⟩
      ·refine ⟨_, rfl, fun w H => ?_⟩
       refine op_make (encB) (false) (wn rfl) rfl rfl rfl Try.underlying129 Finf4 rfl rfl S H rfl rfl rfl (by omega) (by omega) fun b107 a w S H => ?_
       refine t_n H (rem' := [2, 9, 10]) rfl ?_
       refine t_b1 2 (by kernel_rfl) rfl fun w H => ?_
       refine op_make (encB) (false) (wn rfl) rfl rfl rfl Try.underlying129 Finf4 rfl rfl S H rfl rfl rfl (by rw [hpl]; omega) (by rw [hpl]; omega) fun b103 a w S H => ?_
       refine t_n H (rem' := [9, 10]) rfl ?_
       refine t_b1 9 (by kernel_rfl) rfl fun w H => ?_
       refine op_store (wn rfl) rfl rfl S H rfl rfl (H.sl1 _) Fsiz129 rfl fun a w S H => ?_
       dsimp only [List.set, Nat.zero_add, Nat.reduceAdd] at H
       refine t_tail H rfl (rem' := [10]) rfl ?_
       refine t_b1 10 (by kernel_rfl) rfl fun w H => ?_
       refine op_store (wn rfl) rfl rfl S H rfl rfl (H.sl1 _) Fsiz129 rfl fun a w S H => ?_
       dsimp only [List.set, Nat.zero_add, Nat.reduceAdd] at H
       refine t_tail H rfl (rem' := []) rfl ?_
       refine t_nil (fun w H => ?_)
       exact ⟨b103, b107, b19, b20, (((((S.nil.cons S 20 rfl).cons S 19 rfl).cons S 5 rfl).cons S 4 rfl).cons S 3 rfl).cons S 1 rfl, H.take [Cel b20 129 [(.slice (some ⟨b107, 0, none⟩) next.length next.length)], Cel b19 129 [.slice (some ⟨b103, 0, none⟩) (pairP olds next).2.length (pairP olds next).2.length], OSl 4 (.slice (some ⟨b103, 0, none⟩) (pairP olds next).2.length (pairP olds next).2.length) 1 encB (List.replicate (pairP olds next).2.length false), OSl 4 (.slice (some ⟨b107, 0, none⟩) next.length next.length) 1 encB (List.replicate next.length false), DefsA ds, Cel b16 129 [vs0], MapA b29 (fun n : Int => .int .i64 n) (fun n : Int => .int .i64 n) (ownM ((pairP olds next).1)) c, OSl 3 u34 1 encI (pairP olds next).2, Cel b3 41 [.slice none 0 0, .slice none 0 0], Atom.ro (Cel b17 111 [.func (.func 65) #[] #[.pointer (some ⟨b1, 0, none⟩), .pointer (some ⟨b16, 0, none⟩), .pointer (some ⟨b4, 0, none⟩), .pointer (some ⟨b17, 0, none⟩), .pointer (some ⟨b6, 0, none⟩)]]), Atom.ro (Cel b6 120 [.func (.func 62) #[] #[.pointer (some ⟨b4, 0, none⟩), .pointer (some ⟨b5, 0, none⟩)]]), Atom.ro (Cel b5 39 [u34]), Atom.ro (Cel b4 118 [.map (some b29)]), Atom.ro (Cel b1 99 [vt, vo, vn, ve]), RowsS 1 encI ps, Sl ve 1 encRow ps, Sl vn 9 Pl.enc next, Sl vo 9 Pl.enc olds, Sl vt 11 Ow.enc ts]⟩
   rintro a w ⟨b103, b107, b19, b20, S, H⟩
   rw [hpl] at H
   refine gsr ?_
   refine wl_of (op_alloc (wn rfl) rfl rfl rfl S H Fzer114 fun b21 a w S H => ?_)
   refine gnt ?_
   refine gsr ?_
   refine gy rfl rfl rfl S (y_makeFunc rfl S rfl rfl) fun a S => ?_
   refine wl_of (op_store (wn rfl) rfl rfl S H rfl rfl rfl Fsiz114 rfl fun a w S H => ?_)
   dsimp only [List.set, Nat.zero_add, Nat.reduceAdd] at H
   refine gnt ?_
   refine g_seq ?_
   refine gsr ?_
   refine gy rfl rfl rfl S (y_load rfl Fsca39 S H rfl rfl) fun a S => ?_
   refine gy rfl rfl rfl S (y_lens rfl Try.underlying39 S H rfl) fun a S => ?_
   rw [hpl] at S
   refine gm S fun a S => ?_
   refine gnt ?_
   refine g_block ?_
   have H := (H.front (Cel b19 129 [(.slice (some ⟨b103, 0, none⟩) olds.length olds.length)])).freeze
   have H := (H.front (Cel b20 129 [(.slice (some ⟨b107, 0, none⟩) next.length next.length)])).freeze
   have H := (H.front (Cel b21 114 [.func (.func 66) #[] #[.pointer (some ⟨b19, 0, none⟩), .pointer (some ⟨b1, 0, none⟩), .pointer (some ⟨b20, 0, none⟩), .pointer (some ⟨b4, 0, none⟩), .pointer (some ⟨b21, 0, none⟩)]])).freeze
   have H := (H.front (MapA b29 (fun n : Int => .int .i64 n) (fun n : Int => .int .i64 n) (ownM ((pairP olds next).1)) c)).freeze
   rw [← seenB_nil, ← seenB_nil, show seenB olds.length [] = seenB ps.length (rsK olds next 0).left by rw [hpl0]; rfl, show seenB next.length [] = seenB next.length (rsK olds next 0).reached from rfl] at H
   have SU := ((((((S.nil.cons S 20 rfl).cons S 19 rfl).cons S 5 rfl).cons S 3 rfl).cons S 21 rfl).cons S 109 rfl).cons S 110 rfl
   refine loopW (X := Nat) SU (fun k => [(111, .int .i64 (k : Int))]) (fun k w => k ≤ olds.length ∧ HSat No w0 [DefsA ds, OSl 4 (.slice (some ⟨b103, 0, none⟩) olds.length olds.length) 1 encB (seenB ps.length ((rsK olds next k).left)), OSl 4 (.slice (some ⟨b107, 0, none⟩) next.length next.length) 1 encB (seenB next.length ((rsK olds next k).reached)), Atom.ro (Cel b19 129 [(.slice (some ⟨b103, 0, none⟩) olds.length olds.length)]), Atom.ro (Cel b20 129 [(.slice (some ⟨b107, 0, none⟩) next.length next.length)]), Atom.ro (MapA b29 (fun n : Int => .int .i64 n) (fun n : Int => .int .i64 n) (ownM ((pairP olds next).1)) c), Atom.ro (Cel b4 118 [.map (some b29)]), Atom.ro (Cel b1 99 [vt, vo, vn, ve]), Atom.ro (Cel b21 114 [.func (.func 66) #[] #[.pointer (some ⟨b19, 0, none⟩), .pointer (some ⟨b1, 0, none⟩), .pointer (some ⟨b20, 0, none⟩), .pointer (some ⟨b4, 0, none⟩), .pointer (some ⟨b21, 0, none⟩)]]), RowsS 1 encI ps, Sl ve 1 encRow ps, OSl 3 u34 1 encI (pairP olds next).2, Cel b3 41 [.slice none 0 0, .slice none 0 0], Atom.ro (Cel b5 39 [u34]), Sl vn 9 Pl.enc next, Sl vo 9 Pl.enc olds, Sl vt 11 Ow.enc ts] w) (fun k => olds.length - k) 0 (S.nil.cons S 111 rfl) (⟨by omega, H.take [DefsA ds, OSl 4 (.slice (some ⟨b103, 0, none⟩) olds.length olds.length) 1 encB (seenB ps.length ((rsK olds next 0).left)), OSl 4 (.slice (some ⟨b107, 0, none⟩) next.length next.length) 1 encB (seenB next.length ((rsK olds next 0).reached)), Atom.ro (Cel b19 129 [(.slice (some ⟨b103, 0, none⟩) olds.length olds.length)]), Atom.ro (Cel b20 129 [(.slice (some ⟨b107, 0, none⟩) next.length next.length)]), Atom.ro (MapA b29 (fun n : Int => .int .i64 n) (fun n : Int => .int .i64 n) (ownM ((pairP olds next).1)) c), Atom.ro (Cel b4 118 [.map (some b29)]), Atom.ro (Cel b1 99 [vt, vo, vn, ve]), Atom.ro (Cel b21 114 [.func (.func 66) #[] #[.pointer (some ⟨b19, 0, none⟩), .pointer (some ⟨b1, 0, none⟩), .pointer (some ⟨b20, 0, none⟩), .pointer (some ⟨b4, 0, none⟩), .pointer (some ⟨b21, 0, none⟩)]]), RowsS 1 encI ps, Sl ve 1 encRow ps, OSl 3 u34 1 encI (pairP olds next).2, Cel b3 41 [.slice none 0 0, .slice none 0 0], Atom.ro (Cel b5 39 [u34]), Sl vn 9 Pl.enc next, Sl vo 9 Pl.enc olds, Sl vt 11 Ow.enc ts]⟩) (fun k a w S hW => ?_)
   simp only [List.cons_append, List.nil_append] at S
   clear H
   obtain ⟨hk, H⟩ := hW
   refine gsr ?_
   refine gy rfl rfl rfl S (y_bin rfl S rfl rfl rfl) fun a S => ?_
   refine gnt ?_
   refine g_seq ?_
   refine c_if S rfl (fun h6 => ?_) (fun h6 => ?_)
   ·have h6p := h6; try simp only [DL] at h6p
    have hatk := atI_eq (show k < (pairP olds next).2.length by omega)
    have hR := reach2All_inv hvg0 hown (got := (pairP olds next).2) k (by rw [edges_len]; omega)
    refine g_skip ?_
    refine n_then ?_
    refine g_seq ?_
    refine g_block ?_
    refine gsr ?_
    refine gm S fun a S => ?_
    refine gy rfl rfl rfl S (y_iaddrn rfl Try.underlying39 Fsiz3 S H rfl rfl (by first | assumption | omega | (rw [hpk]; omega) | (rw [hpl]; omega) | (rw [seenB_len]; omega))) fun a S => ?_
    refine gy rfl rfl rfl S (y_loads _ rfl Fsca3 S H rfl (by first | assumption | omega | (rw [hpk]; omega) | (rw [hpl]; omega) | (rw [seenB_len]; omega)) rfl) fun a S => ?_
    refine ga S fun a S => ?_
    refine ga S fun a S => ?_
    refine gnt ?_
    have S := (((((((((S.nil.cons S 20 rfl).cons S 19 rfl).cons S 5 rfl).cons S 3 rfl).cons S 21 rfl).cons S 109 rfl).cons S 110 rfl).cons S 111 rfl).cons S 22 rfl).cons S 23 rfl
    refine gsr ?_
    refine gm S fun a S => ?_
    refine gy rfl rfl rfl S (y_bin rfl S rfl rfl rfl) fun a S => ?_
    refine gnt ?_
    refine c_if S rfl (fun h7 => ?_) (fun h7 => ?_)
    ·have h7p := h7; try simp only [DL] at h7p
     have hneg : atI (pairP olds next).2 k < 0 := by rw [hatk]; exact h7p
     have stp := rsK_yes hneg
     refine g_region ?_
     refine gy rfl rfl rfl S (y_load rfl Fsca114 S H rfl rfl) fun a S => ?_
     refine gm S fun a S => ?_
     refine wl_of (op_call (wn rfl) rfl rfl S (co_value rfl Try.call66 S rfl rfl) (reach2_spec next.length (.slice (some ⟨b103, 0, none⟩) olds.length olds.length) (.slice (some ⟨b107, 0, none⟩) next.length next.length) vt vo vn ve ps (pairP olds next).1 b19 b1 b20 b4 b21 b29 c hvg hol (by rw [hps]; exact hown) ((edgesL olds next).length + 1) k (rsK olds next k) _ (by omega) (by rw [hps]; exact hR.wf) (by rw [hps]; omega) (H.pick [OSl 4 (.slice (some ⟨b103, 0, none⟩) olds.length olds.length) 1 encB (seenB ps.length ((rsK olds next k).left)), OSl 4 (.slice (some ⟨b107, 0, none⟩) next.length next.length) 1 encB (seenB next.length ((rsK olds next k).reached)), Atom.ro (Cel b19 129 [(.slice (some ⟨b103, 0, none⟩) olds.length olds.length)]), Atom.ro (Cel b20 129 [(.slice (some ⟨b107, 0, none⟩) next.length next.length)]), Atom.ro (MapA b29 (fun n : Int => .int .i64 n) (fun n : Int => .int .i64 n) (ownM ((pairP olds next).1)) c), Atom.ro (Cel b4 118 [.map (some b29)]), Atom.ro (Cel b1 99 [vt, vo, vn, ve]), Atom.ro (Cel b21 114 [.func (.func 66) #[] #[.pointer (some ⟨b19, 0, none⟩), .pointer (some ⟨b1, 0, none⟩), .pointer (some ⟨b20, 0, none⟩), .pointer (some ⟨b4, 0, none⟩), .pointer (some ⟨b21, 0, none⟩)]]), RowsS 1 encI ps, Sl ve 1 encRow ps])) fun v w hc a S => ?_)
     obtain ⟨rfl, H⟩ := hc
     simp only [List.append_eq, List.nil_append] at H
     rw [hps] at H
     refine gl_nil ?_
     refine n_block ?_
     refine n_then ?_
     have S := (((((((S.nil.cons S 20 rfl).cons S 19 rfl).cons S 5 rfl).cons S 3 rfl).cons S 21 rfl).cons S 109 rfl).cons S 110 rfl).cons S 111 rfl
     refine g_region ?_
     refine gy rfl rfl rfl S (y_add rfl S rfl rfl (by omega)) fun a S => ?_
     refine gm S fun a S => ?_
     refine gnt ?_
     first
     | exact ⟨k + 1, S.nil.cons S 111 rfl, ((((((S.nil.cons S 20 rfl).cons S 19 rfl).cons S 5 rfl).cons S 3 rfl).cons S 21 rfl).cons S 109 rfl).cons S 110 rfl, ⟨by omega, by rw [stp]; exact H⟩, by omega⟩
     | exact ⟨k + 1, S.nil.cons S 111 rfl, ((((((S.nil.cons S 20 rfl).cons S 19 rfl).cons S 5 rfl).cons S 3 rfl).cons S 21 rfl).cons S 109 rfl).cons S 110 rfl, ⟨by omega, by rw [stp]; exact H.take [DefsA ds, OSl 4 (.slice (some ⟨b103, 0, none⟩) olds.length olds.length) 1 encB (seenB ps.length ((reach2 (edgesL olds next) (pairP olds next).1 ((edgesL olds next).length + 1) k (rsK olds next k)).left)), OSl 4 (.slice (some ⟨b107, 0, none⟩) next.length next.length) 1 encB (seenB next.length ((reach2 (edgesL olds next) (pairP olds next).1 ((edgesL olds next).length + 1) k (rsK olds next k)).reached)), Atom.ro (Cel b19 129 [(.slice (some ⟨b103, 0, none⟩) olds.length olds.length)]), Atom.ro (Cel b20 129 [(.slice (some ⟨b107, 0, none⟩) next.length next.length)]), Atom.ro (MapA b29 (fun n : Int => .int .i64 n) (fun n : Int => .int .i64 n) (ownM ((pairP olds next).1)) c), Atom.ro (Cel b4 118 [.map (some b29)]), Atom.ro (Cel b1 99 [vt, vo, vn, ve]), Atom.ro (Cel b21 114 [.func (.func 66) #[] #[.pointer (some ⟨b19, 0, none⟩), .pointer (some ⟨b1, 0, none⟩), .pointer (some ⟨b20, 0, none⟩), .pointer (some ⟨b4, 0, none⟩), .pointer (some ⟨b21, 0, none⟩)]]), RowsS 1 encI ps, Sl ve 1 encRow ps, OSl 3 u34 1 encI (pairP olds next).2, Cel b3 41 [.slice none 0 0, .slice none 0 0], Atom.ro (Cel b5 39 [u34]), Sl vn 9 Pl.enc next, Sl vo 9 Pl.enc olds, Sl vt 11 Ow.enc ts]⟩, by omega⟩
    ·have h7p := h7; try simp only [DL] at h7p
     have hneg : ¬ atI (pairP olds next).2 k < 0 := by rw [hatk]; have := h7p; omega
     have stp := rsK_no hneg
     refine g_skip ?_
     refine n_block ?_
     refine n_then ?_
     have S := (((((((S.nil.cons S 20 rfl).cons S 19 rfl).cons S 5 rfl).cons S 3 rfl).cons S 21 rfl).cons S 109 rfl).cons S 110 rfl).cons S 111 rfl
     refine g_region ?_
     refine gy rfl rfl rfl S (y_add rfl S rfl rfl (by omega)) fun a S => ?_
     refine gm S fun a S => ?_
     refine gnt ?_
     first
     | exact ⟨k + 1, S.nil.cons S 111 rfl, ((((((S.nil.cons S 20 rfl).cons S 19 rfl).cons S 5 rfl).cons S 3 rfl).cons S 21 rfl).cons S 109 rfl).cons S 110 rfl, ⟨by omega, by rw [stp]; exact H⟩, by omega⟩
     | exact ⟨k + 1, S.nil.cons S 111 rfl, ((((((S.nil.cons S 20 rfl).cons S 19 rfl).cons S 5 rfl).cons S 3 rfl).cons S 21 rfl).cons S 109 rfl).cons S 110 rfl, ⟨by omega, by rw [stp]; exact H.take [DefsA ds, OSl 4 (.slice (some ⟨b103, 0, none⟩) olds.length olds.length) 1 encB (seenB ps.length ((reach2 (edgesL olds next) (pairP olds next).1 ((edgesL olds next).length + 1) k (rsK olds next k)).left)), OSl 4 (.slice (some ⟨b107, 0, none⟩) next.length next.length) 1 encB (seenB next.length ((reach2 (edgesL olds next) (pairP olds next).1 ((edgesL olds next).length + 1) k (rsK olds next k)).reached)), Atom.ro (Cel b19 129 [(.slice (some ⟨b103, 0, none⟩) olds.length olds.length)]), Atom.ro (Cel b20 129 [(.slice (some ⟨b107, 0, none⟩) next.length next.length)]), Atom.ro (MapA b29 (fun n : Int => .int .i64 n) (fun n : Int => .int .i64 n) (ownM ((pairP olds next).1)) c), Atom.ro (Cel b4 118 [.map (some b29)]), Atom.ro (Cel b1 99 [vt, vo, vn, ve]), Atom.ro (Cel b21 114 [.func (.func 66) #[] #[.pointer (some ⟨b19, 0, none⟩), .pointer (some ⟨b1, 0, none⟩), .pointer (some ⟨b20, 0, none⟩), .pointer (some ⟨b4, 0, none⟩), .pointer (some ⟨b21, 0, none⟩)]]), RowsS 1 encI ps, Sl ve 1 encRow ps, OSl 3 u34 1 encI (pairP olds next).2, Cel b3 41 [.slice none 0 0, .slice none 0 0], Atom.ro (Cel b5 39 [u34]), Sl vn 9 Pl.enc next, Sl vo 9 Pl.enc olds, Sl vt 11 Ow.enc ts]⟩, by omega⟩
   ·have h6p := h6; try simp only [DL] at h6p
    obtain rfl : k = olds.length := by omega
    rw [show rsK olds next olds.length = rsP olds next from rfl] at H
    refine g_exit ?_
    refine x_then (x_then (x_eq ?_))
    refine n_then ?_
    have S := (((S.nil.cons S 20 rfl).cons S 19 rfl).cons S 5 rfl).cons S 3 rfl
    refine gsr ?_
    refine wl_of (op_alloc (wn rfl) rfl rfl rfl S H Fzer41 fun b24 a w S H => ?_)
    refine gnt ?_
    refine g_seq ?_
    refine gsr ?_
    refine gy rfl rfl rfl S (y_load rfl Fsca129 S H rfl rfl) fun a S => ?_
    refine gy rfl rfl rfl S (y_lens rfl Try.underlying129 S H rfl) fun a S => ?_
    rw [seenB_len, hpl0] at S
    refine gm S fun a S => ?_
    refine gnt ?_
    refine g_block ?_
    have H := H.nilO 3 1 encI
    have SU := (((((S.nil.cons S 20 rfl).cons S 5 rfl).cons S 3 rfl).cons S 24 rfl).cons S 122 rfl).cons S 123 rfl
    refine loopW (X := Nat) SU (fun k => [(124, .int .i64 (k : Int))]) (fun k w => k ≤ olds.length ∧ ∃ vl, HSat No w0 [DefsA ds, Cel b24 41 [vl, .slice none 0 0], OSl 3 (vl) 1 encI (coverLeft (edgesL olds next) (rsP olds next) k), OSl 4 (.slice (some ⟨b103, 0, none⟩) olds.length olds.length) 1 encB (seenB ps.length (rsP olds next).left), OSl 4 (.slice (some ⟨b107, 0, none⟩) next.length next.length) 1 encB (seenB next.length (rsP olds next).reached), Atom.ro (Cel b19 129 [(.slice (some ⟨b103, 0, none⟩) olds.length olds.length)]), Atom.ro (Cel b20 129 [(.slice (some ⟨b107, 0, none⟩) next.length next.length)]), OSl 3 u34 1 encI (pairP olds next).2, Cel b3 41 [.slice none 0 0, .slice none 0 0], Atom.ro (Cel b5 39 [u34]), RowsS 1 encI ps, Sl ve 1 encRow ps, Sl vn 9 Pl.enc next, Sl vo 9 Pl.enc olds, Sl vt 11 Ow.enc ts] w) (fun k => olds.length - k) 0 (S.nil.cons S 124 rfl) (⟨by omega, .slice none 0 0, H.take [DefsA ds, Cel b24 41 [.slice none 0 0, .slice none 0 0], OSl 3 (.slice none 0 0) 1 encI ([]), OSl 4 (.slice (some ⟨b103, 0, none⟩) olds.length olds.length) 1 encB (seenB ps.length (rsP olds next).left), OSl 4 (.slice (some ⟨b107, 0, none⟩) next.length next.length) 1 encB (seenB next.length (rsP olds next).reached), Atom.ro (Cel b19 129 [(.slice (some ⟨b103, 0, none⟩) olds.length olds.length)]), Atom.ro (Cel b20 129 [(.slice (some ⟨b107, 0, none⟩) next.length next.length)]), OSl 3 u34 1 encI (pairP olds next).2, Cel b3 41 [.slice none 0 0, .slice none 0 0], Atom.ro (Cel b5 39 [u34]), RowsS 1 encI ps, Sl ve 1 encRow ps, Sl vn 9 Pl.enc next, Sl vo 9 Pl.enc olds, Sl vt 11 Ow.enc ts]⟩) (fun k a w S hW => ?_)
    simp only [List.cons_append, List.nil_append] at S
    clear H
    obtain ⟨hk, vl, H⟩ := hW
    have hcl := coverLeft_len (edgesL olds next) (rsP olds next) k
    refine gsr ?_
    refine gy rfl rfl rfl S (y_bin rfl S rfl rfl rfl) fun a S => ?_
    refine gnt ?_
    refine g_seq ?_
    refine c_if S rfl (fun h8 => ?_) (fun h8 => ?_)
    ·have h8p := h8; try simp only [DL] at h8p
     refine g_skip ?_
     refine n_then ?_
     refine g_seq ?_
     refine g_block ?_
     refine gsr ?_
     refine gm S fun a S => ?_
     refine gy rfl rfl rfl S (y_iaddrn rfl Try.underlying129 Fsiz4 S H rfl rfl (by first | assumption | omega | (rw [hpk]; omega) | (rw [hpl]; omega) | (rw [seenB_len]; omega))) fun a S => ?_
     refine gy rfl rfl rfl S (y_loads _ rfl Fsca4 S H rfl (by first | assumption | omega | (rw [hpk]; omega) | (rw [hpl]; omega) | (rw [seenB_len]; omega)) rfl) fun a S => ?_
     refine ga S fun a S => ?_
     refine ga S fun a S => ?_
     refine gnt ?_
     have S := ((((((((S.nil.cons S 20 rfl).cons S 5 rfl).cons S 3 rfl).cons S 24 rfl).cons S 122 rfl).cons S 123 rfl).cons S 124 rfl).cons S 25 rfl).cons S 26 rfl
     refine gsr ?_
     refine gm S fun a S => ?_
     refine gy rfl rfl rfl S (y_not rfl S rfl) fun a S => ?_
     refine gnt ?_
     refine c_if S rfl (fun h9 => ?_) (fun h9 => ?_)
     ·have h9p := h9; try simp only [DL] at h9p
      have hx : (k : Int) ∉ (rsP olds next).left := by have := h9; rw [seenB_get] at this; simpa using this
      refine g_region ?_
      refine gy rfl rfl rfl S (y_faddrb rfl Ffo41_0 S rfl) fun a S => ?_
      refine gy rfl rfl rfl S (y_load rfl Fsca39 S H rfl rfl) fun a S => ?_
      refine gm S fun a S => ?_
      refine wl_of (op_buildSlice (wn rfl) rfl rfl rfl Try.underlying39 Finf3 S H (idx := [0]) rfl rfl rfl (z := [.int .i64 0]) (by kernel_rfl) (cs := [_]) rfl fun b134 a w S H => ?_)
      refine wl_of (op_append ([(k : Int)]) (wn rfl) rfl rfl rfl Try.underlying39 Finf3 rfl rfl S H rfl rfl rfl rfl (by simp) (by simp [encI]) (by simp [encI, Value.oneCell']) (by simp only [List.length_cons, List.length_nil]; omega) (by simp only [List.length_cons, List.length_nil]; omega) fun u135 a w hn135 S H => ?_)
      refine gy rfl rfl rfl S (y_faddrb rfl Ffo41_0 S rfl) fun a S => ?_
      refine wl_of (op_store (wn rfl) rfl rfl S H rfl rfl (H.sl1 _) Fsiz39 rfl fun a w S H => ?_)
      dsimp only [List.set, Nat.zero_add, Nat.reduceAdd] at H
      refine gl_nil ?_
      refine n_block ?_
      refine n_then ?_
      have S := ((((((S.nil.cons S 20 rfl).cons S 5 rfl).cons S 3 rfl).cons S 24 rfl).cons S 122 rfl).cons S 123 rfl).cons S 124 rfl
      refine g_region ?_
      refine gy rfl rfl rfl S (y_add rfl S rfl rfl (by omega)) fun a S => ?_
      refine gm S fun a S => ?_
      refine gnt ?_
      first
      | exact ⟨k + 1, S.nil.cons S 124 rfl, (((((S.nil.cons S 20 rfl).cons S 5 rfl).cons S 3 rfl).cons S 24 rfl).cons S 122 rfl).cons S 123 rfl, ⟨by omega, vl, by rw [coverLeft, if_pos hx]; exact H⟩, by omega⟩
      | exact ⟨k + 1, S.nil.cons S 124 rfl, (((((S.nil.cons S 20 rfl).cons S 5 rfl).cons S 3 rfl).cons S 24 rfl).cons S 122 rfl).cons S 123 rfl, ⟨by omega, u135, by rw [coverLeft, if_neg hx]; exact H.take [DefsA ds, Cel b24 41 [u135, .slice none 0 0], OSl 3 u135 1 encI (coverLeft (edgesL olds next) (rsP olds next) k ++ [(k : Int)]), OSl 4 (.slice (some ⟨b103, 0, none⟩) olds.length olds.length) 1 encB (seenB ps.length (rsP olds next).left), OSl 4 (.slice (some ⟨b107, 0, none⟩) next.length next.length) 1 encB (seenB next.length (rsP olds next).reached), Atom.ro (Cel b19 129 [(.slice (some ⟨b103, 0, none⟩) olds.length olds.length)]), Atom.ro (Cel b20 129 [(.slice (some ⟨b107, 0, none⟩) next.length next.length)]), OSl 3 u34 1 encI (pairP olds next).2, Cel b3 41 [.slice none 0 0, .slice none 0 0], Atom.ro (Cel b5 39 [u34]), RowsS 1 encI ps, Sl ve 1 encRow ps, Sl vn 9 Pl.enc next, Sl vo 9 Pl.enc olds, Sl vt 11 Ow.enc ts]⟩, by omega⟩
     ·have h9p := h9; try simp only [DL] at h9p
      have hx : (k : Int) ∈ (rsP olds next).left := by have := h9; rw [seenB_get] at this; simpa using this
      refine g_skip ?_
      refine n_block ?_
      refine n_then ?_
      have S := ((((((S.nil.cons S 20 rfl).cons S 5 rfl).cons S 3 rfl).cons S 24 rfl).cons S 122 rfl).cons S 123 rfl).cons S 124 rfl
      refine g_region ?_
      refine gy rfl rfl rfl S (y_add rfl S rfl rfl (by omega)) fun a S => ?_
      refine gm S fun a S => ?_
      refine gnt ?_
      first
      | exact ⟨k + 1, S.nil.cons S 124 rfl, (((((S.nil.cons S 20 rfl).cons S 5 rfl).cons S 3 rfl).cons S 24 rfl).cons S 122 rfl).cons S 123 rfl, ⟨by omega, vl, by rw [coverLeft, if_pos hx]; exact H⟩, by omega⟩
      | exact ⟨k + 1, S.nil.cons S 124 rfl, (((((S.nil.cons S 20 rfl).cons S 5 rfl).cons S 3 rfl).cons S 24 rfl).cons S 122 rfl).cons S 123 rfl, ⟨by omega, u135, by rw [coverLeft, if_neg hx]; exact H.take [DefsA ds, Cel b24 41 [u135, .slice none 0 0], OSl 3 u135 1 encI (coverLeft (edgesL olds next) (rsP olds next) k ++ [(k : Int)]), OSl 4 (.slice (some ⟨b103, 0, none⟩) olds.length olds.length) 1 encB (seenB ps.length (rsP olds next).left), OSl 4 (.slice (some ⟨b107, 0, none⟩) next.length next.length) 1 encB (seenB next.length (rsP olds next).reached), Atom.ro (Cel b19 129 [(.slice (some ⟨b103, 0, none⟩) olds.length olds.length)]), Atom.ro (Cel b20 129 [(.slice (some ⟨b107, 0, none⟩) next.length next.length)]), OSl 3 u34 1 encI (pairP olds next).2, Cel b3 41 [.slice none 0 0, .slice none 0 0], Atom.ro (Cel b5 39 [u34]), RowsS 1 encI ps, Sl ve 1 encRow ps, Sl vn 9 Pl.enc next, Sl vo 9 Pl.enc olds, Sl vt 11 Ow.enc ts]⟩, by omega⟩
    ·have h8p := h8; try simp only [DL] at h8p
     obtain rfl : k = olds.length := by omega
     rw [show coverLeft (edgesL olds next) (rsP olds next) olds.length = clL olds next from rfl] at H
     refine g_exit ?_
     refine x_then (x_then (x_eq ?_))
     refine n_then ?_
     have S := (((S.nil.cons S 20 rfl).cons S 5 rfl).cons S 3 rfl).cons S 24 rfl
     refine g_seq ?_
     refine gsr ?_
     refine gy rfl rfl rfl S (y_load rfl Fsca129 S H rfl rfl) fun a S => ?_
     refine gy rfl rfl rfl S (y_lens rfl Try.underlying129 S H rfl) fun a S => ?_
     rw [seenB_len] at S
     refine gm S fun a S => ?_
     refine gnt ?_
     refine g_block ?_
     have H := H.nilO 3 1 encI
     have SU := ((((S.nil.cons S 5 rfl).cons S 3 rfl).cons S 24 rfl).cons S 138 rfl).cons S 139 rfl
     refine loopW (X := Nat) SU (fun k => [(140, .int .i64 (k : Int))]) (fun k w => k ≤ next.length ∧ ∃ vr, HSat No w0 [DefsA ds, Cel b24 41 [vl, vr], OSl 3 (vr) 1 encI (coverRight (rsP olds next) k), OSl 3 vl 1 encI (clL olds next), OSl 4 (.slice (some ⟨b103, 0, none⟩) olds.length olds.length) 1 encB (seenB ps.length (rsP olds next).left), OSl 4 (.slice (some ⟨b107, 0, none⟩) next.length next.length) 1 encB (seenB next.length (rsP olds next).reached), Atom.ro (Cel b19 129 [(.slice (some ⟨b103, 0, none⟩) olds.length olds.length)]), Atom.ro (Cel b20 129 [(.slice (some ⟨b107, 0, none⟩) next.length next.length)]), OSl 3 u34 1 encI (pairP olds next).2, Cel b3 41 [.slice none 0 0, .slice none 0 0], Atom.ro (Cel b5 39 [u34]), RowsS 1 encI ps, Sl ve 1 encRow ps, Sl vn 9 Pl.enc next, Sl vo 9 Pl.enc olds, Sl vt 11 Ow.enc ts] w) (fun k => next.length - k) 0 (S.nil.cons S 140 rfl) (⟨by omega, .slice none 0 0, H.take [DefsA ds, Cel b24 41 [vl, .slice none 0 0], OSl 3 (.slice none 0 0) 1 encI ([]), OSl 3 vl 1 encI (clL olds next), OSl 4 (.slice (some ⟨b103, 0, none⟩) olds.length olds.length) 1 encB (seenB ps.length (rsP olds next).left), OSl 4 (.slice (some ⟨b107, 0, none⟩) next.length next.length) 1 encB (seenB next.length (rsP olds next).reached), Atom.ro (Cel b19 129 [(.slice (some ⟨b103, 0, none⟩) olds.length olds.length)]), Atom.ro (Cel b20 129 [(.slice (some ⟨b107, 0, none⟩) next.length next.length)]), OSl 3 u34 1 encI (pairP olds next).2, Cel b3 41 [.slice none 0 0, .slice none 0 0], Atom.ro (Cel b5 39 [u34]), RowsS 1 encI ps, Sl ve 1 encRow ps, Sl vn 9 Pl.enc next, Sl vo 9 Pl.enc olds, Sl vt 11 Ow.enc ts]⟩) (fun k a w S hW => ?_)
     simp only [List.cons_append, List.nil_append] at S
     clear H
     obtain ⟨hk, vr, H⟩ := hW
     have hcr := coverRight_len (rsP olds next) k
     refine gsr ?_
     refine gy rfl rfl rfl S (y_bin rfl S rfl rfl rfl) fun a S => ?_
     refine gnt ?_
     refine g_seq ?_
     refine c_if S rfl (fun h10 => ?_) (fun h10 => ?_)
     ·have h10p := h10; try simp only [DL] at h10p
      refine g_skip ?_
      refine n_then ?_
      refine g_seq ?_
      refine g_block ?_
      refine gsr ?_
      refine gm S fun a S => ?_
      refine gy rfl rfl rfl S (y_iaddrn rfl Try.underlying129 Fsiz4 S H rfl rfl (by first | assumption | omega | (rw [hpk]; omega) | (rw [hpl]; omega) | (rw [seenB_len]; omega))) fun a S => ?_
      refine gy rfl rfl rfl S (y_loads _ rfl Fsca4 S H rfl (by first | assumption | omega | (rw [hpk]; omega) | (rw [hpl]; omega) | (rw [seenB_len]; omega)) rfl) fun a S => ?_
      refine ga S fun a S => ?_
      refine ga S fun a S => ?_
      refine gnt ?_
      have S := (((((((S.nil.cons S 5 rfl).cons S 3 rfl).cons S 24 rfl).cons S 138 rfl).cons S 139 rfl).cons S 140 rfl).cons S 27 rfl).cons S 28 rfl
      refine gsr ?_
      refine gm S fun a S => ?_
      refine gnt ?_
      refine c_if S rfl (fun h11 => ?_) (fun h11 => ?_)
      ·have h11p := h11; try simp only [DL] at h11p
       have hx : (k : Int) ∈ (rsP olds next).reached := by have := h11; rw [seenB_get] at this; simpa using this
       refine g_region ?_
       refine gy rfl rfl rfl S (y_faddrb rfl Ffo41_1 S rfl) fun a S => ?_
       refine gy rfl rfl rfl S (y_load rfl Fsca39 S H rfl rfl) fun a S => ?_
       refine gm S fun a S => ?_
       refine wl_of (op_buildSlice (wn rfl) rfl rfl rfl Try.underlying39 Finf3 S H (idx := [0]) rfl rfl rfl (z := [.int .i64 0]) (by kernel_rfl) (cs := [_]) rfl fun b149 a w S H => ?_)
       refine wl_of (op_append ([(k : Int)]) (wn rfl) rfl rfl rfl Try.underlying39 Finf3 rfl rfl S H rfl rfl rfl rfl (by simp) (by simp [encI]) (by simp [encI, Value.oneCell']) (by simp only [List.length_cons, List.length_nil]; omega) (by simp only [List.length_cons, List.length_nil]; omega) fun u150 a w hn150 S H => ?_)
       refine gy rfl rfl rfl S (y_faddrb rfl Ffo41_1 S rfl) fun a S => ?_
       refine wl_of (op_store (wn rfl) rfl rfl S H rfl rfl (H.sl1 _) Fsiz39 rfl fun a w S H => ?_)
       dsimp only [List.set, Nat.zero_add, Nat.reduceAdd] at H
       refine gl_nil ?_
       refine n_block ?_
       refine n_then ?_
       have S := (((((S.nil.cons S 5 rfl).cons S 3 rfl).cons S 24 rfl).cons S 138 rfl).cons S 139 rfl).cons S 140 rfl
       refine g_region ?_
       refine gy rfl rfl rfl S (y_add rfl S rfl rfl (by omega)) fun a S => ?_
       refine gm S fun a S => ?_
       refine gnt ?_
       first
       | exact ⟨k + 1, S.nil.cons S 140 rfl, ((((S.nil.cons S 5 rfl).cons S 3 rfl).cons S 24 rfl).cons S 138 rfl).cons S 139 rfl, ⟨by omega, vr, by rw [coverRight, if_neg hx]; exact H⟩, by omega⟩
       | exact ⟨k + 1, S.nil.cons S 140 rfl, ((((S.nil.cons S 5 rfl).cons S 3 rfl).cons S 24 rfl).cons S 138 rfl).cons S 139 rfl, ⟨by omega, u150, by rw [coverRight, if_pos hx]; exact H.take [DefsA ds, Cel b24 41 [vl, u150], OSl 3 u150 1 encI (coverRight (rsP olds next) k ++ [(k : Int)]), OSl 3 vl 1 encI (clL olds next), OSl 4 (.slice (some ⟨b103, 0, none⟩) olds.length olds.length) 1 encB (seenB ps.length (rsP olds next).left), OSl 4 (.slice (some ⟨b107, 0, none⟩) next.length next.length) 1 encB (seenB next.length (rsP olds next).reached), Atom.ro (Cel b19 129 [(.slice (some ⟨b103, 0, none⟩) olds.length olds.length)]), Atom.ro (Cel b20 129 [(.slice (some ⟨b107, 0, none⟩) next.length next.length)]), OSl 3 u34 1 encI (pairP olds next).2, Cel b3 41 [.slice none 0 0, .slice none 0 0], Atom.ro (Cel b5 39 [u34]), RowsS 1 encI ps, Sl ve 1 encRow ps, Sl vn 9 Pl.enc next, Sl vo 9 Pl.enc olds, Sl vt 11 Ow.enc ts]⟩, by omega⟩
      ·have h11p := h11; try simp only [DL] at h11p
       have hx : (k : Int) ∉ (rsP olds next).reached := by have := h11; rw [seenB_get] at this; simpa using this
       refine g_skip ?_
       refine n_block ?_
       refine n_then ?_
       refine g_region ?_
       refine gy rfl rfl rfl S (y_add rfl S rfl rfl (by omega)) fun a S => ?_
       refine gm S fun a S => ?_
       refine gnt ?_
       first
       | exact ⟨k + 1, S.nil.cons S 140 rfl, ((((S.nil.cons S 5 rfl).cons S 3 rfl).cons S 24 rfl).cons S 138 rfl).cons S 139 rfl, ⟨by omega, vr, by rw [coverRight, if_neg hx]; exact H⟩, by omega⟩
       | exact ⟨k + 1, S.nil.cons S 140 rfl, ((((S.nil.cons S 5 rfl).cons S 3 rfl).cons S 24 rfl).cons S 138 rfl).cons S 139 rfl, ⟨by omega, u150, by rw [coverRight, if_pos hx]; exact H.take [DefsA ds, Cel b24 41 [vl, u150], OSl 3 u150 1 encI (coverRight (rsP olds next) k ++ [(k : Int)]), OSl 3 vl 1 encI (clL olds next), OSl 4 (.slice (some ⟨b103, 0, none⟩) olds.length olds.length) 1 encB (seenB ps.length (rsP olds next).left), OSl 4 (.slice (some ⟨b107, 0, none⟩) next.length next.length) 1 encB (seenB next.length (rsP olds next).reached), Atom.ro (Cel b19 129 [(.slice (some ⟨b103, 0, none⟩) olds.length olds.length)]), Atom.ro (Cel b20 129 [(.slice (some ⟨b107, 0, none⟩) next.length next.length)]), OSl 3 u34 1 encI (pairP olds next).2, Cel b3 41 [.slice none 0 0, .slice none 0 0], Atom.ro (Cel b5 39 [u34]), RowsS 1 encI ps, Sl ve 1 encRow ps, Sl vn 9 Pl.enc next, Sl vo 9 Pl.enc olds, Sl vt 11 Ow.enc ts]⟩, by omega⟩
     ·have h10p := h10; try simp only [DL] at h10p
      obtain rfl : k = next.length := by omega
      rw [show coverRight (rsP olds next) next.length = crL olds next from rfl] at H
      refine g_exit ?_
      refine x_then (x_then (x_eq ?_))
      refine n_then ?_
      have S := ((S.nil.cons S 5 rfl).cons S 3 rfl).cons S 24 rfl
      refine g_seq ?_
      refine region_st (loud := [3]) (tails := [3]) (free := []) [0, 1, 2, 3] [] Fmo (by kernel_rfl) (by kernel_rfl) rfl H ?_
      refine m_w rfl rfl (wn rfl) rfl rfl S (fun w H => y_load rfl Fsca39 S H rfl rfl) fun a S => ?_
      refine m_w rfl rfl (wn rfl) rfl rfl S (fun w H => y_load0 rfl S H rfl (by exact Fagg41)) fun a S => ?_
      refine m_w rfl rfl (wn rfl) rfl rfl S (fun w H => y_assign rfl S rfl) fun a S => ?_
      refine m_l rfl rfl (fun w H => op_storea (wn rfl) rfl rfl S H rfl rfl (by rw [List.all_cons, List.all_cons, H.sl1 vl, H.sl1 vr]; rfl) Fsiz41 rfl (cs' := [_, _]) rfl fun a w S H => m_tail H rfl ?_)
      refine m_nil (fun w H => ?_)
      refine n_then ?_
      have S := (S.nil.cons S 3 rfl).cons S 2 rfl
      refine g_ret ?_
      refine ret2tcM rfl S H rfl rfl (by exact Fagg41) (fun w H => ?_)
      exact ⟨u34, vl, vr, rfl, H.take [OSl 3 u34 1 encI (pairP olds next).2, OSl 3 vl 1 encI (clL olds next), OSl 3 vr 1 encI (crL olds next)]⟩
end Go.Proofs.Ytnnendajegdnhaa
