/- The walks. No condition. -/
import Derived.Test.YtbjknckddoegfaaChecked
import Derived.Test.YtbjknckddoegfaaGwFam
import Derived.Test.YtbjknckddoegfaaFacts
import Derived.Test.YtbjknckddoegfaaPlainM
namespace Go.Proofs.Ytbjknckddoegfaa
open Go Go.Gw
set_option linter.unusedVariables false
set_option linter.unusedSimpArgs false
theorem hm_ask (v : Value) (w : World) : (method (Try.prog.types.size + Made.depth) 81 v "foyer/replica.about").run Try.prog w = .ok (60, v) w := by kernel_rfl
theorem hm_vote (v : Value) (w : World) : (method (Try.prog.types.size + Made.depth) 91 v "foyer/replica.about").run Try.prog w = .ok (61, v) w := by kernel_rfl
theorem hm_share (v : Value) (w : World) : (method (Try.prog.types.size + Made.depth) 93 v "foyer/replica.about").run Try.prog w = .ok (62, v) w := by kernel_rfl
theorem hm_ack (v : Value) (w : World) : (method (Try.prog.types.size + Made.depth) 95 v "foyer/replica.about").run Try.prog w = .ok (63, v) w := by kernel_rfl
/-- (foyer/replica.ask).about -/
theorem about_ask (t l n : Int) (w0 : World) :
    Ret Try.prog 60 #[.agg [.int .i64 t, .int .i64 l, .int .i64 n].toArray] w0 (fun u w => u = .int .i64 t ∧ Ext w0 w) := by
 refine ret_of_wp (nt := 5) Try.func60 rfl rfl rfl (fl := [(0, .agg [.int .i64 t, .int .i64 l, .int .i64 n].toArray)]) rfl (fun a S => ?_)
 have H := HSat.start w0
 refine gsr ?_
 refine wl_of (op_boxa (wn rfl) rfl rfl rfl S H rfl fun b1 a w S H => ?_)
 refine ga S fun a S => ?_
 refine gnt ?_
 refine gsr ?_
 refine gy rfl rfl rfl S (y_faddrb rfl Ffo81_0 S rfl) fun a S => ?_
 refine gy rfl rfl rfl S (y_load rfl Fsca3 S H rfl rfl) fun a S => ?_
 refine ga S fun a S => ?_
 refine gnt ?_
 have S := S.nil.cons S 2 rfl
 refine g_ret ?_
 refine ret1 rfl S rfl ?_
 exact ⟨rfl, H.toExt⟩
/-- (foyer/replica.vote).about -/
theorem about_vote (t : Int) (g : Bool) (w0 : World) :
    Ret Try.prog 61 #[.agg [.int .i64 t, .bool g].toArray] w0 (fun u w => u = .int .i64 t ∧ Ext w0 w) := by
 refine ret_of_wp (nt := 5) Try.func61 rfl rfl rfl (fl := [(0, .agg [.int .i64 t, .bool g].toArray)]) rfl (fun a S => ?_)
 have H := HSat.start w0
 refine gsr ?_
 refine wl_of (op_boxa (wn rfl) rfl rfl rfl S H rfl fun b1 a w S H => ?_)
 refine ga S fun a S => ?_
 refine gnt ?_
 refine gsr ?_
 refine gy rfl rfl rfl S (y_faddrb rfl Ffo91_0 S rfl) fun a S => ?_
 refine gy rfl rfl rfl S (y_load rfl Fsca3 S H rfl rfl) fun a S => ?_
 refine ga S fun a S => ?_
 refine gnt ?_
 have S := S.nil.cons S 2 rfl
 refine g_ret ?_
 refine ret1 rfl S rfl ?_
 exact ⟨rfl, H.toExt⟩
/-- (foyer/replica.share).about -/
theorem about_share (t d : Int) (v : Value) (w0 : World) (hv : v.oneCell' = true) :
    Ret Try.prog 62 #[.agg [.int .i64 t, v, .int .i64 d].toArray] w0 (fun u w => u = .int .i64 t ∧ Ext w0 w) := by
 refine ret_of_wp (nt := 5) Try.func62 rfl rfl rfl (fl := [(0, .agg [.int .i64 t, v, .int .i64 d].toArray)]) rfl (fun a S => ?_)
 have H := HSat.start w0
 refine gsr ?_
 refine wl_of (op_boxa (wn rfl) rfl rfl rfl S H rfl fun b1 a w S H => ?_)
 refine ga S fun a S => ?_
 refine gnt ?_
 refine gsr ?_
 refine gy rfl rfl rfl S (y_faddrb rfl Ffo93_0 S rfl) fun a S => ?_
 refine gy rfl rfl rfl S (y_load rfl Fsca3 S H rfl rfl) fun a S => ?_
 refine ga S fun a S => ?_
 refine gnt ?_
 have S := S.nil.cons S 2 rfl
 refine g_ret ?_
 refine ret1 rfl S rfl ?_
 exact ⟨rfl, H.toExt⟩
/-- (foyer/replica.ack).about -/
theorem about_ack (t n : Int) (w0 : World) :
    Ret Try.prog 63 #[.agg [.int .i64 t, .int .i64 n].toArray] w0 (fun u w => u = .int .i64 t ∧ Ext w0 w) := by
 refine ret_of_wp (nt := 5) Try.func63 rfl rfl rfl (fl := [(0, .agg [.int .i64 t, .int .i64 n].toArray)]) rfl (fun a S => ?_)
 have H := HSat.start w0
 refine gsr ?_
 refine wl_of (op_boxa (wn rfl) rfl rfl rfl S H rfl fun b1 a w S H => ?_)
 refine ga S fun a S => ?_
 refine gnt ?_
 refine gsr ?_
 refine gy rfl rfl rfl S (y_faddrb rfl Ffo95_0 S rfl) fun a S => ?_
 refine gy rfl rfl rfl S (y_load rfl Fsca3 S H rfl rfl) fun a S => ?_
 refine ga S fun a S => ?_
 refine gnt ?_
 have S := S.nil.cons S 2 rfl
 refine g_ret ?_
 refine ret1 rfl S rfl ?_
 exact ⟨rfl, H.toExt⟩
/-- slices.Clone[[]foyer/replica.entry,foyer/replica.entry] -/
theorem clone_spec (v : Value) (xs : List Ent) (w0 : World) (hv : IsSl w0 v 2 Ent.enc xs) (hl : xs.length ≤ 200000) :
    Ret Try.prog 35 #[v] w0 (fun u w => HSat No w0 [OSl 87 u 2 Ent.enc xs] w) := by
 refine ret_of_wp (nt := 8) Try.func35 rfl rfl rfl (fl := [(0, v)]) rfl (fun a S => ?_)
 have H := HSat.start w0
 obtain ⟨pv, cv, rfl⟩ := hv.shape
 have H := H.ro0 (Sl (.slice pv xs.length cv) 2 Ent.enc xs) rfl (hv)
 refine gsr ?_
 refine ga S fun a S => ?_
 refine gnt ?_
 refine g_seq ?_
 refine gsr ?_
 refine gm S fun a S => ?_
 refine gy rfl rfl rfl S (y_eqsl rfl Try.underlying54 S rfl rfl) fun a S => ?_
 refine gnt ?_
 refine c_if S rfl (fun h1 => ?_) (fun h1 => ?_)
 ·have h1p := h1; try simp only [DL] at h1p
  have hxs : xs = [] := by
    match xs, hv with
    | [], _ => rfl
    | x :: r, hv => obtain ⟨b, off, c, he, _⟩ := hv.cells 0 (by simp); simp only [Value.slice.injEq] at he; rw [he.1] at h1; simp at h1
  refine gsr ?_
  refine ga S fun a S => ?_
  refine gnt ?_
  refine g_ret ?_
  refine r_then (ret1 rfl S rfl ?_)
  rw [hxs]; exact (H.nilO 87 2 Ent.enc).take [OSl 87 (.slice none 0 0) 2 Ent.enc []]
 ·have h1p := h1; try simp only [DL] at h1p
  refine g_skip ?_
  refine n_then ?_
  refine gsr ?_
  refine wl_of (op_buildSlice (wn rfl) rfl rfl rfl Try.underlying54 Finf87 S H (idx := []) rfl rfl rfl (z := []) (by kernel_rfl) (cs := []) rfl fun b5 a w S H => ?_)
  have H := H.celO [] Ent.enc 2 (m := 0) rfl (by simp) rfl (by omega)
  refine gm S fun a S => ?_
  refine wl_of (op_appendT (wn rfl) rfl rfl rfl Try.underlying54 Finf87 rfl rfl S H rfl rfl (by simp [Ent.enc, Value.oneCell']) (by first | assumption | omega | (simp only [LL]; omega)) (by first | assumption | omega | (simp only [LL]; omega)) fun u7 a w S H => ?_)
  refine ga S fun a S => ?_
  refine gnt ?_
  have S := S.nil.cons S 2 rfl
  refine g_ret ?_
  refine ret1 rfl S rfl ?_
  exact H.take [OSl 87 u7 2 Ent.enc ([] ++ xs)]
/-- (*foyer/replica.peer).last -/
theorem last_spec (pb : Nat) (x : PV) (p : Peer) (w0 : World) (hb : w0.heap[pb]? = some (.cells [.int .i64 p.term, .int .i64 p.vote, x.lv, .bool p.down, .string (roleS p.role), .int .i64 (p.done : Int), .map x.vb, .map x.ab].toArray 58 (0, 0))) (hl : IsSl w0 x.lv 2 Ent.enc p.log) :
    Ret Try.prog 30 #[.pointer (some ⟨pb, 0, none⟩)] w0 (fun u w => u = .int .i64 (lastT p.log) ∧ Ext w0 w) := by
 refine ret_of_wp (nt := 22) Try.func30 rfl rfl rfl (fl := [(0, .pointer (some ⟨pb, 0, none⟩))]) rfl (fun a S => ?_)
 have H := HSat.start w0
 have H := H.ro0 (Atom.ro (Cel pb 58 [.int .i64 p.term, .int .i64 p.vote, x.lv, .bool p.down, .string (roleS p.role), .int .i64 (p.done : Int), .map x.vb, .map x.ab])) rfl (hb)
 have H := H.ro0 (Sl x.lv 2 Ent.enc p.log) rfl (hl)
 have hlen := hl.len
 refine gsr ?_
 refine ga S fun a S => ?_
 refine gnt ?_
 refine g_seq ?_
 refine gsr ?_
 refine gm S fun a S => ?_
 refine gy rfl rfl rfl S (y_nilCheck rfl S rfl) fun a S => ?_
 refine gy rfl rfl rfl S (y_faddrb rfl Ffo58_2 S rfl) fun a S => ?_
 refine gy rfl rfl rfl S (y_load rfl Fsca54 S H rfl rfl) fun a S => ?_
 refine gy rfl rfl rfl S (y_lens rfl Try.underlying54 S H rfl) fun a S => ?_
 refine gy rfl rfl rfl S (y_bin rfl S rfl rfl rfl) fun a S => ?_
 refine gnt ?_
 have S := ((S.nil.cons S 0 rfl).cons S 2 rfl).cons S 8 rfl
 refine c_if S rfl (fun h1 => ?_) (fun h1 => ?_)
 ·have h1p := h1; try simp only [DL] at h1p
  refine gsr ?_
  refine ga S fun a S => ?_
  refine gnt ?_
  refine g_ret ?_
  refine r_then (ret1 rfl S rfl ?_)
  exact ⟨by have e : p.log = [] := List.eq_nil_of_length_eq_zero (by simpa using h1p); rw [e]; rfl, H.toExt⟩
 ·have h1p := h1; try simp only [DL] at h1p
  refine g_skip ?_
  refine n_then ?_
  refine g_seq ?_
  refine region_st (loud := []) (tails := []) (free := []) [0, 1, 2, 3, 4, 5, 6, 7, 8, 9, 10, 11, 12, 13] [] Fmo (by kernel_rfl) (by kernel_rfl) rfl H ?_
  refine m_w rfl rfl (wn rfl) rfl rfl S (fun w H => y_move rfl S rfl) fun a S => ?_
  refine m_w rfl rfl (wn rfl) rfl rfl S (fun w H => y_nilCheck rfl S rfl) fun a S => ?_
  refine m_w rfl rfl (wn rfl) rfl rfl S (fun w H => y_faddrb rfl Ffo58_2 S rfl) fun a S => ?_
  refine m_w rfl rfl (wn rfl) rfl rfl S (fun w H => y_load rfl Fsca54 S H rfl rfl) fun a S => ?_
  refine m_w rfl rfl (wn rfl) rfl rfl S (fun w H => y_move rfl S rfl) fun a S => ?_
  refine m_w rfl rfl (wn rfl) rfl rfl S (fun w H => y_nilCheck rfl S rfl) fun a S => ?_
  refine m_w rfl rfl (wn rfl) rfl rfl S (fun w H => y_faddrb rfl Ffo58_2 S rfl) fun a S => ?_
  refine m_w rfl rfl (wn rfl) rfl rfl S (fun w H => y_load rfl Fsca54 S H rfl rfl) fun a S => ?_
  refine m_w rfl rfl (wn rfl) rfl rfl S (fun w H => y_lens rfl Try.underlying54 S H rfl) fun a S => ?_
  refine m_w rfl rfl (wn rfl) rfl rfl S (fun w H => y_sub rfl S rfl rfl (by omega)) fun a S => ?_
  refine m_w rfl rfl (wn rfl) rfl rfl S (fun w H => y_iaddrs rfl Try.underlying54 Fsiz87 S H rfl rfl (by first | assumption | omega | (simp only [LL]; omega))) fun a S => ?_
  refine m_w rfl rfl (wn rfl) rfl rfl S (fun w H => y_faddr rfl Ffo87_0 S rfl) fun a S => ?_
  refine m_loadsf _ rfl rfl (wn rfl) rfl rfl S rfl Fsca3 rfl (by first | assumption | omega | (simp only [LL]; omega)) rfl fun a S => ?_
  refine m_w rfl rfl (wn rfl) rfl rfl S (fun w H => y_assign rfl S rfl) fun a S => ?_
  refine m_nil (fun w H => ?_)
  refine n_then ?_
  have S := S.nil.cons S 2 rfl
  refine g_ret ?_
  refine ret1 rfl S rfl ?_
  have hne : p.log ≠ [] := fun e => by rw [e] at h1; simp at h1
  exact ⟨by rw [lastT_eq hne]; simp, H.toExt⟩
/-- (*foyer/replica.Group).has -/
theorem has_spec (b n : Nat) (pv mv : Value) (pb : Nat → Nat) (i : Int) (w0 : World) (hb : w0.heap[b]? = some (.cells [pv, mv].toArray 52 (0, 0))) (hp : IsSl w0 pv 1 (encPt pb) (List.range n)) :
    Ret Try.prog 25 #[.pointer (some ⟨b, 0, none⟩), .int .i64 i] w0 (fun u w => u = .bool (hasB n i) ∧ Ext w0 w) := by
 refine ret_of_wp (nt := 20) Try.func25 rfl rfl rfl (fl := [(0, .pointer (some ⟨b, 0, none⟩)), (1, .int .i64 i)]) rfl (fun a S => ?_)
 have H := HSat.start w0
 have H := H.ro0 (Atom.ro (Cel b 52 [pv, mv])) rfl (hb)
 have H := H.ro0 (Sl pv 1 (encPt pb) (List.range n)) rfl (hp)
 refine gsr ?_
 refine ga S fun a S => ?_
 refine gnt ?_
 refine gsr ?_
 refine gm S fun a S => ?_
 refine gy rfl rfl rfl S (y_nep rfl Try.underlying25 S rfl rfl) fun a S => ?_
 refine gm S fun a S => ?_
 refine' wl_and 2 7 rfl S H rfl rfl rfl rfl rfl rfl rfl (fun _ S => (wn rfl)) (fun h1 kk => ?yh1) (fun a w S H => ?_)
 case yh1 =>
  have h1p := h1; try simp only [DL] at h1p
  refine gz 7 h1 S rfl rfl rfl rfl rfl rfl (y_move rfl S rfl) fun a S => ?_
  refine gz 7 h1 S rfl rfl rfl rfl rfl rfl (y_bin rfl S rfl rfl rfl) fun a S => ?_
  refine gy rfl rfl rfl S (y_and' rfl h1 S rfl rfl) fun a S => ?_
  exact kk _ _ (S.join 3 10 rfl rfl) H
 refine gm S fun a S => ?_
 refine' wl_and 7 11 rfl S H rfl rfl rfl rfl rfl rfl rfl (fun _ S => (wn rfl)) (fun h2 kk => ?yh2) (fun a w S H => ?_)
 case yh2 =>
  have h2p := h2; try simp only [DL] at h2p
  refine gz 11 h2 S rfl rfl rfl rfl rfl rfl (y_move rfl S rfl) fun a S => ?_
  refine gz 11 h2 S rfl rfl rfl rfl rfl rfl (y_move rfl S rfl) fun a S => ?_
  refine gz 11 h2 S rfl rfl rfl rfl rfl rfl (y_nilCheck rfl S rfl) fun a S => ?_
  refine gz 11 h2 S rfl rfl rfl rfl rfl rfl (y_faddrb rfl Ffo52_0 S rfl) fun a S => ?_
  refine gz 11 h2 S rfl rfl rfl rfl rfl rfl (y_load rfl Fsca50 S H rfl rfl) fun a S => ?_
  refine gz 11 h2 S rfl rfl rfl rfl rfl rfl (y_lens rfl Try.underlying50 S H rfl) fun a S => ?_
  refine gz 11 h2 S rfl rfl rfl rfl rfl rfl (y_bin rfl S rfl rfl rfl) fun a S => ?_
  refine gy rfl rfl rfl S (y_and' rfl h2 S rfl rfl) fun a S => ?_
  exact kk _ _ (S.join 8 19 rfl rfl) H
 refine ga S fun a S => ?_
 refine gnt ?_
 have S := S.nil.cons S 4 rfl
 refine g_ret ?_
 refine ret1 rfl S rfl ?_
 exact ⟨congrArg Value.bool (by simp [hasB]), H.toExt⟩
set_option maxHeartbeats 1000000 in
/-- (*foyer/replica.Group).send -/
theorem send_spec {M : Nat → Prop} {u0 : World} {l : List Atom} (c : GC) (n : Nat) (g : Grp) (z : GV) (i j : Nat) (m : MV) (w0 : World) (h0 : HSat M u0 (GrpA c n g z :: GCel c :: GPts c n :: l) w0) (hi : i < n) (hj : j < n) (hm : ∀ t l d, m.1 = .share t l d → (m.2, l) ∈ z.bag) (hone : (msgV m.1 m.2).oneCell' = true) (hq : (g.q i j).length ≤ 1000000) :
    Ret Try.prog 40 #[.pointer (some ⟨c.b, 0, none⟩), .int .i64 (i : Int), .int .i64 (j : Int), msgV m.1 m.2] w0 (fun u w => u = .tuple #[] ∧ ∃ z', z'.bag = z.bag ∧ HSat M u0 (GrpA c n (g.send i j m.1) z' :: GCel c :: GPts c n :: l) w) := by
 refine ret_of_wp (nt := 26) Try.func40 rfl rfl rfl (fl := [(0, .pointer (some ⟨c.b, 0, none⟩)), (1, .int .i64 (i : Int)), (2, .int .i64 (j : Int)), (3, msgV m.1 m.2)]) rfl (fun a S => ?_)
 obtain ⟨H, hz⟩ := grpOut h0
 have H := queOut (H.pick [QuesA n z.qm z.qv]) hi hj
 simp only [List.append_eq, List.nil_append] at H
 have hql : (z.qv i j).length ≤ 1000000 := by have := congrArg List.length (hz.qe i j); rw [List.length_map] at this; omega
 rcases hqm : z.qm ((i : Int), (j : Int)) with _ | v
 ·rw [hqm] at H
  have hnil : z.qv i j = [] := H.fact
  have H := H.tail.nilO 73 1 encM
  refine region_st (loud := [16, 17, 18]) (tails := [17, 18]) (free := [0, 1, 2, 3, 4, 5, 6]) [0, 1, 2, 3, 4, 5, 6, 7, 8, 9, 10, 11, 12, 13, 14, 15, 16, 17, 18] [GCel c] Fmo (by kernel_rfl) (by kernel_rfl) rfl H ?_
  refine m_f rfl rfl (wn rfl) rfl rfl S (fun w H => y_move rfl S rfl) fun a S => ?_
  refine m_f rfl rfl (wn rfl) rfl rfl S (fun w H => y_nilCheck rfl S rfl) fun a S => ?_
  refine m_f rfl rfl (wn rfl) rfl rfl S (fun w H => y_faddrb rfl Ffo52_1 S rfl) fun a S => ?_
  refine m_f rfl rfl (wn rfl) rfl rfl S (fun w H => y_load rfl Fsca49 S H rfl rfl) fun a S => ?_
  refine m_f rfl rfl (wn rfl) rfl rfl S (fun w H => y_move rfl S rfl) fun a S => ?_
  refine m_f rfl rfl (wn rfl) rfl rfl S (fun w H => y_move rfl S rfl) fun a S => ?_
  refine m_f rfl rfl (wn rfl) rfl rfl S (fun w H => y_buildf rfl Fbld69 S rfl (idx := [0, 1]) rfl (cs := [.int .i64 (i : Int), .int .i64 (j : Int)]) rfl) fun a S => ?_
  refine m_w rfl rfl (wn rfl) rfl rfl S (fun w H => y_move rfl S rfl) fun a S => ?_
  refine m_w rfl rfl (wn rfl) rfl rfl S (fun w H => y_nilCheck rfl S rfl) fun a S => ?_
  refine m_w rfl rfl (wn rfl) rfl rfl S (fun w H => y_faddrb rfl Ffo52_1 S rfl) fun a S => ?_
  refine m_w rfl rfl (wn rfl) rfl rfl S (fun w H => y_load rfl Fsca49 S H rfl rfl) fun a S => ?_
  refine m_w rfl rfl (wn rfl) rfl rfl S (fun w H => y_move rfl S rfl) fun a S => ?_
  refine m_w rfl rfl (wn rfl) rfl rfl S (fun w H => y_move rfl S rfl) fun a S => ?_
  refine m_w rfl rfl (wn rfl) rfl rfl S (fun w H => y_buildf rfl Fbld69 S rfl (idx := [0, 1]) rfl (cs := [.int .i64 (i : Int), .int .i64 (j : Int)]) rfl) fun a S => ?_
  refine m_w rfl rfl (wn rfl) rfl rfl S (fun w H => y_lookupE (((i : Int), (j : Int))) (.slice none 0 0) rfl Try.underlying49 Finf70 S H rfl (keyOK_a2 Try.underlying69 Try.underlying3 (by exact Fsz3)) (by exact rfl) (by exact rfl) rfl) fun a S => ?_
  simp only [hqm, Option.getD_none] at S
  refine m_w rfl rfl (wn rfl) rfl rfl S (fun w H => y_move rfl S rfl) fun a S => ?_
  refine m_l rfl rfl (fun w H => op_buildSlice (wn rfl) rfl rfl rfl Try.underlying70 Finf73 S H (idx := [0]) rfl rfl rfl (z := [.nilIface]) (by kernel_rfl) (cs := [msgV m.1 m.2]) (fillM m) fun b24 a w S H => m_next H (List.sublist_cons_self _ _) ?_)
  refine m_l rfl rfl (fun w H => op_append ([m]) (wn rfl) rfl rfl rfl Try.underlying70 Finf73 rfl rfl S H rfl rfl rfl rfl (by simp) (by simp [encM]) (by simp [encM]; exact hone) (by simp) (by simp) fun u25 a w hn25 S H => m_tail H rfl ?_)
  refine m_l rfl rfl (fun w H => op_mapUpdate (((i : Int), (j : Int))) (u25) (wn rfl) rfl rfl Try.underlying49 S H rfl (keyOK_a2 Try.underlying69 Try.underlying3 (by exact Fsz3)) (by exact rfl) (by exact rfl) fun a w S H => m_tail H rfl ?_)
  refine m_nil (fun w H => ?_)
  refine ret0n rfl S ?_
  have H := ownQ (H.takeT [OSl 73 u25 1 encM ([] ++ [m]), QueR n i j z.qm z.qv, PrsA c n g z, MapA c.qb kQ eV (upd z.qm ((i : Int), (j : Int)) u25) (if (z.qm ((i : Int), (j : Int))).isSome = true then z.qc else z.qc + 1), BagA 2 Ent.enc z.bag] (GCel c :: GPts c n :: l)) hn25
  exact ⟨rfl, sendIn (by rw [hnil]; exact H) hz hi hj hm⟩
 ·rw [hqm] at H
  have H : HSat _ _ (QSl 73 v encM (z.qv i j) :: _) _ := H
  refine region_st (loud := [16, 17, 18]) (tails := [17, 18]) (free := [0, 1, 2, 3, 4, 5, 6]) [0, 1, 2, 3, 4, 5, 6, 7, 8, 9, 10, 11, 12, 13, 14, 15, 16, 17, 18] [GCel c] Fmo (by kernel_rfl) (by kernel_rfl) rfl H ?_
  refine m_f rfl rfl (wn rfl) rfl rfl S (fun w H => y_move rfl S rfl) fun a S => ?_
  refine m_f rfl rfl (wn rfl) rfl rfl S (fun w H => y_nilCheck rfl S rfl) fun a S => ?_
  refine m_f rfl rfl (wn rfl) rfl rfl S (fun w H => y_faddrb rfl Ffo52_1 S rfl) fun a S => ?_
  refine m_f rfl rfl (wn rfl) rfl rfl S (fun w H => y_load rfl Fsca49 S H rfl rfl) fun a S => ?_
  refine m_f rfl rfl (wn rfl) rfl rfl S (fun w H => y_move rfl S rfl) fun a S => ?_
  refine m_f rfl rfl (wn rfl) rfl rfl S (fun w H => y_move rfl S rfl) fun a S => ?_
  refine m_f rfl rfl (wn rfl) rfl rfl S (fun w H => y_buildf rfl Fbld69 S rfl (idx := [0, 1]) rfl (cs := [.int .i64 (i : Int), .int .i64 (j : Int)]) rfl) fun a S => ?_
  refine m_w rfl rfl (wn rfl) rfl rfl S (fun w H => y_move rfl S rfl) fun a S => ?_
  refine m_w rfl rfl (wn rfl) rfl rfl S (fun w H => y_nilCheck rfl S rfl) fun a S => ?_
  refine m_w rfl rfl (wn rfl) rfl rfl S (fun w H => y_faddrb rfl Ffo52_1 S rfl) fun a S => ?_
  refine m_w rfl rfl (wn rfl) rfl rfl S (fun w H => y_load rfl Fsca49 S H rfl rfl) fun a S => ?_
  refine m_w rfl rfl (wn rfl) rfl rfl S (fun w H => y_move rfl S rfl) fun a S => ?_
  refine m_w rfl rfl (wn rfl) rfl rfl S (fun w H => y_move rfl S rfl) fun a S => ?_
  refine m_w rfl rfl (wn rfl) rfl rfl S (fun w H => y_buildf rfl Fbld69 S rfl (idx := [0, 1]) rfl (cs := [.int .i64 (i : Int), .int .i64 (j : Int)]) rfl) fun a S => ?_
  refine m_w rfl rfl (wn rfl) rfl rfl S (fun w H => y_lookupE (((i : Int), (j : Int))) (.slice none 0 0) rfl Try.underlying49 Finf70 S H rfl (keyOK_a2 Try.underlying69 Try.underlying3 (by exact Fsz3)) (by exact rfl) (by exact rfl) rfl) fun a S => ?_
  simp only [hqm, Option.getD_some] at S
  refine m_w rfl rfl (wn rfl) rfl rfl S (fun w H => y_move rfl S rfl) fun a S => ?_
  refine m_l rfl rfl (fun w H => op_buildSlice (wn rfl) rfl rfl rfl Try.underlying70 Finf73 S H (idx := [0]) rfl rfl rfl (z := [.nilIface]) (by kernel_rfl) (cs := [msgV m.1 m.2]) (fillM m) fun b24 a w S H => m_next H (List.sublist_cons_self _ _) ?_)
  refine m_l rfl rfl (fun w H => op_appendQ (m) (wn rfl) rfl rfl rfl Try.underlying70 Finf73 rfl S H rfl rfl rfl rfl (by simp [encM]; exact hone) (by omega) (by omega) fun u25 a w S H => m_tail H rfl ?_)
  refine m_l rfl rfl (fun w H => op_mapUpdate (((i : Int), (j : Int))) (u25) (wn rfl) rfl rfl Try.underlying49 S H rfl (keyOK_a2 Try.underlying69 Try.underlying3 (by exact Fsz3)) (by exact rfl) (by exact rfl) fun a w S H => m_tail H rfl ?_)
  refine m_nil (fun w H => ?_)
  refine ret0n rfl S ?_
  exact ⟨rfl, sendIn (H.takeT [QSl 73 u25 encM (z.qv i j ++ [m]), QueR n i j z.qm z.qv, PrsA c n g z, MapA c.qb kQ eV (upd z.qm ((i : Int), (j : Int)) u25) (if (z.qm ((i : Int), (j : Int))).isSome = true then z.qc else z.qc + 1), BagA 2 Ent.enc z.bag] (GCel c :: GPts c n :: l)) hz hi hj hm⟩
/-- (*foyer/replica.Group).all -/
theorem all_spec {M : Nat → Prop} {u0 : World} {l : List Atom} (c : GC) (n : Nat) (g : Grp) (z : GV) (i : Nat) (m : MV) (w0 : World) (h0 : HSat M u0 (GrpA c n g z :: GCel c :: GPts c n :: l) w0) (hi : i < n) (hm : ∀ t l d, m.1 = .share t l d → (m.2, l) ∈ z.bag) (hone : (msgV m.1 m.2).oneCell' = true) (hq : ∀ j, (g.q i j).length ≤ 1000000) :
    Ret Try.prog 29 #[.pointer (some ⟨c.b, 0, none⟩), .int .i64 (i : Int), msgV m.1 m.2] w0 (fun u w => u = .tuple #[] ∧ ∃ z', z'.bag = z.bag ∧ HSat M u0 (GrpA c n (g.all i m.1) z' :: GCel c :: GPts c n :: l) w) := by
 refine ret_of_wp (nt := 24) Try.func29 rfl rfl rfl (fl := [(0, .pointer (some ⟨c.b, 0, none⟩)), (1, .int .i64 (i : Int)), (2, msgV m.1 m.2)]) rfl (fun a S => ?_)
 have H := h0
 have hz := (grpOut H).2
 have hn7 := hz.n7
 refine gsr ?_
 refine gm S fun a S => ?_
 refine gy rfl rfl rfl S (y_nilCheck rfl S rfl) fun a S => ?_
 refine gy rfl rfl rfl S (y_faddrb rfl Ffo52_0 S rfl) fun a S => ?_
 refine gy rfl rfl rfl S (y_load rfl Fsca50 S H rfl rfl) fun a S => ?_
 refine gy rfl rfl rfl S (y_lens rfl Try.underlying50 S H rfl) fun a S => ?_
 rw [List.length_range] at S
 refine gm S fun a S => ?_
 refine gnt ?_
 have S := ((((S.nil.cons S 2 rfl).cons S 1 rfl).cons S 0 rfl).cons S 11 rfl).cons S 12 rfl
 refine g_block ?_
 have SU := (((S.nil.cons S 2 rfl).cons S 1 rfl).cons S 0 rfl).cons S 11 rfl
 refine loopW (X := Nat × GV) SU (fun x => [(12, .int .i64 (x.1 : Int))]) (fun x w => x.1 ≤ n ∧ x.2.bag = z.bag ∧ HSat M u0 (GrpA c n (g.allTo i m.1 x.1) x.2 :: GCel c :: GPts c n :: l) w) (fun x => n - x.1) (0, z) (S.nil.cons S 12 rfl) (⟨Nat.zero_le _, rfl, by rw [Grp.allTo_zero]; exact H⟩) (fun x a w S hW => ?_)
 simp only [List.cons_append, List.nil_append] at S
 obtain ⟨k, zk⟩ := x
 obtain ⟨hk, hb, H⟩ := hW
 dsimp only at S H hk hb
 refine gsr ?_
 refine gy rfl rfl rfl S (y_bin rfl S rfl rfl rfl) fun a S => ?_
 refine gnt ?_
 refine g_seq ?_
 refine c_if S rfl (fun h1 => ?_) (fun h1 => ?_)
 ·have h1p := h1; try simp only [DL] at h1p
  refine g_skip ?_
  refine n_then ?_
  refine g_seq ?_
  refine g_block ?_
  refine gsr ?_
  refine gm S fun a S => ?_
  refine ga S fun a S => ?_
  refine gnt ?_
  refine gsr ?_
  refine gm S fun a S => ?_
  refine gm S fun a S => ?_
  refine gy rfl rfl rfl S (y_bin rfl S rfl rfl rfl) fun a S => ?_
  refine gnt ?_
  have S := ((((((S.nil.cons S 2 rfl).cons S 1 rfl).cons S 0 rfl).cons S 11 rfl).cons S 12 rfl).cons S 6 rfl).cons S 17 rfl
  refine c_if S rfl (fun h2 => ?_) (fun h2 => ?_)
  ·have h2p := h2; try simp only [DL] at h2p
   refine g_region ?_
   refine gm S fun a S => ?_
   refine gm S fun a S => ?_
   refine gm S fun a S => ?_
   refine gm S fun a S => ?_
   refine wl_of (op_call (wn rfl) rfl rfl S (co_func rfl Try.call40 S rfl) (send_spec c n (g.allTo i m.1 k) zk i k m _ H hi (by omega) (fun t l d e => by rw [hb]; exact hm t l d e) hone (by rw [Grp.allTo_q]; exact hq k)) fun v w hc a S => ?_)
   obtain ⟨rfl, zk', hb', H⟩ := hc
   
   refine gl_nil ?_
   refine n_block ?_
   refine n_then ?_
   have S := ((((S.nil.cons S 2 rfl).cons S 1 rfl).cons S 0 rfl).cons S 11 rfl).cons S 12 rfl
   refine g_region ?_
   refine gy rfl rfl rfl S (y_add rfl S rfl rfl (by omega)) fun a S => ?_
   refine gm S fun a S => ?_
   refine gnt ?_
   first
   | exact ⟨(k + 1, zk'), S.nil.cons S 12 rfl, (((S.nil.cons S 2 rfl).cons S 1 rfl).cons S 0 rfl).cons S 11 rfl, ⟨by dsimp only; omega, hb'.trans hb, by rw [(Grp.allTo_succ g i m.1 k).1 (by omega)] at H; exact H⟩, by dsimp only; omega⟩
   | exact ⟨(k + 1, zk), S.nil.cons S 12 rfl, (((S.nil.cons S 2 rfl).cons S 1 rfl).cons S 0 rfl).cons S 11 rfl, ⟨by dsimp only; omega, hb, by rw [(Grp.allTo_succ g i m.1 k).2 (by omega)]; exact H⟩, by dsimp only; omega⟩
  ·have h2p := h2; try simp only [DL] at h2p
   refine g_skip ?_
   refine n_block ?_
   refine n_then ?_
   refine g_region ?_
   refine gy rfl rfl rfl S (y_add rfl S rfl rfl (by omega)) fun a S => ?_
   refine gm S fun a S => ?_
   refine gnt ?_
   first
   | exact ⟨(k + 1, zk'), S.nil.cons S 12 rfl, (((S.nil.cons S 2 rfl).cons S 1 rfl).cons S 0 rfl).cons S 11 rfl, ⟨by dsimp only; omega, hb'.trans hb, by rw [(Grp.allTo_succ g i m.1 k).1 (by omega)] at H; exact H⟩, by dsimp only; omega⟩
   | exact ⟨(k + 1, zk), S.nil.cons S 12 rfl, (((S.nil.cons S 2 rfl).cons S 1 rfl).cons S 0 rfl).cons S 11 rfl, ⟨by dsimp only; omega, hb, by rw [(Grp.allTo_succ g i m.1 k).2 (by omega)]; exact H⟩, by dsimp only; omega⟩
 ·have h1p := h1; try simp only [DL] at h1p
  refine g_exit ?_
  refine x_then (x_then (x_eq ?_))
  refine ret0n rfl S ?_
  obtain rfl : k = n := by omega
  exact ⟨rfl, zk, hb, by rw [show g.all i m.1 = g.allTo i m.1 k by rw [← hz.en]; rfl]; exact H⟩
/-- (*foyer/replica.Group).majority -/
theorem majority_spec (c : GC) (n : Nat) (f : FuncId) (cap : List Value) (he : Enters Try.prog f) (pr : Nat → Bool) (w0 : World) (hb : w0.heap[c.b]? = some (.cells [c.pv, .map (some c.qb)].toArray 52 (0, 0))) (hp : IsSl w0 c.pv 1 (encPt c.pb) (List.range n)) (hn : n ≤ 1000)
    (hstep : ∀ i, i < n → ∀ w, Ext w0 w → Ret Try.prog f ([Value.int .i64 (i : Int)] ++ cap).toArray w (fun u w' => u = .bool (pr i) ∧ Ext w w')) :
    Ret Try.prog 42 #[.pointer (some ⟨c.b, 0, none⟩), .func (.func f) #[] cap.toArray] w0 (fun u w => u = .bool (maj n pr) ∧ Ext w0 w) := by
 refine ret_of_wp (nt := 29) Try.func42 rfl rfl rfl (fl := [(0, .pointer (some ⟨c.b, 0, none⟩)), (1, .func (.func f) #[] cap.toArray)]) rfl (fun a S => ?_)
 have H := HSat.start w0
 have H := H.ro0 (Atom.ro (Cel c.b 52 [c.pv, .map (some c.qb)])) rfl (hb)
 have H := H.ro0 (Sl c.pv 1 (encPt c.pb) (List.range n)) rfl (hp)
 refine gsr ?_
 refine ga S fun a S => ?_
 refine gnt ?_
 refine gsr ?_
 refine ga S fun a S => ?_
 refine gnt ?_
 refine g_seq ?_
 refine gsr ?_
 refine gm S fun a S => ?_
 refine gy rfl rfl rfl S (y_nilCheck rfl S rfl) fun a S => ?_
 refine gy rfl rfl rfl S (y_faddrb rfl Ffo52_0 S rfl) fun a S => ?_
 refine gy rfl rfl rfl S (y_load rfl Fsca50 S H rfl rfl) fun a S => ?_
 refine gy rfl rfl rfl S (y_lens rfl Try.underlying50 S H rfl) fun a S => ?_
 rw [List.length_range] at S
 refine gm S fun a S => ?_
 refine gnt ?_
 have S := (((((S.nil.cons S 1 rfl).cons S 0 rfl).cons S 4 rfl).cons S 5 rfl).cons S 11 rfl).cons S 12 rfl
 refine g_block ?_
 have SU := (((S.nil.cons S 1 rfl).cons S 0 rfl).cons S 4 rfl).cons S 11 rfl
 refine loop_k (X := Nat) SU (fun k => [(5, .int .i64 (count k pr : Int)), (12, .int .i64 (k : Int))]) (fun k => k ≤ n) (fun k => n - k) 0 ((S.nil.cons S 12 rfl).cons S 5 rfl) H (Nat.zero_le _) (fun k a w S H hi => ?_)
 simp only [List.cons_append, List.nil_append] at S hi
 have hk := hi
 have hcl := count_le k pr
 refine gsr ?_
 refine gy rfl rfl rfl S (y_bin rfl S rfl rfl rfl) fun a S => ?_
 refine gnt ?_
 refine g_seq ?_
 refine c_if S rfl (fun h1 => ?_) (fun h1 => ?_)
 ·have h1p := h1; try simp only [DL] at h1p
  refine g_skip ?_
  refine n_then ?_
  refine g_seq ?_
  refine g_block ?_
  refine gsr ?_
  refine gm S fun a S => ?_
  refine ga S fun a S => ?_
  refine gnt ?_
  refine gsr ?_
  refine gm S fun a S => ?_
  refine gm S fun a S => ?_
  refine wl_of (op_call (wn rfl) rfl rfl S (co_value rfl he S rfl rfl) (hstep k (by omega) w H.toExt) fun v w hc a S => ?_)
  obtain ⟨rfl, he1⟩ := hc
  have H := H.ext he1
  refine gnt ?_
  have S := ((((((S.nil.cons S 1 rfl).cons S 0 rfl).cons S 4 rfl).cons S 11 rfl).cons S 12 rfl).cons S 5 rfl).cons S 17 rfl
  refine c_if S rfl (fun h2 => ?_) (fun h2 => ?_)
  ·have h2p := h2; try simp only [DL] at h2p
   refine g_region ?_
   refine gm S fun a S => ?_
   refine gy rfl rfl rfl S (y_add rfl S rfl rfl (by omega)) fun a S => ?_
   refine ga S fun a S => ?_
   refine gl_nil ?_
   refine n_block ?_
   refine n_then ?_
   have S := (((((S.nil.cons S 1 rfl).cons S 0 rfl).cons S 4 rfl).cons S 11 rfl).cons S 12 rfl).cons S 5 rfl
   refine g_region ?_
   refine gy rfl rfl rfl S (y_add rfl S rfl rfl (by omega)) fun a S => ?_
   refine gm S fun a S => ?_
   refine gnt ?_
   first
   | (have h2 : pr k = true := h2p
      refine ⟨k + 1, (S.nil.cons S 12 rfl).cons S 5 (by rw [count_succ, if_pos h2]; rfl), (((S.nil.cons S 1 rfl).cons S 0 rfl).cons S 4 rfl).cons S 11 rfl, H, by omega, by omega⟩)
   | (have h2 : ¬ pr k = true := by simpa using h2p
      refine ⟨k + 1, (S.nil.cons S 12 rfl).cons S 5 (by rw [count_succ, if_neg h2]; rfl), (((S.nil.cons S 1 rfl).cons S 0 rfl).cons S 4 rfl).cons S 11 rfl, H, by omega, by omega⟩)
  ·have h2p := h2; try simp only [DL] at h2p
   refine g_skip ?_
   refine n_block ?_
   refine n_then ?_
   refine g_region ?_
   refine gy rfl rfl rfl S (y_add rfl S rfl rfl (by omega)) fun a S => ?_
   refine gm S fun a S => ?_
   refine gnt ?_
   first
   | (have h2 : pr k = true := h2p
      refine ⟨k + 1, (S.nil.cons S 12 rfl).cons S 5 (by rw [count_succ, if_pos h2]; rfl), (((S.nil.cons S 1 rfl).cons S 0 rfl).cons S 4 rfl).cons S 11 rfl, H, by omega, by omega⟩)
   | (have h2 : ¬ pr k = true := by simpa using h2p
      refine ⟨k + 1, (S.nil.cons S 12 rfl).cons S 5 (by rw [count_succ, if_neg h2]; rfl), (((S.nil.cons S 1 rfl).cons S 0 rfl).cons S 4 rfl).cons S 11 rfl, H, by omega, by omega⟩)
 ·have h1p := h1; try simp only [DL] at h1p
  refine g_exit ?_
  refine x_then (x_then (x_eq ?_))
  refine n_then ?_
  have S := ((S.nil.cons S 0 rfl).cons S 4 rfl).cons S 5 rfl
  refine gsr ?_
  refine gm S fun a S => ?_
  refine gy rfl rfl rfl S (y_mul rfl S rfl rfl (by omega)) fun a S => ?_
  refine gm S fun a S => ?_
  refine gy rfl rfl rfl S (y_nilCheck rfl S rfl) fun a S => ?_
  refine gy rfl rfl rfl S (y_faddrb rfl Ffo52_0 S rfl) fun a S => ?_
  refine gy rfl rfl rfl S (y_load rfl Fsca50 S H rfl rfl) fun a S => ?_
  refine gy rfl rfl rfl S (y_lens rfl Try.underlying50 S H rfl) fun a S => ?_
  rw [List.length_range] at S
  refine gy rfl rfl rfl S (y_bin rfl S rfl rfl rfl) fun a S => ?_
  refine ga S fun a S => ?_
  refine gnt ?_
  have S := S.nil.cons S 4 rfl
  refine g_ret ?_
  refine ret1 rfl S rfl ?_
  obtain rfl : k = n := by omega
  exact ⟨congrArg Value.bool (by unfold maj; rw [decide_eq_decide]; omega), H.toExt⟩
end Go.Proofs.Ytbjknckddoegfaa
