/- The walks. No condition. -/
import Derived.Test.YtbjknckddoegfaaChecked
import Derived.Test.YtbjknckddoegfaaGwFam
import Derived.Test.YtbjknckddoegfaaFacts
import Derived.Test.YtbjknckddoegfaaPlainM
import Derived.Test.YtbjknckddoegfaaW1
namespace Go.Proofs.Ytbjknckddoegfaa
open Go Go.Gw
set_option linter.unusedVariables false
set_option linter.unusedSimpArgs false
/-- (*foyer/replica.Group).has -/
theorem has_spec (b n : Nat) (pv mv : Value) (pb : Nat → Nat) (i : Int) (w0 : World) (hb : w0.heap[b]? = some (.cells [pv, mv].toArray 52 (0, 0))) (hp : IsSl w0 pv 1 (encPt pb) (List.range n)) :
    Ret Try.prog 25 #[.pointer (some ⟨b, 0, none⟩), .int .i64 i] w0 (fun u w => u = .bool (hasB n i) ∧ Ext w0 w) := by
 refine ret_of_wp (nt := 20) Try.func25 rfl rfl rfl (fl := [(0, .pointer (some ⟨b, 0, none⟩)), (1, .int .i64 i)]) rfl (fun a S => ?_)
 have H := HSat.start w0
 have H := H.ro0 (Atom.ro (Cel b 52 [pv, mv])) rfl (hb)
 have H := H.ro0 (Sl pv 1 (encPt pb) (List.range n)) rfl (hp)
 refine gsr ?_
 refine ga S fun a S => ?_
 refine gnt ?_
 refine gsr ?_
 refine gm S fun a S => ?_
 refine gy rfl rfl rfl S (y_nep rfl Try.underlying25 S rfl rfl) fun a S => ?_
 refine gm S fun a S => ?_
 refine' wl_and 2 7 rfl S H rfl rfl rfl rfl rfl rfl rfl (fun _ S => (wn rfl)) (fun h1 kk => ?yh1) (fun a w S H => ?_)
 case yh1 =>
  have h1p := h1; try simp only [DL] at h1p
  refine gz 7 h1 S rfl rfl rfl rfl rfl rfl (y_move rfl S rfl) fun a S => ?_
  refine gz 7 h1 S rfl rfl rfl rfl rfl rfl (y_bin rfl S rfl rfl rfl) fun a S => ?_
  refine gy rfl rfl rfl S (y_and' rfl h1 S rfl rfl) fun a S => ?_
  exact kk _ _ (S.join 3 10 rfl rfl) H
 refine gm S fun a S => ?_
 refine' wl_and 7 11 rfl S H rfl rfl rfl rfl rfl rfl rfl (fun _ S => (wn rfl)) (fun h2 kk => ?yh2) (fun a w S H => ?_)
 case yh2 =>
  have h2p := h2; try simp only [DL] at h2p
  refine gz 11 h2 S rfl rfl rfl rfl rfl rfl (y_move rfl S rfl) fun a S => ?_
  refine gz 11 h2 S rfl rfl rfl rfl rfl rfl (y_move rfl S rfl) fun a S => ?_
  refine gz 11 h2 S rfl rfl rfl rfl rfl rfl (y_nilCheck rfl S rfl) fun a S => ?_
  refine gz 11 h2 S rfl rfl rfl rfl rfl rfl (y_faddrb rfl Ffo52_0 S rfl) fun a S => ?_
  refine gz 11 h2 S rfl rfl rfl rfl rfl rfl (y_load rfl Fsca50 S H rfl rfl) fun a S => ?_
  refine gz 11 h2 S rfl rfl rfl rfl rfl rfl (y_lens rfl Try.underlying50 S H rfl) fun a S => ?_
  refine gz 11 h2 S rfl rfl rfl rfl rfl rfl (y_bin rfl S rfl rfl rfl) fun a S => ?_
  refine gy rfl rfl rfl S (y_and' rfl h2 S rfl rfl) fun a S => ?_
  exact kk _ _ (S.join 8 19 rfl rfl) H
 refine ga S fun a S => ?_
 refine gnt ?_
 have S := S.nil.cons S 4 rfl
 refine g_ret ?_
 refine ret1 rfl S rfl ?_
 exact ⟨congrArg Value.bool (by simp [hasB]), H.toExt⟩
set_option maxHeartbeats 1000000 in
/-- (*foyer/replica.Group).send -/
theorem send_spec {M : Nat → Prop} {u0 : World} {l : List Atom} (c : GC) (n : Nat) (g : Grp) (z : GV) (i j : Nat) (m : MV) (w0 : World) (h0 : HSat M u0 (GrpA c n g z :: GCel c :: GPts c n :: l) w0) (hi : i < n) (hj : j < n) (hm : ∀ t l d, m.1 = .share t l d → (m.2, l) ∈ z.bag) (hone : (msgV m.1 m.2).oneCell' = true) (hq : (g.q i j).length ≤ 1000000) :
    Ret Try.prog 40 #[.pointer (some ⟨c.b, 0, none⟩), .int .i64 (i : Int), .int .i64 (j : Int), msgV m.1 m.2] w0 (fun u w => u = .tuple #[] ∧ ∃ z', z'.bag = z.bag ∧ HSat M u0 (GrpA c n (g.send i j m.1) z' :: GCel c :: GPts c n :: l) w) := by
 refine ret_of_wp (nt := 26) Try.func40 rfl rfl rfl (fl := [(0, .pointer (some ⟨c.b, 0, none⟩)), (1, .int .i64 (i : Int)), (2, .int .i64 (j : Int)), (3, msgV m.1 m.2)]) rfl (fun a S => ?_)
 obtain ⟨H, hz⟩ := grpOut h0
 have H := queOut (H.pick [QuesA n z.qm z.qv]) hi hj
 simp only [List.append_eq, List.nil_append] at H
 have hql : (z.qv i j).length ≤ 1000000 := by have := congrArg List.length (hz.qe i j); rw [List.length_map] at this; omega
 rcases hqm : z.qm ((i : Int), (j : Int)) with _ | v
 ·rw [hqm] at H
  have hnil : z.qv i j = [] := H.fact
  have H := H.tail.nilO 73 1 encM
  refine region_st (loud := [16, 17, 18]) (tails := [17, 18]) (free := [0, 1, 2, 3, 4, 5, 6]) [0, 1, 2, 3, 4, 5, 6, 7, 8, 9, 10, 11, 12, 13, 14, 15, 16, 17, 18] [GCel c] Fmo (by kernel_rfl) (by kernel_rfl) rfl H ?_
  refine m_f rfl rfl (wn rfl) rfl rfl S (fun w H => y_move rfl S rfl) fun a S => ?_
  refine m_f rfl rfl (wn rfl) rfl rfl S (fun w H => y_nilCheck rfl S rfl) fun a S => ?_
  refine m_f rfl rfl (wn rfl) rfl rfl S (fun w H => y_faddrb rfl Ffo52_1 S rfl) fun a S => ?_
  refine m_f rfl rfl (wn rfl) rfl rfl S (fun w H => y_load rfl Fsca49 S H rfl rfl) fun a S => ?_
  refine m_f rfl rfl (wn rfl) rfl rfl S (fun w H => y_move rfl S rfl) fun a S => ?_
  refine m_f rfl rfl (wn rfl) rfl rfl S (fun w H => y_move rfl S rfl) fun a S => ?_
  refine m_f rfl rfl (wn rfl) rfl rfl S (fun w H => y_buildf rfl Fbld69 S rfl (idx := [0, 1]) rfl (cs := [.int .i64 (i : Int), .int .i64 (j : Int)]) rfl) fun a S => ?_
  refine m_w rfl rfl (wn rfl) rfl rfl S (fun w H => y_move rfl S rfl) fun a S => ?_
  refine m_w rfl rfl (wn rfl) rfl rfl S (fun w H => y_nilCheck rfl S rfl) fun a S => ?_
  refine m_w rfl rfl (wn rfl) rfl rfl S (fun w H => y_faddrb rfl Ffo52_1 S rfl) fun a S => ?_
  refine m_w rfl rfl (wn rfl) rfl rfl S (fun w H => y_load rfl Fsca49 S H rfl rfl) fun a S => ?_
  refine m_w rfl rfl (wn rfl) rfl rfl S (fun w H => y_move rfl S rfl) fun a S => ?_
  refine m_w rfl rfl (wn rfl) rfl rfl S (fun w H => y_move rfl S rfl) fun a S => ?_
  refine m_w rfl rfl (wn rfl) rfl rfl S (fun w H => y_buildf rfl Fbld69 S rfl (idx := [0, 1]) rfl (cs := [.int .i64 (i : Int), .int .i64 (j : Int)]) rfl) fun a S => ?_
  refine m_w rfl rfl (wn rfl) rfl rfl S (fun w H => y_lookupE (((i : Int), (j : Int))) (.slice none 0 0) rfl Try.underlying49 Finf70 S H rfl (keyOK_a2 Try.underlying69 Try.underlying3 (by exact Fsz3)) (by exact rfl) (by exact rfl) rfl) fun a S => ?_
  simp only [hqm, Option.getD_none] at S
  refine m_w rfl rfl (wn rfl) rfl rfl S (fun w H => y_move rfl S rfl) fun a S => ?_
  refine m_l rfl rfl (fun w H => op_buildSlice (wn rfl) rfl rfl rfl Try.underlying70 Finf73 S H (idx := [0]) rfl rfl rfl (z := [.nilIface]) (by kernel_rfl) (cs := [msgV m.1 m.2]) (fillM m) fun b24 a w S H => m_next H (List.sublist_cons_self _ _) ?_)
  refine m_l rfl rfl (fun w H => op_append ([m]) (wn rfl) rfl rfl rfl Try.underlying70 Finf73 rfl rfl S H rfl rfl rfl rfl (by simp) (by simp [encM]) (by simp [encM]; exact hone) (by simp) (by simp) fun u25 a w hn25 S H => m_tail H rfl ?_)
  refine m_l rfl rfl (fun w H => op_mapUpdate (((i : Int), (j : Int))) (u25) (wn rfl) rfl rfl Try.underlying49 S H rfl (keyOK_a2 Try.underlying69 Try.underlying3 (by exact Fsz3)) (by exact rfl) (by exact rfl) fun a w S H => m_tail H rfl ?_)
  refine m_nil (fun w H => ?_)
  refine ret0n rfl S ?_
  have H := ownQ (H.takeT [OSl 73 u25 1 encM ([] ++ [m]), QueR n i j z.qm z.qv, PrsA c n g z, MapA c.qb kQ eV (upd z.qm ((i : Int), (j : Int)) u25) (if (z.qm ((i : Int), (j : Int))).isSome = true then z.qc else z.qc + 1), BagA 2 Ent.enc z.bag] (GCel c :: GPts c n :: l)) hn25
  exact ⟨rfl, sendIn (by rw [hnil]; exact H) hz hi hj hm⟩
 ·rw [hqm] at H
  have H : HSat _ _ (QSl 73 v encM (z.qv i j) :: _) _ := H
  refine region_st (loud := [16, 17, 18]) (tails := [17, 18]) (free := [0, 1, 2, 3, 4, 5, 6]) [0, 1, 2, 3, 4, 5, 6, 7, 8, 9, 10, 11, 12, 13, 14, 15, 16, 17, 18] [GCel c] Fmo (by kernel_rfl) (by kernel_rfl) rfl H ?_
  refine m_f rfl rfl (wn rfl) rfl rfl S (fun w H => y_move rfl S rfl) fun a S => ?_
  refine m_f rfl rfl (wn rfl) rfl rfl S (fun w H => y_nilCheck rfl S rfl) fun a S => ?_
  refine m_f rfl rfl (wn rfl) rfl rfl S (fun w H => y_faddrb rfl Ffo52_1 S rfl) fun a S => ?_
  refine m_f rfl rfl (wn rfl) rfl rfl S (fun w H => y_load rfl Fsca49 S H rfl rfl) fun a S => ?_
  refine m_f rfl rfl (wn rfl) rfl rfl S (fun w H => y_move rfl S rfl) fun a S => ?_
  refine m_f rfl rfl (wn rfl) rfl rfl S (fun w H => y_move rfl S rfl) fun a S => ?_
  refine m_f rfl rfl (wn rfl) rfl rfl S (fun w H => y_buildf rfl Fbld69 S rfl (idx := [0, 1]) rfl (cs := [.int .i64 (i : Int), .int .i64 (j : Int)]) rfl) fun a S => ?_
  refine m_w rfl rfl (wn rfl) rfl rfl S (fun w H => y_move rfl S rfl) fun a S => ?_
  refine m_w rfl rfl (wn rfl) rfl rfl S (fun w H => y_nilCheck rfl S rfl) fun a S => ?_
  refine m_w rfl rfl (wn rfl) rfl rfl S (fun w H => y_faddrb rfl Ffo52_1 S rfl) fun a S => ?_
  refine m_w rfl rfl (wn rfl) rfl rfl S (fun w H => y_load rfl Fsca49 S H rfl rfl) fun a S => ?_
  refine m_w rfl rfl (wn rfl) rfl rfl S (fun w H => y_move rfl S rfl) fun a S => ?_
  refine m_w rfl rfl (wn rfl) rfl rfl S (fun w H => y_move rfl S rfl) fun a S => ?_
  refine m_w rfl rfl (wn rfl) rfl rfl S (fun w H => y_buildf rfl Fbld69 S rfl (idx := [0, 1]) rfl (cs := [.int .i64 (i : Int), .int .i64 (j : Int)]) rfl) fun a S => ?_
  refine m_w rfl rfl (wn rfl) rfl rfl S (fun w H => y_lookupE (((i : Int), (j : Int))) (.slice none 0 0) rfl Try.underlying49 Finf70 S H rfl (keyOK_a2 Try.underlying69 Try.underlying3 (by exact Fsz3)) (by exact rfl) (by exact rfl) rfl) fun a S => ?_
  simp only [hqm, Option.getD_some] at S
  refine m_w rfl rfl (wn rfl) rfl rfl S (fun w H => y_move rfl S rfl) fun a S => ?_
  refine m_l rfl rfl (fun w H => op_buildSlice (wn rfl) rfl rfl rfl Try.underlying70 Finf73 S H (idx := [0]) rfl rfl rfl (z := [.nilIface]) (by kernel_rfl) (cs := [msgV m.1 m.2]) (fillM m) fun b24 a w S H => m_next H (List.sublist_cons_self _ _) ?_)
  refine m_l rfl rfl (fun w H => op_appendQ (m) (wn rfl) rfl rfl rfl Try.underlying70 Finf73 rfl S H rfl rfl rfl rfl (by simp [encM]; exact hone) (by omega) (by omega) fun u25 a w S H => m_tail H rfl ?_)
  refine m_l rfl rfl (fun w H => op_mapUpdate (((i : Int), (j : Int))) (u25) (wn rfl) rfl rfl Try.underlying49 S H rfl (keyOK_a2 Try.underlying69 Try.underlying3 (by exact Fsz3)) (by exact rfl) (by exact rfl) fun a w S H => m_tail H rfl ?_)
  refine m_nil (fun w H => ?_)
  refine ret0n rfl S ?_
  exact ⟨rfl, sendIn (H.takeT [QSl 73 u25 encM (z.qv i j ++ [m]), QueR n i j z.qm z.qv, PrsA c n g z, MapA c.qb kQ eV (upd z.qm ((i : Int), (j : Int)) u25) (if (z.qm ((i : Int), (j : Int))).isSome = true then z.qc else z.qc + 1), BagA 2 Ent.enc z.bag] (GCel c :: GPts c n :: l)) hz hi hj hm⟩
end Go.Proofs.Ytbjknckddoegfaa
