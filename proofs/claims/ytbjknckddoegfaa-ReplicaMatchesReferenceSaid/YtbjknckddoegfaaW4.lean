/- The walks. No condition. -/
import Derived.Test.YtbjknckddoegfaaChecked
import Derived.Test.YtbjknckddoegfaaGwFam
import Derived.Test.YtbjknckddoegfaaFacts
import Derived.Test.YtbjknckddoegfaaPlainM
import Derived.Test.YtbjknckddoegfaaW1
namespace Go.Proofs.Ytbjknckddoegfaa
open Go Go.Gw
set_option linter.unusedVariables false
set_option linter.unusedSimpArgs false
set_option maxHeartbeats 1000000 in
/-- (*foyer/replica.Group).share -/
theorem share_spec {M : Nat → Prop} {u0 : World} {l : List Atom} (c : GC) (n : Nat) (g : Grp) (z : GV) (i : Nat) (w0 : World) (h0 : HSat M u0 (GrpA c n g z :: GCel c :: GPts c n :: l) w0) (hi : i < n) (hq : ∀ j, (g.q i j).length ≤ 900000) (hlen : (g.at_ i).log.length ≤ 200000) :
    Ret Try.prog 36 #[.pointer (some ⟨c.b, 0, none⟩), .int .i64 (i : Int)] w0 (fun u w => u = .tuple #[] ∧ ∃ z', HSat M u0 (GrpA c n (g.share i) z' :: GCel c :: GPts c n :: l) w) := by
 refine ret_of_wp (nt := 30) Try.func36 rfl rfl rfl (fl := [(0, .pointer (some ⟨c.b, 0, none⟩)), (1, .int .i64 (i : Int))]) rfl (fun a S => ?_)
 obtain ⟨H, hz⟩ := grpOut h0
 obtain ⟨H, hf⟩ := peerOut H hi
 have hn7 := hz.n7
 have iS : ∀ l, HasSl (BagA 2 Ent.enc z.bag :: l) (z.p i).lv 2 Ent Ent.enc (g.at_ i).log := bagSl (hz.lg i hi)
 refine gsr ?_
 refine gm S fun a S => ?_
 refine gy rfl rfl rfl S (y_nilCheck rfl S rfl) fun a S => ?_
 refine gy rfl rfl rfl S (y_faddrb rfl Ffo52_0 S rfl) fun a S => ?_
 refine gy rfl rfl rfl S (y_load rfl Fsca50 S H rfl rfl) fun a S => ?_
 refine gm S fun a S => ?_
 refine gy rfl rfl rfl S (y_iaddrn rfl Try.underlying50 Fsiz53 S H rfl rfl (by first | assumption | omega | (simp only [List.length_range]; omega) | (simp only [List.length_replicate]; omega) | (simp only [List.length_cons]; omega))) fun a S => ?_
 refine gy rfl rfl rfl S ((y_loadsD c.pv 0 rfl Fsca53 S H rfl (by simp only [List.length_range]; omega) (ldPt hi))) fun a S => ?_
 refine ga S fun a S => ?_
 refine gnt ?_
 have S := ((S.nil.cons S 1 rfl).cons S 0 rfl).cons S 4 rfl
 refine region_st (loud := [10, 17]) (tails := [17]) (free := []) [0, 1, 2, 3, 4, 5, 6, 7, 8, 9, 11, 12, 13, 14, 10, 15, 16, 17] [] Fmo (by kernel_rfl) (by kernel_rfl) rfl H ?_
 refine m_w rfl rfl (wn rfl) rfl rfl S (fun w H => y_move rfl S rfl) fun a S => ?_
 refine m_w rfl rfl (wn rfl) rfl rfl S (fun w H => y_move rfl S rfl) fun a S => ?_
 refine m_w rfl rfl (wn rfl) rfl rfl S (fun w H => y_move rfl S rfl) fun a S => ?_
 refine m_w rfl rfl (wn rfl) rfl rfl S (fun w H => y_nilCheck rfl S rfl) fun a S => ?_
 refine m_w rfl rfl (wn rfl) rfl rfl S (fun w H => y_faddrb rfl Ffo58_0 S rfl) fun a S => ?_
 refine m_w rfl rfl (wn rfl) rfl rfl S (fun w H => y_load rfl Fsca3 S H rfl rfl) fun a S => ?_
 refine m_w rfl rfl (wn rfl) rfl rfl S (fun w H => y_move rfl S rfl) fun a S => ?_
 refine m_w rfl rfl (wn rfl) rfl rfl S (fun w H => y_nilCheck rfl S rfl) fun a S => ?_
 refine m_w rfl rfl (wn rfl) rfl rfl S (fun w H => y_faddrb rfl Ffo58_2 S rfl) fun a S => ?_
 refine m_w rfl rfl (wn rfl) rfl rfl S (fun w H => y_load rfl Fsca54 S H rfl rfl) fun a S => ?_
 refine m_w rfl rfl (wn rfl) rfl rfl S (fun w H => y_move rfl S rfl) fun a S => ?_
 refine m_w rfl rfl (wn rfl) rfl rfl S (fun w H => y_nilCheck rfl S rfl) fun a S => ?_
 refine m_w rfl rfl (wn rfl) rfl rfl S (fun w H => y_faddrb rfl Ffo58_5 S rfl) fun a S => ?_
 refine m_w rfl rfl (wn rfl) rfl rfl S (fun w H => y_load rfl Fsca3 S H rfl rfl) fun a S => ?_
 refine m_l rfl rfl (fun w H => op_call (wn rfl) rfl rfl S (co_func rfl Try.call35 S rfl) (clone_spec _ (g.at_ i).log _ (H.sl (z.p i).lv) hlen) fun u22 w hc a S => ?_)
 have H1 := hc
 have H := H.call1 H1 rfl
 obtain ⟨pu, cu, rfl⟩ := (H.sl u22).shape
 have hcu : capOK (.slice pu (g.at_ i).log.length cu) := H.cap _
 refine m_next H (by repeat (first | exact List.Sublist.refl _ | apply List.Sublist.cons)) ?_
 refine m_w rfl rfl (wn rfl) rfl rfl S (fun w H => y_buildf rfl Fbld93 S rfl (idx := [0, 1, 2]) rfl (cs := [.int .i64 (g.at_ i).term, .slice pu (g.at_ i).log.length cu, .int .i64 ((g.at_ i).done : Int)]) rfl) fun a S => ?_
 refine m_w rfl rfl (wn rfl) rfl rfl S (fun w H => y_mkiface rfl Fnif93 S rfl) fun a S => ?_
 refine m_l rfl rfl (fun w H => op_call (wn rfl) rfl rfl S (co_func rfl Try.call29 S rfl) (all_spec c n g { z with bag := (.slice pu (g.at_ i).log.length cu, (g.at_ i).log) :: z.bag } i (.share (g.at_ i).term (g.at_ i).log (g.at_ i).done, .slice pu (g.at_ i).log.length cu) _ (shareIn (H.takeT [OSl 87 (.slice pu (g.at_ i).log.length cu) 2 Ent.enc (g.at_ i).log, PCel (c.pb i) (z.p i) (g.at_ i), OMap (z.p i).vb eB (z.p i).vm (z.p i).vc, OMap (z.p i).ab kI (z.p i).am (z.p i).ac, PRest c n g z i, MapA c.qb kQ eV z.qm z.qc, QuesA n z.qm z.qv, BagA 2 Ent.enc z.bag] (GCel c :: GPts c n :: l)) hz hi hf hcu) hi (fun t l d e => by cases e; exact List.mem_cons_self ..) rfl (fun j => by have := hq j; omega)) fun v w hc a S => ?_)
 obtain ⟨rfl, z', _, H⟩ := hc
 
 refine m_tail H rfl ?_
 refine m_nil (fun w H => ?_)
 refine ret0n rfl S ?_
 exact ⟨rfl, z', H⟩
/-- (*foyer/replica.Group).lead$1 -/
theorem lead1_spec (pb b4 vb vc : Nat) (cs : List Value) (vm : Int → Option Bool) (k : Int) (w0 : World) (h4 : w0.heap[b4]? = some (.cells [.pointer (some ⟨pb, 0, none⟩)].toArray 53 (0, 0))) (hb : w0.heap[pb]? = some (.cells cs.toArray 58 (0, 0))) (h6 : cs[6]? = some (.map (some vb))) (hm : IsMap w0 vb kI eB vm vc) :
    Ret Try.prog 43 #[.int .i64 k, .pointer (some ⟨b4, 0, none⟩)] w0 (fun u w => u = .bool ((vm k).getD false) ∧ Ext w0 w) := by
 refine ret_of_wp (nt := 10) Try.func43 rfl rfl rfl (fl := [(0, .int .i64 k), (1, .pointer (some ⟨b4, 0, none⟩))]) rfl (fun a S => ?_)
 have H := HSat.start w0
 have H := H.ro0 (Atom.ro (Cel b4 53 [.pointer (some ⟨pb, 0, none⟩)])) rfl (h4)
 have H := H.ro0 (Atom.ro (Cel pb 58 cs)) rfl (hb)
 have H := H.ro0 (Atom.ro (MapA vb kI eB vm vc)) rfl (hm)
 refine gsr ?_
 refine ga S fun a S => ?_
 refine gnt ?_
 refine gsr ?_
 refine gy rfl rfl rfl S (y_load rfl Fsca53 S H rfl rfl) fun a S => ?_
 refine gy rfl rfl rfl S (y_nilCheck rfl S rfl) fun a S => ?_
 refine gy rfl rfl rfl S (y_faddrb rfl Ffo58_6 S rfl) fun a S => ?_
 refine gy rfl rfl rfl S ((y_load rfl Fsca55 S H rfl h6)) fun a S => ?_
 refine gm S fun a S => ?_
 refine gy rfl rfl rfl S (y_lookupE (k) (false) rfl Try.underlying55 Finf4 S H rfl (keyOK_int Try.underlying3) (by exact rfl) (by exact rfl) rfl) fun a S => ?_
 refine ga S fun a S => ?_
 refine gnt ?_
 have S := S.nil.cons S 3 rfl
 refine g_ret ?_
 refine ret1 rfl S rfl ?_
 exact ⟨rfl, H.toExt⟩
/-- (*foyer/replica.Group).commit$1 -/
theorem commit1_spec (pb b1 b2 b3 ab ac : Nat) (cs : List Value) (am : Int → Option Int) (i m k : Int) (w0 : World) (h1 : w0.heap[b1]? = some (.cells [.int .i64 i].toArray 3 (0, 0))) (h2 : w0.heap[b2]? = some (.cells [.pointer (some ⟨pb, 0, none⟩)].toArray 53 (0, 0))) (h3 : w0.heap[b3]? = some (.cells [.int .i64 m].toArray 3 (0, 0))) (hb : w0.heap[pb]? = some (.cells cs.toArray 58 (0, 0))) (h7 : cs[7]? = some (.map (some ab))) (hm : IsMap w0 ab kI kI am ac) :
    Ret Try.prog 44 #[.int .i64 k, .pointer (some ⟨b1, 0, none⟩), .pointer (some ⟨b2, 0, none⟩), .pointer (some ⟨b3, 0, none⟩)] w0 (fun u w => u = .bool (decide (k = i) || decide ((am k).getD 0 ≥ m)) ∧ Ext w0 w) := by
 refine ret_of_wp (nt := 19) Try.func44 rfl rfl rfl (fl := [(0, .int .i64 k), (1, .pointer (some ⟨b1, 0, none⟩)), (2, .pointer (some ⟨b2, 0, none⟩)), (3, .pointer (some ⟨b3, 0, none⟩))]) rfl (fun a S => ?_)
 have H := HSat.start w0
 have H := H.ro0 (Atom.ro (Cel b1 3 [.int .i64 i])) rfl (h1)
 have H := H.ro0 (Atom.ro (Cel b2 53 [.pointer (some ⟨pb, 0, none⟩)])) rfl (h2)
 have H := H.ro0 (Atom.ro (Cel b3 3 [.int .i64 m])) rfl (h3)
 have H := H.ro0 (Atom.ro (Cel pb 58 cs)) rfl (hb)
 have H := H.ro0 (Atom.ro (MapA ab kI kI am ac)) rfl (hm)
 refine gsr ?_
 refine ga S fun a S => ?_
 refine gnt ?_
 refine g_seq ?_
 refine region_st (loud := []) (tails := []) (free := []) [0, 1, 2, 3, 4, 5, 6, 7, 8, 9, 10, 11, 12, 13] [] Fmo (by kernel_rfl) (by kernel_rfl) rfl H ?_
 refine m_w rfl rfl (wn rfl) rfl rfl S (fun w H => y_move rfl S rfl) fun a S => ?_
 refine m_w rfl rfl (wn rfl) rfl rfl S (fun w H => y_load rfl Fsca3 S H rfl rfl) fun a S => ?_
 refine m_w rfl rfl (wn rfl) rfl rfl S (fun w H => y_bin rfl S rfl rfl rfl) fun a S => ?_
 refine m_w rfl rfl (wn rfl) rfl rfl S (fun w H => y_move rfl S rfl) fun a S => ?_
 refine' m_orq [4, 5, 6, 7, 8, 9, 10, 11] 9 S rfl rfl rfl rfl rfl rfl rfl rfl rfl (fun _ S => (wn rfl)) (fun h1 kk => ?yh1) (fun a S => ?_)
 case yh1 =>
  have h1p := h1; try simp only [DL] at h1p
  refine m_w rfl rfl (wg' 9 rfl rfl S rfl h1 rfl) rfl rfl S (fun w H => y_load rfl Fsca53 S H rfl rfl) fun a S => ?_
  refine m_w rfl rfl (wg' 9 rfl rfl S rfl h1 rfl) rfl rfl S (fun w H => y_nilCheck rfl S rfl) fun a S => ?_
  refine m_w rfl rfl (wg' 9 rfl rfl S rfl h1 rfl) rfl rfl S (fun w H => y_faddrb rfl Ffo58_7 S rfl) fun a S => ?_
  refine m_w rfl rfl (wg' 9 rfl rfl S rfl h1 rfl) rfl rfl S (fun w H => (y_load rfl Fsca56 S H rfl h7)) fun a S => ?_
  refine m_w rfl rfl (wg' 9 rfl rfl S rfl h1 rfl) rfl rfl S (fun w H => y_move rfl S rfl) fun a S => ?_
  refine m_w rfl rfl (wg' 9 rfl rfl S rfl h1 rfl) rfl rfl S (fun w H => y_lookupE (k) ((0 : Int)) rfl Try.underlying56 Finf3 S H rfl (keyOK_int Try.underlying3) (by exact rfl) (by exact rfl) rfl) fun a S => ?_
  refine m_w rfl rfl (wg' 9 rfl rfl S rfl h1 rfl) rfl rfl S (fun w H => y_load rfl Fsca3 S H rfl rfl) fun a S => ?_
  refine m_w rfl rfl (wg' 9 rfl rfl S rfl h1 rfl) rfl rfl S (fun w H => y_bin rfl S rfl rfl rfl) fun a S => ?_
  refine m_w rfl rfl (wn rfl) rfl rfl S (fun w H => y_or' rfl h1 S rfl rfl) fun a S => ?_
  exact kk _ (S.join 9 18 rfl rfl)
 refine m_w rfl rfl (wn rfl) rfl rfl S (fun w H => y_assign rfl S rfl) fun a S => ?_
 refine m_nil (fun w H => ?_)
 refine n_then ?_
 have S := S.nil.cons S 5 rfl
 refine g_ret ?_
 refine ret1 rfl S rfl ?_
 exact ⟨congrArg Value.bool (by rw [Bool.eq_iff_iff]; simp), H.toExt⟩
set_option maxHeartbeats 1000000 in
/-- (*foyer/replica.Group).lead -/
theorem lead_spec {M : Nat → Prop} {u0 : World} {l : List Atom} (c : GC) (n : Nat) (g : Grp) (z : GV) (i : Nat) (w0 : World) (h0 : HSat M u0 (GrpA c n g z :: GCel c :: GPts c n :: l) w0) (hi : i < n) (hr : (g.at_ i).role = 1) (hq : ∀ j, (g.q i j).length ≤ 900000) (hlen : (g.at_ i).log.length ≤ 200000) :
    Ret Try.prog 31 #[.pointer (some ⟨c.b, 0, none⟩), .int .i64 (i : Int)] w0 (fun u w => u = .tuple #[] ∧ ∃ z', HSat M u0 (GrpA c n (g.lead i) z' :: GCel c :: GPts c n :: l) w) := by
 refine ret_of_wp (nt := 25) Try.func31 rfl rfl rfl (fl := [(0, .pointer (some ⟨c.b, 0, none⟩)), (1, .int .i64 (i : Int))]) rfl (fun a S => ?_)
 obtain ⟨H, hz⟩ := grpOut h0
 obtain ⟨H, hf⟩ := peerOut H hi
 have hn7 := hz.n7
 have iS : ∀ l, HasSl (BagA 2 Ent.enc z.bag :: l) (z.p i).lv 2 Ent Ent.enc (g.at_ i).log := bagSl (hz.lg i hi)
 obtain ⟨vb, hvb⟩ := Option.ne_none_iff_exists'.1 (hz.vb i hi hr)
 rw [hvb] at H
 have H : HSat _ _ (_ :: MapA vb kI eB (z.p i).vm (z.p i).vc :: _) _ := H
 refine gsr ?_
 refine gm S fun a S => ?_
 refine gy rfl rfl rfl S (y_nilCheck rfl S rfl) fun a S => ?_
 refine gy rfl rfl rfl S (y_faddrb rfl Ffo52_0 S rfl) fun a S => ?_
 refine gy rfl rfl rfl S (y_load rfl Fsca50 S H rfl rfl) fun a S => ?_
 refine gm S fun a S => ?_
 refine gy rfl rfl rfl S (y_iaddrn rfl Try.underlying50 Fsiz53 S H rfl rfl (by first | assumption | omega | (simp only [List.length_range]; omega) | (simp only [List.length_replicate]; omega) | (simp only [List.length_cons]; omega))) fun a S => ?_
 refine gy rfl rfl rfl S ((y_loadsD c.pv 0 rfl Fsca53 S H rfl (by simp only [List.length_range]; omega) (ldPt hi))) fun a S => ?_
 refine wl_of (op_alloc (wn rfl) rfl rfl rfl S H Fzer53 fun b4 a w S H => ?_)
 refine wl_of (op_store (wn rfl) rfl rfl S H rfl rfl rfl Fsiz53 rfl fun a w S H => ?_)
 dsimp only [List.set, Nat.zero_add, Nat.reduceAdd] at H
 refine gnt ?_
 have S := ((S.nil.cons S 1 rfl).cons S 0 rfl).cons S 4 rfl
 refine gsr ?_
 refine gm S fun a S => ?_
 refine gy rfl rfl rfl S (y_makeFunc rfl S rfl rfl) fun a S => ?_
 refine wl_of (op_call (wn rfl) rfl rfl S (co_func rfl Try.call42 S rfl) (majority_spec c n 43 [.pointer (some ⟨b4, 0, none⟩)] Try.call43 (g.at_ i).votes _ (H.rd c.b) (H.sl c.pv) (by omega) (fun k hk w hx => (lead1_spec (c.pb i) b4 vb (z.p i).vc _ (z.p i).vm k w ((H.ext hx).rd b4) ((H.ext hx).rd (c.pb i)) (congrArg (fun x => some (Value.map x)) hvb) ((H.ext hx).mp vb)).mono fun u w h => ⟨by rw [h.1, hf.v k], h.2⟩)) fun v w hc a S => ?_)
 obtain ⟨rfl, he1⟩ := hc
 have H := H.ext he1
 refine gnt ?_
 refine c_if S rfl (fun h1 => ?_) (fun h1 => ?_)
 ·have h1p := h1; try simp only [DL] at h1p
  have hmj : maj g.n (g.at_ i).votes = true := by rw [hz.en]; exact h1p
  refine g_seq ?_
  refine cut (fun a w => ∃ b17, St 25 [(0, .pointer (some ⟨c.b, 0, none⟩)), (1, .int .i64 (i : Int))] a ∧ HSat M u0 ([Cel (c.pb i) 58 [.int .i64 (g.at_ i).term, .int .i64 (g.at_ i).vote, (z.p i).lv, .bool (g.at_ i).down, .string ⟨#[108, 101, 97, 100, 101, 114]⟩, .int .i64 ((g.at_ i).done : Int), .map (z.p i).vb, .map (some b17)], MapA vb kI eB (z.p i).vm (z.p i).vc, MapA b17 kI kI (fun _ => none) 0, PRest c n g z i, MapA c.qb kQ eV z.qm z.qc, QuesA n z.qm z.qv, BagA 2 Ent.enc z.bag] ++ (GCel c :: GPts c n :: l)) w) ?_ ?_
  ·skip
   refine t_st (tails := [5, 8]) [] Fmo H ?_
   refine t_q 0 rfl (by kernel_rfl) (rem' := [1, 2, 3, 4, 5, 6, 7, 8]) rfl rfl rfl rfl S (fun w H => y_load rfl Fsca53 S H rfl rfl) fun a S => ?_
   refine t_q 3 rfl (by kernel_rfl) (rem' := [1, 2, 4, 5, 6, 7, 8]) rfl rfl rfl rfl S (fun w H => y_nilCheck rfl S rfl) fun a S => ?_
   refine t_q 4 rfl (by kernel_rfl) (rem' := [1, 2, 5, 6, 7, 8]) rfl rfl rfl rfl S (fun w H => y_faddrb rfl Ffo58_4 S rfl) fun a S => ?_
   refine t_b [1, 2, 5] (by kernel_rfl) rfl (fa3 ?_ ?_ ?_)
   ·refine ⟨_, rfl, fun w H => ?_⟩
    refine op_y (wn rfl) rfl rfl S (y_load rfl Fsca53 S H rfl rfl) fun a S => ?_
    refine t_n H (rem' := [2, 5, 6, 7, 8]) rfl ?_
    refine t_b [2, 5] (by kernel_rfl) rfl (fa2 ?_ ?_)
    ·refine ⟨_, rfl, fun w H => ?_⟩
     refine op_makeMap (fun n : Int => .int .i64 n) (fun n : Int => .int .i64 n) (wn rfl) rfl rfl rfl S H fun b17 a w S H => ?_
     refine t_n H (rem' := [5, 6, 7, 8]) rfl ?_
     refine t_b1 5 (by kernel_rfl) rfl fun w H => ?_
     refine op_store (wn rfl) rfl rfl S H rfl rfl rfl Fsiz9 rfl fun a w S H => ?_
     dsimp only [List.set, Nat.zero_add, Nat.reduceAdd] at H
     refine t_tail H rfl (rem' := [6, 7, 8]) rfl ?_
     refine t_q 6 rfl (by kernel_rfl) (rem' := [7, 8]) rfl rfl rfl rfl S (fun w H => y_nilCheck rfl S rfl) fun a S => ?_
     refine t_q 7 rfl (by kernel_rfl) (rem' := [8]) rfl rfl rfl rfl S (fun w H => y_faddrb rfl Ffo58_7 S rfl) fun a S => ?_
     refine t_b1 8 (by kernel_rfl) rfl fun w H => ?_
     refine op_store (wn rfl) rfl rfl S H rfl rfl rfl Fsiz56 rfl fun a w S H => ?_
     dsimp only [List.set, Nat.zero_add, Nat.reduceAdd] at H
     refine t_tail H rfl (rem' := []) rfl ?_
     refine t_nil (fun w H => ?_)
     exact ⟨b17, (S.nil.cons S 1 rfl).cons S 0 rfl, H.takeT [Cel (c.pb i) 58 [.int .i64 (g.at_ i).term, .int .i64 (g.at_ i).vote, (z.p i).lv, .bool (g.at_ i).down, .string ⟨#[108, 101, 97, 100, 101, 114]⟩, .int .i64 ((g.at_ i).done : Int), .map (z.p i).vb, .map (some b17)], MapA vb kI eB (z.p i).vm (z.p i).vc, MapA b17 kI kI (fun _ => none) 0, PRest c n g z i, MapA c.qb kQ eV z.qm z.qc, QuesA n z.qm z.qv, BagA 2 Ent.enc z.bag] (GCel c :: GPts c n :: l)⟩
    ·refine ⟨_, rfl, fun w H => ?_⟩
     refine op_store (wn rfl) rfl rfl S H rfl rfl rfl Fsiz9 rfl fun a w S H => ?_
     dsimp only [List.set, Nat.zero_add, Nat.reduceAdd] at H
     refine t_tail H rfl (rem' := [2, 6, 7, 8]) rfl ?_
     refine t_b1 2 (by kernel_rfl) rfl fun w H => ?_
     refine op_makeMap (fun n : Int => .int .i64 n) (fun n : Int => .int .i64 n) (wn rfl) rfl rfl rfl S H fun b17 a w S H => ?_
     refine t_n H (rem' := [6, 7, 8]) rfl ?_
     refine t_q 6 rfl (by kernel_rfl) (rem' := [7, 8]) rfl rfl rfl rfl S (fun w H => y_nilCheck rfl S rfl) fun a S => ?_
     refine t_q 7 rfl (by kernel_rfl) (rem' := [8]) rfl rfl rfl rfl S (fun w H => y_faddrb rfl Ffo58_7 S rfl) fun a S => ?_
     refine t_b1 8 (by kernel_rfl) rfl fun w H => ?_
     refine op_store (wn rfl) rfl rfl S H rfl rfl rfl Fsiz56 rfl fun a w S H => ?_
     dsimp only [List.set, Nat.zero_add, Nat.reduceAdd] at H
     refine t_tail H rfl (rem' := []) rfl ?_
     refine t_nil (fun w H => ?_)
     exact ⟨b17, (S.nil.cons S 1 rfl).cons S 0 rfl, H.takeT [Cel (c.pb i) 58 [.int .i64 (g.at_ i).term, .int .i64 (g.at_ i).vote, (z.p i).lv, .bool (g.at_ i).down, .string ⟨#[108, 101, 97, 100, 101, 114]⟩, .int .i64 ((g.at_ i).done : Int), .map (z.p i).vb, .map (some b17)], MapA vb kI eB (z.p i).vm (z.p i).vc, MapA b17 kI kI (fun _ => none) 0, PRest c n g z i, MapA c.qb kQ eV z.qm z.qc, QuesA n z.qm z.qv, BagA 2 Ent.enc z.bag] (GCel c :: GPts c n :: l)⟩
   ·refine ⟨_, rfl, fun w H => ?_⟩
    refine op_makeMap (fun n : Int => .int .i64 n) (fun n : Int => .int .i64 n) (wn rfl) rfl rfl rfl S H fun b17 a w S H => ?_
    refine t_n H (rem' := [1, 5, 6, 7, 8]) rfl ?_
    refine t_b [1, 5] (by kernel_rfl) rfl (fa2 ?_ ?_)
    ·refine ⟨_, rfl, fun w H => ?_⟩
     refine op_y (wn rfl) rfl rfl S (y_load rfl Fsca53 S H rfl rfl) fun a S => ?_
     refine t_n H (rem' := [5, 6, 7, 8]) rfl ?_
     refine t_b1 5 (by kernel_rfl) rfl fun w H => ?_
     refine op_store (wn rfl) rfl rfl S H rfl rfl rfl Fsiz9 rfl fun a w S H => ?_
     dsimp only [List.set, Nat.zero_add, Nat.reduceAdd] at H
     refine t_tail H rfl (rem' := [6, 7, 8]) rfl ?_
     refine t_q 6 rfl (by kernel_rfl) (rem' := [7, 8]) rfl rfl rfl rfl S (fun w H => y_nilCheck rfl S rfl) fun a S => ?_
     refine t_q 7 rfl (by kernel_rfl) (rem' := [8]) rfl rfl rfl rfl S (fun w H => y_faddrb rfl Ffo58_7 S rfl) fun a S => ?_
     refine t_b1 8 (by kernel_rfl) rfl fun w H => ?_
     refine op_store (wn rfl) rfl rfl S H rfl rfl rfl Fsiz56 rfl fun a w S H => ?_
     dsimp only [List.set, Nat.zero_add, Nat.reduceAdd] at H
     refine t_tail H rfl (rem' := []) rfl ?_
     refine t_nil (fun w H => ?_)
     exact ⟨b17, (S.nil.cons S 1 rfl).cons S 0 rfl, H.takeT [Cel (c.pb i) 58 [.int .i64 (g.at_ i).term, .int .i64 (g.at_ i).vote, (z.p i).lv, .bool (g.at_ i).down, .string ⟨#[108, 101, 97, 100, 101, 114]⟩, .int .i64 ((g.at_ i).done : Int), .map (z.p i).vb, .map (some b17)], MapA vb kI eB (z.p i).vm (z.p i).vc, MapA b17 kI kI (fun _ => none) 0, PRest c n g z i, MapA c.qb kQ eV z.qm z.qc, QuesA n z.qm z.qv, BagA 2 Ent.enc z.bag] (GCel c :: GPts c n :: l)⟩
    ·refine ⟨_, rfl, fun w H => ?_⟩
     refine op_store (wn rfl) rfl rfl S H rfl rfl rfl Fsiz9 rfl fun a w S H => ?_
     dsimp only [List.set, Nat.zero_add, Nat.reduceAdd] at H
     refine t_tail H rfl (rem' := [1, 6, 7, 8]) rfl ?_
     refine t_q 1 rfl (by kernel_rfl) (rem' := [6, 7, 8]) rfl rfl rfl rfl S (fun w H => y_load rfl Fsca53 S H rfl rfl) fun a S => ?_
     refine t_q 6 rfl (by kernel_rfl) (rem' := [7, 8]) rfl rfl rfl rfl S (fun w H => y_nilCheck rfl S rfl) fun a S => ?_
     refine t_q 7 rfl (by kernel_rfl) (rem' := [8]) rfl rfl rfl rfl S (fun w H => y_faddrb rfl Ffo58_7 S rfl) fun a S => ?_
     refine t_b1 8 (by kernel_rfl) rfl fun w H => ?_
     refine op_store (wn rfl) rfl rfl S H rfl rfl rfl Fsiz56 rfl fun a w S H => ?_
     dsimp only [List.set, Nat.zero_add, Nat.reduceAdd] at H
     refine t_tail H rfl (rem' := []) rfl ?_
     refine t_nil (fun w H => ?_)
     exact ⟨b17, (S.nil.cons S 1 rfl).cons S 0 rfl, H.takeT [Cel (c.pb i) 58 [.int .i64 (g.at_ i).term, .int .i64 (g.at_ i).vote, (z.p i).lv, .bool (g.at_ i).down, .string ⟨#[108, 101, 97, 100, 101, 114]⟩, .int .i64 ((g.at_ i).done : Int), .map (z.p i).vb, .map (some b17)], MapA vb kI eB (z.p i).vm (z.p i).vc, MapA b17 kI kI (fun _ => none) 0, PRest c n g z i, MapA c.qb kQ eV z.qm z.qc, QuesA n z.qm z.qv, BagA 2 Ent.enc z.bag] (GCel c :: GPts c n :: l)⟩
   ·refine ⟨_, rfl, fun w H => ?_⟩
    refine op_store (wn rfl) rfl rfl S H rfl rfl rfl Fsiz9 rfl fun a w S H => ?_
    dsimp only [List.set, Nat.zero_add, Nat.reduceAdd] at H
    refine t_tail H rfl (rem' := [1, 2, 6, 7, 8]) rfl ?_
    refine t_q 1 rfl (by kernel_rfl) (rem' := [2, 6, 7, 8]) rfl rfl rfl rfl S (fun w H => y_load rfl Fsca53 S H rfl rfl) fun a S => ?_
    refine t_b1 2 (by kernel_rfl) rfl fun w H => ?_
    refine op_makeMap (fun n : Int => .int .i64 n) (fun n : Int => .int .i64 n) (wn rfl) rfl rfl rfl S H fun b17 a w S H => ?_
    refine t_n H (rem' := [6, 7, 8]) rfl ?_
    refine t_q 6 rfl (by kernel_rfl) (rem' := [7, 8]) rfl rfl rfl rfl S (fun w H => y_nilCheck rfl S rfl) fun a S => ?_
    refine t_q 7 rfl (by kernel_rfl) (rem' := [8]) rfl rfl rfl rfl S (fun w H => y_faddrb rfl Ffo58_7 S rfl) fun a S => ?_
    refine t_b1 8 (by kernel_rfl) rfl fun w H => ?_
    refine op_store (wn rfl) rfl rfl S H rfl rfl rfl Fsiz56 rfl fun a w S H => ?_
    dsimp only [List.set, Nat.zero_add, Nat.reduceAdd] at H
    refine t_tail H rfl (rem' := []) rfl ?_
    refine t_nil (fun w H => ?_)
    exact ⟨b17, (S.nil.cons S 1 rfl).cons S 0 rfl, H.takeT [Cel (c.pb i) 58 [.int .i64 (g.at_ i).term, .int .i64 (g.at_ i).vote, (z.p i).lv, .bool (g.at_ i).down, .string ⟨#[108, 101, 97, 100, 101, 114]⟩, .int .i64 ((g.at_ i).done : Int), .map (z.p i).vb, .map (some b17)], MapA vb kI eB (z.p i).vm (z.p i).vc, MapA b17 kI kI (fun _ => none) 0, PRest c n g z i, MapA c.qb kQ eV z.qm z.qc, QuesA n z.qm z.qv, BagA 2 Ent.enc z.bag] (GCel c :: GPts c n :: l)⟩
  rintro a w ⟨b17, S, H⟩
  have H : HSat M u0 ([PCel (c.pb i) ({ z.p i with ab := some b17, am := fun _ => none, ac := 0 } : PV) (g.at_ i).lead, OMap (some vb) eB (z.p i).vm (z.p i).vc, OMap (some b17) kI (fun _ => none) 0, PRest c n g z i, MapA c.qb kQ eV z.qm z.qc, QuesA n z.qm z.qv, BagA 2 Ent.enc z.bag] ++ (GCel c :: GPts c n :: l)) w := H
  rw [← hvb] at H
  refine g_region ?_
  refine gm S fun a S => ?_
  refine gm S fun a S => ?_
  refine wl_of (op_call (wn rfl) rfl rfl S (co_func rfl Try.call36 S rfl) (share_spec c n (g.put i (g.at_ i).lead) { z with p := fun v => if v = i then ({ z.p i with ab := some b17, am := fun _ => none, ac := 0 } : PV) else z.p v, bag := z.bag } i _ (putIn ({ z.p i with ab := some b17, am := fun _ => none, ac := 0 } : PV) (g.at_ i).lead H hz hi ⟨hf.v, fun _ => rfl⟩ (fun _ h => h) hz.cp (hz.lg i hi) (fun h => by cases h) (fun _ h => by cases h)) hi hq (by rw [Grp.put_same _ (by rw [hz.en]; exact hi)]; exact hlen)) fun v w hc a S => ?_)
  obtain ⟨rfl, z', H⟩ := hc
  
  refine gl_nil ?_
  refine ret0n rfl S ?_
  exact ⟨rfl, z', by unfold Grp.lead; rw [if_pos hmj]; exact H⟩
 ·have h1p := h1; try simp only [DL] at h1p
  have hmj : ¬ maj g.n (g.at_ i).votes = true := by rw [hz.en]; simpa using h1p
  refine g_skip ?_
  refine ret0n rfl S ?_
  exact ⟨rfl, _, by unfold Grp.lead; rw [if_neg hmj]; exact putSame (by have H := H.takeT [PCel (c.pb i) (z.p i) (g.at_ i), MapA vb kI eB (z.p i).vm (z.p i).vc, OMap (z.p i).ab kI (z.p i).am (z.p i).ac, PRest c n g z i, MapA c.qb kQ eV z.qm z.qc, QuesA n z.qm z.qv, BagA 2 Ent.enc z.bag] (GCel c :: GPts c n :: l); have H : HSat _ _ ([PCel (c.pb i) (z.p i) (g.at_ i), OMap (some vb) eB (z.p i).vm (z.p i).vc, OMap (z.p i).ab kI (z.p i).am (z.p i).ac, PRest c n g z i, MapA c.qb kQ eV z.qm z.qc, QuesA n z.qm z.qv, BagA 2 Ent.enc z.bag] ++ (GCel c :: GPts c n :: l)) _ := H; rw [← hvb] at H; exact H) hz hi hf (fun _ h => h) hz.cp⟩
set_option maxHeartbeats 1000000 in
/-- (*foyer/replica.Group).commit -/
theorem commit_spec {M : Nat → Prop} {u0 : World} {l : List Atom} (c : GC) (n : Nat) (g : Grp) (z : GV) (i : Nat) (w0 : World) (h0 : HSat M u0 (GrpA c n g z :: GCel c :: GPts c n :: l) w0) (hi : i < n) (hr : (g.at_ i).role = 2) (hq : ∀ j, (g.q i j).length ≤ 900000) (hlen : (g.at_ i).log.length ≤ 200000) :
    Ret Try.prog 37 #[.pointer (some ⟨c.b, 0, none⟩), .int .i64 (i : Int)] w0 (fun u w => u = .tuple #[] ∧ ∃ z', HSat M u0 (GrpA c n (g.commit i) z' :: GCel c :: GPts c n :: l) w) := by
 refine ret_of_wp (nt := 55) Try.func37 rfl rfl rfl (fl := [(0, .pointer (some ⟨c.b, 0, none⟩)), (1, .int .i64 (i : Int))]) rfl (fun a S => ?_)
 obtain ⟨H, hz⟩ := grpOut h0
 obtain ⟨H, hf⟩ := peerOut H hi
 have hn7 := hz.n7
 have iS : ∀ l, HasSl (BagA 2 Ent.enc z.bag :: l) (z.p i).lv 2 Ent Ent.enc (g.at_ i).log := bagSl (hz.lg i hi)
 obtain ⟨ab, hab⟩ := Option.ne_none_iff_exists'.1 (hz.ab i hi hr)
 rw [hab] at H
 have H : HSat _ _ (_ :: _ :: MapA ab kI kI (z.p i).am (z.p i).ac :: _) _ := H
 have hin : i < g.n := by rw [hz.en]; exact hi
 refine gsr ?_
 refine wl_of (op_box1 (wn rfl) rfl rfl rfl S H rfl rfl fun b3 a w S H => ?_)
 refine gnt ?_
 refine g_seq ?_
 refine region_st (loud := [7, 8]) (tails := [8]) (free := []) [0, 1, 2, 3, 4, 5, 6, 7, 8] [] Fmo (by kernel_rfl) (by kernel_rfl) rfl H ?_
 refine m_w rfl rfl (wn rfl) rfl rfl S (fun w H => y_move rfl S rfl) fun a S => ?_
 refine m_w rfl rfl (wn rfl) rfl rfl S (fun w H => y_nilCheck rfl S rfl) fun a S => ?_
 refine m_w rfl rfl (wn rfl) rfl rfl S (fun w H => y_faddrb rfl Ffo52_0 S rfl) fun a S => ?_
 refine m_w rfl rfl (wn rfl) rfl rfl S (fun w H => y_load rfl Fsca50 S H rfl rfl) fun a S => ?_
 refine m_w rfl rfl (wn rfl) rfl rfl S (fun w H => y_load rfl Fsca3 S H rfl rfl) fun a S => ?_
 refine m_w rfl rfl (wn rfl) rfl rfl S (fun w H => y_iaddrn rfl Try.underlying50 Fsiz53 S H rfl rfl (by first | assumption | omega | (simp only [List.length_range]; omega) | (simp only [List.length_replicate]; omega) | (simp only [List.length_cons]; omega))) fun a S => ?_
 refine m_w rfl rfl (wn rfl) rfl rfl S (fun w H => (y_loadsD c.pv 0 rfl Fsca53 S H rfl (by simp only [List.length_range]; omega) (ldPt hi))) fun a S => ?_
 refine m_l rfl rfl (fun w H => op_alloc (wn rfl) rfl rfl rfl S H Fzer53 fun b4 a w S H => m_next H (List.sublist_cons_self _ _) ?_)
 refine m_l rfl rfl (fun w H => op_store (wn rfl) rfl rfl S H rfl rfl rfl Fsiz53 rfl fun a w S H => m_tail H rfl ?_)
 dsimp only [List.set, Nat.zero_add, Nat.reduceAdd] at H
 refine m_nil (fun w H => ?_)
 refine n_then ?_
 have S := ((S.nil.cons S 0 rfl).cons S 3 rfl).cons S 4 rfl
 refine gsr ?_
 refine gy rfl rfl rfl S (y_load rfl Fsca53 S H rfl rfl) fun a S => ?_
 refine gy rfl rfl rfl S (y_nilCheck rfl S rfl) fun a S => ?_
 refine gy rfl rfl rfl S (y_faddrb rfl Ffo58_2 S rfl) fun a S => ?_
 refine gy rfl rfl rfl S (y_load rfl Fsca54 S H rfl rfl) fun a S => ?_
 refine gy rfl rfl rfl S (y_lens rfl Try.underlying54 S H rfl) fun a S => ?_
 refine wl_of (op_alloc (wn rfl) rfl rfl rfl S H Fzer3 fun b5 a w S H => ?_)
 refine wl_of (op_store (wn rfl) rfl rfl S H rfl rfl rfl Fsiz3 rfl fun a w S H => ?_)
 dsimp only [List.set, Nat.zero_add, Nat.reduceAdd] at H
 refine gnt ?_
 have S := (((S.nil.cons S 0 rfl).cons S 3 rfl).cons S 4 rfl).cons S 5 rfl
 refine g_block ?_
 have SU := ((S.nil.cons S 0 rfl).cons S 3 rfl).cons S 4 rfl
 refine loopW (X := Nat × Nat) SU (fun x => [(5, .pointer (some ⟨x.2, 0, none⟩))]) (fun x w => x.1 ≤ (g.at_ i).log.length ∧ comK (comOk g i) (g.at_ i).done (g.at_ i).log.length = comK (comOk g i) (g.at_ i).done x.1 ∧ HSat M u0 (Cel x.2 3 [.int .i64 (x.1 : Int)] :: Cel b4 53 [.pointer (some ⟨c.pb i, 0, none⟩)] :: Cel b3 3 [.int .i64 (i : Int)] :: PCel (c.pb i) (z.p i) (g.at_ i) :: OMap (z.p i).vb eB (z.p i).vm (z.p i).vc :: MapA ab kI kI (z.p i).am (z.p i).ac :: PRest c n g z i :: MapA c.qb kQ eV z.qm z.qc :: QuesA n z.qm z.qv :: BagA 2 Ent.enc z.bag :: GCel c :: GPts c n :: l) w) (fun x => x.1) ((g.at_ i).log.length, b5) (S.nil.cons S 5 rfl) (⟨Nat.le_refl _, rfl, H⟩) (fun x a w S hW => ?_)
 simp only [List.cons_append, List.nil_append] at S
 obtain ⟨k, b5⟩ := x
 obtain ⟨hk, hcm, H⟩ := hW
 dsimp only at S H hk hcm
 refine g_seq ?_
 refine g_seq ?_
 refine region_st (loud := []) (tails := []) (free := []) [0, 1, 2, 3, 4, 5] [] Fmo (by kernel_rfl) (by kernel_rfl) rfl H ?_
 refine m_w rfl rfl (wn rfl) rfl rfl S (fun w H => y_load rfl Fsca3 S H rfl rfl) fun a S => ?_
 refine m_w rfl rfl (wn rfl) rfl rfl S (fun w H => y_load rfl Fsca53 S H rfl rfl) fun a S => ?_
 refine m_w rfl rfl (wn rfl) rfl rfl S (fun w H => y_nilCheck rfl S rfl) fun a S => ?_
 refine m_w rfl rfl (wn rfl) rfl rfl S (fun w H => y_faddrb rfl Ffo58_5 S rfl) fun a S => ?_
 refine m_w rfl rfl (wn rfl) rfl rfl S (fun w H => y_load rfl Fsca3 S H rfl rfl) fun a S => ?_
 refine m_w rfl rfl (wn rfl) rfl rfl S (fun w H => y_bin rfl S rfl rfl rfl) fun a S => ?_
 refine m_nil (fun w H => ?_)
 refine n_then ?_
 have S := ((((S.nil.cons S 0 rfl).cons S 3 rfl).cons S 4 rfl).cons S 5 rfl).cons S 24 rfl
 refine c_if S rfl (fun h1 => ?_) (fun h1 => ?_)
 ·have h1p := h1; try simp only [DL] at h1p
  refine g_skip ?_
  refine n_then ?_
  refine g_seq ?_
  refine g_block ?_
  refine gsr ?_
  refine gm S fun a S => ?_
  refine gy rfl rfl rfl S (y_makeFunc rfl S rfl rfl) fun a S => ?_
  refine wl_of (op_call (wn rfl) rfl rfl S (co_func rfl Try.call42 S rfl) (majority_spec c n 44 [.pointer (some ⟨b3, 0, none⟩), .pointer (some ⟨b4, 0, none⟩), .pointer (some ⟨b5, 0, none⟩)] Try.call44 (fun f => decide (f = i) || decide ((g.at_ i).acks f ≥ (k : Int))) _ (H.rd c.b) (H.sl c.pv) (by omega) (fun q hq2 w hx => (commit1_spec (c.pb i) b3 b4 b5 ab (z.p i).ac _ (z.p i).am (i : Int) (k : Int) (q : Int) w ((H.ext hx).rd b3) ((H.ext hx).rd b4) ((H.ext hx).rd b5) ((H.ext hx).rd (c.pb i)) (congrArg (fun x => some (Value.map x)) hab) ((H.ext hx).mp ab)).mono fun u w h => ⟨by rw [h.1, hf.a q]; exact congrArg Value.bool (by rw [Bool.eq_iff_iff]; simp only [Bool.or_eq_true, decide_eq_true_eq]; omega), h.2⟩)) fun v w hc a S => ?_)
  obtain ⟨rfl, he1⟩ := hc
  have H := H.ext he1
  refine ga S fun a S => ?_
  refine gnt ?_
  have S := ((((S.nil.cons S 0 rfl).cons S 3 rfl).cons S 4 rfl).cons S 5 rfl).cons S 6 rfl
  refine g_seq ?_
  refine region_st (loud := []) (tails := []) (free := []) [0, 1, 2, 3, 4, 5, 6, 7, 8, 9, 10, 11, 12, 13, 14, 15, 16] [] Fmo (by kernel_rfl) (by kernel_rfl) rfl H ?_
  refine m_w rfl rfl (wn rfl) rfl rfl S (fun w H => y_move rfl S rfl) fun a S => ?_
  refine m_w rfl rfl (wn rfl) rfl rfl S (fun w H => y_move rfl S rfl) fun a S => ?_
  refine' m_andq [2, 3, 4, 5, 6, 7, 8, 9, 10, 11, 12, 13, 14, 15] 31 S rfl rfl rfl rfl rfl rfl rfl rfl rfl (fun _ S => (wn rfl)) (fun h2 kk => ?yh2) (fun a S => ?_)
  case yh2 =>
   have h2p := h2; try simp only [DL] at h2p
   refine m_w rfl rfl (wg' 31 rfl rfl S rfl h2 rfl) rfl rfl S (fun w H => y_load rfl Fsca53 S H rfl rfl) fun a S => ?_
   refine m_w rfl rfl (wg' 31 rfl rfl S rfl h2 rfl) rfl rfl S (fun w H => y_nilCheck rfl S rfl) fun a S => ?_
   refine m_w rfl rfl (wg' 31 rfl rfl S rfl h2 rfl) rfl rfl S (fun w H => y_faddrb rfl Ffo58_2 S rfl) fun a S => ?_
   refine m_w rfl rfl (wg' 31 rfl rfl S rfl h2 rfl) rfl rfl S (fun w H => y_load rfl Fsca54 S H rfl rfl) fun a S => ?_
   refine m_w rfl rfl (wg' 31 rfl rfl S rfl h2 rfl) rfl rfl S (fun w H => y_load rfl Fsca3 S H rfl rfl) fun a S => ?_
   refine m_w rfl rfl (wg' 31 rfl rfl S rfl h2 rfl) rfl rfl S (fun w H => y_sub rfl S rfl rfl (by omega)) fun a S => ?_
   refine m_w rfl rfl (wg' 31 rfl rfl S rfl h2 rfl) rfl rfl S (fun w H => y_iaddrs rfl Try.underlying54 Fsiz87 S H rfl rfl (by first | assumption | omega | (simp only [List.length_range]; omega) | (simp only [List.length_replicate]; omega) | (simp only [List.length_cons]; omega))) fun a S => ?_
   refine m_w rfl rfl (wg' 31 rfl rfl S rfl h2 rfl) rfl rfl S (fun w H => y_faddr rfl Ffo87_0 S rfl) fun a S => ?_
   refine m_loadsf _ rfl rfl (wg' 31 rfl rfl S rfl h2 rfl) rfl rfl S rfl Fsca3 rfl (by first | assumption | omega | (simp only [List.length_range]; omega) | (simp only [List.length_replicate]; omega) | (simp only [List.length_cons]; omega)) rfl fun a S => ?_
   refine m_w rfl rfl (wg' 31 rfl rfl S rfl h2 rfl) rfl rfl S (fun w H => y_load rfl Fsca53 S H rfl rfl) fun a S => ?_
   refine m_w rfl rfl (wg' 31 rfl rfl S rfl h2 rfl) rfl rfl S (fun w H => y_nilCheck rfl S rfl) fun a S => ?_
   refine m_w rfl rfl (wg' 31 rfl rfl S rfl h2 rfl) rfl rfl S (fun w H => y_faddrb rfl Ffo58_0 S rfl) fun a S => ?_
   refine m_w rfl rfl (wg' 31 rfl rfl S rfl h2 rfl) rfl rfl S (fun w H => y_load rfl Fsca3 S H rfl rfl) fun a S => ?_
   refine m_w rfl rfl (wg' 31 rfl rfl S rfl h2 rfl) rfl rfl S (fun w H => y_bin rfl S rfl rfl rfl) fun a S => ?_
   refine m_w rfl rfl (wn rfl) rfl rfl S (fun w H => y_and' rfl h2 S rfl rfl) fun a S => ?_
   exact kk _ (S.join 15 46 rfl rfl)
  refine m_nil (fun w H => ?_)
  refine n_then ?_
  refine c_if S rfl (fun h3 => ?_) (fun h3 => ?_)
  ·have h3p := h3; try simp only [DL] at h3p
   refine gsr ?_
   refine gy rfl rfl rfl S (y_load rfl Fsca53 S H rfl rfl) fun a S => ?_
   refine gy rfl rfl rfl S (y_load rfl Fsca3 S H rfl rfl) fun a S => ?_
   refine gy rfl rfl rfl S (y_nilCheck rfl S rfl) fun a S => ?_
   refine gy rfl rfl rfl S (y_faddrb rfl Ffo58_5 S rfl) fun a S => ?_
   refine wl_of (op_store (wn rfl) rfl rfl S H rfl rfl rfl Fsiz3 rfl fun a w S H => ?_)
   dsimp only [List.set, Nat.zero_add, Nat.reduceAdd] at H
   refine gnt ?_
   have S := (((S.nil.cons S 0 rfl).cons S 3 rfl).cons S 4 rfl).cons S 5 rfl
   refine gsr ?_
   refine gm S fun a S => ?_
   refine gy rfl rfl rfl S (y_load rfl Fsca3 S H rfl rfl) fun a S => ?_
   refine wl_of (op_call (wn rfl) rfl rfl S (co_func rfl Try.call36 S rfl) (share_spec c n (g.put i { g.at_ i with done := k }) { z with p := fun v => if v = i then z.p i else z.p v, bag := z.bag } i _ (putIn (z.p i) { g.at_ i with done := k } (by have H := H.takeT [Cel (c.pb i) 58 [.int .i64 (g.at_ i).term, .int .i64 (g.at_ i).vote, (z.p i).lv, .bool (g.at_ i).down, .string (roleS (g.at_ i).role), .int .i64 (k : Int), .map (z.p i).vb, .map (z.p i).ab], OMap (z.p i).vb eB (z.p i).vm (z.p i).vc, MapA ab kI kI (z.p i).am (z.p i).ac, PRest c n g z i, MapA c.qb kQ eV z.qm z.qc, QuesA n z.qm z.qv, BagA 2 Ent.enc z.bag] (GCel c :: GPts c n :: l); have H : HSat _ _ ([PCel (c.pb i) (z.p i) { g.at_ i with done := k }, OMap (z.p i).vb eB (z.p i).vm (z.p i).vc, OMap (some ab) kI (z.p i).am (z.p i).ac, PRest c n g z i, MapA c.qb kQ eV z.qm z.qc, QuesA n z.qm z.qv, BagA 2 Ent.enc z.bag] ++ (GCel c :: GPts c n :: l)) _ := H; rw [← hab] at H; exact H) hz hi ⟨hf.v, hf.a⟩ (fun _ h => h) hz.cp (hz.lg i hi) (hz.vb i hi) (hz.ab i hi)) hi hq (by rw [Grp.put_same _ hin]; exact hlen)) fun v w hc a S => ?_)
   obtain ⟨rfl, z', H⟩ := hc
   
   refine gnt ?_
   refine g_ret ?_
   refine r_block (r_then (r_then (r_block (ret0 rfl S ?_))))
   have hyes := comOk_is hz.en (by omega) (by omega) h3
   rw [comK_yes (by omega) hyes] at hcm
   exact ⟨rfl, z', by unfold Grp.commit; rw [hcm]; exact H⟩
  ·have h3p := h3; try simp only [DL] at h3p
   refine g_skip ?_
   refine n_block ?_
   refine n_then ?_
   have S := (((S.nil.cons S 0 rfl).cons S 3 rfl).cons S 4 rfl).cons S 5 rfl
   refine g_seq ?_
   refine gsr ?_
   refine gy rfl rfl rfl S (y_load rfl Fsca3 S H rfl rfl) fun a S => ?_
   refine gnt ?_
   refine g_region ?_
   refine wl_of (op_alloc (wn rfl) rfl rfl rfl S H Fzer3 fun b5 a w S H => ?_)
   refine wl_of (op_store (wn rfl) rfl rfl S H rfl rfl rfl Fsiz3 rfl fun a w S H => ?_)
   dsimp only [List.set, Nat.zero_add, Nat.reduceAdd] at H
   refine gnt ?_
   refine g_region ?_
   refine gy rfl rfl rfl S (y_load rfl Fsca3 S H rfl rfl) fun a S => ?_
   refine gy rfl rfl rfl S (y_sub rfl S rfl rfl (by omega)) fun a S => ?_
   refine wl_of (op_store (wn rfl) rfl rfl S H rfl rfl rfl Fsiz3 rfl fun a w S H => ?_)
   dsimp only [List.set, Nat.zero_add, Nat.reduceAdd] at H
   refine gnt ?_
   have hkd : (g.at_ i).done < k := by omega
   obtain ⟨k, rfl⟩ : ∃ m, k = m + 1 := ⟨k - 1, by omega⟩
   have hno : comOk g i (k + 1) = false := comOk_is hz.en (by omega) (by omega) h3
   rw [comK_no hno, if_pos hkd] at hcm
   exact ⟨(k, b5), S.nil.cons S 5 rfl, ((S.nil.cons S 0 rfl).cons S 3 rfl).cons S 4 rfl, ⟨by dsimp only; omega, hcm, by rw [show ((k + 1 : Nat) : Int) - 1 = (k : Int) by omega] at H; exact H.takeT [Cel b5 3 [.int .i64 ((k : Nat) : Int)], Cel b4 53 [.pointer (some ⟨c.pb i, 0, none⟩)], Cel b3 3 [.int .i64 (i : Int)], PCel (c.pb i) (z.p i) (g.at_ i), OMap (z.p i).vb eB (z.p i).vm (z.p i).vc, MapA ab kI kI (z.p i).am (z.p i).ac, PRest c n g z i, MapA c.qb kQ eV z.qm z.qc, QuesA n z.qm z.qv, BagA 2 Ent.enc z.bag] (GCel c :: GPts c n :: l)⟩, by dsimp only; omega⟩
 ·have h1p := h1; try simp only [DL] at h1p
  refine g_exit ?_
  refine x_then (x_then (x_eq ?_))
  refine ret0n rfl S ?_
  rw [comK_low (show k ≤ (g.at_ i).done by omega)] at hcm
  exact ⟨rfl, _, by unfold Grp.commit; rw [hcm]; exact putSame (by have H := H.takeT [PCel (c.pb i) (z.p i) (g.at_ i), OMap (z.p i).vb eB (z.p i).vm (z.p i).vc, MapA ab kI kI (z.p i).am (z.p i).ac, PRest c n g z i, MapA c.qb kQ eV z.qm z.qc, QuesA n z.qm z.qv, BagA 2 Ent.enc z.bag] (GCel c :: GPts c n :: l); have H : HSat _ _ ([PCel (c.pb i) (z.p i) (g.at_ i), OMap (z.p i).vb eB (z.p i).vm (z.p i).vc, OMap (some ab) kI (z.p i).am (z.p i).ac, PRest c n g z i, MapA c.qb kQ eV z.qm z.qc, QuesA n z.qm z.qv, BagA 2 Ent.enc z.bag] ++ (GCel c :: GPts c n :: l)) _ := H; rw [← hab] at H; exact H) hz hi hf (fun _ h => h) hz.cp⟩
end Go.Proofs.Ytbjknckddoegfaa
