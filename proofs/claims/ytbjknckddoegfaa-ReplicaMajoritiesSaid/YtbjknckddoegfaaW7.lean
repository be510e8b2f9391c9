/- The walks. No condition. -/
import Derived.Test.YtbjknckddoegfaaChecked
import Derived.Test.YtbjknckddoegfaaGwFam
import Derived.Test.YtbjknckddoegfaaFacts
import Derived.Test.YtbjknckddoegfaaPlainM
import Derived.Test.YtbjknckddoegfaaW6
namespace Go.Proofs.Ytbjknckddoegfaa
open Go Go.Gw
set_option linter.unusedVariables false
set_option linter.unusedSimpArgs false
theorem receive_any {M : Nat → Prop} {u0 : World} {l : List Atom} (c : GC) (n : Nat) (g : Grp) (z : GV) (i j : Nat) (m : MV) (w0 : World) (h0 : HSat M u0 (GrpA c n g z :: GCel c :: GPts c n :: l) w0) (hi : i < n) (hj : j < n) (hq : ∀ b, (g.q j b).length ≤ 900000) (hlen : (g.at_ j).log.length ≤ 200000) (hm : ∀ t l d, m.1 = .share t l d → (m.2, l) ∈ z.bag ∧ l.length ≤ 200000) :
    Ret Try.prog 26 #[.pointer (some ⟨c.b, 0, none⟩), .int .i64 (i : Int), .int .i64 (j : Int), msgV m.1 m.2] w0 (fun u w => u = .tuple #[] ∧ ∃ z', HSat M u0 (GrpA c n (g.receive i j m.1) z' :: GCel c :: GPts c n :: l) w) := by
  obtain ⟨x, v⟩ := m
  cases x with
  | ask t la k => exact receive_ask c n g z i j t la k v w0 h0 hi hj hq hlen
  | vote t b => exact receive_vote c n g z i j t b v w0 h0 hi hj hq hlen
  | share t lg d => exact receive_share c n g z i j t lg d v w0 h0 hi hj hq hlen (hm t lg d rfl).1 (hm t lg d rfl).2
  | ack t k => exact receive_ack c n g z i j t k v w0 h0 hi hj hq hlen
/-- (*foyer/replica.Group).Crash -/
theorem crash_spec {M : Nat → Prop} {u0 : World} {l : List Atom} (c : GC) (n : Nat) (g : Grp) (z : GV) (i : Nat) (b : Bool) (w0 : World) (h0 : HSat M u0 (GrpA c n g z :: GCel c :: GPts c n :: l) w0) :
    Ret Try.prog 18 #[.pointer (some ⟨c.b, 0, none⟩), .int .i64 (i : Int), .bool b] w0 (fun u w => u = .int .i64 (crashE g i b) ∧ ∃ z', HSat M u0 (GrpA c n (g.crash i b) z' :: GCel c :: GPts c n :: l) w) := by
 refine ret_of_wp (nt := 35) Try.func18 rfl rfl rfl (fl := [(0, .pointer (some ⟨c.b, 0, none⟩)), (1, .int .i64 (i : Int)), (2, .bool b)]) rfl (fun a S => ?_)
 have H := h0
 have hz := (grpOut H).2
 refine gsr ?_
 refine ga S fun a S => ?_
 refine gnt ?_
 refine g_seq ?_
 refine gsr ?_
 refine gm S fun a S => ?_
 refine gm S fun a S => ?_
 refine wl_of (op_call (wn rfl) rfl rfl S (co_func rfl Try.call25 S rfl) (has_spec c.b n c.pv (.map (some c.qb)) c.pb (i : Int) _ (H.rd c.b) (H.sl c.pv)) fun v w hc a S => ?_)
 obtain ⟨rfl, he⟩ := hc
 have H := H.ext he
 rw [hasB_nat] at S
 refine gy rfl rfl rfl S (y_not rfl S rfl) fun a S => ?_
 refine gnt ?_
 refine c_if S rfl (fun h1 => ?_) (fun h1 => ?_)
 ·have h1p := h1; try simp only [DL] at h1p
  have hno : ¬ i < g.n := by rw [hz.en]; simpa using h1
  refine gsr ?_
  refine ga S fun a S => ?_
  refine gnt ?_
  have S := (((S.nil.cons S 2 rfl).cons S 1 rfl).cons S 0 rfl).cons S 6 rfl
  refine g_ret ?_
  refine r_then (ret1 rfl S rfl ?_)
  exact ⟨by unfold crashE; rw [if_neg hno], z, by unfold Grp.crash; rw [if_neg (fun e => hno e.1)]; exact H⟩
 ·have h1p := h1; try simp only [DL] at h1p
  have hi : i < n := by simpa using h1
  have hin : i < g.n := by rw [hz.en]; exact hi
  have H := (grpOut H).1
  obtain ⟨H, hf⟩ := peerOut H hi
  refine g_skip ?_
  refine n_then ?_
  have S := (((S.nil.cons S 2 rfl).cons S 1 rfl).cons S 0 rfl).cons S 6 rfl
  refine gsr ?_
  refine gm S fun a S => ?_
  refine gy rfl rfl rfl S (y_nilCheck rfl S rfl) fun a S => ?_
  refine gy rfl rfl rfl S (y_faddrb rfl Ffo52_0 S rfl) fun a S => ?_
  refine gy rfl rfl rfl S (y_load rfl Fsca50 S H rfl rfl) fun a S => ?_
  refine gm S fun a S => ?_
  refine gy rfl rfl rfl S (y_iaddrn rfl Try.underlying50 Fsiz53 S H rfl rfl (by first | assumption | omega | (simp only [List.length_range]; omega) | (simp only [List.length_replicate]; omega) | (simp only [List.length_cons]; omega))) fun a S => ?_
  refine gy rfl rfl rfl S ((y_loadsD c.pv 0 rfl Fsca53 S H rfl (by simp only [List.length_range]; omega) (ldPt hi))) fun a S => ?_
  refine ga S fun a S => ?_
  refine gnt ?_
  have S := ((S.nil.cons S 2 rfl).cons S 6 rfl).cons S 7 rfl
  refine g_seq ?_
  refine gsr ?_
  refine gm S fun a S => ?_
  refine gy rfl rfl rfl S (y_nilCheck rfl S rfl) fun a S => ?_
  refine gy rfl rfl rfl S (y_faddrb rfl Ffo58_3 S rfl) fun a S => ?_
  refine gy rfl rfl rfl S (y_load rfl Fsca4 S H rfl rfl) fun a S => ?_
  refine gm S fun a S => ?_
  refine gy rfl rfl rfl S (y_eqb rfl Try.underlying4 S rfl rfl) fun a S => ?_
  refine gnt ?_
  have S := (((S.nil.cons S 2 rfl).cons S 6 rfl).cons S 7 rfl).cons S 24 rfl
  refine c_if S rfl (fun h2 => ?_) (fun h2 => ?_)
  ·have h2p := h2; try simp only [DL] at h2p
   have hd : (g.at_ i).down = b := by simpa using h2
   refine gsr ?_
   refine ga S fun a S => ?_
   refine gnt ?_
   refine g_ret ?_
   refine r_then (ret1 rfl S rfl ?_)
   exact ⟨by unfold crashE; rw [if_pos hin, if_pos hd], _, by unfold Grp.crash; rw [if_neg (fun e => e.2 hd)]; exact putSame (H.takeT [PCel (c.pb i) (z.p i) (g.at_ i), OMap (z.p i).vb eB (z.p i).vm (z.p i).vc, OMap (z.p i).ab kI (z.p i).am (z.p i).ac, PRest c n g z i, MapA c.qb kQ eV z.qm z.qc, QuesA n z.qm z.qv, BagA 2 Ent.enc z.bag] (GCel c :: GPts c n :: l)) hz hi hf (fun _ h => h) hz.cp⟩
  ·have h2p := h2; try simp only [DL] at h2p
   have hd : (g.at_ i).down ≠ b := by simpa using h2
   refine g_skip ?_
   refine n_then ?_
   refine gsr ?_
   refine gm S fun a S => ?_
   refine gm S fun a S => ?_
   refine gm S fun a S => ?_
   refine gm S fun a S => ?_
   refine gy rfl rfl rfl S (y_nilCheck rfl S rfl) fun a S => ?_
   refine gy rfl rfl rfl S (y_faddrb rfl Ffo58_3 S rfl) fun a S => ?_
   refine wl_of (op_store (wn rfl) rfl rfl S H rfl rfl rfl Fsiz4 rfl fun a w S H => ?_)
   dsimp only [List.set, Nat.zero_add, Nat.reduceAdd] at H
   refine gy rfl rfl rfl S (y_nilCheck rfl S rfl) fun a S => ?_
   refine gy rfl rfl rfl S (y_faddrb rfl Ffo58_4 S rfl) fun a S => ?_
   refine wl_of (op_store (wn rfl) rfl rfl S H rfl rfl rfl Fsiz9 rfl fun a w S H => ?_)
   dsimp only [List.set, Nat.zero_add, Nat.reduceAdd] at H
   refine gy rfl rfl rfl S (y_nilCheck rfl S rfl) fun a S => ?_
   refine gy rfl rfl rfl S (y_faddrb rfl Ffo58_5 S rfl) fun a S => ?_
   refine wl_of (op_store (wn rfl) rfl rfl S H rfl rfl rfl Fsiz3 rfl fun a w S H => ?_)
   dsimp only [List.set, Nat.zero_add, Nat.reduceAdd] at H
   refine gnt ?_
   have S := S.nil.cons S 6 rfl
   refine gsr ?_
   refine ga S fun a S => ?_
   refine gnt ?_
   refine g_ret ?_
   refine ret1 rfl S rfl ?_
   exact ⟨by unfold crashE; rw [if_pos hin, if_neg hd], _, by unfold Grp.crash; rw [if_pos ⟨hin, hd⟩]; exact putIn (z.p i) { g.at_ i with down := b, role := 0, done := 0 } (H.takeT [Cel (c.pb i) 58 [.int .i64 (g.at_ i).term, .int .i64 (g.at_ i).vote, (z.p i).lv, .bool b, .string ⟨#[102, 111, 108, 108, 111, 119, 101, 114]⟩, .int .i64 0, .map (z.p i).vb, .map (z.p i).ab], OMap (z.p i).vb eB (z.p i).vm (z.p i).vc, OMap (z.p i).ab kI (z.p i).am (z.p i).ac, PRest c n g z i, MapA c.qb kQ eV z.qm z.qc, QuesA n z.qm z.qv, BagA 2 Ent.enc z.bag] (GCel c :: GPts c n :: l)) hz hi ⟨hf.v, hf.a⟩ (fun _ h => h) hz.cp (hz.lg i hi) (fun h => by cases h) (fun h => by cases h)⟩
set_option maxHeartbeats 1000000 in
/-- (*foyer/replica.Group).Elect -/
theorem elect_spec {M : Nat → Prop} {u0 : World} {l : List Atom} (c : GC) (n : Nat) (g : Grp) (z : GV) (i : Nat) (w0 : World) (h0 : HSat M u0 (GrpA c n g z :: GCel c :: GPts c n :: l) w0) (hF : Fit g) :
    Ret Try.prog 14 #[.pointer (some ⟨c.b, 0, none⟩), .int .i64 (i : Int)] w0 (fun u w => u = .int .i64 (electE g i) ∧ ∃ z', HSat M u0 (GrpA c n (g.elect i) z' :: GCel c :: GPts c n :: l) w) := by
 refine ret_of_wp (nt := 60) Try.func14 rfl rfl rfl (fl := [(0, .pointer (some ⟨c.b, 0, none⟩)), (1, .int .i64 (i : Int))]) rfl (fun a S => ?_)
 have H := h0
 have hz := (grpOut H).2
 refine gsr ?_
 refine ga S fun a S => ?_
 refine gnt ?_
 refine g_seq ?_
 refine gsr ?_
 refine gm S fun a S => ?_
 refine gm S fun a S => ?_
 refine wl_of (op_call (wn rfl) rfl rfl S (co_func rfl Try.call25 S rfl) (has_spec c.b n c.pv (.map (some c.qb)) c.pb (i : Int) _ (H.rd c.b) (H.sl c.pv)) fun v w hc a S => ?_)
 obtain ⟨rfl, he⟩ := hc
 have H := H.ext he
 rw [hasB_nat] at S
 refine gy rfl rfl rfl S (y_not rfl S rfl) fun a S => ?_
 refine gnt ?_
 refine c_if S rfl (fun h1 => ?_) (fun h1 => ?_)
 ·have h1p := h1; try simp only [DL] at h1p
  have hno : ¬ i < g.n := by rw [hz.en]; simpa using h1
  refine gsr ?_
  refine ga S fun a S => ?_
  refine gnt ?_
  have S := ((S.nil.cons S 1 rfl).cons S 0 rfl).cons S 4 rfl
  refine g_ret ?_
  refine r_then (ret1 rfl S rfl ?_)
  exact ⟨by unfold electE; rw [if_neg hno], z, by unfold Grp.elect; rw [if_neg (fun e => hno e.1)]; exact H⟩
 ·have h1p := h1; try simp only [DL] at h1p
  have hi : i < n := by simpa using h1
  have hin : i < g.n := by rw [hz.en]; exact hi
  have H := (grpOut H).1
  obtain ⟨H, hf⟩ := peerOut H hi
  have hlo := hF.lim.log i hin
  have htm := hF.lim.tm i hin
  have htm0 : 0 ≤ (g.at_ i).term := by obtain ⟨γ, R⟩ := hF.ri; exact R.term0 hin
  have iS : ∀ l, HasSl (BagA 2 Ent.enc z.bag :: l) (z.p i).lv 2 Ent Ent.enc (g.at_ i).log := bagSl (hz.lg i hi)
  refine g_skip ?_
  refine n_then ?_
  have S := ((S.nil.cons S 1 rfl).cons S 0 rfl).cons S 4 rfl
  refine gsr ?_
  refine gm S fun a S => ?_
  refine gy rfl rfl rfl S (y_nilCheck rfl S rfl) fun a S => ?_
  refine gy rfl rfl rfl S (y_faddrb rfl Ffo52_0 S rfl) fun a S => ?_
  refine gy rfl rfl rfl S (y_load rfl Fsca50 S H rfl rfl) fun a S => ?_
  refine gm S fun a S => ?_
  refine gy rfl rfl rfl S (y_iaddrn rfl Try.underlying50 Fsiz53 S H rfl rfl (by first | assumption | omega | (simp only [List.length_range]; omega) | (simp only [List.length_replicate]; omega) | (simp only [List.length_cons]; omega))) fun a S => ?_
  refine gy rfl rfl rfl S ((y_loadsD c.pv 0 rfl Fsca53 S H rfl (by simp only [List.length_range]; omega) (ldPt hi))) fun a S => ?_
  refine ga S fun a S => ?_
  refine gnt ?_
  have S := (((S.nil.cons S 1 rfl).cons S 0 rfl).cons S 4 rfl).cons S 5 rfl
  refine g_seq ?_
  refine gsr ?_
  refine gm S fun a S => ?_
  refine gy rfl rfl rfl S (y_nilCheck rfl S rfl) fun a S => ?_
  refine gy rfl rfl rfl S (y_faddrb rfl Ffo58_3 S rfl) fun a S => ?_
  refine gy rfl rfl rfl S (y_load rfl Fsca4 S H rfl rfl) fun a S => ?_
  refine gnt ?_
  refine c_if S rfl (fun h2 => ?_) (fun h2 => ?_)
  ·have h2p := h2; try simp only [DL] at h2p
   have hd : (g.at_ i).down = true := by simpa using h2
   refine gsr ?_
   refine ga S fun a S => ?_
   refine gnt ?_
   have S := (((S.nil.cons S 1 rfl).cons S 0 rfl).cons S 5 rfl).cons S 4 rfl
   refine g_ret ?_
   refine r_then (ret1 rfl S rfl ?_)
   exact ⟨by unfold electE; rw [if_pos hin, if_pos hd], _, by unfold Grp.elect; rw [if_neg (fun e => by rw [hd] at e; cases e.2)]; exact putSame (H.takeT [PCel (c.pb i) (z.p i) (g.at_ i), OMap (z.p i).vb eB (z.p i).vm (z.p i).vc, OMap (z.p i).ab kI (z.p i).am (z.p i).ac, PRest c n g z i, MapA c.qb kQ eV z.qm z.qc, QuesA n z.qm z.qv, BagA 2 Ent.enc z.bag] (GCel c :: GPts c n :: l)) hz hi hf (fun _ h => h) hz.cp⟩
  ·have h2p := h2; try simp only [DL] at h2p
   have hd : (g.at_ i).down = false := by simpa using h2
   refine g_skip ?_
   refine n_then ?_
   have S := (((S.nil.cons S 1 rfl).cons S 0 rfl).cons S 4 rfl).cons S 5 rfl
   refine gsr ?_
   refine gm S fun a S => ?_
   refine gy rfl rfl rfl S (y_nilCheck rfl S rfl) fun a S => ?_
   refine gy rfl rfl rfl S (y_faddrb rfl Ffo58_0 S rfl) fun a S => ?_
   refine gy rfl rfl rfl S (y_load rfl Fsca3 S H rfl rfl) fun a S => ?_
   refine gy rfl rfl rfl S (y_add rfl S rfl rfl (by omega)) fun a S => ?_
   refine gy rfl rfl rfl S (y_nilCheck rfl S rfl) fun a S => ?_
   refine gy rfl rfl rfl S (y_faddrb rfl Ffo58_0 S rfl) fun a S => ?_
   refine wl_of (op_store (wn rfl) rfl rfl S H rfl rfl rfl Fsiz3 rfl fun a w S H => ?_)
   dsimp only [List.set, Nat.zero_add, Nat.reduceAdd] at H
   refine gnt ?_
   have S := (((S.nil.cons S 1 rfl).cons S 0 rfl).cons S 4 rfl).cons S 5 rfl
   refine gsr ?_
   refine gm S fun a S => ?_
   refine gm S fun a S => ?_
   refine gm S fun a S => ?_
   refine gm S fun a S => ?_
   refine wl_of (op_makeMap (fun n : Int => .int .i64 n) (fun b : Bool => .bool b) (wn rfl) rfl rfl rfl S H fun b32 a w S H => ?_)
   refine gm S fun a S => ?_
   refine wl_of (op_insert ((i : Int)) (true) (wn rfl) rfl rfl Try.underlying55 S H rfl (keyOK_int Try.underlying3) (by exact rfl) (by exact rfl) fun a w S H => ?_)
   refine gm S fun a S => ?_
   refine gy rfl rfl rfl S (y_nilCheck rfl S rfl) fun a S => ?_
   refine gy rfl rfl rfl S (y_faddrb rfl Ffo58_1 S rfl) fun a S => ?_
   refine wl_of (op_store (wn rfl) rfl rfl S H rfl rfl rfl Fsiz3 rfl fun a w S H => ?_)
   dsimp only [List.set, Nat.zero_add, Nat.reduceAdd] at H
   refine gy rfl rfl rfl S (y_nilCheck rfl S rfl) fun a S => ?_
   refine gy rfl rfl rfl S (y_faddrb rfl Ffo58_4 S rfl) fun a S => ?_
   refine wl_of (op_store (wn rfl) rfl rfl S H rfl rfl rfl Fsiz9 rfl fun a w S H => ?_)
   dsimp only [List.set, Nat.zero_add, Nat.reduceAdd] at H
   refine gy rfl rfl rfl S (y_nilCheck rfl S rfl) fun a S => ?_
   refine gy rfl rfl rfl S (y_faddrb rfl Ffo58_6 S rfl) fun a S => ?_
   refine wl_of (op_store (wn rfl) rfl rfl S H rfl rfl rfl Fsiz55 rfl fun a w S H => ?_)
   dsimp only [List.set, Nat.zero_add, Nat.reduceAdd] at H
   refine gnt ?_
   have S := (((S.nil.cons S 1 rfl).cons S 0 rfl).cons S 4 rfl).cons S 5 rfl
   refine g_seq ?_
   refine region_st (loud := [15]) (tails := [15]) (free := []) [0, 1, 2, 3, 4, 5, 6, 7, 8, 9, 10, 11, 12, 13, 14, 15] [] Fmo (by kernel_rfl) (by kernel_rfl) rfl H ?_
   refine m_w rfl rfl (wn rfl) rfl rfl S (fun w H => y_move rfl S rfl) fun a S => ?_
   refine m_w rfl rfl (wn rfl) rfl rfl S (fun w H => y_move rfl S rfl) fun a S => ?_
   refine m_w rfl rfl (wn rfl) rfl rfl S (fun w H => y_move rfl S rfl) fun a S => ?_
   refine m_w rfl rfl (wn rfl) rfl rfl S (fun w H => y_nilCheck rfl S rfl) fun a S => ?_
   refine m_w rfl rfl (wn rfl) rfl rfl S (fun w H => y_faddrb rfl Ffo58_0 S rfl) fun a S => ?_
   refine m_w rfl rfl (wn rfl) rfl rfl S (fun w H => y_load rfl Fsca3 S H rfl rfl) fun a S => ?_
   refine m_w rfl rfl (wn rfl) rfl rfl S (fun w H => y_move rfl S rfl) fun a S => ?_
   refine m_c rfl rfl (wn rfl) rfl rfl S (fun w => co_func rfl Try.call30 S rfl) (fun w H => last_spec (c.pb i) ({ z.p i with vb := some b32, vm := upd (fun _ => none) (i : Int) true, vc := 1 } : PV) ((g.at_ i).ask i) w (H.rd (c.pb i)) (H.sl (z.p i).lv)) fun a S => ?_
   refine m_w rfl rfl (wn rfl) rfl rfl S (fun w H => y_move rfl S rfl) fun a S => ?_
   refine m_w rfl rfl (wn rfl) rfl rfl S (fun w H => y_nilCheck rfl S rfl) fun a S => ?_
   refine m_w rfl rfl (wn rfl) rfl rfl S (fun w H => y_faddrb rfl Ffo58_2 S rfl) fun a S => ?_
   refine m_w rfl rfl (wn rfl) rfl rfl S (fun w H => y_load rfl Fsca54 S H rfl rfl) fun a S => ?_
   refine m_w rfl rfl (wn rfl) rfl rfl S (fun w H => y_lens rfl Try.underlying54 S H rfl) fun a S => ?_
   refine m_w rfl rfl (wn rfl) rfl rfl S (fun w H => y_buildf rfl Fbld81 S rfl (idx := [0, 1, 2]) rfl (cs := [_, _, _]) rfl) fun a S => ?_
   refine m_w rfl rfl (wn rfl) rfl rfl S (fun w H => y_mkiface rfl Fnif81 S rfl) fun a S => ?_
   refine m_l rfl rfl (fun w H => op_call (wn rfl) rfl rfl S (co_func rfl Try.call29 S rfl) (all_spec c n (g.put i ((g.at_ i).ask i)) { z with p := fun v => if v = i then ({ z.p i with vb := some b32, vm := upd (fun _ => none) (i : Int) true, vc := 1 } : PV) else z.p v, bag := z.bag } i (.ask ((g.at_ i).term + 1) (lastT (g.at_ i).log) ((g.at_ i).log.length : Int), .slice none 0 0) _ (putIn ({ z.p i with vb := some b32, vm := upd (fun _ => none) (i : Int) true, vc := 1 } : PV) ((g.at_ i).ask i) (H.takeT [Cel (c.pb i) 58 [.int .i64 ((g.at_ i).term + 1), .int .i64 (i : Int), (z.p i).lv, .bool (g.at_ i).down, .string ⟨#[99, 97, 110, 100, 105, 100, 97, 116, 101]⟩, .int .i64 ((g.at_ i).done : Int), .map (some b32), .map (z.p i).ab], MapA b32 kI eB (upd (fun _ => none) (i : Int) true) (if ((fun _ => none : Int → Option Bool) (i : Int)).isSome = true then 0 else 0 + 1), OMap (z.p i).ab kI (z.p i).am (z.p i).ac, PRest c n g z i, MapA c.qb kQ eV z.qm z.qc, QuesA n z.qm z.qv, BagA 2 Ent.enc z.bag] (GCel c :: GPts c n :: l)) hz hi ⟨fun k => by rw [updI]; show _ = decide (k = i); by_cases e : k = i <;> simp [e], hf.a⟩ (fun _ h => h) hz.cp (hz.lg i hi) (fun _ h => by cases h) (fun h => by cases h)) hi (fun _ _ _ e => by cases e) rfl (fun j => by have := hF.len i j; show (g.q i j).length ≤ _; omega)) fun v w hc a S => ?_)
   obtain ⟨rfl, z1, _, H⟩ := hc
   
   refine m_tail H rfl ?_
   refine m_nil (fun w H => ?_)
   refine n_then ?_
   have S := ((S.nil.cons S 1 rfl).cons S 0 rfl).cons S 4 rfl
   refine gsr ?_
   refine gm S fun a S => ?_
   refine gm S fun a S => ?_
   refine wl_of (op_call (wn rfl) rfl rfl S (co_func rfl Try.call31 S rfl) (lead_spec c n ((g.put i ((g.at_ i).ask i)).all i (.ask ((g.at_ i).term + 1) (lastT (g.at_ i).log) ((g.at_ i).log.length : Int))) z1 i _ H hi (by rw [Grp.all_at, Grp.put_same _ hin]; rfl) (fun j => Nat.le_trans (all_q_len _ _ _ i j) (by have := hF.len i j; show (g.q i j).length + 1 ≤ _; omega)) (by rw [Grp.all_at, Grp.put_same _ hin]; show (g.at_ i).log.length ≤ _; omega)) fun v w hc a S => ?_)
   obtain ⟨rfl, z2, H⟩ := hc
   
   refine gnt ?_
   have S := S.nil.cons S 4 rfl
   refine gsr ?_
   refine ga S fun a S => ?_
   refine gnt ?_
   refine g_ret ?_
   refine ret1 rfl S rfl ?_
   exact ⟨by unfold electE; rw [if_pos hin, if_neg (by simp [hd])], z2, by unfold Grp.elect; rw [if_pos ⟨hin, hd⟩]; exact H⟩
set_option maxHeartbeats 1000000 in
/-- (*foyer/replica.Group).Deliver -/
theorem deliver_spec {M : Nat → Prop} {u0 : World} {l : List Atom} (c : GC) (n : Nat) (g : Grp) (z : GV) (i j : Nat) (lost : Bool) (w0 : World) (h0 : HSat M u0 (GrpA c n g z :: GCel c :: GPts c n :: l) w0) (hF : Fit g) :
    Ret Try.prog 12 #[.pointer (some ⟨c.b, 0, none⟩), .int .i64 (i : Int), .int .i64 (j : Int), .bool lost] w0 (fun u w => u = .bool (g.deliver i j lost).2 ∧ ∃ z', HSat M u0 (GrpA c n ((g.deliver i j lost).1) z' :: GCel c :: GPts c n :: l) w) := by
 refine ret_of_wp (nt := 67) Try.func12 rfl rfl rfl (fl := [(0, .pointer (some ⟨c.b, 0, none⟩)), (1, .int .i64 (i : Int)), (2, .int .i64 (j : Int)), (3, .bool lost)]) rfl (fun a S => ?_)
 have H := h0
 have hz := (grpOut H).2
 refine gsr ?_
 refine ga S fun a S => ?_
 refine gnt ?_
 refine g_seq ?_
 refine gsr ?_
 refine gm S fun a S => ?_
 refine gm S fun a S => ?_
 refine wl_of (op_call (wn rfl) rfl rfl S (co_func rfl Try.call25 S rfl) (has_spec c.b n c.pv (.map (some c.qb)) c.pb (i : Int) _ (H.rd c.b) (H.sl c.pv)) fun v w hc a S => ?_)
 obtain ⟨rfl, he⟩ := hc
 have H := H.ext he
 rw [hasB_nat] at S
 refine gy rfl rfl rfl S (y_not rfl S rfl) fun a S => ?_
 refine gm S fun a S => ?_
 refine' wl_or 4 15 rfl S H rfl rfl rfl rfl rfl rfl rfl (fun _ S => (wn rfl)) (fun h1 kk => ?yh1) (fun a w S H => ?_)
 case yh1 =>
  have h1p := h1; try simp only [DL] at h1p
  refine gz 15 h1 S rfl rfl rfl rfl rfl rfl (y_move rfl S rfl) fun a S => ?_
  refine gz 15 h1 S rfl rfl rfl rfl rfl rfl (y_move rfl S rfl) fun a S => ?_
  refine wl_of (op_call (wg' 15 rfl rfl S rfl h1 rfl) rfl rfl S (co_func rfl Try.call25 S rfl) (has_spec c.b n c.pv (.map (some c.qb)) c.pb (j : Int) _ (H.rd c.b) (H.sl c.pv)) fun v w hc a S => ?_)
  obtain ⟨rfl, he⟩ := hc
  have H := H.ext he
  rw [hasB_nat] at S
  refine gz 15 h1 S rfl rfl rfl rfl rfl rfl (y_not rfl S rfl) fun a S => ?_
  refine gy rfl rfl rfl S (y_or' rfl h1 S rfl rfl) fun a S => ?_
  exact kk _ _ (S.join 5 20 rfl rfl) H
 refine gm S fun a S => ?_
 refine' wl_or 3 21 rfl S H rfl rfl rfl rfl rfl rfl rfl (fun _ S => (wn rfl)) (fun h2 kk => ?yh2) (fun a w S H => ?_)
 case yh2 =>
  have h2p := h2; try simp only [DL] at h2p
  refine gz 21 h2 S rfl rfl rfl rfl rfl rfl (y_move rfl S rfl) fun a S => ?_
  refine gz 21 h2 S rfl rfl rfl rfl rfl rfl (y_move rfl S rfl) fun a S => ?_
  refine gz 21 h2 S rfl rfl rfl rfl rfl rfl (y_bin rfl S rfl rfl rfl) fun a S => ?_
  refine gy rfl rfl rfl S (y_or' rfl h2 S rfl rfl) fun a S => ?_
  exact kk _ _ (S.join 4 25 rfl rfl) H
 refine gnt ?_
 have S := (((((S.nil.cons S 3 rfl).cons S 2 rfl).cons S 1 rfl).cons S 0 rfl).cons S 8 rfl).cons S 25 rfl
 refine c_if S rfl (fun h3 => ?_) (fun h3 => ?_)
 ·have h3p := h3; try simp only [DL] at h3p
  have hno : ¬ (i < g.n ∧ j < g.n ∧ i ≠ j) := by rw [hz.en]; rintro ⟨e1, e2, e3⟩; rcases h3p with (h | h) | h; exact h e1; exact h e2; exact e3 (by omega)
  refine gsr ?_
  refine ga S fun a S => ?_
  refine gnt ?_
  refine g_ret ?_
  refine r_then (ret1 rfl S rfl ?_)
  exact ⟨by unfold Grp.deliver; rw [if_neg hno], z, by unfold Grp.deliver; rw [if_neg hno]; exact H⟩
 ·have h3p := h3; try simp only [DL] at h3p
  obtain ⟨hi, hj, hij⟩ : i < n ∧ j < n ∧ i ≠ j := by simp at h3; omega
  have hx : i < g.n ∧ j < g.n ∧ i ≠ j := by rw [hz.en]; exact ⟨hi, hj, hij⟩
  have H := (grpOut H).1
  have H := queOut (H.pick [QuesA n z.qm z.qv]) hi hj
  simp only [List.append_eq, List.nil_append] at H
  refine g_skip ?_
  refine n_then ?_
  refine gsr ?_
  refine gm S fun a S => ?_
  refine gm S fun a S => ?_
  refine gy rfl rfl rfl S (y_buildf rfl Fbld69 S rfl (idx := [0, 1]) rfl (cs := [.int .i64 (i : Int), .int .i64 (j : Int)]) rfl) fun a S => ?_
  refine wl_of (op_alloc (wn rfl) rfl rfl rfl S H Fzer69 fun b9 a w S H => ?_)
  refine wl_of (op_storea (wn rfl) rfl rfl S H rfl rfl rfl Fsiz69 rfl (cs' := [_, _]) rfl fun a w S H => ?_)
  refine gnt ?_
  have S := (((((S.nil.cons S 3 rfl).cons S 2 rfl).cons S 1 rfl).cons S 0 rfl).cons S 8 rfl).cons S 9 rfl
  refine g_seq ?_
  rcases hqm : z.qm ((i : Int), (j : Int)) with _ | v
  ·rw [hqm] at H
   have hnil : z.qv i j = [] := (H.pick [QueA none (z.qv i j)]).fact
   have hgq : g.q i j = [] := by rw [← hz.qe, hnil]; rfl
   refine region_st (loud := []) (tails := []) (free := []) [0, 1, 2, 3, 4, 5, 6] [] Fmo (by kernel_rfl) (by kernel_rfl) rfl H ?_
   refine m_w rfl rfl (wn rfl) rfl rfl S (fun w H => y_move rfl S rfl) fun a S => ?_
   refine m_w rfl rfl (wn rfl) rfl rfl S (fun w H => y_nilCheck rfl S rfl) fun a S => ?_
   refine m_w rfl rfl (wn rfl) rfl rfl S (fun w H => y_faddrb rfl Ffo52_1 S rfl) fun a S => ?_
   refine m_w rfl rfl (wn rfl) rfl rfl S (fun w H => y_load rfl Fsca49 S H rfl rfl) fun a S => ?_
   refine m_w rfl rfl (wn rfl) rfl rfl S (fun w H => y_load0 rfl S H rfl (by exact Fagg69)) fun a S => ?_
   refine m_w rfl rfl (wn rfl) rfl rfl S (fun w H => y_lookupE (((i : Int), (j : Int))) (.slice none 0 0) rfl Try.underlying49 Finf70 S H rfl (keyOK_a2 Try.underlying69 Try.underlying3 (by exact Fsz3)) (by exact rfl) (by exact rfl) rfl) fun a S => ?_
   simp only [hqm, Option.getD_none] at S
   refine m_w rfl rfl (wn rfl) rfl rfl S (fun w H => y_assign rfl S rfl) fun a S => ?_
   refine m_nil (fun w H => ?_)
   refine n_then ?_
   have S := ((((((S.nil.cons S 3 rfl).cons S 2 rfl).cons S 1 rfl).cons S 0 rfl).cons S 8 rfl).cons S 9 rfl).cons S 10 rfl
   refine g_seq ?_
   refine gsr ?_
   refine gm S fun a S => ?_
   refine gy rfl rfl rfl S (y_len rfl Try.underlying70 S rfl) fun a S => ?_
   refine gy rfl rfl rfl S (y_bin rfl S rfl rfl rfl) fun a S => ?_
   refine gnt ?_
   refine c_if S rfl (fun h4 => ?_) (fun h4 => ?_)
   ·have h4p := h4; try simp only [DL] at h4p
    refine gsr ?_
    refine ga S fun a S => ?_
    refine gnt ?_
    have S := ((((((S.nil.cons S 3 rfl).cons S 2 rfl).cons S 1 rfl).cons S 0 rfl).cons S 9 rfl).cons S 10 rfl).cons S 8 rfl
    refine g_ret ?_
    refine r_then (ret1 rfl S rfl ?_)
    refine ⟨by unfold Grp.deliver; rw [if_pos hx, hgq], ?_⟩
    unfold Grp.deliver; rw [if_pos hx, hgq]; exact ⟨z, queBack (H.takeT [QueA none (z.qv i j), QueR n i j z.qm z.qv, PrsA c n g z, MapA c.qb kQ eV z.qm z.qc, BagA 2 Ent.enc z.bag] (GCel c :: GPts c n :: l)) hz hi hj hqm⟩
   ·have h4p := h4; try simp only [DL] at h4p
    all_goals (
      exact absurd h4 (by simp))
  ·rw [hqm] at H
   have H := H.front (QueA (some v) (z.qv i j))
   have H : HSat _ _ (QSl 73 v encM (z.qv i j) :: _) _ := H
   refine region_st (loud := []) (tails := []) (free := []) [0, 1, 2, 3, 4, 5, 6] [] Fmo (by kernel_rfl) (by kernel_rfl) rfl H ?_
   refine m_w rfl rfl (wn rfl) rfl rfl S (fun w H => y_move rfl S rfl) fun a S => ?_
   refine m_w rfl rfl (wn rfl) rfl rfl S (fun w H => y_nilCheck rfl S rfl) fun a S => ?_
   refine m_w rfl rfl (wn rfl) rfl rfl S (fun w H => y_faddrb rfl Ffo52_1 S rfl) fun a S => ?_
   refine m_w rfl rfl (wn rfl) rfl rfl S (fun w H => y_load rfl Fsca49 S H rfl rfl) fun a S => ?_
   refine m_w rfl rfl (wn rfl) rfl rfl S (fun w H => y_load0 rfl S H rfl (by exact Fagg69)) fun a S => ?_
   refine m_w rfl rfl (wn rfl) rfl rfl S (fun w H => y_lookupE (((i : Int), (j : Int))) (.slice none 0 0) rfl Try.underlying49 Finf70 S H rfl (keyOK_a2 Try.underlying69 Try.underlying3 (by exact Fsz3)) (by exact rfl) (by exact rfl) rfl) fun a S => ?_
   simp only [hqm, Option.getD_some] at S
   refine m_w rfl rfl (wn rfl) rfl rfl S (fun w H => y_assign rfl S rfl) fun a S => ?_
   refine m_nil (fun w H => ?_)
   refine n_then ?_
   have S := ((((((S.nil.cons S 3 rfl).cons S 2 rfl).cons S 1 rfl).cons S 0 rfl).cons S 8 rfl).cons S 9 rfl).cons S 10 rfl
   refine g_seq ?_
   refine gsr ?_
   refine gm S fun a S => ?_
   refine gy rfl rfl rfl S (y_lens rfl Try.underlying70 S H rfl) fun a S => ?_
   refine gy rfl rfl rfl S (y_bin rfl S rfl rfl rfl) fun a S => ?_
   refine gnt ?_
   refine c_if S rfl (fun h5 => ?_) (fun h5 => ?_)
   ·have h5p := h5; try simp only [DL] at h5p
    have hgq : g.q i j = [] := by rw [← hz.qe]; have : z.qv i j = [] := List.eq_nil_of_length_eq_zero (by simpa using h5); rw [this]; rfl
    refine gsr ?_
    refine ga S fun a S => ?_
    refine gnt ?_
    have S := ((((((S.nil.cons S 3 rfl).cons S 2 rfl).cons S 1 rfl).cons S 0 rfl).cons S 9 rfl).cons S 10 rfl).cons S 8 rfl
    refine g_ret ?_
    refine r_then (ret1 rfl S rfl ?_)
    refine ⟨by unfold Grp.deliver; rw [if_pos hx, hgq], ?_⟩
    unfold Grp.deliver; rw [if_pos hx, hgq]; exact ⟨z, queBack (m := some v) (H.takeT [QSl 73 v encM (z.qv i j), QueR n i j z.qm z.qv, PrsA c n g z, MapA c.qb kQ eV z.qm z.qc, BagA 2 Ent.enc z.bag] (GCel c :: GPts c n :: l)) hz hi hj hqm⟩
   ·have h5p := h5; try simp only [DL] at h5p
    rcases hqv : z.qv i j with _ | ⟨mv, rv⟩
    · rw [hqv] at h5; simp at h5
    rw [hqv] at H
    have hgq : g.q i j = mv.1 :: rv.map (·.1) := by rw [← hz.qe, hqv]; rfl
    have H := peerOut (H.front (PrsA c n g z)) hj
    obtain ⟨H, hf⟩ := H
    refine g_skip ?_
    refine n_then ?_
    refine g_seq ?_
    refine region_st (loud := [7]) (tails := [7]) (free := []) [0, 1, 2, 3, 4, 5, 6, 7] [GCel c] Fmo (by kernel_rfl) (by kernel_rfl) rfl H ?_
    refine m_w rfl rfl (wn rfl) rfl rfl S (fun w H => y_move rfl S rfl) fun a S => ?_
    refine m_w rfl rfl (wn rfl) rfl rfl S (fun w H => y_nilCheck rfl S rfl) fun a S => ?_
    refine m_w rfl rfl (wn rfl) rfl rfl S (fun w H => y_faddrb rfl Ffo52_1 S rfl) fun a S => ?_
    refine m_w rfl rfl (wn rfl) rfl rfl S (fun w H => y_load rfl Fsca49 S H rfl rfl) fun a S => ?_
    refine m_w rfl rfl (wn rfl) rfl rfl S (fun w H => y_load0 rfl S H rfl (by exact Fagg69)) fun a S => ?_
    refine m_w rfl rfl (wn rfl) rfl rfl S (fun w H => y_move rfl S rfl) fun a S => ?_
    refine m_w rfl rfl (wn rfl) rfl rfl S (fun w H => y_sliceL rfl Try.underlying70 Fsiz73 S H rfl rfl (by first | assumption | omega | (simp only [List.length_range]; omega) | (simp only [List.length_replicate]; omega) | (simp only [List.length_cons]; omega))) fun a S => ?_
    refine m_l rfl rfl (fun w H => op_mapUpdate (((i : Int), (j : Int))) (_) (wn rfl) rfl rfl Try.underlying49 S H rfl (keyOK_a2 Try.underlying69 Try.underlying3 (by exact Fsz3)) (by exact rfl) (by exact rfl) fun a w S H => m_tail H rfl ?_)
    refine m_nil (fun w H => ?_)
    refine n_then ?_
    have S := (((((S.nil.cons S 3 rfl).cons S 2 rfl).cons S 1 rfl).cons S 0 rfl).cons S 8 rfl).cons S 10 rfl
    refine g_seq ?_
    refine gsr ?_
    refine gm S fun a S => ?_
    refine gy rfl rfl rfl S (y_not rfl S rfl) fun a S => ?_
    refine gm S fun a S => ?_
    refine' wl_and 11 47 rfl S H rfl rfl rfl rfl rfl rfl rfl (fun _ S => (wn rfl)) (fun h6 kk => ?yh6) (fun a w S H => ?_)
    case yh6 =>
     have h6p := h6; try simp only [DL] at h6p
     refine gz 47 h6 S rfl rfl rfl rfl rfl rfl (y_move rfl S rfl) fun a S => ?_
     refine gz 47 h6 S rfl rfl rfl rfl rfl rfl (y_nilCheck rfl S rfl) fun a S => ?_
     refine gz 47 h6 S rfl rfl rfl rfl rfl rfl (y_faddrb rfl Ffo52_0 S rfl) fun a S => ?_
     refine gz 47 h6 S rfl rfl rfl rfl rfl rfl (y_load rfl Fsca50 S H rfl rfl) fun a S => ?_
     refine gz 47 h6 S rfl rfl rfl rfl rfl rfl (y_move rfl S rfl) fun a S => ?_
     refine gz 47 h6 S rfl rfl rfl rfl rfl rfl (y_iaddrn rfl Try.underlying50 Fsiz53 S H rfl rfl (by first | assumption | omega | (simp only [List.length_range]; omega) | (simp only [List.length_replicate]; omega) | (simp only [List.length_cons]; omega))) fun a S => ?_
     refine gz 47 h6 S rfl rfl rfl rfl rfl rfl ((y_loadsD c.pv 0 rfl Fsca53 S H rfl (by simp only [List.length_range]; omega) (ldPt hj))) fun a S => ?_
     refine gz 47 h6 S rfl rfl rfl rfl rfl rfl (y_nilCheck rfl S rfl) fun a S => ?_
     refine gz 47 h6 S rfl rfl rfl rfl rfl rfl (y_faddrb rfl Ffo58_3 S rfl) fun a S => ?_
     refine gz 47 h6 S rfl rfl rfl rfl rfl rfl (y_load rfl Fsca4 S H rfl rfl) fun a S => ?_
     refine gz 47 h6 S rfl rfl rfl rfl rfl rfl (y_not rfl S rfl) fun a S => ?_
     refine gy rfl rfl rfl S (y_and' rfl h6 S rfl rfl) fun a S => ?_
     exact kk _ _ (S.join 12 59 rfl rfl) H
    refine gnt ?_
    have S := (((((S.nil.cons S 2 rfl).cons S 1 rfl).cons S 0 rfl).cons S 8 rfl).cons S 10 rfl).cons S 59 rfl
    refine c_if S rfl (fun h7 => ?_) (fun h7 => ?_)
    ·have h7p := h7; try simp only [DL] at h7p
     have hgo : lost = false ∧ (g.at_ j).down = false := by simpa using h7
     refine g_region ?_
     refine gm S fun a S => ?_
     refine gm S fun a S => ?_
     refine gm S fun a S => ?_
     refine gm S fun a S => ?_
     refine gy rfl rfl rfl S (y_iaddrs rfl Try.underlying70 Fsiz73 S H rfl rfl (by first | assumption | omega | (simp only [List.length_range]; omega) | (simp only [List.length_replicate]; omega) | (simp only [List.length_cons]; omega))) fun a S => ?_
     refine gy rfl rfl rfl S (y_loads _ rfl Fsca73 S H rfl (by first | assumption | omega | (simp only [List.length_range]; omega) | (simp only [List.length_replicate]; omega) | (simp only [List.length_cons]; omega)) rfl) fun a S => ?_
     have ⟨z1, hb1, H⟩ := popIn (H.takeT [QSl 73 v encM (mv :: rv), QueR n i j z.qm z.qv, PCel (c.pb j) (z.p j) (g.at_ j), OMap (z.p j).vb eB (z.p j).vm (z.p j).vc, OMap (z.p j).ab kI (z.p j).am (z.p j).ac, PRest c n g z j, MapA c.qb kQ eV (upd z.qm ((i : Int), (j : Int)) (subV v 1 (mv :: rv).length 1)) (if (z.qm ((i : Int), (j : Int))).isSome = true then z.qc else z.qc + 1), BagA 2 Ent.enc z.bag] (GCel c :: GPts c n :: l)) hz hi hj hf hqv rfl
     refine wl_of (op_call (wn rfl) rfl rfl S (co_func rfl Try.call26 S rfl) (receive_any c n (g.pop i j (rv.map (·.1))) z1 i j mv _ H hi hj (fun b => by have := hF.len j b; rw [show (g.pop i j (rv.map (·.1))).q j b = g.q j b from if_neg (fun e => hij e.1.symm)]; omega) (by have := hF.lim.log j hx.2.1; show (g.at_ j).log.length ≤ _; omega) (fun t lg d e => ⟨by rw [hb1]; exact hz.sh i j mv (by rw [hqv]; exact List.mem_cons_self ..) t lg d e, by have := (hF.lim.qs i j mv.1 (by rw [hgq]; exact List.mem_cons_self ..)).2 t lg d e; omega⟩)) fun v w hc a S => ?_)
     obtain ⟨rfl, z2, H⟩ := hc
     
     refine gnt ?_
     have S := S.nil.cons S 8 rfl
     refine gsr ?_
     refine ga S fun a S => ?_
     refine gnt ?_
     refine g_ret ?_
     refine ret1 rfl S rfl ?_
     refine ⟨by unfold Grp.deliver; rw [if_pos hx, hgq], ?_⟩
     unfold Grp.deliver; rw [if_pos hx, hgq]; dsimp only; rw [if_pos hgo]; exact ⟨z2, H⟩
    ·have h7p := h7; try simp only [DL] at h7p
     have hgo : ¬ (lost = false ∧ (g.at_ j).down = false) := fun e => by rw [e.1, e.2] at h7; simp at h7
     refine g_skip ?_
     refine n_then ?_
     have S := S.nil.cons S 8 rfl
     refine gsr ?_
     refine ga S fun a S => ?_
     refine gnt ?_
     refine g_ret ?_
     refine ret1 rfl S rfl ?_
     have ⟨z1, hb1, H⟩ := popIn (H.takeT [QSl 73 v encM (mv :: rv), QueR n i j z.qm z.qv, PCel (c.pb j) (z.p j) (g.at_ j), OMap (z.p j).vb eB (z.p j).vm (z.p j).vc, OMap (z.p j).ab kI (z.p j).am (z.p j).ac, PRest c n g z j, MapA c.qb kQ eV (upd z.qm ((i : Int), (j : Int)) (subV v 1 (mv :: rv).length 1)) (if (z.qm ((i : Int), (j : Int))).isSome = true then z.qc else z.qc + 1), BagA 2 Ent.enc z.bag] (GCel c :: GPts c n :: l)) hz hi hj hf hqv rfl
     refine ⟨by unfold Grp.deliver; rw [if_pos hx, hgq], ?_⟩
     unfold Grp.deliver; rw [if_pos hx, hgq]; dsimp only; rw [if_neg hgo]; exact ⟨z1, H⟩
end Go.Proofs.Ytbjknckddoegfaa
