/- The walks. No condition. -/
import Derived.Test.YtbjknckddoegfaaChecked
import Derived.Test.YtbjknckddoegfaaGwFam
import Derived.Test.YtbjknckddoegfaaFacts
import Derived.Test.YtbjknckddoegfaaPlainN
import Derived.Test.YtbjknckddoegfaaW10
namespace Go.Proofs.Ytbjknckddoegfaa
open Go Go.Gw
set_option linter.unusedVariables false
set_option linter.unusedSimpArgs false
theorem rreceive_any {M : Nat → Prop} {u0 : World} {l : List Atom} (c : RC) (n : Nat) (g : Grp) (z : RGV) (i j : Nat) (m : MV) (w0 : World) (h0 : HSat M u0 (RGrpA c n g z :: RCel c :: RPts c n :: l) w0) (hi : i < n) (hj : j < n) (hq : ∀ b, (g.q j b).length ≤ 900000) (hlen : (g.at_ j).log.length ≤ 200000) (hm : ∀ t l d, m.1 = .share t l d → (m.2, l) ∈ z.bag ∧ l.length ≤ 200000) :
    Ret Try.prog 28 #[.pointer (some ⟨c.b, 0, none⟩), .int .i64 (j : Int), .int .i64 (i : Int), .agg (rmC m.1 m.2).toArray] w0 (fun u w => u = .tuple #[] ∧ ∃ z', HSat M u0 (RGrpA c n (g.receive i j m.1) z' :: RCel c :: RPts c n :: l) w) := by
  obtain ⟨x, v⟩ := m
  cases x with
  | ask t la k => exact rreceive_ask c n g z i j t la k v w0 h0 hi hj hq hlen
  | vote t b => exact rreceive_vote c n g z i j t b v w0 h0 hi hj hq hlen
  | share t lg d => exact rreceive_share c n g z i j t lg d v w0 h0 hi hj hq hlen (hm t lg d rfl).1 (hm t lg d rfl).2
  | ack t k => exact rreceive_ack c n g z i j t k v w0 h0 hi hj hq hlen
/-- (*foyer/foyerref48.Group).Crash -/
theorem rcrash_spec {M : Nat → Prop} {u0 : World} {l : List Atom} (c : RC) (n : Nat) (g : Grp) (z : RGV) (i : Nat) (b : Bool) (w0 : World) (h0 : HSat M u0 (RGrpA c n g z :: RCel c :: RPts c n :: l) w0) :
    Ret Try.prog 19 #[.pointer (some ⟨c.b, 0, none⟩), .int .i64 (i : Int), .bool b] w0 (fun u w => u = .int .i64 (crashE g i b) ∧ ∃ z', HSat M u0 (RGrpA c n (g.crash i b) z' :: RCel c :: RPts c n :: l) w) := by
 refine ret_of_wp (nt := 35) Try.func19 rfl rfl rfl (fl := [(0, .pointer (some ⟨c.b, 0, none⟩)), (1, .int .i64 (i : Int)), (2, .bool b)]) rfl (fun a S => ?_)
 have H := h0
 have hz := (rgrpOut h0).2
 refine gsr ?_
 refine ga S fun a S => ?_
 refine gnt ?_
 refine g_seq ?_
 refine gsr ?_
 refine gm S fun a S => ?_
 refine gm S fun a S => ?_
 refine wl_of (op_call (wn rfl) rfl rfl S (co_func rfl Try.call27 S rfl) (rhas_spec c.b n c.av c.qv c.pb (i : Int) _ (H.rd c.b) (H.sl c.av)) fun v w hc a S => ?_)
 obtain ⟨rfl, he⟩ := hc
 have H := H.ext he
 rw [hasB_nat] at S
 refine gy rfl rfl rfl S (y_not rfl S rfl) fun a S => ?_
 refine gnt ?_
 refine c_if S rfl (fun h1 => ?_) (fun h1 => ?_)
 ·have h1p := h1; try simp only [DL] at h1p
  have hno : ¬ i < g.n := by rw [hz.en]; simpa using h1
  refine gsr ?_
  refine ga S fun a S => ?_
  refine gnt ?_
  have S := (((S.nil.cons S 2 rfl).cons S 1 rfl).cons S 0 rfl).cons S 6 rfl
  refine g_ret ?_
  refine r_then (ret1 rfl S rfl ?_)
  exact ⟨by unfold crashE; rw [if_neg hno], z, by unfold Grp.crash; rw [if_neg (fun e => hno e.1)]; exact H⟩
 ·have h1p := h1; try simp only [DL] at h1p
  have hi : i < n := by simpa using h1
  have hin : i < g.n := by rw [hz.en]; exact hi
  have H := (rgrpOut H).1
  obtain ⟨H, hf⟩ := replOut H hi
  refine g_skip ?_
  refine n_then ?_
  have S := (((S.nil.cons S 2 rfl).cons S 1 rfl).cons S 0 rfl).cons S 6 rfl
  refine gsr ?_
  refine gm S fun a S => ?_
  refine gy rfl rfl rfl S (y_nilCheck rfl S rfl) fun a S => ?_
  refine gy rfl rfl rfl S (y_faddrb rfl Ffo62_0 S rfl) fun a S => ?_
  refine gy rfl rfl rfl S (y_load rfl Fsca60 S H rfl rfl) fun a S => ?_
  refine gm S fun a S => ?_
  refine gy rfl rfl rfl S (y_iaddrn rfl Try.underlying60 Fsiz63 S H rfl rfl (by first | assumption | omega | (simp only [List.length_range]; omega) | (simp only [List.length_replicate]; omega) | (simp only [List.length_cons]; omega))) fun a S => ?_
  refine gy rfl rfl rfl S ((y_loadsD c.av 0 rfl Fsca63 S H rfl (by simp only [List.length_range]; omega) (ldPt hi))) fun a S => ?_
  refine ga S fun a S => ?_
  refine gnt ?_
  have S := ((S.nil.cons S 2 rfl).cons S 6 rfl).cons S 7 rfl
  refine g_seq ?_
  refine gsr ?_
  refine gm S fun a S => ?_
  refine gy rfl rfl rfl S (y_nilCheck rfl S rfl) fun a S => ?_
  refine gy rfl rfl rfl S (y_faddrb rfl Ffo67_3 S rfl) fun a S => ?_
  refine gy rfl rfl rfl S (y_load rfl Fsca4 S H rfl rfl) fun a S => ?_
  refine gm S fun a S => ?_
  refine gy rfl rfl rfl S (y_eqb rfl Try.underlying4 S rfl rfl) fun a S => ?_
  refine gnt ?_
  have S := (((S.nil.cons S 2 rfl).cons S 6 rfl).cons S 7 rfl).cons S 24 rfl
  refine c_if S rfl (fun h2 => ?_) (fun h2 => ?_)
  ·have h2p := h2; try simp only [DL] at h2p
   have hd : (g.at_ i).down = b := by simpa using h2
   refine gsr ?_
   refine ga S fun a S => ?_
   refine gnt ?_
   refine g_ret ?_
   refine r_then (ret1 rfl S rfl ?_)
   exact ⟨by unfold crashE; rw [if_pos hin, if_pos hd], _, by unfold Grp.crash; rw [if_neg (fun e => e.2 hd)]; exact rputSame (H.takeT [RPCel (c.pb i) (z.p i) (g.at_ i), OSl 4 (z.p i).vv 1 eB1 (z.p i).vs, OSl 3 (z.p i).aw 1 encI (z.p i).ak, RRest c n g z i, RQs c z, BagA 7 encRM z.mb, BagA 2 Ent.enc z.bag] (RCel c :: RPts c n :: l)) hz hi hf (fun _ h => h)⟩
  ·have h2p := h2; try simp only [DL] at h2p
   have hd : (g.at_ i).down ≠ b := by simpa using h2
   refine g_skip ?_
   refine n_then ?_
   refine gsr ?_
   refine gm S fun a S => ?_
   refine gm S fun a S => ?_
   refine gy rfl rfl rfl S (y_nilCheck rfl S rfl) fun a S => ?_
   refine gy rfl rfl rfl S (y_faddrb rfl Ffo67_3 S rfl) fun a S => ?_
   refine wl_of (op_store (wn rfl) rfl rfl S H rfl rfl rfl Fsiz4 rfl fun a w S H => ?_)
   dsimp only [List.set, Nat.zero_add, Nat.reduceAdd] at H
   refine gnt ?_
   have S := (S.nil.cons S 6 rfl).cons S 7 rfl
   refine gsr ?_
   refine gm S fun a S => ?_
   refine gy rfl rfl rfl S (y_nilCheck rfl S rfl) fun a S => ?_
   refine gy rfl rfl rfl S (y_faddrb rfl Ffo67_4 S rfl) fun a S => ?_
   refine wl_of (op_store (wn rfl) rfl rfl S H rfl rfl rfl Fsiz3 rfl fun a w S H => ?_)
   dsimp only [List.set, Nat.zero_add, Nat.reduceAdd] at H
   refine gnt ?_
   refine gsr ?_
   refine gm S fun a S => ?_
   refine gy rfl rfl rfl S (y_nilCheck rfl S rfl) fun a S => ?_
   refine gy rfl rfl rfl S (y_faddrb rfl Ffo67_5 S rfl) fun a S => ?_
   refine wl_of (op_store (wn rfl) rfl rfl S H rfl rfl rfl Fsiz3 rfl fun a w S H => ?_)
   dsimp only [List.set, Nat.zero_add, Nat.reduceAdd] at H
   refine gnt ?_
   have S := S.nil.cons S 6 rfl
   refine gsr ?_
   refine ga S fun a S => ?_
   refine gnt ?_
   refine g_ret ?_
   refine ret1 rfl S rfl ?_
   exact ⟨by unfold crashE; rw [if_pos hin, if_neg hd], _, by unfold Grp.crash; rw [if_pos ⟨hin, hd⟩]; exact rputIn (z.p i) { g.at_ i with down := b, role := 0, done := 0 } (H.takeT [Cel (c.pb i) 67 [.int .i64 (g.at_ i).term, .int .i64 (g.at_ i).vote, (z.p i).lv, .bool b, .int .i64 0, .int .i64 0, (z.p i).vv, (z.p i).aw], OSl 4 (z.p i).vv 1 eB1 (z.p i).vs, OSl 3 (z.p i).aw 1 encI (z.p i).ak, RRest c n g z i, RQs c z, BagA 7 encRM z.mb, BagA 2 Ent.enc z.bag] (RCel c :: RPts c n :: l)) hz hi ⟨(fun h => by cases h), (fun h => by cases h), hf.t⟩ (fun _ h => h) (hz.lg i hi)⟩
set_option maxHeartbeats 1000000 in
/-- (*foyer/foyerref48.Group).Elect -/
theorem relect_spec {M : Nat → Prop} {u0 : World} {l : List Atom} (c : RC) (n : Nat) (g : Grp) (z : RGV) (i : Nat) (w0 : World) (h0 : HSat M u0 (RGrpA c n g z :: RCel c :: RPts c n :: l) w0) (hF : Fit g) :
    Ret Try.prog 15 #[.pointer (some ⟨c.b, 0, none⟩), .int .i64 (i : Int)] w0 (fun u w => u = .int .i64 (electE g i) ∧ ∃ z', HSat M u0 (RGrpA c n (g.elect i) z' :: RCel c :: RPts c n :: l) w) := by
 refine ret_of_wp (nt := 71) Try.func15 rfl rfl rfl (fl := [(0, .pointer (some ⟨c.b, 0, none⟩)), (1, .int .i64 (i : Int))]) rfl (fun a S => ?_)
 have H := h0
 have hz := (rgrpOut h0).2
 have hn7 := hz.n7
 refine gsr ?_
 refine ga S fun a S => ?_
 refine gnt ?_
 refine g_seq ?_
 refine gsr ?_
 refine gm S fun a S => ?_
 refine gm S fun a S => ?_
 refine wl_of (op_call (wn rfl) rfl rfl S (co_func rfl Try.call27 S rfl) (rhas_spec c.b n c.av c.qv c.pb (i : Int) _ (H.rd c.b) (H.sl c.av)) fun v w hc a S => ?_)
 obtain ⟨rfl, he⟩ := hc
 have H := H.ext he
 rw [hasB_nat] at S
 refine gy rfl rfl rfl S (y_not rfl S rfl) fun a S => ?_
 refine gnt ?_
 refine c_if S rfl (fun h1 => ?_) (fun h1 => ?_)
 ·have h1p := h1; try simp only [DL] at h1p
  have hno : ¬ i < g.n := by rw [hz.en]; simpa using h1
  refine gsr ?_
  refine ga S fun a S => ?_
  refine gnt ?_
  have S := ((S.nil.cons S 1 rfl).cons S 0 rfl).cons S 4 rfl
  refine g_ret ?_
  refine r_then (ret1 rfl S rfl ?_)
  exact ⟨by unfold electE; rw [if_neg hno], z, by unfold Grp.elect; rw [if_neg (fun e => hno e.1)]; exact H⟩
 ·have h1p := h1; try simp only [DL] at h1p
  have hi : i < n := by simpa using h1
  have hin : i < g.n := by rw [hz.en]; exact hi
  have H := (rgrpOut H).1
  obtain ⟨H, hf⟩ := replOut H hi
  have hlo := hF.lim.log i hin
  have htm := hF.lim.tm i hin
  have htm0 : 0 ≤ (g.at_ i).term := by obtain ⟨γ, R⟩ := hF.ri; exact R.term0 hin
  have iS : ∀ l, HasSl (BagA 2 Ent.enc z.bag :: l) (z.p i).lv 2 Ent Ent.enc (g.at_ i).log := bagSl (hz.lg i hi)
  refine g_skip ?_
  refine n_then ?_
  have S := ((S.nil.cons S 1 rfl).cons S 0 rfl).cons S 4 rfl
  refine gsr ?_
  refine gm S fun a S => ?_
  refine gy rfl rfl rfl S (y_nilCheck rfl S rfl) fun a S => ?_
  refine gy rfl rfl rfl S (y_faddrb rfl Ffo62_0 S rfl) fun a S => ?_
  refine gy rfl rfl rfl S (y_load rfl Fsca60 S H rfl rfl) fun a S => ?_
  refine gm S fun a S => ?_
  refine gy rfl rfl rfl S (y_iaddrn rfl Try.underlying60 Fsiz63 S H rfl rfl (by first | assumption | omega | (simp only [List.length_range]; omega) | (simp only [List.length_replicate]; omega) | (simp only [List.length_cons]; omega))) fun a S => ?_
  refine gy rfl rfl rfl S ((y_loadsD c.av 0 rfl Fsca63 S H rfl (by simp only [List.length_range]; omega) (ldPt hi))) fun a S => ?_
  refine ga S fun a S => ?_
  refine gnt ?_
  have S := (((S.nil.cons S 1 rfl).cons S 0 rfl).cons S 4 rfl).cons S 5 rfl
  refine g_seq ?_
  refine gsr ?_
  refine gm S fun a S => ?_
  refine gy rfl rfl rfl S (y_nilCheck rfl S rfl) fun a S => ?_
  refine gy rfl rfl rfl S (y_faddrb rfl Ffo67_3 S rfl) fun a S => ?_
  refine gy rfl rfl rfl S (y_load rfl Fsca4 S H rfl rfl) fun a S => ?_
  refine gnt ?_
  refine c_if S rfl (fun h2 => ?_) (fun h2 => ?_)
  ·have h2p := h2; try simp only [DL] at h2p
   have hd : (g.at_ i).down = true := by simpa using h2
   refine gsr ?_
   refine ga S fun a S => ?_
   refine gnt ?_
   have S := (((S.nil.cons S 1 rfl).cons S 0 rfl).cons S 5 rfl).cons S 4 rfl
   refine g_ret ?_
   refine r_then (ret1 rfl S rfl ?_)
   exact ⟨by unfold electE; rw [if_pos hin, if_pos hd], _, by unfold Grp.elect; rw [if_neg (fun e => by rw [hd] at e; cases e.2)]; exact rputSame (H.takeT [RPCel (c.pb i) (z.p i) (g.at_ i), OSl 4 (z.p i).vv 1 eB1 (z.p i).vs, OSl 3 (z.p i).aw 1 encI (z.p i).ak, RRest c n g z i, RQs c z, BagA 7 encRM z.mb, BagA 2 Ent.enc z.bag] (RCel c :: RPts c n :: l)) hz hi hf (fun _ h => h)⟩
  ·have h2p := h2; try simp only [DL] at h2p
   have hd : (g.at_ i).down = false := by simpa using h2
   refine g_skip ?_
   refine n_then ?_
   have S := (((S.nil.cons S 1 rfl).cons S 0 rfl).cons S 4 rfl).cons S 5 rfl
   refine gsr ?_
   refine gm S fun a S => ?_
   refine gy rfl rfl rfl S (y_nilCheck rfl S rfl) fun a S => ?_
   refine gy rfl rfl rfl S (y_faddrb rfl Ffo67_0 S rfl) fun a S => ?_
   refine gy rfl rfl rfl S (y_load rfl Fsca3 S H rfl rfl) fun a S => ?_
   refine gy rfl rfl rfl S (y_add rfl S rfl rfl (by omega)) fun a S => ?_
   refine gy rfl rfl rfl S (y_nilCheck rfl S rfl) fun a S => ?_
   refine gy rfl rfl rfl S (y_faddrb rfl Ffo67_0 S rfl) fun a S => ?_
   refine wl_of (op_store (wn rfl) rfl rfl S H rfl rfl rfl Fsiz3 rfl fun a w S H => ?_)
   dsimp only [List.set, Nat.zero_add, Nat.reduceAdd] at H
   refine gnt ?_
   have S := (((S.nil.cons S 1 rfl).cons S 0 rfl).cons S 4 rfl).cons S 5 rfl
   refine gsr ?_
   refine gm S fun a S => ?_
   refine gm S fun a S => ?_
   refine gy rfl rfl rfl S (y_nilCheck rfl S rfl) fun a S => ?_
   refine gy rfl rfl rfl S (y_faddrb rfl Ffo67_1 S rfl) fun a S => ?_
   refine wl_of (op_store (wn rfl) rfl rfl S H rfl rfl rfl Fsiz3 rfl fun a w S H => ?_)
   dsimp only [List.set, Nat.zero_add, Nat.reduceAdd] at H
   refine gnt ?_
   have S := (((S.nil.cons S 1 rfl).cons S 0 rfl).cons S 4 rfl).cons S 5 rfl
   refine gsr ?_
   refine gm S fun a S => ?_
   refine gy rfl rfl rfl S (y_nilCheck rfl S rfl) fun a S => ?_
   refine gy rfl rfl rfl S (y_faddrb rfl Ffo67_4 S rfl) fun a S => ?_
   refine wl_of (op_store (wn rfl) rfl rfl S H rfl rfl rfl Fsiz3 rfl fun a w S H => ?_)
   dsimp only [List.set, Nat.zero_add, Nat.reduceAdd] at H
   refine gnt ?_
   refine gsr ?_
   refine gm S fun a S => ?_
   refine gm S fun a S => ?_
   refine gy rfl rfl rfl S (y_nilCheck rfl S rfl) fun a S => ?_
   refine gy rfl rfl rfl S (y_faddrb rfl Ffo62_0 S rfl) fun a S => ?_
   refine gy rfl rfl rfl S (y_load rfl Fsca60 S H rfl rfl) fun a S => ?_
   refine gy rfl rfl rfl S (y_lens rfl Try.underlying60 S H rfl) fun a S => ?_
   rw [List.length_range] at S
   refine wl_of (op_make (eB1) (false) (wn rfl) rfl rfl rfl Try.underlying65 Finf4 rfl rfl S H rfl rfl rfl (by omega) (by omega) fun b41 a w S H => ?_)
   refine gy rfl rfl rfl S (y_nilCheck rfl S rfl) fun a S => ?_
   refine gy rfl rfl rfl S (y_faddrb rfl Ffo67_6 S rfl) fun a S => ?_
   refine wl_of (op_store (wn rfl) rfl rfl S H rfl rfl (H.sl1 _) Fsiz65 rfl fun a w S H => ?_)
   dsimp only [List.set, Nat.zero_add, Nat.reduceAdd] at H
   refine gnt ?_
   have S := (((S.nil.cons S 1 rfl).cons S 0 rfl).cons S 4 rfl).cons S 5 rfl
   refine gsr ?_
   refine gm S fun a S => ?_
   refine gy rfl rfl rfl S (y_nilCheck rfl S rfl) fun a S => ?_
   refine gy rfl rfl rfl S (y_faddrb rfl Ffo67_6 S rfl) fun a S => ?_
   refine gy rfl rfl rfl S (y_load rfl Fsca65 S H rfl rfl) fun a S => ?_
   refine gm S fun a S => ?_
   refine gy rfl rfl rfl S (y_iaddrn rfl Try.underlying65 Fsiz4 S H rfl rfl (by first | assumption | omega | (simp only [List.length_range]; omega) | (simp only [List.length_replicate]; omega) | (simp only [List.length_cons]; omega))) fun a S => ?_
   refine wl_of (op_store1 _ (true) (wn rfl) rfl rfl S H rfl rfl rfl rfl Fsiz4 (by first | assumption | omega | (simp only [List.length_range]; omega) | (simp only [List.length_replicate]; omega) | (simp only [List.length_cons]; omega)) (by exact rfl) fun a w S H => ?_)
   refine gnt ?_
   have S := (((S.nil.cons S 1 rfl).cons S 0 rfl).cons S 4 rfl).cons S 5 rfl
   refine g_seq ?_
   refine region_st (loud := [17]) (tails := [17]) (free := []) [0, 1, 2, 3, 4, 5, 6, 7, 8, 9, 10, 11, 12, 13, 14, 15, 16, 17] [] Fmo (by kernel_rfl) (by kernel_rfl) rfl H ?_
   refine m_w rfl rfl (wn rfl) rfl rfl S (fun w H => y_move rfl S rfl) fun a S => ?_
   refine m_w rfl rfl (wn rfl) rfl rfl S (fun w H => y_move rfl S rfl) fun a S => ?_
   refine m_w rfl rfl (wn rfl) rfl rfl S (fun w H => y_move rfl S rfl) fun a S => ?_
   refine m_w rfl rfl (wn rfl) rfl rfl S (fun w H => y_nilCheck rfl S rfl) fun a S => ?_
   refine m_w rfl rfl (wn rfl) rfl rfl S (fun w H => y_faddrb rfl Ffo67_0 S rfl) fun a S => ?_
   refine m_w rfl rfl (wn rfl) rfl rfl S (fun w H => y_load rfl Fsca3 S H rfl rfl) fun a S => ?_
   refine m_w rfl rfl (wn rfl) rfl rfl S (fun w H => y_move rfl S rfl) fun a S => ?_
   refine m_w rfl rfl (wn rfl) rfl rfl S (fun w H => y_nilCheck rfl S rfl) fun a S => ?_
   refine m_w rfl rfl (wn rfl) rfl rfl S (fun w H => y_faddrb rfl Ffo67_2 S rfl) fun a S => ?_
   refine m_w rfl rfl (wn rfl) rfl rfl S (fun w H => y_load rfl Fsca64 S H rfl rfl) fun a S => ?_
   refine m_c rfl rfl (wn rfl) rfl rfl S (fun w => co_func rfl Try.call33 S rfl) (fun w H => rlast_spec (z.p i).lv (g.at_ i).log w (H.sl (z.p i).lv)) fun a S => ?_
   refine m_w rfl rfl (wn rfl) rfl rfl S (fun w H => y_move rfl S rfl) fun a S => ?_
   refine m_w rfl rfl (wn rfl) rfl rfl S (fun w H => y_nilCheck rfl S rfl) fun a S => ?_
   refine m_w rfl rfl (wn rfl) rfl rfl S (fun w H => y_faddrb rfl Ffo67_2 S rfl) fun a S => ?_
   refine m_w rfl rfl (wn rfl) rfl rfl S (fun w H => y_load rfl Fsca64 S H rfl rfl) fun a S => ?_
   refine m_w rfl rfl (wn rfl) rfl rfl S (fun w H => y_lens rfl Try.underlying64 S H rfl) fun a S => ?_
   refine m_w rfl rfl (wn rfl) rfl rfl S (fun w H => y_buildf rfl Fbld76 S rfl (idx := [0, 1, 2, 3]) rfl (cs := [.int .i64 1, .int .i64 ((g.at_ i).term + 1), .int .i64 (lastT (g.at_ i).log), .int .i64 ((g.at_ i).log.length : Int), .bool false, .slice none 0 0, .int .i64 0]) rfl) fun a S => ?_
   refine m_l rfl rfl (fun w H => op_call (wn rfl) rfl rfl S (co_func rfl Try.call32 S rfl) (rall_spec c n (g.put i ((g.at_ i).ask i)) { z with p := fun v => if v = i then ({ z.p i with vv := .slice (some ⟨b41, 0, none⟩) n n, vs := (List.replicate n false).set i true } : RV) else z.p v, bag := z.bag } i (.ask ((g.at_ i).term + 1) (lastT (g.at_ i).log) ((g.at_ i).log.length : Int), .slice none 0 0) _ (rputIn ({ z.p i with vv := .slice (some ⟨b41, 0, none⟩) n n, vs := (List.replicate n false).set i true } : RV) ((g.at_ i).ask i) (H.takeT [Cel (c.pb i) 67 [.int .i64 ((g.at_ i).term + 1), .int .i64 (i : Int), (z.p i).lv, .bool (g.at_ i).down, .int .i64 1, .int .i64 ((g.at_ i).done : Int), .slice (some ⟨b41, 0, none⟩) n n, (z.p i).aw], OSl 4 (.slice (some ⟨b41, 0, none⟩) n n) 1 eB1 ((List.replicate n false).set i true), OSl 3 (z.p i).aw 1 encI (z.p i).ak, RRest c n g z i, RQs c z, BagA 7 encRM z.mb, BagA 2 Ent.enc z.bag] (RCel c :: RPts c n :: l)) hz hi ⟨fun _ => ⟨by simp, fun k hk => voteSelf hi k hk⟩, (fun h => by cases h), by show (-1 : Int) ≤ (i : Int); omega⟩ (fun _ h => h) (hz.lg i hi)) hi (fun _ _ _ e => by cases e) rfl (fun j => by have := hF.len i j; show (g.q i j).length ≤ _; omega)) fun v w hc a S => ?_)
   obtain ⟨rfl, z1, _, H⟩ := hc
   
   refine m_tail H rfl ?_
   refine m_nil (fun w H => ?_)
   refine n_then ?_
   have S := ((S.nil.cons S 1 rfl).cons S 0 rfl).cons S 4 rfl
   refine gsr ?_
   refine gm S fun a S => ?_
   refine gm S fun a S => ?_
   refine wl_of (op_call (wn rfl) rfl rfl S (co_func rfl Try.call34 S rfl) (rlead_spec c n ((g.put i ((g.at_ i).ask i)).all i (.ask ((g.at_ i).term + 1) (lastT (g.at_ i).log) ((g.at_ i).log.length : Int))) z1 i _ H hi (by rw [Grp.all_at, Grp.put_same _ hin]; rfl) (fun j => Nat.le_trans (all_q_len _ _ _ i j) (by have := hF.len i j; show (g.q i j).length + 1 ≤ _; omega)) (by rw [Grp.all_at, Grp.put_same _ hin]; show (g.at_ i).log.length ≤ _; omega)) fun v w hc a S => ?_)
   obtain ⟨rfl, z2, H⟩ := hc
   
   refine gnt ?_
   have S := S.nil.cons S 4 rfl
   refine gsr ?_
   refine ga S fun a S => ?_
   refine gnt ?_
   refine g_ret ?_
   refine ret1 rfl S rfl ?_
   exact ⟨by unfold electE; rw [if_pos hin, if_neg (by simp [hd])], z2, by unfold Grp.elect; rw [if_pos ⟨hin, hd⟩]; exact H⟩
set_option maxHeartbeats 1000000 in
/-- (*foyer/foyerref48.Group).Deliver -/
theorem rdeliver_spec {M : Nat → Prop} {u0 : World} {l : List Atom} (c : RC) (n : Nat) (g : Grp) (z : RGV) (i j : Nat) (lost : Bool) (w0 : World) (h0 : HSat M u0 (RGrpA c n g z :: RCel c :: RPts c n :: l) w0) (hF : Fit g) :
    Ret Try.prog 13 #[.pointer (some ⟨c.b, 0, none⟩), .int .i64 (i : Int), .int .i64 (j : Int), .bool lost] w0 (fun u w => u = .bool (g.deliver i j lost).2 ∧ ∃ z', HSat M u0 (RGrpA c n ((g.deliver i j lost).1) z' :: RCel c :: RPts c n :: l) w) := by
 refine ret_of_wp (nt := 87) Try.func13 rfl rfl rfl (fl := [(0, .pointer (some ⟨c.b, 0, none⟩)), (1, .int .i64 (i : Int)), (2, .int .i64 (j : Int)), (3, .bool lost)]) rfl (fun a S => ?_)
 have H := h0
 have hz := (rgrpOut h0).2
 have hn7 := hz.n7
 refine gsr ?_
 refine ga S fun a S => ?_
 refine gnt ?_
 refine g_seq ?_
 refine gsr ?_
 refine gm S fun a S => ?_
 refine gm S fun a S => ?_
 refine wl_of (op_call (wn rfl) rfl rfl S (co_func rfl Try.call27 S rfl) (rhas_spec c.b n c.av c.qv c.pb (i : Int) _ (H.rd c.b) (H.sl c.av)) fun v w hc a S => ?_)
 obtain ⟨rfl, he⟩ := hc
 have H := H.ext he
 rw [hasB_nat] at S
 refine gy rfl rfl rfl S (y_not rfl S rfl) fun a S => ?_
 refine gm S fun a S => ?_
 refine' wl_or 4 15 rfl S H rfl rfl rfl rfl rfl rfl rfl (fun _ S => (wn rfl)) (fun h1 kk => ?yh1) (fun a w S H => ?_)
 case yh1 =>
  have h1p := h1; try simp only [DL] at h1p
  refine gz 15 h1 S rfl rfl rfl rfl rfl rfl (y_move rfl S rfl) fun a S => ?_
  refine gz 15 h1 S rfl rfl rfl rfl rfl rfl (y_move rfl S rfl) fun a S => ?_
  refine wl_of (op_call (wg' 15 rfl rfl S rfl h1 rfl) rfl rfl S (co_func rfl Try.call27 S rfl) (rhas_spec c.b n c.av c.qv c.pb (j : Int) _ (H.rd c.b) (H.sl c.av)) fun v w hc a S => ?_)
  obtain ⟨rfl, he⟩ := hc
  have H := H.ext he
  rw [hasB_nat] at S
  refine gz 15 h1 S rfl rfl rfl rfl rfl rfl (y_not rfl S rfl) fun a S => ?_
  refine gy rfl rfl rfl S (y_or' rfl h1 S rfl rfl) fun a S => ?_
  exact kk _ _ (S.join 5 20 rfl rfl) H
 refine gm S fun a S => ?_
 refine' wl_or 3 21 rfl S H rfl rfl rfl rfl rfl rfl rfl (fun _ S => (wn rfl)) (fun h2 kk => ?yh2) (fun a w S H => ?_)
 case yh2 =>
  have h2p := h2; try simp only [DL] at h2p
  refine gz 21 h2 S rfl rfl rfl rfl rfl rfl (y_move rfl S rfl) fun a S => ?_
  refine gz 21 h2 S rfl rfl rfl rfl rfl rfl (y_move rfl S rfl) fun a S => ?_
  refine gz 21 h2 S rfl rfl rfl rfl rfl rfl (y_bin rfl S rfl rfl rfl) fun a S => ?_
  refine gy rfl rfl rfl S (y_or' rfl h2 S rfl rfl) fun a S => ?_
  exact kk _ _ (S.join 4 25 rfl rfl) H
 refine gnt ?_
 have S := (((((S.nil.cons S 3 rfl).cons S 2 rfl).cons S 1 rfl).cons S 0 rfl).cons S 8 rfl).cons S 25 rfl
 refine c_if S rfl (fun h3 => ?_) (fun h3 => ?_)
 ·have h3p := h3; try simp only [DL] at h3p
  have hno : ¬ (i < g.n ∧ j < g.n ∧ i ≠ j) := by rw [hz.en]; rintro ⟨e1, e2, e3⟩; rcases h3p with (h | h) | h; exact h e1; exact h e2; exact e3 (by omega)
  refine gsr ?_
  refine ga S fun a S => ?_
  refine gnt ?_
  refine g_ret ?_
  refine r_then (ret1 rfl S rfl ?_)
  exact ⟨by unfold Grp.deliver; rw [if_neg hno], z, by unfold Grp.deliver; rw [if_neg hno]; exact H⟩
 ·have h3p := h3; try simp only [DL] at h3p
  obtain ⟨hi, hj, hij⟩ : i < n ∧ j < n ∧ i ≠ j := by simp at h3; omega
  have hx : i < g.n ∧ j < g.n ∧ i ≠ j := by rw [hz.en]; exact ⟨hi, hj, hij⟩
  have H := (rgrpOut H).1
  have hxi := idx_lt hi hj
  have hm1 : i * n ≤ 7 * 7 := Nat.mul_le_mul (by omega) hn7
  have hxl : i * n + j < z.qs.length := by rw [hz.ql]; exact hxi
  obtain ⟨rv, rx0, hrw⟩ : ∃ rv rx, z.row n i j = (rv, rx) := ⟨_, _, rfl⟩
  have hrm := hz.row_mem hi hj
  have hre := hz.qe i j hi hj
  rw [hrw] at hrm hre
  have iQ : ∀ l, HasSl (BagA 7 encRM z.mb :: l) rv 7 MV encRM rx0 := bagSl (hz.qb _ hrm)
  have iC : ∀ l, HasCap l rv := fun _ => ⟨fun _ _ => hz.cm _ (hz.qb _ hrm)⟩
  have hons := rmOne (hz.sh _ hrm) (H.ok (BagA 2 Ent.enc z.bag) (by simp))
  have iR : ∀ l, HasRd (RPrs c n g z :: l) (c.pb j) _ := rprsRd hj
  refine g_skip ?_
  refine n_then ?_
  refine gsr ?_
  refine gm S fun a S => ?_
  refine gm S fun a S => ?_
  refine gy rfl rfl rfl S (y_nilCheck rfl S rfl) fun a S => ?_
  refine gy rfl rfl rfl S (y_faddrb rfl Ffo62_0 S rfl) fun a S => ?_
  refine gy rfl rfl rfl S (y_load rfl Fsca60 S H rfl rfl) fun a S => ?_
  refine gy rfl rfl rfl S (y_lens rfl Try.underlying60 S H rfl) fun a S => ?_
  rw [List.length_range] at S
  refine gy rfl rfl rfl S (y_mul rfl S rfl rfl (by omega)) fun a S => ?_
  rw [← Int.natCast_mul] at S
  refine gm S fun a S => ?_
  refine gy rfl rfl rfl S (y_add rfl S rfl rfl (by omega)) fun a S => ?_
  rw [← Int.natCast_add] at S
  refine ga S fun a S => ?_
  refine gnt ?_
  have S := (((((S.nil.cons S 3 rfl).cons S 2 rfl).cons S 1 rfl).cons S 0 rfl).cons S 8 rfl).cons S 9 rfl
  refine g_seq ?_
  refine gsr ?_
  refine gm S fun a S => ?_
  refine gy rfl rfl rfl S (y_nilCheck rfl S rfl) fun a S => ?_
  refine gy rfl rfl rfl S (y_faddrb rfl Ffo62_1 S rfl) fun a S => ?_
  refine gy rfl rfl rfl S (y_load rfl Fsca59 S H rfl rfl) fun a S => ?_
  refine gm S fun a S => ?_
  refine gy rfl rfl rfl S (y_iaddrn rfl Try.underlying59 Fsiz74 S H rfl rfl (by first | assumption | omega | (simp only [List.length_range]; omega) | (simp only [List.length_replicate]; omega) | (simp only [List.length_cons]; omega))) fun a S => ?_
  refine gy rfl rfl rfl S ((y_loadsD c.qv (.slice none 0 0, []) rfl Fsca74 S H rfl (by omega) (show (encRow (z.row n i j))[0]? = some rv by rw [hrw]; rfl))) fun a S => ?_
  refine gy rfl rfl rfl S (y_lens rfl Try.underlying74 S H rfl) fun a S => ?_
  refine gy rfl rfl rfl S (y_bin rfl S rfl rfl rfl) fun a S => ?_
  refine gnt ?_
  have S := ((((((S.nil.cons S 3 rfl).cons S 2 rfl).cons S 1 rfl).cons S 0 rfl).cons S 8 rfl).cons S 9 rfl).cons S 43 rfl
  refine c_if S rfl (fun h4 => ?_) (fun h4 => ?_)
  ·have h4p := h4; try simp only [DL] at h4p
   have hgq : g.q i j = [] := by rw [← hre]; have : rx0 = [] := List.eq_nil_of_length_eq_zero (by simpa using h4); rw [this]; rfl
   refine gsr ?_
   refine ga S fun a S => ?_
   refine gnt ?_
   refine g_ret ?_
   refine r_then (ret1 rfl S rfl ?_)
   refine ⟨by unfold Grp.deliver; rw [if_pos hx, hgq], ?_⟩
   unfold Grp.deliver; rw [if_pos hx, hgq]; exact ⟨z, rgrpIn (H.takeT [RPrs c n g z, RQs c z, BagA 7 encRM z.mb, BagA 2 Ent.enc z.bag] (RCel c :: RPts c n :: l)) hz⟩
  ·have h4p := h4; try simp only [DL] at h4p
   obtain ⟨mv, rx, rfl⟩ : ∃ mv rx, rx0 = mv :: rx := by cases rx0 with | nil => simp at h4 | cons a b => exact ⟨a, b, rfl⟩
   have hgq : g.q i j = mv.1 :: rx.map (·.1) := by rw [← hre]; rfl
   refine g_skip ?_
   refine n_then ?_
   refine gsr ?_
   refine gm S fun a S => ?_
   refine gy rfl rfl rfl S (y_nilCheck rfl S rfl) fun a S => ?_
   refine gy rfl rfl rfl S (y_faddrb rfl Ffo62_1 S rfl) fun a S => ?_
   refine gy rfl rfl rfl S (y_load rfl Fsca59 S H rfl rfl) fun a S => ?_
   refine gm S fun a S => ?_
   refine gy rfl rfl rfl S (y_iaddrn rfl Try.underlying59 Fsiz74 S H rfl rfl (by first | assumption | omega | (simp only [List.length_range]; omega) | (simp only [List.length_replicate]; omega) | (simp only [List.length_cons]; omega))) fun a S => ?_
   refine gy rfl rfl rfl S ((y_loadsD c.qv (.slice none 0 0, []) rfl Fsca74 S H rfl (by omega) (show (encRow (z.row n i j))[0]? = some rv by rw [hrw]; rfl))) fun a S => ?_
   refine gy rfl rfl rfl S (y_iaddrs rfl Try.underlying74 Fsiz76 S H rfl rfl (by first | assumption | omega | (simp only [List.length_range]; omega) | (simp only [List.length_replicate]; omega) | (simp only [List.length_cons]; omega))) fun a S => ?_
   refine gy rfl rfl rfl S (y_loadsa _ rfl S H rfl (by exact Fagg76) (by first | assumption | omega | (simp only [List.length_range]; omega) | (simp only [List.length_replicate]; omega) | (simp only [List.length_cons]; omega))) fun a S => ?_
   refine wl_of (op_alloc (wn rfl) rfl rfl rfl S H Fzer76 fun b10 a w S H => ?_)
   refine wl_of (op_storea (wn rfl) rfl rfl S H rfl rfl (by rw [List.all_eq_true]; exact fun u hu => hons _ (List.mem_cons_self ..) u hu) Fsiz76 rfl (cs' := [_, _, _, _, _, _, _]) rfl fun a w S H => ?_)
   refine gnt ?_
   have S := ((((((S.nil.cons S 3 rfl).cons S 2 rfl).cons S 1 rfl).cons S 0 rfl).cons S 8 rfl).cons S 9 rfl).cons S 10 rfl
   refine g_seq ?_
   refine region_st (loud := [14]) (tails := [14]) (free := []) [0, 1, 2, 3, 4, 5, 6, 7, 8, 9, 10, 11, 12, 13, 14] [] Fmo (by kernel_rfl) (by kernel_rfl) rfl H ?_
   refine m_w rfl rfl (wn rfl) rfl rfl S (fun w H => y_move rfl S rfl) fun a S => ?_
   refine m_w rfl rfl (wn rfl) rfl rfl S (fun w H => y_nilCheck rfl S rfl) fun a S => ?_
   refine m_w rfl rfl (wn rfl) rfl rfl S (fun w H => y_faddrb rfl Ffo62_1 S rfl) fun a S => ?_
   refine m_w rfl rfl (wn rfl) rfl rfl S (fun w H => y_load rfl Fsca59 S H rfl rfl) fun a S => ?_
   refine m_w rfl rfl (wn rfl) rfl rfl S (fun w H => y_move rfl S rfl) fun a S => ?_
   refine m_w rfl rfl (wn rfl) rfl rfl S (fun w H => y_move rfl S rfl) fun a S => ?_
   refine m_w rfl rfl (wn rfl) rfl rfl S (fun w H => y_nilCheck rfl S rfl) fun a S => ?_
   refine m_w rfl rfl (wn rfl) rfl rfl S (fun w H => y_faddrb rfl Ffo62_1 S rfl) fun a S => ?_
   refine m_w rfl rfl (wn rfl) rfl rfl S (fun w H => y_load rfl Fsca59 S H rfl rfl) fun a S => ?_
   refine m_w rfl rfl (wn rfl) rfl rfl S (fun w H => y_move rfl S rfl) fun a S => ?_
   refine m_w rfl rfl (wn rfl) rfl rfl S (fun w H => y_iaddrn rfl Try.underlying59 Fsiz74 S H rfl rfl (by first | assumption | omega | (simp only [List.length_range]; omega) | (simp only [List.length_replicate]; omega) | (simp only [List.length_cons]; omega))) fun a S => ?_
   refine m_w rfl rfl (wn rfl) rfl rfl S (fun w H => (y_loadsD c.qv (.slice none 0 0, []) rfl Fsca74 S H rfl (by omega) (show (encRow (z.row n i j))[0]? = some rv by rw [hrw]; rfl))) fun a S => ?_
   refine m_w rfl rfl (wn rfl) rfl rfl S (fun w H => y_sliceL rfl Try.underlying74 Fsiz76 S H rfl rfl (by first | assumption | omega | (simp only [List.length_range]; omega) | (simp only [List.length_replicate]; omega) | (simp only [List.length_cons]; omega))) fun a S => ?_
   refine m_w rfl rfl (wn rfl) rfl rfl S (fun w H => y_iaddrn rfl Try.underlying59 Fsiz74 S H rfl rfl (by first | assumption | omega | (simp only [List.length_range]; omega) | (simp only [List.length_replicate]; omega) | (simp only [List.length_cons]; omega))) fun a S => ?_
   refine m_l rfl rfl (fun w H => op_store1 _ ((subV rv 1 (mv :: rx).length 7, rx)) (wn rfl) rfl rfl S H rfl rfl (H.slc _) (H.sl1 _) Fsiz74 (by first | assumption | omega | (simp only [List.length_range]; omega) | (simp only [List.length_replicate]; omega) | (simp only [List.length_cons]; omega)) (by exact rfl) fun a w S H => m_tail H rfl ?_)
   refine m_nil (fun w H => ?_)
   refine n_then ?_
   have S := (((((S.nil.cons S 3 rfl).cons S 2 rfl).cons S 1 rfl).cons S 0 rfl).cons S 8 rfl).cons S 10 rfl
   refine g_seq ?_
   refine gsr ?_
   refine gm S fun a S => ?_
   refine gy rfl rfl rfl S (y_not rfl S rfl) fun a S => ?_
   refine gm S fun a S => ?_
   refine' wl_and 11 69 rfl S H rfl rfl rfl rfl rfl rfl rfl (fun _ S => (wn rfl)) (fun h5 kk => ?yh5) (fun a w S H => ?_)
   case yh5 =>
    have h5p := h5; try simp only [DL] at h5p
    refine gz 69 h5 S rfl rfl rfl rfl rfl rfl (y_move rfl S rfl) fun a S => ?_
    refine gz 69 h5 S rfl rfl rfl rfl rfl rfl (y_nilCheck rfl S rfl) fun a S => ?_
    refine gz 69 h5 S rfl rfl rfl rfl rfl rfl (y_faddrb rfl Ffo62_0 S rfl) fun a S => ?_
    refine gz 69 h5 S rfl rfl rfl rfl rfl rfl (y_load rfl Fsca60 S H rfl rfl) fun a S => ?_
    refine gz 69 h5 S rfl rfl rfl rfl rfl rfl (y_move rfl S rfl) fun a S => ?_
    refine gz 69 h5 S rfl rfl rfl rfl rfl rfl (y_iaddrn rfl Try.underlying60 Fsiz63 S H rfl rfl (by first | assumption | omega | (simp only [List.length_range]; omega) | (simp only [List.length_replicate]; omega) | (simp only [List.length_cons]; omega))) fun a S => ?_
    refine gz 69 h5 S rfl rfl rfl rfl rfl rfl ((y_loadsD c.av 0 rfl Fsca63 S H rfl (by simp only [List.length_range]; omega) (ldPt hj))) fun a S => ?_
    refine gz 69 h5 S rfl rfl rfl rfl rfl rfl (y_nilCheck rfl S rfl) fun a S => ?_
    refine gz 69 h5 S rfl rfl rfl rfl rfl rfl (y_faddrb rfl Ffo67_3 S rfl) fun a S => ?_
    refine gz 69 h5 S rfl rfl rfl rfl rfl rfl (y_load rfl Fsca4 S H rfl rfl) fun a S => ?_
    refine gz 69 h5 S rfl rfl rfl rfl rfl rfl (y_not rfl S rfl) fun a S => ?_
    refine gy rfl rfl rfl S (y_and' rfl h5 S rfl rfl) fun a S => ?_
    exact kk _ _ (S.join 12 81 rfl rfl) H
   refine gnt ?_
   have S := (((((S.nil.cons S 2 rfl).cons S 1 rfl).cons S 0 rfl).cons S 8 rfl).cons S 10 rfl).cons S 81 rfl
   refine c_if S rfl (fun h6 => ?_) (fun h6 => ?_)
   ·have h6p := h6; try simp only [DL] at h6p
    have hgo : lost = false ∧ (g.at_ j).down = false := by simpa using h6
    refine g_region ?_
    refine gm S fun a S => ?_
    refine gm S fun a S => ?_
    refine gm S fun a S => ?_
    refine gy rfl rfl rfl S (y_load0 rfl S H rfl (by exact Fagg76)) fun a S => ?_
    have ⟨z1, hb1, H⟩ := rpopIn (u := subV rv 1 (mv :: rx).length 7) (H.takeT [RPrs c n g z, OSl 74 c.qv 1 encRow (z.qs.set (i * n + j) (subV rv 1 (mv :: rx).length 7, rx)), BagA 7 encRM z.mb, BagA 2 Ent.enc z.bag] (RCel c :: RPts c n :: l)) hz hi hj hrw rfl
    refine wl_of (op_call (wn rfl) rfl rfl S (co_func rfl Try.call28 S rfl) (rreceive_any c n (g.pop i j (rx.map (·.1))) z1 i j mv _ H hi hj (fun b => by have := hF.len j b; rw [show (g.pop i j (rx.map (·.1))).q j b = g.q j b from if_neg (fun e => hij e.1.symm)]; omega) (by have := hF.lim.log j hx.2.1; show (g.at_ j).log.length ≤ _; omega) (fun t lg d e => ⟨by rw [hb1]; exact hz.sh _ hrm mv (List.mem_cons_self ..) t lg d e, by have := (hF.lim.qs i j mv.1 (by rw [hgq]; exact List.mem_cons_self ..)).2 t lg d e; omega⟩)) fun v w hc a S => ?_)
    obtain ⟨rfl, z2, H⟩ := hc
    
    refine gnt ?_
    have S := S.nil.cons S 8 rfl
    refine gsr ?_
    refine ga S fun a S => ?_
    refine gnt ?_
    refine g_ret ?_
    refine ret1 rfl S rfl ?_
    refine ⟨by unfold Grp.deliver; rw [if_pos hx, hgq], ?_⟩
    unfold Grp.deliver; rw [if_pos hx, hgq]; dsimp only; rw [if_pos hgo]; exact ⟨z2, H⟩
   ·have h6p := h6; try simp only [DL] at h6p
    have hgo : ¬ (lost = false ∧ (g.at_ j).down = false) := fun e => by rw [e.1, e.2] at h6; simp at h6
    refine g_skip ?_
    refine n_then ?_
    have S := S.nil.cons S 8 rfl
    refine gsr ?_
    refine ga S fun a S => ?_
    refine gnt ?_
    refine g_ret ?_
    refine ret1 rfl S rfl ?_
    have ⟨z1, hb1, H⟩ := rpopIn (u := subV rv 1 (mv :: rx).length 7) (H.takeT [RPrs c n g z, OSl 74 c.qv 1 encRow (z.qs.set (i * n + j) (subV rv 1 (mv :: rx).length 7, rx)), BagA 7 encRM z.mb, BagA 2 Ent.enc z.bag] (RCel c :: RPts c n :: l)) hz hi hj hrw rfl
    refine ⟨by unfold Grp.deliver; rw [if_pos hx, hgq], ?_⟩
    unfold Grp.deliver; rw [if_pos hx, hgq]; dsimp only; rw [if_neg hgo]; exact ⟨z1, H⟩
set_option maxHeartbeats 1000000 in
/-- (*foyer/foyerref48.Group).Propose -/
theorem rpropose_spec {M : Nat → Prop} {u0 : World} {l : List Atom} (c : RC) (n : Nat) (g : Grp) (z : RGV) (r : ByteArray) (w0 : World) (h0 : HSat M u0 (RGrpA c n g z :: RCel c :: RPts c n :: l) w0) (hF : Fit g) :
    Ret Try.prog 17 #[.pointer (some ⟨c.b, 0, none⟩), .string r] w0 (fun u w => u = .tuple #[.int .i64 (propX g r).1, .int .i64 (propX g r).2] ∧ ∃ z', HSat M u0 (RGrpA c n (g.propose r) z' :: RCel c :: RPts c n :: l) w) := by
 refine ret_of_wp (nt := 111) Try.func17 rfl rfl rfl (fl := [(0, .pointer (some ⟨c.b, 0, none⟩)), (1, .string r)]) rfl (fun a S => ?_)
 have H := h0
 obtain ⟨H, hz⟩ := rgrpOut h0
 have hn7 := hz.n7
 refine gsr ?_
 refine ga S fun a S => ?_
 refine ga S fun a S => ?_
 refine gnt ?_
 refine g_seq ?_
 refine gsr ?_
 refine gm S fun a S => ?_
 refine gy rfl rfl rfl S (y_eqp rfl Try.underlying29 S rfl rfl) fun a S => ?_
 refine gnt ?_
 refine c_if S rfl (fun h1 => ?_) (fun h1 => ?_)
 ·have h1p := h1; try simp only [DL] at h1p
  all_goals (
    exact absurd h1 (by simp))
 ·have h1p := h1; try simp only [DL] at h1p
  refine g_skip ?_
  refine n_then ?_
  refine g_seq ?_
  refine gsr ?_
  refine gm S fun a S => ?_
  refine gy rfl rfl rfl S (y_lenstr rfl Try.underlying9 S rfl) fun a S => ?_
  refine gy rfl rfl rfl S (y_bin rfl S rfl rfl rfl) fun a S => ?_
  refine gnt ?_
  have S := ((((S.nil.cons S 1 rfl).cons S 0 rfl).cons S 4 rfl).cons S 5 rfl).cons S 15 rfl
  refine c_if S rfl (fun h2 => ?_) (fun h2 => ?_)
  ·have h2p := h2; try simp only [DL] at h2p
   have hbig : r.size > 200 := by have := h2p; omega
   refine gsr ?_
   refine ga S fun a S => ?_
   refine ga S fun a S => ?_
   refine gnt ?_
   refine g_ret ?_
   refine r_then (ret2 rfl S rfl rfl ?_)
   exact ⟨by unfold propX; rw [if_pos hbig], z, by unfold Grp.propose; rw [show g.taker r = none by unfold Grp.taker; rw [if_pos hbig]]; exact rgrpIn (H.takeT [RPrs c n g z, RQs c z, BagA 7 encRM z.mb, BagA 2 Ent.enc z.bag] (RCel c :: RPts c n :: l)) hz⟩
  ·have h2p := h2; try simp only [DL] at h2p
   have hsm : ¬ r.size > 200 := by have := h2p; omega
   refine g_skip ?_
   refine n_then ?_
   refine gsr ?_
   refine ga S fun a S => ?_
   refine gnt ?_
   refine g_seq ?_
   refine gsr ?_
   refine ga S fun a S => ?_
   refine gnt ?_
   refine g_block ?_
   have SU := (((S.nil.cons S 1 rfl).cons S 0 rfl).cons S 4 rfl).cons S 5 rfl
   refine loop_k (X := Nat) SU (fun k => [(6, .int .i64 (atZ (bestTo g k))), (7, .int .i64 (k : Int))]) (fun k => k ≤ n) (fun k => n - k) 0 ((S.nil.cons S 7 rfl).cons S 6 rfl) H (Nat.zero_le _) (fun k a w S H hi => ?_)
   simp only [List.cons_append, List.nil_append] at S hi
   have hk := hi
   refine g_seq ?_
   refine gsr ?_
   refine gm S fun a S => ?_
   refine gm S fun a S => ?_
   refine gy rfl rfl rfl S (y_nilCheck rfl S rfl) fun a S => ?_
   refine gy rfl rfl rfl S (y_faddrb rfl Ffo62_0 S rfl) fun a S => ?_
   refine gy rfl rfl rfl S (y_load rfl Fsca60 S H rfl rfl) fun a S => ?_
   refine gy rfl rfl rfl S (y_lens rfl Try.underlying60 S H rfl) fun a S => ?_
   rw [List.length_range] at S
   refine gy rfl rfl rfl S (y_bin rfl S rfl rfl rfl) fun a S => ?_
   refine gnt ?_
   have S := ((((((S.nil.cons S 1 rfl).cons S 0 rfl).cons S 4 rfl).cons S 5 rfl).cons S 7 rfl).cons S 6 rfl).cons S 22 rfl
   refine c_if S rfl (fun h3 => ?_) (fun h3 => ?_)
   ·have h3p := h3; try simp only [DL] at h3p
    have hkn : k < n := by have := h3p; omega
    have iR : ∀ l, HasRd (RPrs c n g z :: l) (c.pb k) _ := rprsRd hkn
    refine g_skip ?_
    refine n_then ?_
    refine g_seq ?_
    refine g_block ?_
    refine gsr ?_
    refine gm S fun a S => ?_
    refine gy rfl rfl rfl S (y_nilCheck rfl S rfl) fun a S => ?_
    refine gy rfl rfl rfl S (y_faddrb rfl Ffo62_0 S rfl) fun a S => ?_
    refine gy rfl rfl rfl S (y_load rfl Fsca60 S H rfl rfl) fun a S => ?_
    refine gm S fun a S => ?_
    refine gy rfl rfl rfl S (y_iaddrn rfl Try.underlying60 Fsiz63 S H rfl rfl (by first | assumption | omega | (simp only [List.length_range]; omega) | (simp only [List.length_replicate]; omega) | (simp only [List.length_cons]; omega))) fun a S => ?_
    refine gy rfl rfl rfl S ((y_loadsD c.av 0 rfl Fsca63 S H rfl (by simp only [List.length_range]; omega) (ldPt (show k < n from hkn)))) fun a S => ?_
    refine ga S fun a S => ?_
    refine gnt ?_
    have S := ((((((S.nil.cons S 1 rfl).cons S 0 rfl).cons S 4 rfl).cons S 5 rfl).cons S 7 rfl).cons S 6 rfl).cons S 8 rfl
    refine g_seq ?_
    rcases hb : bestTo g k with _ | j
    ·rw [hb] at S
     simp only [atZ] at S
     refine region_st (loud := []) (tails := []) (free := []) [0, 1, 2, 3, 4, 5, 6, 7, 8, 9, 10, 11, 12, 13, 14, 15, 16, 17, 18, 19, 20, 21, 22, 23, 24, 25, 26, 27, 28, 29, 30, 31, 32] [] Fmo (by kernel_rfl) (by kernel_rfl) rfl H ?_
     refine m_w rfl rfl (wn rfl) rfl rfl S (fun w H => y_move rfl S rfl) fun a S => ?_
     refine m_w rfl rfl (wn rfl) rfl rfl S (fun w H => y_nilCheck rfl S rfl) fun a S => ?_
     refine m_w rfl rfl (wn rfl) rfl rfl S (fun w H => y_faddrb rfl Ffo67_3 S rfl) fun a S => ?_
     refine m_w rfl rfl (wn rfl) rfl rfl S (fun w H => y_load rfl Fsca4 S H rfl rfl) fun a S => ?_
     refine m_w rfl rfl (wn rfl) rfl rfl S (fun w H => y_not rfl S rfl) fun a S => ?_
     refine m_w rfl rfl (wn rfl) rfl rfl S (fun w H => y_move rfl S rfl) fun a S => ?_
     refine' m_andq [6, 7, 8, 9, 10] 37 S rfl rfl rfl rfl rfl rfl rfl rfl rfl (fun _ S => (wn rfl)) (fun h4 kk => ?yh4) (fun a S => ?_)
     case yh4 =>
      have h4p := h4; try simp only [DL] at h4p
      refine m_w rfl rfl (wg' 37 rfl rfl S rfl h4 rfl) rfl rfl S (fun w H => y_move rfl S rfl) fun a S => ?_
      refine m_w rfl rfl (wg' 37 rfl rfl S rfl h4 rfl) rfl rfl S (fun w H => y_nilCheck rfl S rfl) fun a S => ?_
      refine m_w rfl rfl (wg' 37 rfl rfl S rfl h4 rfl) rfl rfl S (fun w H => y_faddrb rfl Ffo67_4 S rfl) fun a S => ?_
      refine m_w rfl rfl (wg' 37 rfl rfl S rfl h4 rfl) rfl rfl S (fun w H => y_load rfl Fsca3 S H rfl rfl) fun a S => ?_
      refine m_w rfl rfl (wg' 37 rfl rfl S rfl h4 rfl) rfl rfl S (fun w H => y_bin rfl S rfl rfl rfl) fun a S => ?_
      refine m_w rfl rfl (wn rfl) rfl rfl S (fun w H => y_and' rfl h4 S rfl rfl) fun a S => ?_
      exact kk _ (S.join 6 43 rfl rfl)
     refine m_w rfl rfl (wn rfl) rfl rfl S (fun w H => y_move rfl S rfl) fun a S => ?_
     refine' m_andq [13, 14, 15, 16, 17, 18, 19, 20, 21, 22, 23, 24, 25, 26, 27, 28, 29, 30, 31] 44 S rfl rfl rfl rfl rfl rfl rfl rfl rfl (fun _ S => (wn rfl)) (fun h5 kk => ?yh5) (fun a S => ?_)
     case yh5 =>
      have h5p := h5; try simp only [DL] at h5p
      refine m_w rfl rfl (wg' 44 rfl rfl S rfl h5 rfl) rfl rfl S (fun w H => y_move rfl S rfl) fun a S => ?_
      refine m_w rfl rfl (wg' 44 rfl rfl S rfl h5 rfl) rfl rfl S (fun w H => y_bin rfl S rfl rfl rfl) fun a S => ?_
      refine m_w rfl rfl (wg' 44 rfl rfl S rfl h5 rfl) rfl rfl S (fun w H => y_move rfl S rfl) fun a S => ?_
      refine' m_orq (B2 := false) [16, 17, 18, 19, 20, 21, 22, 23, 24, 25, 26, 27, 28, 29, 30] 47 S rfl rfl rfl rfl rfl rfl rfl rfl rfl (fun _ S => (wg' 44 rfl rfl S rfl h5 rfl)) (fun h kk => absurd h (by simp)) (fun a S => ?_)
      refine m_w rfl rfl (wn rfl) rfl rfl S (fun w H => y_and' rfl h5 S rfl rfl) fun a S => ?_
      exact kk _ (S.join 5 64 rfl rfl)
     refine m_nil (fun w H => ?_)
     refine n_then ?_
     have S := ((((((S.nil.cons S 1 rfl).cons S 0 rfl).cons S 4 rfl).cons S 5 rfl).cons S 7 rfl).cons S 6 rfl).cons S 64 rfl
     refine c_if S rfl (fun h6 => ?_) (fun h6 => ?_)
     ·have h6p := h6; try simp only [DL] at h6p
      have hc : (g.at_ k).role = 2 ∧ (g.at_ k).down = false := by simp at h6; exact ⟨by omega, h6.1⟩
      have hb1 : bestTo g (k + 1) = some k := by unfold bestTo; rw [hb]; dsimp only; rw [if_pos hc]
      refine g_region ?_
      refine gm S fun a S => ?_
      refine ga S fun a S => ?_
      refine gl_nil ?_
      refine n_block ?_
      refine n_then ?_
      refine g_region ?_
      refine gm S fun a S => ?_
      refine gy rfl rfl rfl S (y_add rfl S rfl rfl (by first | omega | (simp only [List.length_append, List.length_singleton]; omega))) fun a S => ?_
      refine ga S fun a S => ?_
      refine gnt ?_
      exact ⟨k + 1, (S.nil.cons S 7 rfl).cons S 6 (by rw [hb1]; rfl), (((S.nil.cons S 1 rfl).cons S 0 rfl).cons S 4 rfl).cons S 5 rfl, H, by omega, by omega⟩
     ·have h6p := h6; try simp only [DL] at h6p
      have hc : ¬ ((g.at_ k).role = 2 ∧ (g.at_ k).down = false) := fun e => by rw [e.1, e.2] at h6; simp at h6
      have hb1 : bestTo g (k + 1) = none := by unfold bestTo; rw [hb]; dsimp only; rw [if_neg hc]
      refine g_skip ?_
      refine n_block ?_
      refine n_then ?_
      refine g_region ?_
      refine gm S fun a S => ?_
      refine gy rfl rfl rfl S (y_add rfl S rfl rfl (by first | omega | (simp only [List.length_append, List.length_singleton]; omega))) fun a S => ?_
      refine ga S fun a S => ?_
      refine gnt ?_
      exact ⟨k + 1, (S.nil.cons S 7 rfl).cons S 6 (by rw [hb1]; rfl), (((S.nil.cons S 1 rfl).cons S 0 rfl).cons S 4 rfl).cons S 5 rfl, H, by omega, by omega⟩
    ·rw [hb] at S
     simp only [atZ] at S
     have hjk : j < k := (bestTo_some hb).1
     have hjn : j < n := by omega
     have iR2 : ∀ l, HasRd (RPrs c n g z :: l) (c.pb j) _ := rprsRd hjn
     refine region_st (loud := []) (tails := []) (free := []) [0, 1, 2, 3, 4, 5, 6, 7, 8, 9, 10, 11, 12, 13, 14, 15, 16, 17, 18, 19, 20, 21, 22, 23, 24, 25, 26, 27, 28, 29, 30, 31, 32] [] Fmo (by kernel_rfl) (by kernel_rfl) rfl H ?_
     refine m_w rfl rfl (wn rfl) rfl rfl S (fun w H => y_move rfl S rfl) fun a S => ?_
     refine m_w rfl rfl (wn rfl) rfl rfl S (fun w H => y_nilCheck rfl S rfl) fun a S => ?_
     refine m_w rfl rfl (wn rfl) rfl rfl S (fun w H => y_faddrb rfl Ffo67_3 S rfl) fun a S => ?_
     refine m_w rfl rfl (wn rfl) rfl rfl S (fun w H => y_load rfl Fsca4 S H rfl rfl) fun a S => ?_
     refine m_w rfl rfl (wn rfl) rfl rfl S (fun w H => y_not rfl S rfl) fun a S => ?_
     refine m_w rfl rfl (wn rfl) rfl rfl S (fun w H => y_move rfl S rfl) fun a S => ?_
     refine' m_andq [6, 7, 8, 9, 10] 37 S rfl rfl rfl rfl rfl rfl rfl rfl rfl (fun _ S => (wn rfl)) (fun h7 kk => ?yh7) (fun a S => ?_)
     case yh7 =>
      have h7p := h7; try simp only [DL] at h7p
      refine m_w rfl rfl (wg' 37 rfl rfl S rfl h7 rfl) rfl rfl S (fun w H => y_move rfl S rfl) fun a S => ?_
      refine m_w rfl rfl (wg' 37 rfl rfl S rfl h7 rfl) rfl rfl S (fun w H => y_nilCheck rfl S rfl) fun a S => ?_
      refine m_w rfl rfl (wg' 37 rfl rfl S rfl h7 rfl) rfl rfl S (fun w H => y_faddrb rfl Ffo67_4 S rfl) fun a S => ?_
      refine m_w rfl rfl (wg' 37 rfl rfl S rfl h7 rfl) rfl rfl S (fun w H => y_load rfl Fsca3 S H rfl rfl) fun a S => ?_
      refine m_w rfl rfl (wg' 37 rfl rfl S rfl h7 rfl) rfl rfl S (fun w H => y_bin rfl S rfl rfl rfl) fun a S => ?_
      refine m_w rfl rfl (wn rfl) rfl rfl S (fun w H => y_and' rfl h7 S rfl rfl) fun a S => ?_
      exact kk _ (S.join 6 43 rfl rfl)
     refine m_w rfl rfl (wn rfl) rfl rfl S (fun w H => y_move rfl S rfl) fun a S => ?_
     refine' m_andq [13, 14, 15, 16, 17, 18, 19, 20, 21, 22, 23, 24, 25, 26, 27, 28, 29, 30, 31] 44 S rfl rfl rfl rfl rfl rfl rfl rfl rfl (fun _ S => (wn rfl)) (fun h8 kk => ?yh8) (fun a S => ?_)
     case yh8 =>
      have h8p := h8; try simp only [DL] at h8p
      refine m_w rfl rfl (wg' 44 rfl rfl S rfl h8 rfl) rfl rfl S (fun w H => y_move rfl S rfl) fun a S => ?_
      refine m_w rfl rfl (wg' 44 rfl rfl S rfl h8 rfl) rfl rfl S (fun w H => y_bin rfl S rfl rfl rfl) fun a S => ?_
      refine m_w rfl rfl (wg' 44 rfl rfl S rfl h8 rfl) rfl rfl S (fun w H => y_move rfl S rfl) fun a S => ?_
      refine m_w rfl rfl (wg' 47 rfl rfl S rfl (decide_eq_false (by omega)) rfl) rfl rfl S (fun w H => y_move rfl S rfl) fun a S => ?_
      refine m_w rfl rfl (wg' 47 rfl rfl S rfl (decide_eq_false (by omega)) rfl) rfl rfl S (fun w H => y_nilCheck rfl S rfl) fun a S => ?_
      refine m_w rfl rfl (wg' 47 rfl rfl S rfl (decide_eq_false (by omega)) rfl) rfl rfl S (fun w H => y_faddrb rfl Ffo67_0 S rfl) fun a S => ?_
      refine m_w rfl rfl (wg' 47 rfl rfl S rfl (decide_eq_false (by omega)) rfl) rfl rfl S (fun w H => y_load rfl Fsca3 S H rfl rfl) fun a S => ?_
      refine m_w rfl rfl (wg' 47 rfl rfl S rfl (decide_eq_false (by omega)) rfl) rfl rfl S (fun w H => y_move rfl S rfl) fun a S => ?_
      refine m_w rfl rfl (wg' 47 rfl rfl S rfl (decide_eq_false (by omega)) rfl) rfl rfl S (fun w H => y_nilCheck rfl S rfl) fun a S => ?_
      refine m_w rfl rfl (wg' 47 rfl rfl S rfl (decide_eq_false (by omega)) rfl) rfl rfl S (fun w H => y_faddrb rfl Ffo62_0 S rfl) fun a S => ?_
      refine m_w rfl rfl (wg' 47 rfl rfl S rfl (decide_eq_false (by omega)) rfl) rfl rfl S (fun w H => y_load rfl Fsca60 S H rfl rfl) fun a S => ?_
      refine m_w rfl rfl (wg' 47 rfl rfl S rfl (decide_eq_false (by omega)) rfl) rfl rfl S (fun w H => y_move rfl S rfl) fun a S => ?_
      refine m_w rfl rfl (wg' 47 rfl rfl S rfl (decide_eq_false (by omega)) rfl) rfl rfl S (fun w H => y_iaddrn rfl Try.underlying60 Fsiz63 S H rfl rfl (by first | assumption | omega | (simp only [List.length_range]; omega) | (simp only [List.length_replicate]; omega) | (simp only [List.length_cons]; omega))) fun a S => ?_
      refine m_w rfl rfl (wg' 47 rfl rfl S rfl (decide_eq_false (by omega)) rfl) rfl rfl S (fun w H => (y_loadsD c.av 0 rfl Fsca63 S H rfl (by simp only [List.length_range]; omega) (ldPt (show j < n from hjn)))) fun a S => ?_
      refine m_w rfl rfl (wg' 47 rfl rfl S rfl (decide_eq_false (by omega)) rfl) rfl rfl S (fun w H => y_nilCheck rfl S rfl) fun a S => ?_
      refine m_w rfl rfl (wg' 47 rfl rfl S rfl (decide_eq_false (by omega)) rfl) rfl rfl S (fun w H => y_faddrb rfl Ffo67_0 S rfl) fun a S => ?_
      refine m_w rfl rfl (wg' 47 rfl rfl S rfl (decide_eq_false (by omega)) rfl) rfl rfl S (fun w H => y_load rfl Fsca3 S H rfl rfl) fun a S => ?_
      refine m_w rfl rfl (wg' 47 rfl rfl S rfl (decide_eq_false (by omega)) rfl) rfl rfl S (fun w H => y_bin rfl S rfl rfl rfl) fun a S => ?_
      refine m_w rfl rfl (wg' 44 rfl rfl S rfl h8 rfl) rfl rfl S (fun w H => y_or' rfl (decide_eq_false (by omega)) S rfl rfl) fun a S => ?_
      refine m_w rfl rfl (wn rfl) rfl rfl S (fun w H => y_and' rfl h8 S rfl rfl) fun a S => ?_
      exact kk _ (S.join 20 64 rfl rfl)
     refine m_nil (fun w H => ?_)
     refine n_then ?_
     have S := ((((((S.nil.cons S 1 rfl).cons S 0 rfl).cons S 4 rfl).cons S 5 rfl).cons S 7 rfl).cons S 6 rfl).cons S 64 rfl
     refine c_if S rfl (fun h9 => ?_) (fun h9 => ?_)
     ·have h9p := h9; try simp only [DL] at h9p
      have hc : (g.at_ k).role = 2 ∧ (g.at_ k).down = false ∧ (g.at_ k).term > (g.at_ j).term := by simp at h9; exact ⟨by omega, h9.1.1, by have := h9.2; omega⟩
      have hb1 : bestTo g (k + 1) = some k := by unfold bestTo; rw [hb]; dsimp only; rw [if_pos hc]
      refine g_region ?_
      refine gm S fun a S => ?_
      refine ga S fun a S => ?_
      refine gl_nil ?_
      refine n_block ?_
      refine n_then ?_
      refine g_region ?_
      refine gm S fun a S => ?_
      refine gy rfl rfl rfl S (y_add rfl S rfl rfl (by first | omega | (simp only [List.length_append, List.length_singleton]; omega))) fun a S => ?_
      refine ga S fun a S => ?_
      refine gnt ?_
      exact ⟨k + 1, (S.nil.cons S 7 rfl).cons S 6 (by rw [hb1]; rfl), (((S.nil.cons S 1 rfl).cons S 0 rfl).cons S 4 rfl).cons S 5 rfl, H, by omega, by omega⟩
     ·have h9p := h9; try simp only [DL] at h9p
      have hc : ¬ ((g.at_ k).role = 2 ∧ (g.at_ k).down = false ∧ (g.at_ k).term > (g.at_ j).term) := fun e => by rw [e.1, e.2.1, decide_eq_true e.2.2] at h9; simp at h9
      have hb1 : bestTo g (k + 1) = some j := by unfold bestTo; rw [hb]; dsimp only; rw [if_neg hc]
      refine g_skip ?_
      refine n_block ?_
      refine n_then ?_
      refine g_region ?_
      refine gm S fun a S => ?_
      refine gy rfl rfl rfl S (y_add rfl S rfl rfl (by first | omega | (simp only [List.length_append, List.length_singleton]; omega))) fun a S => ?_
      refine ga S fun a S => ?_
      refine gnt ?_
      exact ⟨k + 1, (S.nil.cons S 7 rfl).cons S 6 (by rw [hb1]; rfl), (((S.nil.cons S 1 rfl).cons S 0 rfl).cons S 4 rfl).cons S 5 rfl, H, by omega, by omega⟩
   ·have h3p := h3; try simp only [DL] at h3p
    obtain rfl : n = k := by have := h3p; omega
    refine g_exit ?_
    refine x_then (x_then (x_eq ?_))
    refine n_then ?_
    refine g_seq ?_
    refine gsr ?_
    refine gm S fun a S => ?_
    refine gy rfl rfl rfl S (y_bin rfl S rfl rfl rfl) fun a S => ?_
    refine gnt ?_
    refine c_if S rfl (fun h10 => ?_) (fun h10 => ?_)
    ·have h10p := h10; try simp only [DL] at h10p
     have hb : bestTo g g.n = none := by
       rw [hz.en]; cases e : bestTo g n with
       | none => rfl
       | some a => have h9 := h10p; rw [e] at h9; have h9 : ((a : Nat) : Int) < 0 := h9; omega
     refine gsr ?_
     refine ga S fun a S => ?_
     refine ga S fun a S => ?_
     refine gnt ?_
     have S := ((((S.nil.cons S 1 rfl).cons S 0 rfl).cons S 6 rfl).cons S 4 rfl).cons S 5 rfl
     refine g_ret ?_
     refine r_then (ret2 rfl S rfl rfl ?_)
     exact ⟨by unfold propX; rw [if_neg hsm, hb], z, by unfold Grp.propose; rw [show g.taker r = none by unfold Grp.taker; rw [if_neg hsm, hb]]; exact rgrpIn (H.takeT [RPrs c n g z, RQs c z, BagA 7 encRM z.mb, BagA 2 Ent.enc z.bag] (RCel c :: RPts c n :: l)) hz⟩
    ·have h10p := h10; try simp only [DL] at h10p
     rcases hb : bestTo g n with _ | i
     · rw [hb] at h10; simp [atZ] at h10
     rw [hb] at S
     simp only [atZ] at S
     have hbn : bestTo g g.n = some i := by rw [hz.en]; exact hb
     have hi : i < n := (bestTo_some hb).1
     have hr2 := (bestTo_some hb).2.1
     have hin : i < g.n := by rw [hz.en]; exact hi
     obtain ⟨H, hf⟩ := replOut H hi
     have iS : ∀ l, HasSl (BagA 2 Ent.enc z.bag :: l) (z.p i).lv 2 Ent Ent.enc (g.at_ i).log := bagSl (hz.lg i hi)
     have hlo := hF.lim.log i hin
     refine g_skip ?_
     refine n_then ?_
     have S := ((((S.nil.cons S 1 rfl).cons S 0 rfl).cons S 4 rfl).cons S 5 rfl).cons S 6 rfl
     refine gsr ?_
     refine gm S fun a S => ?_
     refine gy rfl rfl rfl S (y_nilCheck rfl S rfl) fun a S => ?_
     refine gy rfl rfl rfl S (y_faddrb rfl Ffo62_0 S rfl) fun a S => ?_
     refine gy rfl rfl rfl S (y_load rfl Fsca60 S H rfl rfl) fun a S => ?_
     refine gm S fun a S => ?_
     refine gy rfl rfl rfl S (y_iaddrn rfl Try.underlying60 Fsiz63 S H rfl rfl (by first | assumption | omega | (simp only [List.length_range]; omega) | (simp only [List.length_replicate]; omega) | (simp only [List.length_cons]; omega))) fun a S => ?_
     refine gy rfl rfl rfl S ((y_loadsD c.av 0 rfl Fsca63 S H rfl (by simp only [List.length_range]; omega) (ldPt (show i < n from hi)))) fun a S => ?_
     refine ga S fun a S => ?_
     refine gnt ?_
     have S := (((((S.nil.cons S 1 rfl).cons S 0 rfl).cons S 4 rfl).cons S 5 rfl).cons S 6 rfl).cons S 9 rfl
     refine g_seq ?_
     refine gsr ?_
     refine gm S fun a S => ?_
     refine gy rfl rfl rfl S (y_nilCheck rfl S rfl) fun a S => ?_
     refine gy rfl rfl rfl S (y_faddrb rfl Ffo67_2 S rfl) fun a S => ?_
     refine gy rfl rfl rfl S (y_load rfl Fsca64 S H rfl rfl) fun a S => ?_
     refine gy rfl rfl rfl S (y_lens rfl Try.underlying64 S H rfl) fun a S => ?_
     refine gy rfl rfl rfl S (y_bin rfl S rfl rfl rfl) fun a S => ?_
     refine gnt ?_
     have S := ((((((S.nil.cons S 1 rfl).cons S 0 rfl).cons S 4 rfl).cons S 5 rfl).cons S 6 rfl).cons S 9 rfl).cons S 80 rfl
     refine c_if S rfl (fun h11 => ?_) (fun h11 => ?_)
     ·have h11p := h11; try simp only [DL] at h11p
      have hfull : (g.at_ i).log.length ≥ 100 := by have := h11p; omega
      refine gsr ?_
      refine ga S fun a S => ?_
      refine ga S fun a S => ?_
      refine gnt ?_
      refine g_ret ?_
      refine r_then (ret2 rfl S rfl rfl ?_)
      exact ⟨by unfold propX; rw [if_neg hsm, hbn]; dsimp only; rw [if_pos hfull], _, by unfold Grp.propose; rw [show g.taker r = none by unfold Grp.taker; rw [if_neg hsm, hbn]; dsimp only; rw [if_pos hfull]]; exact rputSame (H.takeT [RPCel (c.pb i) (z.p i) (g.at_ i), OSl 4 (z.p i).vv 1 eB1 (z.p i).vs, OSl 3 (z.p i).aw 1 encI (z.p i).ak, RRest c n g z i, RQs c z, BagA 7 encRM z.mb, BagA 2 Ent.enc z.bag] (RCel c :: RPts c n :: l)) hz hi hf (fun _ h => h)⟩
     ·have h11p := h11; try simp only [DL] at h11p
      have hfull : ¬ (g.at_ i).log.length ≥ 100 := by have := h11p; omega
      refine g_skip ?_
      refine n_then ?_
      refine g_seq ?_
      refine cut (fun a w => ∃ u95, St 111 [(0, .pointer (some ⟨c.b, 0, none⟩)), (1, .string r), (6, .int .i64 (i : Int)), (9, .pointer (some ⟨c.pb i, 0, none⟩))] a ∧ HSat M u0 ([OSl 89 u95 2 Ent.enc ((g.at_ i).log ++ [(⟨(g.at_ i).term, r⟩ : Ent)]), Cel (c.pb i) 67 [.int .i64 (g.at_ i).term, .int .i64 (g.at_ i).vote, u95, .bool (g.at_ i).down, .int .i64 ((g.at_ i).role : Int), .int .i64 ((g.at_ i).done : Int), (z.p i).vv, (z.p i).aw], OSl 4 (z.p i).vv 1 eB1 (z.p i).vs, OSl 3 (z.p i).aw 1 encI (z.p i).ak, RRest c n g z i, RQs c z, BagA 7 encRM z.mb, BagA 2 Ent.enc z.bag] ++ (RCel c :: RPts c n :: l)) w) ?_ ?_
      ·skip
       refine t_st (tails := [6, 14, 17]) [] Fmo H ?_
       refine t_p 0 rfl (by kernel_rfl) (rem' := [1, 2, 3, 4, 5, 6, 7, 8, 9, 10, 11, 12, 13, 14, 15, 16, 17]) rfl rfl rfl rfl S (fun w => y_move rfl S rfl) fun a S => ?_
       refine t_q 2 rfl (by kernel_rfl) (rem' := [1, 3, 4, 5, 6, 7, 8, 9, 10, 11, 12, 13, 14, 15, 16, 17]) rfl rfl rfl rfl S (fun w H => y_move rfl S rfl) fun a S => ?_
       refine t_q 3 rfl (by kernel_rfl) (rem' := [1, 4, 5, 6, 7, 8, 9, 10, 11, 12, 13, 14, 15, 16, 17]) rfl rfl rfl rfl S (fun w H => y_nilCheck rfl S rfl) fun a S => ?_
       refine t_q 4 rfl (by kernel_rfl) (rem' := [1, 5, 6, 7, 8, 9, 10, 11, 12, 13, 14, 15, 16, 17]) rfl rfl rfl rfl S (fun w H => y_faddrb rfl Ffo67_2 S rfl) fun a S => ?_
       refine t_q 5 rfl (by kernel_rfl) (rem' := [1, 6, 7, 8, 9, 10, 11, 12, 13, 14, 15, 16, 17]) rfl rfl rfl rfl S (fun w H => y_load rfl Fsca64 S H rfl rfl) fun a S => ?_
       refine t_p 7 rfl (by kernel_rfl) (rem' := [1, 6, 8, 9, 10, 11, 12, 13, 14, 15, 16, 17]) rfl rfl rfl rfl S (fun w => y_move rfl S rfl) fun a S => ?_
       refine t_p 8 rfl (by kernel_rfl) (rem' := [1, 6, 9, 10, 11, 12, 13, 14, 15, 16, 17]) rfl rfl rfl rfl S (fun w => y_nilCheck rfl S rfl) fun a S => ?_
       refine t_p 9 rfl (by kernel_rfl) (rem' := [1, 6, 10, 11, 12, 13, 14, 15, 16, 17]) rfl rfl rfl rfl S (fun w => y_faddrb rfl Ffo67_0 S rfl) fun a S => ?_
       refine t_p 11 rfl (by kernel_rfl) (rem' := [1, 6, 10, 12, 13, 14, 15, 16, 17]) rfl rfl rfl rfl S (fun w => y_move rfl S rfl) fun a S => ?_
       refine t_b [1, 10] (by kernel_rfl) rfl (fa2 ?_ ?_)
       ·refine ⟨_, rfl, fun w H => ?_⟩
        refine op_buildSlice (wn rfl) rfl rfl rfl Try.underlying64 Finf89 S H (idx := []) rfl rfl rfl (z := []) (by kernel_rfl) (cs := []) rfl fun b82 a w S H => ?_
        have H := H.celO [] Ent.enc 2 (m := 0) rfl (by simp) rfl (by omega)
        refine t_n H (rem' := [6, 10, 12, 13, 14, 15, 16, 17]) rfl ?_
        refine t_b [6, 10] (by kernel_rfl) rfl (fa2 ?_ ?_)
        ·refine ⟨_, rfl, fun w H => ?_⟩
         refine op_appendT (wn rfl) rfl rfl rfl Try.underlying64 Finf89 rfl rfl S H rfl rfl (by simp [Ent.enc, Value.oneCell']) (by simp only [List.length_nil]; omega) (by simp only [List.length_nil]; omega) fun u87 a w S H => ?_
         refine t_tail H rfl (rem' := [10, 12, 13, 14, 15, 16, 17]) rfl ?_
         refine t_q 10 rfl (by kernel_rfl) (rem' := [12, 13, 14, 15, 16, 17]) rfl rfl rfl rfl S (fun w H => y_load rfl Fsca3 S H rfl rfl) fun a S => ?_
         refine t_q 12 rfl (by kernel_rfl) (rem' := [13, 14, 15, 16, 17]) rfl rfl rfl rfl S (fun w H => y_buildf rfl Fbld89 S rfl (idx := [0, 1]) rfl (cs := [.int .i64 (g.at_ i).term, .string r]) rfl) fun a S => ?_
         refine t_b1 13 (by kernel_rfl) rfl fun w H => ?_
         refine op_buildSlice (wn rfl) rfl rfl rfl Try.underlying64 Finf89 S H (idx := [0]) rfl rfl rfl (z := [.int .i64 0, .string ⟨#[]⟩]) (by kernel_rfl) (cs := [.int .i64 (g.at_ i).term, .string r]) rfl fun b94 a w S H => ?_
         refine t_n H (rem' := [14, 15, 16, 17]) rfl ?_
         refine t_b1 14 (by kernel_rfl) rfl fun w H => ?_
         refine op_append ([(⟨(g.at_ i).term, r⟩ : Ent)]) (wn rfl) rfl rfl rfl Try.underlying64 Finf89 rfl rfl S H rfl rfl rfl rfl (by simp) (by simp [Ent.enc]) (by simp [Ent.enc, Value.oneCell']) (by simp only [List.nil_append, List.length_singleton]; omega) (by simp only [List.nil_append, List.length_singleton]; omega) fun u95 a w hn95 S H => ?_
         refine t_tail H rfl (rem' := [15, 16, 17]) rfl ?_
         refine t_q 15 rfl (by kernel_rfl) (rem' := [16, 17]) rfl rfl rfl rfl S (fun w H => y_nilCheck rfl S rfl) fun a S => ?_
         refine t_q 16 rfl (by kernel_rfl) (rem' := [17]) rfl rfl rfl rfl S (fun w H => y_faddrb rfl Ffo67_2 S rfl) fun a S => ?_
         refine t_b1 17 (by kernel_rfl) rfl fun w H => ?_
         refine op_store (wn rfl) rfl rfl S H rfl rfl (H.sl1 _) Fsiz64 rfl fun a w S H => ?_
         dsimp only [List.set, Nat.zero_add, Nat.reduceAdd] at H
         refine t_tail H rfl (rem' := []) rfl ?_
         refine t_nil (fun w H => ?_)
         rw [List.nil_append] at H
         exact ⟨u95, ((((S.nil.cons S 9 rfl).cons S 6 rfl).cons S 1 rfl).cons S 0 rfl), H.takeT [OSl 89 u95 2 Ent.enc ((g.at_ i).log ++ [(⟨(g.at_ i).term, r⟩ : Ent)]), Cel (c.pb i) 67 [.int .i64 (g.at_ i).term, .int .i64 (g.at_ i).vote, u95, .bool (g.at_ i).down, .int .i64 ((g.at_ i).role : Int), .int .i64 ((g.at_ i).done : Int), (z.p i).vv, (z.p i).aw], OSl 4 (z.p i).vv 1 eB1 (z.p i).vs, OSl 3 (z.p i).aw 1 encI (z.p i).ak, RRest c n g z i, RQs c z, BagA 7 encRM z.mb, BagA 2 Ent.enc z.bag] (RCel c :: RPts c n :: l)⟩
        ·refine ⟨_, rfl, fun w H => ?_⟩
         refine op_y (wn rfl) rfl rfl S (y_load rfl Fsca3 S H rfl rfl) fun a S => ?_
         refine t_n H (rem' := [6, 12, 13, 14, 15, 16, 17]) rfl ?_
         refine t_p 12 rfl (by kernel_rfl) (rem' := [6, 13, 14, 15, 16, 17]) rfl rfl rfl rfl S (fun w => y_buildf rfl Fbld89 S rfl (idx := [0, 1]) rfl (cs := [.int .i64 (g.at_ i).term, .string r]) rfl) fun a S => ?_
         refine t_b [6, 13] (by kernel_rfl) rfl (fa2 ?_ ?_)
         ·refine ⟨_, rfl, fun w H => ?_⟩
          refine op_appendT (wn rfl) rfl rfl rfl Try.underlying64 Finf89 rfl rfl S H rfl rfl (by simp [Ent.enc, Value.oneCell']) (by simp only [List.length_nil]; omega) (by simp only [List.length_nil]; omega) fun u87 a w S H => ?_
          refine t_tail H rfl (rem' := [13, 14, 15, 16, 17]) rfl ?_
          refine t_b1 13 (by kernel_rfl) rfl fun w H => ?_
          refine op_buildSlice (wn rfl) rfl rfl rfl Try.underlying64 Finf89 S H (idx := [0]) rfl rfl rfl (z := [.int .i64 0, .string ⟨#[]⟩]) (by kernel_rfl) (cs := [.int .i64 (g.at_ i).term, .string r]) rfl fun b94 a w S H => ?_
          refine t_n H (rem' := [14, 15, 16, 17]) rfl ?_
          refine t_b1 14 (by kernel_rfl) rfl fun w H => ?_
          refine op_append ([(⟨(g.at_ i).term, r⟩ : Ent)]) (wn rfl) rfl rfl rfl Try.underlying64 Finf89 rfl rfl S H rfl rfl rfl rfl (by simp) (by simp [Ent.enc]) (by simp [Ent.enc, Value.oneCell']) (by simp only [List.nil_append, List.length_singleton]; omega) (by simp only [List.nil_append, List.length_singleton]; omega) fun u95 a w hn95 S H => ?_
          refine t_tail H rfl (rem' := [15, 16, 17]) rfl ?_
          refine t_q 15 rfl (by kernel_rfl) (rem' := [16, 17]) rfl rfl rfl rfl S (fun w H => y_nilCheck rfl S rfl) fun a S => ?_
          refine t_q 16 rfl (by kernel_rfl) (rem' := [17]) rfl rfl rfl rfl S (fun w H => y_faddrb rfl Ffo67_2 S rfl) fun a S => ?_
          refine t_b1 17 (by kernel_rfl) rfl fun w H => ?_
          refine op_store (wn rfl) rfl rfl S H rfl rfl (H.sl1 _) Fsiz64 rfl fun a w S H => ?_
          dsimp only [List.set, Nat.zero_add, Nat.reduceAdd] at H
          refine t_tail H rfl (rem' := []) rfl ?_
          refine t_nil (fun w H => ?_)
          rw [List.nil_append] at H
          exact ⟨u95, ((((S.nil.cons S 9 rfl).cons S 6 rfl).cons S 1 rfl).cons S 0 rfl), H.takeT [OSl 89 u95 2 Ent.enc ((g.at_ i).log ++ [(⟨(g.at_ i).term, r⟩ : Ent)]), Cel (c.pb i) 67 [.int .i64 (g.at_ i).term, .int .i64 (g.at_ i).vote, u95, .bool (g.at_ i).down, .int .i64 ((g.at_ i).role : Int), .int .i64 ((g.at_ i).done : Int), (z.p i).vv, (z.p i).aw], OSl 4 (z.p i).vv 1 eB1 (z.p i).vs, OSl 3 (z.p i).aw 1 encI (z.p i).ak, RRest c n g z i, RQs c z, BagA 7 encRM z.mb, BagA 2 Ent.enc z.bag] (RCel c :: RPts c n :: l)⟩
         ·refine ⟨_, rfl, fun w H => ?_⟩
          refine op_buildSlice (wn rfl) rfl rfl rfl Try.underlying64 Finf89 S H (idx := [0]) rfl rfl rfl (z := [.int .i64 0, .string ⟨#[]⟩]) (by kernel_rfl) (cs := [.int .i64 (g.at_ i).term, .string r]) rfl fun b94 a w S H => ?_
          refine t_n H (rem' := [6, 14, 15, 16, 17]) rfl ?_
          refine t_b1 6 (by kernel_rfl) rfl fun w H => ?_
          refine op_appendT (wn rfl) rfl rfl rfl Try.underlying64 Finf89 rfl rfl S H rfl rfl (by simp [Ent.enc, Value.oneCell']) (by simp only [List.length_nil]; omega) (by simp only [List.length_nil]; omega) fun u87 a w S H => ?_
          refine t_tail H rfl (rem' := [14, 15, 16, 17]) rfl ?_
          refine t_b1 14 (by kernel_rfl) rfl fun w H => ?_
          refine op_append ([(⟨(g.at_ i).term, r⟩ : Ent)]) (wn rfl) rfl rfl rfl Try.underlying64 Finf89 rfl rfl S H rfl rfl rfl rfl (by simp) (by simp [Ent.enc]) (by simp [Ent.enc, Value.oneCell']) (by simp only [List.nil_append, List.length_singleton]; omega) (by simp only [List.nil_append, List.length_singleton]; omega) fun u95 a w hn95 S H => ?_
          refine t_tail H rfl (rem' := [15, 16, 17]) rfl ?_
          refine t_q 15 rfl (by kernel_rfl) (rem' := [16, 17]) rfl rfl rfl rfl S (fun w H => y_nilCheck rfl S rfl) fun a S => ?_
          refine t_q 16 rfl (by kernel_rfl) (rem' := [17]) rfl rfl rfl rfl S (fun w H => y_faddrb rfl Ffo67_2 S rfl) fun a S => ?_
          refine t_b1 17 (by kernel_rfl) rfl fun w H => ?_
          refine op_store (wn rfl) rfl rfl S H rfl rfl (H.sl1 _) Fsiz64 rfl fun a w S H => ?_
          dsimp only [List.set, Nat.zero_add, Nat.reduceAdd] at H
          refine t_tail H rfl (rem' := []) rfl ?_
          refine t_nil (fun w H => ?_)
          rw [List.nil_append] at H
          exact ⟨u95, ((((S.nil.cons S 9 rfl).cons S 6 rfl).cons S 1 rfl).cons S 0 rfl), H.takeT [OSl 89 u95 2 Ent.enc ((g.at_ i).log ++ [(⟨(g.at_ i).term, r⟩ : Ent)]), Cel (c.pb i) 67 [.int .i64 (g.at_ i).term, .int .i64 (g.at_ i).vote, u95, .bool (g.at_ i).down, .int .i64 ((g.at_ i).role : Int), .int .i64 ((g.at_ i).done : Int), (z.p i).vv, (z.p i).aw], OSl 4 (z.p i).vv 1 eB1 (z.p i).vs, OSl 3 (z.p i).aw 1 encI (z.p i).ak, RRest c n g z i, RQs c z, BagA 7 encRM z.mb, BagA 2 Ent.enc z.bag] (RCel c :: RPts c n :: l)⟩
       ·refine ⟨_, rfl, fun w H => ?_⟩
        refine op_y (wn rfl) rfl rfl S (y_load rfl Fsca3 S H rfl rfl) fun a S => ?_
        refine t_n H (rem' := [1, 6, 12, 13, 14, 15, 16, 17]) rfl ?_
        refine t_p 12 rfl (by kernel_rfl) (rem' := [1, 6, 13, 14, 15, 16, 17]) rfl rfl rfl rfl S (fun w => y_buildf rfl Fbld89 S rfl (idx := [0, 1]) rfl (cs := [.int .i64 (g.at_ i).term, .string r]) rfl) fun a S => ?_
        refine t_b [1, 13] (by kernel_rfl) rfl (fa2 ?_ ?_)
        ·refine ⟨_, rfl, fun w H => ?_⟩
         refine op_buildSlice (wn rfl) rfl rfl rfl Try.underlying64 Finf89 S H (idx := []) rfl rfl rfl (z := []) (by kernel_rfl) (cs := []) rfl fun b82 a w S H => ?_
         have H := H.celO [] Ent.enc 2 (m := 0) rfl (by simp) rfl (by omega)
         refine t_n H (rem' := [6, 13, 14, 15, 16, 17]) rfl ?_
         refine t_b [6, 13] (by kernel_rfl) rfl (fa2 ?_ ?_)
         ·refine ⟨_, rfl, fun w H => ?_⟩
          refine op_appendT (wn rfl) rfl rfl rfl Try.underlying64 Finf89 rfl rfl S H rfl rfl (by simp [Ent.enc, Value.oneCell']) (by simp only [List.length_nil]; omega) (by simp only [List.length_nil]; omega) fun u87 a w S H => ?_
          refine t_tail H rfl (rem' := [13, 14, 15, 16, 17]) rfl ?_
          refine t_b1 13 (by kernel_rfl) rfl fun w H => ?_
          refine op_buildSlice (wn rfl) rfl rfl rfl Try.underlying64 Finf89 S H (idx := [0]) rfl rfl rfl (z := [.int .i64 0, .string ⟨#[]⟩]) (by kernel_rfl) (cs := [.int .i64 (g.at_ i).term, .string r]) rfl fun b94 a w S H => ?_
          refine t_n H (rem' := [14, 15, 16, 17]) rfl ?_
          refine t_b1 14 (by kernel_rfl) rfl fun w H => ?_
          refine op_append ([(⟨(g.at_ i).term, r⟩ : Ent)]) (wn rfl) rfl rfl rfl Try.underlying64 Finf89 rfl rfl S H rfl rfl rfl rfl (by simp) (by simp [Ent.enc]) (by simp [Ent.enc, Value.oneCell']) (by simp only [List.nil_append, List.length_singleton]; omega) (by simp only [List.nil_append, List.length_singleton]; omega) fun u95 a w hn95 S H => ?_
          refine t_tail H rfl (rem' := [15, 16, 17]) rfl ?_
          refine t_q 15 rfl (by kernel_rfl) (rem' := [16, 17]) rfl rfl rfl rfl S (fun w H => y_nilCheck rfl S rfl) fun a S => ?_
          refine t_q 16 rfl (by kernel_rfl) (rem' := [17]) rfl rfl rfl rfl S (fun w H => y_faddrb rfl Ffo67_2 S rfl) fun a S => ?_
          refine t_b1 17 (by kernel_rfl) rfl fun w H => ?_
          refine op_store (wn rfl) rfl rfl S H rfl rfl (H.sl1 _) Fsiz64 rfl fun a w S H => ?_
          dsimp only [List.set, Nat.zero_add, Nat.reduceAdd] at H
          refine t_tail H rfl (rem' := []) rfl ?_
          refine t_nil (fun w H => ?_)
          rw [List.nil_append] at H
          exact ⟨u95, ((((S.nil.cons S 9 rfl).cons S 6 rfl).cons S 1 rfl).cons S 0 rfl), H.takeT [OSl 89 u95 2 Ent.enc ((g.at_ i).log ++ [(⟨(g.at_ i).term, r⟩ : Ent)]), Cel (c.pb i) 67 [.int .i64 (g.at_ i).term, .int .i64 (g.at_ i).vote, u95, .bool (g.at_ i).down, .int .i64 ((g.at_ i).role : Int), .int .i64 ((g.at_ i).done : Int), (z.p i).vv, (z.p i).aw], OSl 4 (z.p i).vv 1 eB1 (z.p i).vs, OSl 3 (z.p i).aw 1 encI (z.p i).ak, RRest c n g z i, RQs c z, BagA 7 encRM z.mb, BagA 2 Ent.enc z.bag] (RCel c :: RPts c n :: l)⟩
         ·refine ⟨_, rfl, fun w H => ?_⟩
          refine op_buildSlice (wn rfl) rfl rfl rfl Try.underlying64 Finf89 S H (idx := [0]) rfl rfl rfl (z := [.int .i64 0, .string ⟨#[]⟩]) (by kernel_rfl) (cs := [.int .i64 (g.at_ i).term, .string r]) rfl fun b94 a w S H => ?_
          refine t_n H (rem' := [6, 14, 15, 16, 17]) rfl ?_
          refine t_b1 6 (by kernel_rfl) rfl fun w H => ?_
          refine op_appendT (wn rfl) rfl rfl rfl Try.underlying64 Finf89 rfl rfl S H rfl rfl (by simp [Ent.enc, Value.oneCell']) (by simp only [List.length_nil]; omega) (by simp only [List.length_nil]; omega) fun u87 a w S H => ?_
          refine t_tail H rfl (rem' := [14, 15, 16, 17]) rfl ?_
          refine t_b1 14 (by kernel_rfl) rfl fun w H => ?_
          refine op_append ([(⟨(g.at_ i).term, r⟩ : Ent)]) (wn rfl) rfl rfl rfl Try.underlying64 Finf89 rfl rfl S H rfl rfl rfl rfl (by simp) (by simp [Ent.enc]) (by simp [Ent.enc, Value.oneCell']) (by simp only [List.nil_append, List.length_singleton]; omega) (by simp only [List.nil_append, List.length_singleton]; omega) fun u95 a w hn95 S H => ?_
          refine t_tail H rfl (rem' := [15, 16, 17]) rfl ?_
          refine t_q 15 rfl (by kernel_rfl) (rem' := [16, 17]) rfl rfl rfl rfl S (fun w H => y_nilCheck rfl S rfl) fun a S => ?_
          refine t_q 16 rfl (by kernel_rfl) (rem' := [17]) rfl rfl rfl rfl S (fun w H => y_faddrb rfl Ffo67_2 S rfl) fun a S => ?_
          refine t_b1 17 (by kernel_rfl) rfl fun w H => ?_
          refine op_store (wn rfl) rfl rfl S H rfl rfl (H.sl1 _) Fsiz64 rfl fun a w S H => ?_
          dsimp only [List.set, Nat.zero_add, Nat.reduceAdd] at H
          refine t_tail H rfl (rem' := []) rfl ?_
          refine t_nil (fun w H => ?_)
          rw [List.nil_append] at H
          exact ⟨u95, ((((S.nil.cons S 9 rfl).cons S 6 rfl).cons S 1 rfl).cons S 0 rfl), H.takeT [OSl 89 u95 2 Ent.enc ((g.at_ i).log ++ [(⟨(g.at_ i).term, r⟩ : Ent)]), Cel (c.pb i) 67 [.int .i64 (g.at_ i).term, .int .i64 (g.at_ i).vote, u95, .bool (g.at_ i).down, .int .i64 ((g.at_ i).role : Int), .int .i64 ((g.at_ i).done : Int), (z.p i).vv, (z.p i).aw], OSl 4 (z.p i).vv 1 eB1 (z.p i).vs, OSl 3 (z.p i).aw 1 encI (z.p i).ak, RRest c n g z i, RQs c z, BagA 7 encRM z.mb, BagA 2 Ent.enc z.bag] (RCel c :: RPts c n :: l)⟩
        ·refine ⟨_, rfl, fun w H => ?_⟩
         refine op_buildSlice (wn rfl) rfl rfl rfl Try.underlying64 Finf89 S H (idx := [0]) rfl rfl rfl (z := [.int .i64 0, .string ⟨#[]⟩]) (by kernel_rfl) (cs := [.int .i64 (g.at_ i).term, .string r]) rfl fun b94 a w S H => ?_
         refine t_n H (rem' := [1, 6, 14, 15, 16, 17]) rfl ?_
         refine t_b1 1 (by kernel_rfl) rfl fun w H => ?_
         refine op_buildSlice (wn rfl) rfl rfl rfl Try.underlying64 Finf89 S H (idx := []) rfl rfl rfl (z := []) (by kernel_rfl) (cs := []) rfl fun b82 a w S H => ?_
         have H := H.celO [] Ent.enc 2 (m := 0) rfl (by simp) rfl (by omega)
         refine t_n H (rem' := [6, 14, 15, 16, 17]) rfl ?_
         refine t_b1 6 (by kernel_rfl) rfl fun w H => ?_
         refine op_appendT (wn rfl) rfl rfl rfl Try.underlying64 Finf89 rfl rfl S H rfl rfl (by simp [Ent.enc, Value.oneCell']) (by simp only [List.length_nil]; omega) (by simp only [List.length_nil]; omega) fun u87 a w S H => ?_
         refine t_tail H rfl (rem' := [14, 15, 16, 17]) rfl ?_
         refine t_b1 14 (by kernel_rfl) rfl fun w H => ?_
         refine op_append ([(⟨(g.at_ i).term, r⟩ : Ent)]) (wn rfl) rfl rfl rfl Try.underlying64 Finf89 rfl rfl S H rfl rfl rfl rfl (by simp) (by simp [Ent.enc]) (by simp [Ent.enc, Value.oneCell']) (by simp only [List.nil_append, List.length_singleton]; omega) (by simp only [List.nil_append, List.length_singleton]; omega) fun u95 a w hn95 S H => ?_
         refine t_tail H rfl (rem' := [15, 16, 17]) rfl ?_
         refine t_q 15 rfl (by kernel_rfl) (rem' := [16, 17]) rfl rfl rfl rfl S (fun w H => y_nilCheck rfl S rfl) fun a S => ?_
         refine t_q 16 rfl (by kernel_rfl) (rem' := [17]) rfl rfl rfl rfl S (fun w H => y_faddrb rfl Ffo67_2 S rfl) fun a S => ?_
         refine t_b1 17 (by kernel_rfl) rfl fun w H => ?_
         refine op_store (wn rfl) rfl rfl S H rfl rfl (H.sl1 _) Fsiz64 rfl fun a w S H => ?_
         dsimp only [List.set, Nat.zero_add, Nat.reduceAdd] at H
         refine t_tail H rfl (rem' := []) rfl ?_
         refine t_nil (fun w H => ?_)
         rw [List.nil_append] at H
         exact ⟨u95, ((((S.nil.cons S 9 rfl).cons S 6 rfl).cons S 1 rfl).cons S 0 rfl), H.takeT [OSl 89 u95 2 Ent.enc ((g.at_ i).log ++ [(⟨(g.at_ i).term, r⟩ : Ent)]), Cel (c.pb i) 67 [.int .i64 (g.at_ i).term, .int .i64 (g.at_ i).vote, u95, .bool (g.at_ i).down, .int .i64 ((g.at_ i).role : Int), .int .i64 ((g.at_ i).done : Int), (z.p i).vv, (z.p i).aw], OSl 4 (z.p i).vv 1 eB1 (z.p i).vs, OSl 3 (z.p i).aw 1 encI (z.p i).ak, RRest c n g z i, RQs c z, BagA 7 encRM z.mb, BagA 2 Ent.enc z.bag] (RCel c :: RPts c n :: l)⟩
      rintro a w ⟨u95, S, H⟩
      simp only [List.cons_append, List.nil_append] at H
      refine gsr ?_
      refine gm S fun a S => ?_
      refine gy rfl rfl rfl S (y_nilCheck rfl S rfl) fun a S => ?_
      refine gy rfl rfl rfl S (y_faddrb rfl Ffo67_2 S rfl) fun a S => ?_
      refine gy rfl rfl rfl S (y_load rfl Fsca64 S H rfl rfl) fun a S => ?_
      refine gy rfl rfl rfl S (y_lens rfl Try.underlying64 S H rfl) fun a S => ?_
      refine gy rfl rfl rfl S (y_sub rfl S rfl rfl (by first | omega | (simp only [List.length_append, List.length_singleton]; omega))) fun a S => ?_
      refine ga S fun a S => ?_
      refine gnt ?_
      have S := ((S.nil.cons S 6 rfl).cons S 0 rfl).cons S 10 rfl
      refine gsr ?_
      refine gm S fun a S => ?_
      refine gm S fun a S => ?_
      refine wl_of (op_call (wn rfl) rfl rfl S (co_func rfl Try.call38 S rfl) (rshare_spec c n (g.put i ((g.at_ i).snoc r)) { z with p := fun v => if v = i then ({ z.p i with lv := u95 } : RV) else z.p v, bag := ((u95, (g.at_ i).log ++ [(⟨(g.at_ i).term, r⟩ : Ent)]) :: z.bag) } i _ (rputIn ({ z.p i with lv := u95 } : RV) ((g.at_ i).snoc r) (rbag2 (u := u95) (l2 := (g.at_ i).log ++ [(⟨(g.at_ i).term, r⟩ : Ent)]) (bag := z.bag) (l := (RCel c :: RPts c n :: l)) (l1 := [Cel (c.pb i) 67 [.int .i64 (g.at_ i).term, .int .i64 (g.at_ i).vote, u95, .bool (g.at_ i).down, .int .i64 ((g.at_ i).role : Int), .int .i64 ((g.at_ i).done : Int), (z.p i).vv, (z.p i).aw], OSl 4 (z.p i).vv 1 eB1 (z.p i).vs, OSl 3 (z.p i).aw 1 encI (z.p i).ak, RRest c n g z i, RQs c z, BagA 7 encRM z.mb]) (H.takeT [OSl 89 u95 2 Ent.enc ((g.at_ i).log ++ [(⟨(g.at_ i).term, r⟩ : Ent)]), Cel (c.pb i) 67 [.int .i64 (g.at_ i).term, .int .i64 (g.at_ i).vote, u95, .bool (g.at_ i).down, .int .i64 ((g.at_ i).role : Int), .int .i64 ((g.at_ i).done : Int), (z.p i).vv, (z.p i).aw], OSl 4 (z.p i).vv 1 eB1 (z.p i).vs, OSl 3 (z.p i).aw 1 encI (z.p i).ak, RRest c n g z i, RQs c z, BagA 7 encRM z.mb, BagA 2 Ent.enc z.bag] (RCel c :: RPts c n :: l))) hz hi ⟨hf.v, hf.a, hf.t⟩ (fun q hq => List.mem_cons_of_mem _ hq) (List.mem_cons_self ..)) hi (fun j => by have := hF.len i j; show (g.q i j).length ≤ _; omega) (by rw [Grp.put_same _ hin]; show ((g.at_ i).log ++ [(⟨(g.at_ i).term, r⟩ : Ent)]).length ≤ _; simp; omega)) fun v w hc a S => ?_)
      obtain ⟨rfl, z1, H⟩ := hc
      
      refine gnt ?_
      refine gsr ?_
      refine gm S fun a S => ?_
      refine gm S fun a S => ?_
      refine wl_of (op_call (wn rfl) rfl rfl S (co_func rfl Try.call39 S rfl) (rcommit_spec c n ((g.put i ((g.at_ i).snoc r)).share i) z1 i _ H hi (by rw [Grp.share_at, Grp.put_same _ hin]; exact hr2) (fun j => Nat.le_trans (all_q_len _ _ _ i j) (by have := hF.len i j; show (g.q i j).length + 1 ≤ _; omega)) (by rw [Grp.share_at, Grp.put_same _ hin]; show ((g.at_ i).log ++ [(⟨(g.at_ i).term, r⟩ : Ent)]).length ≤ _; simp; omega)) fun v w hc a S => ?_)
      obtain ⟨rfl, z2, H⟩ := hc
      
      refine gnt ?_
      have S := S.nil.cons S 10 rfl
      refine gsr ?_
      refine gm S fun a S => ?_
      refine ga S fun a S => ?_
      refine ga S fun a S => ?_
      refine gnt ?_
      refine g_ret ?_
      refine ret2 rfl S rfl rfl ?_
      refine ⟨by unfold propX; rw [if_neg hsm, hbn]; dsimp only; rw [if_neg hfull]; simp, z2, ?_⟩
      unfold Grp.propose; rw [show g.taker r = some i by unfold Grp.taker; rw [if_neg hsm, hbn]; dsimp only; rw [if_neg hfull]]; exact H
set_option maxHeartbeats 1000000 in
/-- (*foyer/foyerref48.Group).Committed -/
theorem rcommitted_spec {M : Nat → Prop} {u0 : World} {l : List Atom} (c : RC) (n : Nat) (g : Grp) (z : RGV) (i : Nat) (w0 : World) (h0 : HSat M u0 (RGrpA c n g z :: RCel c :: RPts c n :: l) w0) (hF : Fit g) :
    Ret Try.prog 21 #[.pointer (some ⟨c.b, 0, none⟩), .int .i64 (i : Int)] w0 (fun u w => HSat No w0 [OSl 9 u 1 encS (comR g i)] w) := by
 refine ret_of_wp (nt := 43) Try.func21 rfl rfl rfl (fl := [(0, .pointer (some ⟨c.b, 0, none⟩)), (1, .int .i64 (i : Int))]) rfl (fun a S => ?_)
 obtain ⟨H, hz⟩ := rgrpReads h0
 have H := H.perm (show ([_, _, _, _] : List Atom).Perm [RCel c, RPts c n, Atom.ro (RPrs c n g z), Atom.ro (BagA 2 Ent.enc z.bag)] from (List.perm_append_comm (l₁ := [Atom.ro (RPrs c n g z), Atom.ro (BagA 2 Ent.enc z.bag)]) (l₂ := [RCel c, RPts c n])))
 refine gsr ?_
 refine ga S fun a S => ?_
 refine gnt ?_
 refine g_seq ?_
 refine gsr ?_
 refine gm S fun a S => ?_
 refine gm S fun a S => ?_
 refine wl_of (op_call (wn rfl) rfl rfl S (co_func rfl Try.call27 S rfl) (rhas_spec c.b n c.av c.qv c.pb (i : Int) _ (H.rd c.b) (H.sl c.av)) fun v w hc a S => ?_)
 obtain ⟨rfl, he⟩ := hc
 have H := H.ext he
 rw [hasB_nat] at S
 refine gy rfl rfl rfl S (y_not rfl S rfl) fun a S => ?_
 refine gnt ?_
 refine c_if S rfl (fun h1 => ?_) (fun h1 => ?_)
 ·have h1p := h1; try simp only [DL] at h1p
  have hno : ¬ i < g.n := by rw [hz.en]; simpa using h1
  refine gsr ?_
  refine ga S fun a S => ?_
  refine gnt ?_
  have S := ((S.nil.cons S 1 rfl).cons S 0 rfl).cons S 4 rfl
  refine g_ret ?_
  refine r_then (ret1 rfl S rfl ?_)
  unfold comR; rw [if_neg hno]; exact (H.nilO 9 1 encS).take [OSl 9 (.slice none 0 0) 1 encS []]
 ·have h1p := h1; try simp only [DL] at h1p
  have hi : i < n := by simpa using h1
  have hin : i < g.n := by rw [hz.en]; exact hi
  have iS : ∀ l, HasSl (Atom.ro (BagA 2 Ent.enc z.bag) :: l) (z.p i).lv 2 Ent Ent.enc (g.at_ i).log := bagSlRo (hz.lg i hi)
  have iR : ∀ l, HasRd (Atom.ro (RPrs c n g z) :: l) (c.pb i) _ := rprsRdRo hi
  have hlo := hF.lim.log i hin
  have hdl : (g.at_ i).done ≤ (g.at_ i).log.length := by obtain ⟨γ, R⟩ := hF.ri; exact R.done_le hin
  refine g_skip ?_
  refine n_then ?_
  have S := ((S.nil.cons S 1 rfl).cons S 0 rfl).cons S 4 rfl
  refine gsr ?_
  refine ga S fun a S => ?_
  refine gnt ?_
  refine g_seq ?_
  refine gsr ?_
  refine ga S fun a S => ?_
  refine gnt ?_
  refine g_block ?_
  have SU := ((S.nil.cons S 1 rfl).cons S 0 rfl).cons S 4 rfl
  refine loopW (X := Nat × Value) SU (fun x => [(5, x.2), (6, .int .i64 (x.1 : Int))]) (fun x w => x.1 ≤ (g.at_ i).done ∧ HSat No w0 (OSl 9 x.2 1 encS (((g.at_ i).log.map Ent.txt).take x.1) :: RCel c :: RPts c n :: Atom.ro (RPrs c n g z) :: Atom.ro (BagA 2 Ent.enc z.bag) :: []) w) (fun x => (g.at_ i).done - x.1) (0, .slice none 0 0) ((S.nil.cons S 6 rfl).cons S 5 rfl) (⟨Nat.zero_le _, H.nilO 9 1 encS⟩) (fun x a w S hW => ?_)
  simp only [List.cons_append, List.nil_append] at S
  obtain ⟨k, s⟩ := x
  obtain ⟨hk, H⟩ := hW
  dsimp only at S H hk
  refine g_seq ?_
  refine gsr ?_
  refine gm S fun a S => ?_
  refine gm S fun a S => ?_
  refine gy rfl rfl rfl S (y_nilCheck rfl S rfl) fun a S => ?_
  refine gy rfl rfl rfl S (y_faddrb rfl Ffo62_0 S rfl) fun a S => ?_
  refine gy rfl rfl rfl S (y_load rfl Fsca60 S H rfl rfl) fun a S => ?_
  refine gm S fun a S => ?_
  refine gy rfl rfl rfl S (y_iaddrn rfl Try.underlying60 Fsiz63 S H rfl rfl (by first | assumption | omega | (simp only [List.length_range]; omega) | (simp only [List.length_replicate]; omega) | (simp only [List.length_cons]; omega) | (simp only [LL]; omega))) fun a S => ?_
  refine gy rfl rfl rfl S ((y_loadsD c.av 0 rfl Fsca63 S H rfl (by simp only [List.length_range]; omega) (ldPt hi))) fun a S => ?_
  refine gy rfl rfl rfl S (y_nilCheck rfl S rfl) fun a S => ?_
  refine gy rfl rfl rfl S (y_faddrb rfl Ffo67_5 S rfl) fun a S => ?_
  refine gy rfl rfl rfl S (y_load rfl Fsca3 S H rfl rfl) fun a S => ?_
  refine gy rfl rfl rfl S (y_bin rfl S rfl rfl rfl) fun a S => ?_
  refine gnt ?_
  have S := (((((S.nil.cons S 1 rfl).cons S 0 rfl).cons S 4 rfl).cons S 6 rfl).cons S 5 rfl).cons S 22 rfl
  refine c_if S rfl (fun h2 => ?_) (fun h2 => ?_)
  ·have h2p := h2; try simp only [DL] at h2p
   refine g_skip ?_
   refine n_then ?_
   refine g_seq ?_
   refine g_block ?_
   refine g_region ?_
   refine gm S fun a S => ?_
   refine gm S fun a S => ?_
   refine gy rfl rfl rfl S (y_nilCheck rfl S rfl) fun a S => ?_
   refine gy rfl rfl rfl S (y_faddrb rfl Ffo62_0 S rfl) fun a S => ?_
   refine gy rfl rfl rfl S (y_load rfl Fsca60 S H rfl rfl) fun a S => ?_
   refine gm S fun a S => ?_
   refine gy rfl rfl rfl S (y_iaddrn rfl Try.underlying60 Fsiz63 S H rfl rfl (by first | assumption | omega | (simp only [List.length_range]; omega) | (simp only [List.length_replicate]; omega) | (simp only [List.length_cons]; omega) | (simp only [LL]; omega))) fun a S => ?_
   refine gy rfl rfl rfl S ((y_loadsD c.av 0 rfl Fsca63 S H rfl (by simp only [List.length_range]; omega) (ldPt hi))) fun a S => ?_
   refine gy rfl rfl rfl S (y_nilCheck rfl S rfl) fun a S => ?_
   refine gy rfl rfl rfl S (y_faddrb rfl Ffo67_2 S rfl) fun a S => ?_
   refine gy rfl rfl rfl S (y_load rfl Fsca64 S H rfl rfl) fun a S => ?_
   refine gm S fun a S => ?_
   refine gy rfl rfl rfl S (y_iaddrn rfl Try.underlying64 Fsiz89 S H rfl rfl (by first | assumption | omega | (simp only [List.length_range]; omega) | (simp only [List.length_replicate]; omega) | (simp only [List.length_cons]; omega) | (simp only [LL]; omega))) fun a S => ?_
   refine gy rfl rfl rfl S (y_faddr rfl Ffo89_1 S rfl) fun a S => ?_
   refine gy rfl rfl rfl S (y_loadsf _ rfl Fsca9 S H rfl (by first | assumption | omega | (simp only [List.length_range]; omega) | (simp only [List.length_replicate]; omega) | (simp only [List.length_cons]; omega) | (simp only [LL]; omega)) rfl) fun a S => ?_
   refine wl_of (op_buildSlice (wn rfl) rfl rfl rfl Try.underlying39 Finf9 S H (idx := [0]) rfl rfl rfl (z := [.string ⟨#[]⟩]) (by kernel_rfl) (cs := [_]) rfl fun b40 a w S H => ?_)
   refine wl_of (op_append ([(g.at_ i).log[k].txt]) (wn rfl) rfl rfl rfl Try.underlying39 Finf9 rfl rfl S H rfl rfl rfl rfl (by simp) (by simp [encS]) (by simp [encS, Value.oneCell']) (by simp only [List.length_take, List.length_map, List.length_singleton]; omega) (by simp only [List.length_take, List.length_map, List.length_singleton]; omega) fun u41 a w hn41 S H => ?_)
   refine ga S fun a S => ?_
   refine gl_nil ?_
   refine n_block ?_
   refine n_then ?_
   have S := ((((S.nil.cons S 1 rfl).cons S 0 rfl).cons S 4 rfl).cons S 6 rfl).cons S 5 rfl
   refine g_region ?_
   refine gm S fun a S => ?_
   refine gy rfl rfl rfl S (y_add rfl S rfl rfl (by omega)) fun a S => ?_
   refine ga S fun a S => ?_
   refine gnt ?_
   have ht : ((g.at_ i).log.map Ent.txt).take k ++ [(g.at_ i).log[k].txt] = ((g.at_ i).log.map Ent.txt).take (k + 1) := by rw [List.take_succ_eq_append_getElem (by rw [List.length_map]; omega), List.getElem_map]
   rw [ht] at H
   exact ⟨(k + 1, u41), (S.nil.cons S 6 rfl).cons S 5 rfl, ((S.nil.cons S 1 rfl).cons S 0 rfl).cons S 4 rfl, ⟨by dsimp only; omega, H.takeT [OSl 9 u41 1 encS (((g.at_ i).log.map Ent.txt).take (k + 1)), RCel c, RPts c n, Atom.ro (RPrs c n g z), Atom.ro (BagA 2 Ent.enc z.bag)] []⟩, by dsimp only; omega⟩
  ·have h2p := h2; try simp only [DL] at h2p
   refine g_exit ?_
   refine x_then (x_then (x_eq ?_))
   refine n_then ?_
   have S := (S.nil.cons S 4 rfl).cons S 5 rfl
   refine gsr ?_
   refine gm S fun a S => ?_
   refine ga S fun a S => ?_
   refine gnt ?_
   refine g_ret ?_
   refine ret1 rfl S rfl ?_
   obtain rfl : k = (g.at_ i).done := by omega
   rw [← List.map_take] at H
   unfold comR; rw [if_pos hin]; exact H.take [OSl 9 s 1 encS (((g.at_ i).log.take (g.at_ i).done).map Ent.txt)]
theorem rnewGrpO {w w0 : World} {M : Nat → Prop} {l : List Atom} {b n : Nat} {v q : Value} {pb : Nat → Nat} (H : HSat M w0 (Cel b 62 [v, q] :: OSl 63 v 1 (encPt pb) (List.range n) :: FamA (List.range n) (fun i => ReplA n (pb i) RV.z Peer.z) :: OSl 74 q 1 encRow (List.replicate (n * n) (.slice none 0 0, ([] : List MV))) :: l) w) (hn : n ≤ 7) :
    ∃ c z, c.b = b ∧ HSat M w0 (RGrpA c n (Grp.z n) z :: Cel c.b 62 [c.av, c.qv] :: OSl 63 c.av 1 (encPt c.pb) (List.range n) :: l) w := by
  have h3 : HSat M w0 (FamA (List.range n) (fun i => ReplA n (pb i) RV.z Peer.z) :: OSl 74 q 1 encRow (List.replicate (n * n) (.slice none 0 0, ([] : List MV))) :: (Cel b 62 [v, q] :: OSl 63 v 1 (encPt pb) (List.range n) :: l)) w :=
    H.perm ((List.perm_append_comm (l₁ := [Cel b 62 [v, q], OSl 63 v 1 (encPt pb) (List.range n)]) (l₂ := [FamA (List.range n) (fun i => ReplA n (pb i) RV.z Peer.z), OSl 74 q 1 encRow (List.replicate (n * n) (.slice none 0 0, ([] : List MV)))])).append_right l)
  have h4 := (h3.bagNil 2 Ent.enc).bagNil 7 encRM
  refine ⟨⟨b, v, q, pb⟩, ⟨fun _ => RV.z, List.replicate (n * n) (.slice none 0 0, []), [(.slice none 0 0, [])], [(.slice none 0 0, [])]⟩, rfl, rgrpIn (c := ⟨b, v, q, pb⟩) (g := Grp.z n) ?_ ⟨Grp.z_n n, hn, fun i _ => by rw [Grp.z_at]; exact List.mem_singleton.2 rfl, List.length_replicate, fun a b _ _ => ?_, fun p hp => ?_, fun p hp m hm => ?_, fun p hp => by rw [List.mem_singleton.1 hp]; exact Nat.le_refl 0⟩⟩
  · have h5 : HSat M w0 (FamA (List.range n) (fun i => ReplA n (pb i) RV.z Peer.z) :: OSl 74 q 1 encRow (List.replicate (n * n) (.slice none 0 0, ([] : List MV))) :: BagA 7 encRM [(.slice none 0 0, [])] :: BagA 2 Ent.enc [(.slice none 0 0, [])] :: (Cel b 62 [v, q] :: OSl 63 v 1 (encPt pb) (List.range n) :: l)) w :=
      h4.perm ((List.perm_append_comm (l₁ := [BagA 7 encRM [(.slice none 0 0, [])], BagA 2 Ent.enc [(.slice none 0 0, [])]]) (l₂ := [FamA (List.range n) (fun i => ReplA n (pb i) RV.z Peer.z), OSl 74 q 1 encRow (List.replicate (n * n) (.slice none 0 0, ([] : List MV)))])).append_right (Cel b 62 [v, q] :: OSl 63 v 1 (encPt pb) (List.range n) :: l))
    exact h5.famEq (fun j hj => by rw [Grp.z_at])
  · unfold RGV.row
    rw [List.getD_eq_getElem?_getD, List.getElem?_replicate]
    split <;> rfl
  · rw [List.eq_of_mem_replicate hp]; exact List.mem_singleton.2 rfl
  · rw [List.eq_of_mem_replicate hp] at hm; cases hm
set_option maxHeartbeats 1000000 in
/-- foyer/foyerref48.New -/
theorem rnew_spec (m : Int) (w0 : World) :
    Ret Try.prog 11 #[.int .i64 m] w0 (fun u w => (¬ (1 ≤ m ∧ m ≤ 7) → u = .tuple #[.pointer none, .int .i64 1] ∧ Ext w0 w) ∧ (1 ≤ m ∧ m ≤ 7 → ∃ c z, u = .tuple #[.pointer (some ⟨c.b, 0, none⟩), .int .i64 0] ∧ HSat No w0 [RGrpA c m.toNat (Grp.z m.toNat) z, Cel c.b 62 [c.av, c.qv], OSl 63 c.av 1 (encPt c.pb) (List.range m.toNat)] w)) := by
 refine ret_of_wp (nt := 35) Try.func11 rfl rfl rfl (fl := [(0, .int .i64 m)]) rfl (fun a S => ?_)
 have H := HSat.start w0
 refine gsr ?_
 refine ga S fun a S => ?_
 refine ga S fun a S => ?_
 refine gnt ?_
 refine g_seq ?_
 refine gsr ?_
 refine gm S fun a S => ?_
 refine gy rfl rfl rfl S (y_bin rfl S rfl rfl rfl) fun a S => ?_
 refine gm S fun a S => ?_
 refine' wl_or 2 8 rfl S H rfl rfl rfl rfl rfl rfl rfl (fun _ S => (wn rfl)) (fun h1 kk => ?yh1) (fun a w S H => ?_)
 case yh1 =>
  have h1p := h1; try simp only [DL] at h1p
  refine gz 8 h1 S rfl rfl rfl rfl rfl rfl (y_move rfl S rfl) fun a S => ?_
  refine gz 8 h1 S rfl rfl rfl rfl rfl rfl (y_bin rfl S rfl rfl rfl) fun a S => ?_
  refine gy rfl rfl rfl S (y_or' rfl h1 S rfl rfl) fun a S => ?_
  exact kk _ _ (S.join 3 11 rfl rfl) H
 refine gnt ?_
 refine c_if S rfl (fun h2 => ?_) (fun h2 => ?_)
 ·have h2p := h2; try simp only [DL] at h2p
  have hbad : ¬ (1 ≤ m ∧ m ≤ 7) := by have := h2p; omega
  refine gsr ?_
  refine ga S fun a S => ?_
  refine ga S fun a S => ?_
  refine gnt ?_
  have S := ((S.nil.cons S 0 rfl).cons S 2 rfl).cons S 3 rfl
  refine g_ret ?_
  refine r_then (ret2 rfl S rfl rfl ?_)
  exact ⟨fun _ => ⟨rfl, H.toExt⟩, fun h => absurd h hbad⟩
 ·have h2p := h2; try simp only [DL] at h2p
  have hgood : 1 ≤ m ∧ m ≤ 7 := by have := h2p; omega
  obtain ⟨n, rfl⟩ : ∃ n : Nat, m = (n : Int) := ⟨m.toNat, by omega⟩
  have hnn : n * n ≤ 7 * 7 := Nat.mul_le_mul (by omega) (by omega)
  refine g_skip ?_
  refine n_then ?_
  have S := ((S.nil.cons S 0 rfl).cons S 2 rfl).cons S 3 rfl
  refine gsr ?_
  refine gm S fun a S => ?_
  refine gm S fun a S => ?_
  refine gy rfl rfl rfl S (y_mul rfl S rfl rfl (by first | omega | (rw [← Int.natCast_mul]; omega))) fun a S => ?_
  rw [← Int.natCast_mul] at S
  refine wl_of (op_make ((encRow : Value × List MV → List Value)) ((.slice none 0 0, [])) (wn rfl) rfl rfl rfl Try.underlying59 Finf74 rfl rfl S H rfl rfl rfl (by omega) (by omega) fun b15 a w S H => ?_)
  refine gy rfl rfl rfl S (y_buildf rfl Fbld62 S rfl (idx := [1]) rfl (cs := [.slice none 0 0, .slice (some ⟨b15, 0, none⟩) (n * n) (n * n)]) rfl) fun a S => ?_
  refine wl_of (op_boxa (wn rfl) rfl rfl rfl S H rfl fun b17 a w S H => ?_)
  refine ga S fun a S => ?_
  refine gnt ?_
  have S := (((S.nil.cons S 0 rfl).cons S 2 rfl).cons S 3 rfl).cons S 4 rfl
  refine g_seq ?_
  refine gsr ?_
  refine ga S fun a S => ?_
  refine gnt ?_
  refine g_block ?_
  have SU := (((S.nil.cons S 0 rfl).cons S 2 rfl).cons S 3 rfl).cons S 4 rfl
  refine loopW (X := Nat × Value × (Nat → Nat)) SU (fun x => [(5, .int .i64 (x.1 : Int))]) (fun x w => x.1 ≤ n ∧ HSat No w0 (Cel b17 62 [x.2.1, .slice (some ⟨b15, 0, none⟩) (n * n) (n * n)] :: OSl 63 x.2.1 1 (encPt x.2.2) (List.range x.1) :: FamA (List.range x.1) (fun i => ReplA n (x.2.2 i) RV.z Peer.z) :: OSl 74 (.slice (some ⟨b15, 0, none⟩) (n * n) (n * n)) 1 encRow (List.replicate (n * n) (.slice none 0 0, ([] : List MV))) :: []) w) (fun x => n - x.1) (0, .slice none 0 0, fun _ => 0) (S.nil.cons S 5 rfl) (⟨Nat.zero_le _, by have h := ((H.famNil (fun i : Nat => ReplA n ((fun _ : Nat => 0) i) RV.z Peer.z)).nilO 63 1 (encPt fun _ : Nat => 0)); exact h.take [Cel b17 62 [.slice none 0 0, .slice (some ⟨b15, 0, none⟩) (n * n) (n * n)], OSl 63 (.slice none 0 0) 1 (encPt fun _ : Nat => 0) [], FamA [] (fun i : Nat => ReplA n ((fun _ : Nat => 0) i) RV.z Peer.z), OSl 74 (.slice (some ⟨b15, 0, none⟩) (n * n) (n * n)) 1 encRow (List.replicate (n * n) (.slice none 0 0, ([] : List MV)))]⟩) (fun x a w S hW => ?_)
  simp only [List.cons_append, List.nil_append] at S
  obtain ⟨k, v, pb⟩ := x
  obtain ⟨hk, H⟩ := hW
  dsimp only at S H hk
  refine g_seq ?_
  refine gsr ?_
  refine gm S fun a S => ?_
  refine gm S fun a S => ?_
  refine gy rfl rfl rfl S (y_bin rfl S rfl rfl rfl) fun a S => ?_
  refine gnt ?_
  refine c_if S rfl (fun h3 => ?_) (fun h3 => ?_)
  ·have h3p := h3; try simp only [DL] at h3p
   refine g_skip ?_
   refine n_then ?_
   refine g_seq ?_
   refine g_block ?_
   refine g_region ?_
   refine gm S fun a S => ?_
   refine gm S fun a S => ?_
   refine gy rfl rfl rfl S (y_nilCheck rfl S rfl) fun a S => ?_
   refine gy rfl rfl rfl S (y_faddrb rfl Ffo62_0 S rfl) fun a S => ?_
   refine gy rfl rfl rfl S (y_load rfl Fsca60 S H rfl rfl) fun a S => ?_
   refine gy rfl rfl rfl S (y_buildf rfl Fbld67 S rfl (idx := [1]) rfl (cs := [.int .i64 0, .int .i64 (-1), .slice none 0 0, .bool false, .int .i64 0, .int .i64 0, .slice none 0 0, .slice none 0 0]) rfl) fun a S => ?_
   refine wl_of (op_boxa (wn rfl) rfl rfl rfl S H rfl fun b29 a w S H => ?_)
   have H := oslEnc (H.front (OSl 63 v 1 (encPt pb) (List.range k))) (encPt (fun x => if x = k then b29 else pb x)) (fun x hx => by have := List.mem_range.1 hx; unfold encPt; dsimp only; rw [if_neg (by omega)])
   refine wl_of (op_buildSlice (wn rfl) rfl rfl rfl Try.underlying60 Finf63 S H (idx := [0]) rfl rfl rfl (z := [.pointer none]) (by kernel_rfl) (cs := [.pointer (some ⟨b29, 0, none⟩)]) rfl fun b30 a w S H => ?_)
   refine wl_of (op_append (enc := encPt (fun x => if x = k then b29 else pb x)) [k] (wn rfl) rfl rfl rfl Try.underlying60 Finf63 rfl rfl S H rfl rfl rfl (by simp [encPt]) (by simp) (by simp [encPt]) (by simp [encPt, Value.oneCell']) (by simp only [List.length_range, List.length_singleton]; omega) (by simp only [List.length_range, List.length_singleton]; omega) fun u31 a w hn31 S H => ?_)
   refine gy rfl rfl rfl S (y_nilCheck rfl S rfl) fun a S => ?_
   refine gy rfl rfl rfl S (y_faddrb rfl Ffo62_0 S rfl) fun a S => ?_
   refine wl_of (op_store (wn rfl) rfl rfl S H rfl rfl (H.sl1 _) Fsiz60 rfl fun a w S H => ?_)
   dsimp only [List.set, Nat.zero_add, Nat.reduceAdd] at H
   refine gl_nil ?_
   refine n_block ?_
   refine n_then ?_
   have S := ((((S.nil.cons S 0 rfl).cons S 2 rfl).cons S 3 rfl).cons S 4 rfl).cons S 5 rfl
   refine g_region ?_
   refine gm S fun a S => ?_
   refine gy rfl rfl rfl S (y_add rfl S rfl rfl (by first | omega | (rw [← Int.natCast_mul]; omega))) fun a S => ?_
   refine ga S fun a S => ?_
   refine gnt ?_
   have H := rnewPeer (n := n) (H.takeT [Cel b29 67 [.int .i64 0, .int .i64 (-1), .slice none 0 0, .bool false, .int .i64 0, .int .i64 0, .slice none 0 0, .slice none 0 0], FamA (List.range k) (fun i => ReplA n (pb i) RV.z Peer.z), Cel b17 62 [u31, .slice (some ⟨b15, 0, none⟩) (n * n) (n * n)], OSl 63 u31 1 (encPt (fun x => if x = k then b29 else pb x)) (List.range k ++ [k]), OSl 74 (.slice (some ⟨b15, 0, none⟩) (n * n) (n * n)) 1 encRow (List.replicate (n * n) (.slice none 0 0, ([] : List MV)))] [])
   have H := H.famSnoc (k := k) (fun i => ReplA n (if i = k then b29 else pb i) RV.z Peer.z) rfl (by rw [if_pos rfl]) (fun j hj => by have := List.mem_range.1 hj; rw [if_neg (by omega)])
   rw [← List.range_succ] at H
   simp only [List.append_eq, List.append_nil, Nat.succ_eq_add_one] at H
   exact ⟨(k + 1, u31, fun x => if x = k then b29 else pb x), S.nil.cons S 5 rfl, (((S.nil.cons S 0 rfl).cons S 2 rfl).cons S 3 rfl).cons S 4 rfl, ⟨by dsimp only; omega, H.take [Cel b17 62 [u31, .slice (some ⟨b15, 0, none⟩) (n * n) (n * n)], OSl 63 u31 1 (encPt (fun x => if x = k then b29 else pb x)) (List.range (k + 1)), FamA (List.range (k + 1)) (fun i => ReplA n (if i = k then b29 else pb i) RV.z Peer.z), OSl 74 (.slice (some ⟨b15, 0, none⟩) (n * n) (n * n)) 1 encRow (List.replicate (n * n) (.slice none 0 0, ([] : List MV)))]⟩, by dsimp only; omega⟩
  ·have h3p := h3; try simp only [DL] at h3p
   refine g_exit ?_
   refine x_then (x_then (x_eq ?_))
   refine n_then ?_
   have S := ((S.nil.cons S 2 rfl).cons S 3 rfl).cons S 4 rfl
   refine gsr ?_
   refine gm S fun a S => ?_
   refine ga S fun a S => ?_
   refine ga S fun a S => ?_
   refine gnt ?_
   have S := (S.nil.cons S 2 rfl).cons S 3 rfl
   refine g_ret ?_
   refine ret2 rfl S rfl rfl ?_
   obtain rfl : n = k := by omega
   refine ⟨fun h => absurd hgood h, fun _ => ?_⟩
   obtain ⟨c, z, hc, H2⟩ := rnewGrpO H (by omega)
   rw [← hc]
   exact ⟨c, z, rfl, by rw [Int.toNat_natCast]; exact H2⟩
theorem rnew_ok {M : Nat → Prop} {u0 : World} {l : List Atom} (n : Nat) (w0 : World) (H : HSat M u0 l w0) (h : 1 ≤ n ∧ n ≤ 7) : Ret Try.prog 11 #[.int .i64 (n : Int)] w0 (fun u w => ∃ c z, u = .tuple #[.pointer (some ⟨c.b, 0, none⟩), .int .i64 0] ∧ HSat M u0 (RGrpA c n (Grp.z n) z :: RCel c :: RPts c n :: l) w) := (rnew_spec (n : Int) w0).mono fun u w hh => by
  obtain ⟨c, z, e, H1⟩ := hh.2 (by omega)
  rw [Int.toNat_natCast] at H1
  have H2 := H.call3 H1 rfl rfl rfl
  exact ⟨c, z, e, ((H2.perm (List.perm_append_comm (l₁ := [RGrpA c n (Grp.z n) z]) (l₂ := [Cel c.b 62 [c.av, c.qv], OSl 63 c.av 1 (encPt c.pb) (List.range n)]) |>.append_right l)).freeze.swap2.freeze.perm ((List.perm_append_comm (l₁ := [RPts c n, RCel c]) (l₂ := [RGrpA c n (Grp.z n) z]) |>.append_right l).trans (.cons _ (.swap _ _ _))))⟩
end Go.Proofs.Ytbjknckddoegfaa
