/- The walks. No condition. -/
import Derived.Test.YtbjknckddoegfaaChecked
import Derived.Test.YtbjknckddoegfaaGwFam
import Derived.Test.YtbjknckddoegfaaFacts
import Derived.Test.YtbjknckddoegfaaPlainM
import Derived.Test.YtbjknckddoegfaaW4
namespace Go.Proofs.Ytbjknckddoegfaa
open Go Go.Gw
set_option linter.unusedVariables false
set_option linter.unusedSimpArgs false
set_option maxHeartbeats 1000000 in
/-- (*foyer/replica.Group).receive -/
theorem receive_ask {M : Nat → Prop} {u0 : World} {l : List Atom} (c : GC) (n : Nat) (g : Grp) (z : GV) (i j : Nat) (t la k : Int) (v : Value) (w0 : World) (h0 : HSat M u0 (GrpA c n g z :: GCel c :: GPts c n :: l) w0) (hi : i < n) (hj : j < n) (hq : ∀ b, (g.q j b).length ≤ 900000) (hlen : (g.at_ j).log.length ≤ 200000) :
    Ret Try.prog 26 #[.pointer (some ⟨c.b, 0, none⟩), .int .i64 (i : Int), .int .i64 (j : Int), msgV (.ask t la k) v] w0 (fun u w => u = .tuple #[] ∧ ∃ z', HSat M u0 (GrpA c n (g.receive i j (.ask t la k)) z' :: GCel c :: GPts c n :: l) w) := by
 refine ret_of_wp (nt := 199) Try.func26 rfl rfl rfl (fl := [(0, .pointer (some ⟨c.b, 0, none⟩)), (1, .int .i64 (i : Int)), (2, .int .i64 (j : Int)), (3, msgV (.ask t la k) v)]) rfl (fun a S => ?_)
 obtain ⟨H, hz⟩ := grpOut h0
 obtain ⟨H, hf⟩ := peerOut H hj
 have hn7 := hz.n7
 obtain ⟨p, hp⟩ : ∃ p, p = (g.at_ j).step (t) := ⟨_, rfl⟩
 have hpf : (z.p j).Fits p := by rw [hp]; exact hf.step _
 have hpl : p.log = (g.at_ j).log := by rw [hp]; exact Peer.step_log _ _
 have hpv : p.role = 1 → (z.p j).vb ≠ none := fun h => hz.vb j hj (step_role (by decide) (hp ▸ h))
 have hpa : p.role = 2 → (z.p j).ab ≠ none := fun h => hz.ab j hj (step_role (by decide) (hp ▸ h))
 have hin : j < g.n := by rw [hz.en]; exact hj
 have hlenp : p.log.length ≤ 200000 := by rw [hpl]; exact hlen
 have iS : ∀ l, HasSl (BagA 2 Ent.enc z.bag :: l) (z.p j).lv 2 Ent Ent.enc p.log := by rw [hpl]; exact bagSl (hz.lg j hj)
 refine gsr ?_
 refine gm S fun a S => ?_
 refine gy rfl rfl rfl S (y_nilCheck rfl S rfl) fun a S => ?_
 refine gy rfl rfl rfl S (y_faddrb rfl Ffo52_0 S rfl) fun a S => ?_
 refine gy rfl rfl rfl S (y_load rfl Fsca50 S H rfl rfl) fun a S => ?_
 refine gm S fun a S => ?_
 refine gy rfl rfl rfl S (y_iaddrn rfl Try.underlying50 Fsiz53 S H rfl rfl (by first | assumption | omega | (simp only [List.length_range]; omega) | (simp only [List.length_replicate]; omega) | (simp only [List.length_cons]; omega))) fun a S => ?_
 refine gy rfl rfl rfl S ((y_loadsD c.pv 0 rfl Fsca53 S H rfl (by simp only [List.length_range]; omega) (ldPt hj))) fun a S => ?_
 refine ga S fun a S => ?_
 refine gnt ?_
 have S := ((((S.nil.cons S 3 rfl).cons S 2 rfl).cons S 1 rfl).cons S 0 rfl).cons S 8 rfl
 refine g_seq ?_
 refine g_seq ?_
 refine region_st (loud := []) (tails := []) (free := []) [0, 1, 2, 3, 4, 5, 6] [] Fmo (by kernel_rfl) (by kernel_rfl) rfl H ?_
 refine m_w rfl rfl (wn rfl) rfl rfl S (fun w H => y_move rfl S rfl) fun a S => ?_
 refine m_c rfl rfl (wn rfl) rfl rfl S (fun w => co_invoke (hm_ask _) rfl Try.call60 S rfl rfl) (fun w H => about_ask t la k w) fun a S => ?_
 refine m_w rfl rfl (wn rfl) rfl rfl S (fun w H => y_move rfl S rfl) fun a S => ?_
 refine m_w rfl rfl (wn rfl) rfl rfl S (fun w H => y_nilCheck rfl S rfl) fun a S => ?_
 refine m_w rfl rfl (wn rfl) rfl rfl S (fun w H => y_faddrb rfl Ffo58_0 S rfl) fun a S => ?_
 refine m_w rfl rfl (wn rfl) rfl rfl S (fun w H => y_load rfl Fsca3 S H rfl rfl) fun a S => ?_
 refine m_w rfl rfl (wn rfl) rfl rfl S (fun w H => y_bin rfl S rfl rfl rfl) fun a S => ?_
 refine m_nil (fun w H => ?_)
 refine n_then ?_
 have S := (((((S.nil.cons S 3 rfl).cons S 2 rfl).cons S 1 rfl).cons S 0 rfl).cons S 8 rfl).cons S 30 rfl
 refine cut (fun a w => St 199 [(0, .pointer (some ⟨c.b, 0, none⟩)), (1, .int .i64 (i : Int)), (2, .int .i64 (j : Int)), (3, msgV (.ask t la k) v), (8, .pointer (some ⟨c.pb j, 0, none⟩))] a ∧ HSat M u0 ([PCel (c.pb j) (z.p j) p, OMap (z.p j).vb eB (z.p j).vm (z.p j).vc, OMap (z.p j).ab kI (z.p j).am (z.p j).ac, PRest c n g z j, MapA c.qb kQ eV z.qm z.qc, QuesA n z.qm z.qv, BagA 2 Ent.enc z.bag] ++ (GCel c :: GPts c n :: l)) w) ?_ ?_
 ·skip
  refine c_if S rfl (fun h1 => ?_) (fun h1 => ?_)
  ·have h1p := h1; try simp only [DL] at h1p
   refine g_region ?_
   refine gm S fun a S => ?_
   refine gm S fun a S => ?_
   refine gm S fun a S => ?_
   refine gm S fun a S => ?_
   refine wl_of (op_call (wn rfl) rfl rfl S (co_invoke (hm_ask _) rfl Try.call60 S rfl rfl) (about_ask t la k w) fun v w hc a S => ?_)
   obtain ⟨rfl, he⟩ := hc
   have H := H.ext he
   refine gy rfl rfl rfl S (y_nilCheck rfl S rfl) fun a S => ?_
   refine gy rfl rfl rfl S (y_faddrb rfl Ffo58_0 S rfl) fun a S => ?_
   refine wl_of (op_store (wn rfl) rfl rfl S H rfl rfl rfl Fsiz3 rfl fun a w S H => ?_)
   dsimp only [List.set, Nat.zero_add, Nat.reduceAdd] at H
   refine gy rfl rfl rfl S (y_nilCheck rfl S rfl) fun a S => ?_
   refine gy rfl rfl rfl S (y_faddrb rfl Ffo58_1 S rfl) fun a S => ?_
   refine wl_of (op_store (wn rfl) rfl rfl S H rfl rfl rfl Fsiz3 rfl fun a w S H => ?_)
   dsimp only [List.set, Nat.zero_add, Nat.reduceAdd] at H
   refine gy rfl rfl rfl S (y_nilCheck rfl S rfl) fun a S => ?_
   refine gy rfl rfl rfl S (y_faddrb rfl Ffo58_4 S rfl) fun a S => ?_
   refine wl_of (op_store (wn rfl) rfl rfl S H rfl rfl rfl Fsiz9 rfl fun a w S H => ?_)
   dsimp only [List.set, Nat.zero_add, Nat.reduceAdd] at H
   refine gnt ?_
   first
   | (have e : p = { g.at_ j with term := t, vote := -1, role := 0 } := hp.trans (step_yes h1p)
      exact ⟨(((((S.nil.cons S 8 rfl).cons S 3 rfl).cons S 2 rfl).cons S 1 rfl).cons S 0 rfl), by rw [e]; exact H.takeT [Cel (c.pb j) 58 [.int .i64 (t), .int .i64 (-1), (z.p j).lv, .bool (g.at_ j).down, .string ⟨#[102, 111, 108, 108, 111, 119, 101, 114]⟩, .int .i64 ((g.at_ j).done : Int), .map (z.p j).vb, .map (z.p j).ab], OMap (z.p j).vb eB (z.p j).vm (z.p j).vc, OMap (z.p j).ab kI (z.p j).am (z.p j).ac, PRest c n g z j, MapA c.qb kQ eV z.qm z.qc, QuesA n z.qm z.qv, BagA 2 Ent.enc z.bag] (GCel c :: GPts c n :: l)⟩)
   | (have e : p = g.at_ j := hp.trans (step_no (Int.not_lt.2 h1p))
      exact ⟨(((((S.nil.cons S 8 rfl).cons S 3 rfl).cons S 2 rfl).cons S 1 rfl).cons S 0 rfl), by rw [e]; exact H.takeT [PCel (c.pb j) (z.p j) (g.at_ j), OMap (z.p j).vb eB (z.p j).vm (z.p j).vc, OMap (z.p j).ab kI (z.p j).am (z.p j).ac, PRest c n g z j, MapA c.qb kQ eV z.qm z.qc, QuesA n z.qm z.qv, BagA 2 Ent.enc z.bag] (GCel c :: GPts c n :: l)⟩)
  ·have h1p := h1; try simp only [DL] at h1p
   refine g_skip ?_
   refine n_then ?_
   first
   | (have e : p = { g.at_ j with term := t, vote := -1, role := 0 } := hp.trans (step_yes h1p)
      exact ⟨(((((S.nil.cons S 8 rfl).cons S 3 rfl).cons S 2 rfl).cons S 1 rfl).cons S 0 rfl), by rw [e]; exact H.takeT [Cel (c.pb j) 58 [.int .i64 (t), .int .i64 (-1), (z.p j).lv, .bool (g.at_ j).down, .string ⟨#[102, 111, 108, 108, 111, 119, 101, 114]⟩, .int .i64 ((g.at_ j).done : Int), .map (z.p j).vb, .map (z.p j).ab], OMap (z.p j).vb eB (z.p j).vm (z.p j).vc, OMap (z.p j).ab kI (z.p j).am (z.p j).ac, PRest c n g z j, MapA c.qb kQ eV z.qm z.qc, QuesA n z.qm z.qv, BagA 2 Ent.enc z.bag] (GCel c :: GPts c n :: l)⟩)
   | (have e : p = g.at_ j := hp.trans (step_no (Int.not_lt.2 h1p))
      exact ⟨(((((S.nil.cons S 8 rfl).cons S 3 rfl).cons S 2 rfl).cons S 1 rfl).cons S 0 rfl), by rw [e]; exact H.takeT [PCel (c.pb j) (z.p j) (g.at_ j), OMap (z.p j).vb eB (z.p j).vm (z.p j).vc, OMap (z.p j).ab kI (z.p j).am (z.p j).ac, PRest c n g z j, MapA c.qb kQ eV z.qm z.qc, QuesA n z.qm z.qv, BagA 2 Ent.enc z.bag] (GCel c :: GPts c n :: l)⟩)
 rintro a w ⟨S, H⟩
 simp only [List.cons_append, List.nil_append] at H
 refine g_seq ?_
 refine region_st (loud := []) (tails := []) (free := []) [0, 1, 2, 3, 4, 5, 6, 7] [] Fmo (by kernel_rfl) (by kernel_rfl) rfl H ?_
 refine m_w rfl rfl (wn rfl) rfl rfl S (fun w H => y_move rfl S rfl) fun a S => ?_
 refine m_c rfl rfl (wn rfl) rfl rfl S (fun w => co_invoke (hm_ask _) rfl Try.call60 S rfl rfl) (fun w H => about_ask t la k w) fun a S => ?_
 refine m_w rfl rfl (wn rfl) rfl rfl S (fun w H => y_move rfl S rfl) fun a S => ?_
 refine m_w rfl rfl (wn rfl) rfl rfl S (fun w H => y_nilCheck rfl S rfl) fun a S => ?_
 refine m_w rfl rfl (wn rfl) rfl rfl S (fun w H => y_faddrb rfl Ffo58_0 S rfl) fun a S => ?_
 refine m_w rfl rfl (wn rfl) rfl rfl S (fun w H => y_load rfl Fsca3 S H rfl rfl) fun a S => ?_
 refine m_w rfl rfl (wn rfl) rfl rfl S (fun w H => y_bin rfl S rfl rfl rfl) fun a S => ?_
 refine m_w rfl rfl (wn rfl) rfl rfl S (fun w H => y_assign rfl S rfl) fun a S => ?_
 refine m_nil (fun w H => ?_)
 refine n_then ?_
 have S := (((((S.nil.cons S 8 rfl).cons S 3 rfl).cons S 2 rfl).cons S 1 rfl).cons S 0 rfl).cons S 9 rfl
 refine gsr ?_
 refine gm S fun a S => ?_
 refine gnt ?_
 refine g_block ?_
 refine gsr ?_
 refine gy rfl rfl rfl S (y_assertY rfl Fnif81 S rfl) fun a S => ?_
 refine gy rfl rfl rfl S (y_extract rfl S rfl rfl) fun a S => ?_
 refine gy rfl rfl rfl S (y_extract rfl S rfl rfl) fun a S => ?_
 refine gnt ?_
 refine c_if S rfl (fun h2 => ?_) (fun h2 => ?_)
 ·have h2p := h2; try simp only [DL] at h2p
  refine gsr ?_
  refine wl_of (op_alloc (wn rfl) rfl rfl rfl S H Fzer81 fun b10 a w S H => ?_)
  refine wl_of (op_storea (wn rfl) rfl rfl S H rfl rfl rfl Fsiz81 rfl (cs' := [_, _, _]) rfl fun a w S H => ?_)
  refine gnt ?_
  have S := (((((S.nil.cons S 8 rfl).cons S 2 rfl).cons S 1 rfl).cons S 0 rfl).cons S 9 rfl).cons S 10 rfl
  refine g_seq ?_
  refine region_st (loud := []) (tails := []) (free := []) [0, 1, 2, 3, 4, 5, 6, 7, 8, 9, 10, 11, 12, 13, 14, 15, 16, 17, 18, 19, 20, 21, 22] [] Fmo (by kernel_rfl) (by kernel_rfl) rfl H ?_
  refine m_w rfl rfl (wn rfl) rfl rfl S (fun w H => y_faddrb rfl Ffo81_1 S rfl) fun a S => ?_
  refine m_w rfl rfl (wn rfl) rfl rfl S (fun w H => y_load rfl Fsca3 S H rfl rfl) fun a S => ?_
  refine m_w rfl rfl (wn rfl) rfl rfl S (fun w H => y_move rfl S rfl) fun a S => ?_
  refine m_c rfl rfl (wn rfl) rfl rfl S (fun w => co_func rfl Try.call30 S rfl) (fun w H => last_spec (c.pb j) (z.p j) p w (H.rd (c.pb j)) (H.sl (z.p j).lv)) fun a S => ?_
  refine m_w rfl rfl (wn rfl) rfl rfl S (fun w H => y_bin rfl S rfl rfl rfl) fun a S => ?_
  refine m_w rfl rfl (wn rfl) rfl rfl S (fun w H => y_move rfl S rfl) fun a S => ?_
  refine' m_orq [6, 7, 8, 9, 10, 11, 12, 13, 14, 15, 16, 17, 18, 19, 20] 58 S rfl rfl rfl rfl rfl rfl rfl rfl rfl (fun _ S => (wn rfl)) (fun h3 kk => ?yh3) (fun a S => ?_)
  case yh3 =>
   have h3p := h3; try simp only [DL] at h3p
   refine m_w rfl rfl (wg' 58 rfl rfl S rfl h3 rfl) rfl rfl S (fun w H => y_faddrb rfl Ffo81_1 S rfl) fun a S => ?_
   refine m_w rfl rfl (wg' 58 rfl rfl S rfl h3 rfl) rfl rfl S (fun w H => y_load rfl Fsca3 S H rfl rfl) fun a S => ?_
   refine m_w rfl rfl (wg' 58 rfl rfl S rfl h3 rfl) rfl rfl S (fun w H => y_move rfl S rfl) fun a S => ?_
   refine m_c rfl rfl (wg' 58 rfl rfl S rfl h3 rfl) rfl rfl S (fun w => co_func rfl Try.call30 S rfl) (fun w H => last_spec (c.pb j) (z.p j) p w (H.rd (c.pb j)) (H.sl (z.p j).lv)) fun a S => ?_
   refine m_w rfl rfl (wg' 58 rfl rfl S rfl h3 rfl) rfl rfl S (fun w H => y_bin rfl S rfl rfl rfl) fun a S => ?_
   refine m_w rfl rfl (wg' 58 rfl rfl S rfl h3 rfl) rfl rfl S (fun w H => y_move rfl S rfl) fun a S => ?_
   refine' m_andq [12, 13, 14, 15, 16, 17, 18, 19] 64 S rfl rfl rfl rfl rfl rfl rfl rfl rfl (fun _ S => (wg' 58 rfl rfl S rfl h3 rfl)) (fun h4 kk => ?yh4) (fun a S => ?_)
   case yh4 =>
    have h4p := h4; try simp only [DL] at h4p
    refine m_w rfl rfl (wg' 64 rfl rfl S rfl h4 rfl) rfl rfl S (fun w H => y_faddrb rfl Ffo81_2 S rfl) fun a S => ?_
    refine m_w rfl rfl (wg' 64 rfl rfl S rfl h4 rfl) rfl rfl S (fun w H => y_load rfl Fsca3 S H rfl rfl) fun a S => ?_
    refine m_w rfl rfl (wg' 64 rfl rfl S rfl h4 rfl) rfl rfl S (fun w H => y_move rfl S rfl) fun a S => ?_
    refine m_w rfl rfl (wg' 64 rfl rfl S rfl h4 rfl) rfl rfl S (fun w H => y_nilCheck rfl S rfl) fun a S => ?_
    refine m_w rfl rfl (wg' 64 rfl rfl S rfl h4 rfl) rfl rfl S (fun w H => y_faddrb rfl Ffo58_2 S rfl) fun a S => ?_
    refine m_w rfl rfl (wg' 64 rfl rfl S rfl h4 rfl) rfl rfl S (fun w H => y_load rfl Fsca54 S H rfl rfl) fun a S => ?_
    refine m_w rfl rfl (wg' 64 rfl rfl S rfl h4 rfl) rfl rfl S (fun w H => y_lens rfl Try.underlying54 S H rfl) fun a S => ?_
    refine m_w rfl rfl (wg' 64 rfl rfl S rfl h4 rfl) rfl rfl S (fun w H => y_bin rfl S rfl rfl rfl) fun a S => ?_
    refine m_w rfl rfl (wg' 58 rfl rfl S rfl h3 rfl) rfl rfl S (fun w H => y_and' rfl h4 S rfl rfl) fun a S => ?_
    exact kk _ (S.join 9 73 rfl rfl)
   refine m_w rfl rfl (wn rfl) rfl rfl S (fun w H => y_or' rfl h3 S rfl rfl) fun a S => ?_
   exact kk _ (S.join 8 74 rfl rfl)
  refine m_w rfl rfl (wn rfl) rfl rfl S (fun w H => y_assign rfl S rfl) fun a S => ?_
  refine m_nil (fun w H => ?_)
  refine n_then ?_
  have S := (((((S.nil.cons S 8 rfl).cons S 2 rfl).cons S 1 rfl).cons S 0 rfl).cons S 9 rfl).cons S 11 rfl
  refine gsr ?_
  refine gm S fun a S => ?_
  refine gm S fun a S => ?_
  refine' wl_and 13 76 rfl S H rfl rfl rfl rfl rfl rfl rfl (fun _ S => (wn rfl)) (fun h5 kk => ?yh5) (fun a w S H => ?_)
  case yh5 =>
   have h5p := h5; try simp only [DL] at h5p
   refine gz 76 h5 S rfl rfl rfl rfl rfl rfl (y_move rfl S rfl) fun a S => ?_
   refine gz 76 h5 S rfl rfl rfl rfl rfl rfl (y_nilCheck rfl S rfl) fun a S => ?_
   refine gz 76 h5 S rfl rfl rfl rfl rfl rfl (y_faddrb rfl Ffo58_1 S rfl) fun a S => ?_
   refine gz 76 h5 S rfl rfl rfl rfl rfl rfl (y_load rfl Fsca3 S H rfl rfl) fun a S => ?_
   refine gz 76 h5 S rfl rfl rfl rfl rfl rfl (y_bin rfl S rfl rfl rfl) fun a S => ?_
   refine gz 76 h5 S rfl rfl rfl rfl rfl rfl (y_move rfl S rfl) fun a S => ?_
   refine' wl_or 6 82 rfl S H rfl rfl rfl rfl rfl rfl rfl (fun _ S => (wg' 76 rfl rfl S rfl h5 rfl)) (fun h6 kk => ?yh6) (fun a w S H => ?_)
   case yh6 =>
    have h6p := h6; try simp only [DL] at h6p
    refine gz 82 h6 S rfl rfl rfl rfl rfl rfl (y_move rfl S rfl) fun a S => ?_
    refine gz 82 h6 S rfl rfl rfl rfl rfl rfl (y_nilCheck rfl S rfl) fun a S => ?_
    refine gz 82 h6 S rfl rfl rfl rfl rfl rfl (y_faddrb rfl Ffo58_1 S rfl) fun a S => ?_
    refine gz 82 h6 S rfl rfl rfl rfl rfl rfl (y_load rfl Fsca3 S H rfl rfl) fun a S => ?_
    refine gz 82 h6 S rfl rfl rfl rfl rfl rfl (y_move rfl S rfl) fun a S => ?_
    refine gz 82 h6 S rfl rfl rfl rfl rfl rfl (y_bin rfl S rfl rfl rfl) fun a S => ?_
    refine gz 76 h5 S rfl rfl rfl rfl rfl rfl (y_or' rfl h6 S rfl rfl) fun a S => ?_
    exact kk _ _ (S.join 7 89 rfl rfl) H
   refine gy rfl rfl rfl S (y_and' rfl h5 S rfl rfl) fun a S => ?_
   exact kk _ _ (S.join 8 90 rfl rfl) H
  refine gm S fun a S => ?_
  refine' wl_and 1 91 rfl S H rfl rfl rfl rfl rfl rfl rfl (fun _ S => (wn rfl)) (fun h7 kk => ?yh7) (fun a w S H => ?_)
  case yh7 =>
   have h7p := h7; try simp only [DL] at h7p
   refine gz 91 h7 S rfl rfl rfl rfl rfl rfl (y_move rfl S rfl) fun a S => ?_
   refine gy rfl rfl rfl S (y_and' rfl h7 S rfl rfl) fun a S => ?_
   exact kk _ _ (S.join 2 93 rfl rfl) H
  refine ga S fun a S => ?_
  rw [show (t == p.term && (p.vote == -1 || p.vote == (i : Int)) && (decide (la > lastT p.log) || la == lastT p.log && decide (k ≥ (p.log.length : Int)))) = p.grants i t la k by unfold Peer.grants; rw [Bool.eq_iff_iff]; simp] at S
  refine gnt ?_
  have S := ((((S.nil.cons S 8 rfl).cons S 2 rfl).cons S 1 rfl).cons S 0 rfl).cons S 12 rfl
  refine g_seq ?_
  refine gsr ?_
  refine gm S fun a S => ?_
  refine gnt ?_
  refine cut (fun a w => ∃ p', p' = (if p.grants i t la k = true then { p with vote := (i : Int) } else p) ∧ St 199 [(0, .pointer (some ⟨c.b, 0, none⟩)), (1, .int .i64 (i : Int)), (2, .int .i64 (j : Int)), (8, .pointer (some ⟨c.pb j, 0, none⟩)), (12, .bool (p.grants i t la k))] a ∧ HSat M u0 ([PCel (c.pb j) (z.p j) p', OMap (z.p j).vb eB (z.p j).vm (z.p j).vc, OMap (z.p j).ab kI (z.p j).am (z.p j).ac, PRest c n g z j, MapA c.qb kQ eV z.qm z.qc, QuesA n z.qm z.qv, BagA 2 Ent.enc z.bag] ++ (GCel c :: GPts c n :: l)) w) ?_ ?_
  ·skip
   refine c_if S rfl (fun h8 => ?_) (fun h8 => ?_)
   ·have h8p := h8; try simp only [DL] at h8p
    refine g_region ?_
    refine gm S fun a S => ?_
    refine gm S fun a S => ?_
    refine gy rfl rfl rfl S (y_nilCheck rfl S rfl) fun a S => ?_
    refine gy rfl rfl rfl S (y_faddrb rfl Ffo58_1 S rfl) fun a S => ?_
    refine wl_of (op_store (wn rfl) rfl rfl S H rfl rfl rfl Fsiz3 rfl fun a w S H => ?_)
    dsimp only [List.set, Nat.zero_add, Nat.reduceAdd] at H
    refine gnt ?_
    first
    | exact ⟨_, rfl, (((((S.nil.cons S 12 rfl).cons S 8 rfl).cons S 2 rfl).cons S 1 rfl).cons S 0 rfl), by rw [if_pos h8p]; exact H.takeT [Cel (c.pb j) 58 [.int .i64 p.term, .int .i64 (i : Int), (z.p j).lv, .bool p.down, .string (roleS p.role), .int .i64 (p.done : Int), .map (z.p j).vb, .map (z.p j).ab], OMap (z.p j).vb eB (z.p j).vm (z.p j).vc, OMap (z.p j).ab kI (z.p j).am (z.p j).ac, PRest c n g z j, MapA c.qb kQ eV z.qm z.qc, QuesA n z.qm z.qv, BagA 2 Ent.enc z.bag] (GCel c :: GPts c n :: l)⟩
    | exact ⟨_, rfl, (((((S.nil.cons S 12 rfl).cons S 8 rfl).cons S 2 rfl).cons S 1 rfl).cons S 0 rfl), by rw [if_neg (by simpa using h8p)]; exact H.takeT [PCel (c.pb j) (z.p j) p, OMap (z.p j).vb eB (z.p j).vm (z.p j).vc, OMap (z.p j).ab kI (z.p j).am (z.p j).ac, PRest c n g z j, MapA c.qb kQ eV z.qm z.qc, QuesA n z.qm z.qv, BagA 2 Ent.enc z.bag] (GCel c :: GPts c n :: l)⟩
   ·have h8p := h8; try simp only [DL] at h8p
    refine g_skip ?_
    refine n_then ?_
    first
    | exact ⟨_, rfl, (((((S.nil.cons S 12 rfl).cons S 8 rfl).cons S 2 rfl).cons S 1 rfl).cons S 0 rfl), by rw [if_pos h8p]; exact H.takeT [Cel (c.pb j) 58 [.int .i64 p.term, .int .i64 (i : Int), (z.p j).lv, .bool p.down, .string (roleS p.role), .int .i64 (p.done : Int), .map (z.p j).vb, .map (z.p j).ab], OMap (z.p j).vb eB (z.p j).vm (z.p j).vc, OMap (z.p j).ab kI (z.p j).am (z.p j).ac, PRest c n g z j, MapA c.qb kQ eV z.qm z.qc, QuesA n z.qm z.qv, BagA 2 Ent.enc z.bag] (GCel c :: GPts c n :: l)⟩
    | exact ⟨_, rfl, (((((S.nil.cons S 12 rfl).cons S 8 rfl).cons S 2 rfl).cons S 1 rfl).cons S 0 rfl), by rw [if_neg (by simpa using h8p)]; exact H.takeT [PCel (c.pb j) (z.p j) p, OMap (z.p j).vb eB (z.p j).vm (z.p j).vc, OMap (z.p j).ab kI (z.p j).am (z.p j).ac, PRest c n g z j, MapA c.qb kQ eV z.qm z.qc, QuesA n z.qm z.qv, BagA 2 Ent.enc z.bag] (GCel c :: GPts c n :: l)⟩
  rintro a w ⟨p', hp', S, H⟩
  simp only [List.cons_append, List.nil_append] at H
  have hp1 : p'.term = p.term ∧ p'.log = p.log ∧ p'.role = p.role ∧ (z.p j).Fits p' := by rw [hp']; split; exact ⟨rfl, rfl, rfl, hpf.v, hpf.a⟩; exact ⟨rfl, rfl, rfl, hpf⟩
  refine g_region ?_
  refine gm S fun a S => ?_
  refine gm S fun a S => ?_
  refine gm S fun a S => ?_
  refine gm S fun a S => ?_
  refine gy rfl rfl rfl S (y_nilCheck rfl S rfl) fun a S => ?_
  refine gy rfl rfl rfl S (y_faddrb rfl Ffo58_0 S rfl) fun a S => ?_
  refine gy rfl rfl rfl S (y_load rfl Fsca3 S H rfl rfl) fun a S => ?_
  refine gm S fun a S => ?_
  refine gy rfl rfl rfl S (y_buildf rfl Fbld91 S rfl (idx := [0, 1]) rfl (cs := [_, _]) rfl) fun a S => ?_
  refine gy rfl rfl rfl S (y_mkiface rfl Fnif91 S rfl) fun a S => ?_
  refine wl_of (op_call (wn rfl) rfl rfl S (co_func rfl Try.call40 S rfl) (send_spec c n (g.put j p') { z with p := fun v => if v = j then (z.p j) else z.p v, bag := z.bag } j i (.vote p'.term (p.grants i t la k), v) _ (putIn (z.p j) p' (H.takeT [PCel (c.pb j) (z.p j) p', OMap (z.p j).vb eB (z.p j).vm (z.p j).vc, OMap (z.p j).ab kI (z.p j).am (z.p j).ac, PRest c n g z j, MapA c.qb kQ eV z.qm z.qc, QuesA n z.qm z.qv, BagA 2 Ent.enc z.bag] (GCel c :: GPts c n :: l)) hz hj hp1.2.2.2 (fun _ h => h) hz.cp (by rw [hp1.2.1, hpl]; exact hz.lg j hj) (fun h => hpv (hp1.2.2.1 ▸ h)) (fun h => hpa (hp1.2.2.1 ▸ h))) hj hi (fun _ _ _ e => by cases e) rfl (by have := hq i; show (g.q j i).length ≤ _; omega)) fun v w hc a S => ?_)
  obtain ⟨rfl, z', _, H⟩ := hc
  
  refine gl_nil ?_
  refine n_block ?_
  refine ret0n rfl S ?_
  exact ⟨rfl, z', by unfold Grp.receive; dsimp only [Msg.term]; rw [← hp, ← hp', ← hp1.1]; exact H⟩
 ·have h2p := h2; try simp only [DL] at h2p
  all_goals (
    exact absurd h2 (by simp))
set_option maxHeartbeats 1000000 in
/-- (*foyer/replica.Group).receive -/
theorem receive_vote {M : Nat → Prop} {u0 : World} {l : List Atom} (c : GC) (n : Nat) (g : Grp) (z : GV) (i j : Nat) (t : Int) (gr : Bool) (v : Value) (w0 : World) (h0 : HSat M u0 (GrpA c n g z :: GCel c :: GPts c n :: l) w0) (hi : i < n) (hj : j < n) (hq : ∀ b, (g.q j b).length ≤ 900000) (hlen : (g.at_ j).log.length ≤ 200000) :
    Ret Try.prog 26 #[.pointer (some ⟨c.b, 0, none⟩), .int .i64 (i : Int), .int .i64 (j : Int), msgV (.vote t gr) v] w0 (fun u w => u = .tuple #[] ∧ ∃ z', HSat M u0 (GrpA c n (g.receive i j (.vote t gr)) z' :: GCel c :: GPts c n :: l) w) := by
 refine ret_of_wp (nt := 199) Try.func26 rfl rfl rfl (fl := [(0, .pointer (some ⟨c.b, 0, none⟩)), (1, .int .i64 (i : Int)), (2, .int .i64 (j : Int)), (3, msgV (.vote t gr) v)]) rfl (fun a S => ?_)
 obtain ⟨H, hz⟩ := grpOut h0
 obtain ⟨H, hf⟩ := peerOut H hj
 have hn7 := hz.n7
 obtain ⟨p, hp⟩ : ∃ p, p = (g.at_ j).step (t) := ⟨_, rfl⟩
 have hpf : (z.p j).Fits p := by rw [hp]; exact hf.step _
 have hpl : p.log = (g.at_ j).log := by rw [hp]; exact Peer.step_log _ _
 have hpv : p.role = 1 → (z.p j).vb ≠ none := fun h => hz.vb j hj (step_role (by decide) (hp ▸ h))
 have hpa : p.role = 2 → (z.p j).ab ≠ none := fun h => hz.ab j hj (step_role (by decide) (hp ▸ h))
 have hin : j < g.n := by rw [hz.en]; exact hj
 have hlenp : p.log.length ≤ 200000 := by rw [hpl]; exact hlen
 have iS : ∀ l, HasSl (BagA 2 Ent.enc z.bag :: l) (z.p j).lv 2 Ent Ent.enc p.log := by rw [hpl]; exact bagSl (hz.lg j hj)
 refine gsr ?_
 refine gm S fun a S => ?_
 refine gy rfl rfl rfl S (y_nilCheck rfl S rfl) fun a S => ?_
 refine gy rfl rfl rfl S (y_faddrb rfl Ffo52_0 S rfl) fun a S => ?_
 refine gy rfl rfl rfl S (y_load rfl Fsca50 S H rfl rfl) fun a S => ?_
 refine gm S fun a S => ?_
 refine gy rfl rfl rfl S (y_iaddrn rfl Try.underlying50 Fsiz53 S H rfl rfl (by first | assumption | omega | (simp only [List.length_range]; omega) | (simp only [List.length_replicate]; omega) | (simp only [List.length_cons]; omega))) fun a S => ?_
 refine gy rfl rfl rfl S ((y_loadsD c.pv 0 rfl Fsca53 S H rfl (by simp only [List.length_range]; omega) (ldPt hj))) fun a S => ?_
 refine ga S fun a S => ?_
 refine gnt ?_
 have S := ((((S.nil.cons S 3 rfl).cons S 2 rfl).cons S 1 rfl).cons S 0 rfl).cons S 8 rfl
 refine g_seq ?_
 refine g_seq ?_
 refine region_st (loud := []) (tails := []) (free := []) [0, 1, 2, 3, 4, 5, 6] [] Fmo (by kernel_rfl) (by kernel_rfl) rfl H ?_
 refine m_w rfl rfl (wn rfl) rfl rfl S (fun w H => y_move rfl S rfl) fun a S => ?_
 refine m_c rfl rfl (wn rfl) rfl rfl S (fun w => co_invoke (hm_vote _) rfl Try.call61 S rfl rfl) (fun w H => about_vote t gr w) fun a S => ?_
 refine m_w rfl rfl (wn rfl) rfl rfl S (fun w H => y_move rfl S rfl) fun a S => ?_
 refine m_w rfl rfl (wn rfl) rfl rfl S (fun w H => y_nilCheck rfl S rfl) fun a S => ?_
 refine m_w rfl rfl (wn rfl) rfl rfl S (fun w H => y_faddrb rfl Ffo58_0 S rfl) fun a S => ?_
 refine m_w rfl rfl (wn rfl) rfl rfl S (fun w H => y_load rfl Fsca3 S H rfl rfl) fun a S => ?_
 refine m_w rfl rfl (wn rfl) rfl rfl S (fun w H => y_bin rfl S rfl rfl rfl) fun a S => ?_
 refine m_nil (fun w H => ?_)
 refine n_then ?_
 have S := (((((S.nil.cons S 3 rfl).cons S 2 rfl).cons S 1 rfl).cons S 0 rfl).cons S 8 rfl).cons S 30 rfl
 refine cut (fun a w => St 199 [(0, .pointer (some ⟨c.b, 0, none⟩)), (1, .int .i64 (i : Int)), (2, .int .i64 (j : Int)), (3, msgV (.vote t gr) v), (8, .pointer (some ⟨c.pb j, 0, none⟩))] a ∧ HSat M u0 ([PCel (c.pb j) (z.p j) p, OMap (z.p j).vb eB (z.p j).vm (z.p j).vc, OMap (z.p j).ab kI (z.p j).am (z.p j).ac, PRest c n g z j, MapA c.qb kQ eV z.qm z.qc, QuesA n z.qm z.qv, BagA 2 Ent.enc z.bag] ++ (GCel c :: GPts c n :: l)) w) ?_ ?_
 ·skip
  refine c_if S rfl (fun h1 => ?_) (fun h1 => ?_)
  ·have h1p := h1; try simp only [DL] at h1p
   refine g_region ?_
   refine gm S fun a S => ?_
   refine gm S fun a S => ?_
   refine gm S fun a S => ?_
   refine gm S fun a S => ?_
   refine wl_of (op_call (wn rfl) rfl rfl S (co_invoke (hm_vote _) rfl Try.call61 S rfl rfl) (about_vote t gr w) fun v w hc a S => ?_)
   obtain ⟨rfl, he⟩ := hc
   have H := H.ext he
   refine gy rfl rfl rfl S (y_nilCheck rfl S rfl) fun a S => ?_
   refine gy rfl rfl rfl S (y_faddrb rfl Ffo58_0 S rfl) fun a S => ?_
   refine wl_of (op_store (wn rfl) rfl rfl S H rfl rfl rfl Fsiz3 rfl fun a w S H => ?_)
   dsimp only [List.set, Nat.zero_add, Nat.reduceAdd] at H
   refine gy rfl rfl rfl S (y_nilCheck rfl S rfl) fun a S => ?_
   refine gy rfl rfl rfl S (y_faddrb rfl Ffo58_1 S rfl) fun a S => ?_
   refine wl_of (op_store (wn rfl) rfl rfl S H rfl rfl rfl Fsiz3 rfl fun a w S H => ?_)
   dsimp only [List.set, Nat.zero_add, Nat.reduceAdd] at H
   refine gy rfl rfl rfl S (y_nilCheck rfl S rfl) fun a S => ?_
   refine gy rfl rfl rfl S (y_faddrb rfl Ffo58_4 S rfl) fun a S => ?_
   refine wl_of (op_store (wn rfl) rfl rfl S H rfl rfl rfl Fsiz9 rfl fun a w S H => ?_)
   dsimp only [List.set, Nat.zero_add, Nat.reduceAdd] at H
   refine gnt ?_
   first
   | (have e : p = { g.at_ j with term := t, vote := -1, role := 0 } := hp.trans (step_yes h1p)
      exact ⟨(((((S.nil.cons S 8 rfl).cons S 3 rfl).cons S 2 rfl).cons S 1 rfl).cons S 0 rfl), by rw [e]; exact H.takeT [Cel (c.pb j) 58 [.int .i64 (t), .int .i64 (-1), (z.p j).lv, .bool (g.at_ j).down, .string ⟨#[102, 111, 108, 108, 111, 119, 101, 114]⟩, .int .i64 ((g.at_ j).done : Int), .map (z.p j).vb, .map (z.p j).ab], OMap (z.p j).vb eB (z.p j).vm (z.p j).vc, OMap (z.p j).ab kI (z.p j).am (z.p j).ac, PRest c n g z j, MapA c.qb kQ eV z.qm z.qc, QuesA n z.qm z.qv, BagA 2 Ent.enc z.bag] (GCel c :: GPts c n :: l)⟩)
   | (have e : p = g.at_ j := hp.trans (step_no (Int.not_lt.2 h1p))
      exact ⟨(((((S.nil.cons S 8 rfl).cons S 3 rfl).cons S 2 rfl).cons S 1 rfl).cons S 0 rfl), by rw [e]; exact H.takeT [PCel (c.pb j) (z.p j) (g.at_ j), OMap (z.p j).vb eB (z.p j).vm (z.p j).vc, OMap (z.p j).ab kI (z.p j).am (z.p j).ac, PRest c n g z j, MapA c.qb kQ eV z.qm z.qc, QuesA n z.qm z.qv, BagA 2 Ent.enc z.bag] (GCel c :: GPts c n :: l)⟩)
  ·have h1p := h1; try simp only [DL] at h1p
   refine g_skip ?_
   refine n_then ?_
   first
   | (have e : p = { g.at_ j with term := t, vote := -1, role := 0 } := hp.trans (step_yes h1p)
      exact ⟨(((((S.nil.cons S 8 rfl).cons S 3 rfl).cons S 2 rfl).cons S 1 rfl).cons S 0 rfl), by rw [e]; exact H.takeT [Cel (c.pb j) 58 [.int .i64 (t), .int .i64 (-1), (z.p j).lv, .bool (g.at_ j).down, .string ⟨#[102, 111, 108, 108, 111, 119, 101, 114]⟩, .int .i64 ((g.at_ j).done : Int), .map (z.p j).vb, .map (z.p j).ab], OMap (z.p j).vb eB (z.p j).vm (z.p j).vc, OMap (z.p j).ab kI (z.p j).am (z.p j).ac, PRest c n g z j, MapA c.qb kQ eV z.qm z.qc, QuesA n z.qm z.qv, BagA 2 Ent.enc z.bag] (GCel c :: GPts c n :: l)⟩)
   | (have e : p = g.at_ j := hp.trans (step_no (Int.not_lt.2 h1p))
      exact ⟨(((((S.nil.cons S 8 rfl).cons S 3 rfl).cons S 2 rfl).cons S 1 rfl).cons S 0 rfl), by rw [e]; exact H.takeT [PCel (c.pb j) (z.p j) (g.at_ j), OMap (z.p j).vb eB (z.p j).vm (z.p j).vc, OMap (z.p j).ab kI (z.p j).am (z.p j).ac, PRest c n g z j, MapA c.qb kQ eV z.qm z.qc, QuesA n z.qm z.qv, BagA 2 Ent.enc z.bag] (GCel c :: GPts c n :: l)⟩)
 rintro a w ⟨S, H⟩
 simp only [List.cons_append, List.nil_append] at H
 refine g_seq ?_
 refine region_st (loud := []) (tails := []) (free := []) [0, 1, 2, 3, 4, 5, 6, 7] [] Fmo (by kernel_rfl) (by kernel_rfl) rfl H ?_
 refine m_w rfl rfl (wn rfl) rfl rfl S (fun w H => y_move rfl S rfl) fun a S => ?_
 refine m_c rfl rfl (wn rfl) rfl rfl S (fun w => co_invoke (hm_vote _) rfl Try.call61 S rfl rfl) (fun w H => about_vote t gr w) fun a S => ?_
 refine m_w rfl rfl (wn rfl) rfl rfl S (fun w H => y_move rfl S rfl) fun a S => ?_
 refine m_w rfl rfl (wn rfl) rfl rfl S (fun w H => y_nilCheck rfl S rfl) fun a S => ?_
 refine m_w rfl rfl (wn rfl) rfl rfl S (fun w H => y_faddrb rfl Ffo58_0 S rfl) fun a S => ?_
 refine m_w rfl rfl (wn rfl) rfl rfl S (fun w H => y_load rfl Fsca3 S H rfl rfl) fun a S => ?_
 refine m_w rfl rfl (wn rfl) rfl rfl S (fun w H => y_bin rfl S rfl rfl rfl) fun a S => ?_
 refine m_w rfl rfl (wn rfl) rfl rfl S (fun w H => y_assign rfl S rfl) fun a S => ?_
 refine m_nil (fun w H => ?_)
 refine n_then ?_
 have S := (((((S.nil.cons S 8 rfl).cons S 3 rfl).cons S 2 rfl).cons S 1 rfl).cons S 0 rfl).cons S 9 rfl
 refine gsr ?_
 refine gm S fun a S => ?_
 refine gnt ?_
 refine g_block ?_
 refine gsr ?_
 refine gy rfl rfl rfl S (y_assertN (by decide) Fzv81 rfl Fnif81 S rfl) fun a S => ?_
 refine gy rfl rfl rfl S (y_extract rfl S rfl rfl) fun a S => ?_
 refine gy rfl rfl rfl S (y_extract rfl S rfl rfl) fun a S => ?_
 refine gnt ?_
 refine c_if S rfl (fun h2 => ?_) (fun h2 => ?_)
 ·have h2p := h2; try simp only [DL] at h2p
  all_goals (
    exact absurd h2 (by simp))
 ·have h2p := h2; try simp only [DL] at h2p
  refine gsr ?_
  refine gy rfl rfl rfl S (y_assertY rfl Fnif91 S rfl) fun a S => ?_
  refine gy rfl rfl rfl S (y_extract rfl S rfl rfl) fun a S => ?_
  refine gy rfl rfl rfl S (y_extract rfl S rfl rfl) fun a S => ?_
  refine gnt ?_
  have S := (((((((S.nil.cons S 8 rfl).cons S 2 rfl).cons S 1 rfl).cons S 0 rfl).cons S 9 rfl).cons S 49 rfl).cons S 111 rfl).cons S 112 rfl
  refine c_if S rfl (fun h3 => ?_) (fun h3 => ?_)
  ·have h3p := h3; try simp only [DL] at h3p
   refine gsr ?_
   refine wl_of (op_alloc (wn rfl) rfl rfl rfl S H Fzer91 fun b13 a w S H => ?_)
   refine wl_of (op_storea (wn rfl) rfl rfl S H rfl rfl rfl Fsiz91 rfl (cs' := [_, _]) rfl fun a w S H => ?_)
   refine gnt ?_
   refine gsr ?_
   refine gm S fun a S => ?_
   refine gy rfl rfl rfl S (y_nilCheck rfl S rfl) fun a S => ?_
   refine gy rfl rfl rfl S (y_faddrb rfl Ffo58_4 S rfl) fun a S => ?_
   refine gy rfl rfl rfl S (y_load rfl Fsca9 S H rfl rfl) fun a S => ?_
   refine gy rfl rfl rfl S (y_eqs rfl Try.underlying9 S rfl rfl) fun a S => ?_
   rw [roleS_cand] at S
   refine gm S fun a S => ?_
   refine' wl_and 1 118 rfl S H rfl rfl rfl rfl rfl rfl rfl (fun _ S => (wn rfl)) (fun h4 kk => ?yh4) (fun a w S H => ?_)
   case yh4 =>
    have h4p := h4; try simp only [DL] at h4p
    refine gz 118 h4 S rfl rfl rfl rfl rfl rfl (y_move rfl S rfl) fun a S => ?_
    refine gy rfl rfl rfl S (y_and' rfl h4 S rfl rfl) fun a S => ?_
    exact kk _ _ (S.join 2 120 rfl rfl) H
   refine gm S fun a S => ?_
   refine' wl_and 2 121 rfl S H rfl rfl rfl rfl rfl rfl rfl (fun _ S => (wn rfl)) (fun h5 kk => ?yh5) (fun a w S H => ?_)
   case yh5 =>
    have h5p := h5; try simp only [DL] at h5p
    refine gz 121 h5 S rfl rfl rfl rfl rfl rfl (y_faddrb rfl Ffo91_1 S rfl) fun a S => ?_
    refine gz 121 h5 S rfl rfl rfl rfl rfl rfl (y_load rfl Fsca4 S H rfl rfl) fun a S => ?_
    refine gy rfl rfl rfl S (y_and' rfl h5 S rfl rfl) fun a S => ?_
    exact kk _ _ (S.join 3 124 rfl rfl) H
   refine gnt ?_
   have S := ((((S.nil.cons S 8 rfl).cons S 2 rfl).cons S 1 rfl).cons S 0 rfl).cons S 124 rfl
   refine c_if S rfl (fun h6 => ?_) (fun h6 => ?_)
   ·have h6p := h6; try simp only [DL] at h6p
    have hc : p.role = 1 ∧ t = p.term ∧ gr = true := by simpa [and_assoc] using h6
    obtain ⟨vb, hvb⟩ := Option.ne_none_iff_exists'.1 (hpv hc.1)
    rw [hvb] at H
    have H := H.pick [OMap (some vb) eB (z.p j).vm (z.p j).vc]
    simp only [List.cons_append, List.nil_append, List.append_eq] at H
    have H : HSat _ _ (MapA vb kI eB (z.p j).vm (z.p j).vc :: _) _ := H
    refine gsr ?_
    refine gm S fun a S => ?_
    refine gy rfl rfl rfl S (y_nilCheck rfl S rfl) fun a S => ?_
    refine gy rfl rfl rfl S (y_faddrb rfl Ffo58_6 S rfl) fun a S => ?_
    refine gy rfl rfl rfl S ((y_load rfl Fsca55 S H rfl (congrArg (fun x => some (Value.map x)) hvb))) fun a S => ?_
    refine gm S fun a S => ?_
    refine wl_of (op_mapUpdate ((i : Int)) (true) (wn rfl) rfl rfl Try.underlying55 S H rfl (keyOK_int Try.underlying3) (by exact rfl) (by exact rfl) fun a w S H => ?_)
    refine gnt ?_
    have S := (S.nil.cons S 2 rfl).cons S 0 rfl
    refine g_region ?_
    refine gm S fun a S => ?_
    refine gm S fun a S => ?_
    refine wl_of (op_call (wn rfl) rfl rfl S (co_func rfl Try.call31 S rfl) (lead_spec c n (g.put j { p with votes := fun k => if k = i then true else p.votes k }) { z with p := fun v => if v = j then ({ z.p j with vm := upd (z.p j).vm (i : Int) true, vc := if ((z.p j).vm (i : Int)).isSome = true then (z.p j).vc else (z.p j).vc + 1 } : PV) else z.p v, bag := z.bag } j _ (putIn ({ z.p j with vm := upd (z.p j).vm (i : Int) true, vc := if ((z.p j).vm (i : Int)).isSome = true then (z.p j).vc else (z.p j).vc + 1 } : PV) { p with votes := fun k => if k = i then true else p.votes k } (by have H : HSat _ _ ([Cel (c.pb j) 58 [.int .i64 p.term, .int .i64 p.vote, (z.p j).lv, .bool p.down, .string (roleS p.role), .int .i64 (p.done : Int), .map (z.p j).vb, .map (z.p j).ab], MapA vb kI eB (upd (z.p j).vm (i : Int) true) (if ((z.p j).vm (i : Int)).isSome = true then (z.p j).vc else (z.p j).vc + 1), OMap (z.p j).ab kI (z.p j).am (z.p j).ac, PRest c n g z j, MapA c.qb kQ eV z.qm z.qc, QuesA n z.qm z.qv, BagA 2 Ent.enc z.bag] ++ (GCel c :: GPts c n :: l)) _ := H.takeT [PCel (c.pb j) (z.p j) p, MapA vb kI eB (upd (z.p j).vm (i : Int) true) (if ((z.p j).vm (i : Int)).isSome = true then (z.p j).vc else (z.p j).vc + 1), OMap (z.p j).ab kI (z.p j).am (z.p j).ac, PRest c n g z j, MapA c.qb kQ eV z.qm z.qc, QuesA n z.qm z.qv, BagA 2 Ent.enc z.bag] (GCel c :: GPts c n :: l); have H : HSat _ _ ([PCel (c.pb j) ({ z.p j with vm := upd (z.p j).vm (i : Int) true, vc := if ((z.p j).vm (i : Int)).isSome = true then (z.p j).vc else (z.p j).vc + 1 } : PV) { p with votes := fun k => if k = i then true else p.votes k }, OMap (some vb) eB (upd (z.p j).vm (i : Int) true) (if ((z.p j).vm (i : Int)).isSome = true then (z.p j).vc else (z.p j).vc + 1), OMap (z.p j).ab kI (z.p j).am (z.p j).ac, PRest c n g z j, MapA c.qb kQ eV z.qm z.qc, QuesA n z.qm z.qv, BagA 2 Ent.enc z.bag] ++ (GCel c :: GPts c n :: l)) _ := H; rw [← hvb] at H; exact H) hz hj ⟨fun k => by rw [updI]; show _ = if k = i then true else p.votes k; split; rfl; exact hpf.v k, hpf.a⟩ (fun _ h => h) hz.cp (by show ((z.p j).lv, p.log) ∈ z.bag; rw [hpl]; exact hz.lg j hj) hpv hpa) hj (by rw [Grp.put_same _ hin]; exact hc.1) hq (by rw [Grp.put_same _ hin]; exact hlenp)) fun v w hc a S => ?_)
    obtain ⟨rfl, z', H⟩ := hc
    
    refine gl_nil ?_
    refine n_block ?_
    refine ret0n rfl S ?_
    exact ⟨rfl, z', by unfold Grp.receive; dsimp only [Msg.term]; rw [← hp, if_pos hc]; exact H⟩
   ·have h6p := h6; try simp only [DL] at h6p
    have hc : ¬ (p.role = 1 ∧ t = p.term ∧ gr = true) := fun e => by rw [e.1, e.2.1, e.2.2] at h6; simp at h6
    refine g_skip ?_
    refine n_block ?_
    refine ret0n rfl S ?_
    exact ⟨rfl, _, by unfold Grp.receive; dsimp only [Msg.term]; rw [← hp, if_neg (hc)]; exact putIn (z.p j) p (H.takeT [PCel (c.pb j) (z.p j) p, OMap (z.p j).vb eB (z.p j).vm (z.p j).vc, OMap (z.p j).ab kI (z.p j).am (z.p j).ac, PRest c n g z j, MapA c.qb kQ eV z.qm z.qc, QuesA n z.qm z.qv, BagA 2 Ent.enc z.bag] (GCel c :: GPts c n :: l)) hz hj hpf (fun _ h => h) hz.cp (by rw [hpl]; exact hz.lg j hj) hpv hpa⟩
  ·have h3p := h3; try simp only [DL] at h3p
   all_goals (
     exact absurd h3 (by simp))
set_option maxHeartbeats 1000000 in
/-- (*foyer/replica.Group).receive -/
theorem receive_ack {M : Nat → Prop} {u0 : World} {l : List Atom} (c : GC) (n : Nat) (g : Grp) (z : GV) (i j : Nat) (t m : Int) (v : Value) (w0 : World) (h0 : HSat M u0 (GrpA c n g z :: GCel c :: GPts c n :: l) w0) (hi : i < n) (hj : j < n) (hq : ∀ b, (g.q j b).length ≤ 900000) (hlen : (g.at_ j).log.length ≤ 200000) :
    Ret Try.prog 26 #[.pointer (some ⟨c.b, 0, none⟩), .int .i64 (i : Int), .int .i64 (j : Int), msgV (.ack t m) v] w0 (fun u w => u = .tuple #[] ∧ ∃ z', HSat M u0 (GrpA c n (g.receive i j (.ack t m)) z' :: GCel c :: GPts c n :: l) w) := by
 refine ret_of_wp (nt := 199) Try.func26 rfl rfl rfl (fl := [(0, .pointer (some ⟨c.b, 0, none⟩)), (1, .int .i64 (i : Int)), (2, .int .i64 (j : Int)), (3, msgV (.ack t m) v)]) rfl (fun a S => ?_)
 obtain ⟨H, hz⟩ := grpOut h0
 obtain ⟨H, hf⟩ := peerOut H hj
 have hn7 := hz.n7
 obtain ⟨p, hp⟩ : ∃ p, p = (g.at_ j).step (t) := ⟨_, rfl⟩
 have hpf : (z.p j).Fits p := by rw [hp]; exact hf.step _
 have hpl : p.log = (g.at_ j).log := by rw [hp]; exact Peer.step_log _ _
 have hpv : p.role = 1 → (z.p j).vb ≠ none := fun h => hz.vb j hj (step_role (by decide) (hp ▸ h))
 have hpa : p.role = 2 → (z.p j).ab ≠ none := fun h => hz.ab j hj (step_role (by decide) (hp ▸ h))
 have hin : j < g.n := by rw [hz.en]; exact hj
 have hlenp : p.log.length ≤ 200000 := by rw [hpl]; exact hlen
 have iS : ∀ l, HasSl (BagA 2 Ent.enc z.bag :: l) (z.p j).lv 2 Ent Ent.enc p.log := by rw [hpl]; exact bagSl (hz.lg j hj)
 refine gsr ?_
 refine gm S fun a S => ?_
 refine gy rfl rfl rfl S (y_nilCheck rfl S rfl) fun a S => ?_
 refine gy rfl rfl rfl S (y_faddrb rfl Ffo52_0 S rfl) fun a S => ?_
 refine gy rfl rfl rfl S (y_load rfl Fsca50 S H rfl rfl) fun a S => ?_
 refine gm S fun a S => ?_
 refine gy rfl rfl rfl S (y_iaddrn rfl Try.underlying50 Fsiz53 S H rfl rfl (by first | assumption | omega | (simp only [List.length_range]; omega) | (simp only [List.length_replicate]; omega) | (simp only [List.length_cons]; omega))) fun a S => ?_
 refine gy rfl rfl rfl S ((y_loadsD c.pv 0 rfl Fsca53 S H rfl (by simp only [List.length_range]; omega) (ldPt hj))) fun a S => ?_
 refine ga S fun a S => ?_
 refine gnt ?_
 have S := ((((S.nil.cons S 3 rfl).cons S 2 rfl).cons S 1 rfl).cons S 0 rfl).cons S 8 rfl
 refine g_seq ?_
 refine g_seq ?_
 refine region_st (loud := []) (tails := []) (free := []) [0, 1, 2, 3, 4, 5, 6] [] Fmo (by kernel_rfl) (by kernel_rfl) rfl H ?_
 refine m_w rfl rfl (wn rfl) rfl rfl S (fun w H => y_move rfl S rfl) fun a S => ?_
 refine m_c rfl rfl (wn rfl) rfl rfl S (fun w => co_invoke (hm_ack _) rfl Try.call63 S rfl rfl) (fun w H => about_ack t m w) fun a S => ?_
 refine m_w rfl rfl (wn rfl) rfl rfl S (fun w H => y_move rfl S rfl) fun a S => ?_
 refine m_w rfl rfl (wn rfl) rfl rfl S (fun w H => y_nilCheck rfl S rfl) fun a S => ?_
 refine m_w rfl rfl (wn rfl) rfl rfl S (fun w H => y_faddrb rfl Ffo58_0 S rfl) fun a S => ?_
 refine m_w rfl rfl (wn rfl) rfl rfl S (fun w H => y_load rfl Fsca3 S H rfl rfl) fun a S => ?_
 refine m_w rfl rfl (wn rfl) rfl rfl S (fun w H => y_bin rfl S rfl rfl rfl) fun a S => ?_
 refine m_nil (fun w H => ?_)
 refine n_then ?_
 have S := (((((S.nil.cons S 3 rfl).cons S 2 rfl).cons S 1 rfl).cons S 0 rfl).cons S 8 rfl).cons S 30 rfl
 refine cut (fun a w => St 199 [(0, .pointer (some ⟨c.b, 0, none⟩)), (1, .int .i64 (i : Int)), (2, .int .i64 (j : Int)), (3, msgV (.ack t m) v), (8, .pointer (some ⟨c.pb j, 0, none⟩))] a ∧ HSat M u0 ([PCel (c.pb j) (z.p j) p, OMap (z.p j).vb eB (z.p j).vm (z.p j).vc, OMap (z.p j).ab kI (z.p j).am (z.p j).ac, PRest c n g z j, MapA c.qb kQ eV z.qm z.qc, QuesA n z.qm z.qv, BagA 2 Ent.enc z.bag] ++ (GCel c :: GPts c n :: l)) w) ?_ ?_
 ·skip
  refine c_if S rfl (fun h1 => ?_) (fun h1 => ?_)
  ·have h1p := h1; try simp only [DL] at h1p
   refine g_region ?_
   refine gm S fun a S => ?_
   refine gm S fun a S => ?_
   refine gm S fun a S => ?_
   refine gm S fun a S => ?_
   refine wl_of (op_call (wn rfl) rfl rfl S (co_invoke (hm_ack _) rfl Try.call63 S rfl rfl) (about_ack t m w) fun v w hc a S => ?_)
   obtain ⟨rfl, he⟩ := hc
   have H := H.ext he
   refine gy rfl rfl rfl S (y_nilCheck rfl S rfl) fun a S => ?_
   refine gy rfl rfl rfl S (y_faddrb rfl Ffo58_0 S rfl) fun a S => ?_
   refine wl_of (op_store (wn rfl) rfl rfl S H rfl rfl rfl Fsiz3 rfl fun a w S H => ?_)
   dsimp only [List.set, Nat.zero_add, Nat.reduceAdd] at H
   refine gy rfl rfl rfl S (y_nilCheck rfl S rfl) fun a S => ?_
   refine gy rfl rfl rfl S (y_faddrb rfl Ffo58_1 S rfl) fun a S => ?_
   refine wl_of (op_store (wn rfl) rfl rfl S H rfl rfl rfl Fsiz3 rfl fun a w S H => ?_)
   dsimp only [List.set, Nat.zero_add, Nat.reduceAdd] at H
   refine gy rfl rfl rfl S (y_nilCheck rfl S rfl) fun a S => ?_
   refine gy rfl rfl rfl S (y_faddrb rfl Ffo58_4 S rfl) fun a S => ?_
   refine wl_of (op_store (wn rfl) rfl rfl S H rfl rfl rfl Fsiz9 rfl fun a w S H => ?_)
   dsimp only [List.set, Nat.zero_add, Nat.reduceAdd] at H
   refine gnt ?_
   first
   | (have e : p = { g.at_ j with term := t, vote := -1, role := 0 } := hp.trans (step_yes h1p)
      exact ⟨(((((S.nil.cons S 8 rfl).cons S 3 rfl).cons S 2 rfl).cons S 1 rfl).cons S 0 rfl), by rw [e]; exact H.takeT [Cel (c.pb j) 58 [.int .i64 (t), .int .i64 (-1), (z.p j).lv, .bool (g.at_ j).down, .string ⟨#[102, 111, 108, 108, 111, 119, 101, 114]⟩, .int .i64 ((g.at_ j).done : Int), .map (z.p j).vb, .map (z.p j).ab], OMap (z.p j).vb eB (z.p j).vm (z.p j).vc, OMap (z.p j).ab kI (z.p j).am (z.p j).ac, PRest c n g z j, MapA c.qb kQ eV z.qm z.qc, QuesA n z.qm z.qv, BagA 2 Ent.enc z.bag] (GCel c :: GPts c n :: l)⟩)
   | (have e : p = g.at_ j := hp.trans (step_no (Int.not_lt.2 h1p))
      exact ⟨(((((S.nil.cons S 8 rfl).cons S 3 rfl).cons S 2 rfl).cons S 1 rfl).cons S 0 rfl), by rw [e]; exact H.takeT [PCel (c.pb j) (z.p j) (g.at_ j), OMap (z.p j).vb eB (z.p j).vm (z.p j).vc, OMap (z.p j).ab kI (z.p j).am (z.p j).ac, PRest c n g z j, MapA c.qb kQ eV z.qm z.qc, QuesA n z.qm z.qv, BagA 2 Ent.enc z.bag] (GCel c :: GPts c n :: l)⟩)
  ·have h1p := h1; try simp only [DL] at h1p
   refine g_skip ?_
   refine n_then ?_
   first
   | (have e : p = { g.at_ j with term := t, vote := -1, role := 0 } := hp.trans (step_yes h1p)
      exact ⟨(((((S.nil.cons S 8 rfl).cons S 3 rfl).cons S 2 rfl).cons S 1 rfl).cons S 0 rfl), by rw [e]; exact H.takeT [Cel (c.pb j) 58 [.int .i64 (t), .int .i64 (-1), (z.p j).lv, .bool (g.at_ j).down, .string ⟨#[102, 111, 108, 108, 111, 119, 101, 114]⟩, .int .i64 ((g.at_ j).done : Int), .map (z.p j).vb, .map (z.p j).ab], OMap (z.p j).vb eB (z.p j).vm (z.p j).vc, OMap (z.p j).ab kI (z.p j).am (z.p j).ac, PRest c n g z j, MapA c.qb kQ eV z.qm z.qc, QuesA n z.qm z.qv, BagA 2 Ent.enc z.bag] (GCel c :: GPts c n :: l)⟩)
   | (have e : p = g.at_ j := hp.trans (step_no (Int.not_lt.2 h1p))
      exact ⟨(((((S.nil.cons S 8 rfl).cons S 3 rfl).cons S 2 rfl).cons S 1 rfl).cons S 0 rfl), by rw [e]; exact H.takeT [PCel (c.pb j) (z.p j) (g.at_ j), OMap (z.p j).vb eB (z.p j).vm (z.p j).vc, OMap (z.p j).ab kI (z.p j).am (z.p j).ac, PRest c n g z j, MapA c.qb kQ eV z.qm z.qc, QuesA n z.qm z.qv, BagA 2 Ent.enc z.bag] (GCel c :: GPts c n :: l)⟩)
 rintro a w ⟨S, H⟩
 simp only [List.cons_append, List.nil_append] at H
 refine g_seq ?_
 refine region_st (loud := []) (tails := []) (free := []) [0, 1, 2, 3, 4, 5, 6, 7] [] Fmo (by kernel_rfl) (by kernel_rfl) rfl H ?_
 refine m_w rfl rfl (wn rfl) rfl rfl S (fun w H => y_move rfl S rfl) fun a S => ?_
 refine m_c rfl rfl (wn rfl) rfl rfl S (fun w => co_invoke (hm_ack _) rfl Try.call63 S rfl rfl) (fun w H => about_ack t m w) fun a S => ?_
 refine m_w rfl rfl (wn rfl) rfl rfl S (fun w H => y_move rfl S rfl) fun a S => ?_
 refine m_w rfl rfl (wn rfl) rfl rfl S (fun w H => y_nilCheck rfl S rfl) fun a S => ?_
 refine m_w rfl rfl (wn rfl) rfl rfl S (fun w H => y_faddrb rfl Ffo58_0 S rfl) fun a S => ?_
 refine m_w rfl rfl (wn rfl) rfl rfl S (fun w H => y_load rfl Fsca3 S H rfl rfl) fun a S => ?_
 refine m_w rfl rfl (wn rfl) rfl rfl S (fun w H => y_bin rfl S rfl rfl rfl) fun a S => ?_
 refine m_w rfl rfl (wn rfl) rfl rfl S (fun w H => y_assign rfl S rfl) fun a S => ?_
 refine m_nil (fun w H => ?_)
 refine n_then ?_
 have S := (((((S.nil.cons S 8 rfl).cons S 3 rfl).cons S 2 rfl).cons S 1 rfl).cons S 0 rfl).cons S 9 rfl
 refine gsr ?_
 refine gm S fun a S => ?_
 refine gnt ?_
 refine g_block ?_
 refine gsr ?_
 refine gy rfl rfl rfl S (y_assertN (by decide) Fzv81 rfl Fnif81 S rfl) fun a S => ?_
 refine gy rfl rfl rfl S (y_extract rfl S rfl rfl) fun a S => ?_
 refine gy rfl rfl rfl S (y_extract rfl S rfl rfl) fun a S => ?_
 refine gnt ?_
 refine c_if S rfl (fun h2 => ?_) (fun h2 => ?_)
 ·have h2p := h2; try simp only [DL] at h2p
  all_goals (
    exact absurd h2 (by simp))
 ·have h2p := h2; try simp only [DL] at h2p
  refine gsr ?_
  refine gy rfl rfl rfl S (y_assertN (by decide) Fzv91 rfl Fnif91 S rfl) fun a S => ?_
  refine gy rfl rfl rfl S (y_extract rfl S rfl rfl) fun a S => ?_
  refine gy rfl rfl rfl S (y_extract rfl S rfl rfl) fun a S => ?_
  refine gnt ?_
  have S := (((((((S.nil.cons S 8 rfl).cons S 2 rfl).cons S 1 rfl).cons S 0 rfl).cons S 9 rfl).cons S 49 rfl).cons S 111 rfl).cons S 112 rfl
  refine c_if S rfl (fun h3 => ?_) (fun h3 => ?_)
  ·have h3p := h3; try simp only [DL] at h3p
   all_goals (
     exact absurd h3 (by simp))
  ·have h3p := h3; try simp only [DL] at h3p
   refine gsr ?_
   refine gy rfl rfl rfl S (y_assertN (by decide) Fzv93 rfl Fnif93 S rfl) fun a S => ?_
   refine gy rfl rfl rfl S (y_extract rfl S rfl rfl) fun a S => ?_
   refine gy rfl rfl rfl S (y_extract rfl S rfl rfl) fun a S => ?_
   refine gnt ?_
   refine c_if S rfl (fun h4 => ?_) (fun h4 => ?_)
   ·have h4p := h4; try simp only [DL] at h4p
    all_goals (
      exact absurd h4 (by simp))
   ·have h4p := h4; try simp only [DL] at h4p
    refine gsr ?_
    refine gy rfl rfl rfl S (y_assertY rfl Fnif95 S rfl) fun a S => ?_
    refine gy rfl rfl rfl S (y_extract rfl S rfl rfl) fun a S => ?_
    refine gy rfl rfl rfl S (y_extract rfl S rfl rfl) fun a S => ?_
    refine gnt ?_
    have S := ((((((S.nil.cons S 8 rfl).cons S 2 rfl).cons S 1 rfl).cons S 0 rfl).cons S 9 rfl).cons S 172 rfl).cons S 173 rfl
    refine c_if S rfl (fun h5 => ?_) (fun h5 => ?_)
    ·have h5p := h5; try simp only [DL] at h5p
     refine gsr ?_
     refine wl_of (op_alloc (wn rfl) rfl rfl rfl S H Fzer95 fun b16 a w S H => ?_)
     refine wl_of (op_storea (wn rfl) rfl rfl S H rfl rfl rfl Fsiz95 rfl (cs' := [_, _]) rfl fun a w S H => ?_)
     refine gnt ?_
     refine gsr ?_
     refine gm S fun a S => ?_
     refine gy rfl rfl rfl S (y_nilCheck rfl S rfl) fun a S => ?_
     refine gy rfl rfl rfl S (y_faddrb rfl Ffo58_4 S rfl) fun a S => ?_
     refine gy rfl rfl rfl S (y_load rfl Fsca9 S H rfl rfl) fun a S => ?_
     refine gy rfl rfl rfl S (y_eqs rfl Try.underlying9 S rfl rfl) fun a S => ?_
     rw [roleS_lead] at S
     refine gm S fun a S => ?_
     refine' wl_and 1 179 rfl S H rfl rfl rfl rfl rfl rfl rfl (fun _ S => (wn rfl)) (fun h6 kk => ?yh6) (fun a w S H => ?_)
     case yh6 =>
      have h6p := h6; try simp only [DL] at h6p
      refine gz 179 h6 S rfl rfl rfl rfl rfl rfl (y_move rfl S rfl) fun a S => ?_
      refine gy rfl rfl rfl S (y_and' rfl h6 S rfl rfl) fun a S => ?_
      exact kk _ _ (S.join 2 181 rfl rfl) H
     refine gnt ?_
     have S := (((((S.nil.cons S 8 rfl).cons S 2 rfl).cons S 1 rfl).cons S 0 rfl).cons S 16 rfl).cons S 181 rfl
     refine c_if S rfl (fun h7 => ?_) (fun h7 => ?_)
     ·have h7p := h7; try simp only [DL] at h7p
      have hc : p.role = 2 ∧ t = p.term := by simpa using h7
      obtain ⟨ab, hab⟩ := Option.ne_none_iff_exists'.1 (hpa hc.1)
      rw [hab] at H
      have H := H.pick [OMap (some ab) kI (z.p j).am (z.p j).ac]
      simp only [List.cons_append, List.nil_append, List.append_eq] at H
      have H : HSat _ _ (MapA ab kI kI (z.p j).am (z.p j).ac :: _) _ := H
      refine g_seq ?_
      refine region_st (loud := [14]) (tails := [14]) (free := []) [0, 1, 2, 3, 4, 5, 6, 7, 8, 9, 10, 11, 12, 13, 14] [] Fmo (by kernel_rfl) (by kernel_rfl) rfl H ?_
      refine m_w rfl rfl (wn rfl) rfl rfl S (fun w H => y_move rfl S rfl) fun a S => ?_
      refine m_w rfl rfl (wn rfl) rfl rfl S (fun w H => y_nilCheck rfl S rfl) fun a S => ?_
      refine m_w rfl rfl (wn rfl) rfl rfl S (fun w H => y_faddrb rfl Ffo58_7 S rfl) fun a S => ?_
      refine m_w rfl rfl (wn rfl) rfl rfl S (fun w H => (y_load rfl Fsca56 S H rfl (congrArg (fun x => some (Value.map x)) hab))) fun a S => ?_
      refine m_w rfl rfl (wn rfl) rfl rfl S (fun w H => y_move rfl S rfl) fun a S => ?_
      refine m_w rfl rfl (wn rfl) rfl rfl S (fun w H => y_move rfl S rfl) fun a S => ?_
      refine m_w rfl rfl (wn rfl) rfl rfl S (fun w H => y_nilCheck rfl S rfl) fun a S => ?_
      refine m_w rfl rfl (wn rfl) rfl rfl S (fun w H => y_faddrb rfl Ffo58_7 S rfl) fun a S => ?_
      refine m_w rfl rfl (wn rfl) rfl rfl S (fun w H => (y_load rfl Fsca56 S H rfl (congrArg (fun x => some (Value.map x)) hab))) fun a S => ?_
      refine m_w rfl rfl (wn rfl) rfl rfl S (fun w H => y_move rfl S rfl) fun a S => ?_
      refine m_w rfl rfl (wn rfl) rfl rfl S (fun w H => y_lookupE ((i : Int)) ((0 : Int)) rfl Try.underlying56 Finf3 S H rfl (keyOK_int Try.underlying3) (by exact rfl) (by exact rfl) rfl) fun a S => ?_
      refine m_w rfl rfl (wn rfl) rfl rfl S (fun w H => y_faddrb rfl Ffo95_1 S rfl) fun a S => ?_
      refine m_w rfl rfl (wn rfl) rfl rfl S (fun w H => y_load rfl Fsca3 S H rfl rfl) fun a S => ?_
      refine m_w rfl rfl (wn rfl) rfl rfl S (fun w H => y_max rfl S rfl rfl) fun a S => ?_
      refine m_l rfl rfl (fun w H => op_mapUpdate ((i : Int)) (max (((z.p j).am (i : Int)).getD 0) m) (wn rfl) rfl rfl Try.underlying56 S H rfl (keyOK_int Try.underlying3) (by exact rfl) (by exact rfl) fun a w S H => m_tail H rfl ?_)
      refine m_nil (fun w H => ?_)
      refine n_then ?_
      have S := (S.nil.cons S 2 rfl).cons S 0 rfl
      refine g_region ?_
      refine gm S fun a S => ?_
      refine gm S fun a S => ?_
      refine wl_of (op_call (wn rfl) rfl rfl S (co_func rfl Try.call37 S rfl) (commit_spec c n (g.put j { p with acks := fun k => if k = i then max (p.acks i) m else p.acks k }) { z with p := fun v => if v = j then ({ z.p j with am := upd (z.p j).am (i : Int) (max (((z.p j).am (i : Int)).getD 0) m), ac := if ((z.p j).am (i : Int)).isSome = true then (z.p j).ac else (z.p j).ac + 1 } : PV) else z.p v, bag := z.bag } j _ (putIn ({ z.p j with am := upd (z.p j).am (i : Int) (max (((z.p j).am (i : Int)).getD 0) m), ac := if ((z.p j).am (i : Int)).isSome = true then (z.p j).ac else (z.p j).ac + 1 } : PV) { p with acks := fun k => if k = i then max (p.acks i) m else p.acks k } (by have H : HSat _ _ ([Cel (c.pb j) 58 [.int .i64 p.term, .int .i64 p.vote, (z.p j).lv, .bool p.down, .string (roleS p.role), .int .i64 (p.done : Int), .map (z.p j).vb, .map (z.p j).ab], OMap (z.p j).vb eB (z.p j).vm (z.p j).vc, MapA ab kI kI (upd (z.p j).am (i : Int) (max (((z.p j).am (i : Int)).getD 0) m)) (if ((z.p j).am (i : Int)).isSome = true then (z.p j).ac else (z.p j).ac + 1), PRest c n g z j, MapA c.qb kQ eV z.qm z.qc, QuesA n z.qm z.qv, BagA 2 Ent.enc z.bag] ++ (GCel c :: GPts c n :: l)) _ := H.takeT [PCel (c.pb j) (z.p j) p, OMap (z.p j).vb eB (z.p j).vm (z.p j).vc, MapA ab kI kI (upd (z.p j).am (i : Int) (max (((z.p j).am (i : Int)).getD 0) m)) (if ((z.p j).am (i : Int)).isSome = true then (z.p j).ac else (z.p j).ac + 1), PRest c n g z j, MapA c.qb kQ eV z.qm z.qc, QuesA n z.qm z.qv, BagA 2 Ent.enc z.bag] (GCel c :: GPts c n :: l); have H : HSat _ _ ([PCel (c.pb j) ({ z.p j with am := upd (z.p j).am (i : Int) (max (((z.p j).am (i : Int)).getD 0) m), ac := if ((z.p j).am (i : Int)).isSome = true then (z.p j).ac else (z.p j).ac + 1 } : PV) { p with acks := fun k => if k = i then max (p.acks i) m else p.acks k }, OMap (z.p j).vb eB (z.p j).vm (z.p j).vc, OMap (some ab) kI (upd (z.p j).am (i : Int) (max (((z.p j).am (i : Int)).getD 0) m)) (if ((z.p j).am (i : Int)).isSome = true then (z.p j).ac else (z.p j).ac + 1), PRest c n g z j, MapA c.qb kQ eV z.qm z.qc, QuesA n z.qm z.qv, BagA 2 Ent.enc z.bag] ++ (GCel c :: GPts c n :: l)) _ := H; rw [← hab] at H; exact H) hz hj ⟨hpf.v, fun k => by rw [updI]; show _ = if k = i then max (p.acks i) m else p.acks k; rw [hpf.a i, hpf.a k]⟩ (fun _ h => h) hz.cp (by show ((z.p j).lv, p.log) ∈ z.bag; rw [hpl]; exact hz.lg j hj) hpv hpa) hj (by rw [Grp.put_same _ hin]; exact hc.1) hq (by rw [Grp.put_same _ hin]; exact hlenp)) fun v w hc a S => ?_)
      obtain ⟨rfl, z', H⟩ := hc
      
      refine gl_nil ?_
      refine n_block ?_
      refine ret0n rfl S ?_
      exact ⟨rfl, z', by unfold Grp.receive; dsimp only [Msg.term]; rw [← hp, if_pos hc]; exact H⟩
     ·have h7p := h7; try simp only [DL] at h7p
      have hc : ¬ (p.role = 2 ∧ t = p.term) := fun e => by rw [e.1, e.2] at h7; simp at h7
      refine g_skip ?_
      refine n_block ?_
      refine ret0n rfl S ?_
      exact ⟨rfl, _, by unfold Grp.receive; dsimp only [Msg.term]; rw [← hp, if_neg (hc)]; exact putIn (z.p j) p (H.takeT [PCel (c.pb j) (z.p j) p, OMap (z.p j).vb eB (z.p j).vm (z.p j).vc, OMap (z.p j).ab kI (z.p j).am (z.p j).ac, PRest c n g z j, MapA c.qb kQ eV z.qm z.qc, QuesA n z.qm z.qv, BagA 2 Ent.enc z.bag] (GCel c :: GPts c n :: l)) hz hj hpf (fun _ h => h) hz.cp (by rw [hpl]; exact hz.lg j hj) hpv hpa⟩
    ·have h5p := h5; try simp only [DL] at h5p
     all_goals (
       exact absurd h5 (by simp))
set_option maxHeartbeats 1000000 in
/-- (*foyer/replica.Group).receive -/
theorem receive_share {M : Nat → Prop} {u0 : World} {l : List Atom} (c : GC) (n : Nat) (g : Grp) (z : GV) (i j : Nat) (t : Int) (lg : List Ent) (d : Nat) (v : Value) (w0 : World) (h0 : HSat M u0 (GrpA c n g z :: GCel c :: GPts c n :: l) w0) (hi : i < n) (hj : j < n) (hq : ∀ b, (g.q j b).length ≤ 900000) (hlen : (g.at_ j).log.length ≤ 200000) (hv : (v, lg) ∈ z.bag) (hlg : lg.length ≤ 200000) :
    Ret Try.prog 26 #[.pointer (some ⟨c.b, 0, none⟩), .int .i64 (i : Int), .int .i64 (j : Int), msgV (.share t lg d) v] w0 (fun u w => u = .tuple #[] ∧ ∃ z', HSat M u0 (GrpA c n (g.receive i j (.share t lg d)) z' :: GCel c :: GPts c n :: l) w) := by
 refine ret_of_wp (nt := 199) Try.func26 rfl rfl rfl (fl := [(0, .pointer (some ⟨c.b, 0, none⟩)), (1, .int .i64 (i : Int)), (2, .int .i64 (j : Int)), (3, msgV (.share t lg d) v)]) rfl (fun a S => ?_)
 obtain ⟨H, hz⟩ := grpOut h0
 obtain ⟨H, hf⟩ := peerOut H hj
 have hn7 := hz.n7
 obtain ⟨p, hp⟩ : ∃ p, p = (g.at_ j).step (t) := ⟨_, rfl⟩
 have hpf : (z.p j).Fits p := by rw [hp]; exact hf.step _
 have hpl : p.log = (g.at_ j).log := by rw [hp]; exact Peer.step_log _ _
 have hpv : p.role = 1 → (z.p j).vb ≠ none := fun h => hz.vb j hj (step_role (by decide) (hp ▸ h))
 have hpa : p.role = 2 → (z.p j).ab ≠ none := fun h => hz.ab j hj (step_role (by decide) (hp ▸ h))
 have hin : j < g.n := by rw [hz.en]; exact hj
 have hlenp : p.log.length ≤ 200000 := by rw [hpl]; exact hlen
 have iS : ∀ l, HasSl (BagA 2 Ent.enc z.bag :: l) (z.p j).lv 2 Ent Ent.enc p.log := by rw [hpl]; exact bagSl (hz.lg j hj)
 have iV : ∀ l, HasSl (BagA 2 Ent.enc z.bag :: l) v 2 Ent Ent.enc lg := bagSl hv
 have hvc : v.oneCell' = true := H.sl1 v
 refine gsr ?_
 refine gm S fun a S => ?_
 refine gy rfl rfl rfl S (y_nilCheck rfl S rfl) fun a S => ?_
 refine gy rfl rfl rfl S (y_faddrb rfl Ffo52_0 S rfl) fun a S => ?_
 refine gy rfl rfl rfl S (y_load rfl Fsca50 S H rfl rfl) fun a S => ?_
 refine gm S fun a S => ?_
 refine gy rfl rfl rfl S (y_iaddrn rfl Try.underlying50 Fsiz53 S H rfl rfl (by first | assumption | omega | (simp only [List.length_range]; omega) | (simp only [List.length_replicate]; omega) | (simp only [List.length_cons]; omega))) fun a S => ?_
 refine gy rfl rfl rfl S ((y_loadsD c.pv 0 rfl Fsca53 S H rfl (by simp only [List.length_range]; omega) (ldPt hj))) fun a S => ?_
 refine ga S fun a S => ?_
 refine gnt ?_
 have S := ((((S.nil.cons S 3 rfl).cons S 2 rfl).cons S 1 rfl).cons S 0 rfl).cons S 8 rfl
 refine g_seq ?_
 refine g_seq ?_
 refine region_st (loud := []) (tails := []) (free := []) [0, 1, 2, 3, 4, 5, 6] [] Fmo (by kernel_rfl) (by kernel_rfl) rfl H ?_
 refine m_w rfl rfl (wn rfl) rfl rfl S (fun w H => y_move rfl S rfl) fun a S => ?_
 refine m_c rfl rfl (wn rfl) rfl rfl S (fun w => co_invoke (hm_share _) rfl Try.call62 S rfl rfl) (fun w H => about_share t (d : Int) v w hvc) fun a S => ?_
 refine m_w rfl rfl (wn rfl) rfl rfl S (fun w H => y_move rfl S rfl) fun a S => ?_
 refine m_w rfl rfl (wn rfl) rfl rfl S (fun w H => y_nilCheck rfl S rfl) fun a S => ?_
 refine m_w rfl rfl (wn rfl) rfl rfl S (fun w H => y_faddrb rfl Ffo58_0 S rfl) fun a S => ?_
 refine m_w rfl rfl (wn rfl) rfl rfl S (fun w H => y_load rfl Fsca3 S H rfl rfl) fun a S => ?_
 refine m_w rfl rfl (wn rfl) rfl rfl S (fun w H => y_bin rfl S rfl rfl rfl) fun a S => ?_
 refine m_nil (fun w H => ?_)
 refine n_then ?_
 have S := (((((S.nil.cons S 3 rfl).cons S 2 rfl).cons S 1 rfl).cons S 0 rfl).cons S 8 rfl).cons S 30 rfl
 refine cut (fun a w => St 199 [(0, .pointer (some ⟨c.b, 0, none⟩)), (1, .int .i64 (i : Int)), (2, .int .i64 (j : Int)), (3, msgV (.share t lg d) v), (8, .pointer (some ⟨c.pb j, 0, none⟩))] a ∧ HSat M u0 ([PCel (c.pb j) (z.p j) p, OMap (z.p j).vb eB (z.p j).vm (z.p j).vc, OMap (z.p j).ab kI (z.p j).am (z.p j).ac, PRest c n g z j, MapA c.qb kQ eV z.qm z.qc, QuesA n z.qm z.qv, BagA 2 Ent.enc z.bag] ++ (GCel c :: GPts c n :: l)) w) ?_ ?_
 ·skip
  refine c_if S rfl (fun h1 => ?_) (fun h1 => ?_)
  ·have h1p := h1; try simp only [DL] at h1p
   refine g_region ?_
   refine gm S fun a S => ?_
   refine gm S fun a S => ?_
   refine gm S fun a S => ?_
   refine gm S fun a S => ?_
   refine wl_of (op_call (wn rfl) rfl rfl S (co_invoke (hm_share _) rfl Try.call62 S rfl rfl) (about_share t (d : Int) v w hvc) fun v w hc a S => ?_)
   obtain ⟨rfl, he⟩ := hc
   have H := H.ext he
   refine gy rfl rfl rfl S (y_nilCheck rfl S rfl) fun a S => ?_
   refine gy rfl rfl rfl S (y_faddrb rfl Ffo58_0 S rfl) fun a S => ?_
   refine wl_of (op_store (wn rfl) rfl rfl S H rfl rfl rfl Fsiz3 rfl fun a w S H => ?_)
   dsimp only [List.set, Nat.zero_add, Nat.reduceAdd] at H
   refine gy rfl rfl rfl S (y_nilCheck rfl S rfl) fun a S => ?_
   refine gy rfl rfl rfl S (y_faddrb rfl Ffo58_1 S rfl) fun a S => ?_
   refine wl_of (op_store (wn rfl) rfl rfl S H rfl rfl rfl Fsiz3 rfl fun a w S H => ?_)
   dsimp only [List.set, Nat.zero_add, Nat.reduceAdd] at H
   refine gy rfl rfl rfl S (y_nilCheck rfl S rfl) fun a S => ?_
   refine gy rfl rfl rfl S (y_faddrb rfl Ffo58_4 S rfl) fun a S => ?_
   refine wl_of (op_store (wn rfl) rfl rfl S H rfl rfl rfl Fsiz9 rfl fun a w S H => ?_)
   dsimp only [List.set, Nat.zero_add, Nat.reduceAdd] at H
   refine gnt ?_
   first
   | (have e : p = { g.at_ j with term := t, vote := -1, role := 0 } := hp.trans (step_yes h1p)
      exact ⟨(((((S.nil.cons S 8 rfl).cons S 3 rfl).cons S 2 rfl).cons S 1 rfl).cons S 0 rfl), by rw [e]; exact H.takeT [Cel (c.pb j) 58 [.int .i64 (t), .int .i64 (-1), (z.p j).lv, .bool (g.at_ j).down, .string ⟨#[102, 111, 108, 108, 111, 119, 101, 114]⟩, .int .i64 ((g.at_ j).done : Int), .map (z.p j).vb, .map (z.p j).ab], OMap (z.p j).vb eB (z.p j).vm (z.p j).vc, OMap (z.p j).ab kI (z.p j).am (z.p j).ac, PRest c n g z j, MapA c.qb kQ eV z.qm z.qc, QuesA n z.qm z.qv, BagA 2 Ent.enc z.bag] (GCel c :: GPts c n :: l)⟩)
   | (have e : p = g.at_ j := hp.trans (step_no (Int.not_lt.2 h1p))
      exact ⟨(((((S.nil.cons S 8 rfl).cons S 3 rfl).cons S 2 rfl).cons S 1 rfl).cons S 0 rfl), by rw [e]; exact H.takeT [PCel (c.pb j) (z.p j) (g.at_ j), OMap (z.p j).vb eB (z.p j).vm (z.p j).vc, OMap (z.p j).ab kI (z.p j).am (z.p j).ac, PRest c n g z j, MapA c.qb kQ eV z.qm z.qc, QuesA n z.qm z.qv, BagA 2 Ent.enc z.bag] (GCel c :: GPts c n :: l)⟩)
  ·have h1p := h1; try simp only [DL] at h1p
   refine g_skip ?_
   refine n_then ?_
   first
   | (have e : p = { g.at_ j with term := t, vote := -1, role := 0 } := hp.trans (step_yes h1p)
      exact ⟨(((((S.nil.cons S 8 rfl).cons S 3 rfl).cons S 2 rfl).cons S 1 rfl).cons S 0 rfl), by rw [e]; exact H.takeT [Cel (c.pb j) 58 [.int .i64 (t), .int .i64 (-1), (z.p j).lv, .bool (g.at_ j).down, .string ⟨#[102, 111, 108, 108, 111, 119, 101, 114]⟩, .int .i64 ((g.at_ j).done : Int), .map (z.p j).vb, .map (z.p j).ab], OMap (z.p j).vb eB (z.p j).vm (z.p j).vc, OMap (z.p j).ab kI (z.p j).am (z.p j).ac, PRest c n g z j, MapA c.qb kQ eV z.qm z.qc, QuesA n z.qm z.qv, BagA 2 Ent.enc z.bag] (GCel c :: GPts c n :: l)⟩)
   | (have e : p = g.at_ j := hp.trans (step_no (Int.not_lt.2 h1p))
      exact ⟨(((((S.nil.cons S 8 rfl).cons S 3 rfl).cons S 2 rfl).cons S 1 rfl).cons S 0 rfl), by rw [e]; exact H.takeT [PCel (c.pb j) (z.p j) (g.at_ j), OMap (z.p j).vb eB (z.p j).vm (z.p j).vc, OMap (z.p j).ab kI (z.p j).am (z.p j).ac, PRest c n g z j, MapA c.qb kQ eV z.qm z.qc, QuesA n z.qm z.qv, BagA 2 Ent.enc z.bag] (GCel c :: GPts c n :: l)⟩)
 rintro a w ⟨S, H⟩
 simp only [List.cons_append, List.nil_append] at H
 refine g_seq ?_
 refine region_st (loud := []) (tails := []) (free := []) [0, 1, 2, 3, 4, 5, 6, 7] [] Fmo (by kernel_rfl) (by kernel_rfl) rfl H ?_
 refine m_w rfl rfl (wn rfl) rfl rfl S (fun w H => y_move rfl S rfl) fun a S => ?_
 refine m_c rfl rfl (wn rfl) rfl rfl S (fun w => co_invoke (hm_share _) rfl Try.call62 S rfl rfl) (fun w H => about_share t (d : Int) v w hvc) fun a S => ?_
 refine m_w rfl rfl (wn rfl) rfl rfl S (fun w H => y_move rfl S rfl) fun a S => ?_
 refine m_w rfl rfl (wn rfl) rfl rfl S (fun w H => y_nilCheck rfl S rfl) fun a S => ?_
 refine m_w rfl rfl (wn rfl) rfl rfl S (fun w H => y_faddrb rfl Ffo58_0 S rfl) fun a S => ?_
 refine m_w rfl rfl (wn rfl) rfl rfl S (fun w H => y_load rfl Fsca3 S H rfl rfl) fun a S => ?_
 refine m_w rfl rfl (wn rfl) rfl rfl S (fun w H => y_bin rfl S rfl rfl rfl) fun a S => ?_
 refine m_w rfl rfl (wn rfl) rfl rfl S (fun w H => y_assign rfl S rfl) fun a S => ?_
 refine m_nil (fun w H => ?_)
 refine n_then ?_
 have S := (((((S.nil.cons S 8 rfl).cons S 3 rfl).cons S 2 rfl).cons S 1 rfl).cons S 0 rfl).cons S 9 rfl
 refine gsr ?_
 refine gm S fun a S => ?_
 refine gnt ?_
 refine g_block ?_
 refine gsr ?_
 refine gy rfl rfl rfl S (y_assertN (by decide) Fzv81 rfl Fnif81 S rfl) fun a S => ?_
 refine gy rfl rfl rfl S (y_extract rfl S rfl rfl) fun a S => ?_
 refine gy rfl rfl rfl S (y_extract rfl S rfl rfl) fun a S => ?_
 refine gnt ?_
 refine c_if S rfl (fun h2 => ?_) (fun h2 => ?_)
 ·have h2p := h2; try simp only [DL] at h2p
  all_goals (
    exact absurd h2 (by simp))
 ·have h2p := h2; try simp only [DL] at h2p
  refine gsr ?_
  refine gy rfl rfl rfl S (y_assertN (by decide) Fzv91 rfl Fnif91 S rfl) fun a S => ?_
  refine gy rfl rfl rfl S (y_extract rfl S rfl rfl) fun a S => ?_
  refine gy rfl rfl rfl S (y_extract rfl S rfl rfl) fun a S => ?_
  refine gnt ?_
  have S := (((((((S.nil.cons S 8 rfl).cons S 2 rfl).cons S 1 rfl).cons S 0 rfl).cons S 9 rfl).cons S 49 rfl).cons S 111 rfl).cons S 112 rfl
  refine c_if S rfl (fun h3 => ?_) (fun h3 => ?_)
  ·have h3p := h3; try simp only [DL] at h3p
   all_goals (
     exact absurd h3 (by simp))
  ·have h3p := h3; try simp only [DL] at h3p
   refine gsr ?_
   refine gy rfl rfl rfl S (y_assertY rfl Fnif93 S rfl) fun a S => ?_
   refine gy rfl rfl rfl S (y_extract rfl S rfl rfl) fun a S => ?_
   refine gy rfl rfl rfl S (y_extract rfl S rfl rfl) fun a S => ?_
   refine gnt ?_
   refine c_if S rfl (fun h4 => ?_) (fun h4 => ?_)
   ·have h4p := h4; try simp only [DL] at h4p
    refine gsr ?_
    refine wl_of (op_alloc (wn rfl) rfl rfl rfl S H Fzer93 fun b14 a w S H => ?_)
    refine wl_of (op_storea (wn rfl) rfl rfl S H rfl rfl (by rw [List.all_eq_true]; intro x hx; simp only [List.mem_cons, List.not_mem_nil, or_false] at hx; rcases hx with rfl | rfl | rfl; rfl; exact hvc; rfl) Fsiz93 rfl (cs' := [_, _, _]) rfl fun a w S H => ?_)
    refine gnt ?_
    have S := (((((S.nil.cons S 8 rfl).cons S 2 rfl).cons S 1 rfl).cons S 0 rfl).cons S 9 rfl).cons S 14 rfl
    refine gsr ?_
    refine ga S fun a S => ?_
    refine gnt ?_
    refine g_seq ?_
    refine gsr ?_
    refine gm S fun a S => ?_
    refine gnt ?_
    refine cut (fun a w => ∃ (p' : Peer) (x' : PV) (m : Int), (t = p.term ∧ p' = { p with role := 0, log := lg, done := max p.done d } ∧ x' = { z.p j with lv := v } ∧ m = (lg.length : Int) ∨ t ≠ p.term ∧ p' = p ∧ x' = z.p j ∧ m = 0) ∧ St 199 [(0, .pointer (some ⟨c.b, 0, none⟩)), (1, .int .i64 (i : Int)), (2, .int .i64 (j : Int)), (8, .pointer (some ⟨c.pb j, 0, none⟩)), (15, .int .i64 m)] a ∧ HSat M u0 ([PCel (c.pb j) x' p', OMap x'.vb eB x'.vm x'.vc, OMap x'.ab kI x'.am x'.ac, PRest c n g z j, MapA c.qb kQ eV z.qm z.qc, QuesA n z.qm z.qv, BagA 2 Ent.enc z.bag] ++ (GCel c :: GPts c n :: l)) w) ?_ ?_
    ·skip
     refine c_if S rfl (fun h5 => ?_) (fun h5 => ?_)
     ·have h5p := h5; try simp only [DL] at h5p
      have H := H.freeze
      refine g_seq ?_
      refine cut (fun a w => St 199 [(0, .pointer (some ⟨c.b, 0, none⟩)), (1, .int .i64 (i : Int)), (2, .int .i64 (j : Int)), (8, .pointer (some ⟨c.pb j, 0, none⟩))] a ∧ HSat M u0 ([Cel (c.pb j) 58 [.int .i64 p.term, .int .i64 p.vote, v, .bool p.down, .string ⟨#[102, 111, 108, 108, 111, 119, 101, 114]⟩, .int .i64 ((max p.done d : Nat) : Int), .map (z.p j).vb, .map (z.p j).ab], OMap (z.p j).vb eB (z.p j).vm (z.p j).vc, OMap (z.p j).ab kI (z.p j).am (z.p j).ac, PRest c n g z j, MapA c.qb kQ eV z.qm z.qc, QuesA n z.qm z.qv, BagA 2 Ent.enc z.bag] ++ (GCel c :: GPts c n :: l)) w) ?_ ?_
      ·skip
       refine t_st (tails := [14, 17, 20]) [Atom.ro (Cel b14 93 [.int .i64 t, v, .int .i64 (d : Int)])] Fmo H ?_
       refine t_q 0 rfl (by kernel_rfl) (rem' := [1, 2, 3, 4, 5, 6, 7, 8, 9, 10, 11, 12, 13, 14, 15, 16, 17, 18, 19, 20]) rfl rfl rfl rfl S (fun w H => y_move rfl S rfl) fun a S => ?_
       refine t_p 1 rfl (by kernel_rfl) (rem' := [2, 3, 4, 5, 6, 7, 8, 9, 10, 11, 12, 13, 14, 15, 16, 17, 18, 19, 20]) rfl rfl rfl rfl S (fun w => y_move rfl S rfl) fun a S => ?_
       refine t_p 2 rfl (by kernel_rfl) (rem' := [3, 4, 5, 6, 7, 8, 9, 10, 11, 12, 13, 14, 15, 16, 17, 18, 19, 20]) rfl rfl rfl rfl S (fun w => y_move rfl S rfl) fun a S => ?_
       refine t_p 3 rfl (by kernel_rfl) (rem' := [4, 5, 6, 7, 8, 9, 10, 11, 12, 13, 14, 15, 16, 17, 18, 19, 20]) rfl rfl rfl rfl S (fun w => y_faddrb rfl Ffo93_1 S rfl) fun a S => ?_
       refine t_f 4 rfl (by kernel_rfl) (rem' := [5, 6, 7, 8, 9, 10, 11, 12, 13, 14, 15, 16, 17, 18, 19, 20]) rfl rfl rfl rfl S (fun w H => y_load rfl Fsca54 S H rfl rfl) fun a S => ?_
       refine t_q 5 rfl (by kernel_rfl) (rem' := [6, 7, 8, 9, 10, 11, 12, 13, 14, 15, 16, 17, 18, 19, 20]) rfl rfl rfl rfl S (fun w H => y_move rfl S rfl) fun a S => ?_
       refine t_q 6 rfl (by kernel_rfl) (rem' := [7, 8, 9, 10, 11, 12, 13, 14, 15, 16, 17, 18, 19, 20]) rfl rfl rfl rfl S (fun w H => y_nilCheck rfl S rfl) fun a S => ?_
       refine t_q 7 rfl (by kernel_rfl) (rem' := [8, 9, 10, 11, 12, 13, 14, 15, 16, 17, 18, 19, 20]) rfl rfl rfl rfl S (fun w H => y_faddrb rfl Ffo58_5 S rfl) fun a S => ?_
       refine t_q 8 rfl (by kernel_rfl) (rem' := [9, 10, 11, 12, 13, 14, 15, 16, 17, 18, 19, 20]) rfl rfl rfl rfl S (fun w H => y_load rfl Fsca3 S H rfl rfl) fun a S => ?_
       refine t_p 9 rfl (by kernel_rfl) (rem' := [10, 11, 12, 13, 14, 15, 16, 17, 18, 19, 20]) rfl rfl rfl rfl S (fun w => y_faddrb rfl Ffo93_2 S rfl) fun a S => ?_
       refine t_f 10 rfl (by kernel_rfl) (rem' := [11, 12, 13, 14, 15, 16, 17, 18, 19, 20]) rfl rfl rfl rfl S (fun w H => y_load rfl Fsca3 S H rfl rfl) fun a S => ?_
       refine t_q 12 rfl (by kernel_rfl) (rem' := [11, 13, 14, 15, 16, 17, 18, 19, 20]) rfl rfl rfl rfl S (fun w H => y_nilCheck rfl S rfl) fun a S => ?_
       refine t_q 13 rfl (by kernel_rfl) (rem' := [11, 14, 15, 16, 17, 18, 19, 20]) rfl rfl rfl rfl S (fun w H => y_faddrb rfl Ffo58_4 S rfl) fun a S => ?_
       refine t_b [11, 14] (by kernel_rfl) rfl (fa2 ?_ ?_)
       ·refine ⟨_, rfl, fun w H => ?_⟩
        refine op_y (wn rfl) rfl rfl S (y_max rfl S rfl rfl) fun a S => ?_
        refine t_n H (rem' := [14, 15, 16, 17, 18, 19, 20]) rfl ?_
        refine t_b1 14 (by kernel_rfl) rfl fun w H => ?_
        refine op_store (wn rfl) rfl rfl S H rfl rfl rfl Fsiz9 rfl fun a w S H => ?_
        dsimp only [List.set, Nat.zero_add, Nat.reduceAdd] at H
        refine t_tail H rfl (rem' := [15, 16, 17, 18, 19, 20]) rfl ?_
        refine t_q 15 rfl (by kernel_rfl) (rem' := [16, 17, 18, 19, 20]) rfl rfl rfl rfl S (fun w H => y_nilCheck rfl S rfl) fun a S => ?_
        refine t_q 16 rfl (by kernel_rfl) (rem' := [17, 18, 19, 20]) rfl rfl rfl rfl S (fun w H => y_faddrb rfl Ffo58_2 S rfl) fun a S => ?_
        refine t_b1 17 (by kernel_rfl) rfl fun w H => ?_
        refine op_store (wn rfl) rfl rfl S H rfl rfl (H.sl1 _) Fsiz54 rfl fun a w S H => ?_
        dsimp only [List.set, Nat.zero_add, Nat.reduceAdd] at H
        refine t_tail H rfl (rem' := [18, 19, 20]) rfl ?_
        refine t_q 18 rfl (by kernel_rfl) (rem' := [19, 20]) rfl rfl rfl rfl S (fun w H => y_nilCheck rfl S rfl) fun a S => ?_
        refine t_q 19 rfl (by kernel_rfl) (rem' := [20]) rfl rfl rfl rfl S (fun w H => y_faddrb rfl Ffo58_5 S rfl) fun a S => ?_
        refine t_b1 20 (by kernel_rfl) rfl fun w H => ?_
        refine op_store (wn rfl) rfl rfl S H rfl rfl rfl Fsiz3 rfl fun a w S H => ?_
        dsimp only [List.set, Nat.zero_add, Nat.reduceAdd] at H
        refine t_tail H rfl (rem' := []) rfl ?_
        refine t_nil (fun w H => ?_)
        rw [show max (p.done : Int) (d : Int) = ((max p.done d : Nat) : Int) by omega] at H
        exact ⟨((((S.nil.cons S 8 rfl).cons S 2 rfl).cons S 1 rfl).cons S 0 rfl), H.takeT [Cel (c.pb j) 58 [.int .i64 p.term, .int .i64 p.vote, v, .bool p.down, .string ⟨#[102, 111, 108, 108, 111, 119, 101, 114]⟩, .int .i64 ((max p.done d : Nat) : Int), .map (z.p j).vb, .map (z.p j).ab], OMap (z.p j).vb eB (z.p j).vm (z.p j).vc, OMap (z.p j).ab kI (z.p j).am (z.p j).ac, PRest c n g z j, MapA c.qb kQ eV z.qm z.qc, QuesA n z.qm z.qv, BagA 2 Ent.enc z.bag] (GCel c :: GPts c n :: l)⟩
       ·refine ⟨_, rfl, fun w H => ?_⟩
        refine op_store (wn rfl) rfl rfl S H rfl rfl rfl Fsiz9 rfl fun a w S H => ?_
        dsimp only [List.set, Nat.zero_add, Nat.reduceAdd] at H
        refine t_tail H rfl (rem' := [11, 15, 16, 17, 18, 19, 20]) rfl ?_
        refine t_q 15 rfl (by kernel_rfl) (rem' := [11, 16, 17, 18, 19, 20]) rfl rfl rfl rfl S (fun w H => y_nilCheck rfl S rfl) fun a S => ?_
        refine t_q 16 rfl (by kernel_rfl) (rem' := [11, 17, 18, 19, 20]) rfl rfl rfl rfl S (fun w H => y_faddrb rfl Ffo58_2 S rfl) fun a S => ?_
        refine t_b [11, 17] (by kernel_rfl) rfl (fa2 ?_ ?_)
        ·refine ⟨_, rfl, fun w H => ?_⟩
         refine op_y (wn rfl) rfl rfl S (y_max rfl S rfl rfl) fun a S => ?_
         refine t_n H (rem' := [17, 18, 19, 20]) rfl ?_
         refine t_b1 17 (by kernel_rfl) rfl fun w H => ?_
         refine op_store (wn rfl) rfl rfl S H rfl rfl (H.sl1 _) Fsiz54 rfl fun a w S H => ?_
         dsimp only [List.set, Nat.zero_add, Nat.reduceAdd] at H
         refine t_tail H rfl (rem' := [18, 19, 20]) rfl ?_
         refine t_q 18 rfl (by kernel_rfl) (rem' := [19, 20]) rfl rfl rfl rfl S (fun w H => y_nilCheck rfl S rfl) fun a S => ?_
         refine t_q 19 rfl (by kernel_rfl) (rem' := [20]) rfl rfl rfl rfl S (fun w H => y_faddrb rfl Ffo58_5 S rfl) fun a S => ?_
         refine t_b1 20 (by kernel_rfl) rfl fun w H => ?_
         refine op_store (wn rfl) rfl rfl S H rfl rfl rfl Fsiz3 rfl fun a w S H => ?_
         dsimp only [List.set, Nat.zero_add, Nat.reduceAdd] at H
         refine t_tail H rfl (rem' := []) rfl ?_
         refine t_nil (fun w H => ?_)
         rw [show max (p.done : Int) (d : Int) = ((max p.done d : Nat) : Int) by omega] at H
         exact ⟨((((S.nil.cons S 8 rfl).cons S 2 rfl).cons S 1 rfl).cons S 0 rfl), H.takeT [Cel (c.pb j) 58 [.int .i64 p.term, .int .i64 p.vote, v, .bool p.down, .string ⟨#[102, 111, 108, 108, 111, 119, 101, 114]⟩, .int .i64 ((max p.done d : Nat) : Int), .map (z.p j).vb, .map (z.p j).ab], OMap (z.p j).vb eB (z.p j).vm (z.p j).vc, OMap (z.p j).ab kI (z.p j).am (z.p j).ac, PRest c n g z j, MapA c.qb kQ eV z.qm z.qc, QuesA n z.qm z.qv, BagA 2 Ent.enc z.bag] (GCel c :: GPts c n :: l)⟩
        ·refine ⟨_, rfl, fun w H => ?_⟩
         refine op_store (wn rfl) rfl rfl S H rfl rfl (H.sl1 _) Fsiz54 rfl fun a w S H => ?_
         dsimp only [List.set, Nat.zero_add, Nat.reduceAdd] at H
         refine t_tail H rfl (rem' := [11, 18, 19, 20]) rfl ?_
         refine t_q 11 rfl (by kernel_rfl) (rem' := [18, 19, 20]) rfl rfl rfl rfl S (fun w H => y_max rfl S rfl rfl) fun a S => ?_
         refine t_q 18 rfl (by kernel_rfl) (rem' := [19, 20]) rfl rfl rfl rfl S (fun w H => y_nilCheck rfl S rfl) fun a S => ?_
         refine t_q 19 rfl (by kernel_rfl) (rem' := [20]) rfl rfl rfl rfl S (fun w H => y_faddrb rfl Ffo58_5 S rfl) fun a S => ?_
         refine t_b1 20 (by kernel_rfl) rfl fun w H => ?_
         refine op_store (wn rfl) rfl rfl S H rfl rfl rfl Fsiz3 rfl fun a w S H => ?_
         dsimp only [List.set, Nat.zero_add, Nat.reduceAdd] at H
         refine t_tail H rfl (rem' := []) rfl ?_
         refine t_nil (fun w H => ?_)
         rw [show max (p.done : Int) (d : Int) = ((max p.done d : Nat) : Int) by omega] at H
         exact ⟨((((S.nil.cons S 8 rfl).cons S 2 rfl).cons S 1 rfl).cons S 0 rfl), H.takeT [Cel (c.pb j) 58 [.int .i64 p.term, .int .i64 p.vote, v, .bool p.down, .string ⟨#[102, 111, 108, 108, 111, 119, 101, 114]⟩, .int .i64 ((max p.done d : Nat) : Int), .map (z.p j).vb, .map (z.p j).ab], OMap (z.p j).vb eB (z.p j).vm (z.p j).vc, OMap (z.p j).ab kI (z.p j).am (z.p j).ac, PRest c n g z j, MapA c.qb kQ eV z.qm z.qc, QuesA n z.qm z.qv, BagA 2 Ent.enc z.bag] (GCel c :: GPts c n :: l)⟩
      rintro a w ⟨S, H⟩
      simp only [List.cons_append, List.nil_append] at H
      refine g_region ?_
      refine gm S fun a S => ?_
      refine gy rfl rfl rfl S (y_nilCheck rfl S rfl) fun a S => ?_
      refine gy rfl rfl rfl S (y_faddrb rfl Ffo58_2 S rfl) fun a S => ?_
      refine gy rfl rfl rfl S (y_load rfl Fsca54 S H rfl rfl) fun a S => ?_
      refine gy rfl rfl rfl S (y_lens rfl Try.underlying54 S H rfl) fun a S => ?_
      refine ga S fun a S => ?_
      refine gnt ?_
      first
      | (have hown : t = p.term := by simpa using h5
         exact ⟨_, _, _, .inl ⟨hown, rfl, rfl, rfl⟩, (((((S.nil.cons S 15 rfl).cons S 8 rfl).cons S 2 rfl).cons S 1 rfl).cons S 0 rfl), H.takeT [Cel (c.pb j) 58 [.int .i64 p.term, .int .i64 p.vote, v, .bool p.down, .string ⟨#[102, 111, 108, 108, 111, 119, 101, 114]⟩, .int .i64 ((max p.done d : Nat) : Int), .map (z.p j).vb, .map (z.p j).ab], OMap (z.p j).vb eB (z.p j).vm (z.p j).vc, OMap (z.p j).ab kI (z.p j).am (z.p j).ac, PRest c n g z j, MapA c.qb kQ eV z.qm z.qc, QuesA n z.qm z.qv, BagA 2 Ent.enc z.bag] (GCel c :: GPts c n :: l)⟩)
      | (have hown : t ≠ p.term := by simpa using h5
         exact ⟨_, _, _, .inr ⟨hown, rfl, rfl, rfl⟩, (((((S.nil.cons S 15 rfl).cons S 8 rfl).cons S 2 rfl).cons S 1 rfl).cons S 0 rfl), H.takeT [PCel (c.pb j) (z.p j) p, OMap (z.p j).vb eB (z.p j).vm (z.p j).vc, OMap (z.p j).ab kI (z.p j).am (z.p j).ac, PRest c n g z j, MapA c.qb kQ eV z.qm z.qc, QuesA n z.qm z.qv, BagA 2 Ent.enc z.bag] (GCel c :: GPts c n :: l)⟩)
     ·have h5p := h5; try simp only [DL] at h5p
      refine g_skip ?_
      refine n_then ?_
      first
      | (have hown : t = p.term := by simpa using h5
         exact ⟨_, _, _, .inl ⟨hown, rfl, rfl, rfl⟩, (((((S.nil.cons S 15 rfl).cons S 8 rfl).cons S 2 rfl).cons S 1 rfl).cons S 0 rfl), H.takeT [Cel (c.pb j) 58 [.int .i64 p.term, .int .i64 p.vote, v, .bool p.down, .string ⟨#[102, 111, 108, 108, 111, 119, 101, 114]⟩, .int .i64 ((max p.done d : Nat) : Int), .map (z.p j).vb, .map (z.p j).ab], OMap (z.p j).vb eB (z.p j).vm (z.p j).vc, OMap (z.p j).ab kI (z.p j).am (z.p j).ac, PRest c n g z j, MapA c.qb kQ eV z.qm z.qc, QuesA n z.qm z.qv, BagA 2 Ent.enc z.bag] (GCel c :: GPts c n :: l)⟩)
      | (have hown : t ≠ p.term := by simpa using h5
         exact ⟨_, _, _, .inr ⟨hown, rfl, rfl, rfl⟩, (((((S.nil.cons S 15 rfl).cons S 8 rfl).cons S 2 rfl).cons S 1 rfl).cons S 0 rfl), H.takeT [PCel (c.pb j) (z.p j) p, OMap (z.p j).vb eB (z.p j).vm (z.p j).vc, OMap (z.p j).ab kI (z.p j).am (z.p j).ac, PRest c n g z j, MapA c.qb kQ eV z.qm z.qc, QuesA n z.qm z.qv, BagA 2 Ent.enc z.bag] (GCel c :: GPts c n :: l)⟩)
    rintro a w ⟨p', x', m, hc, S, H⟩
    simp only [List.cons_append, List.nil_append] at H
    have hp1 : p'.term = p.term ∧ x'.Fits p' ∧ (x'.lv, p'.log) ∈ z.bag ∧ (p'.role = 1 → x'.vb ≠ none) ∧ (p'.role = 2 → x'.ab ≠ none) := by
      rcases hc with ⟨_, e1, e2, _⟩ | ⟨_, e1, e2, _⟩
      · rw [e1, e2]; exact ⟨rfl, ⟨hpf.v, hpf.a⟩, hv, (fun h => by cases h), (fun h => by cases h)⟩
      · rw [e1, e2]; exact ⟨rfl, hpf, by rw [hpl]; exact hz.lg j hj, hpv, hpa⟩
    refine g_region ?_
    refine gm S fun a S => ?_
    refine gm S fun a S => ?_
    refine gm S fun a S => ?_
    refine gm S fun a S => ?_
    refine gy rfl rfl rfl S (y_nilCheck rfl S rfl) fun a S => ?_
    refine gy rfl rfl rfl S (y_faddrb rfl Ffo58_0 S rfl) fun a S => ?_
    refine gy rfl rfl rfl S (y_load rfl Fsca3 S H rfl rfl) fun a S => ?_
    refine gm S fun a S => ?_
    refine gy rfl rfl rfl S (y_buildf rfl Fbld95 S rfl (idx := [0, 1]) rfl (cs := [_, _]) rfl) fun a S => ?_
    refine gy rfl rfl rfl S (y_mkiface rfl Fnif95 S rfl) fun a S => ?_
    refine wl_of (op_call (wn rfl) rfl rfl S (co_func rfl Try.call40 S rfl) (send_spec c n (g.put j p') { z with p := fun v => if v = j then x' else z.p v, bag := z.bag } j i (.ack p'.term m, v) _ (putIn x' p' (H.takeT [PCel (c.pb j) x' p', OMap x'.vb eB x'.vm x'.vc, OMap x'.ab kI x'.am x'.ac, PRest c n g z j, MapA c.qb kQ eV z.qm z.qc, QuesA n z.qm z.qv, BagA 2 Ent.enc z.bag] (GCel c :: GPts c n :: l)) hz hj hp1.2.1 (fun _ h => h) hz.cp hp1.2.2.1 hp1.2.2.2.1 hp1.2.2.2.2) hj hi (fun _ _ _ e => by cases e) rfl (by have := hq i; show (g.q j i).length ≤ _; omega)) fun v w hc a S => ?_)
    obtain ⟨rfl, z', _, H⟩ := hc
    
    refine gl_nil ?_
    refine n_block ?_
    refine ret0n rfl S ?_
    refine ⟨rfl, z', ?_⟩
    unfold Grp.receive
    dsimp only [Msg.term]
    rw [← hp]
    rcases hc with ⟨e0, e1, e2, e3⟩ | ⟨e0, e1, e2, e3⟩
    · rw [if_pos e0]; rw [e1, e3] at H; exact H
    · rw [if_neg e0]; rw [e1, e3] at H; exact H
   ·have h4p := h4; try simp only [DL] at h4p
    all_goals (
      exact absurd h4 (by simp))
theorem receive_any {M : Nat → Prop} {u0 : World} {l : List Atom} (c : GC) (n : Nat) (g : Grp) (z : GV) (i j : Nat) (m : MV) (w0 : World) (h0 : HSat M u0 (GrpA c n g z :: GCel c :: GPts c n :: l) w0) (hi : i < n) (hj : j < n) (hq : ∀ b, (g.q j b).length ≤ 900000) (hlen : (g.at_ j).log.length ≤ 200000) (hm : ∀ t l d, m.1 = .share t l d → (m.2, l) ∈ z.bag ∧ l.length ≤ 200000) :
    Ret Try.prog 26 #[.pointer (some ⟨c.b, 0, none⟩), .int .i64 (i : Int), .int .i64 (j : Int), msgV m.1 m.2] w0 (fun u w => u = .tuple #[] ∧ ∃ z', HSat M u0 (GrpA c n (g.receive i j m.1) z' :: GCel c :: GPts c n :: l) w) := by
  obtain ⟨x, v⟩ := m
  cases x with
  | ask t la k => exact receive_ask c n g z i j t la k v w0 h0 hi hj hq hlen
  | vote t b => exact receive_vote c n g z i j t b v w0 h0 hi hj hq hlen
  | share t lg d => exact receive_share c n g z i j t lg d v w0 h0 hi hj hq hlen (hm t lg d rfl).1 (hm t lg d rfl).2
  | ack t k => exact receive_ack c n g z i j t k v w0 h0 hi hj hq hlen
/-- (*foyer/replica.Group).Crash -/
theorem crash_spec {M : Nat → Prop} {u0 : World} {l : List Atom} (c : GC) (n : Nat) (g : Grp) (z : GV) (i : Nat) (b : Bool) (w0 : World) (h0 : HSat M u0 (GrpA c n g z :: GCel c :: GPts c n :: l) w0) :
    Ret Try.prog 18 #[.pointer (some ⟨c.b, 0, none⟩), .int .i64 (i : Int), .bool b] w0 (fun u w => u = .int .i64 (crashE g i b) ∧ ∃ z', HSat M u0 (GrpA c n (g.crash i b) z' :: GCel c :: GPts c n :: l) w) := by
 refine ret_of_wp (nt := 35) Try.func18 rfl rfl rfl (fl := [(0, .pointer (some ⟨c.b, 0, none⟩)), (1, .int .i64 (i : Int)), (2, .bool b)]) rfl (fun a S => ?_)
 have H := h0
 have hz := (grpOut H).2
 refine gsr ?_
 refine ga S fun a S => ?_
 refine gnt ?_
 refine g_seq ?_
 refine gsr ?_
 refine gm S fun a S => ?_
 refine gm S fun a S => ?_
 refine wl_of (op_call (wn rfl) rfl rfl S (co_func rfl Try.call25 S rfl) (has_spec c.b n c.pv (.map (some c.qb)) c.pb (i : Int) _ (H.rd c.b) (H.sl c.pv)) fun v w hc a S => ?_)
 obtain ⟨rfl, he⟩ := hc
 have H := H.ext he
 rw [hasB_nat] at S
 refine gy rfl rfl rfl S (y_not rfl S rfl) fun a S => ?_
 refine gnt ?_
 refine c_if S rfl (fun h1 => ?_) (fun h1 => ?_)
 ·have h1p := h1; try simp only [DL] at h1p
  have hno : ¬ i < g.n := by rw [hz.en]; simpa using h1
  refine gsr ?_
  refine ga S fun a S => ?_
  refine gnt ?_
  have S := (((S.nil.cons S 2 rfl).cons S 1 rfl).cons S 0 rfl).cons S 6 rfl
  refine g_ret ?_
  refine r_then (ret1 rfl S rfl ?_)
  exact ⟨by unfold crashE; rw [if_neg hno], z, by unfold Grp.crash; rw [if_neg (fun e => hno e.1)]; exact H⟩
 ·have h1p := h1; try simp only [DL] at h1p
  have hi : i < n := by simpa using h1
  have hin : i < g.n := by rw [hz.en]; exact hi
  have H := (grpOut H).1
  obtain ⟨H, hf⟩ := peerOut H hi
  refine g_skip ?_
  refine n_then ?_
  have S := (((S.nil.cons S 2 rfl).cons S 1 rfl).cons S 0 rfl).cons S 6 rfl
  refine gsr ?_
  refine gm S fun a S => ?_
  refine gy rfl rfl rfl S (y_nilCheck rfl S rfl) fun a S => ?_
  refine gy rfl rfl rfl S (y_faddrb rfl Ffo52_0 S rfl) fun a S => ?_
  refine gy rfl rfl rfl S (y_load rfl Fsca50 S H rfl rfl) fun a S => ?_
  refine gm S fun a S => ?_
  refine gy rfl rfl rfl S (y_iaddrn rfl Try.underlying50 Fsiz53 S H rfl rfl (by first | assumption | omega | (simp only [List.length_range]; omega) | (simp only [List.length_replicate]; omega) | (simp only [List.length_cons]; omega))) fun a S => ?_
  refine gy rfl rfl rfl S ((y_loadsD c.pv 0 rfl Fsca53 S H rfl (by simp only [List.length_range]; omega) (ldPt hi))) fun a S => ?_
  refine ga S fun a S => ?_
  refine gnt ?_
  have S := ((S.nil.cons S 2 rfl).cons S 6 rfl).cons S 7 rfl
  refine g_seq ?_
  refine gsr ?_
  refine gm S fun a S => ?_
  refine gy rfl rfl rfl S (y_nilCheck rfl S rfl) fun a S => ?_
  refine gy rfl rfl rfl S (y_faddrb rfl Ffo58_3 S rfl) fun a S => ?_
  refine gy rfl rfl rfl S (y_load rfl Fsca4 S H rfl rfl) fun a S => ?_
  refine gm S fun a S => ?_
  refine gy rfl rfl rfl S (y_eqb rfl Try.underlying4 S rfl rfl) fun a S => ?_
  refine gnt ?_
  have S := (((S.nil.cons S 2 rfl).cons S 6 rfl).cons S 7 rfl).cons S 24 rfl
  refine c_if S rfl (fun h2 => ?_) (fun h2 => ?_)
  ·have h2p := h2; try simp only [DL] at h2p
   have hd : (g.at_ i).down = b := by simpa using h2
   refine gsr ?_
   refine ga S fun a S => ?_
   refine gnt ?_
   refine g_ret ?_
   refine r_then (ret1 rfl S rfl ?_)
   exact ⟨by unfold crashE; rw [if_pos hin, if_pos hd], _, by unfold Grp.crash; rw [if_neg (fun e => e.2 hd)]; exact putSame (H.takeT [PCel (c.pb i) (z.p i) (g.at_ i), OMap (z.p i).vb eB (z.p i).vm (z.p i).vc, OMap (z.p i).ab kI (z.p i).am (z.p i).ac, PRest c n g z i, MapA c.qb kQ eV z.qm z.qc, QuesA n z.qm z.qv, BagA 2 Ent.enc z.bag] (GCel c :: GPts c n :: l)) hz hi hf (fun _ h => h) hz.cp⟩
  ·have h2p := h2; try simp only [DL] at h2p
   have hd : (g.at_ i).down ≠ b := by simpa using h2
   refine g_skip ?_
   refine n_then ?_
   refine gsr ?_
   refine gm S fun a S => ?_
   refine gm S fun a S => ?_
   refine gm S fun a S => ?_
   refine gm S fun a S => ?_
   refine gy rfl rfl rfl S (y_nilCheck rfl S rfl) fun a S => ?_
   refine gy rfl rfl rfl S (y_faddrb rfl Ffo58_3 S rfl) fun a S => ?_
   refine wl_of (op_store (wn rfl) rfl rfl S H rfl rfl rfl Fsiz4 rfl fun a w S H => ?_)
   dsimp only [List.set, Nat.zero_add, Nat.reduceAdd] at H
   refine gy rfl rfl rfl S (y_nilCheck rfl S rfl) fun a S => ?_
   refine gy rfl rfl rfl S (y_faddrb rfl Ffo58_4 S rfl) fun a S => ?_
   refine wl_of (op_store (wn rfl) rfl rfl S H rfl rfl rfl Fsiz9 rfl fun a w S H => ?_)
   dsimp only [List.set, Nat.zero_add, Nat.reduceAdd] at H
   refine gy rfl rfl rfl S (y_nilCheck rfl S rfl) fun a S => ?_
   refine gy rfl rfl rfl S (y_faddrb rfl Ffo58_5 S rfl) fun a S => ?_
   refine wl_of (op_store (wn rfl) rfl rfl S H rfl rfl rfl Fsiz3 rfl fun a w S H => ?_)
   dsimp only [List.set, Nat.zero_add, Nat.reduceAdd] at H
   refine gnt ?_
   have S := S.nil.cons S 6 rfl
   refine gsr ?_
   refine ga S fun a S => ?_
   refine gnt ?_
   refine g_ret ?_
   refine ret1 rfl S rfl ?_
   exact ⟨by unfold crashE; rw [if_pos hin, if_neg hd], _, by unfold Grp.crash; rw [if_pos ⟨hin, hd⟩]; exact putIn (z.p i) { g.at_ i with down := b, role := 0, done := 0 } (H.takeT [Cel (c.pb i) 58 [.int .i64 (g.at_ i).term, .int .i64 (g.at_ i).vote, (z.p i).lv, .bool b, .string ⟨#[102, 111, 108, 108, 111, 119, 101, 114]⟩, .int .i64 0, .map (z.p i).vb, .map (z.p i).ab], OMap (z.p i).vb eB (z.p i).vm (z.p i).vc, OMap (z.p i).ab kI (z.p i).am (z.p i).ac, PRest c n g z i, MapA c.qb kQ eV z.qm z.qc, QuesA n z.qm z.qv, BagA 2 Ent.enc z.bag] (GCel c :: GPts c n :: l)) hz hi ⟨hf.v, hf.a⟩ (fun _ h => h) hz.cp (hz.lg i hi) (fun h => by cases h) (fun h => by cases h)⟩
set_option maxHeartbeats 1000000 in
/-- (*foyer/replica.Group).Elect -/
theorem elect_spec {M : Nat → Prop} {u0 : World} {l : List Atom} (c : GC) (n : Nat) (g : Grp) (z : GV) (i : Nat) (w0 : World) (h0 : HSat M u0 (GrpA c n g z :: GCel c :: GPts c n :: l) w0) (hF : Fit g) :
    Ret Try.prog 14 #[.pointer (some ⟨c.b, 0, none⟩), .int .i64 (i : Int)] w0 (fun u w => u = .int .i64 (electE g i) ∧ ∃ z', HSat M u0 (GrpA c n (g.elect i) z' :: GCel c :: GPts c n :: l) w) := by
 refine ret_of_wp (nt := 60) Try.func14 rfl rfl rfl (fl := [(0, .pointer (some ⟨c.b, 0, none⟩)), (1, .int .i64 (i : Int))]) rfl (fun a S => ?_)
 have H := h0
 have hz := (grpOut H).2
 refine gsr ?_
 refine ga S fun a S => ?_
 refine gnt ?_
 refine g_seq ?_
 refine gsr ?_
 refine gm S fun a S => ?_
 refine gm S fun a S => ?_
 refine wl_of (op_call (wn rfl) rfl rfl S (co_func rfl Try.call25 S rfl) (has_spec c.b n c.pv (.map (some c.qb)) c.pb (i : Int) _ (H.rd c.b) (H.sl c.pv)) fun v w hc a S => ?_)
 obtain ⟨rfl, he⟩ := hc
 have H := H.ext he
 rw [hasB_nat] at S
 refine gy rfl rfl rfl S (y_not rfl S rfl) fun a S => ?_
 refine gnt ?_
 refine c_if S rfl (fun h1 => ?_) (fun h1 => ?_)
 ·have h1p := h1; try simp only [DL] at h1p
  have hno : ¬ i < g.n := by rw [hz.en]; simpa using h1
  refine gsr ?_
  refine ga S fun a S => ?_
  refine gnt ?_
  have S := ((S.nil.cons S 1 rfl).cons S 0 rfl).cons S 4 rfl
  refine g_ret ?_
  refine r_then (ret1 rfl S rfl ?_)
  exact ⟨by unfold electE; rw [if_neg hno], z, by unfold Grp.elect; rw [if_neg (fun e => hno e.1)]; exact H⟩
 ·have h1p := h1; try simp only [DL] at h1p
  have hi : i < n := by simpa using h1
  have hin : i < g.n := by rw [hz.en]; exact hi
  have H := (grpOut H).1
  obtain ⟨H, hf⟩ := peerOut H hi
  have hlo := hF.lim.log i hin
  have htm := hF.lim.tm i hin
  have htm0 : 0 ≤ (g.at_ i).term := by obtain ⟨γ, R⟩ := hF.ri; exact R.term0 hin
  have iS : ∀ l, HasSl (BagA 2 Ent.enc z.bag :: l) (z.p i).lv 2 Ent Ent.enc (g.at_ i).log := bagSl (hz.lg i hi)
  refine g_skip ?_
  refine n_then ?_
  have S := ((S.nil.cons S 1 rfl).cons S 0 rfl).cons S 4 rfl
  refine gsr ?_
  refine gm S fun a S => ?_
  refine gy rfl rfl rfl S (y_nilCheck rfl S rfl) fun a S => ?_
  refine gy rfl rfl rfl S (y_faddrb rfl Ffo52_0 S rfl) fun a S => ?_
  refine gy rfl rfl rfl S (y_load rfl Fsca50 S H rfl rfl) fun a S => ?_
  refine gm S fun a S => ?_
  refine gy rfl rfl rfl S (y_iaddrn rfl Try.underlying50 Fsiz53 S H rfl rfl (by first | assumption | omega | (simp only [List.length_range]; omega) | (simp only [List.length_replicate]; omega) | (simp only [List.length_cons]; omega))) fun a S => ?_
  refine gy rfl rfl rfl S ((y_loadsD c.pv 0 rfl Fsca53 S H rfl (by simp only [List.length_range]; omega) (ldPt hi))) fun a S => ?_
  refine ga S fun a S => ?_
  refine gnt ?_
  have S := (((S.nil.cons S 1 rfl).cons S 0 rfl).cons S 4 rfl).cons S 5 rfl
  refine g_seq ?_
  refine gsr ?_
  refine gm S fun a S => ?_
  refine gy rfl rfl rfl S (y_nilCheck rfl S rfl) fun a S => ?_
  refine gy rfl rfl rfl S (y_faddrb rfl Ffo58_3 S rfl) fun a S => ?_
  refine gy rfl rfl rfl S (y_load rfl Fsca4 S H rfl rfl) fun a S => ?_
  refine gnt ?_
  refine c_if S rfl (fun h2 => ?_) (fun h2 => ?_)
  ·have h2p := h2; try simp only [DL] at h2p
   have hd : (g.at_ i).down = true := by simpa using h2
   refine gsr ?_
   refine ga S fun a S => ?_
   refine gnt ?_
   have S := (((S.nil.cons S 1 rfl).cons S 0 rfl).cons S 5 rfl).cons S 4 rfl
   refine g_ret ?_
   refine r_then (ret1 rfl S rfl ?_)
   exact ⟨by unfold electE; rw [if_pos hin, if_pos hd], _, by unfold Grp.elect; rw [if_neg (fun e => by rw [hd] at e; cases e.2)]; exact putSame (H.takeT [PCel (c.pb i) (z.p i) (g.at_ i), OMap (z.p i).vb eB (z.p i).vm (z.p i).vc, OMap (z.p i).ab kI (z.p i).am (z.p i).ac, PRest c n g z i, MapA c.qb kQ eV z.qm z.qc, QuesA n z.qm z.qv, BagA 2 Ent.enc z.bag] (GCel c :: GPts c n :: l)) hz hi hf (fun _ h => h) hz.cp⟩
  ·have h2p := h2; try simp only [DL] at h2p
   have hd : (g.at_ i).down = false := by simpa using h2
   refine g_skip ?_
   refine n_then ?_
   have S := (((S.nil.cons S 1 rfl).cons S 0 rfl).cons S 4 rfl).cons S 5 rfl
   refine gsr ?_
   refine gm S fun a S => ?_
   refine gy rfl rfl rfl S (y_nilCheck rfl S rfl) fun a S => ?_
   refine gy rfl rfl rfl S (y_faddrb rfl Ffo58_0 S rfl) fun a S => ?_
   refine gy rfl rfl rfl S (y_load rfl Fsca3 S H rfl rfl) fun a S => ?_
   refine gy rfl rfl rfl S (y_add rfl S rfl rfl (by omega)) fun a S => ?_
   refine gy rfl rfl rfl S (y_nilCheck rfl S rfl) fun a S => ?_
   refine gy rfl rfl rfl S (y_faddrb rfl Ffo58_0 S rfl) fun a S => ?_
   refine wl_of (op_store (wn rfl) rfl rfl S H rfl rfl rfl Fsiz3 rfl fun a w S H => ?_)
   dsimp only [List.set, Nat.zero_add, Nat.reduceAdd] at H
   refine gnt ?_
   have S := (((S.nil.cons S 1 rfl).cons S 0 rfl).cons S 4 rfl).cons S 5 rfl
   refine gsr ?_
   refine gm S fun a S => ?_
   refine gm S fun a S => ?_
   refine gm S fun a S => ?_
   refine gm S fun a S => ?_
   refine wl_of (op_makeMap (fun n : Int => .int .i64 n) (fun b : Bool => .bool b) (wn rfl) rfl rfl rfl S H fun b32 a w S H => ?_)
   refine gm S fun a S => ?_
   refine wl_of (op_insert ((i : Int)) (true) (wn rfl) rfl rfl Try.underlying55 S H rfl (keyOK_int Try.underlying3) (by exact rfl) (by exact rfl) fun a w S H => ?_)
   refine gm S fun a S => ?_
   refine gy rfl rfl rfl S (y_nilCheck rfl S rfl) fun a S => ?_
   refine gy rfl rfl rfl S (y_faddrb rfl Ffo58_1 S rfl) fun a S => ?_
   refine wl_of (op_store (wn rfl) rfl rfl S H rfl rfl rfl Fsiz3 rfl fun a w S H => ?_)
   dsimp only [List.set, Nat.zero_add, Nat.reduceAdd] at H
   refine gy rfl rfl rfl S (y_nilCheck rfl S rfl) fun a S => ?_
   refine gy rfl rfl rfl S (y_faddrb rfl Ffo58_4 S rfl) fun a S => ?_
   refine wl_of (op_store (wn rfl) rfl rfl S H rfl rfl rfl Fsiz9 rfl fun a w S H => ?_)
   dsimp only [List.set, Nat.zero_add, Nat.reduceAdd] at H
   refine gy rfl rfl rfl S (y_nilCheck rfl S rfl) fun a S => ?_
   refine gy rfl rfl rfl S (y_faddrb rfl Ffo58_6 S rfl) fun a S => ?_
   refine wl_of (op_store (wn rfl) rfl rfl S H rfl rfl rfl Fsiz55 rfl fun a w S H => ?_)
   dsimp only [List.set, Nat.zero_add, Nat.reduceAdd] at H
   refine gnt ?_
   have S := (((S.nil.cons S 1 rfl).cons S 0 rfl).cons S 4 rfl).cons S 5 rfl
   refine g_seq ?_
   refine region_st (loud := [15]) (tails := [15]) (free := []) [0, 1, 2, 3, 4, 5, 6, 7, 8, 9, 10, 11, 12, 13, 14, 15] [] Fmo (by kernel_rfl) (by kernel_rfl) rfl H ?_
   refine m_w rfl rfl (wn rfl) rfl rfl S (fun w H => y_move rfl S rfl) fun a S => ?_
   refine m_w rfl rfl (wn rfl) rfl rfl S (fun w H => y_move rfl S rfl) fun a S => ?_
   refine m_w rfl rfl (wn rfl) rfl rfl S (fun w H => y_move rfl S rfl) fun a S => ?_
   refine m_w rfl rfl (wn rfl) rfl rfl S (fun w H => y_nilCheck rfl S rfl) fun a S => ?_
   refine m_w rfl rfl (wn rfl) rfl rfl S (fun w H => y_faddrb rfl Ffo58_0 S rfl) fun a S => ?_
   refine m_w rfl rfl (wn rfl) rfl rfl S (fun w H => y_load rfl Fsca3 S H rfl rfl) fun a S => ?_
   refine m_w rfl rfl (wn rfl) rfl rfl S (fun w H => y_move rfl S rfl) fun a S => ?_
   refine m_c rfl rfl (wn rfl) rfl rfl S (fun w => co_func rfl Try.call30 S rfl) (fun w H => last_spec (c.pb i) ({ z.p i with vb := some b32, vm := upd (fun _ => none) (i : Int) true, vc := 1 } : PV) ((g.at_ i).ask i) w (H.rd (c.pb i)) (H.sl (z.p i).lv)) fun a S => ?_
   refine m_w rfl rfl (wn rfl) rfl rfl S (fun w H => y_move rfl S rfl) fun a S => ?_
   refine m_w rfl rfl (wn rfl) rfl rfl S (fun w H => y_nilCheck rfl S rfl) fun a S => ?_
   refine m_w rfl rfl (wn rfl) rfl rfl S (fun w H => y_faddrb rfl Ffo58_2 S rfl) fun a S => ?_
   refine m_w rfl rfl (wn rfl) rfl rfl S (fun w H => y_load rfl Fsca54 S H rfl rfl) fun a S => ?_
   refine m_w rfl rfl (wn rfl) rfl rfl S (fun w H => y_lens rfl Try.underlying54 S H rfl) fun a S => ?_
   refine m_w rfl rfl (wn rfl) rfl rfl S (fun w H => y_buildf rfl Fbld81 S rfl (idx := [0, 1, 2]) rfl (cs := [_, _, _]) rfl) fun a S => ?_
   refine m_w rfl rfl (wn rfl) rfl rfl S (fun w H => y_mkiface rfl Fnif81 S rfl) fun a S => ?_
   refine m_l rfl rfl (fun w H => op_call (wn rfl) rfl rfl S (co_func rfl Try.call29 S rfl) (all_spec c n (g.put i ((g.at_ i).ask i)) { z with p := fun v => if v = i then ({ z.p i with vb := some b32, vm := upd (fun _ => none) (i : Int) true, vc := 1 } : PV) else z.p v, bag := z.bag } i (.ask ((g.at_ i).term + 1) (lastT (g.at_ i).log) ((g.at_ i).log.length : Int), .slice none 0 0) _ (putIn ({ z.p i with vb := some b32, vm := upd (fun _ => none) (i : Int) true, vc := 1 } : PV) ((g.at_ i).ask i) (H.takeT [Cel (c.pb i) 58 [.int .i64 ((g.at_ i).term + 1), .int .i64 (i : Int), (z.p i).lv, .bool (g.at_ i).down, .string ⟨#[99, 97, 110, 100, 105, 100, 97, 116, 101]⟩, .int .i64 ((g.at_ i).done : Int), .map (some b32), .map (z.p i).ab], MapA b32 kI eB (upd (fun _ => none) (i : Int) true) (if ((fun _ => none : Int → Option Bool) (i : Int)).isSome = true then 0 else 0 + 1), OMap (z.p i).ab kI (z.p i).am (z.p i).ac, PRest c n g z i, MapA c.qb kQ eV z.qm z.qc, QuesA n z.qm z.qv, BagA 2 Ent.enc z.bag] (GCel c :: GPts c n :: l)) hz hi ⟨fun k => by rw [updI]; show _ = decide (k = i); by_cases e : k = i <;> simp [e], hf.a⟩ (fun _ h => h) hz.cp (hz.lg i hi) (fun _ h => by cases h) (fun h => by cases h)) hi (fun _ _ _ e => by cases e) rfl (fun j => by have := hF.len i j; show (g.q i j).length ≤ _; omega)) fun v w hc a S => ?_)
   obtain ⟨rfl, z1, _, H⟩ := hc
   
   refine m_tail H rfl ?_
   refine m_nil (fun w H => ?_)
   refine n_then ?_
   have S := ((S.nil.cons S 1 rfl).cons S 0 rfl).cons S 4 rfl
   refine gsr ?_
   refine gm S fun a S => ?_
   refine gm S fun a S => ?_
   refine wl_of (op_call (wn rfl) rfl rfl S (co_func rfl Try.call31 S rfl) (lead_spec c n ((g.put i ((g.at_ i).ask i)).all i (.ask ((g.at_ i).term + 1) (lastT (g.at_ i).log) ((g.at_ i).log.length : Int))) z1 i _ H hi (by rw [Grp.all_at, Grp.put_same _ hin]; rfl) (fun j => Nat.le_trans (all_q_len _ _ _ i j) (by have := hF.len i j; show (g.q i j).length + 1 ≤ _; omega)) (by rw [Grp.all_at, Grp.put_same _ hin]; show (g.at_ i).log.length ≤ _; omega)) fun v w hc a S => ?_)
   obtain ⟨rfl, z2, H⟩ := hc
   
   refine gnt ?_
   have S := S.nil.cons S 4 rfl
   refine gsr ?_
   refine ga S fun a S => ?_
   refine gnt ?_
   refine g_ret ?_
   refine ret1 rfl S rfl ?_
   exact ⟨by unfold electE; rw [if_pos hin, if_neg (by simp [hd])], z2, by unfold Grp.elect; rw [if_pos ⟨hin, hd⟩]; exact H⟩
set_option maxHeartbeats 1000000 in
/-- (*foyer/replica.Group).Deliver -/
theorem deliver_spec {M : Nat → Prop} {u0 : World} {l : List Atom} (c : GC) (n : Nat) (g : Grp) (z : GV) (i j : Nat) (lost : Bool) (w0 : World) (h0 : HSat M u0 (GrpA c n g z :: GCel c :: GPts c n :: l) w0) (hF : Fit g) :
    Ret Try.prog 12 #[.pointer (some ⟨c.b, 0, none⟩), .int .i64 (i : Int), .int .i64 (j : Int), .bool lost] w0 (fun u w => u = .bool (g.deliver i j lost).2 ∧ ∃ z', HSat M u0 (GrpA c n ((g.deliver i j lost).1) z' :: GCel c :: GPts c n :: l) w) := by
 refine ret_of_wp (nt := 67) Try.func12 rfl rfl rfl (fl := [(0, .pointer (some ⟨c.b, 0, none⟩)), (1, .int .i64 (i : Int)), (2, .int .i64 (j : Int)), (3, .bool lost)]) rfl (fun a S => ?_)
 have H := h0
 have hz := (grpOut H).2
 refine gsr ?_
 refine ga S fun a S => ?_
 refine gnt ?_
 refine g_seq ?_
 refine gsr ?_
 refine gm S fun a S => ?_
 refine gm S fun a S => ?_
 refine wl_of (op_call (wn rfl) rfl rfl S (co_func rfl Try.call25 S rfl) (has_spec c.b n c.pv (.map (some c.qb)) c.pb (i : Int) _ (H.rd c.b) (H.sl c.pv)) fun v w hc a S => ?_)
 obtain ⟨rfl, he⟩ := hc
 have H := H.ext he
 rw [hasB_nat] at S
 refine gy rfl rfl rfl S (y_not rfl S rfl) fun a S => ?_
 refine gm S fun a S => ?_
 refine' wl_or 4 15 rfl S H rfl rfl rfl rfl rfl rfl rfl (fun _ S => (wn rfl)) (fun h1 kk => ?yh1) (fun a w S H => ?_)
 case yh1 =>
  have h1p := h1; try simp only [DL] at h1p
  refine gz 15 h1 S rfl rfl rfl rfl rfl rfl (y_move rfl S rfl) fun a S => ?_
  refine gz 15 h1 S rfl rfl rfl rfl rfl rfl (y_move rfl S rfl) fun a S => ?_
  refine wl_of (op_call (wg' 15 rfl rfl S rfl h1 rfl) rfl rfl S (co_func rfl Try.call25 S rfl) (has_spec c.b n c.pv (.map (some c.qb)) c.pb (j : Int) _ (H.rd c.b) (H.sl c.pv)) fun v w hc a S => ?_)
  obtain ⟨rfl, he⟩ := hc
  have H := H.ext he
  rw [hasB_nat] at S
  refine gz 15 h1 S rfl rfl rfl rfl rfl rfl (y_not rfl S rfl) fun a S => ?_
  refine gy rfl rfl rfl S (y_or' rfl h1 S rfl rfl) fun a S => ?_
  exact kk _ _ (S.join 5 20 rfl rfl) H
 refine gm S fun a S => ?_
 refine' wl_or 3 21 rfl S H rfl rfl rfl rfl rfl rfl rfl (fun _ S => (wn rfl)) (fun h2 kk => ?yh2) (fun a w S H => ?_)
 case yh2 =>
  have h2p := h2; try simp only [DL] at h2p
  refine gz 21 h2 S rfl rfl rfl rfl rfl rfl (y_move rfl S rfl) fun a S => ?_
  refine gz 21 h2 S rfl rfl rfl rfl rfl rfl (y_move rfl S rfl) fun a S => ?_
  refine gz 21 h2 S rfl rfl rfl rfl rfl rfl (y_bin rfl S rfl rfl rfl) fun a S => ?_
  refine gy rfl rfl rfl S (y_or' rfl h2 S rfl rfl) fun a S => ?_
  exact kk _ _ (S.join 4 25 rfl rfl) H
 refine gnt ?_
 have S := (((((S.nil.cons S 3 rfl).cons S 2 rfl).cons S 1 rfl).cons S 0 rfl).cons S 8 rfl).cons S 25 rfl
 refine c_if S rfl (fun h3 => ?_) (fun h3 => ?_)
 ·have h3p := h3; try simp only [DL] at h3p
  have hno : ¬ (i < g.n ∧ j < g.n ∧ i ≠ j) := by rw [hz.en]; rintro ⟨e1, e2, e3⟩; rcases h3p with (h | h) | h; exact h e1; exact h e2; exact e3 (by omega)
  refine gsr ?_
  refine ga S fun a S => ?_
  refine gnt ?_
  refine g_ret ?_
  refine r_then (ret1 rfl S rfl ?_)
  exact ⟨by unfold Grp.deliver; rw [if_neg hno], z, by unfold Grp.deliver; rw [if_neg hno]; exact H⟩
 ·have h3p := h3; try simp only [DL] at h3p
  obtain ⟨hi, hj, hij⟩ : i < n ∧ j < n ∧ i ≠ j := by simp at h3; omega
  have hx : i < g.n ∧ j < g.n ∧ i ≠ j := by rw [hz.en]; exact ⟨hi, hj, hij⟩
  have H := (grpOut H).1
  have H := queOut (H.pick [QuesA n z.qm z.qv]) hi hj
  simp only [List.append_eq, List.nil_append] at H
  refine g_skip ?_
  refine n_then ?_
  refine gsr ?_
  refine gm S fun a S => ?_
  refine gm S fun a S => ?_
  refine gy rfl rfl rfl S (y_buildf rfl Fbld69 S rfl (idx := [0, 1]) rfl (cs := [.int .i64 (i : Int), .int .i64 (j : Int)]) rfl) fun a S => ?_
  refine wl_of (op_alloc (wn rfl) rfl rfl rfl S H Fzer69 fun b9 a w S H => ?_)
  refine wl_of (op_storea (wn rfl) rfl rfl S H rfl rfl rfl Fsiz69 rfl (cs' := [_, _]) rfl fun a w S H => ?_)
  refine gnt ?_
  have S := (((((S.nil.cons S 3 rfl).cons S 2 rfl).cons S 1 rfl).cons S 0 rfl).cons S 8 rfl).cons S 9 rfl
  refine g_seq ?_
  rcases hqm : z.qm ((i : Int), (j : Int)) with _ | v
  ·rw [hqm] at H
   have hnil : z.qv i j = [] := (H.pick [QueA none (z.qv i j)]).fact
   have hgq : g.q i j = [] := by rw [← hz.qe, hnil]; rfl
   refine region_st (loud := []) (tails := []) (free := []) [0, 1, 2, 3, 4, 5, 6] [] Fmo (by kernel_rfl) (by kernel_rfl) rfl H ?_
   refine m_w rfl rfl (wn rfl) rfl rfl S (fun w H => y_move rfl S rfl) fun a S => ?_
   refine m_w rfl rfl (wn rfl) rfl rfl S (fun w H => y_nilCheck rfl S rfl) fun a S => ?_
   refine m_w rfl rfl (wn rfl) rfl rfl S (fun w H => y_faddrb rfl Ffo52_1 S rfl) fun a S => ?_
   refine m_w rfl rfl (wn rfl) rfl rfl S (fun w H => y_load rfl Fsca49 S H rfl rfl) fun a S => ?_
   refine m_w rfl rfl (wn rfl) rfl rfl S (fun w H => y_load0 rfl S H rfl (by exact Fagg69)) fun a S => ?_
   refine m_w rfl rfl (wn rfl) rfl rfl S (fun w H => y_lookupE (((i : Int), (j : Int))) (.slice none 0 0) rfl Try.underlying49 Finf70 S H rfl (keyOK_a2 Try.underlying69 Try.underlying3 (by exact Fsz3)) (by exact rfl) (by exact rfl) rfl) fun a S => ?_
   simp only [hqm, Option.getD_none] at S
   refine m_w rfl rfl (wn rfl) rfl rfl S (fun w H => y_assign rfl S rfl) fun a S => ?_
   refine m_nil (fun w H => ?_)
   refine n_then ?_
   have S := ((((((S.nil.cons S 3 rfl).cons S 2 rfl).cons S 1 rfl).cons S 0 rfl).cons S 8 rfl).cons S 9 rfl).cons S 10 rfl
   refine g_seq ?_
   refine gsr ?_
   refine gm S fun a S => ?_
   refine gy rfl rfl rfl S (y_len rfl Try.underlying70 S rfl) fun a S => ?_
   refine gy rfl rfl rfl S (y_bin rfl S rfl rfl rfl) fun a S => ?_
   refine gnt ?_
   refine c_if S rfl (fun h4 => ?_) (fun h4 => ?_)
   ·have h4p := h4; try simp only [DL] at h4p
    refine gsr ?_
    refine ga S fun a S => ?_
    refine gnt ?_
    have S := ((((((S.nil.cons S 3 rfl).cons S 2 rfl).cons S 1 rfl).cons S 0 rfl).cons S 9 rfl).cons S 10 rfl).cons S 8 rfl
    refine g_ret ?_
    refine r_then (ret1 rfl S rfl ?_)
    refine ⟨by unfold Grp.deliver; rw [if_pos hx, hgq], ?_⟩
    unfold Grp.deliver; rw [if_pos hx, hgq]; exact ⟨z, queBack (H.takeT [QueA none (z.qv i j), QueR n i j z.qm z.qv, PrsA c n g z, MapA c.qb kQ eV z.qm z.qc, BagA 2 Ent.enc z.bag] (GCel c :: GPts c n :: l)) hz hi hj hqm⟩
   ·have h4p := h4; try simp only [DL] at h4p
    all_goals (
      exact absurd h4 (by simp))
  ·rw [hqm] at H
   have H := H.front (QueA (some v) (z.qv i j))
   have H : HSat _ _ (QSl 73 v encM (z.qv i j) :: _) _ := H
   refine region_st (loud := []) (tails := []) (free := []) [0, 1, 2, 3, 4, 5, 6] [] Fmo (by kernel_rfl) (by kernel_rfl) rfl H ?_
   refine m_w rfl rfl (wn rfl) rfl rfl S (fun w H => y_move rfl S rfl) fun a S => ?_
   refine m_w rfl rfl (wn rfl) rfl rfl S (fun w H => y_nilCheck rfl S rfl) fun a S => ?_
   refine m_w rfl rfl (wn rfl) rfl rfl S (fun w H => y_faddrb rfl Ffo52_1 S rfl) fun a S => ?_
   refine m_w rfl rfl (wn rfl) rfl rfl S (fun w H => y_load rfl Fsca49 S H rfl rfl) fun a S => ?_
   refine m_w rfl rfl (wn rfl) rfl rfl S (fun w H => y_load0 rfl S H rfl (by exact Fagg69)) fun a S => ?_
   refine m_w rfl rfl (wn rfl) rfl rfl S (fun w H => y_lookupE (((i : Int), (j : Int))) (.slice none 0 0) rfl Try.underlying49 Finf70 S H rfl (keyOK_a2 Try.underlying69 Try.underlying3 (by exact Fsz3)) (by exact rfl) (by exact rfl) rfl) fun a S => ?_
   simp only [hqm, Option.getD_some] at S
   refine m_w rfl rfl (wn rfl) rfl rfl S (fun w H => y_assign rfl S rfl) fun a S => ?_
   refine m_nil (fun w H => ?_)
   refine n_then ?_
   have S := ((((((S.nil.cons S 3 rfl).cons S 2 rfl).cons S 1 rfl).cons S 0 rfl).cons S 8 rfl).cons S 9 rfl).cons S 10 rfl
   refine g_seq ?_
   refine gsr ?_
   refine gm S fun a S => ?_
   refine gy rfl rfl rfl S (y_lens rfl Try.underlying70 S H rfl) fun a S => ?_
   refine gy rfl rfl rfl S (y_bin rfl S rfl rfl rfl) fun a S => ?_
   refine gnt ?_
   refine c_if S rfl (fun h5 => ?_) (fun h5 => ?_)
   ·have h5p := h5; try simp only [DL] at h5p
    have hgq : g.q i j = [] := by rw [← hz.qe]; have : z.qv i j = [] := List.eq_nil_of_length_eq_zero (by simpa using h5); rw [this]; rfl
    refine gsr ?_
    refine ga S fun a S => ?_
    refine gnt ?_
    have S := ((((((S.nil.cons S 3 rfl).cons S 2 rfl).cons S 1 rfl).cons S 0 rfl).cons S 9 rfl).cons S 10 rfl).cons S 8 rfl
    refine g_ret ?_
    refine r_then (ret1 rfl S rfl ?_)
    refine ⟨by unfold Grp.deliver; rw [if_pos hx, hgq], ?_⟩
    unfold Grp.deliver; rw [if_pos hx, hgq]; exact ⟨z, queBack (m := some v) (H.takeT [QSl 73 v encM (z.qv i j), QueR n i j z.qm z.qv, PrsA c n g z, MapA c.qb kQ eV z.qm z.qc, BagA 2 Ent.enc z.bag] (GCel c :: GPts c n :: l)) hz hi hj hqm⟩
   ·have h5p := h5; try simp only [DL] at h5p
    rcases hqv : z.qv i j with _ | ⟨mv, rv⟩
    · rw [hqv] at h5; simp at h5
    rw [hqv] at H
    have hgq : g.q i j = mv.1 :: rv.map (·.1) := by rw [← hz.qe, hqv]; rfl
    have H := peerOut (H.front (PrsA c n g z)) hj
    obtain ⟨H, hf⟩ := H
    refine g_skip ?_
    refine n_then ?_
    refine g_seq ?_
    refine region_st (loud := [7]) (tails := [7]) (free := []) [0, 1, 2, 3, 4, 5, 6, 7] [GCel c] Fmo (by kernel_rfl) (by kernel_rfl) rfl H ?_
    refine m_w rfl rfl (wn rfl) rfl rfl S (fun w H => y_move rfl S rfl) fun a S => ?_
    refine m_w rfl rfl (wn rfl) rfl rfl S (fun w H => y_nilCheck rfl S rfl) fun a S => ?_
    refine m_w rfl rfl (wn rfl) rfl rfl S (fun w H => y_faddrb rfl Ffo52_1 S rfl) fun a S => ?_
    refine m_w rfl rfl (wn rfl) rfl rfl S (fun w H => y_load rfl Fsca49 S H rfl rfl) fun a S => ?_
    refine m_w rfl rfl (wn rfl) rfl rfl S (fun w H => y_load0 rfl S H rfl (by exact Fagg69)) fun a S => ?_
    refine m_w rfl rfl (wn rfl) rfl rfl S (fun w H => y_move rfl S rfl) fun a S => ?_
    refine m_w rfl rfl (wn rfl) rfl rfl S (fun w H => y_sliceL rfl Try.underlying70 Fsiz73 S H rfl rfl (by first | assumption | omega | (simp only [List.length_range]; omega) | (simp only [List.length_replicate]; omega) | (simp only [List.length_cons]; omega))) fun a S => ?_
    refine m_l rfl rfl (fun w H => op_mapUpdate (((i : Int), (j : Int))) (_) (wn rfl) rfl rfl Try.underlying49 S H rfl (keyOK_a2 Try.underlying69 Try.underlying3 (by exact Fsz3)) (by exact rfl) (by exact rfl) fun a w S H => m_tail H rfl ?_)
    refine m_nil (fun w H => ?_)
    refine n_then ?_
    have S := (((((S.nil.cons S 3 rfl).cons S 2 rfl).cons S 1 rfl).cons S 0 rfl).cons S 8 rfl).cons S 10 rfl
    refine g_seq ?_
    refine gsr ?_
    refine gm S fun a S => ?_
    refine gy rfl rfl rfl S (y_not rfl S rfl) fun a S => ?_
    refine gm S fun a S => ?_
    refine' wl_and 11 47 rfl S H rfl rfl rfl rfl rfl rfl rfl (fun _ S => (wn rfl)) (fun h6 kk => ?yh6) (fun a w S H => ?_)
    case yh6 =>
     have h6p := h6; try simp only [DL] at h6p
     refine gz 47 h6 S rfl rfl rfl rfl rfl rfl (y_move rfl S rfl) fun a S => ?_
     refine gz 47 h6 S rfl rfl rfl rfl rfl rfl (y_nilCheck rfl S rfl) fun a S => ?_
     refine gz 47 h6 S rfl rfl rfl rfl rfl rfl (y_faddrb rfl Ffo52_0 S rfl) fun a S => ?_
     refine gz 47 h6 S rfl rfl rfl rfl rfl rfl (y_load rfl Fsca50 S H rfl rfl) fun a S => ?_
     refine gz 47 h6 S rfl rfl rfl rfl rfl rfl (y_move rfl S rfl) fun a S => ?_
     refine gz 47 h6 S rfl rfl rfl rfl rfl rfl (y_iaddrn rfl Try.underlying50 Fsiz53 S H rfl rfl (by first | assumption | omega | (simp only [List.length_range]; omega) | (simp only [List.length_replicate]; omega) | (simp only [List.length_cons]; omega))) fun a S => ?_
     refine gz 47 h6 S rfl rfl rfl rfl rfl rfl ((y_loadsD c.pv 0 rfl Fsca53 S H rfl (by simp only [List.length_range]; omega) (ldPt hj))) fun a S => ?_
     refine gz 47 h6 S rfl rfl rfl rfl rfl rfl (y_nilCheck rfl S rfl) fun a S => ?_
     refine gz 47 h6 S rfl rfl rfl rfl rfl rfl (y_faddrb rfl Ffo58_3 S rfl) fun a S => ?_
     refine gz 47 h6 S rfl rfl rfl rfl rfl rfl (y_load rfl Fsca4 S H rfl rfl) fun a S => ?_
     refine gz 47 h6 S rfl rfl rfl rfl rfl rfl (y_not rfl S rfl) fun a S => ?_
     refine gy rfl rfl rfl S (y_and' rfl h6 S rfl rfl) fun a S => ?_
     exact kk _ _ (S.join 12 59 rfl rfl) H
    refine gnt ?_
    have S := (((((S.nil.cons S 2 rfl).cons S 1 rfl).cons S 0 rfl).cons S 8 rfl).cons S 10 rfl).cons S 59 rfl
    refine c_if S rfl (fun h7 => ?_) (fun h7 => ?_)
    ·have h7p := h7; try simp only [DL] at h7p
     have hgo : lost = false ∧ (g.at_ j).down = false := by simpa using h7
     refine g_region ?_
     refine gm S fun a S => ?_
     refine gm S fun a S => ?_
     refine gm S fun a S => ?_
     refine gm S fun a S => ?_
     refine gy rfl rfl rfl S (y_iaddrs rfl Try.underlying70 Fsiz73 S H rfl rfl (by first | assumption | omega | (simp only [List.length_range]; omega) | (simp only [List.length_replicate]; omega) | (simp only [List.length_cons]; omega))) fun a S => ?_
     refine gy rfl rfl rfl S (y_loads _ rfl Fsca73 S H rfl (by first | assumption | omega | (simp only [List.length_range]; omega) | (simp only [List.length_replicate]; omega) | (simp only [List.length_cons]; omega)) rfl) fun a S => ?_
     have ⟨z1, hb1, H⟩ := popIn (H.takeT [QSl 73 v encM (mv :: rv), QueR n i j z.qm z.qv, PCel (c.pb j) (z.p j) (g.at_ j), OMap (z.p j).vb eB (z.p j).vm (z.p j).vc, OMap (z.p j).ab kI (z.p j).am (z.p j).ac, PRest c n g z j, MapA c.qb kQ eV (upd z.qm ((i : Int), (j : Int)) (subV v 1 (mv :: rv).length 1)) (if (z.qm ((i : Int), (j : Int))).isSome = true then z.qc else z.qc + 1), BagA 2 Ent.enc z.bag] (GCel c :: GPts c n :: l)) hz hi hj hf hqv rfl
     refine wl_of (op_call (wn rfl) rfl rfl S (co_func rfl Try.call26 S rfl) (receive_any c n (g.pop i j (rv.map (·.1))) z1 i j mv _ H hi hj (fun b => by have := hF.len j b; rw [show (g.pop i j (rv.map (·.1))).q j b = g.q j b from if_neg (fun e => hij e.1.symm)]; omega) (by have := hF.lim.log j hx.2.1; show (g.at_ j).log.length ≤ _; omega) (fun t lg d e => ⟨by rw [hb1]; exact hz.sh i j mv (by rw [hqv]; exact List.mem_cons_self ..) t lg d e, by have := (hF.lim.qs i j mv.1 (by rw [hgq]; exact List.mem_cons_self ..)).2 t lg d e; omega⟩)) fun v w hc a S => ?_)
     obtain ⟨rfl, z2, H⟩ := hc
     
     refine gnt ?_
     have S := S.nil.cons S 8 rfl
     refine gsr ?_
     refine ga S fun a S => ?_
     refine gnt ?_
     refine g_ret ?_
     refine ret1 rfl S rfl ?_
     refine ⟨by unfold Grp.deliver; rw [if_pos hx, hgq], ?_⟩
     unfold Grp.deliver; rw [if_pos hx, hgq]; dsimp only; rw [if_pos hgo]; exact ⟨z2, H⟩
    ·have h7p := h7; try simp only [DL] at h7p
     have hgo : ¬ (lost = false ∧ (g.at_ j).down = false) := fun e => by rw [e.1, e.2] at h7; simp at h7
     refine g_skip ?_
     refine n_then ?_
     have S := S.nil.cons S 8 rfl
     refine gsr ?_
     refine ga S fun a S => ?_
     refine gnt ?_
     refine g_ret ?_
     refine ret1 rfl S rfl ?_
     have ⟨z1, hb1, H⟩ := popIn (H.takeT [QSl 73 v encM (mv :: rv), QueR n i j z.qm z.qv, PCel (c.pb j) (z.p j) (g.at_ j), OMap (z.p j).vb eB (z.p j).vm (z.p j).vc, OMap (z.p j).ab kI (z.p j).am (z.p j).ac, PRest c n g z j, MapA c.qb kQ eV (upd z.qm ((i : Int), (j : Int)) (subV v 1 (mv :: rv).length 1)) (if (z.qm ((i : Int), (j : Int))).isSome = true then z.qc else z.qc + 1), BagA 2 Ent.enc z.bag] (GCel c :: GPts c n :: l)) hz hi hj hf hqv rfl
     refine ⟨by unfold Grp.deliver; rw [if_pos hx, hgq], ?_⟩
     unfold Grp.deliver; rw [if_pos hx, hgq]; dsimp only; rw [if_neg hgo]; exact ⟨z1, H⟩
end Go.Proofs.Ytbjknckddoegfaa
