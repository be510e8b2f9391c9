/- The walks. No condition. -/
import Derived.Test.YtnnendajegdnhaaChecked
import Derived.Test.YtnnendajegdnhaaGwDel
import Derived.Test.YtnnendajegdnhaaFacts
import Derived.Test.YtnnendajegdnhaaPlain
import Derived.Test.YtnnendajegdnhaaPlainTx
import Derived.Test.YtnnendajegdnhaaT1
namespace Go.Proofs.Ytnnendajegdnhaa
open Go Go.Gw
set_option linter.unusedVariables false
set_option linter.unusedSimpArgs false
/-- a twin in memory -/
def TwL (b : Nat) (v1 v2 vt : Value) (ts : List Ow) : List Atom := [Cel b 76 [v1, v2, vt, .bool false], OSl 66 vt 11 Ow.enc ts]
def TwA (b : Nat) (v1 v2 vt : Value) (ts : List Ow) : Atom := Bun (TwL b v1 v2 vt ts)
/-- (*foyer/twin.Twin).ready -/
theorem ready_open (b : Nat) (v1 v2 vt : Value) (w0 : World) (hb : w0.heap[b]? = some (.cells [v1, v2, vt, .bool false].toArray 76 (0, 0))) :
    Ret Try.prog 32 #[.pointer (some ⟨b, 0, none⟩)] w0 (fun u w => u = .int .i64 0 ∧ Ext w0 w) := by
 refine ret_of_wp (nt := 11) Try.func32 rfl rfl rfl (fl := [(0, .pointer (some ⟨b, 0, none⟩))]) rfl (fun a S => ?_)
 have H := HSat.start w0
 have H := H.ro0 (Atom.ro (Cel b 76 [v1, v2, vt, .bool false])) rfl (hb)
 refine gsr ?_
 refine ga S fun a S => ?_
 refine gnt ?_
 refine g_seq ?_
 refine g_block ?_
 refine gsr ?_
 refine gm S fun a S => ?_
 refine gy rfl rfl rfl S (y_eqp rfl Try.underlying27 S rfl rfl) fun a S => ?_
 refine ga S fun a S => ?_
 refine gnt ?_
 refine c_if S rfl (fun h1 => ?_) (fun h1 => ?_)
 ·have h1p := h1; try simp only [DL] at h1p
  all_goals (
    exact absurd h1 (by simp))
 ·have h1p := h1; try simp only [DL] at h1p
  refine gsr ?_
  refine gm S fun a S => ?_
  refine gy rfl rfl rfl S (y_nilCheck rfl S rfl) fun a S => ?_
  refine gy rfl rfl rfl S (y_faddrb rfl Ffo76_3 S rfl) fun a S => ?_
  refine gy rfl rfl rfl S (y_load rfl Fsca4 S H rfl rfl) fun a S => ?_
  refine ga S fun a S => ?_
  refine gnt ?_
  have S := (S.nil.cons S 2 rfl).cons S 6 rfl
  refine c_if S rfl (fun h2 => ?_) (fun h2 => ?_)
  ·have h2p := h2; try simp only [DL] at h2p
   all_goals (
     exact absurd h2 (by simp))
  ·have h2p := h2; try simp only [DL] at h2p
   refine g_skip ?_
   refine n_block ?_
   refine n_then ?_
   refine gsr ?_
   refine ga S fun a S => ?_
   refine gnt ?_
   refine g_ret ?_
   refine ret1 rfl S rfl ?_
   exact ⟨rfl, H.toExt⟩
/-- (*foyer/twin.Twin).ready -/
theorem ready_closed (b : Nat) (v1 v2 vt : Value) (w0 : World) (hb : w0.heap[b]? = some (.cells [v1, v2, vt, .bool true].toArray 76 (0, 0))) :
    Ret Try.prog 32 #[.pointer (some ⟨b, 0, none⟩)] w0 (fun u w => u = .int .i64 27 ∧ Ext w0 w) := by
 refine ret_of_wp (nt := 11) Try.func32 rfl rfl rfl (fl := [(0, .pointer (some ⟨b, 0, none⟩))]) rfl (fun a S => ?_)
 have H := HSat.start w0
 have H := H.ro0 (Atom.ro (Cel b 76 [v1, v2, vt, .bool true])) rfl (hb)
 refine gsr ?_
 refine ga S fun a S => ?_
 refine gnt ?_
 refine g_seq ?_
 refine g_block ?_
 refine gsr ?_
 refine gm S fun a S => ?_
 refine gy rfl rfl rfl S (y_eqp rfl Try.underlying27 S rfl rfl) fun a S => ?_
 refine ga S fun a S => ?_
 refine gnt ?_
 refine c_if S rfl (fun h1 => ?_) (fun h1 => ?_)
 ·have h1p := h1; try simp only [DL] at h1p
  all_goals (
    exact absurd h1 (by simp))
 ·have h1p := h1; try simp only [DL] at h1p
  refine gsr ?_
  refine gm S fun a S => ?_
  refine gy rfl rfl rfl S (y_nilCheck rfl S rfl) fun a S => ?_
  refine gy rfl rfl rfl S (y_faddrb rfl Ffo76_3 S rfl) fun a S => ?_
  refine gy rfl rfl rfl S (y_load rfl Fsca4 S H rfl rfl) fun a S => ?_
  refine ga S fun a S => ?_
  refine gnt ?_
  have S := (S.nil.cons S 2 rfl).cons S 6 rfl
  refine c_if S rfl (fun h2 => ?_) (fun h2 => ?_)
  ·have h2p := h2; try simp only [DL] at h2p
   refine gsr ?_
   refine ga S fun a S => ?_
   refine gnt ?_
   refine g_ret ?_
   refine r_block (r_then (ret1 rfl S rfl ?_))
   exact ⟨rfl, H.toExt⟩
  ·have h2p := h2; try simp only [DL] at h2p
   all_goals (
     exact absurd h2 (by simp))
/-- (*foyer/twin.Twin).ready -/
theorem ready_nil (w0 : World) :
    Ret Try.prog 32 #[.pointer none] w0 (fun u w => u = .int .i64 1 ∧ Ext w0 w) := by
 refine ret_of_wp (nt := 11) Try.func32 rfl rfl rfl (fl := [(0, .pointer none)]) rfl (fun a S => ?_)
 have H := HSat.start w0
 refine gsr ?_
 refine ga S fun a S => ?_
 refine gnt ?_
 refine g_seq ?_
 refine g_block ?_
 refine gsr ?_
 refine gm S fun a S => ?_
 refine gy rfl rfl rfl S (y_eqp rfl Try.underlying27 S rfl rfl) fun a S => ?_
 refine ga S fun a S => ?_
 refine gnt ?_
 refine c_if S rfl (fun h1 => ?_) (fun h1 => ?_)
 ·have h1p := h1; try simp only [DL] at h1p
  refine gsr ?_
  refine ga S fun a S => ?_
  refine gnt ?_
  have S := S.nil.cons S 2 rfl
  refine g_ret ?_
  refine r_block (r_then (ret1 rfl S rfl ?_))
  exact ⟨rfl, H.toExt⟩
 ·have h1p := h1; try simp only [DL] at h1p
  all_goals (
    exact absurd h1 (by simp))
/-- foyer/twin.open -/
theorem open_spec (fr ff : FuncId) (fir capf : List Value) (her : Enters Try.prog fr) (hef : Enters Try.prog ff) (e : Int) (R : Value → World → Prop) (w0 : World) (hr : Ret Try.prog fr (fir ++ [] ++ []).toArray w0 (fun u w => u = .int .i64 e ∧ Ext w0 w)) (hf : ∀ w, Ext w0 w → e = 0 → Ret Try.prog ff ([] ++ [] ++ capf).toArray w R) (herr : ∀ w, Ext w0 w → e ≠ 0 → R (.int .i64 e) w) :
    Ret Try.prog 31 #[.func (.func fr) fir.toArray [].toArray, .func (.func ff) [].toArray capf.toArray] w0 (R) := by
 refine ret_of_wp (nt := 13) Try.func31 rfl rfl rfl (fl := [(0, .func (.func fr) fir.toArray [].toArray), (1, .func (.func ff) [].toArray capf.toArray)]) rfl (fun a S => ?_)
 skip
 refine gsr ?_
 refine ga S fun a S => ?_
 refine gnt ?_
 refine g_seq ?_
 refine gsr ?_
 refine gm S fun a S => ?_
 refine wl_of (op_call (wn rfl) rfl rfl S (co_value rfl her S rfl rfl) (hr) fun v w hc a S => ?_)
 obtain ⟨rfl, he⟩ := hc
 skip
 refine ga S fun a S => ?_
 refine gnt ?_
 refine gsr ?_
 refine gm S fun a S => ?_
 refine gy rfl rfl rfl S (y_bin rfl S rfl rfl rfl) fun a S => ?_
 refine gnt ?_
 have S := (((S.nil.cons S 1 rfl).cons S 4 rfl).cons S 5 rfl).cons S 9 rfl
 refine c_if S rfl (fun h1 => ?_) (fun h1 => ?_)
 ·have h1p := h1; try simp only [DL] at h1p
  refine gsr ?_
  refine gm S fun a S => ?_
  refine ga S fun a S => ?_
  refine gnt ?_
  have S := (S.nil.cons S 1 rfl).cons S 4 rfl
  refine g_ret ?_
  refine r_then (ret1 rfl S rfl ?_)
  exact herr _ he (by have := h1p; simpa using this)
 ·have h1p := h1; try simp only [DL] at h1p
  refine g_skip ?_
  refine n_then ?_
  refine gsr ?_
  refine gm S fun a S => ?_
  refine wl_of (op_call (wn rfl) rfl rfl S (co_value rfl hef S rfl rfl) (hf _ he (by have := h1; simpa using this)) fun u12 w hc a S => ?_)
  have hR := hc
  skip
  refine ga S fun a S => ?_
  refine gnt ?_
  have S := S.nil.cons S 4 rfl
  refine g_ret ?_
  refine ret1 rfl S rfl ?_
  exact hR
set_option maxHeartbeats 1000000 in
/-- (*foyer/twin.Twin).Drop$1 -/
theorem dropIn_spec {M : Nat → Prop} {u0 : World} {l : List Atom} (b bt bs : Nat) (v1 v2 vt : Value) (ts : List Ow) (serial : Int) (w0 : World) (h0 : HSat M u0 (Cel b 76 [v1, v2, vt, .bool false] :: OSl 66 vt 11 Ow.enc ts :: Atom.ro (Cel bt 27 [.pointer (some ⟨b, 0, none⟩)]) :: Atom.ro (Cel bs 3 [.int .i64 serial]) :: l) w0) (hok : ∀ o ∈ ts, o.ok) (hl : ts.length ≤ 200000) :
    Ret Try.prog 33 #[.pointer (some ⟨bt, 0, none⟩), .pointer (some ⟨bs, 0, none⟩)] w0 (fun u w => u = .int .i64 (dropE ts serial) ∧ ∃ vt2, HSat M u0 (Cel b 76 [v1, v2, vt2, .bool false] :: OSl 66 vt2 11 Ow.enc (dropT ts serial) :: Atom.ro (Cel bt 27 [.pointer (some ⟨b, 0, none⟩)]) :: Atom.ro (Cel bs 3 [.int .i64 serial]) :: l) w) := by
 refine ret_of_wp (nt := 24) Try.func33 rfl rfl rfl (fl := [(0, .pointer (some ⟨bt, 0, none⟩)), (1, .pointer (some ⟨bs, 0, none⟩))]) rfl (fun a S => ?_)
 have H := h0
 refine gsr ?_
 refine ga S fun a S => ?_
 refine gnt ?_
 refine gsr ?_
 refine gy rfl rfl rfl S (y_load rfl Fsca27 S H rfl rfl) fun a S => ?_
 refine gy rfl rfl rfl S (y_nilCheck rfl S rfl) fun a S => ?_
 refine gy rfl rfl rfl S (y_faddrb rfl Ffo76_2 S rfl) fun a S => ?_
 refine gy rfl rfl rfl S (y_load rfl Fsca23 S H rfl rfl) fun a S => ?_
 refine gy rfl rfl rfl S (y_makeFunc rfl S rfl rfl) fun a S => ?_
 refine wl_of (op_call (wn rfl) rfl rfl S (co_func rfl Try.call34 S rfl) (idxOw_spec vt ts 35 [.pointer (some ⟨bs, 0, none⟩)] Try.call35 (dropP serial) _ (H.sl vt) (fun x _ w1 hx => dropP_spec x bs serial w1 ((H.ext hx).rd bs))) fun v w hc a S => ?_)
 obtain ⟨z, rfl, hz, he⟩ := hc
 have H := H.ext he
 refine ga S fun a S => ?_
 refine gnt ?_
 have S := ((S.nil.cons S 0 rfl).cons S 2 rfl).cons S 3 rfl
 refine g_seq ?_
 refine gsr ?_
 refine gm S fun a S => ?_
 refine gy rfl rfl rfl S (y_bin rfl S rfl rfl rfl) fun a S => ?_
 refine gnt ?_
 refine c_if S rfl (fun h1 => ?_) (fun h1 => ?_)
 ·have h1p := h1; try simp only [DL] at h1p
  have hall : ∀ x ∈ ts, dropP serial x = false := by rcases hz with ⟨_, h⟩ | ⟨q, hq, e, _⟩; exact h; exfalso; have := h1p; omega
  obtain ⟨hd1, hd2⟩ := dropT_no hall
  refine gsr ?_
  refine ga S fun a S => ?_
  refine gnt ?_
  refine g_ret ?_
  refine r_then (ret1 rfl S rfl ?_)
  rw [hd1, hd2]; exact ⟨rfl, vt, H⟩
 ·have h1p := h1; try simp only [DL] at h1p
  obtain ⟨rfl, hall⟩ | ⟨j, hj, rfl, hpj, hbj⟩ := hz
  · exfalso; have := h1p; omega
  obtain ⟨hd1, hd2⟩ := dropT_at hj hpj hbj
  refine g_skip ?_
  refine n_then ?_
  refine g_seq ?_
  refine region_st (loud := [5, 9, 12]) (tails := [9, 12]) (free := [0]) [0, 1, 2, 3, 4, 6, 7, 8, 5, 9, 10, 11, 12] [Atom.ro (Cel bt 27 [.pointer (some ⟨b, 0, none⟩)])] Fmo (by kernel_rfl) (by kernel_rfl) rfl H ?_
  refine m_f rfl rfl (wn rfl) rfl rfl S (fun w H => y_load rfl Fsca27 S H rfl rfl) fun a S => ?_
  refine m_w rfl rfl (wn rfl) rfl rfl S (fun w H => y_load rfl Fsca27 S H rfl rfl) fun a S => ?_
  refine m_w rfl rfl (wn rfl) rfl rfl S (fun w H => y_nilCheck rfl S rfl) fun a S => ?_
  refine m_w rfl rfl (wn rfl) rfl rfl S (fun w H => y_faddrb rfl Ffo76_2 S rfl) fun a S => ?_
  refine m_w rfl rfl (wn rfl) rfl rfl S (fun w H => y_load rfl Fsca23 S H rfl rfl) fun a S => ?_
  refine m_w rfl rfl (wn rfl) rfl rfl S (fun w H => y_move rfl S rfl) fun a S => ?_
  refine m_w rfl rfl (wn rfl) rfl rfl S (fun w H => y_move rfl S rfl) fun a S => ?_
  refine m_w rfl rfl (wn rfl) rfl rfl S (fun w H => y_add rfl S rfl rfl (by omega)) fun a S => ?_
  rw [show ((j : Int) + 1) = ((j + 1 : Nat) : Int) by omega] at S
  refine m_l rfl rfl (fun w H => op_call (wn rfl) rfl rfl S (co_func rfl Try.call29 S rfl) (cloneOw_spec vt ts _ (H.sl vt) hok hl) fun u17 w hc a S => ?_)
  have H1 := hc
  have H := H.call1 H1 rfl
  refine m_next H (by repeat (first | exact List.Sublist.refl _ | apply List.Sublist.cons)) ?_
  refine m_l rfl rfl (fun w H => op_call (wn rfl) rfl rfl S (co_func rfl Try.call37 S rfl) (deleteOw_spec u17 ts j _ (H.front (OSl 66 u17 11 Ow.enc ts)) hj hok) fun u21 w hc a S => ?_)
  have H := hc
  
  refine m_tail H rfl ?_
  refine m_w rfl rfl (wn rfl) rfl rfl S (fun w H => y_nilCheck rfl S rfl) fun a S => ?_
  refine m_w rfl rfl (wn rfl) rfl rfl S (fun w H => y_faddrb rfl Ffo76_2 S rfl) fun a S => ?_
  refine m_l rfl rfl (fun w H => op_store (wn rfl) rfl rfl S H rfl rfl (H.sl1 _) Fsiz23 rfl fun a w S H => m_tail H rfl ?_)
  dsimp only [List.set, Nat.zero_add, Nat.reduceAdd] at H
  refine m_nil (fun w H => ?_)
  refine n_then ?_
  have S := S.nil.cons S 2 rfl
  refine gsr ?_
  refine ga S fun a S => ?_
  refine gnt ?_
  refine g_ret ?_
  refine ret1 rfl S rfl ?_
  dsimp only [List.set, Nat.zero_add, Nat.reduceAdd] at H
  rw [hd1, hd2]; exact ⟨rfl, u21, H.takeT [Cel b 76 [v1, v2, u21, .bool false], OSl 66 u21 11 Ow.enc (ts.eraseIdx j), Atom.ro (Cel bt 27 [.pointer (some ⟨b, 0, none⟩)]), Atom.ro (Cel bs 3 [.int .i64 serial])] l⟩
/-- (*foyer/twin.Twin).Drop -/
theorem drop_no (pp : Option Addr) (serial : Int) (e : Int) (he : e ≠ 0) (w0 : World) (hr : ∀ w, Ext w0 w → Ret Try.prog 32 #[.pointer pp] w (fun u w' => u = .int .i64 e ∧ Ext w w')) :
    Ret Try.prog 11 #[.pointer pp, .int .i64 serial] w0 (fun u w => u = .int .i64 e ∧ Ext w0 w) := by
 refine ret_of_wp (nt := 9) Try.func11 rfl rfl rfl (fl := [(0, .pointer pp), (1, .int .i64 serial)]) rfl (fun a S => ?_)
 have H := HSat.start w0
 refine gsr ?_
 refine wl_of (op_box1 (wn rfl) rfl rfl rfl S H rfl rfl fun b2 a w S H => ?_)
 refine wl_of (op_box1 (wn rfl) rfl rfl rfl S H rfl rfl fun b3 a w S H => ?_)
 refine ga S fun a S => ?_
 refine gnt ?_
 refine gsr ?_
 refine gy rfl rfl rfl S (y_load rfl Fsca27 S H rfl rfl) fun a S => ?_
 refine gy rfl rfl rfl S (y_makeFunc rfl S rfl rfl) fun a S => ?_
 refine gy rfl rfl rfl S (y_makeFunc rfl S rfl rfl) fun a S => ?_
 refine wl_of (op_call (wn rfl) rfl rfl S (co_func rfl Try.call31 S rfl) (open_spec 32 33 [.pointer pp] [.pointer (some ⟨b2, 0, none⟩), .pointer (some ⟨b3, 0, none⟩)] Try.call32 Try.call33 e (fun u w' => u = .int .i64 e ∧ Ext w w') w (hr w H.toExt) (fun w' _ h => absurd h he) (fun w' hx _ => ⟨rfl, hx⟩)) fun v w hc a S => ?_)
 obtain ⟨rfl, he1⟩ := hc
 have H := H.ext he1
 refine ga S fun a S => ?_
 refine gnt ?_
 have S := S.nil.cons S 4 rfl
 refine g_ret ?_
 refine ret1 rfl S rfl ?_
 exact ⟨rfl, H.toExt⟩
set_option maxHeartbeats 1000000 in
/-- (*foyer/twin.Twin).Drop -/
theorem drop_ok {M : Nat → Prop} {u0 : World} {l : List Atom} (b : Nat) (v1 v2 vt : Value) (old next : List Pl) (ts : List Ow) (serial : Int) (w0 : World) (h0 : HSat M u0 (TwA b v1 v2 vt ts :: Sl v1 9 Pl.enc old :: Sl v2 9 Pl.enc next :: l) w0) (hok : ∀ o ∈ ts, o.ok) (hl : ts.length ≤ 200000) :
    Ret Try.prog 11 #[.pointer (some ⟨b, 0, none⟩), .int .i64 serial] w0 (fun u w => u = .int .i64 (dropE ts serial) ∧ ∃ vt2, HSat M u0 (TwA b v1 v2 vt2 (dropT ts serial) :: Sl v1 9 Pl.enc old :: Sl v2 9 Pl.enc next :: l) w) := by
 refine ret_of_wp (nt := 9) Try.func11 rfl rfl rfl (fl := [(0, .pointer (some ⟨b, 0, none⟩)), (1, .int .i64 serial)]) rfl (fun a S => ?_)
 have H := h0.unfold
 simp only [TwL, List.cons_append, List.nil_append] at H
 refine gsr ?_
 refine wl_of (op_box1 (wn rfl) rfl rfl rfl S H rfl rfl fun b2 a w S H => ?_)
 refine wl_of (op_box1 (wn rfl) rfl rfl rfl S H rfl rfl fun b3 a w S H => ?_)
 refine ga S fun a S => ?_
 refine gnt ?_
 refine gsr ?_
 refine gy rfl rfl rfl S (y_load rfl Fsca27 S H rfl rfl) fun a S => ?_
 refine gy rfl rfl rfl S (y_makeFunc rfl S rfl rfl) fun a S => ?_
 refine gy rfl rfl rfl S (y_makeFunc rfl S rfl rfl) fun a S => ?_
 refine wl_of (op_call (wn rfl) rfl rfl S (co_func rfl Try.call31 S rfl) (open_spec 32 33 [.pointer (some ⟨b, 0, none⟩)] [.pointer (some ⟨b2, 0, none⟩), .pointer (some ⟨b3, 0, none⟩)] Try.call32 Try.call33 0 (fun u w' => u = .int .i64 (dropE ts serial) ∧ ∃ vt2, HSat M u0 (Cel b 76 [v1, v2, vt2, .bool false] :: OSl 66 vt2 11 Ow.enc (dropT ts serial) :: Atom.ro (Cel b2 27 [.pointer (some ⟨b, 0, none⟩)]) :: Atom.ro (Cel b3 3 [.int .i64 serial]) :: Sl v1 9 Pl.enc old :: Sl v2 9 Pl.enc next :: l) w') w (ready_open b v1 v2 vt w (H.rd b)) (fun w' hx _ => dropIn_spec b b2 b3 v1 v2 vt ts serial w' (((((H.ext hx).front (Cel b2 27 [.pointer (some ⟨b, 0, none⟩)])).freeze.front (Cel b3 3 [.int .i64 serial])).freeze).pick [Cel b 76 [v1, v2, vt, .bool false], OSl 66 vt 11 Ow.enc ts, Atom.ro (Cel b2 27 [.pointer (some ⟨b, 0, none⟩)]), Atom.ro (Cel b3 3 [.int .i64 serial])]) hok hl) (fun w' _ h => absurd rfl h)) fun v w hc a S => ?_)
 obtain ⟨rfl, vt2, H⟩ := hc
 skip
 refine ga S fun a S => ?_
 refine gnt ?_
 have S := S.nil.cons S 4 rfl
 refine g_ret ?_
 refine ret1 rfl S rfl ?_
 exact ⟨rfl, vt2, HSat.fold (ls := TwL b v1 v2 vt2 (dropT ts serial)) (H.takeT [Cel b 76 [v1, v2, vt2, .bool false], OSl 66 vt2 11 Ow.enc (dropT ts serial), Sl v1 9 Pl.enc old, Sl v2 9 Pl.enc next] l) (by simp [TwL, OSl, Blk])⟩
set_option maxHeartbeats 4000000 in
/-- (*foyer/twin.Twin).Sell$1 -/
theorem sellIn_spec {M : Nat → Prop} {u0 : World} {l : List Atom} (b bp bt bs : Nat) (v1 v2 vt : Value) (old next : List Pl) (ts : List Ow) (place serial : Int) (n : Nat) (w0 : World) (h0 : HSat M u0 (Cel b 76 [v1, v2, vt, .bool false] :: OSl 66 vt 11 Ow.enc (ts) :: Sl v1 9 Pl.enc old :: Sl v2 9 Pl.enc next :: Atom.ro (Cel bp 3 [.int .i64 place]) :: Atom.ro (Cel bt 27 [.pointer (some ⟨b, 0, none⟩)]) :: Atom.ro (Cel bs 3 [.int .i64 serial]) :: l) w0) (htw : TwOK old next ts n) (hn : n ≤ 100000) :
    Ret Try.prog 38 #[.pointer (some ⟨bp, 0, none⟩), .pointer (some ⟨bt, 0, none⟩), .pointer (some ⟨bs, 0, none⟩)] w0 (fun u w => u = .int .i64 (sellE old next ts place serial) ∧ ∃ vt2, HSat M u0 (Cel b 76 [v1, v2, vt2, .bool false] :: OSl 66 vt2 11 Ow.enc (sellT old next ts place serial) :: Sl v1 9 Pl.enc old :: Sl v2 9 Pl.enc next :: Atom.ro (Cel bp 3 [.int .i64 place]) :: Atom.ro (Cel bt 27 [.pointer (some ⟨b, 0, none⟩)]) :: Atom.ro (Cel bs 3 [.int .i64 serial]) :: l) w) := by
 refine ret_of_wp (nt := 102) Try.func38 rfl rfl rfl (fl := [(0, .pointer (some ⟨bp, 0, none⟩)), (1, .pointer (some ⟨bt, 0, none⟩)), (2, .pointer (some ⟨bs, 0, none⟩))]) rfl (fun a S => ?_)
 have H := h0
 have hl1 := (H.sl v1).len
 have hlt := htw.len
 have hlm := htw.m
 have hok := htw.ok
 refine gsr ?_
 refine ga S fun a S => ?_
 refine gnt ?_
 refine g_seq ?_
 refine g_seq ?_
 refine region_st (loud := []) (tails := []) (free := []) [0, 1, 2, 3, 4, 5, 6, 7, 8, 9, 10, 11, 12, 13, 14, 15, 16, 17, 18] [] Fmo (by kernel_rfl) (by kernel_rfl) rfl H ?_
 refine m_w rfl rfl (wn rfl) rfl rfl S (fun w H => y_load rfl Fsca3 S H rfl rfl) fun a S => ?_
 refine m_w rfl rfl (wn rfl) rfl rfl S (fun w H => y_bin rfl S rfl rfl rfl) fun a S => ?_
 refine m_w rfl rfl (wn rfl) rfl rfl S (fun w H => y_move rfl S rfl) fun a S => ?_
 refine' m_orq [3, 4, 5, 6, 7, 8, 9] 10 S rfl rfl rfl rfl rfl rfl rfl rfl rfl (fun _ S => (wn rfl)) (fun h1 kk => ?yh1) (fun a S => ?_)
 case yh1 =>
  have h1p := h1; try simp only [DL] at h1p
  refine m_w rfl rfl (wg' 10 rfl rfl S rfl h1 rfl) rfl rfl S (fun w H => y_load rfl Fsca3 S H rfl rfl) fun a S => ?_
  refine m_w rfl rfl (wg' 10 rfl rfl S rfl h1 rfl) rfl rfl S (fun w H => y_load rfl Fsca27 S H rfl rfl) fun a S => ?_
  refine m_w rfl rfl (wg' 10 rfl rfl S rfl h1 rfl) rfl rfl S (fun w H => y_nilCheck rfl S rfl) fun a S => ?_
  refine m_w rfl rfl (wg' 10 rfl rfl S rfl h1 rfl) rfl rfl S (fun w H => y_faddrb rfl Ffo76_0 S rfl) fun a S => ?_
  refine m_w rfl rfl (wg' 10 rfl rfl S rfl h1 rfl) rfl rfl S (fun w H => y_load rfl Fsca22 S H rfl rfl) fun a S => ?_
  refine m_w rfl rfl (wg' 10 rfl rfl S rfl h1 rfl) rfl rfl S (fun w H => y_lens rfl Try.underlying22 S H rfl) fun a S => ?_
  refine m_w rfl rfl (wg' 10 rfl rfl S rfl h1 rfl) rfl rfl S (fun w H => y_bin rfl S rfl rfl rfl) fun a S => ?_
  refine m_w rfl rfl (wn rfl) rfl rfl S (fun w H => y_or' rfl h1 S rfl rfl) fun a S => ?_
  exact kk _ (S.join 8 18 rfl rfl)
 refine m_w rfl rfl (wn rfl) rfl rfl S (fun w H => y_move rfl S rfl) fun a S => ?_
 refine' m_orq [12, 13] 19 S rfl rfl rfl rfl rfl rfl rfl rfl rfl (fun _ S => (wn rfl)) (fun h2 kk => ?yh2) (fun a S => ?_)
 case yh2 =>
  have h2p := h2; try simp only [DL] at h2p
  refine m_w rfl rfl (wg' 19 rfl rfl S rfl h2 rfl) rfl rfl S (fun w H => y_load rfl Fsca3 S H rfl rfl) fun a S => ?_
  refine m_w rfl rfl (wg' 19 rfl rfl S rfl h2 rfl) rfl rfl S (fun w H => y_bin rfl S rfl rfl rfl) fun a S => ?_
  refine m_w rfl rfl (wn rfl) rfl rfl S (fun w H => y_or' rfl h2 S rfl rfl) fun a S => ?_
  exact kk _ (S.join 3 22 rfl rfl)
 refine m_w rfl rfl (wn rfl) rfl rfl S (fun w H => y_move rfl S rfl) fun a S => ?_
 refine' m_orq [16, 17] 23 S rfl rfl rfl rfl rfl rfl rfl rfl rfl (fun _ S => (wn rfl)) (fun h3 kk => ?yh3) (fun a S => ?_)
 case yh3 =>
  have h3p := h3; try simp only [DL] at h3p
  refine m_w rfl rfl (wg' 23 rfl rfl S rfl h3 rfl) rfl rfl S (fun w H => y_load rfl Fsca3 S H rfl rfl) fun a S => ?_
  refine m_w rfl rfl (wg' 23 rfl rfl S rfl h3 rfl) rfl rfl S (fun w H => y_bin rfl S rfl rfl rfl) fun a S => ?_
  refine m_w rfl rfl (wn rfl) rfl rfl S (fun w H => y_or' rfl h3 S rfl rfl) fun a S => ?_
  exact kk _ (S.join 3 26 rfl rfl)
 refine m_nil (fun w H => ?_)
 refine n_then ?_
 have S := ((((S.nil.cons S 2 rfl).cons S 1 rfl).cons S 0 rfl).cons S 3 rfl).cons S 26 rfl
 refine c_if S rfl (fun h4 => ?_) (fun h4 => ?_)
 ·have h4p := h4; try simp only [DL] at h4p
  have hE := sellE_arg (next := next) (ts := ts) (show argB old.length place serial = true from h4)
  refine gsr ?_
  refine ga S fun a S => ?_
  refine gnt ?_
  refine g_ret ?_
  refine r_then (ret1 rfl S rfl ?_)
  exact ⟨by rw [hE], vt, by rw [sellT_err (by rw [hE]; decide)]; exact H.takeT [Cel b 76 [v1, v2, vt, .bool false], OSl 66 vt 11 Ow.enc (ts), Sl v1 9 Pl.enc old, Sl v2 9 Pl.enc next, Atom.ro (Cel bp 3 [.int .i64 place]), Atom.ro (Cel bt 27 [.pointer (some ⟨b, 0, none⟩)]), Atom.ro (Cel bs 3 [.int .i64 serial])] l⟩
 ·have h4p := h4; try simp only [DL] at h4p
  have hA : argB old.length place serial = false := h4
  obtain ⟨hp0, hp1, hs0, hs1⟩ := argB_no hA
  refine g_skip ?_
  refine n_then ?_
  refine gsr ?_
  refine ga S fun a S => ?_
  refine gnt ?_
  refine gsr ?_
  refine ga S fun a S => ?_
  refine gnt ?_
  refine g_seq ?_
  refine gsr ?_
  refine gy rfl rfl rfl S (y_load rfl Fsca27 S H rfl rfl) fun a S => ?_
  refine gy rfl rfl rfl S (y_nilCheck rfl S rfl) fun a S => ?_
  refine gy rfl rfl rfl S (y_faddrb rfl Ffo76_2 S rfl) fun a S => ?_
  refine gy rfl rfl rfl S (y_load rfl Fsca23 S H rfl rfl) fun a S => ?_
  refine gy rfl rfl rfl S (y_lens rfl Try.underlying23 S H rfl) fun a S => ?_
  refine gm S fun a S => ?_
  refine gnt ?_
  have S := ((((((((S.nil.cons S 2 rfl).cons S 1 rfl).cons S 0 rfl).cons S 3 rfl).cons S 4 rfl).cons S 5 rfl).cons S 30 rfl).cons S 31 rfl).cons S 32 rfl
  refine g_block ?_
  have H := H.nilO 85 9 Pl.enc
  have SU := ((((S.nil.cons S 2 rfl).cons S 1 rfl).cons S 0 rfl).cons S 30 rfl).cons S 31 rfl
  refine loopW (X := Nat × Value) SU (fun x => [(4, x.2), (5, .bool (takenB (ts.take x.1) place)), (32, .int .i64 (x.1 : Int))]) (fun x w => x.1 ≤ ts.length ∧ (∀ y ∈ ts.take x.1, y.serial ≠ serial) ∧ HSat M u0 (OSl 85 x.2 9 Pl.enc (oldsT old (ts.take x.1)) :: Cel b 76 [v1, v2, vt, .bool false] :: OSl 66 vt 11 Ow.enc (ts) :: Sl v1 9 Pl.enc old :: Sl v2 9 Pl.enc next :: Atom.ro (Cel bp 3 [.int .i64 place]) :: Atom.ro (Cel bt 27 [.pointer (some ⟨b, 0, none⟩)]) :: Atom.ro (Cel bs 3 [.int .i64 serial]) :: l) w) (fun x => ts.length - x.1) (0, .slice none 0 0) (((S.nil.cons S 32 rfl).cons S 5 rfl).cons S 4 rfl) (⟨by simp, fun y hy => by simp at hy, H⟩) (fun x a w S hW => ?_)
  simp only [List.cons_append, List.nil_append] at S
  clear H
  obtain ⟨k, vp⟩ := x
  obtain ⟨hk, hne, H⟩ := hW
  dsimp only at S H hk hne
  refine gsr ?_
  refine gy rfl rfl rfl S (y_bin rfl S rfl rfl rfl) fun a S => ?_
  refine gnt ?_
  refine g_seq ?_
  refine c_if S rfl (fun h5 => ?_) (fun h5 => ?_)
  ·have h5p := h5; try simp only [DL] at h5p
   have hkl : k < ts.length := by omega
   refine g_skip ?_
   refine n_then ?_
   refine g_seq ?_
   refine g_block ?_
   refine gsr ?_
   refine gy rfl rfl rfl S (y_iaddrn rfl Try.underlying23 Fsiz66 S H rfl rfl (by first | assumption | omega | (simp only [LL]; omega))) fun a S => ?_
   refine gy rfl rfl rfl S (y_loadsa _ rfl S H rfl (by exact Fagg66) (by first | assumption | omega | (simp only [LL]; omega))) fun a S => ?_
   refine wl_of (op_alloc (wn rfl) rfl rfl rfl S H Fzer66 fun b7 a w S H => ?_)
   refine wl_of (op_storea (wn rfl) rfl rfl S H rfl rfl (Ow.all (hok _ (List.getElem_mem hkl))) Fsiz66 rfl (cs' := [_, _, _, _, _, _, _, _, _, _, _]) rfl fun a w S H => ?_)
   refine gnt ?_
   refine g_seq ?_
   refine gsr ?_
   refine gy rfl rfl rfl S (y_faddrb rfl Ffo66_0 S rfl) fun a S => ?_
   refine gy rfl rfl rfl S (y_faddrb rfl Ffo60_0 S rfl) fun a S => ?_
   refine gy rfl rfl rfl S (y_load rfl Fsca3 S H rfl rfl) fun a S => ?_
   refine gy rfl rfl rfl S (y_load rfl Fsca3 S H rfl rfl) fun a S => ?_
   refine gy rfl rfl rfl S (y_bin rfl S rfl rfl rfl) fun a S => ?_
   refine gnt ?_
   have S := (((((((((S.nil.cons S 2 rfl).cons S 1 rfl).cons S 0 rfl).cons S 30 rfl).cons S 31 rfl).cons S 32 rfl).cons S 5 rfl).cons S 4 rfl).cons S 7 rfl).cons S 40 rfl
   refine c_if S rfl (fun h6 => ?_) (fun h6 => ?_)
   ·have h6p := h6; try simp only [DL] at h6p
    have hE := sellE_used (next := next) hA (used_at hkl (by simpa using h6p))
    refine gsr ?_
    refine ga S fun a S => ?_
    refine gnt ?_
    refine g_ret ?_
    refine r_then (r_block (r_then (r_then (r_block (r_then (ret1 rfl S rfl ?_))))))
    exact ⟨by rw [hE], vt, by rw [sellT_err (by rw [hE]; decide)]; exact H.takeT [Cel b 76 [v1, v2, vt, .bool false], OSl 66 vt 11 Ow.enc (ts), Sl v1 9 Pl.enc old, Sl v2 9 Pl.enc next, Atom.ro (Cel bp 3 [.int .i64 place]), Atom.ro (Cel bt 27 [.pointer (some ⟨b, 0, none⟩)]), Atom.ro (Cel bs 3 [.int .i64 serial])] l⟩
   ·have h6p := h6; try simp only [DL] at h6p
    have hne2 := take_ne hkl hne (by simpa using h6p)
    refine g_skip ?_
    refine n_then ?_
    refine gsr ?_
    refine gy rfl rfl rfl S (y_load0 rfl S H rfl (by exact Fagg66)) fun a S => ?_
    refine wl_of (op_call (wn rfl) rfl rfl S (co_func rfl Try.call36 S rfl) (tmoved_spec ts[k] _) fun v w hc a S => ?_)
    obtain ⟨rfl, he⟩ := hc
    have H := H.ext he
    refine gnt ?_
    refine c_if S rfl (fun h7 => ?_) (fun h7 => ?_)
    ·have h7p := h7; try simp only [DL] at h7p
     have hm : movedB ts[k] = true := h7
     obtain ⟨hx0, hx1⟩ := htw.place hkl hm
     obtain ⟨x, hx⟩ : ∃ x : Nat, ts[k].place = x := ⟨ts[k].place.toNat, by omega⟩
     have hxl : x < old.length := by omega
     have hos := olds_yes (old := old) hkl hm hx hxl
     have hta := taken_yes hkl hm place
     refine g_seq ?_
     refine region_st (loud := [10, 11]) (tails := [11]) (free := []) [0, 1, 2, 3, 4, 5, 6, 7, 8, 9, 10, 11, 12] [] Fmo (by kernel_rfl) (by kernel_rfl) rfl H ?_
     refine m_w rfl rfl (wn rfl) rfl rfl S (fun w H => y_move rfl S rfl) fun a S => ?_
     refine m_w rfl rfl (wn rfl) rfl rfl S (fun w H => y_load rfl Fsca27 S H rfl rfl) fun a S => ?_
     refine m_w rfl rfl (wn rfl) rfl rfl S (fun w H => y_nilCheck rfl S rfl) fun a S => ?_
     refine m_w rfl rfl (wn rfl) rfl rfl S (fun w H => y_faddrb rfl Ffo76_0 S rfl) fun a S => ?_
     refine m_w rfl rfl (wn rfl) rfl rfl S (fun w H => y_load rfl Fsca22 S H rfl rfl) fun a S => ?_
     refine m_w rfl rfl (wn rfl) rfl rfl S (fun w H => y_faddrb rfl Ffo66_0 S rfl) fun a S => ?_
     refine m_w rfl rfl (wn rfl) rfl rfl S (fun w H => y_faddrb rfl Ffo60_2 S rfl) fun a S => ?_
     refine m_w rfl rfl (wn rfl) rfl rfl S (fun w H => y_load rfl Fsca3 S H rfl rfl) fun a S => ?_
     rw [hx] at S
     refine m_w rfl rfl (wn rfl) rfl rfl S (fun w H => y_iaddrn rfl Try.underlying22 Fsiz85 S H rfl rfl (by first | assumption | omega | (simp only [LL]; omega))) fun a S => ?_
     refine m_loadsa _ rfl rfl (wn rfl) rfl rfl S rfl rfl (by exact Fagg85) (by first | assumption | omega | (simp only [LL]; omega)) fun a S => ?_
     refine m_l rfl rfl (fun w H => op_buildSlice (wn rfl) rfl rfl rfl Try.underlying22 Finf85 S H (idx := [0]) rfl rfl rfl (z := [.int .i64 0, .int .i64 0, .int .i64 0, .int .i64 0, .int .i64 0, .int .i64 0, .int .i64 0, .int .i64 0, .int .i64 0]) (by kernel_rfl) (cs := [.int .i64 old[x].kind, .int .i64 old[x].level, .int .i64 old[x].block, .int .i64 old[x].row, .int .i64 old[x].seat, .int .i64 old[x].x, .int .i64 old[x].y, .int .i64 old[x].view, .int .i64 old[x].with_]) (by kernel_rfl) fun b53 a w S H => m_next H (List.sublist_cons_self _ _) ?_)
     refine m_l rfl rfl (fun w H => op_append ([old[x]]) (wn rfl) rfl rfl rfl Try.underlying22 Finf85 rfl rfl S H rfl rfl rfl rfl (by simp) (by simp [Pl.enc]) (by simp [Pl.enc, Value.oneCell']) (by simp only [List.length_append, List.length_cons, List.length_nil]; have := olds_take_le old ts k; omega) (by simp only [List.length_append, List.length_cons, List.length_nil]; have := olds_take_le old ts k; omega) fun u54 a w hn54 S H => m_tail H rfl ?_)
     refine m_w rfl rfl (wn rfl) rfl rfl S (fun w H => y_assign rfl S rfl) fun a S => ?_
     refine m_nil (fun w H => ?_)
     refine n_then ?_
     have S := ((((((((S.nil.cons S 2 rfl).cons S 1 rfl).cons S 0 rfl).cons S 30 rfl).cons S 31 rfl).cons S 32 rfl).cons S 5 rfl).cons S 7 rfl).cons S 4 rfl
     refine g_region ?_
     refine gm S fun a S => ?_
     refine gm S fun a S => ?_
     refine' wl_or 5 56 rfl S H rfl rfl rfl rfl rfl rfl rfl (fun _ S => (wn rfl)) (fun h8 kk => ?yh8) (fun a w S H => ?_)
     case yh8 =>
      have h8p := h8; try simp only [DL] at h8p
      refine gz 56 h8 S rfl rfl rfl rfl rfl rfl (y_faddrb rfl Ffo66_0 S rfl) fun a S => ?_
      refine gz 56 h8 S rfl rfl rfl rfl rfl rfl (y_faddrb rfl Ffo60_2 S rfl) fun a S => ?_
      refine gz 56 h8 S rfl rfl rfl rfl rfl rfl (y_load rfl Fsca3 S H rfl rfl) fun a S => ?_
      refine gz 56 h8 S rfl rfl rfl rfl rfl rfl (y_load rfl Fsca3 S H rfl rfl) fun a S => ?_
      refine gz 56 h8 S rfl rfl rfl rfl rfl rfl (y_bin rfl S rfl rfl rfl) fun a S => ?_
      refine gy rfl rfl rfl S (y_or' rfl h8 S rfl rfl) fun a S => ?_
      exact kk _ _ (S.join 6 62 rfl rfl) H
     refine ga S fun a S => ?_
     refine gl_nil ?_
     refine n_block ?_
     refine n_then ?_
     have S := (((((((S.nil.cons S 2 rfl).cons S 1 rfl).cons S 0 rfl).cons S 30 rfl).cons S 31 rfl).cons S 32 rfl).cons S 4 rfl).cons S 5 rfl
     refine g_region ?_
     refine gy rfl rfl rfl S (y_add rfl S rfl rfl (by omega)) fun a S => ?_
     refine gm S fun a S => ?_
     refine gnt ?_
     first
     | exact ⟨(k + 1, u54), ((S.nil.cons S 32 rfl).cons S 5 (by dsimp only; first | (rw [hta, ← hx]; rfl) | (rw [hta]; rfl))).cons S 4 rfl, ((((S.nil.cons S 2 rfl).cons S 1 rfl).cons S 0 rfl).cons S 30 rfl).cons S 31 rfl, ⟨by dsimp only; omega, hne2, by dsimp only; rw [hos]; exact H.takeT [OSl 85 u54 9 Pl.enc (oldsT old (ts.take k) ++ [old[x]]), Cel b 76 [v1, v2, vt, .bool false], OSl 66 vt 11 Ow.enc (ts), Sl v1 9 Pl.enc old, Sl v2 9 Pl.enc next, Atom.ro (Cel bp 3 [.int .i64 place]), Atom.ro (Cel bt 27 [.pointer (some ⟨b, 0, none⟩)]), Atom.ro (Cel bs 3 [.int .i64 serial])] l⟩, by dsimp only; omega⟩
     | exact ⟨(k + 1, vp), ((S.nil.cons S 32 rfl).cons S 5 (by dsimp only; rw [hta]; rfl)).cons S 4 rfl, ((((S.nil.cons S 2 rfl).cons S 1 rfl).cons S 0 rfl).cons S 30 rfl).cons S 31 rfl, ⟨by dsimp only; omega, hne2, by dsimp only; rw [hos]; exact H.takeT [OSl 85 vp 9 Pl.enc (oldsT old (ts.take k)), Cel b 76 [v1, v2, vt, .bool false], OSl 66 vt 11 Ow.enc (ts), Sl v1 9 Pl.enc old, Sl v2 9 Pl.enc next, Atom.ro (Cel bp 3 [.int .i64 place]), Atom.ro (Cel bt 27 [.pointer (some ⟨b, 0, none⟩)]), Atom.ro (Cel bs 3 [.int .i64 serial])] l⟩, by dsimp only; omega⟩
    ·have h7p := h7; try simp only [DL] at h7p
     have hm : movedB ts[k] ≠ true := by rw [show movedB ts[k] = false from h7]; simp
     have hos := olds_no (old := old) hkl hm
     have hta := taken_no hkl hm place
     refine g_skip ?_
     refine n_block ?_
     refine n_then ?_
     have S := (((((((S.nil.cons S 2 rfl).cons S 1 rfl).cons S 0 rfl).cons S 30 rfl).cons S 31 rfl).cons S 32 rfl).cons S 5 rfl).cons S 4 rfl
     refine g_region ?_
     refine gy rfl rfl rfl S (y_add rfl S rfl rfl (by omega)) fun a S => ?_
     refine gm S fun a S => ?_
     refine gnt ?_
     first
     | exact ⟨(k + 1, u54), ((S.nil.cons S 32 rfl).cons S 5 (by dsimp only; first | (rw [hta, ← hx]; rfl) | (rw [hta]; rfl))).cons S 4 rfl, ((((S.nil.cons S 2 rfl).cons S 1 rfl).cons S 0 rfl).cons S 30 rfl).cons S 31 rfl, ⟨by dsimp only; omega, hne2, by dsimp only; rw [hos]; exact H.takeT [OSl 85 u54 9 Pl.enc (oldsT old (ts.take k) ++ [old[x]]), Cel b 76 [v1, v2, vt, .bool false], OSl 66 vt 11 Ow.enc (ts), Sl v1 9 Pl.enc old, Sl v2 9 Pl.enc next, Atom.ro (Cel bp 3 [.int .i64 place]), Atom.ro (Cel bt 27 [.pointer (some ⟨b, 0, none⟩)]), Atom.ro (Cel bs 3 [.int .i64 serial])] l⟩, by dsimp only; omega⟩
     | exact ⟨(k + 1, vp), ((S.nil.cons S 32 rfl).cons S 5 (by dsimp only; rw [hta]; rfl)).cons S 4 rfl, ((((S.nil.cons S 2 rfl).cons S 1 rfl).cons S 0 rfl).cons S 30 rfl).cons S 31 rfl, ⟨by dsimp only; omega, hne2, by dsimp only; rw [hos]; exact H.takeT [OSl 85 vp 9 Pl.enc (oldsT old (ts.take k)), Cel b 76 [v1, v2, vt, .bool false], OSl 66 vt 11 Ow.enc (ts), Sl v1 9 Pl.enc old, Sl v2 9 Pl.enc next, Atom.ro (Cel bp 3 [.int .i64 place]), Atom.ro (Cel bt 27 [.pointer (some ⟨b, 0, none⟩)]), Atom.ro (Cel bs 3 [.int .i64 serial])] l⟩, by dsimp only; omega⟩
  ·have h5p := h5; try simp only [DL] at h5p
   obtain rfl : k = ts.length := by omega
   rw [List.take_length] at H hne
   rw [List.take_length] at S
   have hU := used_no hne
   refine g_exit ?_
   refine x_then (x_then (x_eq ?_))
   refine n_then ?_
   have S := ((((S.nil.cons S 2 rfl).cons S 1 rfl).cons S 0 rfl).cons S 5 rfl).cons S 4 rfl
   refine g_seq ?_
   refine g_block ?_
   refine gsr ?_
   refine gm S fun a S => ?_
   refine ga S fun a S => ?_
   refine gnt ?_
   refine c_if S rfl (fun h9 => ?_) (fun h9 => ?_)
   ·have h9p := h9; try simp only [DL] at h9p
    have hE := sellE_taken (next := next) hA hU h9
    refine gsr ?_
    refine ga S fun a S => ?_
    refine gnt ?_
    have S := (((S.nil.cons S 2 rfl).cons S 1 rfl).cons S 0 rfl).cons S 3 rfl
    refine g_ret ?_
    refine r_block (r_then (ret1 rfl S rfl ?_))
    exact ⟨by rw [hE], vt, by rw [sellT_err (by rw [hE]; decide)]; exact H.takeT [Cel b 76 [v1, v2, vt, .bool false], OSl 66 vt 11 Ow.enc (ts), Sl v1 9 Pl.enc old, Sl v2 9 Pl.enc next, Atom.ro (Cel bp 3 [.int .i64 place]), Atom.ro (Cel bt 27 [.pointer (some ⟨b, 0, none⟩)]), Atom.ro (Cel bs 3 [.int .i64 serial])] l⟩
   ·have h9p := h9; try simp only [DL] at h9p
    have hT : takenB ts place = false := h9
    refine gsr ?_
    refine gm S fun a S => ?_
    refine gy rfl rfl rfl S (y_lens rfl Try.underlying22 S H rfl) fun a S => ?_
    refine gy rfl rfl rfl S (y_bin rfl S rfl rfl rfl) fun a S => ?_
    refine ga S fun a S => ?_
    refine gnt ?_
    have S := ((((S.nil.cons S 2 rfl).cons S 1 rfl).cons S 0 rfl).cons S 4 rfl).cons S 66 rfl
    refine c_if S rfl (fun h10 => ?_) (fun h10 => ?_)
    ·have h10p := h10; try simp only [DL] at h10p
     have hE := sellE_full (next := next) hA hU hT (by rw [← oldsT_len old]; have := h10p; omega)
     refine gsr ?_
     refine ga S fun a S => ?_
     refine gnt ?_
     refine g_ret ?_
     refine r_block (r_then (ret1 rfl S rfl ?_))
     exact ⟨by rw [hE], vt, by rw [sellT_err (by rw [hE]; decide)]; exact H.takeT [Cel b 76 [v1, v2, vt, .bool false], OSl 66 vt 11 Ow.enc (ts), Sl v1 9 Pl.enc old, Sl v2 9 Pl.enc next, Atom.ro (Cel bp 3 [.int .i64 place]), Atom.ro (Cel bt 27 [.pointer (some ⟨b, 0, none⟩)]), Atom.ro (Cel bs 3 [.int .i64 serial])] l⟩
    ·have h10p := h10; try simp only [DL] at h10p
     have hL : (movedL ts).length < 4000 := by rw [← oldsT_len old]; have := h10p; omega
     have hxl : place.toNat < old.length := by omega
     refine g_seq ?_
     refine cut (fun a w => St 102 [(0, .pointer (some ⟨bp, 0, none⟩)), (1, .pointer (some ⟨bt, 0, none⟩)), (2, .pointer (some ⟨bs, 0, none⟩)), (70, .bool (denyB old next ts place))] a ∧ HSat M u0 (Cel b 76 [v1, v2, vt, .bool false] :: OSl 66 vt 11 Ow.enc (ts) :: Sl v1 9 Pl.enc old :: Sl v2 9 Pl.enc next :: Atom.ro (Cel bp 3 [.int .i64 place]) :: Atom.ro (Cel bt 27 [.pointer (some ⟨b, 0, none⟩)]) :: Atom.ro (Cel bs 3 [.int .i64 serial]) :: l) w) ?_ ?_
     ·skip
      refine t_st (tails := [11]) [Atom.ro (Cel bt 27 [.pointer (some ⟨b, 0, none⟩)])] Fmo H ?_
      refine t_f 0 rfl (by kernel_rfl) (rem' := [1, 2, 3, 4, 5, 6, 7, 8, 9, 10, 11, 12, 13, 14, 15, 16, 17]) rfl rfl rfl rfl S (fun w H => y_load rfl Fsca27 S H rfl rfl) fun a S => ?_
      refine t_q 1 rfl (by kernel_rfl) (rem' := [2, 3, 4, 5, 6, 7, 8, 9, 10, 11, 12, 13, 14, 15, 16, 17]) rfl rfl rfl rfl S (fun w H => y_move rfl S rfl) fun a S => ?_
      refine t_q 3 rfl (by kernel_rfl) (rem' := [2, 4, 5, 6, 7, 8, 9, 10, 11, 12, 13, 14, 15, 16, 17]) rfl rfl rfl rfl S (fun w H => y_load rfl Fsca27 S H rfl rfl) fun a S => ?_
      refine t_q 4 rfl (by kernel_rfl) (rem' := [2, 5, 6, 7, 8, 9, 10, 11, 12, 13, 14, 15, 16, 17]) rfl rfl rfl rfl S (fun w H => y_nilCheck rfl S rfl) fun a S => ?_
      refine t_q 5 rfl (by kernel_rfl) (rem' := [2, 6, 7, 8, 9, 10, 11, 12, 13, 14, 15, 16, 17]) rfl rfl rfl rfl S (fun w H => y_faddrb rfl Ffo76_0 S rfl) fun a S => ?_
      refine t_q 6 rfl (by kernel_rfl) (rem' := [2, 7, 8, 9, 10, 11, 12, 13, 14, 15, 16, 17]) rfl rfl rfl rfl S (fun w H => y_load rfl Fsca22 S H rfl rfl) fun a S => ?_
      refine t_q 7 rfl (by kernel_rfl) (rem' := [2, 8, 9, 10, 11, 12, 13, 14, 15, 16, 17]) rfl rfl rfl rfl S (fun w H => y_load rfl Fsca3 S H rfl rfl) fun a S => ?_
      refine t_q 8 rfl (by kernel_rfl) (rem' := [2, 9, 10, 11, 12, 13, 14, 15, 16, 17]) rfl rfl rfl rfl S (fun w H => y_iaddrs rfl Try.underlying22 Fsiz85 S H rfl rfl (by first | assumption | omega | (simp only [LL]; omega))) fun a S => ?_
      refine t_loadsa _ 9 rfl (by kernel_rfl) (rem' := [2, 10, 11, 12, 13, 14, 15, 16, 17]) rfl rfl rfl rfl S rfl rfl (by exact Fagg85) (by first | assumption | omega | (simp only [LL]; omega)) fun a S => ?_
      refine t_f 13 rfl (by kernel_rfl) (rem' := [2, 10, 11, 12, 14, 15, 16, 17]) rfl rfl rfl rfl S (fun w H => y_load rfl Fsca27 S H rfl rfl) fun a S => ?_
      refine t_p 14 rfl (by kernel_rfl) (rem' := [2, 10, 11, 12, 15, 16, 17]) rfl rfl rfl rfl S (fun w => y_move rfl S rfl) fun a S => ?_
      refine t_b [2, 10] (by kernel_rfl) rfl (fa2 ?_ ?_)
      ·refine ⟨_, rfl, fun w H => ?_⟩
       refine op_call (wn rfl) rfl rfl S (co_func rfl Try.call40 S rfl) (clonePl_spec vp (oldsT old ts) _ (H.sl vp) (by rw [oldsT_len]; omega)) fun u73 w hc a S => ?_
       have H1 := hc
       have H := H.call1 H1 rfl
       refine t_n H (rem' := [10, 11, 12, 15, 16, 17]) rfl ?_
       refine t_b1 10 (by kernel_rfl) rfl fun w H => ?_
       refine op_buildSlice (wn rfl) rfl rfl rfl Try.underlying22 Finf85 S H (idx := [0]) rfl rfl rfl (z := [.int .i64 0, .int .i64 0, .int .i64 0, .int .i64 0, .int .i64 0, .int .i64 0, .int .i64 0, .int .i64 0, .int .i64 0]) (by kernel_rfl) (cs := [.int .i64 old[place.toNat].kind, .int .i64 old[place.toNat].level, .int .i64 old[place.toNat].block, .int .i64 old[place.toNat].row, .int .i64 old[place.toNat].seat, .int .i64 old[place.toNat].x, .int .i64 old[place.toNat].y, .int .i64 old[place.toNat].view, .int .i64 old[place.toNat].with_]) (by kernel_rfl) fun b81 a w S H => ?_
       refine t_n H (rem' := [11, 12, 15, 16, 17]) rfl ?_
       refine t_b1 11 (by kernel_rfl) rfl fun w H => ?_
       refine op_append ([old[place.toNat]]) (wn rfl) rfl rfl rfl Try.underlying22 Finf85 rfl rfl S H rfl rfl rfl rfl (by simp) (by simp [Pl.enc]) (by simp [Pl.enc, Value.oneCell']) (by simp only [List.length_append, List.length_cons, List.length_nil, oldsT_len]; omega) (by simp only [List.length_append, List.length_cons, List.length_nil, oldsT_len]; omega) fun u82 a w hn82 S H => ?_
       refine t_tail H rfl (rem' := [12, 15, 16, 17]) rfl ?_
       refine t_c 12 rfl (by kernel_rfl) (rem' := [15, 16, 17]) rfl rfl rfl rfl S (fun w => co_func rfl Try.call39 S rfl) (fun w H => seated_spec b v1 v2 vt false u82 (oldsT old ts ++ [old[place.toNat]]) next _ (H.rd b) (H.sl u82) (H.sl v2) (by simp only [List.length_append, oldsT_len, List.length_cons, List.length_nil]; omega) htw.nx) fun a S => ?_
       refine t_c 15 rfl (by kernel_rfl) (rem' := [16, 17]) rfl rfl rfl rfl S (fun w => co_func rfl Try.call39 S rfl) (fun w H => seated_spec b v1 v2 vt false vp (oldsT old ts) next _ (H.rd b) (H.sl vp) (H.sl v2) (by simp only [List.length_append, oldsT_len, List.length_cons, List.length_nil]; omega) htw.nx) fun a S => ?_
       refine t_q 16 rfl (by kernel_rfl) (rem' := [17]) rfl rfl rfl rfl S (fun w H => y_bin rfl S rfl rfl rfl) fun a S => ?_
       refine t_q 17 rfl (by kernel_rfl) (rem' := []) rfl rfl rfl rfl S (fun w H => y_assign rfl S rfl) fun a S => ?_
       refine t_nil (fun w H => ?_)
       exact ⟨(((S.nil.cons S 70 (by rw [nat_beq, show denyB old next ts place = decide (rk (oldsT old ts ++ [old[place.toNat]]) next = rk (oldsT old ts) next) by unfold denyB; rw [List.getD_eq_getElem?_getD, List.getElem?_eq_getElem hxl]; rfl]; rfl)).cons S 2 rfl).cons S 1 rfl).cons S 0 rfl, H.takeT [Cel b 76 [v1, v2, vt, .bool false], OSl 66 vt 11 Ow.enc (ts), Sl v1 9 Pl.enc old, Sl v2 9 Pl.enc next, Atom.ro (Cel bp 3 [.int .i64 place]), Atom.ro (Cel bt 27 [.pointer (some ⟨b, 0, none⟩)]), Atom.ro (Cel bs 3 [.int .i64 serial])] l⟩
      ·refine ⟨_, rfl, fun w H => ?_⟩
       refine op_buildSlice (wn rfl) rfl rfl rfl Try.underlying22 Finf85 S H (idx := [0]) rfl rfl rfl (z := [.int .i64 0, .int .i64 0, .int .i64 0, .int .i64 0, .int .i64 0, .int .i64 0, .int .i64 0, .int .i64 0, .int .i64 0]) (by kernel_rfl) (cs := [.int .i64 old[place.toNat].kind, .int .i64 old[place.toNat].level, .int .i64 old[place.toNat].block, .int .i64 old[place.toNat].row, .int .i64 old[place.toNat].seat, .int .i64 old[place.toNat].x, .int .i64 old[place.toNat].y, .int .i64 old[place.toNat].view, .int .i64 old[place.toNat].with_]) (by kernel_rfl) fun b81 a w S H => ?_
       refine t_n H (rem' := [2, 11, 12, 15, 16, 17]) rfl ?_
       refine t_b1 2 (by kernel_rfl) rfl fun w H => ?_
       refine op_call (wn rfl) rfl rfl S (co_func rfl Try.call40 S rfl) (clonePl_spec vp (oldsT old ts) _ (H.sl vp) (by rw [oldsT_len]; omega)) fun u73 w hc a S => ?_
       have H1 := hc
       have H := H.call1 H1 rfl
       refine t_n H (rem' := [11, 12, 15, 16, 17]) rfl ?_
       refine t_b1 11 (by kernel_rfl) rfl fun w H => ?_
       refine op_append ([old[place.toNat]]) (wn rfl) rfl rfl rfl Try.underlying22 Finf85 rfl rfl S H rfl rfl rfl rfl (by simp) (by simp [Pl.enc]) (by simp [Pl.enc, Value.oneCell']) (by simp only [List.length_append, List.length_cons, List.length_nil, oldsT_len]; omega) (by simp only [List.length_append, List.length_cons, List.length_nil, oldsT_len]; omega) fun u82 a w hn82 S H => ?_
       refine t_tail H rfl (rem' := [12, 15, 16, 17]) rfl ?_
       refine t_c 12 rfl (by kernel_rfl) (rem' := [15, 16, 17]) rfl rfl rfl rfl S (fun w => co_func rfl Try.call39 S rfl) (fun w H => seated_spec b v1 v2 vt false u82 (oldsT old ts ++ [old[place.toNat]]) next _ (H.rd b) (H.sl u82) (H.sl v2) (by simp only [List.length_append, oldsT_len, List.length_cons, List.length_nil]; omega) htw.nx) fun a S => ?_
       refine t_c 15 rfl (by kernel_rfl) (rem' := [16, 17]) rfl rfl rfl rfl S (fun w => co_func rfl Try.call39 S rfl) (fun w H => seated_spec b v1 v2 vt false vp (oldsT old ts) next _ (H.rd b) (H.sl vp) (H.sl v2) (by simp only [List.length_append, oldsT_len, List.length_cons, List.length_nil]; omega) htw.nx) fun a S => ?_
       refine t_q 16 rfl (by kernel_rfl) (rem' := [17]) rfl rfl rfl rfl S (fun w H => y_bin rfl S rfl rfl rfl) fun a S => ?_
       refine t_q 17 rfl (by kernel_rfl) (rem' := []) rfl rfl rfl rfl S (fun w H => y_assign rfl S rfl) fun a S => ?_
       refine t_nil (fun w H => ?_)
       exact ⟨(((S.nil.cons S 70 (by rw [nat_beq, show denyB old next ts place = decide (rk (oldsT old ts ++ [old[place.toNat]]) next = rk (oldsT old ts) next) by unfold denyB; rw [List.getD_eq_getElem?_getD, List.getElem?_eq_getElem hxl]; rfl]; rfl)).cons S 2 rfl).cons S 1 rfl).cons S 0 rfl, H.takeT [Cel b 76 [v1, v2, vt, .bool false], OSl 66 vt 11 Ow.enc (ts), Sl v1 9 Pl.enc old, Sl v2 9 Pl.enc next, Atom.ro (Cel bp 3 [.int .i64 place]), Atom.ro (Cel bt 27 [.pointer (some ⟨b, 0, none⟩)]), Atom.ro (Cel bs 3 [.int .i64 serial])] l⟩
     rintro a w ⟨S, H⟩
     refine c_if S rfl (fun h11 => ?_) (fun h11 => ?_)
     ·have h11p := h11; try simp only [DL] at h11p
      have hE := sellE_deny hA hU hT hL h11
      refine gsr ?_
      refine ga S fun a S => ?_
      refine gnt ?_
      refine g_ret ?_
      refine r_block (r_then (ret1 rfl S rfl ?_))
      exact ⟨by rw [hE], vt, by rw [sellT_err (by rw [hE]; decide)]; exact H⟩
     ·have h11p := h11; try simp only [DL] at h11p
      obtain ⟨hE, hTT⟩ := sellE_ok hA hU hT hL h11
      refine g_skip ?_
      refine n_block ?_
      refine n_then ?_
      refine g_seq ?_
      refine cut (fun a w => ∃ vt2, St 102 [(0, .pointer (some ⟨bp, 0, none⟩))] a ∧ HSat M u0 (Cel b 76 [v1, v2, vt2, .bool false] :: OSl 66 vt2 11 Ow.enc (ts ++ [newOw serial place]) :: Sl v1 9 Pl.enc old :: Sl v2 9 Pl.enc next :: Atom.ro (Cel bp 3 [.int .i64 place]) :: Atom.ro (Cel bt 27 [.pointer (some ⟨b, 0, none⟩)]) :: Atom.ro (Cel bs 3 [.int .i64 serial]) :: l) w) ?_ ?_
      ·skip
       refine t_st (tails := [11, 14]) [Atom.ro (Cel bt 27 [.pointer (some ⟨b, 0, none⟩)])] Fmo H ?_
       refine t_f 0 rfl (by kernel_rfl) (rem' := [1, 2, 3, 4, 5, 6, 7, 8, 9, 10, 11, 12, 13, 14]) rfl rfl rfl rfl S (fun w H => y_load rfl Fsca27 S H rfl rfl) fun a S => ?_
       refine t_q 1 rfl (by kernel_rfl) (rem' := [2, 3, 4, 5, 6, 7, 8, 9, 10, 11, 12, 13, 14]) rfl rfl rfl rfl S (fun w H => y_load rfl Fsca27 S H rfl rfl) fun a S => ?_
       refine t_q 2 rfl (by kernel_rfl) (rem' := [3, 4, 5, 6, 7, 8, 9, 10, 11, 12, 13, 14]) rfl rfl rfl rfl S (fun w H => y_nilCheck rfl S rfl) fun a S => ?_
       refine t_q 3 rfl (by kernel_rfl) (rem' := [4, 5, 6, 7, 8, 9, 10, 11, 12, 13, 14]) rfl rfl rfl rfl S (fun w H => y_faddrb rfl Ffo76_2 S rfl) fun a S => ?_
       refine t_q 4 rfl (by kernel_rfl) (rem' := [5, 6, 7, 8, 9, 10, 11, 12, 13, 14]) rfl rfl rfl rfl S (fun w H => y_load rfl Fsca23 S H rfl rfl) fun a S => ?_
       refine t_q 6 rfl (by kernel_rfl) (rem' := [5, 7, 8, 9, 10, 11, 12, 13, 14]) rfl rfl rfl rfl S (fun w H => y_load rfl Fsca3 S H rfl rfl) fun a S => ?_
       refine t_q 7 rfl (by kernel_rfl) (rem' := [5, 8, 9, 10, 11, 12, 13, 14]) rfl rfl rfl rfl S (fun w H => y_load rfl Fsca3 S H rfl rfl) fun a S => ?_
       refine t_q 8 rfl (by kernel_rfl) (rem' := [5, 9, 10, 11, 12, 13, 14]) rfl rfl rfl rfl S (fun w H => y_buildf rfl Fbld60 S rfl (idx := [0, 2]) rfl (cs := [.int .i64 serial, .int .i64 0, .int .i64 place, .string ⟨#[]⟩, .slice none 0 0]) (by kernel_rfl)) fun a S => ?_
       refine t_q 9 rfl (by kernel_rfl) (rem' := [5, 10, 11, 12, 13, 14]) rfl rfl rfl rfl S (fun w H => y_buildf rfl Fbld66 S rfl (idx := [0]) rfl (cs := [.int .i64 (newOw serial place).serial, .int .i64 (newOw serial place).show_, .int .i64 (newOw serial place).place, (newOw serial place).first, (newOw serial place).chain, (newOw serial place).person, (newOw serial place).lines, .int .i64 (newOw serial place).total, (newOw serial place).means, .int .i64 (newOw serial place).gone, (newOw serial place).offers]) (by kernel_rfl)) fun a S => ?_
       refine t_b [5, 10] (by kernel_rfl) rfl (fa2 ?_ ?_)
       ·refine ⟨_, rfl, fun w H => ?_⟩
        refine op_call (wn rfl) rfl rfl S (co_func rfl Try.call29 S rfl) (cloneOw_spec vt ts _ (H.sl vt) hok (by omega)) fun u93 w hc a S => ?_
        have H1 := hc
        have H := H.call1 H1 rfl
        refine t_n H (rem' := [10, 11, 12, 13, 14]) rfl ?_
        refine t_b1 10 (by kernel_rfl) rfl fun w H => ?_
        refine op_buildSlice (wn rfl) rfl rfl rfl Try.underlying23 Finf66 S H (idx := [0]) rfl rfl rfl (z := [.int .i64 0, .int .i64 0, .int .i64 0, .string ⟨#[]⟩, .slice none 0 0, .string ⟨#[]⟩, .slice none 0 0, .int .i64 0, .slice none 0 0, .int .i64 0, .slice none 0 0]) (by kernel_rfl) (cs := [.int .i64 (newOw serial place).serial, .int .i64 (newOw serial place).show_, .int .i64 (newOw serial place).place, (newOw serial place).first, (newOw serial place).chain, (newOw serial place).person, (newOw serial place).lines, .int .i64 (newOw serial place).total, (newOw serial place).means, .int .i64 (newOw serial place).gone, (newOw serial place).offers]) (by kernel_rfl) fun b98 a w S H => ?_
        refine t_n H (rem' := [11, 12, 13, 14]) rfl ?_
        refine t_b1 11 (by kernel_rfl) rfl fun w H => ?_
        refine op_append ([newOw serial place]) (wn rfl) rfl rfl rfl Try.underlying23 Finf66 rfl rfl S H rfl rfl rfl rfl (by simp) (by simp [Ow.enc]) (by exact newOw_one serial place) (by simp only [List.length_append, List.length_cons, List.length_nil]; omega) (by simp only [List.length_append, List.length_cons, List.length_nil]; omega) fun u99 a w hn99 S H => ?_
        refine t_tail H rfl (rem' := [12, 13, 14]) rfl ?_
        refine t_q 12 rfl (by kernel_rfl) (rem' := [13, 14]) rfl rfl rfl rfl S (fun w H => y_nilCheck rfl S rfl) fun a S => ?_
        refine t_q 13 rfl (by kernel_rfl) (rem' := [14]) rfl rfl rfl rfl S (fun w H => y_faddrb rfl Ffo76_2 S rfl) fun a S => ?_
        refine t_b1 14 (by kernel_rfl) rfl fun w H => ?_
        refine op_store (wn rfl) rfl rfl S H rfl rfl (H.sl1 _) Fsiz23 rfl fun a w S H => ?_
        dsimp only [List.set, Nat.zero_add, Nat.reduceAdd] at H
        refine t_tail H rfl (rem' := []) rfl ?_
        refine t_nil (fun w H => ?_)
        exact ⟨u99, S.nil.cons S 0 rfl, H.takeT [Cel b 76 [v1, v2, u99, .bool false], OSl 66 u99 11 Ow.enc (ts ++ [newOw serial place]), Sl v1 9 Pl.enc old, Sl v2 9 Pl.enc next, Atom.ro (Cel bp 3 [.int .i64 place]), Atom.ro (Cel bt 27 [.pointer (some ⟨b, 0, none⟩)]), Atom.ro (Cel bs 3 [.int .i64 serial])] l⟩
       ·refine ⟨_, rfl, fun w H => ?_⟩
        refine op_buildSlice (wn rfl) rfl rfl rfl Try.underlying23 Finf66 S H (idx := [0]) rfl rfl rfl (z := [.int .i64 0, .int .i64 0, .int .i64 0, .string ⟨#[]⟩, .slice none 0 0, .string ⟨#[]⟩, .slice none 0 0, .int .i64 0, .slice none 0 0, .int .i64 0, .slice none 0 0]) (by kernel_rfl) (cs := [.int .i64 (newOw serial place).serial, .int .i64 (newOw serial place).show_, .int .i64 (newOw serial place).place, (newOw serial place).first, (newOw serial place).chain, (newOw serial place).person, (newOw serial place).lines, .int .i64 (newOw serial place).total, (newOw serial place).means, .int .i64 (newOw serial place).gone, (newOw serial place).offers]) (by kernel_rfl) fun b98 a w S H => ?_
        refine t_n H (rem' := [5, 11, 12, 13, 14]) rfl ?_
        refine t_b1 5 (by kernel_rfl) rfl fun w H => ?_
        refine op_call (wn rfl) rfl rfl S (co_func rfl Try.call29 S rfl) (cloneOw_spec vt ts _ (H.sl vt) hok (by omega)) fun u93 w hc a S => ?_
        have H1 := hc
        have H := H.call1 H1 rfl
        refine t_n H (rem' := [11, 12, 13, 14]) rfl ?_
        refine t_b1 11 (by kernel_rfl) rfl fun w H => ?_
        refine op_append ([newOw serial place]) (wn rfl) rfl rfl rfl Try.underlying23 Finf66 rfl rfl S H rfl rfl rfl rfl (by simp) (by simp [Ow.enc]) (by exact newOw_one serial place) (by simp only [List.length_append, List.length_cons, List.length_nil]; omega) (by simp only [List.length_append, List.length_cons, List.length_nil]; omega) fun u99 a w hn99 S H => ?_
        refine t_tail H rfl (rem' := [12, 13, 14]) rfl ?_
        refine t_q 12 rfl (by kernel_rfl) (rem' := [13, 14]) rfl rfl rfl rfl S (fun w H => y_nilCheck rfl S rfl) fun a S => ?_
        refine t_q 13 rfl (by kernel_rfl) (rem' := [14]) rfl rfl rfl rfl S (fun w H => y_faddrb rfl Ffo76_2 S rfl) fun a S => ?_
        refine t_b1 14 (by kernel_rfl) rfl fun w H => ?_
        refine op_store (wn rfl) rfl rfl S H rfl rfl (H.sl1 _) Fsiz23 rfl fun a w S H => ?_
        dsimp only [List.set, Nat.zero_add, Nat.reduceAdd] at H
        refine t_tail H rfl (rem' := []) rfl ?_
        refine t_nil (fun w H => ?_)
        exact ⟨u99, S.nil.cons S 0 rfl, H.takeT [Cel b 76 [v1, v2, u99, .bool false], OSl 66 u99 11 Ow.enc (ts ++ [newOw serial place]), Sl v1 9 Pl.enc old, Sl v2 9 Pl.enc next, Atom.ro (Cel bp 3 [.int .i64 place]), Atom.ro (Cel bt 27 [.pointer (some ⟨b, 0, none⟩)]), Atom.ro (Cel bs 3 [.int .i64 serial])] l⟩
      rintro a w ⟨vt2, S, H⟩
      refine gsr ?_
      refine ga S fun a S => ?_
      refine gnt ?_
      refine g_ret ?_
      refine ret1 rfl S rfl ?_
      rw [hE, hTT]; exact ⟨rfl, vt2, H⟩
/-- (*foyer/twin.Twin).Sell -/
theorem sell_no (pp : Option Addr) (place serial : Int) (e : Int) (he : e ≠ 0) (w0 : World) (hr : ∀ w, Ext w0 w → Ret Try.prog 32 #[.pointer pp] w (fun u w' => u = .int .i64 e ∧ Ext w w')) :
    Ret Try.prog 13 #[.pointer pp, .int .i64 place, .int .i64 serial] w0 (fun u w => u = .int .i64 e ∧ Ext w0 w) := by
 refine ret_of_wp (nt := 11) Try.func13 rfl rfl rfl (fl := [(0, .pointer pp), (1, .int .i64 place), (2, .int .i64 serial)]) rfl (fun a S => ?_)
 have H := HSat.start w0
 refine gsr ?_
 refine wl_of (op_box1 (wn rfl) rfl rfl rfl S H rfl rfl fun b3 a w S H => ?_)
 refine wl_of (op_box1 (wn rfl) rfl rfl rfl S H rfl rfl fun b4 a w S H => ?_)
 refine wl_of (op_box1 (wn rfl) rfl rfl rfl S H rfl rfl fun b5 a w S H => ?_)
 refine ga S fun a S => ?_
 refine gnt ?_
 refine gsr ?_
 refine gy rfl rfl rfl S (y_load rfl Fsca27 S H rfl rfl) fun a S => ?_
 refine gy rfl rfl rfl S (y_makeFunc rfl S rfl rfl) fun a S => ?_
 refine gy rfl rfl rfl S (y_makeFunc rfl S rfl rfl) fun a S => ?_
 refine wl_of (op_call (wn rfl) rfl rfl S (co_func rfl Try.call31 S rfl) (open_spec 32 38 [.pointer pp] [.pointer (some ⟨b4, 0, none⟩), .pointer (some ⟨b3, 0, none⟩), .pointer (some ⟨b5, 0, none⟩)] Try.call32 Try.call38 e (fun u w' => u = .int .i64 e ∧ Ext w w') w (hr w H.toExt) (fun w' _ h => absurd h he) (fun w' hx _ => ⟨rfl, hx⟩)) fun v w hc a S => ?_)
 obtain ⟨rfl, he1⟩ := hc
 have H := H.ext he1
 refine ga S fun a S => ?_
 refine gnt ?_
 have S := S.nil.cons S 6 rfl
 refine g_ret ?_
 refine ret1 rfl S rfl ?_
 exact ⟨rfl, H.toExt⟩
set_option maxHeartbeats 1000000 in
/-- (*foyer/twin.Twin).Sell -/
theorem sell_ok {M : Nat → Prop} {u0 : World} {l : List Atom} (b : Nat) (v1 v2 vt : Value) (old next : List Pl) (ts : List Ow) (place serial : Int) (n : Nat) (w0 : World) (h0 : HSat M u0 (TwA b v1 v2 vt ts :: Sl v1 9 Pl.enc old :: Sl v2 9 Pl.enc next :: l) w0) (htw : TwOK old next ts n) (hn : n ≤ 100000) :
    Ret Try.prog 13 #[.pointer (some ⟨b, 0, none⟩), .int .i64 place, .int .i64 serial] w0 (fun u w => u = .int .i64 (sellE old next ts place serial) ∧ ∃ vt2, HSat M u0 (TwA b v1 v2 vt2 (sellT old next ts place serial) :: Sl v1 9 Pl.enc old :: Sl v2 9 Pl.enc next :: l) w) := by
 refine ret_of_wp (nt := 11) Try.func13 rfl rfl rfl (fl := [(0, .pointer (some ⟨b, 0, none⟩)), (1, .int .i64 place), (2, .int .i64 serial)]) rfl (fun a S => ?_)
 have H := h0.unfold
 simp only [TwL, List.cons_append, List.nil_append] at H
 refine gsr ?_
 refine wl_of (op_box1 (wn rfl) rfl rfl rfl S H rfl rfl fun b3 a w S H => ?_)
 refine wl_of (op_box1 (wn rfl) rfl rfl rfl S H rfl rfl fun b4 a w S H => ?_)
 refine wl_of (op_box1 (wn rfl) rfl rfl rfl S H rfl rfl fun b5 a w S H => ?_)
 refine ga S fun a S => ?_
 refine gnt ?_
 refine gsr ?_
 refine gy rfl rfl rfl S (y_load rfl Fsca27 S H rfl rfl) fun a S => ?_
 refine gy rfl rfl rfl S (y_makeFunc rfl S rfl rfl) fun a S => ?_
 refine gy rfl rfl rfl S (y_makeFunc rfl S rfl rfl) fun a S => ?_
 refine wl_of (op_call (wn rfl) rfl rfl S (co_func rfl Try.call31 S rfl) (open_spec 32 38 [.pointer (some ⟨b, 0, none⟩)] [.pointer (some ⟨b4, 0, none⟩), .pointer (some ⟨b3, 0, none⟩), .pointer (some ⟨b5, 0, none⟩)] Try.call32 Try.call38 0 (fun u w' => u = .int .i64 (sellE old next ts place serial) ∧ ∃ vt2, HSat M u0 (Cel b 76 [v1, v2, vt2, .bool false] :: OSl 66 vt2 11 Ow.enc (sellT old next ts place serial) :: Sl v1 9 Pl.enc old :: Sl v2 9 Pl.enc next :: Atom.ro (Cel b4 3 [.int .i64 place]) :: Atom.ro (Cel b3 27 [.pointer (some ⟨b, 0, none⟩)]) :: Atom.ro (Cel b5 3 [.int .i64 serial]) :: l) w') w (ready_open b v1 v2 vt w (H.rd b)) (fun w' hx _ => sellIn_spec b b4 b3 b5 v1 v2 vt old next ts place serial n w' (((((((H.ext hx).front (Cel b4 3 [.int .i64 place])).freeze.front (Cel b3 27 [.pointer (some ⟨b, 0, none⟩)])).freeze).front (Cel b5 3 [.int .i64 serial])).freeze).pick [Cel b 76 [v1, v2, vt, .bool false], OSl 66 vt 11 Ow.enc (ts), Sl v1 9 Pl.enc old, Sl v2 9 Pl.enc next, Atom.ro (Cel b4 3 [.int .i64 place]), Atom.ro (Cel b3 27 [.pointer (some ⟨b, 0, none⟩)]), Atom.ro (Cel b5 3 [.int .i64 serial])]) htw hn) (fun w' _ h => absurd rfl h)) fun v w hc a S => ?_)
 obtain ⟨rfl, vt2, H⟩ := hc
 skip
 refine ga S fun a S => ?_
 refine gnt ?_
 have S := S.nil.cons S 6 rfl
 refine g_ret ?_
 refine ret1 rfl S rfl ?_
 exact ⟨rfl, vt2, HSat.fold (ls := TwL b v1 v2 vt2 (sellT old next ts place serial)) (H.takeT [Cel b 76 [v1, v2, vt2, .bool false], OSl 66 vt2 11 Ow.enc (sellT old next ts place serial), Sl v1 9 Pl.enc old, Sl v2 9 Pl.enc next] l) (by simp [TwL, OSl, Blk])⟩
set_option maxHeartbeats 1000000 in
/-- (*foyer/twin.Twin).Change$1 -/
theorem changeIn_spec {M : Nat → Prop} {u0 : World} {l : List Atom} (b bt bc : Nat) (v1 v2 vt : Value) (old next : List Pl) (ts : List Ow) (w0 : World) (h0 : HSat M u0 (Cel bc 43 [.slice none 0 0, .slice none 0 0, .slice none 0 0] :: Cel b 76 [v1, v2, vt, .bool false] :: OSl 66 vt 11 Ow.enc ts :: Sl v1 9 Pl.enc old :: Sl v2 9 Pl.enc next :: Atom.ro (Cel bt 27 [.pointer (some ⟨b, 0, none⟩)]) :: l) w0) (hok : ∀ o ∈ ts, o.ok) (hl : ts.length ≤ 100000) :
    Ret Try.prog 43 #[.pointer (some ⟨bt, 0, none⟩), .pointer (some ⟨bc, 0, none⟩)] w0 (fun u w => ∃ mv vl vr, ∃ ms : List Mv, u = .int .i64 (errP old next ts) ∧ ms.map Mv.say = sayP old next ts ∧ HSat M u0 (Cel bc 43 [mv, vl, vr] :: OSl 91 mv 3 Mv.enc ms :: RowsA 3 1 encI (rowsOf ms) :: OSl 3 vl 1 encI (clP old next ts) :: OSl 3 vr 1 encI (crP old next ts) :: Cel b 76 [v1, v2, vt, .bool false] :: OSl 66 vt 11 Ow.enc ts :: Sl v1 9 Pl.enc old :: Sl v2 9 Pl.enc next :: Atom.ro (Cel bt 27 [.pointer (some ⟨b, 0, none⟩)]) :: l) w) := by
 refine ret_of_wp (nt := 20) Try.func43 rfl rfl rfl (fl := [(0, .pointer (some ⟨bt, 0, none⟩)), (1, .pointer (some ⟨bc, 0, none⟩))]) rfl (fun a S => ?_)
 have H := h0
 refine gsr ?_
 refine ga S fun a S => ?_
 refine gnt ?_
 refine g_seq ?_
 refine region_st (loud := [12, 16]) (tails := [16]) (free := [15]) [0, 1, 2, 3, 4, 5, 6, 7, 8, 9, 10, 11, 12, 13, 14, 15, 16, 17] [] Fmo (by kernel_rfl) (by kernel_rfl) rfl H ?_
 refine m_w rfl rfl (wn rfl) rfl rfl S (fun w H => y_load rfl Fsca27 S H rfl rfl) fun a S => ?_
 refine m_w rfl rfl (wn rfl) rfl rfl S (fun w H => y_nilCheck rfl S rfl) fun a S => ?_
 refine m_w rfl rfl (wn rfl) rfl rfl S (fun w H => y_faddrb rfl Ffo76_0 S rfl) fun a S => ?_
 refine m_w rfl rfl (wn rfl) rfl rfl S (fun w H => y_load rfl Fsca22 S H rfl rfl) fun a S => ?_
 refine m_w rfl rfl (wn rfl) rfl rfl S (fun w H => y_load rfl Fsca27 S H rfl rfl) fun a S => ?_
 refine m_w rfl rfl (wn rfl) rfl rfl S (fun w H => y_nilCheck rfl S rfl) fun a S => ?_
 refine m_w rfl rfl (wn rfl) rfl rfl S (fun w H => y_faddrb rfl Ffo76_1 S rfl) fun a S => ?_
 refine m_w rfl rfl (wn rfl) rfl rfl S (fun w H => y_load rfl Fsca22 S H rfl rfl) fun a S => ?_
 refine m_w rfl rfl (wn rfl) rfl rfl S (fun w H => y_load rfl Fsca27 S H rfl rfl) fun a S => ?_
 refine m_w rfl rfl (wn rfl) rfl rfl S (fun w H => y_nilCheck rfl S rfl) fun a S => ?_
 refine m_w rfl rfl (wn rfl) rfl rfl S (fun w H => y_faddrb rfl Ffo76_2 S rfl) fun a S => ?_
 refine m_w rfl rfl (wn rfl) rfl rfl S (fun w H => y_load rfl Fsca23 S H rfl rfl) fun a S => ?_
 refine m_l rfl rfl (fun w H => op_call (wn rfl) rfl rfl S (co_func rfl Try.call28 S rfl) (plan_any v1 v2 old next vt ts _ (H.sl v1) (H.sl v2) (H.sl vt) hok hl) fun u16 w hc a S => ?_)
 obtain ⟨mv, vl, vr, ms, rfl, hms, H1⟩ := hc
 have H := H.call4 H1 rfl rfl rfl rfl
 refine m_next H (by repeat (first | exact List.Sublist.refl _ | apply List.Sublist.cons)) ?_
 refine m_w rfl rfl (wn rfl) rfl rfl S (fun w H => y_move rfl S rfl) fun a S => ?_
 refine m_w rfl rfl (wn rfl) rfl rfl S (fun w H => y_extract rfl S rfl rfl) fun a S => ?_
 refine m_f rfl rfl (wn rfl) rfl rfl S (fun w H => y_extract rfl S rfl rfl) fun a S => ?_
 refine m_l rfl rfl (fun w H => op_storea (wn rfl) rfl rfl S H rfl rfl (by rw [List.all_cons, List.all_cons, List.all_cons, H.sl1 mv, H.sl1 vl, H.sl1 vr]; rfl) Fsiz43 rfl (cs' := [_, _, _]) rfl fun a w S H => m_tail H rfl ?_)
 refine m_w rfl rfl (wn rfl) rfl rfl S (fun w H => y_assign rfl S rfl) fun a S => ?_
 refine m_nil (fun w H => ?_)
 refine n_then ?_
 have S := S.nil.cons S 2 rfl
 refine gsr ?_
 refine gm S fun a S => ?_
 refine ga S fun a S => ?_
 refine gnt ?_
 refine g_ret ?_
 refine ret1 rfl S rfl ?_
 exact ⟨mv, vl, vr, ms, rfl, hms, H.takeT [Cel bc 43 [mv, vl, vr], OSl 91 mv 3 Mv.enc ms, RowsA 3 1 encI (rowsOf ms), OSl 3 vl 1 encI (clP old next ts), OSl 3 vr 1 encI (crP old next ts), Cel b 76 [v1, v2, vt, .bool false], OSl 66 vt 11 Ow.enc ts, Sl v1 9 Pl.enc old, Sl v2 9 Pl.enc next, Atom.ro (Cel bt 27 [.pointer (some ⟨b, 0, none⟩)])] l⟩
set_option maxHeartbeats 1000000 in
/-- (*foyer/twin.Twin).Change -/
theorem change_ok {M : Nat → Prop} {u0 : World} {l : List Atom} (b : Nat) (v1 v2 vt : Value) (old next : List Pl) (ts : List Ow) (w0 : World) (h0 : HSat M u0 (TwA b v1 v2 vt ts :: Sl v1 9 Pl.enc old :: Sl v2 9 Pl.enc next :: l) w0) (hok : ∀ o ∈ ts, o.ok) (hl : ts.length ≤ 100000) :
    Ret Try.prog 15 #[.pointer (some ⟨b, 0, none⟩)] w0 (fun u w => ∃ mv vl vr, ∃ ms : List Mv, u = .tuple #[.agg #[mv, vl, vr], .int .i64 (errP old next ts)] ∧ ms.map Mv.say = sayP old next ts ∧ HSat M u0 (TwA b v1 v2 vt ts :: OSl 91 mv 3 Mv.enc ms :: RowsA 3 1 encI (rowsOf ms) :: OSl 3 vl 1 encI (clP old next ts) :: OSl 3 vr 1 encI (crP old next ts) :: Sl v1 9 Pl.enc old :: Sl v2 9 Pl.enc next :: l) w) := by
 refine ret_of_wp (nt := 10) Try.func15 rfl rfl rfl (fl := [(0, .pointer (some ⟨b, 0, none⟩))]) rfl (fun a S => ?_)
 have H := h0.unfold
 simp only [TwL, List.cons_append, List.nil_append] at H
 refine gsr ?_
 refine wl_of (op_box1 (wn rfl) rfl rfl rfl S H rfl rfl fun b1 a w S H => ?_)
 refine wl_of (op_alloc (wn rfl) rfl rfl rfl S H Fzer43 fun b2 a w S H => ?_)
 refine ga S fun a S => ?_
 refine gnt ?_
 refine gsr ?_
 refine gy rfl rfl rfl S (y_load rfl Fsca27 S H rfl rfl) fun a S => ?_
 refine gy rfl rfl rfl S (y_makeFunc rfl S rfl rfl) fun a S => ?_
 refine gy rfl rfl rfl S (y_makeFunc rfl S rfl rfl) fun a S => ?_
 refine wl_of (op_call (wn rfl) rfl rfl S (co_func rfl Try.call31 S rfl) (open_spec 32 43 [.pointer (some ⟨b, 0, none⟩)] [.pointer (some ⟨b1, 0, none⟩), .pointer (some ⟨b2, 0, none⟩)] Try.call32 Try.call43 0 (fun u w' => ∃ mv vl vr, ∃ ms : List Mv, u = .int .i64 (errP old next ts) ∧ ms.map Mv.say = sayP old next ts ∧ HSat M u0 (Cel b2 43 [mv, vl, vr] :: OSl 91 mv 3 Mv.enc ms :: RowsA 3 1 encI (rowsOf ms) :: OSl 3 vl 1 encI (clP old next ts) :: OSl 3 vr 1 encI (crP old next ts) :: Cel b 76 [v1, v2, vt, .bool false] :: OSl 66 vt 11 Ow.enc ts :: Sl v1 9 Pl.enc old :: Sl v2 9 Pl.enc next :: Atom.ro (Cel b1 27 [.pointer (some ⟨b, 0, none⟩)]) :: l) w') w (ready_open b v1 v2 vt w (H.rd b)) (fun w' hx _ => changeIn_spec b b1 b2 v1 v2 vt old next ts w' (((H.ext hx).front (Cel b1 27 [.pointer (some ⟨b, 0, none⟩)])).freeze.pick [Cel b2 43 [.slice none 0 0, .slice none 0 0, .slice none 0 0], Cel b 76 [v1, v2, vt, .bool false], OSl 66 vt 11 Ow.enc ts, Sl v1 9 Pl.enc old, Sl v2 9 Pl.enc next, Atom.ro (Cel b1 27 [.pointer (some ⟨b, 0, none⟩)])]) hok hl) (fun w' _ h => absurd rfl h)) fun v w hc a S => ?_)
 obtain ⟨mv, vl, vr, ms, rfl, hms, H⟩ := hc
 skip
 refine ga S fun a S => ?_
 refine gnt ?_
 have S := (S.nil.cons S 2 rfl).cons S 3 rfl
 refine gsr ?_
 refine gy rfl rfl rfl S (y_load0 rfl S H rfl (by exact Fagg43)) fun a S => ?_
 refine gm S fun a S => ?_
 refine wl_of (op_storea (wn rfl) rfl rfl S H rfl rfl (by rw [List.all_cons, List.all_cons, List.all_cons, H.sl1 mv, H.sl1 vl, H.sl1 vr]; rfl) Fsiz43 rfl (cs' := [_, _, _]) rfl fun a w S H => ?_)
 refine ga S fun a S => ?_
 refine gnt ?_
 refine g_ret ?_
 refine ret2ct rfl S H rfl rfl (by exact Fagg43) ?_
 exact ⟨mv, vl, vr, ms, rfl, hms, HSat.fold (ls := TwL b v1 v2 vt ts) (H.takeT [Cel b 76 [v1, v2, vt, .bool false], OSl 66 vt 11 Ow.enc ts, OSl 91 mv 3 Mv.enc ms, RowsA 3 1 encI (rowsOf ms), OSl 3 vl 1 encI (clP old next ts), OSl 3 vr 1 encI (crP old next ts), Sl v1 9 Pl.enc old, Sl v2 9 Pl.enc next] l) (by simp [TwL, OSl, Blk])⟩
set_option maxHeartbeats 1000000 in
/-- foyer/twin.New -/
theorem new_spec (v1 v2 : Value) (old next : List Pl) (v3 : Value) (ts : List Ow) (w0 : World) (hv1 : IsSl w0 v1 9 Pl.enc old) (hv2 : IsSl w0 v2 9 Pl.enc next) (hv3 : IsSl w0 v3 11 Ow.enc ts) (hok : ∀ o ∈ ts, o.ok) (hl : ts.length ≤ 100000) :
    Ret Try.prog 9 #[v1, v2, v3] w0 (fun u w => (newE old next ts ≠ 0 ∧ u = .tuple #[.pointer none, .int .i64 (newE old next ts)] ∧ Ext w0 w) ∨ (newE old next ts = 0 ∧ ∃ b vt, u = .tuple #[.pointer (some ⟨b, 0, none⟩), .int .i64 0] ∧ HSat No w0 [TwA b v1 v2 vt ts] w)) := by
 refine ret_of_wp (nt := 46) Try.func9 rfl rfl rfl (fl := [(0, v1), (1, v2), (2, v3)]) rfl (fun a S => ?_)
 have H := HSat.start w0
 have H := H.ro0 (Sl v1 9 Pl.enc old) rfl (hv1)
 have H := H.ro0 (Sl v2 9 Pl.enc next) rfl (hv2)
 have H := H.ro0 (Sl v3 11 Ow.enc ts) rfl (hv3)
 obtain ⟨p1, c1, hp1⟩ := hv1.shape
 obtain ⟨p2, c2, hp2⟩ := hv2.shape
 have hll := hv3.len
 refine gsr ?_
 refine ga S fun a S => ?_
 refine ga S fun a S => ?_
 refine gnt ?_
 refine g_seq ?_
 refine gsr ?_
 refine gm S fun a S => ?_
 refine gm S fun a S => ?_
 refine gm S fun a S => ?_
 refine wl_of (op_call (wn rfl) rfl rfl S (co_func rfl Try.call28 S rfl) (plan_any v1 v2 old next v3 ts _ (H.sl v1) (H.sl v2) (H.sl v3) hok hl) fun u17 w hc a S => ?_)
 obtain ⟨mv, vl, vr, ms, rfl, hms, H1⟩ := hc
 have H := H.call4 H1 rfl rfl rfl rfl
 refine gm S fun a S => ?_
 refine gy rfl rfl rfl S (y_extract rfl S rfl rfl) fun a S => ?_
 refine gy rfl rfl rfl S (y_extract rfl S rfl rfl) fun a S => ?_
 refine wl_of (op_alloc (wn rfl) rfl rfl rfl S H Fzer43 fun b8 a w S H => ?_)
 refine wl_of (op_storea (wn rfl) rfl rfl S H rfl rfl (by rw [List.all_cons, List.all_cons, List.all_cons, H.sl1 mv, H.sl1 vl, H.sl1 vr]; rfl) Fsiz43 rfl (cs' := [_, _, _]) rfl fun a w S H => ?_)
 refine ga S fun a S => ?_
 refine gnt ?_
 have S := (((((S.nil.cons S 2 rfl).cons S 1 rfl).cons S 0 rfl).cons S 6 rfl).cons S 7 rfl).cons S 9 rfl
 refine gsr ?_
 refine gm S fun a S => ?_
 refine gy rfl rfl rfl S (y_bin rfl S rfl rfl rfl) fun a S => ?_
 refine gnt ?_
 refine c_if S rfl (fun h1 => ?_) (fun h1 => ?_)
 ·have h1p := h1; try simp only [DL] at h1p
  have herr : errP old next ts ≠ 0 := by have := h1p; simpa using this
  refine gsr ?_
  refine gm S fun a S => ?_
  refine ga S fun a S => ?_
  refine ga S fun a S => ?_
  refine gnt ?_
  have S := ((((S.nil.cons S 2 rfl).cons S 1 rfl).cons S 0 rfl).cons S 6 rfl).cons S 7 rfl
  refine g_ret ?_
  refine r_then (ret2 rfl S rfl rfl ?_)
  exact .inl ⟨by rw [newE_err herr]; exact herr, by rw [newE_err herr], H.toExt⟩
 ·have h1p := h1; try simp only [DL] at h1p
  have herr : errP old next ts = 0 := by have := h1p; simpa using this
  refine g_skip ?_
  refine n_then ?_
  refine gsr ?_
  refine wl_of (op_makeMap (fun n : Int => .int .i64 n) (fun b : Bool => .bool b) (wn rfl) rfl rfl rfl S H fun b23 a w S H => ?_)
  refine ga S fun a S => ?_
  refine gnt ?_
  have S := (((((S.nil.cons S 2 rfl).cons S 1 rfl).cons S 0 rfl).cons S 6 rfl).cons S 7 rfl).cons S 10 rfl
  refine g_seq ?_
  refine gsr ?_
  refine gm S fun a S => ?_
  refine gy rfl rfl rfl S (y_lens rfl Try.underlying23 S H rfl) fun a S => ?_
  refine gm S fun a S => ?_
  refine gnt ?_
  refine g_block ?_
  have SU := (((((S.nil.cons S 2 rfl).cons S 1 rfl).cons S 0 rfl).cons S 10 rfl).cons S 24 rfl).cons S 25 rfl
  refine loopW (X := Nat) SU (fun k => [(26, .int .i64 (k : Int))]) (fun k w => k ≤ ts.length ∧ DistS (ts.take k) ∧ ∃ c, HSat No w0 [MapA b23 (fun n : Int => .int .i64 n) (fun b : Bool => .bool b) (memS (serR (ts.take k))) c, Sl v3 11 Ow.enc ts, Sl v2 9 Pl.enc next, Sl v1 9 Pl.enc old] w) (fun k => ts.length - k) 0 (S.nil.cons S 26 rfl) (⟨by omega, dist_nil, 0, H.take [MapA b23 (fun n : Int => .int .i64 n) (fun b : Bool => .bool b) (fun _ => none) 0, Sl v3 11 Ow.enc ts, Sl v2 9 Pl.enc next, Sl v1 9 Pl.enc old]⟩) (fun k a w S hW => ?_)
  simp only [List.cons_append, List.nil_append] at S
  clear H
  obtain ⟨hk, hd, c, H⟩ := hW
  refine gsr ?_
  refine gy rfl rfl rfl S (y_bin rfl S rfl rfl rfl) fun a S => ?_
  refine gnt ?_
  refine g_seq ?_
  refine c_if S rfl (fun h2 => ?_) (fun h2 => ?_)
  ·have h2p := h2; try simp only [DL] at h2p
   have hkl : k < ts.length := by omega
   refine g_skip ?_
   refine n_then ?_
   refine g_seq ?_
   refine g_block ?_
   refine gsr ?_
   refine gy rfl rfl rfl S (y_iaddrn rfl Try.underlying23 Fsiz66 S H rfl rfl (by first | assumption | omega | (simp only [LL]; omega))) fun a S => ?_
   refine gy rfl rfl rfl S (y_loadsa _ rfl S H rfl (by exact Fagg66) (by first | assumption | omega | (simp only [LL]; omega))) fun a S => ?_
   refine wl_of (op_alloc (wn rfl) rfl rfl rfl S H Fzer66 fun b12 a w S H => ?_)
   refine wl_of (op_storea (wn rfl) rfl rfl S H rfl rfl (Ow.all (hok _ (List.getElem_mem hkl))) Fsiz66 rfl (cs' := [_, _, _, _, _, _, _, _, _, _, _]) rfl fun a w S H => ?_)
   refine gnt ?_
   refine g_seq ?_
   refine gsr ?_
   refine gm S fun a S => ?_
   refine gy rfl rfl rfl S (y_faddrb rfl Ffo66_0 S rfl) fun a S => ?_
   refine gy rfl rfl rfl S (y_faddrb rfl Ffo60_0 S rfl) fun a S => ?_
   refine gy rfl rfl rfl S (y_load rfl Fsca3 S H rfl rfl) fun a S => ?_
   refine gy rfl rfl rfl S (y_lookupE (ts[k].serial) (false) rfl Try.underlying73 Finf4 S H rfl (keyOK_int Try.underlying3) (by exact rfl) (by exact rfl) rfl) fun a S => ?_
   refine gnt ?_
   have S := ((((((((S.nil.cons S 2 rfl).cons S 1 rfl).cons S 0 rfl).cons S 10 rfl).cons S 24 rfl).cons S 25 rfl).cons S 26 rfl).cons S 12 rfl).cons S 34 rfl
   refine c_if S rfl (fun h3 => ?_) (fun h3 => ?_)
   ·have h3p := h3; try simp only [DL] at h3p
    have hmem : ts[k].serial ∈ serR (ts.take k) := by have hh := h3; rw [memS_get] at hh; simpa using hh
    refine gsr ?_
    refine ga S fun a S => ?_
    refine ga S fun a S => ?_
    refine gnt ?_
    refine g_ret ?_
    refine r_then (r_block (r_then (r_then (r_block (r_then (ret2 rfl S rfl rfl ?_))))))
    exact .inl ⟨by rw [newE_dup herr (dup_yes hkl hmem)]; decide, by rw [newE_dup herr (dup_yes hkl hmem)], H.toExt⟩
   ·have h3p := h3; try simp only [DL] at h3p
    have hmem : ts[k].serial ∉ serR (ts.take k) := by have hh := h3; rw [memS_get] at hh; simpa using hh
    refine g_skip ?_
    refine n_then ?_
    refine g_region ?_
    refine gm S fun a S => ?_
    refine gy rfl rfl rfl S (y_faddrb rfl Ffo66_0 S rfl) fun a S => ?_
    refine gy rfl rfl rfl S (y_faddrb rfl Ffo60_0 S rfl) fun a S => ?_
    refine gy rfl rfl rfl S (y_load rfl Fsca3 S H rfl rfl) fun a S => ?_
    refine wl_of (op_mapUpdate (ts[k].serial) (true) (wn rfl) rfl rfl Try.underlying73 S H rfl (keyOK_int Try.underlying3) (by exact rfl) (by exact rfl) fun a w S H => ?_)
    refine gl_nil ?_
    refine n_block ?_
    refine n_then ?_
    have S := ((((((S.nil.cons S 2 rfl).cons S 1 rfl).cons S 0 rfl).cons S 10 rfl).cons S 24 rfl).cons S 25 rfl).cons S 26 rfl
    refine g_region ?_
    refine gy rfl rfl rfl S (y_add rfl S rfl rfl (by omega)) fun a S => ?_
    refine gm S fun a S => ?_
    refine gnt ?_
    exact ⟨k + 1, S.nil.cons S 26 rfl, (((((S.nil.cons S 2 rfl).cons S 1 rfl).cons S 0 rfl).cons S 10 rfl).cons S 24 rfl).cons S 25 rfl, ⟨by omega, dist_step hkl hd hmem, (if (memS (serR (ts.take k)) ts[k].serial).isSome = true then c else c + 1), by rw [serR_step hkl]; exact H.take [MapA b23 (fun n : Int => .int .i64 n) (fun b : Bool => .bool b) (upd (memS (serR (ts.take k))) ts[k].serial true) (if (memS (serR (ts.take k)) ts[k].serial).isSome = true then c else c + 1), Sl v3 11 Ow.enc ts, Sl v2 9 Pl.enc next, Sl v1 9 Pl.enc old]⟩, by omega⟩
  ·have h2p := h2; try simp only [DL] at h2p
   obtain rfl : k = ts.length := by omega
   rw [List.take_length] at hd
   refine g_exit ?_
   refine x_then (x_then (x_eq ?_))
   refine n_then ?_
   have S := ((S.nil.cons S 2 rfl).cons S 1 rfl).cons S 0 rfl
   refine gsr ?_
   refine gm S fun a S => ?_
   refine gm S fun a S => ?_
   refine gm S fun a S => ?_
   refine wl_of (op_call (wn rfl) rfl rfl S (co_func rfl Try.call29 S rfl) (cloneOw_spec v3 ts _ (H.sl v3) hok (by omega)) fun u43 w hc a S => ?_)
   have H1 := hc
   have H := H.call1 H1 rfl
   obtain ⟨p3, c3, hp3⟩ := (H.sl u43).shape
   refine gy rfl rfl rfl S (y_buildf rfl Fbld76 S rfl (idx := [0, 1, 2]) rfl (cs := [v1, v2, u43, .bool false]) (by rw [hp1, hp2, hp3]; rfl)) fun a S => ?_
   refine wl_of (op_boxa (wn rfl) rfl rfl rfl S H rfl fun b45 a w S H => ?_)
   refine ga S fun a S => ?_
   refine ga S fun a S => ?_
   refine gnt ?_
   have S := (S.nil.cons S 6 rfl).cons S 7 rfl
   refine g_ret ?_
   refine ret2 rfl S rfl rfl ?_
   exact .inr ⟨newE_ok herr (dup_no hd), b45, u43, rfl, (HSat.fold (l := []) (ls := TwL b45 v1 v2 u43 ts) (H.take [Cel b45 76 [v1, v2, u43, .bool false], OSl 66 u43 11 Ow.enc ts]) (by simp [TwL, OSl, Blk]))⟩
set_option maxHeartbeats 4000000 in
/-- (*foyer/twin.Twin).Finish -/
theorem finish_ok {M : Nat → Prop} {u0 : World} {l : List Atom} (b : Nat) (v1 v2 vt : Value) (old next : List Pl) (ts : List Ow) (acc : Bool) (w0 : World) (h0 : HSat M u0 (TwA b v1 v2 vt ts :: Sl v1 9 Pl.enc old :: Sl v2 9 Pl.enc next :: l) w0) (herr : errP old next ts = 0) (hok : ∀ o ∈ ts, o.ok) (hl : ts.length ≤ 100000) :
    Ret Try.prog 17 #[.pointer (some ⟨b, 0, none⟩), .bool acc] w0 (fun u w => ∃ vo, ∃ ms : List Mv, u = .tuple #[vo, .int .i64 0] ∧ ms.map Mv.say = sayP old next ts ∧ HSat M u0 (OSl 66 vo 11 Ow.enc (finT ts ms acc) :: RowsA 3 1 encI (rowsOf ms) :: Cel b 76 [v1, v2, vt, .bool true] :: Sl v1 9 Pl.enc old :: Sl v2 9 Pl.enc next :: l) w) := by
 refine ret_of_wp (nt := 79) Try.func17 rfl rfl rfl (fl := [(0, .pointer (some ⟨b, 0, none⟩)), (1, .bool acc)]) rfl (fun a S => ?_)
 have H := h0
 refine gsr ?_
 refine ga S fun a S => ?_
 refine ga S fun a S => ?_
 refine gnt ?_
 refine gsr ?_
 refine gm S fun a S => ?_
 refine wl_of (op_call (wn rfl) rfl rfl S (co_func rfl Try.call15 S rfl) (change_ok b v1 v2 vt old next ts _ H hok hl) fun u17 w hc a S => ?_)
 obtain ⟨mv, vl, vr, ms, rfl, hms, H⟩ := hc
 rw [herr] at S
 have H := H.unfold
 simp only [TwL, List.cons_append, List.nil_append] at H
 have hlm := (H.sl mv).len
 refine gm S fun a S => ?_
 refine gy rfl rfl rfl S (y_extract rfl S rfl rfl) fun a S => ?_
 refine gy rfl rfl rfl S (y_extract rfl S rfl rfl) fun a S => ?_
 refine wl_of (op_alloc (wn rfl) rfl rfl rfl S H Fzer43 fun b6 a w S H => ?_)
 refine wl_of (op_storea (wn rfl) rfl rfl S H rfl rfl (by rw [List.all_cons, List.all_cons, List.all_cons, H.sl1 mv, H.sl1 vl, H.sl1 vr]; rfl) Fsiz43 rfl (cs' := [_, _, _]) rfl fun a w S H => ?_)
 refine ga S fun a S => ?_
 refine gnt ?_
 have S := (((((S.nil.cons S 1 rfl).cons S 0 rfl).cons S 4 rfl).cons S 5 rfl).cons S 6 rfl).cons S 7 rfl
 refine g_seq ?_
 refine gsr ?_
 refine gm S fun a S => ?_
 refine gy rfl rfl rfl S (y_bin rfl S rfl rfl rfl) fun a S => ?_
 refine gnt ?_
 refine c_if S rfl (fun h1 => ?_) (fun h1 => ?_)
 ·have h1p := h1; try simp only [DL] at h1p
  all_goals (
    exact absurd h1 (by simp))
 ·have h1p := h1; try simp only [DL] at h1p
  have hrr : ∀ p ∈ rowsOf ms, IsSl w p.1 1 encI p.2 := H.rws 3 (rowsOf ms)
  have hone : ∀ k (h : k < ms.length), ms[k].row.1.oneCell' = true := fun k h => by
    obtain ⟨p, c, e⟩ := (hrr _ (rows_mem h)).shape
    rw [e]; rfl
  refine g_skip ?_
  refine n_then ?_
  refine gsr ?_
  refine gm S fun a S => ?_
  refine gy rfl rfl rfl S (y_nilCheck rfl S rfl) fun a S => ?_
  refine gy rfl rfl rfl S (y_faddrb rfl Ffo76_3 S rfl) fun a S => ?_
  refine wl_of (op_store (wn rfl) rfl rfl S H rfl rfl rfl Fsiz4 rfl fun a w S H => ?_)
  dsimp only [List.set, Nat.zero_add, Nat.reduceAdd] at H
  refine gnt ?_
  have S := ((((S.nil.cons S 1 rfl).cons S 0 rfl).cons S 4 rfl).cons S 5 rfl).cons S 6 rfl
  refine gsr ?_
  refine wl_of (op_makeMap (fun n : Int => .int .i64 n) (fun m : Mv => .agg (Mv.enc m).toArray) (wn rfl) rfl rfl rfl S H fun b26 a w S H => ?_)
  refine ga S fun a S => ?_
  refine gnt ?_
  refine g_seq ?_
  refine gsr ?_
  refine gy rfl rfl rfl S (y_faddrb rfl Ffo43_0 S rfl) fun a S => ?_
  refine gy rfl rfl rfl S (y_load rfl Fsca38 S H rfl rfl) fun a S => ?_
  refine gy rfl rfl rfl S (y_lens rfl Try.underlying38 S H rfl) fun a S => ?_
  refine gm S fun a S => ?_
  refine gnt ?_
  refine g_block ?_
  have SU := ((((((S.nil.cons S 1 rfl).cons S 0 rfl).cons S 4 rfl).cons S 5 rfl).cons S 8 rfl).cons S 28 rfl).cons S 29 rfl
  refine loopW (X := Nat) SU (fun k => [(30, .int .i64 (k : Int))]) (fun k w => k ≤ ms.length ∧ ∃ cm, HSat M u0 (MapA b26 (fun n : Int => .int .i64 n) (fun m : Mv => .agg (Mv.enc m).toArray) (fnM (ms.take k).reverse) cm :: Cel b6 43 [mv, vl, vr] :: OSl 91 mv 3 Mv.enc ms :: RowsA 3 1 encI (rowsOf ms) :: OSl 3 vl 1 encI (clP old next ts) :: OSl 3 vr 1 encI (crP old next ts) :: Cel b 76 [v1, v2, vt, .bool true] :: OSl 66 vt 11 Ow.enc ts :: Sl v1 9 Pl.enc old :: Sl v2 9 Pl.enc next :: l) w) (fun k => ms.length - k) 0 (S.nil.cons S 30 rfl) (⟨by omega, 0, H.takeT [MapA b26 (fun n : Int => .int .i64 n) (fun m : Mv => .agg (Mv.enc m).toArray) (fun _ => none) 0, Cel b6 43 [mv, vl, vr], OSl 91 mv 3 Mv.enc ms, RowsA 3 1 encI (rowsOf ms), OSl 3 vl 1 encI (clP old next ts), OSl 3 vr 1 encI (crP old next ts), Cel b 76 [v1, v2, vt, .bool true], OSl 66 vt 11 Ow.enc ts, Sl v1 9 Pl.enc old, Sl v2 9 Pl.enc next] l⟩) (fun k a w S hW => ?_)
  simp only [List.cons_append, List.nil_append] at S
  clear H
  obtain ⟨hk, cm, H⟩ := hW
  refine gsr ?_
  refine gy rfl rfl rfl S (y_bin rfl S rfl rfl rfl) fun a S => ?_
  refine gnt ?_
  refine g_seq ?_
  refine c_if S rfl (fun h2 => ?_) (fun h2 => ?_)
  ·have h2p := h2; try simp only [DL] at h2p
   have hkl : k < ms.length := by omega
   refine g_skip ?_
   refine n_then ?_
   refine g_seq ?_
   refine g_block ?_
   refine gsr ?_
   refine gy rfl rfl rfl S (y_iaddrn rfl Try.underlying38 Fsiz91 S H rfl rfl (by first | assumption | omega | (simp only [LL]; omega))) fun a S => ?_
   refine gy rfl rfl rfl S (y_loadsa _ rfl S H rfl (by exact Fagg91) (by first | assumption | omega | (simp only [LL]; omega))) fun a S => ?_
   refine wl_of (op_alloc (wn rfl) rfl rfl rfl S H Fzer91 fun b10 a w S H => ?_)
   refine wl_of (op_storea (wn rfl) rfl rfl S H rfl rfl (mvAll (hone k hkl)) Fsiz91 rfl (cs' := [_, _, _]) rfl fun a w S H => ?_)
   refine gnt ?_
   refine g_region ?_
   refine gm S fun a S => ?_
   refine gy rfl rfl rfl S (y_faddrb rfl Ffo91_0 S rfl) fun a S => ?_
   refine gy rfl rfl rfl S (y_load rfl Fsca3 S H rfl rfl) fun a S => ?_
   refine gy rfl rfl rfl S (y_load0 rfl S H rfl (by exact Fagg91)) fun a S => ?_
   refine wl_of (op_mapUpdate (ms[k].serial) (ms[k]) (wn rfl) rfl rfl Try.underlying89 S H rfl (keyOK_int Try.underlying3) (by exact rfl) (by exact rfl) fun a w S H => ?_)
   refine gl_nil ?_
   refine n_block ?_
   refine n_then ?_
   have S := (((((((S.nil.cons S 1 rfl).cons S 0 rfl).cons S 4 rfl).cons S 5 rfl).cons S 8 rfl).cons S 28 rfl).cons S 29 rfl).cons S 30 rfl
   refine g_region ?_
   refine gy rfl rfl rfl S (y_add rfl S rfl rfl (by omega)) fun a S => ?_
   refine gm S fun a S => ?_
   refine gnt ?_
   exact ⟨k + 1, S.nil.cons S 30 rfl, ((((((S.nil.cons S 1 rfl).cons S 0 rfl).cons S 4 rfl).cons S 5 rfl).cons S 8 rfl).cons S 28 rfl).cons S 29 rfl, ⟨by omega, (if (fnM (ms.take k).reverse ms[k].serial).isSome = true then cm else cm + 1), by rw [fnM_step hkl]; exact H.takeT [MapA b26 (fun n : Int => .int .i64 n) (fun m : Mv => .agg (Mv.enc m).toArray) (upd (fnM (ms.take k).reverse) ms[k].serial ms[k]) (if (fnM (ms.take k).reverse ms[k].serial).isSome = true then cm else cm + 1), Cel b6 43 [mv, vl, vr], OSl 91 mv 3 Mv.enc ms, RowsA 3 1 encI (rowsOf ms), OSl 3 vl 1 encI (clP old next ts), OSl 3 vr 1 encI (crP old next ts), Cel b 76 [v1, v2, vt, .bool true], OSl 66 vt 11 Ow.enc ts, Sl v1 9 Pl.enc old, Sl v2 9 Pl.enc next] l⟩, by omega⟩
  ·have h2p := h2; try simp only [DL] at h2p
   obtain rfl : k = ms.length := by omega
   rw [List.take_length] at H
   have hz1 : ∀ s : Int, (((fnM ms.reverse s).getD mv0).row.1).oneCell' = true := fun s => by
     cases hq : fnM ms.reverse s with
     | none => rfl
     | some m => obtain ⟨q, hq2, rfl⟩ := List.getElem_of_mem (List.mem_reverse.1 (fnM_mem hq)); exact hone q hq2
   refine g_exit ?_
   refine x_then (x_then (x_eq ?_))
   refine n_then ?_
   have S := ((((S.nil.cons S 1 rfl).cons S 0 rfl).cons S 4 rfl).cons S 5 rfl).cons S 8 rfl
   refine gsr ?_
   refine gm S fun a S => ?_
   refine gy rfl rfl rfl S (y_nilCheck rfl S rfl) fun a S => ?_
   refine gy rfl rfl rfl S (y_faddrb rfl Ffo76_2 S rfl) fun a S => ?_
   refine gy rfl rfl rfl S (y_load rfl Fsca23 S H rfl rfl) fun a S => ?_
   refine wl_of (op_call (wn rfl) rfl rfl S (co_func rfl Try.call29 S rfl) (cloneOw_spec vt ts _ (H.sl vt) hok (by omega)) fun u43 w hc a S => ?_)
   have H1 := hc
   have H := H.call1 H1 rfl
   refine ga S fun a S => ?_
   refine gnt ?_
   have S := ((((S.nil.cons S 1 rfl).cons S 4 rfl).cons S 5 rfl).cons S 8 rfl).cons S 11 rfl
   refine g_seq ?_
   refine gsr ?_
   refine gm S fun a S => ?_
   refine gy rfl rfl rfl S (y_lens rfl Try.underlying23 S H rfl) fun a S => ?_
   refine gm S fun a S => ?_
   refine gnt ?_
   refine g_block ?_
   skip
   have SU := (((((S.nil.cons S 1 rfl).cons S 4 rfl).cons S 5 rfl).cons S 8 rfl).cons S 11 rfl).cons S 45 rfl
   refine loopW (X := Nat) SU (fun k => [(46, .int .i64 (k : Int))]) (fun k w => k ≤ ts.length ∧ HSat M u0 (OSl 66 u43 11 Ow.enc (finK ts ms acc k) :: MapA b26 (fun n : Int => .int .i64 n) (fun m : Mv => .agg (Mv.enc m).toArray) (fnM ms.reverse) cm :: Cel b6 43 [mv, vl, vr] :: OSl 91 mv 3 Mv.enc ms :: RowsA 3 1 encI (rowsOf ms) :: OSl 3 vl 1 encI (clP old next ts) :: OSl 3 vr 1 encI (crP old next ts) :: Cel b 76 [v1, v2, vt, .bool true] :: Sl v1 9 Pl.enc old :: Sl v2 9 Pl.enc next :: l) w) (fun k => ts.length - k) 0 (S.nil.cons S 46 rfl) (⟨by omega, by rw [finK_0]; exact H.takeT [OSl 66 u43 11 Ow.enc (ts), MapA b26 (fun n : Int => .int .i64 n) (fun m : Mv => .agg (Mv.enc m).toArray) (fnM ms.reverse) cm, Cel b6 43 [mv, vl, vr], OSl 91 mv 3 Mv.enc ms, RowsA 3 1 encI (rowsOf ms), OSl 3 vl 1 encI (clP old next ts), OSl 3 vr 1 encI (crP old next ts), Cel b 76 [v1, v2, vt, .bool true], Sl v1 9 Pl.enc old, Sl v2 9 Pl.enc next] l⟩) (fun k a w S hW => ?_)
   simp only [List.cons_append, List.nil_append] at S
   clear H
   obtain ⟨hk, H⟩ := hW
   refine gsr ?_
   refine gy rfl rfl rfl S (y_bin rfl S rfl rfl rfl) fun a S => ?_
   refine gnt ?_
   refine g_seq ?_
   refine c_if S rfl (fun h3 => ?_) (fun h3 => ?_)
   ·have h3p := h3; try simp only [DL] at h3p
    have hkl : k < ts.length := by omega
    have hkl2 : k < (finK ts ms acc k).length := by rw [finK_len]; omega
    have hfk := finK_get hkl hkl2
    have hz1 := hz1 ts[k].serial
    have hfs := finK_step (ms := ms) (acc := acc) hkl
    refine g_skip ?_
    refine n_then ?_
    refine g_seq ?_
    refine g_block ?_
    refine gsr ?_
    refine gm S fun a S => ?_
    refine ga S fun a S => ?_
    refine gnt ?_
    refine gsr ?_
    refine gm S fun a S => ?_
    refine gm S fun a S => ?_
    refine gm S fun a S => ?_
    refine gy rfl rfl rfl S (y_iaddrn rfl Try.underlying23 Fsiz66 S H rfl rfl (by first | assumption | omega | (simp only [LL]; omega))) fun a S => ?_
    refine gy rfl rfl rfl S (y_faddr rfl Ffo66_0 S rfl) fun a S => ?_
    refine gy rfl rfl rfl S (y_faddr rfl Ffo60_0 S rfl) fun a S => ?_
    refine gy rfl rfl rfl S (y_loadsff _ rfl Fsca3 S H rfl (by first | assumption | omega | (simp only [LL]; omega)) rfl) fun a S => ?_
    rw [hfk] at S
    refine gy rfl rfl rfl S (y_lookupokE (ts[k].serial) (mv0) rfl Try.underlying89 Finf91 S H rfl (keyOK_int Try.underlying3) (by exact rfl) (by exact rfl) rfl) fun a S => ?_
    refine gm S fun a S => ?_
    refine gy rfl rfl rfl S (y_extract rfl S rfl rfl) fun a S => ?_
    refine gy rfl rfl rfl S (y_extract rfl S rfl rfl) fun a S => ?_
    refine wl_of (op_alloc (wn rfl) rfl rfl rfl S H Fzer91 fun b13 a w S H => ?_)
    refine wl_of (op_storea (wn rfl) rfl rfl S H rfl rfl (mvAll hz1) Fsiz91 rfl (cs' := [_, _, _]) rfl fun a w S H => ?_)
    refine ga S fun a S => ?_
    refine gnt ?_
    have S := (((((((((S.nil.cons S 1 rfl).cons S 4 rfl).cons S 5 rfl).cons S 8 rfl).cons S 11 rfl).cons S 45 rfl).cons S 46 rfl).cons S 12 rfl).cons S 13 rfl).cons S 14 rfl
    refine gsr ?_
    refine gm S fun a S => ?_
    refine gm S fun a S => ?_
    refine' wl_and 1 61 rfl S H rfl rfl rfl rfl rfl rfl rfl (fun _ S => (wn rfl)) (fun h4 kk => ?yh4) (fun a w S H => ?_)
    case yh4 =>
     have h4p := h4; try simp only [DL] at h4p
     refine gz 61 h4 S rfl rfl rfl rfl rfl rfl (y_move rfl S rfl) fun a S => ?_
     refine gy rfl rfl rfl S (y_and' rfl h4 S rfl rfl) fun a S => ?_
     exact kk _ _ (S.join 2 63 rfl rfl) H
    refine gnt ?_
    refine c_if S rfl (fun h5 => ?_) (fun h5 => ?_)
    ·have h5p := h5; try simp only [DL] at h5p
     obtain ⟨hc1, hc2⟩ := h5p
     subst hc2
     obtain ⟨m, hm⟩ := Option.isSome_iff_exists.1 hc1
     have hf1 : fin1 ms true ts[k] = setM ts[k] (some m) := by unfold fin1; rw [if_pos rfl, hm]
     rw [hm] at H hz1
     simp only [Option.getD_some] at H hz1
     have H := (H.front (Cel b13 91 [.int .i64 m.serial, .int .i64 m.to_, m.row.1])).freeze
     refine region_st (loud := [11, 14]) (tails := [11, 14]) (free := [2, 3, 6, 7]) [0, 1, 2, 3, 4, 5, 6, 7, 8, 9, 10, 11, 12, 13, 14] [Atom.ro (Cel b13 91 [.int .i64 m.serial, .int .i64 m.to_, m.row.1])] Fmo (by kernel_rfl) (by kernel_rfl) rfl H ?_
     refine m_w rfl rfl (wn rfl) rfl rfl S (fun w H => y_move rfl S rfl) fun a S => ?_
     refine m_w rfl rfl (wn rfl) rfl rfl S (fun w H => y_move rfl S rfl) fun a S => ?_
     refine m_f rfl rfl (wn rfl) rfl rfl S (fun w H => y_move rfl S rfl) fun a S => ?_
     refine m_f rfl rfl (wn rfl) rfl rfl S (fun w H => y_move rfl S rfl) fun a S => ?_
     refine m_w rfl rfl (wn rfl) rfl rfl S (fun w H => y_faddrb rfl Ffo91_1 S rfl) fun a S => ?_
     refine m_w rfl rfl (wn rfl) rfl rfl S (fun w H => y_load rfl Fsca3 S H rfl rfl) fun a S => ?_
     refine m_f rfl rfl (wn rfl) rfl rfl S (fun w H => y_faddrb rfl Ffo91_2 S rfl) fun a S => ?_
     refine m_f rfl rfl (wn rfl) rfl rfl S (fun w H => y_load rfl Fsca39 S H rfl rfl) fun a S => ?_
     refine m_w rfl rfl (wn rfl) rfl rfl S (fun w H => y_iaddrn rfl Try.underlying23 Fsiz66 S H rfl rfl (by first | assumption | omega | (simp only [LL]; omega))) fun a S => ?_
     refine m_w rfl rfl (wn rfl) rfl rfl S (fun w H => y_faddr rfl Ffo66_0 S rfl) fun a S => ?_
     refine m_w rfl rfl (wn rfl) rfl rfl S (fun w H => y_faddr rfl Ffo60_2 S rfl) fun a S => ?_
     refine m_l rfl rfl (fun w H => op_storeS (enc := Ow.enc) (xs := finK ts ms true k) (i := k) (j := 2) (sz := 11) (vs := [.int .i64 m.to_]) _ ({ ts[k] with place := m.to_ }) (wn rfl) rfl rfl S H rfl (by rw [addr_zero']) rfl rfl (by intro c hc; rw [List.mem_singleton.1 hc]; rfl) Fsiz3 (by omega) (by simp) (by rw [hfk]; rfl) fun a w S H => m_tail H rfl ?_)
     refine m_w rfl rfl (wn rfl) rfl rfl S (fun w H => y_iaddrn rfl Try.underlying23 Fsiz66 S H rfl rfl (by first | assumption | omega | (simp only [LL]; omega))) fun a S => ?_
     refine m_w rfl rfl (wn rfl) rfl rfl S (fun w H => y_faddr rfl Ffo66_5 S rfl) fun a S => ?_
     refine m_l rfl rfl (fun w H => op_storeS (enc := Ow.enc) (xs := (finK ts ms true k).set k { ts[k] with place := m.to_ }) (i := k) (j := 10) (sz := 11) (vs := [m.row.1]) _ (setM ts[k] (some m)) (wn rfl) rfl rfl S H rfl rfl rfl (cells_one hz1) (by intro c hc; rw [List.mem_singleton.1 hc]; exact hz1) Fsiz39 (by rw [List.length_set]; omega) (by simp) (by rw [List.getElem_set_self]; rfl) fun a w S H => m_tail H rfl ?_)
     refine m_nil (fun w H => ?_)
     refine n_block ?_
     refine n_then ?_
     have S := ((((((S.nil.cons S 1 rfl).cons S 4 rfl).cons S 5 rfl).cons S 8 rfl).cons S 11 rfl).cons S 45 rfl).cons S 46 rfl
     refine g_region ?_
     refine gy rfl rfl rfl S (y_add rfl S rfl rfl (by omega)) fun a S => ?_
     refine gm S fun a S => ?_
     refine gnt ?_
     first
     | exact ⟨k + 1, S.nil.cons S 46 rfl, (((((S.nil.cons S 1 rfl).cons S 4 rfl).cons S 5 rfl).cons S 8 rfl).cons S 11 rfl).cons S 45 rfl, ⟨by omega, by rw [hfs, hf1]; rw [List.set_set] at H; exact H.takeT [OSl 66 u43 11 Ow.enc ((finK ts ms true k).set k (setM ts[k] (some m))), MapA b26 (fun n : Int => .int .i64 n) (fun m : Mv => .agg (Mv.enc m).toArray) (fnM ms.reverse) cm, Cel b6 43 [mv, vl, vr], OSl 91 mv 3 Mv.enc ms, RowsA 3 1 encI (rowsOf ms), OSl 3 vl 1 encI (clP old next ts), OSl 3 vr 1 encI (crP old next ts), Cel b 76 [v1, v2, vt, .bool true], Sl v1 9 Pl.enc old, Sl v2 9 Pl.enc next] l⟩, by omega⟩
     | exact ⟨k + 1, S.nil.cons S 46 rfl, (((((S.nil.cons S 1 rfl).cons S 4 rfl).cons S 5 rfl).cons S 8 rfl).cons S 11 rfl).cons S 45 rfl, ⟨by omega, by rw [hfs2]; exact H.takeT [OSl 66 u43 11 Ow.enc (finK ts ms acc k), MapA b26 (fun n : Int => .int .i64 n) (fun m : Mv => .agg (Mv.enc m).toArray) (fnM ms.reverse) cm, Cel b6 43 [mv, vl, vr], OSl 91 mv 3 Mv.enc ms, RowsA 3 1 encI (rowsOf ms), OSl 3 vl 1 encI (clP old next ts), OSl 3 vr 1 encI (crP old next ts), Cel b 76 [v1, v2, vt, .bool true], Sl v1 9 Pl.enc old, Sl v2 9 Pl.enc next] l⟩, by omega⟩
    ·have h5p := h5; try simp only [DL] at h5p
     have hf1 : fin1 ms acc ts[k] = ts[k] := by
       unfold fin1
       split
       · rename_i ha
         cases hq : fnM ms.reverse ts[k].serial with
         | none => rfl
         | some m => exfalso; have hh := h5; rw [hq, ha] at hh; simp at hh
       · rfl
     have hfs2 := finK_stay hkl hf1
     refine g_skip ?_
     refine n_block ?_
     refine n_then ?_
     have S := ((((((S.nil.cons S 1 rfl).cons S 4 rfl).cons S 5 rfl).cons S 8 rfl).cons S 11 rfl).cons S 45 rfl).cons S 46 rfl
     refine g_region ?_
     refine gy rfl rfl rfl S (y_add rfl S rfl rfl (by omega)) fun a S => ?_
     refine gm S fun a S => ?_
     refine gnt ?_
     first
     | exact ⟨k + 1, S.nil.cons S 46 rfl, (((((S.nil.cons S 1 rfl).cons S 4 rfl).cons S 5 rfl).cons S 8 rfl).cons S 11 rfl).cons S 45 rfl, ⟨by omega, by rw [hfs, hf1]; rw [List.set_set] at H; exact H.takeT [OSl 66 u43 11 Ow.enc ((finK ts ms true k).set k (setM ts[k] (some m))), MapA b26 (fun n : Int => .int .i64 n) (fun m : Mv => .agg (Mv.enc m).toArray) (fnM ms.reverse) cm, Cel b6 43 [mv, vl, vr], OSl 91 mv 3 Mv.enc ms, RowsA 3 1 encI (rowsOf ms), OSl 3 vl 1 encI (clP old next ts), OSl 3 vr 1 encI (crP old next ts), Cel b 76 [v1, v2, vt, .bool true], Sl v1 9 Pl.enc old, Sl v2 9 Pl.enc next] l⟩, by omega⟩
     | exact ⟨k + 1, S.nil.cons S 46 rfl, (((((S.nil.cons S 1 rfl).cons S 4 rfl).cons S 5 rfl).cons S 8 rfl).cons S 11 rfl).cons S 45 rfl, ⟨by omega, by rw [hfs2]; exact H.takeT [OSl 66 u43 11 Ow.enc (finK ts ms acc k), MapA b26 (fun n : Int => .int .i64 n) (fun m : Mv => .agg (Mv.enc m).toArray) (fnM ms.reverse) cm, Cel b6 43 [mv, vl, vr], OSl 91 mv 3 Mv.enc ms, RowsA 3 1 encI (rowsOf ms), OSl 3 vl 1 encI (clP old next ts), OSl 3 vr 1 encI (crP old next ts), Cel b 76 [v1, v2, vt, .bool true], Sl v1 9 Pl.enc old, Sl v2 9 Pl.enc next] l⟩, by omega⟩
   ·have h3p := h3; try simp only [DL] at h3p
    obtain rfl : k = ts.length := by omega
    rw [finK_all] at H
    refine g_exit ?_
    refine x_then (x_then (x_eq ?_))
    refine n_then ?_
    have S := ((S.nil.cons S 4 rfl).cons S 5 rfl).cons S 11 rfl
    refine gsr ?_
    refine gm S fun a S => ?_
    refine ga S fun a S => ?_
    refine ga S fun a S => ?_
    refine gnt ?_
    have S := (S.nil.cons S 4 rfl).cons S 5 rfl
    refine g_ret ?_
    refine ret2 rfl S rfl rfl ?_
    exact ⟨u43, ms, rfl, hms, H.takeT [OSl 66 u43 11 Ow.enc (finT ts ms acc), RowsA 3 1 encI (rowsOf ms), Cel b 76 [v1, v2, vt, .bool true], Sl v1 9 Pl.enc old, Sl v2 9 Pl.enc next] l⟩
end Go.Proofs.Ytnnendajegdnhaa
