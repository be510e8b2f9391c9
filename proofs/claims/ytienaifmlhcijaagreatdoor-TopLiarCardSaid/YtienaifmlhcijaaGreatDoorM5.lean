/- Parts of the proof, joined: the program logic, the plain theory, the walks, as they are named inside. No condition. -/
import Derived.Test.YtienaifmlhcijaaGreatDoorChecked
import Derived.Test.YtienaifmlhcijaaGreatDoorM2
import Derived.Test.YtienaifmlhcijaaGreatDoorM4
import Derived.WalkKit
import Derived.Deep.LoopGhost
import Derived.RangeFuncLeaves
import Derived.OrdersIn
import Derived.Still
import Derived.Shelf.SlSortCmp.NoneTotal
import Derived.Test.YtienaifmlhcijaaGreatDoorProg
section
namespace Go.Proofs.YtienaifmlhcijaaGreatDoor
open Go Go.Gw
set_option linter.unusedVariables false
set_option linter.unusedSimpArgs false
section
variable {s : Ply} {e : Ev} {jj kt : Nat} {t : Int}
theorem mid_eq0 (h : e.kind % 4 = 0) (hjj : jj = e.gate % 3) (hkt : kt = e.title % 5) (ht : t = s.now + (1 + (e.after : Int))) (h0 : s.gone.getD kt 0 = 0) : s.mid keyF e = { s with now := t, gone := s.gone.set kt t, revoked := s.revoked ++ [serK kt] } := by subst hkt ht; exact mid0 h h0
theorem mid_eq0n (h : e.kind % 4 = 0) (hjj : jj = e.gate % 3) (hkt : kt = e.title % 5) (ht : t = s.now + (1 + (e.after : Int))) (h0 : ¬ s.gone.getD kt 0 = 0) : s.mid keyF e = { s with now := t } := by subst hkt ht; exact mid0' h h0
theorem mid_eq1 (h : e.kind % 4 = 1) (hjj : jj = e.gate % 3) (hkt : kt = e.title % 5) (ht : t = s.now + (1 + (e.after : Int))) : s.mid keyF e = Ply.putG { s with now := t } jj ((s.gs jj).sync (makeW s.revoked) t) := by subst hjj ht; exact mid1 h
theorem mid_eq2 (h : e.kind % 4 = 2) (hjj : jj = e.gate % 3) (hkt : kt = e.title % 5) (ht : t = s.now + (1 + (e.after : Int))) : s.mid keyF e = Ply.putG { s with now := t } jj ((s.gs jj).scan (serK kt) (keyF kt) t) := by subst hjj hkt ht; exact mid2 h
theorem mid_eq3 (h : e.kind % 4 = 3) (hjj : jj = e.gate % 3) (hkt : kt = e.title % 5) (ht : t = s.now + (1 + (e.after : Int))) : s.mid keyF e = Ply.putG { s with now := t } jj ((s.gs jj).leave (serK kt) t) := by subst hjj hkt ht; exact mid3 h
end
set_option maxHeartbeats 8000000 in
set_option maxRecDepth 4000 in
/-- foyer/foyertop.w09Gates -/
theorem gates_spec (v : Value) (es : List Ev) (w0 : World) (hv : IsSl w0 v 4 encE es) (hT : Tabs w0) (hB : TabBs w0) (hes : es.length ≤ 40) (hev : ∀ e ∈ es, e.kind < 256 ∧ e.gate < 256 ∧ e.title < 256 ∧ e.after < 256) :
    Ret Tryz.prog 7 #[v] w0 (fun u w => ∃ (lgv : Value) (ps : List (Value × List SV)) (tv wv : Value), u = .tuple #[lgv, tv, wv] ∧ ps.map (·.2) = (play keyF es).logs ∧ HSat No w0 [OSl 29 lgv 1 encRow ps, RowsA 32 6 encSV ps, OSl 42 tv 11 encO (titL (play keyF es).gone), OSl 45 wv 6 encBV (play keyF es).want] w) := by
 refine ret_of_wp (nt := 219) Tryz.func7 rfl rfl rfl (fl := [(0, v)]) rfl (fun a S => ?_)
 have H := HSat.start w0
 have H := H.ro0 (TabB) rfl (hB)
 have H := H.ro0 (TabsA) rfl (hT)
 have H := H.ro0 (Sl v 4 encE es) rfl (hv)
 have hlv := hv.len
 refine gsr ?_
 refine ga S fun a S => ?_
 refine ga S fun a S => ?_
 refine ga S fun a S => ?_
 refine gnt ?_
 refine gsr ?_
 refine ga S fun a S => ?_
 refine gnt ?_
 refine g_seq ?_
 refine gsr ?_
 refine ga S fun a S => ?_
 refine gnt ?_
 refine g_block ?_
 have SU := (((S.nil.cons S 0 rfl).cons S 2 rfl).cons S 3 rfl).cons S 4 rfl
 refine loopW (X := Nat × (Nat → Nat) × (Nat → GZ) × Value) SU (fun x => [(6, .int .i64 (x.1 : Int)), (5, x.2.2.2)]) (fun x w => x.1 ≤ 3 ∧ HSat No w0 [OSl 53 x.2.2.2 1 encP ((List.range x.1).map x.2.1), FamA (List.range x.1) (fun i => GateA (x.2.1 i) (GSt.new ((i : Int) + 1)) (x.2.2.1 i)), Sl v 4 encE es, TabsA, TabB] w) (fun x => 3 - x.1) (0, fun _ => 0, fun _ => (0, .int .i64 0, .int .i64 0, 0), .slice none 0 0) ((S.nil.cons S 5 rfl).cons S 6 rfl) (⟨Nat.zero_le _, ((H.nilO 53 1 encP).famNil (fun i => GateA 0 (GSt.new ((i : Int) + 1)) (0, .int .i64 0, .int .i64 0, 0))).take [OSl 53 (.slice none 0 0) 1 encP [], FamA [] (fun i => GateA 0 (GSt.new ((i : Int) + 1)) (0, .int .i64 0, .int .i64 0, 0)), Sl v 4 encE es, TabsA, TabB]⟩) (fun x a w S hW => ?_)
 simp only [List.cons_append, List.nil_append] at S
 obtain ⟨k, bs, zs, gv⟩ := x
 obtain ⟨hk, H⟩ := hW
 dsimp only at S H hk
 refine g_seq ?_
 refine gsr ?_
 refine gm S fun a S => ?_
 refine gy rfl rfl rfl S (y_bin rfl S rfl rfl rfl) fun a S => ?_
 refine gnt ?_
 refine c_if S rfl (fun h1 => ?_) (fun h1 => ?_)
 ·have h1p := h1; try simp only [DL] at h1p
  have hk3 : k < 3 := by omega
  refine g_skip ?_
  refine n_then ?_
  refine g_seq ?_
  refine g_block ?_
  refine gsr ?_
  refine gm S fun a S => ?_
  refine gy rfl rfl rfl S (y_add rfl S rfl rfl (by omega)) fun a S => ?_
  refine wl_of (op_call (wn rfl) rfl rfl S (co_func rfl Tryz.call11 S rfl) (gnew_at ((k : Int) + 1) _ (by omega)) fun v w hc a S => ?_)
  obtain ⟨b32, z32, rfl, H1⟩ := hc
  have H := H.call1 H1 rfl
  refine gm S fun a S => ?_
  refine gy rfl rfl rfl S (y_extract rfl S rfl rfl) fun a S => ?_
  refine gy rfl rfl rfl S (y_extract rfl S rfl rfl) fun a S => ?_
  refine ga S fun a S => ?_
  refine ga S fun a S => ?_
  refine gnt ?_
  have S := ((((((S.nil.cons S 0 rfl).cons S 2 rfl).cons S 3 rfl).cons S 4 rfl).cons S 5 rfl).cons S 6 rfl).cons S 7 rfl
  refine g_region ?_
  refine gm S fun a S => ?_
  refine gm S fun a S => ?_
  refine wl_of (op_buildSlice (wn rfl) rfl rfl rfl Tryz.underlying52 Finf53 S H (idx := [0]) rfl rfl rfl (z := [.pointer none]) (by kernel_rfl) (cs := [_]) rfl fun b37 a w S H => ?_)
  refine wl_of (op_append ([b32]) (wn rfl) rfl rfl rfl Tryz.underlying52 Finf53 rfl rfl S H rfl rfl rfl rfl (by simp) (by simp [encP]) (by simp [encP, Value.oneCell']) (by simp only [List.length_map, List.length_range, List.length_singleton]; omega) (by simp only [List.length_map, List.length_range, List.length_singleton]; omega) fun u38 a w hn38 S H => ?_)
  refine ga S fun a S => ?_
  refine gl_nil ?_
  refine n_block ?_
  refine n_then ?_
  have S := (((((S.nil.cons S 0 rfl).cons S 2 rfl).cons S 3 rfl).cons S 4 rfl).cons S 6 rfl).cons S 5 rfl
  refine g_region ?_
  refine gm S fun a S => ?_
  refine gy rfl rfl rfl S (y_add rfl S rfl rfl (by omega)) fun a S => ?_
  refine ga S fun a S => ?_
  refine gnt ?_
  exact ⟨(k + 1, fun i => if i = k then b32 else bs i, fun i => if i = k then z32 else zs i, u38), (S.nil.cons S 5 rfl).cons S 6 rfl, (((S.nil.cons S 0 rfl).cons S 2 rfl).cons S 3 rfl).cons S 4 rfl, ⟨by dsimp only; omega, famStep (H.take [GateA b32 (GSt.new ((k : Int) + 1)) z32, OSl 53 u38 1 encP ((List.range k).map bs ++ [b32]), FamA (List.range k) (fun i => GateA (bs i) (GSt.new ((i : Int) + 1)) (zs i)), Sl v 4 encE es, TabsA, TabB])⟩, by dsimp only; omega⟩
 ·have h1p := h1; try simp only [DL] at h1p
  obtain rfl : k = 3 := by omega
  refine g_exit ?_
  refine x_then (x_then (x_eq ?_))
  refine n_then ?_
  refine gsr ?_
  refine ga S fun a S => ?_
  refine gnt ?_
  refine g_seq ?_
  refine gsr ?_
  refine ga S fun a S => ?_
  refine gnt ?_
  refine g_block ?_
  have H0 : HSat No w0 [FamA [0, 1, 2] (fun i => GateA (bs i) (GSt.new ((i : Int) + 1)) (zs i)), OSl 53 gv 1 encP [bs 0, bs 1, bs 2], Sl v 4 encE es, TabsA, TabB] w := H.take [FamA (List.range 3) (fun i => GateA (bs i) (GSt.new ((i : Int) + 1)) (zs i)), OSl 53 gv 1 encP ((List.range 3).map bs), Sl v 4 encE es, TabsA, TabB]
  have H := H0.nilO 42 11 encO
  have SU := ((((S.nil.cons S 0 rfl).cons S 2 rfl).cons S 3 rfl).cons S 4 rfl).cons S 5 rfl
  refine loopW (X := Nat × Value) SU (fun x => [(10, .int .i64 (x.1 : Int)), (9, x.2)]) (fun x w => x.1 ≤ 5 ∧ HSat No w0 [OSl 42 x.2 11 encO ((List.range x.1).map fun i => (⟨titF (serK i) (i : Int) (keyF i), 0⟩ : OV)), FamA [0, 1, 2] (fun i => GateA (bs i) (GSt.new ((i : Int) + 1)) (zs i)), OSl 53 gv 1 encP [bs 0, bs 1, bs 2], Sl v 4 encE es, TabsA, TabB] w) (fun x => 5 - x.1) (0, .slice none 0 0) ((S.nil.cons S 9 rfl).cons S 10 rfl) (⟨Nat.zero_le _, H⟩) (fun x a w S hW => ?_)
  simp only [List.cons_append, List.nil_append] at S
  obtain ⟨k, tv⟩ := x
  obtain ⟨hk, H⟩ := hW
  dsimp only at S H hk
  refine g_seq ?_
  refine gsr ?_
  refine gm S fun a S => ?_
  refine gy rfl rfl rfl S (y_bin rfl S rfl rfl rfl) fun a S => ?_
  refine gnt ?_
  refine c_if S rfl (fun h2 => ?_) (fun h2 => ?_)
  ·have h2p := h2; try simp only [DL] at h2p
   have hk5 : k < 5 := by omega
   refine g_skip ?_
   refine n_then ?_
   refine g_seq ?_
   refine g_block ?_
   refine g_region ?_
   refine gm S fun a S => ?_
   refine gm S fun a S => ?_
   refine gy rfl rfl rfl S (y_add rfl S rfl rfl (by omega)) fun a S => ?_
   refine gm S fun a S => ?_
   refine gm S fun a S => ?_
   refine gy rfl rfl rfl S ((y_addn (m := 97) (q := k) rfl S rfl rfl (by omega))) fun a S => ?_
   refine gy rfl rfl rfl S ((y_convX rfl S rfl (conv_rune k (by omega) _))) fun a S => ?_
   refine gy rfl rfl rfl S ((y_convX rfl S rfl (rune_str k (by omega) _))) fun a S => ?_
   refine gy rfl rfl rfl S ((y_adds rfl S rfl rfl (by show 6 + 1 ≤ _; decide))) fun a S => ?_
   refine wl_of (op_call (wn rfl) rfl rfl S (co_func rfl Tryz.call12 S rfl) (public_spec (ownerN k) _ H.tabs (by rw [ownerN_size]; decide)) fun v w hc a S => ?_)
   obtain ⟨rfl, he⟩ := hc
   have H := H.ext he
   refine gy rfl rfl rfl S (y_buildf rfl Fbld35 S rfl (idx := [0, 2, 3]) rfl (cs := [_, _, _, _, _]) rfl) fun a S => ?_
   refine gy rfl rfl rfl S (y_buildf rfl Fbld42 S rfl (idx := [0]) rfl (cs := [_, _, _, _, _, _, _, _, _, _, _]) rfl) fun a S => ?_
   refine wl_of (op_buildSlice (wn rfl) rfl rfl rfl Tryz.underlying25 Finf42 S H (idx := [0]) rfl rfl rfl (z := [.int .i64 0, .int .i64 0, .int .i64 0, .string ⟨#[]⟩, .slice none 0 0, .string ⟨#[]⟩, .slice none 0 0, .int .i64 0, .slice none 0 0, .int .i64 0, .slice none 0 0]) (by kernel_rfl) (cs := [.int .i64 (10001 + (k : Int)), .int .i64 0, .int .i64 (k : Int), .string (keyF k), .slice none 0 0, .string ⟨#[]⟩, .slice none 0 0, .int .i64 0, .slice none 0 0, .int .i64 0, .slice none 0 0]) (by kernel_rfl) fun b55 a w S H => ?_)
   refine wl_of (op_append ([(⟨titF (serK k) (k : Int) (keyF k), 0⟩ : OV)]) (wn rfl) rfl rfl rfl Tryz.underlying25 Finf42 rfl rfl S H rfl rfl rfl rfl (by simp) (by simp [encO]) (by simp [encO, Value.oneCell']) (by simp only [List.length_map, List.length_range, List.length_singleton]; omega) (by simp only [List.length_map, List.length_range, List.length_singleton]; omega) fun u56 a w hn56 S H => ?_)
   refine ga S fun a S => ?_
   refine gl_nil ?_
   refine n_block ?_
   refine n_then ?_
   have S := ((((((S.nil.cons S 0 rfl).cons S 2 rfl).cons S 3 rfl).cons S 4 rfl).cons S 5 rfl).cons S 10 rfl).cons S 9 rfl
   refine g_region ?_
   refine gm S fun a S => ?_
   refine gy rfl rfl rfl S (y_add rfl S rfl rfl (by omega)) fun a S => ?_
   refine ga S fun a S => ?_
   refine gnt ?_
   exact ⟨(k + 1, u56), (S.nil.cons S 9 rfl).cons S 10 rfl, ((((S.nil.cons S 0 rfl).cons S 2 rfl).cons S 3 rfl).cons S 4 rfl).cons S 5 rfl, ⟨by dsimp only; omega, by dsimp only; rw [List.range_succ, List.map_append]; exact H.take [OSl 42 u56 11 encO (((List.range k).map fun i => (⟨titF (serK i) (i : Int) (keyF i), 0⟩ : OV)) ++ [(⟨titF (serK k) (k : Int) (keyF k), 0⟩ : OV)]), FamA [0, 1, 2] (fun i => GateA (bs i) (GSt.new ((i : Int) + 1)) (zs i)), OSl 53 gv 1 encP [bs 0, bs 1, bs 2], Sl v 4 encE es, TabsA, TabB]⟩, by dsimp only; omega⟩
  ·have h2p := h2; try simp only [DL] at h2p
   obtain rfl : k = 5 := by omega
   rw [titZ5] at H
   refine g_exit ?_
   refine x_then (x_then (x_eq ?_))
   refine n_then ?_
   refine gsr ?_
   refine ga S fun a S => ?_
   refine gnt ?_
   refine gsr ?_
   refine wl_of (op_make (m := 5) (encSV) (SV.z) (wn rfl) rfl rfl rfl Tryz.underlying29 Finf32 rfl rfl S H rfl rfl rfl (by omega) (by omega) fun b57 a w S H => ?_)
   obtain ⟨lv, hlv⟩ : ∃ lv, lv = Value.slice (some ⟨b57, 0, none⟩) 5 5 := ⟨_, rfl⟩
   rw [← hlv] at S H
   refine ga S fun a S => ?_
   refine gnt ?_
   have S := (((((((S.nil.cons S 0 rfl).cons S 2 rfl).cons S 3 rfl).cons S 4 rfl).cons S 5 rfl).cons S 9 rfl).cons S 11 rfl).cons S 12 rfl
   refine gsr ?_
   refine ga S fun a S => ?_
   refine gnt ?_
   refine gsr ?_
   refine ga S fun a S => ?_
   refine gnt ?_
   refine g_seq ?_
   refine gsr ?_
   refine ga S fun a S => ?_
   refine gnt ?_
   refine g_block ?_
   have SU := ((((((S.nil.cons S 0 rfl).cons S 2 rfl).cons S 3 rfl).cons S 4 rfl).cons S 5 rfl).cons S 9 rfl).cons S 12 rfl
   refine loopW (X := Nat × (Nat → GZ) × Value × Value) SU (fun x => [(15, .int .i64 (x.1 : Int)), (14, .int .i64 (play keyF (es.take x.1)).now), (11, x.2.2.1), (13, x.2.2.2)]) (fun x w => x.1 ≤ es.length ∧ HSat No w0 [FamA [0, 1, 2] (fun i => GateA (bs i) ((play keyF (es.take x.1)).gs i) (x.2.1 i)), OSl 53 gv 1 encP [bs 0, bs 1, bs 2], OSl 42 tv 11 encO (titL (play keyF (es.take x.1)).gone), OSl 3 x.2.2.1 1 encI (play keyF (es.take x.1)).revoked, OSl 32 lv 6 encSV (play keyF (es.take x.1)).last, OSl 45 x.2.2.2 6 encBV (play keyF (es.take x.1)).want, Sl v 4 encE es, TabsA, TabB] w) (fun x => es.length - x.1) (0, zs, .slice none 0 0, .slice none 0 0) ((((S.nil.cons S 13 rfl).cons S 11 rfl).cons S 14 rfl).cons S 15 rfl) (⟨Nat.zero_le _, ((H.nilO 3 1 encI).nilO 45 6 encBV).take [FamA [0, 1, 2] (fun i => GateA (bs i) (GSt.new ((i : Int) + 1)) (zs i)), OSl 53 gv 1 encP [bs 0, bs 1, bs 2], OSl 42 tv 11 encO (titL (List.replicate 5 0)), OSl 3 (.slice none 0 0) 1 encI [], OSl 32 lv 6 encSV (List.replicate 5 SV.z), OSl 45 (.slice none 0 0) 6 encBV [], Sl v 4 encE es, TabsA, TabB]⟩) (fun x a w S hW => ?_)
   simp only [List.cons_append, List.nil_append] at S
   obtain ⟨i, zs, rv, wv⟩ := x
   obtain ⟨hi, H⟩ := hW
   dsimp only at S H hi
   obtain ⟨s, hs⟩ : ∃ s, s = play keyF (es.take i) := ⟨_, rfl⟩
   obtain ⟨al, hal, hinv, hnow⟩ := play_inv keyF i (es.take i) (by rw [List.length_take]; omega) (fun e he => (hev e (List.mem_of_mem_take he)).2.2.2)
   have hsm := play_small keyF es i hi
   rw [← hs] at S H hinv hnow hsm
   refine g_seq ?_
   refine gsr ?_
   refine gm S fun a S => ?_
   refine gm S fun a S => ?_
   refine gy rfl rfl rfl S (y_lens rfl Tryz.underlying22 S H rfl) fun a S => ?_
   refine gy rfl rfl rfl S (y_bin rfl S rfl rfl rfl) fun a S => ?_
   refine gnt ?_
   refine c_if S rfl (fun h3 => ?_) (fun h3 => ?_)
   ·have h3p := h3; try simp only [DL] at h3p
    have hil : i < es.length := by omega
    obtain ⟨e, hE⟩ : ∃ e, e = es[i] := ⟨_, rfl⟩
    have hb := hev e (hE ▸ List.getElem_mem hil)
    obtain ⟨jj, hjj⟩ : ∃ j, j = e.gate % 3 := ⟨_, rfl⟩
    obtain ⟨kt, hkt⟩ : ∃ j, j = e.title % 5 := ⟨_, rfl⟩
    have hj3 : jj < 3 := by omega
    have hkt5 : kt < 5 := by omega
    have hjm : jj ∈ [0, 1, 2] := by simp; omega
    obtain ⟨t, ht⟩ : ∃ t, t = s.now + (1 + (e.after : Int)) := ⟨_, rfl⟩
    have hm1 := hinv.m1
    have htb : 0 ≤ t ∧ t ≤ 1000000000 := by omega
    have hgn := hinv.gnow jj hj3
    have hle : (s.gs jj).now ≤ t := by omega
    have hsi : 0 ≤ (s.gs jj).since ∧ (s.gs jj).since ≤ 1000000000 := by omega
    have hgl : (s.gs jj).log.length ≤ 4000 := by have := hinv.glen hj3; omega
    have hgl2 : (s.gs jj).log.length ≤ 100 := by have := hinv.glen hj3; omega
    have hrs : ∀ x ∈ s.revoked, -9223372036854775808 ≤ x ∧ x ≤ 9223372036854775807 := fun x hx => by obtain ⟨q, hq, rfl⟩ := hinv.rser x hx; unfold serK; omega
    have hl5 := hinv.lens.1
    have hll := hinv.lens.2
    have hmg : ((s.mid keyF e).gs jj).log = (s.gs jj).log ∨ ∃ x, ((s.mid keyF e).gs jj).log = (s.gs jj).log ++ [x] := by rw [hjj]; exact mid_log
    have hstep : play keyF (es.take (i + 1)) = (s.mid keyF e).fin (s.gs jj).log.length jj kt := by rw [play_take keyF es hil, ← hs, ← hE, hjj, hkt]; rfl
    have hnow2 : t = (play keyF (es.take (i + 1))).now := by rw [hstep, fin_now, mid_now, ht]
    obtain ⟨y, hy⟩ : ∃ y, y = s.last[kt] := ⟨_, rfl⟩
    have hyd : s.last.getD kt SV.z = y := by rw [List.getD_eq_getElem?_getD, List.getElem?_eq_getElem (by omega), hy]; rfl
    refine g_skip ?_
    refine n_then ?_
    have S := ((((((((((S.nil.cons S 0 rfl).cons S 2 rfl).cons S 3 rfl).cons S 4 rfl).cons S 5 rfl).cons S 9 rfl).cons S 12 rfl).cons S 13 rfl).cons S 11 rfl).cons S 14 rfl).cons S 15 rfl
    refine g_seq ?_
    refine g_block ?_
    refine gsr ?_
    refine gm S fun a S => ?_
    refine gm S fun a S => ?_
    refine gm S fun a S => ?_
    refine gy rfl rfl rfl S (y_iaddrn rfl Tryz.underlying22 Fsiz50 S H rfl rfl (by first | assumption | omega | (simp only [List.length_cons, List.length_nil]; omega) | (rw [titL_len]; omega) | (simp only [LL]; omega))) fun a S => ?_
    refine gy rfl rfl rfl S (y_faddr rfl Ffo50_3 S rfl) fun a S => ?_
    refine gy rfl rfl rfl S (y_loadsf _ rfl Fsca5 S H rfl (by first | assumption | omega | (simp only [List.length_cons, List.length_nil]; omega) | (rw [titL_len]; omega) | (simp only [LL]; omega)) rfl) fun a S => ?_
    rw [← hE] at S
    refine gy rfl rfl rfl S (y_conv rfl Tryz.underlying5 Tryz.underlying3 S rfl (by omega)) fun a S => ?_
    refine gy rfl rfl rfl S (y_add rfl S rfl rfl (by omega)) fun a S => ?_
    refine gy rfl rfl rfl S (y_add rfl S rfl rfl (by omega)) fun a S => ?_
    rw [← ht] at S
    refine ga S fun a S => ?_
    refine gnt ?_
    have S := ((((((((((S.nil.cons S 0 rfl).cons S 2 rfl).cons S 3 rfl).cons S 4 rfl).cons S 5 rfl).cons S 9 rfl).cons S 12 rfl).cons S 13 rfl).cons S 11 rfl).cons S 15 rfl).cons S 14 rfl
    refine gsr ?_
    refine gm S fun a S => ?_
    refine gm S fun a S => ?_
    refine gm S fun a S => ?_
    refine gy rfl rfl rfl S (y_iaddrn rfl Tryz.underlying22 Fsiz50 S H rfl rfl (by first | assumption | omega | (simp only [List.length_cons, List.length_nil]; omega) | (rw [titL_len]; omega) | (simp only [LL]; omega))) fun a S => ?_
    refine gy rfl rfl rfl S (y_faddr rfl Ffo50_1 S rfl) fun a S => ?_
    refine gy rfl rfl rfl S (y_loadsf _ rfl Fsca5 S H rfl (by first | assumption | omega | (simp only [List.length_cons, List.length_nil]; omega) | (rw [titL_len]; omega) | (simp only [LL]; omega)) rfl) fun a S => ?_
    rw [← hE] at S
    refine gy rfl rfl rfl S (y_conv rfl Tryz.underlying5 Tryz.underlying3 S rfl (by omega)) fun a S => ?_
    refine gy rfl rfl rfl S ((y_remN (m := e.gate) (q := 3) rfl S rfl rfl (by decide))) fun a S => ?_
    rw [← hjj] at S
    refine gy rfl rfl rfl S (y_iaddrn rfl Tryz.underlying52 Fsiz53 S H rfl rfl (by first | assumption | omega | (simp only [List.length_cons, List.length_nil]; omega) | (rw [titL_len]; omega) | (simp only [LL]; omega))) fun a S => ?_
    refine gy rfl rfl rfl S ((y_loads (u := .pointer (some ⟨bs jj, 0, none⟩)) gv rfl Fsca53 S H rfl (by simp; omega) (gat hj3 _))) fun a S => ?_
    refine ga S fun a S => ?_
    refine gnt ?_
    have S := (((((((((((S.nil.cons S 0 rfl).cons S 2 rfl).cons S 3 rfl).cons S 4 rfl).cons S 5 rfl).cons S 9 rfl).cons S 12 rfl).cons S 13 rfl).cons S 11 rfl).cons S 15 rfl).cons S 14 rfl).cons S 16 rfl
    refine gsr ?_
    refine gm S fun a S => ?_
    refine gm S fun a S => ?_
    refine gy rfl rfl rfl S (y_iaddrn rfl Tryz.underlying22 Fsiz50 S H rfl rfl (by first | assumption | omega | (simp only [List.length_cons, List.length_nil]; omega) | (rw [titL_len]; omega) | (simp only [LL]; omega))) fun a S => ?_
    refine gy rfl rfl rfl S (y_faddr rfl Ffo50_2 S rfl) fun a S => ?_
    refine gy rfl rfl rfl S (y_loadsf _ rfl Fsca5 S H rfl (by first | assumption | omega | (simp only [List.length_cons, List.length_nil]; omega) | (rw [titL_len]; omega) | (simp only [LL]; omega)) rfl) fun a S => ?_
    rw [← hE] at S
    refine gy rfl rfl rfl S (y_conv rfl Tryz.underlying5 Tryz.underlying3 S rfl (by omega)) fun a S => ?_
    refine gy rfl rfl rfl S ((y_remN (m := e.title) (q := 5) rfl S rfl rfl (by decide))) fun a S => ?_
    rw [← hkt] at S
    refine ga S fun a S => ?_
    refine gnt ?_
    have S := ((((((((((((S.nil.cons S 0 rfl).cons S 2 rfl).cons S 3 rfl).cons S 4 rfl).cons S 5 rfl).cons S 9 rfl).cons S 12 rfl).cons S 13 rfl).cons S 11 rfl).cons S 15 rfl).cons S 14 rfl).cons S 16 rfl).cons S 17 rfl
    refine gsr ?_
    refine gm S fun a S => ?_
    refine wl_of (op_call (wn rfl) rfl rfl S (co_func rfl Tryz.call13 S rfl) (log_at (b := bs jj) (g := s.gs jj) (z := zs jj) ((H.front (FamA [0, 1, 2] (fun i => GateA (bs i) (s.gs i) (zs i)))).famOut hjm) hgl) fun u91 w hc a S => ?_)
    have H1 := hc
    have H := H.call1 H1 rfl
    refine gy rfl rfl rfl S (y_lens rfl Tryz.underlying29 S H rfl) fun a S => ?_
    refine ga S fun a S => ?_
    refine gnt ?_
    refine g_seq ?_
    refine gsr ?_
    refine gm S fun a S => ?_
    refine gm S fun a S => ?_
    refine gy rfl rfl rfl S (y_iaddrn rfl Tryz.underlying22 Fsiz50 S H rfl rfl (by first | assumption | omega | (simp only [List.length_cons, List.length_nil]; omega) | (rw [titL_len]; omega) | (simp only [LL]; omega))) fun a S => ?_
    refine gy rfl rfl rfl S (y_faddr rfl Ffo50_0 S rfl) fun a S => ?_
    refine gy rfl rfl rfl S (y_loadsf _ rfl Fsca5 S H rfl (by first | assumption | omega | (simp only [List.length_cons, List.length_nil]; omega) | (rw [titL_len]; omega) | (simp only [LL]; omega)) rfl) fun a S => ?_
    rw [← hE] at S
    refine gy rfl rfl rfl S ((y_remN (m := e.kind) (q := 4) rfl S rfl rfl (by decide))) fun a S => ?_
    refine gnt ?_
    have S := ((((((((((((((S.nil.cons S 0 rfl).cons S 2 rfl).cons S 3 rfl).cons S 4 rfl).cons S 5 rfl).cons S 9 rfl).cons S 12 rfl).cons S 13 rfl).cons S 11 rfl).cons S 15 rfl).cons S 14 rfl).cons S 16 rfl).cons S 17 rfl).cons S 18 rfl).cons S 98 rfl
    refine cut (fun a w => ∃ (zs2 : Nat → GZ) (rv2 : Value), St 219 [(0, v), (2, (.slice none 0 0)), (3, (.slice none 0 0)), (4, (.slice none 0 0)), (5, gv), (9, tv), (11, rv2), (12, lv), (13, wv), (14, .int .i64 t), (15, .int .i64 (i : Int)), (16, .pointer (some ⟨(bs jj), 0, none⟩)), (17, .int .i64 (kt : Int)), (18, .int .i64 ((s.gs jj).log.length : Int))] a ∧ HSat No w0 [FamA [0, 1, 2] (fun i => GateA (bs i) ((s.mid keyF e).gs i) (zs2 i)), OSl 53 gv 1 encP [bs 0, bs 1, bs 2], OSl 42 tv 11 encO (titL (s.mid keyF e).gone), OSl 3 rv2 1 encI (s.mid keyF e).revoked, OSl 32 lv 6 encSV s.last, OSl 45 wv 6 encBV s.want, Sl v 4 encE es, TabsA, TabB] w) ?_ ?_
    ·skip
     refine g_block ?_
     refine gsr ?_
     refine gy rfl rfl rfl S (y_bin rfl S rfl rfl rfl) fun a S => ?_
     refine ga S fun a S => ?_
     refine gnt ?_
     refine c_if S rfl (fun h4 => ?_) (fun h4 => ?_)
     ·have h4p := h4; try simp only [DL] at h4p
      have hkd : e.kind % 4 = 0 := by have h := h4p; omega
      refine gsr ?_
      refine gm S fun a S => ?_
      refine gm S fun a S => ?_
      refine gy rfl rfl rfl S (y_iaddrn rfl Tryz.underlying25 Fsiz42 S H rfl rfl (by first | assumption | omega | (simp only [List.length_cons, List.length_nil]; omega) | (rw [titL_len]; omega) | (simp only [LL]; omega))) fun a S => ?_
      refine gy rfl rfl rfl S (y_faddr rfl Ffo42_4 S rfl) fun a S => ?_
      refine gy rfl rfl rfl S ((y_loadsf (u := .int .i64 (s.gone.getD kt 0)) tv rfl Fsca3 S H rfl (by rw [titL_len]; omega) (by rw [titL_at]; rfl))) fun a S => ?_
      refine gy rfl rfl rfl S (y_bin rfl S rfl rfl rfl) fun a S => ?_
      refine gnt ?_
      refine c_if S rfl (fun h5 => ?_) (fun h5 => ?_)
      ·have h5p := h5; try simp only [DL] at h5p
       have h0 : s.gone.getD kt 0 = 0 := by have h := h5p; omega
       refine gsr ?_
       refine gm S fun a S => ?_
       refine gm S fun a S => ?_
       refine gm S fun a S => ?_
       refine gy rfl rfl rfl S (y_iaddrn rfl Tryz.underlying25 Fsiz42 S H rfl rfl (by first | assumption | omega | (simp only [List.length_cons, List.length_nil]; omega) | (rw [titL_len]; omega) | (simp only [LL]; omega))) fun a S => ?_
       refine gy rfl rfl rfl S (y_faddr rfl Ffo42_4 S rfl) fun a S => ?_
       refine wl_of (op_storeS (i := kt) (j := 9) (sz := 11) (vs := [.int .i64 t]) _ (⟨titF (serK kt) (kt : Int) (keyF kt), t⟩ : OV) (wn rfl) rfl rfl S H rfl rfl rfl rfl (by simp [Value.oneCell']) Fsiz3 (by rw [titL_len]; omega) (by show 9 + 1 ≤ 11; decide) (by rw [titL_at]; rfl) fun a w S H => ?_)
       rw [titL_set hl5 hkt5] at H
       refine gnt ?_
       refine g_region ?_
       refine gm S fun a S => ?_
       refine gm S fun a S => ?_
       refine gm S fun a S => ?_
       refine gy rfl rfl rfl S (y_iaddrn rfl Tryz.underlying25 Fsiz42 S H rfl rfl (by first | assumption | omega | (simp only [List.length_cons, List.length_nil]; omega) | (rw [titL_len]; omega) | (simp only [LL]; omega))) fun a S => ?_
       refine gy rfl rfl rfl S (y_faddr rfl Ffo42_0 S rfl) fun a S => ?_
       refine gy rfl rfl rfl S (y_faddr rfl Ffo35_0 S rfl) fun a S => ?_
       refine gy rfl rfl rfl S ((y_loadsff (u := .int .i64 (serK kt)) tv rfl Fsca3 S H rfl (by rw [titL_len]; omega) (by rw [titL_at]; rfl))) fun a S => ?_
       refine wl_of (op_buildSlice (wn rfl) rfl rfl rfl Tryz.underlying40 Finf3 S H (idx := [0]) rfl rfl rfl (z := [.int .i64 0]) (by kernel_rfl) (cs := [_]) rfl fun b128 a w S H => ?_)
       refine wl_of (op_append ([serK kt]) (wn rfl) rfl rfl rfl Tryz.underlying40 Finf3 rfl rfl S H rfl rfl rfl rfl (by simp) (by simp [encI]) (by simp [encI, Value.oneCell']) (by simp only [List.length_singleton]; omega) (by simp only [List.length_singleton]; omega) fun u129 a w hn129 S H => ?_)
       have hfin : HSat No w0 [FamA [0, 1, 2] (fun i => GateA (bs i) ((s.mid keyF e).gs i) (zs i)), OSl 53 gv 1 encP [bs 0, bs 1, bs 2], OSl 42 tv 11 encO (titL (s.mid keyF e).gone), OSl 3 u129 1 encI (s.mid keyF e).revoked, OSl 32 lv 6 encSV s.last, OSl 45 wv 6 encBV s.want, Sl v 4 encE es, TabsA, TabB] w := by
         rw [mid_eq0 (e := e) (s := s) hkd hjj hkt ht h0]
         exact H.take [FamA [0, 1, 2] (fun i => GateA (bs i) (s.gs i) (zs i)), OSl 53 gv 1 encP [bs 0, bs 1, bs 2], OSl 42 tv 11 encO (titL (s.gone.set kt t)), OSl 3 u129 1 encI (s.revoked ++ [serK kt]), OSl 32 lv 6 encSV s.last, OSl 45 wv 6 encBV s.want, Sl v 4 encE es, TabsA, TabB]
       refine ga S fun a S => ?_
       refine gl_nil ?_
       refine n_block ?_
       refine n_then ?_
       exact ⟨_, _, ((((((((((((((S.nil.cons S 18 rfl).cons S 17 rfl).cons S 16 rfl).cons S 15 rfl).cons S 14 rfl).cons S 13 rfl).cons S 12 rfl).cons S 11 rfl).cons S 9 rfl).cons S 5 rfl).cons S 4 rfl).cons S 3 rfl).cons S 2 rfl).cons S 0 rfl), hfin⟩
      ·have h5p := h5; try simp only [DL] at h5p
       have h0 : ¬ s.gone.getD kt 0 = 0 := by have h := h5p; omega
       have hfin : HSat No w0 [FamA [0, 1, 2] (fun i => GateA (bs i) ((s.mid keyF e).gs i) (zs i)), OSl 53 gv 1 encP [bs 0, bs 1, bs 2], OSl 42 tv 11 encO (titL (s.mid keyF e).gone), OSl 3 rv 1 encI (s.mid keyF e).revoked, OSl 32 lv 6 encSV s.last, OSl 45 wv 6 encBV s.want, Sl v 4 encE es, TabsA, TabB] w := by
         rw [mid_eq0n (e := e) (s := s) hkd hjj hkt ht h0]
         exact H.take [FamA [0, 1, 2] (fun i => GateA (bs i) (s.gs i) (zs i)), OSl 53 gv 1 encP [bs 0, bs 1, bs 2], OSl 42 tv 11 encO (titL s.gone), OSl 3 rv 1 encI s.revoked, OSl 32 lv 6 encSV s.last, OSl 45 wv 6 encBV s.want, Sl v 4 encE es, TabsA, TabB]
       refine g_skip ?_
       refine n_block ?_
       refine n_then ?_
       exact ⟨_, _, ((((((((((((((S.nil.cons S 18 rfl).cons S 17 rfl).cons S 16 rfl).cons S 15 rfl).cons S 14 rfl).cons S 13 rfl).cons S 12 rfl).cons S 11 rfl).cons S 9 rfl).cons S 5 rfl).cons S 4 rfl).cons S 3 rfl).cons S 2 rfl).cons S 0 rfl), hfin⟩
     ·have h4p := h4; try simp only [DL] at h4p
      have hk0 : e.kind % 4 ≠ 0 := by have h := h4p; omega
      refine gsr ?_
      refine gy rfl rfl rfl S (y_bin rfl S rfl rfl rfl) fun a S => ?_
      refine ga S fun a S => ?_
      refine gnt ?_
      refine c_if S rfl (fun h6 => ?_) (fun h6 => ?_)
      ·have h6p := h6; try simp only [DL] at h6p
       have hkd : e.kind % 4 = 1 := by have h := h6p; omega
       refine gsr ?_
       refine gm S fun a S => ?_
       refine wl_of (op_call (wn rfl) rfl rfl S (co_func rfl Tryz.call14 S rfl) (make_spec rv s.revoked _ (H.sl rv) hrs H.tabs) fun v w hc a S => ?_)
       obtain ⟨nv, rfl, H1⟩ := hc
       have H := H.call1 H1 rfl
       refine gm S fun a S => ?_
       refine gy rfl rfl rfl S (y_extract rfl S rfl rfl) fun a S => ?_
       refine gy rfl rfl rfl S (y_extract rfl S rfl rfl) fun a S => ?_
       refine wl_of (op_alloc (wn rfl) rfl rfl rfl S H Fzer61 fun b19 a w S H => ?_)
       refine wl_of (op_storea (wn rfl) rfl rfl S H rfl rfl (all3 (H.sl1 nv)) Fsiz61 rfl (cs' := encF nv) rfl fun a w S H => ?_)
       refine ga S fun a S => ?_
       refine gnt ?_
       refine g_region ?_
       refine gm S fun a S => ?_
       refine gy rfl rfl rfl S (y_load0 rfl S H rfl (by exact Fagg61)) fun a S => ?_
       refine gm S fun a S => ?_
       refine wl_of (op_call (wn rfl) rfl rfl S (co_func rfl Tryz.call15 S rfl) (gate_at (H.front (FamA [0, 1, 2] (fun i => GateA (bs i) (s.gs i) (zs i)))) hjm (fun H => sync_at nv (makeW s.revoked) t H (makeW_ok _) htb hle)) fun v w hc a S => ?_)
       obtain ⟨rfl, zs2, H⟩ := hc
       have hfin : HSat No w0 [FamA [0, 1, 2] (fun i => GateA (bs i) ((s.mid keyF e).gs i) (zs2 i)), OSl 53 gv 1 encP [bs 0, bs 1, bs 2], OSl 42 tv 11 encO (titL (s.mid keyF e).gone), OSl 3 rv 1 encI (s.mid keyF e).revoked, OSl 32 lv 6 encSV s.last, OSl 45 wv 6 encBV s.want, Sl v 4 encE es, TabsA, TabB] w := by
         rw [mid_eq1 (e := e) (s := s) hkd hjj hkt ht]
         exact H.take [FamA [0, 1, 2] (fun i => GateA (bs i) ((fun i => if i = jj then ((s.gs jj).sync (makeW s.revoked) t) else s.gs i) i) (zs2 i)), OSl 53 gv 1 encP [bs 0, bs 1, bs 2], OSl 42 tv 11 encO (titL s.gone), OSl 3 rv 1 encI s.revoked, OSl 32 lv 6 encSV s.last, OSl 45 wv 6 encBV s.want, Sl v 4 encE es, TabsA, TabB]
       refine gl_nil ?_
       refine n_block ?_
       refine n_then ?_
       exact ⟨_, _, ((((((((((((((S.nil.cons S 18 rfl).cons S 17 rfl).cons S 16 rfl).cons S 15 rfl).cons S 14 rfl).cons S 13 rfl).cons S 12 rfl).cons S 11 rfl).cons S 9 rfl).cons S 5 rfl).cons S 4 rfl).cons S 3 rfl).cons S 2 rfl).cons S 0 rfl), hfin⟩
      ·have h6p := h6; try simp only [DL] at h6p
       have hk1 : e.kind % 4 ≠ 1 := by have h := h6p; omega
       refine gsr ?_
       refine gy rfl rfl rfl S (y_bin rfl S rfl rfl rfl) fun a S => ?_
       refine ga S fun a S => ?_
       refine gnt ?_
       refine c_if S rfl (fun h7 => ?_) (fun h7 => ?_)
       ·have h7p := h7; try simp only [DL] at h7p
        have hkd : e.kind % 4 = 2 := by have h := h7p; omega
        refine g_region ?_
        refine gm S fun a S => ?_
        refine gm S fun a S => ?_
        refine gm S fun a S => ?_
        refine gy rfl rfl rfl S (y_iaddrn rfl Tryz.underlying25 Fsiz42 S H rfl rfl (by first | assumption | omega | (simp only [List.length_cons, List.length_nil]; omega) | (rw [titL_len]; omega) | (simp only [LL]; omega))) fun a S => ?_
        refine gy rfl rfl rfl S (y_faddr rfl Ffo42_0 S rfl) fun a S => ?_
        refine gy rfl rfl rfl S ((y_loadsfa tv rfl S H rfl (vs := [.int .i64 (serK kt), .int .i64 0, .int .i64 (kt : Int), .string (keyF kt), .slice none 0 0]) (by exact Fagg35) (by rw [titL_len]; omega) (by rw [titL_at]; rfl))) fun a S => ?_
        refine gm S fun a S => ?_
        refine wl_of (op_call (wn rfl) rfl rfl S (co_func rfl Tryz.call16 S rfl) (gate_at (H.front (FamA [0, 1, 2] (fun i => GateA (bs i) (s.gs i) (zs i)))) hjm (fun H => scan_at (serK kt) (kt : Int) t (keyF kt) H (tit_ok hkt5) (hinv.fok jj hj3) htb hle hsi (by omega))) fun v w hc a S => ?_)
        obtain ⟨rfl, zs2, H⟩ := hc
        have hfin : HSat No w0 [FamA [0, 1, 2] (fun i => GateA (bs i) ((s.mid keyF e).gs i) (zs2 i)), OSl 53 gv 1 encP [bs 0, bs 1, bs 2], OSl 42 tv 11 encO (titL (s.mid keyF e).gone), OSl 3 rv 1 encI (s.mid keyF e).revoked, OSl 32 lv 6 encSV s.last, OSl 45 wv 6 encBV s.want, Sl v 4 encE es, TabsA, TabB] w := by
          rw [mid_eq2 (e := e) (s := s) hkd hjj hkt ht]
          exact H.take [FamA [0, 1, 2] (fun i => GateA (bs i) ((fun i => if i = jj then ((s.gs jj).scan (serK kt) (keyF kt) t) else s.gs i) i) (zs2 i)), OSl 53 gv 1 encP [bs 0, bs 1, bs 2], OSl 42 tv 11 encO (titL s.gone), OSl 3 rv 1 encI s.revoked, OSl 32 lv 6 encSV s.last, OSl 45 wv 6 encBV s.want, Sl v 4 encE es, TabsA, TabB]
        refine gl_nil ?_
        refine n_block ?_
        refine n_then ?_
        exact ⟨_, _, ((((((((((((((S.nil.cons S 18 rfl).cons S 17 rfl).cons S 16 rfl).cons S 15 rfl).cons S 14 rfl).cons S 13 rfl).cons S 12 rfl).cons S 11 rfl).cons S 9 rfl).cons S 5 rfl).cons S 4 rfl).cons S 3 rfl).cons S 2 rfl).cons S 0 rfl), hfin⟩
       ·have h7p := h7; try simp only [DL] at h7p
        have hkd : e.kind % 4 = 3 := by have h := h7p; omega
        refine g_region ?_
        refine gm S fun a S => ?_
        refine gm S fun a S => ?_
        refine gm S fun a S => ?_
        refine gy rfl rfl rfl S (y_iaddrn rfl Tryz.underlying25 Fsiz42 S H rfl rfl (by first | assumption | omega | (simp only [List.length_cons, List.length_nil]; omega) | (rw [titL_len]; omega) | (simp only [LL]; omega))) fun a S => ?_
        refine gy rfl rfl rfl S (y_faddr rfl Ffo42_0 S rfl) fun a S => ?_
        refine gy rfl rfl rfl S (y_faddr rfl Ffo35_0 S rfl) fun a S => ?_
        refine gy rfl rfl rfl S ((y_loadsff (u := .int .i64 (serK kt)) tv rfl Fsca3 S H rfl (by rw [titL_len]; omega) (by rw [titL_at]; rfl))) fun a S => ?_
        refine gm S fun a S => ?_
        refine wl_of (op_call (wn rfl) rfl rfl S (co_func rfl Tryz.call17 S rfl) (gate_at (H.front (FamA [0, 1, 2] (fun i => GateA (bs i) (s.gs i) (zs i)))) hjm (fun H => leave_at (serK kt) t H htb hle (by omega))) fun v w hc a S => ?_)
        obtain ⟨rfl, zs2, H⟩ := hc
        have hfin : HSat No w0 [FamA [0, 1, 2] (fun i => GateA (bs i) ((s.mid keyF e).gs i) (zs2 i)), OSl 53 gv 1 encP [bs 0, bs 1, bs 2], OSl 42 tv 11 encO (titL (s.mid keyF e).gone), OSl 3 rv 1 encI (s.mid keyF e).revoked, OSl 32 lv 6 encSV s.last, OSl 45 wv 6 encBV s.want, Sl v 4 encE es, TabsA, TabB] w := by
          rw [mid_eq3 (e := e) (s := s) hkd hjj hkt ht]
          exact H.take [FamA [0, 1, 2] (fun i => GateA (bs i) ((fun i => if i = jj then ((s.gs jj).leave (serK kt) t) else s.gs i) i) (zs2 i)), OSl 53 gv 1 encP [bs 0, bs 1, bs 2], OSl 42 tv 11 encO (titL s.gone), OSl 3 rv 1 encI s.revoked, OSl 32 lv 6 encSV s.last, OSl 45 wv 6 encBV s.want, Sl v 4 encE es, TabsA, TabB]
        refine gl_nil ?_
        refine n_block ?_
        refine n_then ?_
        exact ⟨_, _, ((((((((((((((S.nil.cons S 18 rfl).cons S 17 rfl).cons S 16 rfl).cons S 15 rfl).cons S 14 rfl).cons S 13 rfl).cons S 12 rfl).cons S 11 rfl).cons S 9 rfl).cons S 5 rfl).cons S 4 rfl).cons S 3 rfl).cons S 2 rfl).cons S 0 rfl), hfin⟩
    rintro a w ⟨zs2, rv2, S, H⟩
    refine gsr ?_
    refine gm S fun a S => ?_
    refine wl_of (op_call (wn rfl) rfl rfl S (co_func rfl Tryz.call13 S rfl) (log_at (b := bs jj) (g := (s.mid keyF e).gs jj) (z := zs2 jj) ((H.front (FamA [0, 1, 2] (fun i => GateA (bs i) ((s.mid keyF e).gs i) (zs2 i)))).famOut hjm) (by rcases hmg with h | ⟨x, h⟩ <;> rw [h] <;> first | omega | (rw [List.length_append, List.length_singleton]; omega))) fun u152 w hc a S => ?_)
    have H1 := hc
    have H := H.call1 H1 rfl
    refine ga S fun a S => ?_
    refine gnt ?_
    refine g_seq ?_
    refine gsr ?_
    refine gm S fun a S => ?_
    refine gy rfl rfl rfl S (y_lens rfl Tryz.underlying29 S H rfl) fun a S => ?_
    refine gm S fun a S => ?_
    refine gy rfl rfl rfl S (y_bin rfl S rfl rfl rfl) fun a S => ?_
    refine gnt ?_
    have S := ((((((((((((((S.nil.cons S 18 rfl).cons S 17 rfl).cons S 15 rfl).cons S 14 rfl).cons S 13 rfl).cons S 12 rfl).cons S 11 rfl).cons S 9 rfl).cons S 5 rfl).cons S 4 rfl).cons S 3 rfl).cons S 2 rfl).cons S 0 rfl).cons S 21 rfl).cons S 156 rfl
    refine c_if S rfl (fun h8 => ?_) (fun h8 => ?_)
    ·have h8p := h8; try simp only [DL] at h8p
     have hsame : ((s.mid keyF e).gs jj).log.length = (s.gs jj).log.length := by have h := h8p; omega
     refine g_exit ?_
     refine x_then (x_eq ?_)
     refine n_then ?_
     have S := ((((((((((S.nil.cons S 15 rfl).cons S 14 rfl).cons S 13 rfl).cons S 12 rfl).cons S 11 rfl).cons S 9 rfl).cons S 5 rfl).cons S 4 rfl).cons S 3 rfl).cons S 2 rfl).cons S 0 rfl
     refine g_region ?_
     refine gm S fun a S => ?_
     refine gy rfl rfl rfl S (y_add rfl S rfl rfl (by omega)) fun a S => ?_
     refine ga S fun a S => ?_
     refine gnt ?_
     rw [hnow2] at S
     first
     | exact ⟨(i + 1, zs2, rv2, wv), (((S.nil.cons S 13 rfl).cons S 11 rfl).cons S 14 rfl).cons S 15 rfl, ((((((S.nil.cons S 0 rfl).cons S 2 rfl).cons S 3 rfl).cons S 4 rfl).cons S 5 rfl).cons S 9 rfl).cons S 12 rfl, ⟨by dsimp only; omega, by dsimp only; rw [hstep, Ply.fin_same hsame, mid_last, mid_want]; exact H.take [FamA [0, 1, 2] (fun i => GateA (bs i) ((s.mid keyF e).gs i) (zs2 i)), OSl 53 gv 1 encP [bs 0, bs 1, bs 2], OSl 42 tv 11 encO (titL (s.mid keyF e).gone), OSl 3 rv2 1 encI (s.mid keyF e).revoked, OSl 32 lv 6 encSV s.last, OSl 45 wv 6 encBV s.want, Sl v 4 encE es, TabsA, TabB]⟩, by dsimp only; omega⟩
     | exact ⟨(i + 1, zs2, rv2, wv2), (((S.nil.cons S 13 rfl).cons S 11 rfl).cons S 14 rfl).cons S 15 rfl, ((((((S.nil.cons S 0 rfl).cons S 2 rfl).cons S 3 rfl).cons S 4 rfl).cons S 5 rfl).cons S 9 rfl).cons S 12 rfl, ⟨by dsimp only; omega, by dsimp only; rw [hstep, fin_yes hmore (by omega) hx2]; dsimp only; rw [mid_last, mid_want, hyd, if_pos hk12]; exact H.take [FamA [0, 1, 2] (fun i => GateA (bs i) ((s.mid keyF e).gs i) (zs2 i)), OSl 53 gv 1 encP [bs 0, bs 1, bs 2], OSl 42 tv 11 encO (titL (s.mid keyF e).gone), OSl 3 rv2 1 encI (s.mid keyF e).revoked, OSl 32 lv 6 encSV (s.last.set kt x), OSl 45 wv2 6 encBV (s.want ++ newW x y), Sl v 4 encE es, TabsA, TabB]⟩, by dsimp only; omega⟩
     | exact ⟨(i + 1, zs2, rv2, wv2), (((S.nil.cons S 13 rfl).cons S 11 rfl).cons S 14 rfl).cons S 15 rfl, ((((((S.nil.cons S 0 rfl).cons S 2 rfl).cons S 3 rfl).cons S 4 rfl).cons S 5 rfl).cons S 9 rfl).cons S 12 rfl, ⟨by dsimp only; omega, by dsimp only; rw [hstep, fin_yes hmore (by omega) hx2]; dsimp only; rw [mid_last, mid_want, hyd, if_neg hk12]; exact H.take [FamA [0, 1, 2] (fun i => GateA (bs i) ((s.mid keyF e).gs i) (zs2 i)), OSl 53 gv 1 encP [bs 0, bs 1, bs 2], OSl 42 tv 11 encO (titL (s.mid keyF e).gone), OSl 3 rv2 1 encI (s.mid keyF e).revoked, OSl 32 lv 6 encSV s.last, OSl 45 wv2 6 encBV (s.want ++ newW x y), Sl v 4 encE es, TabsA, TabB]⟩, by dsimp only; omega⟩
    ·have h8p := h8; try simp only [DL] at h8p
     have hmore : (s.gs jj).log.length < ((s.mid keyF e).gs jj).log.length := by
       have h := h8p
       rcases hmg with h2 | ⟨x, h2⟩
       · rw [h2] at h; exact absurd rfl h
       · rw [h2, List.length_append, List.length_singleton]; omega
     obtain ⟨x, hx⟩ : ∃ x, x = ((s.mid keyF e).gs jj).log[(s.gs jj).log.length] := ⟨_, rfl⟩
     have hx2 := hx.symm
     refine g_skip ?_
     refine n_then ?_
     refine gsr ?_
     refine gm S fun a S => ?_
     refine gm S fun a S => ?_
     refine gy rfl rfl rfl S (y_iaddrn rfl Tryz.underlying29 Fsiz32 S H rfl rfl (by first | assumption | omega | (simp only [List.length_cons, List.length_nil]; omega) | (rw [titL_len]; omega) | (simp only [LL]; omega))) fun a S => ?_
     refine gy rfl rfl rfl S (y_loadsa _ rfl S H rfl (by exact Fagg32) (by first | assumption | omega | (simp only [List.length_cons, List.length_nil]; omega) | (rw [titL_len]; omega) | (simp only [LL]; omega))) fun a S => ?_
     rw [← hx] at S
     refine wl_of (op_alloc (wn rfl) rfl rfl rfl S H Fzer32 fun b22 a w S H => ?_)
     refine wl_of (op_storea (wn rfl) rfl rfl S H rfl rfl rfl Fsiz32 rfl (cs' := encSV x) rfl fun a w S H => ?_)
     refine gnt ?_
     have S := ((((((((((((S.nil.cons S 17 rfl).cons S 15 rfl).cons S 14 rfl).cons S 13 rfl).cons S 12 rfl).cons S 11 rfl).cons S 9 rfl).cons S 5 rfl).cons S 4 rfl).cons S 3 rfl).cons S 2 rfl).cons S 0 rfl).cons S 22 rfl
     refine g_seq ?_
     refine gsr ?_
     refine gy rfl rfl rfl S (y_faddrb rfl Ffo32_4 S rfl) fun a S => ?_
     refine gy rfl rfl rfl S (y_load rfl Fsca3 S H rfl rfl) fun a S => ?_
     refine gy rfl rfl rfl S (y_bin rfl S rfl rfl rfl) fun a S => ?_
     refine gm S fun a S => ?_
     refine' wl_and 6 164 rfl S H rfl rfl rfl rfl rfl rfl rfl (fun _ S => (wn rfl)) (fun h9 kk => ?yh9) (fun a w S H => ?_)
     case yh9 =>
      have h9p := h9; try simp only [DL] at h9p
      refine gz 164 h9 S rfl rfl rfl rfl rfl rfl (y_move rfl S rfl) fun a S => ?_
      refine gz 164 h9 S rfl rfl rfl rfl rfl rfl (y_move rfl S rfl) fun a S => ?_
      refine gz 164 h9 S rfl rfl rfl rfl rfl rfl (y_iaddrn rfl Tryz.underlying29 Fsiz32 S H rfl rfl (by first | assumption | omega | (simp only [List.length_cons, List.length_nil]; omega) | (rw [titL_len]; omega) | (simp only [LL]; omega))) fun a S => ?_
      refine gz 164 h9 S rfl rfl rfl rfl rfl rfl (y_faddr rfl Ffo32_4 S rfl) fun a S => ?_
      refine gz 164 h9 S rfl rfl rfl rfl rfl rfl ((y_loadsf (u := .int .i64 y.kind) lv rfl Fsca3 S H rfl (by omega) (by rw [← hy]; rfl))) fun a S => ?_
      refine gz 164 h9 S rfl rfl rfl rfl rfl rfl (y_bin rfl S rfl rfl rfl) fun a S => ?_
      refine gy rfl rfl rfl S (y_and' rfl h9 S rfl rfl) fun a S => ?_
      exact kk _ _ (S.join 7 171 rfl rfl) H
     refine gnt ?_
     have S := (((((((((((((S.nil.cons S 17 rfl).cons S 15 rfl).cons S 14 rfl).cons S 13 rfl).cons S 12 rfl).cons S 11 rfl).cons S 9 rfl).cons S 5 rfl).cons S 4 rfl).cons S 3 rfl).cons S 2 rfl).cons S 0 rfl).cons S 22 rfl).cons S 171 rfl
     refine cut (fun a w => ∃ wv2 : Value, St 219 [(0, v), (2, (.slice none 0 0)), (3, (.slice none 0 0)), (4, (.slice none 0 0)), (5, gv), (9, tv), (11, rv2), (12, lv), (13, wv2), (14, .int .i64 t), (15, .int .i64 (i : Int)), (17, .int .i64 (kt : Int)), (22, .pointer (some ⟨b22, 0, none⟩))] a ∧ HSat No w0 (Cel b22 32 (encSV x) :: [FamA [0, 1, 2] (fun i => GateA (bs i) ((s.mid keyF e).gs i) (zs2 i)), OSl 53 gv 1 encP [bs 0, bs 1, bs 2], OSl 42 tv 11 encO (titL (s.mid keyF e).gone), OSl 3 rv2 1 encI (s.mid keyF e).revoked, OSl 32 lv 6 encSV s.last, OSl 45 wv2 6 encBV (s.want ++ newW x y), Sl v 4 encE es, TabsA, TabB]) w) ?_ ?_
     ·skip
      refine c_if S rfl (fun h10 => ?_) (fun h10 => ?_)
      ·have h10p := h10; try simp only [DL] at h10p
       have hnw : newW x y = [⟨1, x.serial, x.gate, x.number, y.gate, y.number⟩] := by unfold newW; rw [if_pos (by have h := h10p; exact h)]
       refine region_st (loud := [18, 19]) (tails := [19]) (free := []) [0, 1, 2, 3, 4, 5, 6, 7, 8, 9, 10, 11, 12, 13, 14, 15, 16, 17, 18, 19, 20] [] Fmo (by kernel_rfl) (by kernel_rfl) rfl H ?_
       refine m_w rfl rfl (wn rfl) rfl rfl S (fun w H => y_move rfl S rfl) fun a S => ?_
       refine m_w rfl rfl (wn rfl) rfl rfl S (fun w H => y_faddrb rfl Ffo32_3 S rfl) fun a S => ?_
       refine m_w rfl rfl (wn rfl) rfl rfl S (fun w H => y_load rfl Fsca3 S H rfl rfl) fun a S => ?_
       refine m_w rfl rfl (wn rfl) rfl rfl S (fun w H => y_faddrb rfl Ffo32_0 S rfl) fun a S => ?_
       refine m_w rfl rfl (wn rfl) rfl rfl S (fun w H => y_load rfl Fsca3 S H rfl rfl) fun a S => ?_
       refine m_w rfl rfl (wn rfl) rfl rfl S (fun w H => y_faddrb rfl Ffo32_1 S rfl) fun a S => ?_
       refine m_w rfl rfl (wn rfl) rfl rfl S (fun w H => y_load rfl Fsca3 S H rfl rfl) fun a S => ?_
       refine m_w rfl rfl (wn rfl) rfl rfl S (fun w H => y_move rfl S rfl) fun a S => ?_
       refine m_w rfl rfl (wn rfl) rfl rfl S (fun w H => y_move rfl S rfl) fun a S => ?_
       refine m_w rfl rfl (wn rfl) rfl rfl S (fun w H => y_iaddrn rfl Tryz.underlying29 Fsiz32 S H rfl rfl (by first | assumption | omega | (simp only [List.length_cons, List.length_nil]; omega) | (rw [titL_len]; omega) | (simp only [LL]; omega))) fun a S => ?_
       refine m_w rfl rfl (wn rfl) rfl rfl S (fun w H => y_faddr rfl Ffo32_0 S rfl) fun a S => ?_
       refine m_w rfl rfl (wn rfl) rfl rfl S (fun w H => (y_loadsf (u := .int .i64 y.gate) lv rfl Fsca3 S H rfl (by omega) (by rw [← hy]; rfl))) fun a S => ?_
       refine m_w rfl rfl (wn rfl) rfl rfl S (fun w H => y_move rfl S rfl) fun a S => ?_
       refine m_w rfl rfl (wn rfl) rfl rfl S (fun w H => y_move rfl S rfl) fun a S => ?_
       refine m_w rfl rfl (wn rfl) rfl rfl S (fun w H => y_iaddrn rfl Tryz.underlying29 Fsiz32 S H rfl rfl (by first | assumption | omega | (simp only [List.length_cons, List.length_nil]; omega) | (rw [titL_len]; omega) | (simp only [LL]; omega))) fun a S => ?_
       refine m_w rfl rfl (wn rfl) rfl rfl S (fun w H => y_faddr rfl Ffo32_1 S rfl) fun a S => ?_
       refine m_w rfl rfl (wn rfl) rfl rfl S (fun w H => (y_loadsf (u := .int .i64 y.number) lv rfl Fsca3 S H rfl (by omega) (by rw [← hy]; rfl))) fun a S => ?_
       refine m_w rfl rfl (wn rfl) rfl rfl S (fun w H => y_buildf rfl Fbld45 S rfl (idx := [0, 1, 2, 3, 4, 5]) rfl (cs := [_, _, _, _, _, _]) rfl) fun a S => ?_
       refine m_l rfl rfl (fun w H => op_buildSlice (wn rfl) rfl rfl rfl Tryz.underlying26 Finf45 S H (idx := [0]) rfl rfl rfl (z := [.int .i64 0, .int .i64 0, .int .i64 0, .int .i64 0, .int .i64 0, .int .i64 0]) (by kernel_rfl) (cs := [.int .i64 1, .int .i64 x.serial, .int .i64 x.gate, .int .i64 x.number, .int .i64 y.gate, .int .i64 y.number]) (by kernel_rfl) fun b190 a w S H => m_next H (List.sublist_cons_self _ _) ?_)
       refine m_l rfl rfl (fun w H => op_append ([(⟨1, x.serial, x.gate, x.number, y.gate, y.number⟩ : BV)]) (wn rfl) rfl rfl rfl Tryz.underlying26 Finf45 rfl rfl S H rfl rfl rfl rfl (by simp) (by simp [encBV]) (by simp [encBV, Value.oneCell']) (by simp only [List.length_singleton]; omega) (by simp only [List.length_singleton]; omega) fun u191 a w hn191 S H => m_tail H rfl ?_)
       refine m_w rfl rfl (wn rfl) rfl rfl S (fun w H => y_assign rfl S rfl) fun a S => ?_
       refine m_nil (fun w H => ?_)
       refine n_then ?_
       first
       | exact ⟨u191, (((((((((((((S.nil.cons S 22 rfl).cons S 17 rfl).cons S 15 rfl).cons S 14 rfl).cons S 13 rfl).cons S 12 rfl).cons S 11 rfl).cons S 9 rfl).cons S 5 rfl).cons S 4 rfl).cons S 3 rfl).cons S 2 rfl).cons S 0 rfl), by rw [hnw]; exact H.take (Cel b22 32 (encSV x) :: [FamA [0, 1, 2] (fun i => GateA (bs i) ((s.mid keyF e).gs i) (zs2 i)), OSl 53 gv 1 encP [bs 0, bs 1, bs 2], OSl 42 tv 11 encO (titL (s.mid keyF e).gone), OSl 3 rv2 1 encI (s.mid keyF e).revoked, OSl 32 lv 6 encSV s.last, OSl 45 u191 6 encBV (s.want ++ [(⟨1, x.serial, x.gate, x.number, y.gate, y.number⟩ : BV)]), Sl v 4 encE es, TabsA, TabB])⟩
       | exact ⟨wv, (((((((((((((S.nil.cons S 22 rfl).cons S 17 rfl).cons S 15 rfl).cons S 14 rfl).cons S 13 rfl).cons S 12 rfl).cons S 11 rfl).cons S 9 rfl).cons S 5 rfl).cons S 4 rfl).cons S 3 rfl).cons S 2 rfl).cons S 0 rfl), by rw [hnw, List.append_nil]; exact H.take (Cel b22 32 (encSV x) :: [FamA [0, 1, 2] (fun i => GateA (bs i) ((s.mid keyF e).gs i) (zs2 i)), OSl 53 gv 1 encP [bs 0, bs 1, bs 2], OSl 42 tv 11 encO (titL (s.mid keyF e).gone), OSl 3 rv2 1 encI (s.mid keyF e).revoked, OSl 32 lv 6 encSV s.last, OSl 45 wv 6 encBV s.want, Sl v 4 encE es, TabsA, TabB])⟩
      ·have h10p := h10; try simp only [DL] at h10p
       have hnw : newW x y = [] := by unfold newW; rw [if_neg (by have h := h10; simpa using h)]
       refine g_skip ?_
       refine n_then ?_
       first
       | exact ⟨u191, (((((((((((((S.nil.cons S 22 rfl).cons S 17 rfl).cons S 15 rfl).cons S 14 rfl).cons S 13 rfl).cons S 12 rfl).cons S 11 rfl).cons S 9 rfl).cons S 5 rfl).cons S 4 rfl).cons S 3 rfl).cons S 2 rfl).cons S 0 rfl), by rw [hnw]; exact H.take (Cel b22 32 (encSV x) :: [FamA [0, 1, 2] (fun i => GateA (bs i) ((s.mid keyF e).gs i) (zs2 i)), OSl 53 gv 1 encP [bs 0, bs 1, bs 2], OSl 42 tv 11 encO (titL (s.mid keyF e).gone), OSl 3 rv2 1 encI (s.mid keyF e).revoked, OSl 32 lv 6 encSV s.last, OSl 45 u191 6 encBV (s.want ++ [(⟨1, x.serial, x.gate, x.number, y.gate, y.number⟩ : BV)]), Sl v 4 encE es, TabsA, TabB])⟩
       | exact ⟨wv, (((((((((((((S.nil.cons S 22 rfl).cons S 17 rfl).cons S 15 rfl).cons S 14 rfl).cons S 13 rfl).cons S 12 rfl).cons S 11 rfl).cons S 9 rfl).cons S 5 rfl).cons S 4 rfl).cons S 3 rfl).cons S 2 rfl).cons S 0 rfl), by rw [hnw, List.append_nil]; exact H.take (Cel b22 32 (encSV x) :: [FamA [0, 1, 2] (fun i => GateA (bs i) ((s.mid keyF e).gs i) (zs2 i)), OSl 53 gv 1 encP [bs 0, bs 1, bs 2], OSl 42 tv 11 encO (titL (s.mid keyF e).gone), OSl 3 rv2 1 encI (s.mid keyF e).revoked, OSl 32 lv 6 encSV s.last, OSl 45 wv 6 encBV s.want, Sl v 4 encE es, TabsA, TabB])⟩
     rintro a w ⟨wv2, S, H⟩
     refine gsr ?_
     refine gy rfl rfl rfl S (y_faddrb rfl Ffo32_4 S rfl) fun a S => ?_
     refine gy rfl rfl rfl S (y_load rfl Fsca3 S H rfl rfl) fun a S => ?_
     refine gy rfl rfl rfl S (y_bin rfl S rfl rfl rfl) fun a S => ?_
     refine gm S fun a S => ?_
     refine' wl_or 3 195 rfl S H rfl rfl rfl rfl rfl rfl rfl (fun _ S => (wn rfl)) (fun h11 kk => ?yh11) (fun a w S H => ?_)
     case yh11 =>
      have h11p := h11; try simp only [DL] at h11p
      refine gz 195 h11 S rfl rfl rfl rfl rfl rfl (y_faddrb rfl Ffo32_4 S rfl) fun a S => ?_
      refine gz 195 h11 S rfl rfl rfl rfl rfl rfl (y_load rfl Fsca3 S H rfl rfl) fun a S => ?_
      refine gz 195 h11 S rfl rfl rfl rfl rfl rfl (y_bin rfl S rfl rfl rfl) fun a S => ?_
      refine gy rfl rfl rfl S (y_or' rfl h11 S rfl rfl) fun a S => ?_
      exact kk _ _ (S.join 4 199 rfl rfl) H
     refine gnt ?_
     have S := (((((((((((((S.nil.cons S 22 rfl).cons S 17 rfl).cons S 15 rfl).cons S 14 rfl).cons S 13 rfl).cons S 12 rfl).cons S 11 rfl).cons S 9 rfl).cons S 5 rfl).cons S 4 rfl).cons S 3 rfl).cons S 2 rfl).cons S 0 rfl).cons S 199 rfl
     refine c_if S rfl (fun h12 => ?_) (fun h12 => ?_)
     ·have h12p := h12; try simp only [DL] at h12p
      have hk12 : x.kind = 1 ∨ x.kind = 2 := by have h := h12p; exact h
      refine g_region ?_
      refine gm S fun a S => ?_
      refine gm S fun a S => ?_
      refine gy rfl rfl rfl S (y_load0 rfl S H rfl (by exact Fagg32)) fun a S => ?_
      refine gy rfl rfl rfl S (y_iaddrn rfl Tryz.underlying29 Fsiz32 S H rfl rfl (by first | assumption | omega | (simp only [List.length_cons, List.length_nil]; omega) | (rw [titL_len]; omega) | (simp only [LL]; omega))) fun a S => ?_
      refine wl_of (op_storeS (i := kt) (j := 0) (sz := 6) (vs := encSV x) _ x (wn rfl) rfl rfl S H rfl addr0 rfl rfl (by simp [encSV, Value.oneCell']) Fsiz32 (by omega) (by show 0 + 6 ≤ 6; decide) (by simp [encSV]) fun a w S H => ?_)
      refine gl_nil ?_
      refine n_block ?_
      refine n_then ?_
      have S := ((((((((((S.nil.cons S 15 rfl).cons S 14 rfl).cons S 13 rfl).cons S 12 rfl).cons S 11 rfl).cons S 9 rfl).cons S 5 rfl).cons S 4 rfl).cons S 3 rfl).cons S 2 rfl).cons S 0 rfl
      refine g_region ?_
      refine gm S fun a S => ?_
      refine gy rfl rfl rfl S (y_add rfl S rfl rfl (by omega)) fun a S => ?_
      refine ga S fun a S => ?_
      refine gnt ?_
      rw [hnow2] at S
      first
      | exact ⟨(i + 1, zs2, rv2, wv), (((S.nil.cons S 13 rfl).cons S 11 rfl).cons S 14 rfl).cons S 15 rfl, ((((((S.nil.cons S 0 rfl).cons S 2 rfl).cons S 3 rfl).cons S 4 rfl).cons S 5 rfl).cons S 9 rfl).cons S 12 rfl, ⟨by dsimp only; omega, by dsimp only; rw [hstep, Ply.fin_same hsame, mid_last, mid_want]; exact H.take [FamA [0, 1, 2] (fun i => GateA (bs i) ((s.mid keyF e).gs i) (zs2 i)), OSl 53 gv 1 encP [bs 0, bs 1, bs 2], OSl 42 tv 11 encO (titL (s.mid keyF e).gone), OSl 3 rv2 1 encI (s.mid keyF e).revoked, OSl 32 lv 6 encSV s.last, OSl 45 wv 6 encBV s.want, Sl v 4 encE es, TabsA, TabB]⟩, by dsimp only; omega⟩
      | exact ⟨(i + 1, zs2, rv2, wv2), (((S.nil.cons S 13 rfl).cons S 11 rfl).cons S 14 rfl).cons S 15 rfl, ((((((S.nil.cons S 0 rfl).cons S 2 rfl).cons S 3 rfl).cons S 4 rfl).cons S 5 rfl).cons S 9 rfl).cons S 12 rfl, ⟨by dsimp only; omega, by dsimp only; rw [hstep, fin_yes hmore (by omega) hx2]; dsimp only; rw [mid_last, mid_want, hyd, if_pos hk12]; exact H.take [FamA [0, 1, 2] (fun i => GateA (bs i) ((s.mid keyF e).gs i) (zs2 i)), OSl 53 gv 1 encP [bs 0, bs 1, bs 2], OSl 42 tv 11 encO (titL (s.mid keyF e).gone), OSl 3 rv2 1 encI (s.mid keyF e).revoked, OSl 32 lv 6 encSV (s.last.set kt x), OSl 45 wv2 6 encBV (s.want ++ newW x y), Sl v 4 encE es, TabsA, TabB]⟩, by dsimp only; omega⟩
      | exact ⟨(i + 1, zs2, rv2, wv2), (((S.nil.cons S 13 rfl).cons S 11 rfl).cons S 14 rfl).cons S 15 rfl, ((((((S.nil.cons S 0 rfl).cons S 2 rfl).cons S 3 rfl).cons S 4 rfl).cons S 5 rfl).cons S 9 rfl).cons S 12 rfl, ⟨by dsimp only; omega, by dsimp only; rw [hstep, fin_yes hmore (by omega) hx2]; dsimp only; rw [mid_last, mid_want, hyd, if_neg hk12]; exact H.take [FamA [0, 1, 2] (fun i => GateA (bs i) ((s.mid keyF e).gs i) (zs2 i)), OSl 53 gv 1 encP [bs 0, bs 1, bs 2], OSl 42 tv 11 encO (titL (s.mid keyF e).gone), OSl 3 rv2 1 encI (s.mid keyF e).revoked, OSl 32 lv 6 encSV s.last, OSl 45 wv2 6 encBV (s.want ++ newW x y), Sl v 4 encE es, TabsA, TabB]⟩, by dsimp only; omega⟩
     ·have h12p := h12; try simp only [DL] at h12p
      have hk12 : ¬ (x.kind = 1 ∨ x.kind = 2) := by have h := h12; simpa using h
      refine g_skip ?_
      refine n_block ?_
      refine n_then ?_
      refine g_region ?_
      refine gm S fun a S => ?_
      refine gy rfl rfl rfl S (y_add rfl S rfl rfl (by omega)) fun a S => ?_
      refine ga S fun a S => ?_
      refine gnt ?_
      rw [hnow2] at S
      first
      | exact ⟨(i + 1, zs2, rv2, wv), (((S.nil.cons S 13 rfl).cons S 11 rfl).cons S 14 rfl).cons S 15 rfl, ((((((S.nil.cons S 0 rfl).cons S 2 rfl).cons S 3 rfl).cons S 4 rfl).cons S 5 rfl).cons S 9 rfl).cons S 12 rfl, ⟨by dsimp only; omega, by dsimp only; rw [hstep, Ply.fin_same hsame, mid_last, mid_want]; exact H.take [FamA [0, 1, 2] (fun i => GateA (bs i) ((s.mid keyF e).gs i) (zs2 i)), OSl 53 gv 1 encP [bs 0, bs 1, bs 2], OSl 42 tv 11 encO (titL (s.mid keyF e).gone), OSl 3 rv2 1 encI (s.mid keyF e).revoked, OSl 32 lv 6 encSV s.last, OSl 45 wv 6 encBV s.want, Sl v 4 encE es, TabsA, TabB]⟩, by dsimp only; omega⟩
      | exact ⟨(i + 1, zs2, rv2, wv2), (((S.nil.cons S 13 rfl).cons S 11 rfl).cons S 14 rfl).cons S 15 rfl, ((((((S.nil.cons S 0 rfl).cons S 2 rfl).cons S 3 rfl).cons S 4 rfl).cons S 5 rfl).cons S 9 rfl).cons S 12 rfl, ⟨by dsimp only; omega, by dsimp only; rw [hstep, fin_yes hmore (by omega) hx2]; dsimp only; rw [mid_last, mid_want, hyd, if_pos hk12]; exact H.take [FamA [0, 1, 2] (fun i => GateA (bs i) ((s.mid keyF e).gs i) (zs2 i)), OSl 53 gv 1 encP [bs 0, bs 1, bs 2], OSl 42 tv 11 encO (titL (s.mid keyF e).gone), OSl 3 rv2 1 encI (s.mid keyF e).revoked, OSl 32 lv 6 encSV (s.last.set kt x), OSl 45 wv2 6 encBV (s.want ++ newW x y), Sl v 4 encE es, TabsA, TabB]⟩, by dsimp only; omega⟩
      | exact ⟨(i + 1, zs2, rv2, wv2), (((S.nil.cons S 13 rfl).cons S 11 rfl).cons S 14 rfl).cons S 15 rfl, ((((((S.nil.cons S 0 rfl).cons S 2 rfl).cons S 3 rfl).cons S 4 rfl).cons S 5 rfl).cons S 9 rfl).cons S 12 rfl, ⟨by dsimp only; omega, by dsimp only; rw [hstep, fin_yes hmore (by omega) hx2]; dsimp only; rw [mid_last, mid_want, hyd, if_neg hk12]; exact H.take [FamA [0, 1, 2] (fun i => GateA (bs i) ((s.mid keyF e).gs i) (zs2 i)), OSl 53 gv 1 encP [bs 0, bs 1, bs 2], OSl 42 tv 11 encO (titL (s.mid keyF e).gone), OSl 3 rv2 1 encI (s.mid keyF e).revoked, OSl 32 lv 6 encSV s.last, OSl 45 wv2 6 encBV (s.want ++ newW x y), Sl v 4 encE es, TabsA, TabB]⟩, by dsimp only; omega⟩
   ·have h3p := h3; try simp only [DL] at h3p
    obtain rfl : i = es.length := by omega
    rw [List.take_length] at hs
    refine g_exit ?_
    refine x_then (x_then (x_eq ?_))
    refine n_then ?_
    have S := (((((S.nil.cons S 2 rfl).cons S 3 rfl).cons S 4 rfl).cons S 5 rfl).cons S 9 rfl).cons S 13 rfl
    refine gsr ?_
    refine ga S fun a S => ?_
    refine gnt ?_
    refine g_seq ?_
    refine gsr ?_
    refine ga S fun a S => ?_
    refine gnt ?_
    refine g_block ?_
    have H := (H.rowsZ 32 6 encSV).nilO 29 1 encRow (α := Value × List SV)
    have SU := (((((S.nil.cons S 2 rfl).cons S 3 rfl).cons S 4 rfl).cons S 5 rfl).cons S 9 rfl).cons S 13 rfl
    refine loopW (X := Nat × Value × List (Value × List SV)) SU (fun x => [(24, .int .i64 (x.1 : Int)), (23, x.2.1)]) (fun x w => x.1 ≤ 3 ∧ x.2.2.map (·.2) = s.logs.take x.1 ∧ x.2.2.length = x.1 ∧ HSat No w0 [OSl 29 x.2.1 1 encRow x.2.2, RowsA 32 6 encSV x.2.2, FamA [0, 1, 2] (fun i => GateA (bs i) (s.gs i) (zs i)), OSl 53 gv 1 encP [bs 0, bs 1, bs 2], OSl 42 tv 11 encO (titL s.gone), OSl 45 wv 6 encBV s.want] w) (fun x => 3 - x.1) (0, .slice none 0 0, []) ((S.nil.cons S 23 rfl).cons S 24 rfl) (⟨Nat.zero_le _, rfl, rfl, H.take [OSl 29 (.slice none 0 0) 1 encRow [], RowsA 32 6 encSV [], FamA [0, 1, 2] (fun i => GateA (bs i) (s.gs i) (zs i)), OSl 53 gv 1 encP [bs 0, bs 1, bs 2], OSl 42 tv 11 encO (titL s.gone), OSl 45 wv 6 encBV s.want]⟩) (fun x a w S hW => ?_)
    simp only [List.cons_append, List.nil_append] at S
    obtain ⟨k, lgv, ps⟩ := x
    obtain ⟨hk, hps, hpl, H⟩ := hW
    dsimp only at S H hk hps hpl
    refine g_seq ?_
    refine gsr ?_
    refine gm S fun a S => ?_
    refine gy rfl rfl rfl S (y_bin rfl S rfl rfl rfl) fun a S => ?_
    refine gnt ?_
    refine c_if S rfl (fun h13 => ?_) (fun h13 => ?_)
    ·have h13p := h13; try simp only [DL] at h13p
     have hk3 : k < 3 := by omega
     refine g_skip ?_
     refine n_then ?_
     refine g_seq ?_
     refine g_block ?_
     refine g_region ?_
     refine gm S fun a S => ?_
     refine gm S fun a S => ?_
     refine gm S fun a S => ?_
     refine gy rfl rfl rfl S (y_iaddrn rfl Tryz.underlying52 Fsiz53 S H rfl rfl (by first | assumption | omega | (simp only [List.length_cons, List.length_nil]; omega) | (rw [titL_len]; omega) | (simp only [LL]; omega))) fun a S => ?_
     refine gy rfl rfl rfl S ((y_loads (u := .pointer (some ⟨bs k, 0, none⟩)) gv rfl Fsca53 S H rfl (by simp; omega) (gat (by omega) _))) fun a S => ?_
     refine wl_of (op_call (wn rfl) rfl rfl S (co_func rfl Tryz.call13 S rfl) (log_at (b := bs k) (g := s.gs k) (z := zs k) ((H.front (FamA [0, 1, 2] (fun i => GateA (bs i) (s.gs i) (zs i)))).famOut (by simp; omega)) (by have := hinv.glen (j := k) (by omega); omega)) fun u213 w hc a S => ?_)
     have H1 := hc
     have H := H.call1 H1 rfl
     refine wl_of (op_buildSlice (wn rfl) rfl rfl rfl Tryz.underlying24 Finf29 S H (idx := [0]) rfl rfl rfl (z := [.slice none 0 0]) (by kernel_rfl) (cs := [u213]) (by obtain ⟨p, c, hp⟩ := (H.sl u213).shape; rw [hp]; rfl) fun b214 a w S H => ?_)
     have hone := H.sl1 u213
     refine wl_of (op_append ([((u213, (s.gs k).log) : Value × List SV)]) (wn rfl) rfl rfl rfl Tryz.underlying24 Finf29 rfl rfl S H rfl rfl rfl rfl (by simp) (by simp [encRow]) (by simp [encRow]; exact hone) (by simp only [List.length_singleton]; omega) (by simp only [List.length_singleton]; omega) fun u215 a w hn215 S H => ?_)
     have H := (H.front2 (OSl 32 u213 6 encSV (s.gs k).log) (RowsA 32 6 encSV ps)).rowSnoc
     refine ga S fun a S => ?_
     refine gl_nil ?_
     refine n_block ?_
     refine n_then ?_
     have S := (((((((S.nil.cons S 2 rfl).cons S 3 rfl).cons S 4 rfl).cons S 5 rfl).cons S 9 rfl).cons S 13 rfl).cons S 24 rfl).cons S 23 rfl
     refine g_region ?_
     refine gm S fun a S => ?_
     refine gy rfl rfl rfl S (y_add rfl S rfl rfl (by omega)) fun a S => ?_
     refine ga S fun a S => ?_
     refine gnt ?_
     exact ⟨(k + 1, u215, ps ++ [(u213, (s.gs k).log)]), (S.nil.cons S 23 rfl).cons S 24 rfl, (((((S.nil.cons S 2 rfl).cons S 3 rfl).cons S 4 rfl).cons S 5 rfl).cons S 9 rfl).cons S 13 rfl, ⟨by dsimp only; omega, logs_step hps hk3, by simp [hpl], H.take [OSl 29 u215 1 encRow (ps ++ [(u213, (s.gs k).log)]), RowsA 32 6 encSV (ps ++ [(u213, (s.gs k).log)]), FamA [0, 1, 2] (fun i => GateA (bs i) (s.gs i) (zs i)), OSl 53 gv 1 encP [bs 0, bs 1, bs 2], OSl 42 tv 11 encO (titL s.gone), OSl 45 wv 6 encBV s.want]⟩, by dsimp only; omega⟩
    ·have h13p := h13; try simp only [DL] at h13p
     obtain rfl : k = 3 := by omega
     refine g_exit ?_
     refine x_then (x_then (x_eq ?_))
     refine n_then ?_
     have S := (((((S.nil.cons S 2 rfl).cons S 3 rfl).cons S 4 rfl).cons S 9 rfl).cons S 13 rfl).cons S 23 rfl
     refine gsr ?_
     refine gm S fun a S => ?_
     refine gm S fun a S => ?_
     refine gm S fun a S => ?_
     refine ga S fun a S => ?_
     refine ga S fun a S => ?_
     refine ga S fun a S => ?_
     refine gnt ?_
     have S := ((S.nil.cons S 2 rfl).cons S 3 rfl).cons S 4 rfl
     refine g_ret ?_
     refine ret3 rfl S rfl rfl rfl ?_
     rw [hs] at H hps
     exact ⟨lgv, ps, tv, wv, rfl, by rw [hps]; rfl, H.take [OSl 29 lgv 1 encRow ps, RowsA 32 6 encSV ps, OSl 42 tv 11 encO (titL (play keyF es).gone), OSl 45 wv 6 encBV (play keyF es).want]⟩
end Go.Proofs.YtienaifmlhcijaaGreatDoor
end
section
namespace Go.Gd
set_option linter.unusedVariables false
set_option linter.unusedSimpArgs false
abbrev Slots := List (Nat × Value)
/-- the number of a frame's slots, and the blocks for what the rounds of its loops over functions defer -/
structure Sz where
  n : Nat
  ds : List Nat := []
instance (k : Nat) : OfNat Sz k := ⟨⟨k, []⟩⟩
def markOf (b : Nat) : Deferred := { target := .collected b, args := #[] }
/-- the frame a of n slots holds what fl lists -/
structure St (n : Sz) (fl : Slots) (a : Act) : Prop where
  size : a.tmps.size = n.n
  defers : a.defers = n.ds.map markOf
  get : ∀ i v, fl.lookup i = some v → a.tmps.getD i undef = v
def ev (fl : Slots) : Operand → Option Value
  | .tmp t => fl.lookup t
  | .const v => some v
  | .global g => some (.pointer (some ⟨g, 0, none⟩))
  | .func f => some (.func (.func f) #[] #[])
theorem St.ev {n : Sz} {fl : Slots} {a : Act} (S : St n fl a) {x : Operand} {v : Value} (h : ev fl x = some v) : a.eval x = v := by
  cases x with
  | tmp t => exact S.get t v h
  | const u => exact Option.some.inj h
  | global g => exact Option.some.inj h
  | func f => exact Option.some.inj h
theorem St.put {n : Sz} {fl : Slots} {a : Act} (S : St n fl a) {d : Nat} (hd : Nat.blt d n.n = true) (v : Value) : St n ((d, v) :: fl) (a.put (some d) v) := by
  have hd' : d < n.n := by simpa using hd
  refine ⟨by simp [Act.put, S.size], S.defers, ?_⟩
  intro i u h
  simp only [List.lookup] at h
  split at h
  · rename_i hi
    have : i = d := by simpa using hi
    subst this
    cases h
    simp [Act.put, S.size, hd']
  · rename_i hi
    have hne : d ≠ i := by intro e; subst e; simp at hi
    have := S.get i u h
    simp only [Act.put, Array.getD_eq_getD_getElem?] at this ⊢
    rw [Array.getElem?_setIfInBounds_ne hne]; exact this
theorem St.putNone {n : Sz} {fl : Slots} {a : Act} (S : St n fl a) (v : Value) : St n fl (a.put none v) := S
theorem St.nil {n : Sz} {fl : Slots} {a : Act} (S : St n fl a) : St n [] a := ⟨S.size, S.defers, fun _ _ h => by cases h⟩
theorem St.cons {n : Sz} {fl fl' : Slots} {a : Act} (S' : St n fl' a) (S : St n fl a) (i : Nat) {v : Value} (h : fl.lookup i = some v) : St n ((i, v) :: fl') a := by
  refine ⟨S.size, S.defers, fun j u hj => ?_⟩
  simp only [List.lookup] at hj
  split at hj
  · rename_i hi
    have : j = i := by simpa using hi
    subst this
    cases hj
    exact S.get _ _ h
  · exact S'.get j u hj
theorem lookup_append (fl1 fl2 : Slots) (i : Nat) : (fl1 ++ fl2).lookup i = ((fl1.lookup i).or (fl2.lookup i)) := by
  induction fl1 with
  | nil => simp [List.lookup]
  | cons p r ih =>
    obtain ⟨k, u⟩ := p
    simp only [List.cons_append, List.lookup]
    split <;> simp [ih]
def disjB (m : Nat) (fl : Slots) : Bool := (fl.take m).all fun p => !((fl.drop m).map (·.1)).contains p.1
theorem lookup_mem {fl : Slots} {i : Nat} {v : Value} (h : fl.lookup i = some v) : i ∈ fl.map (·.1) := by
  induction fl with
  | nil => cases h
  | cons p r ih =>
    obtain ⟨k, x⟩ := p
    simp only [List.lookup] at h
    split at h
    · rename_i hk; simp at hk; simp [hk]
    · exact List.mem_cons_of_mem _ (ih h)
/-- what was known before the m newest slots were written -/
theorem St.old {n : Sz} {fl : Slots} {a : Act} (S : St n fl a) (m : Nat) (h : disjB m fl = true) : St n (fl.drop m) a := by
  refine ⟨S.size, S.defers, fun i v hi => S.get i v ?_⟩
  have hm := lookup_mem hi
  rw [← List.take_append_drop m fl, lookup_append]
  cases ht : (fl.take m).lookup i with
  | none => simpa using hi
  | some u =>
    exfalso
    have h1 := lookup_mem ht
    obtain ⟨p, hp, rfl⟩ := List.mem_map.1 h1
    have := List.all_eq_true.1 h p hp
    simp only [Bool.not_eq_true', List.contains_eq_mem, decide_eq_false_iff_not] at this
    exact this hm
theorem St.append {n : Sz} {fl1 fl2 : Slots} {a : Act} (S1 : St n fl1 a) (S2 : St n fl2 a) : St n (fl1 ++ fl2) a := by
  refine ⟨S1.size, S1.defers, fun i v h => ?_⟩
  rw [lookup_append] at h
  cases h1 : fl1.lookup i with
  | some u => rw [h1] at h; simp at h; subst h; exact S1.get i _ h1
  | none => rw [h1] at h; simp at h; exact S2.get i v h
/-- never frozen -/
def ThawO : Option Obj → Prop
  | some (.cells _ _ (lo, hi)) => hi ≤ lo
  | _ => True
/-- below what stood in w, only blocks of M have turned; what was not frozen is not -/
structure Fr (M : Nat → Prop) (w w' : World) : Prop where
  os : w'.os = w.os
  tape : w'.tape = w.tape
  output : w'.output = w.output
  drawn : w.drawn ≤ w'.drawn
  size : w.heap.size ≤ w'.heap.size
  block : ∀ k, k < w.heap.size → ¬ M k → w'.heap[k]? = w.heap[k]?
  thaw : ∀ k : Nat, k < w.heap.size → ThawO w.heap[k]? → ThawO w'.heap[k]?
def No : Nat → Prop := fun _ => False
/-- w' is w with new blocks -/
abbrev Ext (w w' : World) : Prop := Fr No w w'
theorem Fr.refl (M : Nat → Prop) (w : World) : Fr M w w := ⟨rfl, rfl, rfl, Nat.le_refl _, Nat.le_refl _, fun _ _ _ => rfl, fun _ _ h => h⟩
theorem Ext.refl (w : World) : Ext w w := Fr.refl _ w
theorem Ext.block {w w' : World} (h : Ext w w') {k : Nat} (hk : k < w.heap.size) : w'.heap[k]? = w.heap[k]? := Fr.block h k hk (fun x => x)
theorem Fr.ext {M : Nat → Prop} {w0 w w' : World} (h : Fr M w0 w) (e : Ext w w') : Fr M w0 w' :=
  ⟨e.os.trans h.os, e.tape.trans h.tape, e.output.trans h.output, Nat.le_trans h.drawn e.drawn, Nat.le_trans h.size e.size,
    fun k hk hM => (e.block (Nat.lt_of_lt_of_le hk h.size)).trans (h.block k hk hM), fun k hk ht => e.thaw k (Nat.lt_of_lt_of_le hk h.size) (h.thaw k hk ht)⟩
theorem Ext.trans {w0 w w' : World} (h : Ext w0 w) (e : Ext w w') : Ext w0 w' := Fr.ext h e
theorem Fr.mono {M M' : Nat → Prop} {w w' : World} (h : Fr M w w') (hm : ∀ k, M k → M' k) : Fr M' w w' :=
  ⟨h.os, h.tape, h.output, h.drawn, h.size, fun k hk hk' => h.block k hk (fun x => hk' (hm k x)), h.thaw⟩
theorem Ext.fr {w w' : World} (h : Ext w w') (M : Nat → Prop) : Fr M w w' := h.mono (fun _ x => x.elim)
theorem Ext.drawn (w : World) (d : Nat) (h : w.drawn ≤ d := by exact Nat.le_succ _) : Ext w { w with drawn := d } := ⟨rfl, rfl, rfl, h, Nat.le_refl _, fun _ _ _ => rfl, fun _ _ h => h⟩
theorem Ext.drew (w : World) : Ext w w.drew := ⟨rfl, rfl, rfl, Nat.le_succ _, Nat.le_refl _, fun _ _ _ => rfl, fun _ _ h => h⟩
theorem heap_new (w : World) (o : Obj) : (w.alloc o).heap[w.heap.size]? = some o := by
  show (w.heap.push o)[w.heap.size]? = _
  simp
theorem Ext.alloc (w : World) (o : Obj) (ho : ThawO (some o)) : Ext w (w.alloc o) := ⟨rfl, rfl, rfl, Nat.le_refl _, by simp, fun k hk _ => RowKit.Below.heap_alloc w o k hk, fun k hk ht => by
  rw [RowKit.Below.heap_alloc w o k hk]; exact ht⟩
theorem Ext.alloc_cells (w : World) (cs : Array Value) (T : TypeId) : Ext w (w.alloc (.cells cs T (0, 0))) := Ext.alloc w _ (Nat.le_refl 0)
structure Atom where
  own : Bool
  fp : Nat → Prop
  ok : World → Prop
  loc : ∀ w w' : World, (∀ b, fp b → w'.heap[b]? = w.heap[b]?) → ok w → ok w'
  lt : ∀ (w : World) b, ok w → fp b → b < w.heap.size
def apart (x y : Atom) : Prop := (x.own = true ∨ y.own = true) → ∀ b, x.fp b → ¬ y.fp b
theorem apart.symm {x y : Atom} (h : apart x y) : apart y x := fun ho b hy hx => h ho.symm b hx hy
structure HSat (M : Nat → Prop) (w0 : World) (l : List Atom) (w : World) : Prop where
  fr : Fr M w0 w
  ok : ∀ x ∈ l, x.ok w
  mine : ∀ x ∈ l, x.own = true → ∀ b, x.fp b → M b ∨ w0.heap.size ≤ b
  sep : l.Pairwise apart
theorem HSat.ext {M : Nat → Prop} {w0 w w' : World} {l : List Atom} (H : HSat M w0 l w) (e : Ext w w') : HSat M w0 l w' :=
  ⟨H.fr.ext e, fun x hx => x.loc w w' (fun b hb => e.block (x.lt w b (H.ok x hx) hb)) (H.ok x hx), H.mine, H.sep⟩
theorem HSat.perm {M : Nat → Prop} {w0 w : World} {l l' : List Atom} (H : HSat M w0 l w) (p : l.Perm l') : HSat M w0 l' w :=
  ⟨H.fr, fun x hx => H.ok x (p.mem_iff.2 hx), fun x hx => H.mine x (p.mem_iff.2 hx), (p.pairwise_iff (fun h => apart.symm h)).1 H.sep⟩
theorem HSat.sub {M : Nat → Prop} {w0 w : World} {l l' : List Atom} (H : HSat M w0 l w) (p : l'.Sublist l) : HSat M w0 l' w :=
  ⟨H.fr, fun x hx => H.ok x (p.subset hx), fun x hx => H.mine x (p.subset hx), H.sep.sublist p⟩
theorem HSat.drop {M : Nat → Prop} {w0 w : World} {l : List Atom} (H : HSat M w0 l w) (k : Nat) : HSat M w0 (l.drop k) w := H.sub (List.drop_sublist k l)
theorem HSat.tail {M : Nat → Prop} {w0 w : World} {x : Atom} {l : List Atom} (H : HSat M w0 (x :: l) w) : HSat M w0 l w := H.sub (List.sublist_cons_self x l)
theorem HSat.nil {M : Nat → Prop} {w0 w : World} {l : List Atom} (H : HSat M w0 l w) : HSat M w0 [] w := H.sub (List.nil_sublist l)
theorem HSat.start (w : World) : HSat No w [] w := ⟨Fr.refl _ _, by simp, by simp, .nil⟩
theorem HSat.toExt {w0 w : World} {l : List Atom} (H : HSat No w0 l w) : Ext w0 w := H.fr
/-- one more read-only atom, apart from what is owned -/
theorem HSat.ro {M : Nat → Prop} {w0 w : World} {l : List Atom} (H : HSat M w0 l w) (x : Atom) (hx : x.own = false) (hok : x.ok w) (ha : ∀ y ∈ l, y.own = true → ∀ b, x.fp b → ¬ y.fp b) : HSat M w0 (x :: l) w :=
  ⟨H.fr, fun y hy => (List.mem_cons.1 hy).elim (fun e => e ▸ hok) (H.ok y), fun y hy ho => (List.mem_cons.1 hy).elim (fun e => by subst e; simp [hx] at ho) (fun h => H.mine y h ho),
    List.pairwise_cons.2 ⟨fun y hy ho b hb => ha y hy (by simpa [hx] using ho) b hb, H.sep⟩⟩
/-- what stands in w0 (at the start of the call) may be named when nothing that stood there is owned -/
theorem HSat.ro0 {w0 w : World} {l : List Atom} (H : HSat No w0 l w) (x : Atom) (hx : x.own = false) (hok : x.ok w0) : HSat No w0 (x :: l) w :=
  H.ro x hx (x.loc w0 w (fun b hb => Ext.block H.fr (x.lt w0 b hok hb)) hok) (fun y hy ho b hb hyb => by
    rcases H.mine y hy ho b hyb with h | h
    · exact h
    · have := x.lt w0 b hok hb; omega)
/-- a callee has made new memory, and written what it was handed (M') -/
theorem HSat.callM {M M' : Nat → Prop} {w0 w w' : World} {li l l' : List Atom} (H : HSat M w0 (li ++ l) w) (H' : HSat M' w l' w')
    (hM : ∀ b, M' b → ∃ x ∈ li, x.own = true ∧ x.fp b) (hn : ∀ x ∈ l', ∀ b, x.fp b → M' b ∨ w.heap.size ≤ b) : HSat M w0 (l' ++ l) w' := by
  have hsep := List.pairwise_append.1 H.sep
  have hlM : ∀ y ∈ l, ∀ b, y.fp b → ¬ M' b := fun y hy b hb hm => by
    obtain ⟨x, hx, ho, hxb⟩ := hM b hm
    exact hsep.2.2 x hx y hy (.inl ho) b hxb hb
  have hlt : ∀ y ∈ l, ∀ b, y.fp b → b < w.heap.size := fun y hy b hb => y.lt w b (H.ok y (List.mem_append_right _ hy)) hb
  have hown : ∀ b, M' b → M b ∨ w0.heap.size ≤ b := fun b hm => by
    obtain ⟨x, hx, ho, hxb⟩ := hM b hm
    exact H.mine x (List.mem_append_left _ hx) ho b hxb
  refine ⟨⟨H'.fr.os.trans H.fr.os, H'.fr.tape.trans H.fr.tape, H'.fr.output.trans H.fr.output, Nat.le_trans H.fr.drawn H'.fr.drawn, Nat.le_trans H.fr.size H'.fr.size, fun k hk hkM => ?_, fun k hk ht => H'.fr.thaw k (Nat.lt_of_lt_of_le hk H.fr.size) (H.fr.thaw k hk ht)⟩, fun x hx => ?_, fun x hx ho b hb => ?_, List.pairwise_append.2 ⟨H'.sep, hsep.2.1, fun x hx y hy ho b hbx hby => ?_⟩⟩
  · refine (H'.fr.block k (Nat.lt_of_lt_of_le hk H.fr.size) (fun hm => ?_)).trans (H.fr.block k hk hkM)
    rcases hown k hm with h | h
    · exact hkM h
    · omega
  · rcases List.mem_append.1 hx with h | h
    · exact H'.ok x h
    · exact x.loc w w' (fun b hb => H'.fr.block b (hlt x h b hb) (hlM x h b hb)) (H.ok x (List.mem_append_right _ h))
  · rcases List.mem_append.1 hx with h | h
    · rcases hn x h b hb with h' | h'
      · exact hown b h'
      · exact .inr (Nat.le_trans H.fr.size h')
    · exact H.mine x (List.mem_append_right _ h) ho b hb
  · rcases hn x hx b hbx with h' | h'
    · exact hlM y hy b hby h'
    · have := hlt y hy b hby; omega
theorem HSat.call {M : Nat → Prop} {w0 w w' : World} {l l' : List Atom} (H : HSat M w0 l w) (H' : HSat No w l' w') (hn : ∀ x ∈ l', x.own = true) : HSat M w0 (l' ++ l) w' :=
  HSat.callM (M' := No) (li := []) (by simpa using H) H' (fun b h => h.elim) (fun x hx b hb => (H'.mine x hx (hn x hx) b hb))
def Blk (b : Nat) (o : Obj) : Atom := ⟨true, (· = b), fun w => w.heap[b]? = some o, fun w w' h h' => (h b rfl).trans h', fun w k h hk => by
  subst hk; exact (Array.getElem?_eq_some_iff.1 h).1⟩
theorem HSat.alloc {M : Nat → Prop} {w0 w : World} {l : List Atom} (H : HSat M w0 l w) (o : Obj) (hth : ThawO (some o)) : HSat M w0 (Blk w.heap.size o :: l) (w.alloc o) := by
  have H' : HSat No w [Blk w.heap.size o] (w.alloc o) := ⟨Ext.alloc w o hth, by intro x hx; simp at hx; subst hx; exact heap_new w o, by intro x hx ho b hb; simp at hx; subst hx; simp [Blk] at hb; exact .inr (by omega), List.pairwise_singleton _ _⟩
  exact H.call H' (by simp [Blk])
/-- where block b stands in the list -/
class HasBlk (l : List Atom) (b : Nat) (o : outParam Obj) (l' : outParam (Obj → List Atom)) : Prop where
  at_ : ∃ l1 l2, l = l1 ++ Blk b o :: l2 ∧ ∀ o', l' o' = l1 ++ Blk b o' :: l2
instance (priority := 2000) HasBlk.here (l : List Atom) (b : Nat) (o : Obj) : HasBlk (Blk b o :: l) b o (fun o' => Blk b o' :: l) := ⟨[], l, rfl, fun _ => rfl⟩
instance HasBlk.there (l : List Atom) (x : Atom) (b : Nat) (o : Obj) (l' : Obj → List Atom) [h : HasBlk l b o l'] : HasBlk (x :: l) b o (fun o' => x :: l' o') := by
  obtain ⟨l1, l2, h1, h2⟩ := h.at_
  exact ⟨x :: l1, l2, by simp [h1], fun o' => by simp [h2]⟩
/-- an atom that is read alone -/
def Atom.ro (x : Atom) : Atom := { x with own := false }
/-- block b is said somewhere in the list -/
class HasRd (l : List Atom) (b : Nat) (o : outParam Obj) : Prop where
  at_ : ∀ w, (∀ x ∈ l, x.ok w) → w.heap[b]? = some o
instance (priority := 2000) HasRd.here (l : List Atom) (b : Nat) (o : Obj) : HasRd (Blk b o :: l) b o := ⟨fun w h => h (Blk b o) (List.mem_cons_self ..)⟩
instance (priority := 2000) HasRd.hereRo (l : List Atom) (b : Nat) (o : Obj) : HasRd (Atom.ro (Blk b o) :: l) b o := ⟨fun w h => h (Atom.ro (Blk b o)) (List.mem_cons_self ..)⟩
instance HasRd.there (l : List Atom) (x : Atom) (b : Nat) (o : Obj) [h : HasRd l b o] : HasRd (x :: l) b o := ⟨fun w hw => h.at_ w (fun y hy => hw y (List.mem_cons_of_mem _ hy))⟩
instance (priority := 500) HasRd.app (l1 l : List Atom) (b : Nat) (o : Obj) [h : HasRd l b o] : HasRd (l1 ++ l) b o := ⟨fun w hw => h.at_ w (fun y hy => hw y (List.mem_append_right _ hy))⟩
theorem HSat.rd {M : Nat → Prop} {w0 w : World} {l : List Atom} (H : HSat M w0 l w) (b : Nat) {o : Obj} [h : HasRd l b o] : w.heap[b]? = some o := h.at_ w H.ok
theorem pair_ro' : ∀ {ro : List Atom}, (∀ x ∈ ro, x.own = false) → ro.Pairwise apart
  | [], _ => .nil
  | x :: r, h => List.pairwise_cons.2 ⟨fun y hy ho => by rw [h x (by simp), h y (List.mem_cons_of_mem _ hy)] at ho; simp at ho, pair_ro' (fun y hy => h y (List.mem_cons_of_mem _ hy))⟩
/-- what holds at the start of a call, to be read alone -/
theorem HSat.reads {M : Nat → Prop} {w0 w : World} {l : List Atom} (H : HSat M w0 l w) : HSat No w (l.map Atom.ro) w :=
  ⟨Fr.refl _ _, fun x hx => by obtain ⟨y, hy, rfl⟩ := List.mem_map.1 hx; exact H.ok y hy, fun x hx ho => by obtain ⟨y, hy, rfl⟩ := List.mem_map.1 hx; simp [Atom.ro] at ho,
    pair_ro' (fun x hx => by obtain ⟨y, hy, rfl⟩ := List.mem_map.1 hx; rfl)⟩
/-- where atom x stands in the list; what is left; the list with another in its place -/
class HasA (l : List Atom) (x : Atom) (r : outParam (List Atom)) (l' : outParam (Atom → List Atom)) : Prop where
  to_ : l.Perm (x :: r)
  back : ∀ y, (y :: r).Perm (l' y)
instance (priority := 2000) HasA.here (l : List Atom) (x : Atom) : HasA (x :: l) x l (fun y => y :: l) := ⟨List.Perm.refl _, fun _ => List.Perm.refl _⟩
instance HasA.there (l : List Atom) (z x : Atom) (r : List Atom) (l' : Atom → List Atom) [h : HasA l x r l'] : HasA (z :: l) x (z :: r) (fun y => z :: l' y) :=
  ⟨(List.Perm.cons _ h.to_).trans (List.Perm.swap _ _ _), fun y => (List.Perm.swap _ _ _).trans (List.Perm.cons _ (h.back y))⟩
/-- the atoms tgt stand in the list, in whatever places -/
class HasPick (l tgt : List Atom) (rest : outParam (List Atom)) : Prop where
  perm : l.Perm (tgt ++ rest)
instance HasPick.nil (l : List Atom) : HasPick l [] l := ⟨List.Perm.refl _⟩
instance HasPick.cons (l : List Atom) (x : Atom) (t r rest : List Atom) (l' : Atom → List Atom) [h1 : HasA l x r l'] [h2 : HasPick r t rest] : HasPick l (x :: t) rest := ⟨h1.to_.trans (List.Perm.cons x h2.perm)⟩
theorem HSat.pick {M : Nat → Prop} {w0 w : World} {l : List Atom} (H : HSat M w0 l w) (tgt : List Atom) {rest : List Atom} [h : HasPick l tgt rest] : HSat M w0 (tgt ++ rest) w := H.perm h.perm
theorem HSat.take {M : Nat → Prop} {w0 w : World} {l : List Atom} (H : HSat M w0 l w) (tgt : List Atom) {rest : List Atom} [h : HasPick l tgt rest] : HSat M w0 tgt w := (H.perm h.perm).sub (List.sublist_append_left _ _)
theorem HSat.blk {M : Nat → Prop} {w0 w : World} {l : List Atom} (H : HSat M w0 l w) (b : Nat) {o : Obj} {l' : Obj → List Atom} [h : HasBlk l b o l'] : w.heap[b]? = some o := by
  obtain ⟨l1, l2, h1, _⟩ := h.at_
  exact H.ok (Blk b o) (by simp [h1])
/-- the world with block b turned into o -/
def setBlk (w : World) (b : Nat) (o : Obj) : World := { w with heap := w.heap.setIfInBounds b o }
theorem HSat.set {M : Nat → Prop} {w0 w w' : World} {l : List Atom} (H : HSat M w0 l w) (b : Nat) {o : Obj} {l' : Obj → List Atom} [h : HasBlk l b o l'] (o' : Obj) (hth : ThawO (some o) → ThawO (some o'))
    (hos : w'.os = w.os) (htape : w'.tape = w.tape) (hout : w'.output = w.output) (hsz : w'.heap.size = w.heap.size) (hb : w'.heap[b]? = some o') (hother : ∀ k, k ≠ b → w'.heap[k]? = w.heap[k]?) (hdr : w.drawn ≤ w'.drawn := by exact Nat.le_refl _) : HSat M w0 (l' o') w' := by
  have hold := H.blk b (h := h)
  obtain ⟨l1, l2, h1, h2⟩ := h.at_
  rw [h2]
  subst h1
  have p : (l1 ++ Blk b o :: l2).Perm ([Blk b o] ++ (l1 ++ l2)) := List.perm_middle
  have H1 := H.perm p
  have H2 : HSat (· = b) w [Blk b o'] w' := ⟨⟨hos, htape, hout, hdr, by omega, fun k _ hk => hother k hk, fun k _ hk => by
    by_cases hkb : k = b
    · subst hkb; rw [hb]; rw [hold] at hk; exact hth hk
    · rw [hother k hkb]; exact hk⟩, by simpa [Blk] using hb, by intro x hx _ k hk; simp at hx; subst hx; exact .inl hk, List.pairwise_singleton _ _⟩
  have H3 := HSat.callM H1 H2 (fun k hk => ⟨Blk b o, by simp, rfl, hk⟩) (by intro x hx k hk; simp at hx; subst hx; exact .inl hk)
  exact H3.perm (show (Blk b o' :: (l1 ++ l2)).Perm (l1 ++ Blk b o' :: l2) from List.perm_middle.symm)
theorem heap_setCell_same (w : World) (b off : Nat) (v : Value) (cs : Array Value) (T : TypeId) (fz : Nat × Nat) (h : w.heap[b]? = some (.cells cs T fz)) :
    (w.setCell ⟨b, off, none⟩ v).heap[b]? = some (.cells (cs.setIfInBounds off v) T fz) := by
  simp [World.setCell, Array.getElem?_modify, h]
theorem HSat.setCell {M : Nat → Prop} {w0 w : World} {l : List Atom} (H : HSat M w0 l w) (b off : Nat) (v : Value) {cs : Array Value} {T : TypeId} {fz : Nat × Nat} {l' : Obj → List Atom} [h : HasBlk l b (.cells cs T fz) l'] :
    HSat M w0 (l' (.cells (cs.setIfInBounds off v) T fz)) (w.setCell ⟨b, off, none⟩ v) :=
  H.set b _ (fun h => h) rfl rfl rfl (by simp [World.setCell]) (heap_setCell_same w b off v cs T fz (H.blk b)) (fun k hk => RowKit.Below.heap_setCell _ _ _ _ hk)
/-- in frame a and world w operation o yields v and leaves the world alone -/
def Yld (P : Program) (o : Oper) (a : Act) (w : World) (v : Value) : Prop := (execOp a.eval o).run P w = .ok (.value v) w
/-- no fence; r: the round's loop, where the code is that of a round's body -/
def FR (r : Option Nat) : Fence := { Fence.wide with round := r }
/-- the code, in frame a and world w, ends as Q says -/
def gp (r : Option Nat) (P : Program) (c : Code) (Q : Exit → Act → World → Prop) (a : Act) (w : World) : Prop := c.wpIn (FR r) 0 P Q a w
theorem fr_calls {r : Option Nat} {m : Nat} {P : Program} {f : FuncId} {args : Array Value} {w : World} {R : Ending → World → Prop} (h : Calls P f args w R) : CallsIn (FR r) m P f args w R := (callsIn_wide (n := m)).2 h
theorem fr_round {r : Option Nat} {m : Nat} {P : Program} {l : Nat} {f : FuncId} {tmps : Array Value} {assign body : Code} {w : World} {R : Ending → World → Prop} (h : RoundIn Fence.wide 0 P l f tmps assign body w R) : RoundIn (FR r) m P l f tmps assign body w R := ⟨trivial, fun c cs _ => h.2 c cs (room_wide _)⟩
section
variable {P : Program} {ops : Array Oper} {Q : Exit → Act → World → Prop} {rest : List Oper} {o : Oper} {n : Sz} {fl : Slots} {a : Act} {w : World} {d : Nat} {v : Value} {r : Option Nat}
/-- what a result of an operation must lead to -/
def upon (P : Program) (o : Oper) (a : Act) (K : Act → World → Prop) : Result Next → Prop
  | .ok (.value v) w' => K (a.put o.dst v) w'
  | .ok .skip w' => K (a.put o.dst undef) w'
  | .ok (.enter f args) w' => Calls P f args w' (fun e w'' => ∃ v, e = .returned v ∧ K (a.put o.dst v) w'')
  | .ok (.round l f tmps assign body) w' => RoundIn Fence.wide 0 P l f tmps assign body w' (fun e w'' => ∃ v, e = .returned v ∧ K (a.put o.dst v) w'')
  | _ => False
/-- the operation, if its guard says so, runs without a panic, and then K -/
def opw (P : Program) (ops : Array Oper) (o : Oper) (a : Act) (w : World) (K : Act → World → Prop) : Prop :=
  (Region.wanted o (yielded ops a.tmps) = true → upon P o a K ((execOp a.eval o).run P w)) ∧ (Region.wanted o (yielded ops a.tmps) = false → K (a.put o.dst undef) w)
theorem semAt_ok {x : Next} {w' : World} (h : (execOp a.eval o).run P w = .ok x w') (hx : ∀ d, x ≠ .defer d) : (o.semAt r a.eval).run P w = .ok x w' := by
  rw [Oper.semAt_eq r a.eval o ?_]
  · exact h
  · intro c hc
    unfold execOp at h; rw [hc] at h
    simp only [Sem.run_bind] at h
    cases hr : (resolve a.eval c o.type).run P w with
    | ok d w1 => rw [hr] at h; simp at h; exact hx d h.1.symm
    | halt y w1 => rw [hr] at h; simp at h
theorem opw_op {K : Act → World → Prop} {Q' : Exit → Act → World → Prop} (h : opw P ops o a w K) :
    if Region.wanted o (yielded ops a.tmps) = true then o.wpIn (FR r) 0 P a w K Q' else (∀ f, o.about P w a.eval = some f → (FR r).fn f) ∧ K (a.put o.dst undef) w := by
  by_cases hw : Region.wanted o (yielded ops a.tmps) = true
  · rw [if_pos hw]
    refine ⟨fun _ _ => trivial, ?_⟩
    show o.uponIn (FR r) 0 P a K Q' ((o.semAt r a.eval).run P w)
    have h := h.1 hw
    unfold upon at h
    split at h
    · rename_i hr; rw [semAt_ok hr (by simp)]; exact h
    · rename_i hr; rw [semAt_ok hr (by simp)]; exact h
    · rename_i f args w' hr
      rw [semAt_ok hr (by simp), Oper.uponIn_enter]
      refine ⟨fun h => (by cases h), fr_calls (Calls.mono h fun e w'' ⟨v, he, hv⟩ => ?_)⟩
      subst he; exact hv
    · rename_i l f tmps assign body w' hr
      rw [semAt_ok hr (by simp), Oper.uponIn_round]
      refine ⟨fun h => (by cases h), fr_round (RoundIn.mono h fun e w'' ⟨v, he, hv⟩ => ?_)⟩
      subst he; exact hv
    · exact h.elim
  · rw [if_neg hw]; exact ⟨fun _ _ => trivial, h.2 (by simpa using hw)⟩
theorem upon_mono {K K' : Act → World → Prop} {x : Result Next} (h : upon P o a K x) (hk : ∀ a w, K a w → K' a w) : upon P o a K' x := by
  unfold upon at h ⊢
  split at h
  · exact hk _ _ h
  · exact hk _ _ h
  · exact Calls.mono h fun e w'' ⟨v, he, hv⟩ => ⟨v, he, hk _ _ hv⟩
  · exact RoundIn.mono h fun e w'' ⟨v, he, hv⟩ => ⟨v, he, hk _ _ hv⟩
  · exact h.elim
theorem opw_mono {K K' : Act → World → Prop} (h : opw P ops o a w K) (hk : ∀ a w, K a w → K' a w) : opw P ops o a w K' :=
  ⟨fun hw => upon_mono (h.1 hw) hk, fun hw => hk _ _ (h.2 hw)⟩
/-- operations one after the other, and then Q -/
def gl (P : Program) (ops : Array Oper) (Q : Exit → Act → World → Prop) : List Oper → Act → World → Prop
  | [], a, w => Q .normal a w
  | o :: rest, a, w => opw P ops o a w (gl P ops Q rest)
theorem wl_of (h : opw P ops o a w (gl P ops Q rest)) : gl P ops Q (o :: rest) a w := h
theorem gl_nil (h : Q .normal a w) : gl P ops Q [] a w := h
theorem gl_ops {l : List Oper} : ∀ (k m : Nat) (a : Act) (w : World), k + m = l.length → gl P l.toArray Q (l.drop k) a w → wpOpsIn (FR r) 0 P l.toArray Q (List.range' k m) a w := by
  intro k m
  induction m generalizing k with
  | zero =>
    intro a w hk h
    rw [List.drop_eq_nil_of_le (by omega)] at h
    exact h
  | succ m ih =>
    intro a w hk h
    have hlt : k < l.length := by omega
    rw [List.drop_eq_getElem_cons hlt] at h
    rw [List.range'_succ, wpOpsIn_cons]
    unfold wpOpIn
    have ho : l.toArray[k]? = some l[k] := by simp [hlt]
    rw [ho]
    exact opw_op (opw_mono h (fun a' w' h' => ih (k + 1) a' w' (by omega) h'))
theorem g_region {id : Nat} {l : List Oper} (h : gl P l.toArray Q l a w) : gp r P (.region id l.toArray false) Q a w := by
  refine wpIn_region ?_
  rw [List.range_eq_range', List.size_toArray]
  exact gl_ops 0 l.length a w (by omega) (by simpa using h)
theorem wn (hg : o.guard = none) : Region.wanted o (yielded ops a.tmps) = true := by simp [Region.wanted, hg]
variable {K : Act → World → Prop}
theorem opw_is {x : Result Next} (hw : Region.wanted o (yielded ops a.tmps) = true) (hr : (execOp a.eval o).run P w = x) (k : upon P o a K x) : opw P ops o a w K :=
  ⟨fun _ => by rw [hr]; exact k, fun h => by rw [hw] at h; cases h⟩
theorem opw_val {w' : World} (hw : Region.wanted o (yielded ops a.tmps) = true) (hr : (execOp a.eval o).run P w = .ok (.value v) w') (k : K (a.put o.dst v) w') : opw P ops o a w K := opw_is hw hr k
theorem opw_skip {w' : World} (hw : Region.wanted o (yielded ops a.tmps) = true) (hr : (execOp a.eval o).run P w = .ok .skip w') (k : K (a.put o.dst undef) w') : opw P ops o a w K := opw_is hw hr k
theorem opw_un (hw : Region.wanted o (yielded ops a.tmps) = false) (k : K (a.put o.dst undef) w) : opw P ops o a w K :=
  ⟨fun h => (by rw [hw] at h; cases h), fun _ => k⟩
/-- an operation that yields a value -/
theorem op_y (hw : Region.wanted o (yielded ops a.tmps) = true) (hd : o.dst = some d) (hn : Nat.blt d n.n = true) (S : St n fl a) (hy : Yld P o a w v)
    (k : ∀ a', St n ((d, v) :: fl) a' → K a' w) : opw P ops o a w K := by
  refine opw_val hw hy ?_
  rw [hd]; exact k _ (S.put hn v)
theorem n_then {K : Act → World → Prop} (h : K a w) : Exit.then K Q .normal a w := h
theorem n_block {id : Nat} (h : Q .normal a w) : Exit.inBlock id Q .normal a w := h
theorem x_then {K : Act → World → Prop} {id : Nat} (h : Q (.exit id) a w) : Exit.then K Q (.exit id) a w := h
theorem x_eq {id : Nat} (h : Q .normal a w) : Exit.inBlock id Q (.exit id) a w := by
  simp only [Exit.inBlock, if_true]; exact h
theorem r_then {K : Act → World → Prop} (h : Q .ret a w) : Exit.then K Q .ret a w := h
theorem r_block {id : Nat} (h : Q .ret a w) : Exit.inBlock id Q .ret a w := h
theorem g_skip (h : Q .normal a w) : gp r P .skip Q a w := wpIn_skip h
theorem g_exit {id : Nat} (h : Q (.exit id) a w) : gp r P (.exit id) Q a w := wpIn_exit h
theorem g_ret (h : Q .ret a w) : gp r P .ret Q a w := wpIn_ret h
theorem g_seq {x y : Code} (h : gp r P x (Exit.then (gp r P y Q) Q) a w) : gp r P (.seq x y) Q a w := wpIn_seq h
theorem g_block {id : Nat} {c : Code} (h : gp r P c (Exit.inBlock id Q) a w) : gp r P (.block id c) Q a w := wpIn_block h
theorem g_mono {c : Code} {Q' : Exit → Act → World → Prop} (h : gp r P c Q a w) (hq : ∀ e a w, Q e a w → Q' e a w) : gp r P c Q' a w := wpIn_mono h hq
theorem c_if {c : Operand} {x y : Code} {B : Bool} (S : St n fl a) (hc : ev fl c = some (.bool B)) (ht : B = true → gp r P x Q a w) (hf : B = false → gp r P y Q a w) :
    gp r P (.cond c x y) Q a w := wpIn_cond_split (S.ev hc) ht hf
theorem g_loop {c : Code} (I : Nat → Act → World → Prop) (n₀ : Nat) (h₀ : I n₀ a w)
    (round : ∀ n a w, I n a w → gp r P c (Exit.then (fun a' w' => ∃ n', n' < n ∧ I n' a' w') Q) a w) : gp r P (.loop c) Q a w := by
  refine wpIn_loop (fun a w => ∃ n, I n a w) (fun a w => leastOf (fun n => I n a w)) ⟨n₀, h₀⟩ ?_
  intro a w hI
  refine wpIn_mono (round _ a w (leastOf_spec hI).1) ?_
  intro e a' w' hq
  cases e with
  | normal =>
    obtain ⟨n', hlt, hI'⟩ := hq
    exact show (∃ n, I n a' w') ∧ leastOf (fun n => I n a' w') < leastOf (fun n => I n a w) from ⟨⟨n', hI'⟩, Nat.lt_of_le_of_lt ((leastOf_spec ⟨n', hI'⟩).2 n' hI') hlt⟩
  | _ => exact hq
/-- the ways through a statement meet again -/
theorem cut {c : Code} {K : Act → World → Prop} (J : Act → World → Prop) (h : gp r P c (Exit.then J Q) a w) (hk : ∀ a' w', J a' w' → K a' w') : gp r P c (Exit.then K Q) a w :=
  g_mono h (fun e a' w' hq => by cases e <;> first | exact hk _ _ hq | exact hq)
/-- a Go function's call returns v in w' -/
def Ret (P : Program) (f : FuncId) (args : Array Value) (w : World) (R : Value → World → Prop) : Prop := Calls P f args w (fun e w' => ∃ v, e = .returned v ∧ R v w')
theorem Ret.mono {f : FuncId} {args : Array Value} {R R' : Value → World → Prop} (h : Ret P f args w R) (hr : ∀ v w', R v w' → R' v w') : Ret P f args w R' :=
  Calls.mono h (fun e w' ⟨v, he, hv⟩ => ⟨v, he, hr v w' hv⟩)
/-- what a function's body must achieve -/
def endP (P : Program) (fn : Func) (R : Value → World → Prop) : Exit → Act → World → Prop := bodyPostM Fence.wide 0 P fn (fun e w' => ∃ v, e = .returned v ∧ R v w')
theorem end_ret {fn : Func} {R : Value → World → Prop} (S : St n fl a) (hds : n.ds = []) (hr : (results fn a.tmps).run P w = .ok v w) (h : R v w) : endP P fn R .ret a w := by
  have hd := S.defers
  rw [hds] at hd
  show LeavesInM Fence.wide 0 P fn a.tmps _ a.defers .returning w
  rw [hd]
  exact ⟨v, hr, v, rfl, h⟩
/-- the slots of the arguments -/
def argSlots (args : List Value) : Slots := (List.range args.length).zip args
theorem lookup_zip_range' (args : List Value) : ∀ (s i : Nat) (v : Value), ((List.range' s args.length).zip args).lookup i = some v → s ≤ i ∧ args[i - s]? = some v := by
  induction args with
  | nil => intro s i v h; simp at h
  | cons x r ih =>
    intro s i v h
    simp only [List.length_cons, List.range'_succ, List.zip_cons_cons, List.lookup] at h
    split at h
    · rename_i hi
      have : i = s := by simpa using hi
      subst this; cases h; simp
    · obtain ⟨h1, h2⟩ := ih (s + 1) i v h
      refine ⟨by omega, ?_⟩
      have : i - s = (i - (s + 1)) + 1 := by omega
      rw [this]; simpa using h2
theorem ret_of_wp {f : FuncId} {fn : Func} {c : Code} {args : Array Value} {R : Value → World → Prop} {fl : Slots} (hf : P.funcs[f]? = some fn) (hb : fn.body = some c) {nt : Nat} (hn : fn.ntmps = nt) (hsz : Nat.ble args.size nt = true) (hfl : argSlots args.toList = fl)
    (h : ∀ a, St ⟨nt, []⟩ fl a → gp none P c (endP P fn R) a w) : Ret P f args w R := by
  have hsz' : args.size ≤ nt := by simpa using hsz
  refine (callsIn_wide (n := 0)).1 (callsIn_of_wp_marks (F := Fence.wide) hf hb trivial (h _ ⟨by simp; omega, rfl, ?_⟩))
  intro i v hi
  subst hfl
  have h' := lookup_zip_range' args.toList 0 i v (by simpa [argSlots, List.range_eq_range'] using hi)
  have hi2 : args[i]? = some v := by simpa using h'.2
  have hlt := (Array.getElem?_eq_some_iff.1 hi2).1
  simp only [Array.getD_eq_getD_getElem?]
  rw [Array.getElem?_append_left hlt, hi2]; rfl
theorem ret1 {fn : Func} {R : Value → World → Prop} {t : Nat} (hr : fn.results = #[.tmp t]) (S : St n fl a) (hv : fl.lookup t = some v) (h : R v w) (hds : n.ds = [] := by rfl) : endP P fn R .ret a w :=
  end_ret S hds (by rw [results_tmp hr, S.get t v hv]) h
theorem ret2 {fn : Func} {R : Value → World → Prop} {t u : Nat} {v' : Value} (hr : fn.results = #[.tmp t, .tmp u]) (S : St n fl a) (hv : fl.lookup t = some v) (hv' : fl.lookup u = some v') (h : R (.tuple #[v, v']) w) (hds : n.ds = [] := by rfl) : endP P fn R .ret a w :=
  end_ret S hds (by rw [results_tmp2 hr, S.get t v hv, S.get u v' hv']) h
theorem ret0n {fn : Func} {R : Value → World → Prop} (hr : fn.results = #[]) (S : St n fl a) (h : R (.tuple #[]) w) (hds : n.ds = [] := by rfl) : endP P fn R .normal a w :=
  end_ret S hds (results_none hr _ _ _) h
theorem ret0 {fn : Func} {R : Value → World → Prop} (hr : fn.results = #[]) (S : St n fl a) (h : R (.tuple #[]) w) (hds : n.ds = [] := by rfl) : endP P fn R .ret a w :=
  end_ret S hds (results_none hr _ _ _) h
end
end Go.Gd
end
section
namespace Go.Gd
set_option linter.unusedVariables false
set_option linter.unusedSimpArgs false
section
variable {P : Program} {o : Oper} {n : Sz} {fl : Slots} {a : Act} {w : World} {v : Value}
theorem y_move {x : Operand} (ho : o.op = .move x) (S : St n fl a) (hx : ev fl x = some v) : Yld P o a w v := by
  unfold Yld execOp; rw [ho]; simp [S.ev hx]
theorem y_assign {x : Operand} (ho : o.op = .assign x) (S : St n fl a) (hx : ev fl x = some v) : Yld P o a w v := by
  unfold Yld execOp; rw [ho]; simp [S.ev hx]
theorem y_not {x : Operand} {T : TypeId} {B : Bool} (ho : o.op = .unOp .not T x) (S : St n fl a) (hx : ev fl x = some (.bool B)) : Yld P o a w (.bool (!B)) := by
  unfold Yld execOp; rw [ho]; simp only [S.ev hx]; simp [Op.unary]
/-- what two integers of one kind give, but for shifts and divisions -/
def intOp (op : BinOp) (k : IntKind) (m n : Int) : Option Value :=
  match op with
  | .add => some (.int k (k.wrap (m + n)))
  | .sub => some (.int k (k.wrap (m - n)))
  | .mul => some (.int k (k.wrap (m * n)))
  | .eql => some (.bool (m == n))
  | .neq => some (.bool (m != n))
  | .lss => some (.bool (decide (m < n)))
  | .leq => some (.bool (decide (m ≤ n)))
  | .gtr => some (.bool (decide (m > n)))
  | .geq => some (.bool (decide (m ≥ n)))
  | _ => none
theorem y_bin {op : BinOp} {T U : TypeId} {x y : Operand} {k : IntKind} {m q : Int} (ho : o.op = .binOp op T x y U) (S : St n fl a) (hx : ev fl x = some (.int k m)) (hy : ev fl y = some (.int k q)) (hv : intOp op k m q = some v) : Yld P o a w v := by
  unfold Yld execOp; rw [ho]; simp only [S.ev hx, S.ev hy]
  cases op <;> simp [intOp] at hv <;> subst hv <;> simp [eqGuard, binOp, Op.intArith, Op.intCmp]
theorem wrap_in {m : Int} (h1 : -9223372036854775808 ≤ m) (h2 : m ≤ 9223372036854775807) : IntKind.i64.wrap m = m := IntWalk.i64_in m ⟨h1, h2⟩
theorem y_add {T U : TypeId} {x y : Operand} {m q : Int} (ho : o.op = .binOp .add T x y U) (S : St n fl a) (hx : ev fl x = some (.int .i64 m)) (hy : ev fl y = some (.int .i64 q)) (h : -9223372036854775808 ≤ m + q ∧ m + q ≤ 9223372036854775807) : Yld P o a w (.int .i64 (m + q)) :=
  y_bin ho S hx hy (by simp [intOp, wrap_in h.1 h.2])
theorem y_sub {T U : TypeId} {x y : Operand} {m q : Int} (ho : o.op = .binOp .sub T x y U) (S : St n fl a) (hx : ev fl x = some (.int .i64 m)) (hy : ev fl y = some (.int .i64 q)) (h : -9223372036854775808 ≤ m - q ∧ m - q ≤ 9223372036854775807) : Yld P o a w (.int .i64 (m - q)) :=
  y_bin ho S hx hy (by simp [intOp, wrap_in h.1 h.2])
theorem y_mul {T U : TypeId} {x y : Operand} {m q : Int} (ho : o.op = .binOp .mul T x y U) (S : St n fl a) (hx : ev fl x = some (.int .i64 m)) (hy : ev fl y = some (.int .i64 q)) (h : -9223372036854775808 ≤ m * q ∧ m * q ≤ 9223372036854775807) : Yld P o a w (.int .i64 (m * q)) :=
  y_bin ho S hx hy (by simp [intOp, wrap_in h.1 h.2])
theorem y_quo {T U : TypeId} {x y : Operand} {m q : Int} (ho : o.op = .binOp .quo T x y U) (S : St n fl a) (hx : ev fl x = some (.int .i64 m)) (hy : ev fl y = some (.int .i64 q)) (hq : q ≠ 0) (h : -9223372036854775808 ≤ m.tdiv q ∧ m.tdiv q ≤ 9223372036854775807) : Yld P o a w (.int .i64 (m.tdiv q)) := by
  unfold Yld execOp; rw [ho]; simp only [S.ev hx, S.ev hy]
  simp [eqGuard, binOp, Op.intDiv, hq, wrap_in h.1 h.2]
theorem y_rem {T U : TypeId} {x y : Operand} {k : IntKind} {m q : Int} (ho : o.op = .binOp .rem T x y U) (S : St n fl a) (hx : ev fl x = some (.int k m)) (hy : ev fl y = some (.int k q)) (hq : q ≠ 0) : Yld P o a w (.int k (m.tmod q)) := by
  unfold Yld execOp; rw [ho]; simp only [S.ev hx, S.ev hy]
  simp [eqGuard, binOp, Op.intDiv, hq]
theorem y_len {x : Operand} {T E : TypeId} {p : Option Addr} {l c : Nat} (ho : o.op = .call { callee := .builtin .len, args := #[x], argTypes := #[T] }) (hT : P.underlying T = some (.slice E)) (S : St n fl a) (hx : ev fl x = some (.slice p l c)) : Yld P o a w (.int .i64 l) := by
  unfold Yld execOp; rw [ho]; simp [resolve, invoke, builtin, S.ev hx, Builtin.len_, goInt, run_underlying hT]
end
end Go.Gd
end
section
namespace Go.Gd
set_option linter.unusedVariables false
set_option linter.unusedSimpArgs false
/-- a block of cells of the call's own -/
abbrev Cel (b : Nat) (T : TypeId) (cs : List Value) : Atom := Blk b (.cells cs.toArray T (0, 0))
def scalarB (P : Program) (T : TypeId) : Bool := match P.underlying T with
  | some (.struct _) | some (.array _ _) | none => false
  | some _ => true
def aggB (P : Program) (T : TypeId) (sz : Nat) : Bool := (match P.underlying T with
  | some (.struct _) | some (.array _ _) => true
  | _ => false) && (P.info? T).map (·.size) == some sz
def sizeB (P : Program) (T : TypeId) (sz : Nat) : Bool := (P.info? T).map (·.size) == some sz
def fieldOff (P : Program) (T : TypeId) (f : Nat) : Option Nat := match P.underlying T with
  | some (.struct fs) => match fs[f]? with
    | some fd => match P.info? fd.type with
      | some i => if i.size = 0 then none else some fd.offset
      | none => none
    | none => none
  | _ => none
theorem add_plain (b o k : Nat) : (⟨b, o, none⟩ : Addr).add k = ⟨b, o + k, none⟩ := by unfold Addr.add; split <;> simp_all
section
variable {P : Program} {o : Oper} {n : Sz} {fl : Slots} {a : Act} {w w0 : World} {v : Value} {M : Nat → Prop} {l : List Atom}
theorem run_isAgg_scalar {T : TypeId} (h : scalarB P T = true) : (isAgg T).run P w = .ok false w := by
  unfold scalarB at h
  cases hu : P.underlying T with
  | none => simp [hu] at h
  | some d => cases d <;> simp [hu] at h <;> simp [isAgg, run_underlying hu]
theorem run_isAgg_agg {T : TypeId} {sz : Nat} (h : aggB P T sz = true) : (isAgg T).run P w = .ok true w := by
  unfold aggB at h
  cases hu : P.underlying T with
  | none => simp [hu] at h
  | some d => cases d <;> simp [hu] at h <;> simp [isAgg, run_underlying hu]
theorem run_sizeOf_agg {T : TypeId} {sz : Nat} (h : (P.info? T).map (·.size) = some sz) : (sizeOf T).run P w = .ok sz w := by
  cases hi : P.info? T with
  | none => simp [hi] at h
  | some i => simp [hi] at h; simp [sizeOf, typeInfo, hi, h]
theorem aggB_size {T : TypeId} {sz : Nat} (h : aggB P T sz = true) : (P.info? T).map (·.size) = some sz := by
  unfold aggB at h; simp only [Bool.and_eq_true, beq_iff_eq] at h; exact h.2
theorem sizeB_size {T : TypeId} {sz : Nat} (h : sizeB P T sz = true) : (P.info? T).map (·.size) = some sz := by
  unfold sizeB at h; simpa using h
theorem run_loadVar_scalar {T : TypeId} {p : Addr} (h : scalarB P T = true) (hc : w.cell? p = some v) : (loadVar T p).run P w = .ok v w := by
  simp [loadVar, run_isAgg_scalar h, load, Sem.run, hc]
theorem run_loadVar_agg {T : TypeId} {p : Addr} {vs : List Value} (h : aggB P T vs.length = true) (hc : ∀ j u, vs[j]? = some u → w.cell? (p.add j) = some u) : (loadVar T p).run P w = .ok (.agg vs.toArray) w := by
  simp [loadVar, run_isAgg_agg h, run_sizeOf_agg (aggB_size h), run_loadCells_list (P := P) w p vs hc]
theorem y_load_at {T : TypeId} {x : Operand} {p : Addr} (ho : o.op = .load T x) (S : St n fl a) (hx : ev fl x = some (.pointer (some p))) (hr : (loadVar T p).run P w = .ok v w) : Yld P o a w v := by
  unfold Yld execOp; rw [ho]; simp only [S.ev hx]; simp [Instr.loadAt, Instr.sureAddr, hr]
theorem HSat.cell {H : HSat M w0 l w} {b : Nat} {cs : List Value} {T : TypeId} {fz : Nat × Nat} (h : HasRd l b (.cells cs.toArray T fz)) (off : Nat) : w.cell? ⟨b, off, none⟩ = cs[off]? := by
  have := H.rd b (h := h)
  simp [World.cell?, this]
/-- one cell of a block -/
theorem y_load {T : TypeId} {x : Operand} {b off : Nat} {cs : List Value} {T' : TypeId} {fz : Nat × Nat} (ho : o.op = .load T x) (hT : scalarB P T = true) (S : St n fl a) (H : HSat M w0 l w)
    (hx : ev fl x = some (.pointer (some ⟨b, off, none⟩))) [h : HasRd l b (.cells cs.toArray T' fz)] (hv : cs[off]? = some v) : Yld P o a w v :=
  y_load_at ho S hx (run_loadVar_scalar hT (by rw [H.cell h, hv]))
/-- a whole block -/
theorem y_load0 {T : TypeId} {x : Operand} {b : Nat} {cs : List Value} {T' : TypeId} {fz : Nat × Nat} (ho : o.op = .load T x) (S : St n fl a) (H : HSat M w0 l w)
    (hx : ev fl x = some (.pointer (some ⟨b, 0, none⟩))) [h : HasRd l b (.cells cs.toArray T' fz)] (hT : aggB P T cs.length = true) : Yld P o a w (.agg cs.toArray) :=
  y_load_at ho S hx (run_loadVar_agg hT (fun j u hu => by rw [add_plain, H.cell h]; simpa using hu))
/-- a part of a block -/
theorem y_loadp {T : TypeId} {x : Operand} {b off : Nat} {cs vs : List Value} {T' : TypeId} {fz : Nat × Nat} (ho : o.op = .load T x) (S : St n fl a) (H : HSat M w0 l w)
    (hx : ev fl x = some (.pointer (some ⟨b, off, none⟩))) [h : HasRd l b (.cells cs.toArray T' fz)] (hT : aggB P T vs.length = true) (hv : (cs.drop off).take vs.length = vs) : Yld P o a w (.agg vs.toArray) :=
  y_load_at ho S hx (run_loadVar_agg hT (fun j u hu => by
    rw [add_plain, H.cell h]
    have hj : j < vs.length := (List.getElem?_eq_some_iff.1 hu).1
    rw [← hv, List.getElem?_take, if_pos hj, List.getElem?_drop] at hu
    exact hu))
theorem y_faddr {T : TypeId} {x : Operand} {f k : Nat} {p : Addr} (ho : o.op = .fieldAddr T x f) (hF : fieldOff P T f = some k) (S : St n fl a) (hx : ev fl x = some (.pointer (some p))) : Yld P o a w (.pointer (some (p.add k))) := by
  unfold Yld execOp; rw [ho]; simp only [S.ev hx]
  unfold fieldOff at hF
  split at hF
  · rename_i fs hu
    split at hF
    · rename_i fd hfd
      split at hF
      · rename_i i hi
        split at hF
        · cases hF
        · rename_i hz
          cases hF
          simp [Instr.fieldAt, run_underlying hu, hfd, Instr.sureAddr, fieldPlace, sizeOf, typeInfo, hi, hz]
      · cases hF
    · cases hF
  · cases hF
theorem y_faddrb {T : TypeId} {x : Operand} {f k b off : Nat} (ho : o.op = .fieldAddr T x f) (hF : fieldOff P T f = some k) (S : St n fl a) (hx : ev fl x = some (.pointer (some ⟨b, off, none⟩))) : Yld P o a w (.pointer (some ⟨b, off + k, none⟩)) := by
  rw [← add_plain]; exact y_faddr ho hF S hx
theorem y_iaddr {T E : TypeId} {x ix : Operand} {i : Int} {k : IntKind} {b off sz len cap : Nat} (ho : o.op = .indexAddr T x ix) (hT : P.underlying T = some (.slice E)) (hE : sizeB P E sz = true) (S : St n fl a)
    (hx : ev fl x = some (.slice (some ⟨b, off, none⟩) len cap)) (hi : ev fl ix = some (.int k i)) (hb : 0 ≤ i ∧ i < len) : Yld P o a w (.pointer (some ⟨b, off + i.toNat * sz, none⟩)) := by
  unfold Yld execOp; rw [ho]; simp only [S.ev hx, S.ev hi]
  simp [Instr.indexAt, asIntOf, run_underlying hT, hb, run_sizeOf_agg (sizeB_size hE), add_plain]
theorem y_iaddra {T E : TypeId} {x ix : Operand} {i : Int} {k : IntKind} {b off sz N : Nat} (ho : o.op = .indexAddr T x ix) (hT : P.underlying T = some (.array N E)) (hE : sizeB P E sz = true) (S : St n fl a)
    (hx : ev fl x = some (.pointer (some ⟨b, off, none⟩))) (hi : ev fl ix = some (.int k i)) (hb : 0 ≤ i ∧ i < N) : Yld P o a w (.pointer (some ⟨b, off + i.toNat * sz, none⟩)) := by
  unfold Yld execOp; rw [ho]; simp only [S.ev hx, S.ev hi]
  simp [Instr.indexAt, asIntOf, run_underlying hT, Instr.sureAddr, hb, run_sizeOf_agg (sizeB_size hE), add_plain]
variable {ops : Array Oper} {K : Act → World → Prop} {d : Nat}
theorem op_new (hw : Region.wanted o (yielded ops a.tmps) = true) (hd : o.dst = some d) (hn : Nat.blt d n.n = true) (S : St n fl a) (H : HSat M w0 l w) {T : TypeId} {cs : List Value}
    (hr : (execOp a.eval o).run P w = .ok (.value (.pointer (some ⟨w.heap.size, 0, none⟩))) (w.alloc (.cells cs.toArray T)))
    (k : ∀ b a' w', St n ((d, .pointer (some ⟨b, 0, none⟩)) :: fl) a' → HSat M w0 (Cel b T cs :: l) w' → K a' w') : opw P ops o a w K := by
  refine opw_val hw hr ?_
  rw [hd]; exact k _ _ _ (S.put hn _) (H.alloc _ (Nat.le_refl 0))
theorem op_box (hw : Region.wanted o (yielded ops a.tmps) = true) (hd : o.dst = some d) (hn : Nat.blt d n.n = true) {T : TypeId} {x : Operand} (ho : o.op = .box T x) (S : St n fl a) (H : HSat M w0 l w) {cs : List Value} (hx : ev fl x = some v) (hcs : v.cells.toList = cs)
    (k : ∀ b a' w', St n ((d, .pointer (some ⟨b, 0, none⟩)) :: fl) a' → HSat M w0 (Cel b T cs :: l) w' → K a' w') : opw P ops o a w K :=
  op_new hw hd hn S H (by unfold execOp; rw [ho]; subst hcs; simp [S.ev hx, Instr.box, newVar, newRow, newObj, Sem.run]) k
def zeroB (P : Program) (T : TypeId) : Option (List Value) := (P.info? T).bind fun i => i.zero.map fun z => z.cells.toList
theorem run_zeroValue {T : TypeId} {z : Value} (h : (P.info? T).bind (·.zero) = some z) : (zeroValue T).run P w = .ok z w := by
  cases hi : P.info? T with
  | none => simp [hi] at h
  | some i => simp [hi] at h; simp [zeroValue, typeInfo, hi, h]
theorem op_alloc (hw : Region.wanted o (yielded ops a.tmps) = true) (hd : o.dst = some d) (hn : Nat.blt d n.n = true) {T : TypeId} (ho : o.op = .alloc T) (S : St n fl a) (H : HSat M w0 l w) {cs : List Value} (hz : zeroB P T = some cs)
    (k : ∀ b a' w', St n ((d, .pointer (some ⟨b, 0, none⟩)) :: fl) a' → HSat M w0 (Cel b T cs :: l) w' → K a' w') : opw P ops o a w K := by
  refine op_new hw hd hn S H ?_ k
  unfold zeroB at hz
  cases hi : P.info? T with
  | none => simp [hi] at hz
  | some i =>
    simp [hi] at hz
    obtain ⟨z, hz1, hz2⟩ := hz
    unfold execOp; rw [ho]; subst hz2
    simp [Instr.alloc, run_zeroValue (P := P) (w := w) (T := T) (z := z) (by simp [hi, hz1]), newVar, newRow, newObj, Sem.run]
theorem op_store {T : TypeId} {ad x : Operand} {b off : Nat} {cs : List Value} {T' : TypeId} {l' : Obj → List Atom} (hw : Region.wanted o (yielded ops a.tmps) = true) (hd : o.dst = none) (ho : o.op = .store T ad x) (S : St n fl a) (H : HSat M w0 l w)
    (had : ev fl ad = some (.pointer (some ⟨b, off, none⟩))) (hx : ev fl x = some v) [h : HasBlk l b (.cells cs.toArray T' (0, 0)) l'] (h1 : v.oneCell' = true) (hT : sizeB P T 1 = true) (ho' : Nat.blt off cs.length = true)
    (k : ∀ a' w', St n fl a' → HSat M w0 (l' (.cells (cs.set off v).toArray T' (0, 0))) w' → K a' w') : opw P ops o a w K := by
  have hoff : off < cs.length := by simpa using ho'
  have hb := H.blk b (h := h)
  have hcell : w.cell? ⟨b, off, none⟩ = some cs[off] := by simp [World.cell?, hb, hoff]
  have hfz : w.frozen? ⟨b, off, none⟩ = false := by simp [World.frozen?, hb]
  have hrun : (execOp a.eval o).run P w = .ok .skip (w.setCell ⟨b, off, none⟩ v) := by
    unfold execOp; rw [ho]; simp only [S.ev had, S.ev hx]
    have hcells : v.cells = #[v] := by cases v <;> simp_all [Value.cells, Value.oneCell']
    have hst : (storeCells ⟨b, off, none⟩ [v] 0).run P w = .ok () (w.setCell ⟨b, off, none⟩ v) := by
      have := run_storeCells_cells (P := P) b off [v] 0 w (by intro j hj; simp at hj; subst hj; simp [hcell]) (by intro j hj; simp at hj; subst hj; simpa using hfz) (by simpa using h1)
      simpa [World.setCells] using this
    simp [Instr.storeAt, Instr.sureAddr, storeVar, run_sizeOf_agg (sizeB_size hT), hcells, hst]
  refine opw_skip hw hrun ?_
  rw [hd]
  refine k _ _ (S.putNone _) ?_
  have := H.setCell b off v (h := h)
  simpa using this
/-- a struct or an array into (a part of) a block -/
theorem op_storea {T : TypeId} {ad x : Operand} {b off : Nat} {vs cs cs' : List Value} {T' : TypeId} {l' : Obj → List Atom} (hw : Region.wanted o (yielded ops a.tmps) = true) (hd : o.dst = none) (ho : o.op = .store T ad x) (S : St n fl a) (H : HSat M w0 l w)
    (had : ev fl ad = some (.pointer (some ⟨b, off, none⟩))) (hx : ev fl x = some (.agg vs.toArray)) [h : HasBlk l b (.cells cs.toArray T' (0, 0)) l'] (h1 : vs.all (·.oneCell') = true) (hT : sizeB P T vs.length = true) (ho' : Nat.ble (off + vs.length) cs.length = true)
    (hcs : cs.take off ++ vs ++ cs.drop (off + vs.length) = cs')
    (k : ∀ a' w', St n fl a' → HSat M w0 (l' (.cells cs'.toArray T' (0, 0))) w' → K a' w') : opw P ops o a w K := by
  have hoff : off + vs.length ≤ cs.length := by simpa using ho'
  have hb := H.blk b (h := h)
  have hrun : (execOp a.eval o).run P w = .ok .skip (w.setRow b cs'.toArray) := by
    unfold execOp; rw [ho]; simp only [S.ev had, S.ev hx]
    have hst := run_storeCells_at P b off T' vs 0 cs.toArray w hb (by simpa using hoff) (by simpa using h1)
    simp only [Nat.add_zero] at hst
    rw [hcs] at hst
    simp [Instr.storeAt, Instr.sureAddr, storeVar, run_sizeOf_agg (sizeB_size hT), Value.cells, hst]
  refine opw_skip hw hrun ?_
  rw [hd]
  exact k _ _ (S.putNone _) (H.set b (h := h) _ (fun h => h) rfl rfl rfl (by simp [World.setRow]) (setRow_heap w b _ _ _ _ hb) (fun k hk => setRow_other w b k _ hk))
end
end Go.Gd
end
section
namespace Go.Gd
set_option linter.unusedVariables false
set_option linter.unusedSimpArgs false
/-- the values of a call's operands -/
def evs (fl : Slots) : List Operand → Option (List Value)
  | [] => some []
  | x :: r => match ev fl x, evs fl r with
    | some v, some vs => some (v :: vs)
    | _, _ => none
section
variable {P : Program} {o : Oper} {n : Sz} {fl : Slots} {a : Act} {w w0 : World} {v : Value} {M : Nat → Prop} {l : List Atom}
variable {r : Option Nat} {ops : Array Oper} {Q : Exit → Act → World → Prop} {rest : List Oper} {d : Nat} {K : Act → World → Prop}
theorem St.evs (S : St n fl a) : ∀ {xs : List Operand} {vs : List Value}, Gd.evs fl xs = some vs → xs.map a.eval = vs
  | [], vs, h => by simp [Gd.evs] at h; subst h; rfl
  | x :: r, vs, h => by
    simp only [Gd.evs] at h
    split at h
    · rename_i v vs' h1 h2
      cases h
      simp [S.ev h1, St.evs S h2]
    · cases h
def Enters (P : Program) (f : FuncId) : Prop := ∀ (args : Array Value) (w : World), (callFunc f args).run P w = .ok (.enter f args) w
/-- what runs when a function value is called with arguments -/
def CallOp (P : Program) (o : Oper) (a : Act) (w : World) (f : FuncId) (args : Array Value) : Prop := (execOp a.eval o).run P w = .ok (.enter f args) w
theorem co_func {f : FuncId} {xs : Array Operand} {at_ : Array TypeId} {vs : List Value} (ho : o.op = .call { callee := .value (.func f), args := xs, argTypes := at_ }) (he : Enters P f) (S : St n fl a) (hx : evs fl xs.toList = some vs) : CallOp P o a w f vs.toArray := by
  have h := S.evs hx
  have h2 : xs.map a.eval = vs.toArray := by rw [← h, ← Array.toList_map]
  unfold CallOp execOp; rw [ho]
  simp only [resolve, Act.eval, Deferred.ofValue, h2]
  simpa [invoke] using he vs.toArray w
/-- a closure's call: the arguments, then what it has captured -/
theorem co_value {f : FuncId} {x : Operand} {xs : Array Operand} {at_ : Array TypeId} {vs fi cap : List Value} (ho : o.op = .call { callee := .value x, args := xs, argTypes := at_ }) (he : Enters P f) (S : St n fl a) (hf : ev fl x = some (.func (.func f) fi.toArray cap.toArray)) (hx : evs fl xs.toList = some vs) : CallOp P o a w f (fi ++ vs ++ cap).toArray := by
  have h := S.evs hx
  have h2 : xs.map a.eval = vs.toArray := by rw [← h, ← Array.toList_map]
  unfold CallOp execOp; rw [ho]
  simp only [resolve, S.ev hf, Deferred.ofValue, h2]
  simpa [invoke] using he ((fi ++ vs ++ cap).toArray) w
theorem op_call (hw : Region.wanted o (yielded ops a.tmps) = true) (hd : o.dst = some d) (hn : Nat.blt d n.n = true) {f : FuncId} {args : Array Value} (S : St n fl a) (hc : CallOp P o a w f args) {R : Value → World → Prop} (h : Ret P f args w R)
    (k : ∀ v w', R v w' → ∀ a', St n ((d, v) :: fl) a' → K a' w') : opw P ops o a w K := by
  refine opw_is hw hc ?_
  show Calls P f args w _
  rw [hd]
  exact Calls.mono h fun e w' ⟨v, he, hR⟩ => ⟨v, he, k v w' hR _ (S.put hn v)⟩
theorem y_extract {x : Operand} {i : Nat} {vs : List Value} (ho : o.op = .extract x i) (S : St n fl a) (hx : ev fl x = some (.tuple vs.toArray)) (hv : vs[i]? = some v) : Yld P o a w v := by
  unfold Yld execOp; rw [ho]; simp [S.ev hx, Instr.extract, hv]
theorem y_makeFunc {f : FuncId} {fi cap : Array Operand} {fv cv : List Value} (ho : o.op = .makeFunc (.func f) fi cap) (S : St n fl a) (h1 : evs fl fi.toList = some fv) (h2 : evs fl cap.toList = some cv) : Yld P o a w (.func (.func f) fv.toArray cv.toArray) := by
  have e1 : fi.map a.eval = fv.toArray := by rw [← S.evs h1, ← Array.toList_map]
  have e2 : cap.map a.eval = cv.toArray := by rw [← S.evs h2, ← Array.toList_map]
  unfold Yld execOp; rw [ho]; simp [Instr.makeFunc, e1, e2]
/-- a call that turns atom x into y, wherever x stands -/
theorem Ret.at_ {f : FuncId} {args : Array Value} {x y : Atom} {r : List Atom} {l' : Atom → List Atom} [hA : HasA l x r l'] {R : Value → Prop} (H : HSat M w0 l w) (h : HSat M w0 (x :: r) w → Ret P f args w (fun v w' => R v ∧ HSat M w0 (y :: r) w')) :
    Ret P f args w (fun v w' => R v ∧ HSat M w0 (l' y) w') :=
  (h (H.perm hA.to_)).mono fun v w' ⟨h1, h2⟩ => ⟨h1, h2.perm (hA.back y)⟩
/-- a result that lies in a block -/
theorem retc {fn : Func} {R : Value → World → Prop} {t T b : Nat} {cs : List Value} {T' : TypeId} {fz : Nat × Nat} (hr : fn.results = #[.cell t T]) (S : St n fl a) (H : HSat M w0 l w) (hv : fl.lookup t = some (.pointer (some ⟨b, 0, none⟩)))
    [h : HasRd l b (.cells cs.toArray T' fz)] (hT : aggB P T cs.length = true) (hR : R (.agg cs.toArray) w) (hds : n.ds = [] := by rfl) : endP P fn R .ret a w := by
  refine end_ret S hds (v := .agg cs.toArray) ?_ hR
  have hl := run_loadVar_agg (P := P) (w := w) (p := ⟨b, 0, none⟩) hT (fun j u hu => by rw [add_plain, H.cell h]; simpa using hu)
  have hv' : a.tmps[t]?.getD undef = .pointer (some ⟨b, 0, none⟩) := by rw [← Array.getD_eq_getD_getElem?]; exact S.get t _ hv
  simp [results, hr, hv', asAddr, hl]
/-- A loop: x says what the slots mods x and the atoms hp x hold, flU is what no round turns. -/
theorem loop {X : Type} {c : Code} {flU : Slots} (SU : St n flU a) (mods : X → Slots) (hp : X → List Atom) (inv : X → Prop) (μ : X → Nat) (x0 : X) (S0 : St n (mods x0) a) (H0 : HSat M w0 (hp x0) w) (h0 : inv x0)
    (body : ∀ x a w, St n (mods x ++ flU) a → HSat M w0 (hp x) w → inv x →
      gp r P c (Exit.then (fun a' w' => ∃ y, St n (mods y) a' ∧ St n flU a' ∧ HSat M w0 (hp y) w' ∧ inv y ∧ μ y < μ x) Q) a w) : gp r P (Code.loop c) Q a w := by
  refine g_loop (fun m a w => ∃ x, μ x = m ∧ St n (mods x) a ∧ St n flU a ∧ HSat M w0 (hp x) w ∧ inv x) (μ x0) ⟨x0, rfl, S0, SU, H0, h0⟩ ?_
  rintro m a w ⟨x, rfl, S1, S2, H, hi⟩
  refine g_mono (body x a w (S1.append S2) H hi) ?_
  intro e a' w' hq
  cases e with
  | normal =>
    obtain ⟨y, h1, h2, h3, h4, h5⟩ := hq
    exact ⟨μ y, h5, y, rfl, h1, h2, h3, h4⟩
  | _ => exact hq
/-- an operation under a guard that holds -/
theorem wg (g : Nat) {j : Nat} {b : Bool} (hg : o.guard = some (j, b)) (hj : (ops[j]?).bind (·.dst) = some g) (S : St n fl a) (hb : fl.lookup g = some (.bool b)) (hn : Nat.blt g n.n = true) : Region.wanted o (yielded ops a.tmps) = true := by
  have hv := S.get g _ hb
  have hlt : g < a.tmps.size := by rw [S.size]; simpa using hn
  have : a.tmps[g]? = some (.bool b) := by
    simp only [Array.getD_eq_getD_getElem?] at hv
    rw [Array.getElem?_eq_getElem hlt] at hv ⊢
    simpa using hv
  simp [Region.wanted, hg, yielded, hj, this]
theorem ug (g : Nat) {j : Nat} {b : Bool} (hg : o.guard = some (j, b)) (hj : (ops[j]?).bind (·.dst) = some g) (S : St n fl a) {v : Value} (hb : fl.lookup g = some v) (hv : v ≠ .bool b) (hn : Nat.blt g n.n = true) : Region.wanted o (yielded ops a.tmps) = false := by
  have hv' := S.get g _ hb
  have hlt : g < a.tmps.size := by rw [S.size]; simpa using hn
  have : a.tmps[g]? = some v := by
    simp only [Array.getD_eq_getD_getElem?] at hv'
    rw [Array.getElem?_eq_getElem hlt] at hv' ⊢
    simpa using hv'
  simp only [Region.wanted, hg, yielded, hj, Option.bind_some, this]
  cases v with
  | bool c => cases b <;> cases c <;> simp_all
  | _ => simp
theorem wg' (g : Nat) {j : Nat} {b B : Bool} (hg : o.guard = some (j, b)) (hj : (ops[j]?).bind (·.dst) = some g) (S : St n fl a) (hb : fl.lookup g = some (.bool B)) (h : B = b) (hn : Nat.blt g n.n = true) : Region.wanted o (yielded ops a.tmps) = true := by
  subst h; exact wg g hg hj S hb hn
/-- all of these operations are passed over when slot g is not b -/
def skipOK (ops : Array Oper) (n : Nat) (keys : List Nat) (g : Nat) (b : Bool) : List Oper → List Nat → Bool
  | [], _ => true
  | o :: r, ds =>
    match o.guard, o.dst with
    | some (j, b'), some d =>
      (match (ops[j]?).bind (·.dst) with
        | some gd => Nat.blt gd n && ((gd == g && b' == b) || ds.contains gd)
        | none => false) && !keys.contains d && !ds.contains d && Nat.blt d n && skipOK ops n keys g b r (d :: ds)
    | _, _ => false
theorem St.keep {d : Nat} {v : Value} (S : St n ((d, v) :: fl) a) (h : (fl.map (·.1)).contains d = false) : St n fl a := by
  have := S.old 1 (by simp [disjB] at h ⊢; intro x hx; exact h _ hx)
  simpa using this
theorem skip_all {g : Nat} {b : Bool} {u : Value} {tail : List Oper} (hu : u ≠ .bool b) (hgl : fl.lookup g = some u) :
    ∀ (blk : List Oper) (ds : List Nat) (a : Act), skipOK ops n.n (fl.map (·.1)) g b blk ds = true → St n fl a → (∀ x ∈ ds, x < n.n ∧ a.tmps.getD x undef = undef) →
      (∀ a', St n fl a' → gl P ops Q tail a' w) → gl P ops Q (blk ++ tail) a w := by
  intro blk
  induction blk with
  | nil => intro ds a _ S _ k; exact k a S
  | cons o r ih =>
    intro ds a hs S hds k
    simp only [skipOK] at hs
    split at hs
    · rename_i j b' d hg hd
      simp only [Bool.and_eq_true] at hs
      obtain ⟨⟨⟨⟨h1, h2⟩, h3⟩, h4⟩, h5⟩ := hs
      have hw : Region.wanted o (yielded ops a.tmps) = false := by
        split at h1
        · rename_i gd hgd
          simp only [Bool.and_eq_true, Bool.or_eq_true, beq_iff_eq] at h1
          rcases h1.2 with ⟨e1, e2⟩ | h1'
          · subst e1; subst e2
            exact ug gd hg hgd S hgl hu h1.1
          · have := hds gd (by simpa using h1')
            have Su : St n [(gd, undef)] a := ⟨S.size, S.defers, fun i v hi => by
              simp only [List.lookup] at hi
              split at hi
              · rename_i he; have e : i = gd := by simpa using he
                subst e; cases hi; exact this.2
              · cases hi⟩
            exact ug (fl := [(gd, undef)]) (v := undef) gd hg hgd Su (by simp [List.lookup]) (by simp [undef]) h1.1
        · cases h1
      show gl P ops Q (o :: (r ++ tail)) a w
      refine opw_un hw ?_
      rw [hd]
      refine ih (d :: ds) _ h5 ((S.put h4 undef).keep (by simpa using h2)) ?_ k
      intro x hx
      have hd4 : d < n.n := by simpa using h4
      rcases List.mem_cons.1 hx with rfl | hx
      · exact ⟨hd4, (S.put h4 undef).get _ undef (by simp [List.lookup])⟩
      · have hne : d ≠ x := by rintro rfl; simp [hx] at h3
        refine ⟨(hds x hx).1, ?_⟩
        have := (hds x hx).2
        simp only [Act.put, Array.getD_eq_getD_getElem?] at this ⊢
        rw [Array.getElem?_setIfInBounds_ne hne]; exact this
    · cases hs
/-- a && b, a || b: the operations of b stand under a's guard; the ways meet again at the pick -/
theorem wl_or {M : Nat → Prop} {L rest : List Oper} {pk : Oper} (m g : Nat) {B B2 : Bool} {c x y : Operand} (hL : L = L.take m ++ pk :: rest) (S : St n fl a) (H : HSat M w0 l w) (hB : fl.lookup g = some (.bool B))
    (hsk : skipOK ops n.n (fl.map (·.1)) g false (L.take m) [] = true) (hpk : pk.op = .pick c x y) (hc : ev fl c = some (.bool B)) (hx : ev fl x = some (.bool true)) (hd : pk.dst = some d) (hn : Nat.blt d n.n = true)
    (hw : ∀ a', St n fl a' → Region.wanted pk (yielded ops a'.tmps) = true)
    (hyes : B = false → (∀ a' w', St n ((d, .bool (B || B2)) :: fl) a' → HSat M w0 l w' → gl P ops Q rest a' w') → gl P ops Q L a w)
    (k : ∀ a' w', St n ((d, .bool (B || B2)) :: fl) a' → HSat M w0 l w' → gl P ops Q rest a' w') : gl P ops Q L a w := by
  cases B with
  | false => exact hyes rfl k
  | true =>
    rw [hL]
    refine skip_all (by simp) hB _ [] a hsk S (by simp) fun a' S' => ?_
    refine wl_of (op_y (hw a' S') hd hn S' (v := .bool (true || B2)) ?_ (fun a'' S'' => k a'' w S'' H))
    unfold Yld execOp; rw [hpk]; simp only [S'.ev hc, S'.ev hx]; simp [asBool]
theorem wl_and {M : Nat → Prop} {L rest : List Oper} {pk : Oper} (m g : Nat) {B B2 : Bool} {c x y : Operand} (hL : L = L.take m ++ pk :: rest) (S : St n fl a) (H : HSat M w0 l w) (hB : fl.lookup g = some (.bool B))
    (hsk : skipOK ops n.n (fl.map (·.1)) g true (L.take m) [] = true) (hpk : pk.op = .pick c x y) (hc : ev fl c = some (.bool B)) (hy : ev fl y = some (.bool false)) (hd : pk.dst = some d) (hn : Nat.blt d n.n = true)
    (hw : ∀ a', St n fl a' → Region.wanted pk (yielded ops a'.tmps) = true)
    (hyes : B = true → (∀ a' w', St n ((d, .bool (B && B2)) :: fl) a' → HSat M w0 l w' → gl P ops Q rest a' w') → gl P ops Q L a w)
    (k : ∀ a' w', St n ((d, .bool (B && B2)) :: fl) a' → HSat M w0 l w' → gl P ops Q rest a' w') : gl P ops Q L a w := by
  cases B with
  | true => exact hyes rfl k
  | false =>
    rw [hL]
    refine skip_all (by simp) hB _ [] a hsk S (by simp) fun a' S' => ?_
    refine wl_of (op_y (hw a' S') hd hn S' (v := .bool (false && B2)) ?_ (fun a'' S'' => k a'' w S'' H))
    unfold Yld execOp; rw [hpk]; simp only [S'.ev hc, S'.ev hy]; simp [asBool]
/-- the pick at the end of the way on which b was reckoned -/
theorem y_or' {c x y : Operand} {B B2 : Bool} (ho : o.op = .pick c x y) (h : B = false) (S : St n fl a) (hc : ev fl c = some (.bool B)) (hy : ev fl y = some (.bool B2)) : Yld P o a w (.bool (B || B2)) := by
  subst h; unfold Yld execOp; rw [ho]; simp only [S.ev hc, S.ev hy]; simp [asBool]
theorem y_and' {c x y : Operand} {B B2 : Bool} (ho : o.op = .pick c x y) (h : B = true) (S : St n fl a) (hc : ev fl c = some (.bool B)) (hx : ev fl x = some (.bool B2)) : Yld P o a w (.bool (B && B2)) := by
  subst h; unfold Yld execOp; rw [ho]; simp only [S.ev hc, S.ev hx]; simp [asBool]
/-- forget all but slot d and what was there before the m newest -/
theorem St.join {fl' : Slots} (S : St n fl' a) (m d : Nat) {v : Value} (h : fl'.lookup d = some v) (hm : disjB m fl' = true) : St n ((d, v) :: fl'.drop m) a := (S.old m hm).cons S d h
end
end Go.Gd
end
section
namespace Go.Gd
set_option linter.unusedVariables false
set_option linter.unusedSimpArgs false
/-- C goes on holding when new blocks come -/
def Stable (C : World → Prop) : Prop := ∀ w w', C w → Ext w w' → C w'
/-- in frame a, in every world of C, operation o leaves v in its slot and makes at most new blocks -/
def QuietAt (P : Program) (o : Oper) (a : Act) (C : World → Prop) (v : Value) : Prop :=
  ∀ w, C w → Yld P o a w v ∨ ∃ f args, CallOp P o a w f args ∧ Ret P f args w (fun u w' => u = v ∧ Ext w w')
section
variable {r : Option Nat} {P : Program} {ops : Array Oper} {Q : Exit → Act → World → Prop} {md : Region.Mode}
/-- the walk: loud operations in a chain; 'tails' may turn what C says; 'free' ones look at nothing but D, which lasts -/
def Mix (P : Program) (ops : Array Oper) (loud tails free : List Nat) (D : World → Prop) (K : Act → World → Prop) : List Nat → Act → (World → Prop) → Prop
  | [], a, C => ∀ w, C w → K a w
  | i :: rest, a, C => ∃ o, ops[i]? = some o ∧
    if loud.contains i = true then ∀ w, C w → opw P ops o a w (fun a' w' => ∃ C', Stable C' ∧ C' w' ∧ (∀ w, C' w → D w) ∧ ((∀ w, C' w → C w) ∨ tails.contains i = true) ∧ Mix P ops loud tails free D K rest a' C')
    else ∃ v, ((Region.wanted o (yielded ops a.tmps) = true ∧ QuietAt P o a (if free.contains i = true then D else C) v) ∨ (Region.wanted o (yielded ops a.tmps) = false ∧ v = undef)) ∧ Mix P ops loud tails free D K rest (a.put o.dst v) C
/-- i comes behind j, by the edges -/
def depB (md : Region.Mode) (ops : Array Oper) : Nat → Nat → Nat → Bool
  | 0, _, _ => false
  | f + 1, i, j => match ops[i]? with
    | some o => o.after.toList.any fun e => Region.binds md e && (e.on == j || depB md ops f e.on j)
    | none => false
def noSel (o : Oper) : Bool := match o.op with | .select .. => false | _ => true
/-- of two operations in the walk's order: the later waits for the earlier; or the earlier is quiet and they have nothing to do with each other -/
def pairOK (md : Region.Mode) (ops : Array Oper) (loud tails free : List Nat) (j i : Nat) : Bool :=
  depB md ops ops.size i j || (!loud.contains j && (!tails.contains i || free.contains j) && match ops[j]?, ops[i]? with | some oj, some oi => oj.apart ops oi && noSel oj && noSel oi | _, _ => false)
def firstOK (md : Region.Mode) (ops : Array Oper) (j : Nat) (rest : List Nat) : Bool := match ops[j]? with
  | some o => o.after.toList.all fun e => !Region.binds md e || (decide (e.on < ops.size) && !(j :: rest).contains e.on)
  | none => false
def orderOK (md : Region.Mode) (ops : Array Oper) (loud tails free : List Nat) : List Nat → Bool
  | [] => true
  | j :: rest => !rest.contains j && decide (j < ops.size) && rest.all (pairOK md ops loud tails free j) && (firstOK md ops j rest && orderOK md ops loud tails free rest)
theorem opw_put {oi oj : Oper} {v : Value} {a : Act} {w : World} {K : Act → World → Prop} (hap : oj.apart ops oi = true) (hsi : ∀ cs b, oi.op ≠ .select cs b)
    (h : opw P ops oi (a.put oj.dst v) w K) : opw P ops oi a w (fun a' w' => (∃ u, a' = a.put oi.dst u) ∧ K (a'.put oj.dst v) w') := by
  obtain ⟨h1, h2, h3⟩ := Oper.apart_spec hap
  have hp : ∀ u, (a.put oi.dst u).put oj.dst v = (a.put oj.dst v).put oi.dst u := fun u => Act.put_comm _ _ _ (fun d hd => fun hd' => h2 d hd' hd)
  refine ⟨fun hw => ?_, fun hw => ?_⟩
  · have h' := h.1 (by rw [wanted_put oi a oj.dst v h1]; exact hw)
    rw [execOp_put oi hsi a oj.dst v h1] at h'
    unfold upon at h' ⊢
    split at h'
    · exact ⟨⟨_, rfl⟩, by rw [hp]; exact h'⟩
    · exact ⟨⟨_, rfl⟩, by rw [hp]; exact h'⟩
    · exact Calls.mono h' fun e w'' ⟨u, he, hu⟩ => ⟨u, he, ⟨u, rfl⟩, by rw [hp]; exact hu⟩
    · exact RoundIn.mono h' fun e w'' ⟨u, he, hu⟩ => ⟨u, he, ⟨u, rfl⟩, by rw [hp]; exact hu⟩
    · exact h'.elim
  · exact ⟨⟨_, rfl⟩, by rw [hp]; exact h.2 (by rw [wanted_put oi a oj.dst v h1]; exact hw)⟩
/-- number i, which comes up now, is taken out of the walk's order; all that stands ahead of it there is quiet and apart -/
theorem Mix.pull {loud tails free : List Nat} {D : World → Prop} {K : Act → World → Prop} {post : List Nat} {i : Nat} {oi : Oper} (hi : ops[i]? = some oi) :
    ∀ (pre : List Nat) (a : Act) (C : World → Prop), Stable C → (∀ w, C w → D w) → (tails.contains i = true → ∀ j ∈ pre, free.contains j = true) →
      (∀ j ∈ pre, loud.contains j = false ∧ ∃ oj, ops[j]? = some oj ∧ oj.apart ops oi = true ∧ noSel oj = true ∧ noSel oi = true) →
      Mix P ops loud tails free D K (pre ++ i :: post) a C → ∀ w, C w → opw P ops oi a w (fun a' w' => ∃ C', Stable C' ∧ C' w' ∧ (∀ w, C' w → D w) ∧ ((∀ w, C' w → C w) ∨ tails.contains i = true) ∧ Mix P ops loud tails free D K (pre ++ post) a' C')
  | [], a, C, hst, hCD, _, _, h, w, hw => by
    obtain ⟨o, ho, h⟩ := h
    have : o = oi := Option.some.inj (ho.symm.trans hi)
    subst this
    split at h
    · exact h w hw
    · obtain ⟨v, hv, hm⟩ := h
      rcases hv with ⟨hwt, hq⟩ | ⟨hwt, rfl⟩
      · rcases hq w (by split; exact hCD w hw; exact hw) with hy | ⟨f, args, hc, hr⟩
        · exact opw_val hwt hy ⟨C, hst, hw, hCD, .inl (fun _ h => h), hm⟩
        · refine opw_is hwt hc ?_
          exact Calls.mono hr fun e w' ⟨u, he, hu, hx⟩ => ⟨u, he, C, hst, hst _ _ hw hx, hCD, .inl (fun _ h => h), by subst hu; exact hm⟩
      · exact opw_un hwt ⟨C, hst, hw, hCD, .inl (fun _ h => h), hm⟩
  | j :: pre, a, C, hst, hCD, ht, hpre, h, w, hw => by
    obtain ⟨hlj, oj, hoj, hap, hs1, hs2⟩ := hpre j (List.mem_cons_self ..)
    obtain ⟨o, ho, h⟩ := h
    have : o = oj := Option.some.inj (ho.symm.trans hoj)
    subst this
    rw [if_neg (by rw [hlj]; simp)] at h
    obtain ⟨v, hv, hm⟩ := h
    have hsi : ∀ cs b, oi.op ≠ .select cs b := fun cs b e => by simp [noSel, e] at hs2
    have hsj : ∀ cs b, o.op ≠ .select cs b := fun cs b e => by simp [noSel, e] at hs1
    have ih := Mix.pull hi pre (a.put o.dst v) C hst hCD (fun h x hx => ht h x (List.mem_cons_of_mem _ hx)) (fun x hx => hpre x (List.mem_cons_of_mem _ hx)) hm w hw
    obtain ⟨h1, h2, h3⟩ := Oper.apart_spec hap
    refine opw_mono (opw_put hap hsi ih) ?_
    rintro a' w' ⟨⟨u, rfl⟩, C', hst', hw', hD', hsub, hm'⟩
    refine ⟨C', hst', hw', hD', hsub, o, hoj, ?_⟩
    rw [if_neg (by rw [hlj]; simp)]
    have hsub' : free.contains j = false → ∀ w, C' w → C w := fun hf => hsub.elim id (fun h => by rw [ht h j (List.mem_cons_self ..)] at hf; cases hf)
    refine ⟨v, ?_, hm'⟩
    rw [wanted_put o a oi.dst u h3]
    rcases hv with ⟨hwt, hq⟩ | ⟨hwt, rfl⟩
    · refine .inl ⟨hwt, fun w1 hw1 => ?_⟩
      have := hq w1 (by
        split
        · rename_i hf; rwa [if_pos hf] at hw1
        · rename_i hf; rw [if_neg hf] at hw1; exact hsub' (by simpa using hf) w1 hw1)
      unfold Yld CallOp at *
      rwa [execOp_put o hsj a oi.dst u h3]
    · exact .inr ⟨hwt, rfl⟩
/-- what has come up is closed under what it waits for -/
def Closed (md : Region.Mode) (ops : Array Oper) (listed : Array Bool) : Prop :=
  ∀ i o, ops[i]? = some o → listed.getD i false = true → ∀ e ∈ o.after, Region.binds md e = true → listed.getD e.on false = true
theorem dep_unlisted {listed : Array Bool} (hcl : Closed md ops listed) {j : Nat} (hj : listed.getD j false = false) :
    ∀ (f i : Nat) (o : Oper), ops[i]? = some o → depB md ops f i j = true → ∃ e ∈ o.after, Region.binds md e = true ∧ listed.getD e.on false = false := by
  intro f
  induction f with
  | zero => intro i o _ h; cases h
  | succ f ih =>
    intro i o ho h
    simp only [depB, ho] at h
    obtain ⟨e, he, h⟩ := List.any_eq_true.1 h
    simp only [Bool.and_eq_true, Bool.or_eq_true, beq_iff_eq] at h
    obtain ⟨hb, h⟩ := h
    refine ⟨e, by simpa using he, hb, ?_⟩
    rcases h with rfl | h
    · exact hj
    · cases hon : listed.getD e.on false with
      | false => rfl
      | true =>
        exfalso
        cases heo : ops[e.on]? with
        | none =>
          cases f with
          | zero => cases h
          | succ f => simp [depB, heo] at h
        | some oe =>
          obtain ⟨e', he', hb', hun⟩ := ih e.on oe heo h
          rw [hcl e.on oe heo hon e' he' hb'] at hun
          cases hun
theorem firstOK_sub {j : Nat} {r r' : List Nat} (hs : ∀ x ∈ r', x ∈ r) (h : firstOK md ops j r = true) : firstOK md ops j r' = true := by
  unfold firstOK at h ⊢
  split at h
  · rw [List.all_eq_true] at h ⊢
    intro e he
    have := h e he
    simp only [Bool.or_eq_true, Bool.and_eq_true, Bool.not_eq_true', List.contains_eq_mem, decide_eq_false_iff_not] at this ⊢
    rcases this with h1 | ⟨h1, h2⟩
    · exact .inl h1
    · exact .inr ⟨h1, fun hm => h2 (by rcases List.mem_cons.1 hm with rfl | hm; exact List.mem_cons_self ..; exact List.mem_cons_of_mem _ (hs _ hm))⟩
  · cases h
theorem orderOK_split {loud tails free : List Nat} : ∀ (pre : List Nat) {i : Nat} {post : List Nat}, orderOK md ops loud tails free (pre ++ i :: post) = true →
    (∀ j ∈ pre, pairOK md ops loud tails free j i = true) ∧ orderOK md ops loud tails free (pre ++ post) = true ∧ i ∉ pre ++ post ∧ i < ops.size
  | [], i, post, h => by
    simp only [List.nil_append, orderOK, Bool.and_eq_true] at h
    obtain ⟨⟨⟨h1, h2⟩, h3⟩, h5, h4⟩ := h
    exact ⟨by simp, h4, by simpa using h1, by simpa using h2⟩
  | j :: pre, i, post, h => by
    simp only [List.cons_append, orderOK, Bool.and_eq_true] at h
    obtain ⟨⟨⟨h1, h2⟩, h3⟩, h5, h4⟩ := h
    obtain ⟨g1, g2, g3, g4⟩ := orderOK_split pre h4
    have h3' := List.all_eq_true.1 h3
    simp only [Bool.not_eq_true', List.contains_eq_mem, decide_eq_false_iff_not] at h1
    refine ⟨fun x hx => ?_, ?_, ?_, g4⟩
    · rcases List.mem_cons.1 hx with rfl | hx
      · exact h3' i (by simp)
      · exact g1 x hx
    · simp only [List.cons_append, orderOK, Bool.and_eq_true]
      refine ⟨⟨⟨?_, h2⟩, List.all_eq_true.2 fun x hx => h3' x ?_⟩, firstOK_sub (fun x hx => ?_) h5, g2⟩
      · simp only [Bool.not_eq_true', List.contains_eq_mem, decide_eq_false_iff_not]
        exact fun hm => h1 (by rcases List.mem_append.1 hm with h | h <;> simp [h])
      · rcases List.mem_append.1 hx with h | h <;> simp [h]
      · rcases List.mem_append.1 hx with h | h <;> simp [h]
    · intro hm
      rcases List.mem_cons.1 hm with rfl | hm
      · exact h1 (by simp)
      · exact g3 hm
theorem mix_any {loud tails free : List Nat} {D : World → Prop} {K : Act → World → Prop} {Q' : Exit → Act → World → Prop} (hQ : ∀ a w, K a w → Q' .normal a w) :
    ∀ (fuel : Nat) (order : List Nat) (listed : Array Bool) (a : Act) (C : World → Prop), Stable C → (∀ w, C w → D w) → order.length ≤ fuel → listed.size = ops.size → Closed md ops listed → orderOK md ops loud tails free order = true →
      (∀ i, i < ops.size → (listed.getD i true = false ↔ i ∈ order)) → Mix P ops loud tails free D K order a C → ∀ w, C w → wpAnyIn (FR r) 0 P md ops Q' fuel listed a w := by
  intro fuel
  induction fuel with
  | zero =>
    intro order listed a C hst hCD hlen hsz hcl hok hmem hm w hw
    have : order = [] := List.eq_nil_of_length_eq_zero (by omega)
    subst this
    refine ⟨?_, hQ _ _ (hm w hw)⟩
    cases hr : Region.ready md ops listed with
    | nil => rfl
    | cons x xs =>
      exfalso
      have hx : x ∈ Region.ready md ops listed := by rw [hr]; simp
      obtain ⟨h0, o, ho, _⟩ := mem_ready.1 hx
      have := (hmem x (Array.getElem?_eq_some_iff.1 ho).1).1 h0
      cases this
  | succ fuel ih =>
    intro order listed a C hst hCD hlen hsz hcl hok hmem hm w hw
    have hready : ∀ i ∈ Region.ready md ops listed, i ∈ order := fun i hi => by
      obtain ⟨h0, o, ho, _⟩ := mem_ready.1 hi
      exact (hmem i (Array.getElem?_eq_some_iff.1 ho).1).1 h0
    refine ⟨fun hr => ?_, fun i hi => ?_⟩
    · cases order with
      | nil => exact hQ _ _ (hm w hw)
      | cons x xs =>
        exfalso
        simp only [orderOK, Bool.and_eq_true] at hok
        have hx := hok.1.1.2
        have h5 := hok.2.1
        have hxs : x < ops.size := by simpa using hx
        have hxr : x ∈ Region.ready md ops listed := by
          rw [mem_ready]
          unfold firstOK at h5
          split at h5
          · rename_i o ho
            refine ⟨(hmem x hxs).2 (by simp), o, ho, fun e he hb => ?_⟩
            have := List.all_eq_true.1 h5 e (by simpa using he)
            rw [hb] at this
            simp only [Bool.not_true, Bool.false_or, Bool.and_eq_true, decide_eq_true_eq, Bool.not_eq_true', List.contains_eq_mem, decide_eq_false_iff_not] at this
            have h7 := this.2
            have h8 : ¬ listed.getD e.on true = false := fun hf => h7 ((hmem e.on this.1).1 hf)
            have : e.on < listed.size := by omega
            simp [this] at h8 ⊢; exact h8
          · cases h5
        rw [hr] at hxr; cases hxr
    · obtain ⟨h0, oi, hoi, hall⟩ := mem_ready.1 hi
      obtain ⟨pre, post, rfl⟩ := List.append_of_mem (hready i hi)
      obtain ⟨hp, hok', hnot, hlt⟩ := orderOK_split pre hok
      have hun : ∀ j ∈ pre, listed.getD j false = false ∧ depB md ops ops.size i j = false := fun j hj => by
        have hjm : j ∈ pre ++ i :: post := by simp [hj]
        have hjlt : j < ops.size := by
          obtain ⟨p1, p2, e⟩ := List.append_of_mem hjm
          rw [e] at hok
          exact (orderOK_split p1 hok).2.2.2
        have hjt := (hmem j hjlt).2 hjm
        have hj0 : listed.getD j false = false := by
          have : j < listed.size := by omega
          simp [this] at hjt ⊢; exact hjt
        refine ⟨hj0, ?_⟩
        cases hd : depB md ops ops.size i j with
        | false => rfl
        | true =>
          exfalso
          obtain ⟨e, he, hb, hun⟩ := dep_unlisted hcl hj0 ops.size i oi hoi hd
          rw [hall e he hb] at hun
          cases hun
      have hpull := Mix.pull (P := P) (loud := loud) (tails := tails) (free := free) (D := D) (K := K) (post := post) hoi pre a C hst hCD (fun ht j hj => by
          have h1 := hp j hj
          have h2 := (hun j hj).2
          simp only [pairOK, h2, Bool.false_or, Bool.and_eq_true, ht] at h1
          simpa using h1.1.2)
        (fun j hj => by
          have h1 := hp j hj
          have h2 := (hun j hj).2
          simp only [pairOK, h2, Bool.false_or, Bool.and_eq_true] at h1
          obtain ⟨⟨h1, _⟩, h3⟩ := h1
          refine ⟨by simpa using h1, ?_⟩
          rw [hoi] at h3
          cases hoj : ops[j]? with
          | none => rw [hoj] at h3; cases h3
          | some oj =>
            rw [hoj] at h3
            simp only [Bool.and_eq_true] at h3
            exact ⟨oj, rfl, h3.1.1, h3.1.2, h3.2⟩) hm w hw
      have h2 := opw_mono (K' := fun a' w' => wpAnyIn (FR r) 0 P md ops Q' fuel (listed.setIfInBounds i true) a' w') (hpull) (fun a' w' ⟨C', hst', hw', hD', _, hm'⟩ => by
        have hil : i < listed.size := by omega
        refine ih (pre ++ post) _ a' C' hst' hD' ?_ (by simp [hsz]) ?_ hok' ?_ hm' w' hw'
        · simp only [List.length_append, List.length_cons] at hlen ⊢; omega
        · intro x o hx hl e he hb
          by_cases hxi : i = x
          · subst hxi
            have : o = oi := Option.some.inj (hx.symm.trans hoi)
            subst this
            exact getD_set_true (hall e he hb)
          · rw [getD_set_ne false hxi] at hl
            exact getD_set_true (hcl x o hx hl e he hb)
        · intro x hx
          by_cases hxi : i = x
          · subst hxi
            constructor
            · intro h; simp [hil] at h
            · intro h; exact absurd h hnot
          · rw [getD_set_ne true hxi, hmem x hx]
            simp only [List.mem_append, List.mem_cons]
            constructor
            · rintro (h | h | h)
              · exact .inl h
              · exact absurd h.symm hxi
              · exact .inr h
            · rintro (h | h)
              · exact .inl h
              · exact .inr (.inr h))
      unfold wpOpIn
      rw [hoi]
      exact opw_op h2
/-- the law: one walk in the order 'order' serves every order that the tape may draw -/
theorem region_mix {id : Nat} {a : Act} {w : World} {loud tails free order : List Nat} {D : World → Prop} (hm : P.follows .mixedOrders = true) (hok : orderOK .any ops loud tails free order = true) (hall : (List.range ops.size).all (fun i => order.contains i) = true)
    (hlen : Nat.ble order.length ops.size = true) (C : World → Prop) (hst : Stable C) (hCD : ∀ w, C w → D w) (hw : C w) (h : Mix P ops loud tails free D (Q .normal) order a C) : gp r P (Code.region id ops true) Q a w := by
  refine wpIn_region_any hm ?_
  have hw' : C { w with drawn := w.drawn + 1 } := hst _ _ hw (Ext.drawn w _)
  refine mix_any (fun _ _ h => h) ops.size order _ a C hst hCD (by simpa using hlen) (by simp) ?_ hok ?_ h _ hw'
  · intro i o hi hl
    have hlt := (Array.getElem?_eq_some_iff.1 hi).1
    simp [hlt] at hl
  · intro i hi
    have := List.all_eq_true.1 hall i (List.mem_range.2 hi)
    simp [hi]; simpa using this
theorem stable_hsat {M : Nat → Prop} {w0 : World} {l : List Atom} : Stable (HSat M w0 l) := fun _ _ h e => h.ext e
/-- atoms that are read alone, and last -/
def RO (ro : List Atom) (w : World) : Prop := (∀ x ∈ ro, x.own = false) ∧ ∀ x ∈ ro, x.ok w
class HasAt (l : List Atom) (x : Atom) : Prop where
  mem : x ∈ l
instance (priority := 2000) HasAt.here (l : List Atom) (x : Atom) : HasAt (x :: l) x := ⟨List.mem_cons_self ..⟩
instance HasAt.there (l : List Atom) (y x : Atom) [h : HasAt l x] : HasAt (y :: l) x := ⟨List.mem_cons_of_mem _ h.mem⟩
instance (priority := 500) HasAt.app (l1 l : List Atom) (x : Atom) [h : HasAt l x] : HasAt (l1 ++ l) x := ⟨List.mem_append_right _ h.mem⟩
class HasRO (l ro : List Atom) : Prop where
  sub : ∀ x ∈ ro, x ∈ l
instance HasRO.nil (l : List Atom) : HasRO l [] := ⟨fun x h => by cases h⟩
instance HasRO.cons (l : List Atom) (x : Atom) (r : List Atom) [h1 : HasAt l x] [h2 : HasRO l r] : HasRO l (x :: r) := ⟨fun y hy => by rcases List.mem_cons.1 hy with rfl | hy; exact h1.mem; exact h2.sub y hy⟩
theorem RO.of {M : Nat → Prop} {w0 : World} {l ro : List Atom} [h : HasRO l ro] (ho : ro.all (fun x => !x.own) = true) (w : World) (H : HSat M w0 l w) : RO ro w :=
  ⟨fun x hx => by simpa using List.all_eq_true.1 ho x hx, fun x hx => H.ok x (h.sub x hx)⟩
theorem pair_ro : ∀ {ro : List Atom}, (∀ x ∈ ro, x.own = false) → ro.Pairwise apart
  | [], _ => .nil
  | x :: r, h => List.pairwise_cons.2 ⟨fun y hy ho => by rw [h x (by simp), h y (List.mem_cons_of_mem _ hy)] at ho; simp at ho, pair_ro (fun y hy => h y (List.mem_cons_of_mem _ hy))⟩
theorem RO.sat {ro : List Atom} {w : World} (h : RO ro w) : HSat (fun _ => True) w ro w :=
  ⟨Fr.refl _ _, h.2, fun x hx ho => (by rw [h.1 x hx] at ho; cases ho), pair_ro h.1⟩
/-- atoms that are read alone -/
class ROs (ro : List Atom) : Prop where
  all : ro.all (fun x => !x.own) = true
instance ROs.nil : ROs [] := ⟨rfl⟩
instance ROs.ro (x : Atom) (r : List Atom) [h : ROs r] : ROs (Atom.ro x :: r) := ⟨by simpa [Atom.ro] using h.all⟩
variable {loud tails free rest : List Nat} {ro : List Atom} {K : Act → World → Prop} {i d : Nat} {n : Sz} {fl : Slots} {a : Act} {w0 : World} {M : Nat → Prop} {l : List Atom} {o : Oper} {v : Value}
theorem m_nil (h : ∀ w, HSat M w0 l w → K a w) : Mix P ops loud tails free (RO ro) K [] a (HSat M w0 l) := h
theorem m_w (hi : ops[i]? = some o) (hl : (loud.contains i || free.contains i) = false) (hw : Region.wanted o (yielded ops a.tmps) = true) (hd : o.dst = some d) (hn : Nat.blt d n.n = true) (S : St n fl a) (hy : ∀ w, HSat M w0 l w → Yld P o a w v)
    (k : ∀ a', St n ((d, v) :: fl) a' → Mix P ops loud tails free (RO ro) K rest a' (HSat M w0 l)) : Mix P ops loud tails free (RO ro) K (i :: rest) a (HSat M w0 l) := by
  rw [Bool.or_eq_false_iff] at hl
  refine ⟨o, hi, ?_⟩
  rw [if_neg (by rw [hl.1]; simp)]
  refine ⟨v, .inl ⟨hw, fun w h => .inl (hy w (by rwa [if_neg (by rw [hl.2]; simp)] at h))⟩, ?_⟩
  rw [hd]; exact k _ (S.put hn v)
/-- a quiet operation that looks at nothing but what lasts -/
theorem m_f (hi : ops[i]? = some o) (hl : (!loud.contains i && free.contains i) = true) (hw : Region.wanted o (yielded ops a.tmps) = true) (hd : o.dst = some d) (hn : Nat.blt d n.n = true) (S : St n fl a) (hy : ∀ w, HSat (fun _ => True) w ro w → Yld P o a w v)
    (k : ∀ a', St n ((d, v) :: fl) a' → Mix P ops loud tails free (RO ro) K rest a' (HSat M w0 l)) : Mix P ops loud tails free (RO ro) K (i :: rest) a (HSat M w0 l) := by
  simp only [Bool.and_eq_true, Bool.not_eq_true'] at hl
  refine ⟨o, hi, ?_⟩
  rw [if_neg (by rw [hl.1]; simp)]
  refine ⟨v, .inl ⟨hw, fun w h => .inl (hy w (by rw [if_pos hl.2] at h; exact h.sat))⟩, ?_⟩
  rw [hd]; exact k _ (S.put hn v)
theorem m_c (hi : ops[i]? = some o) (hl : (loud.contains i || free.contains i) = false) (hw : Region.wanted o (yielded ops a.tmps) = true) (hd : o.dst = some d) (hn : Nat.blt d n.n = true) {f : FuncId} {args : Array Value} (S : St n fl a) (hc : ∀ w, CallOp P o a w f args)
    (h : ∀ w, HSat M w0 l w → Ret P f args w (fun u w' => u = v ∧ Ext w w'))
    (k : ∀ a', St n ((d, v) :: fl) a' → Mix P ops loud tails free (RO ro) K rest a' (HSat M w0 l)) : Mix P ops loud tails free (RO ro) K (i :: rest) a (HSat M w0 l) := by
  rw [Bool.or_eq_false_iff] at hl
  refine ⟨o, hi, ?_⟩
  rw [if_neg (by rw [hl.1]; simp)]
  refine ⟨v, .inl ⟨hw, fun w hH => .inr ⟨f, args, hc w, h w (by rwa [if_neg (by rw [hl.2]; simp)] at hH)⟩⟩, ?_⟩
  rw [hd]; exact k _ (S.put hn v)
theorem m_l (hi : ops[i]? = some o) (hl : loud.contains i = true)
    (h : ∀ w, HSat M w0 l w → opw P ops o a w (fun a' w' => ∃ C', Stable C' ∧ C' w' ∧ (∀ w, C' w → RO ro w) ∧ ((∀ w, C' w → HSat M w0 l w) ∨ tails.contains i = true) ∧ Mix P ops loud tails free (RO ro) K rest a' C')) : Mix P ops loud tails free (RO ro) K (i :: rest) a (HSat M w0 l) := by
  refine ⟨o, hi, ?_⟩
  rw [if_pos hl]
  exact h
theorem m_next [ROs ro] {a' : Act} {w' : World} {l' : List Atom} [HasRO l' ro] (H : HSat M w0 l' w') (hs : l.Sublist l') (h : Mix P ops loud tails free (RO ro) K rest a' (HSat M w0 l')) :
    ∃ C', Stable C' ∧ C' w' ∧ (∀ w, C' w → RO ro w) ∧ ((∀ w, C' w → HSat M w0 l w) ∨ tails.contains i = true) ∧ Mix P ops loud tails free (RO ro) K rest a' C' :=
  ⟨_, stable_hsat, H, RO.of ROs.all, .inl (fun w h => h.sub hs), h⟩
theorem m_tail [ROs ro] {a' : Act} {w' : World} {l' : List Atom} [HasRO l' ro] (H : HSat M w0 l' w') (ht : tails.contains i = true) (h : Mix P ops loud tails free (RO ro) K rest a' (HSat M w0 l')) :
    ∃ C', Stable C' ∧ C' w' ∧ (∀ w, C' w → RO ro w) ∧ ((∀ w, C' w → HSat M w0 l w) ∨ tails.contains i = true) ∧ Mix P ops loud tails free (RO ro) K rest a' C' :=
  ⟨_, stable_hsat, H, RO.of ROs.all, .inr ht, h⟩
theorem region_st {id : Nat} {w : World} (order : List Nat) (ro : List Atom) [ROs ro] [HasRO l ro] (hm : P.follows .mixedOrders = true) (hok : orderOK .any ops loud tails free order = true) (hall : (List.range ops.size).all (fun i => order.contains i) = true)
    (hlen : Nat.ble order.length ops.size = true) (H : HSat M w0 l w) (h : Mix P ops loud tails free (RO ro) (Q .normal) order a (HSat M w0 l)) : gp r P (Code.region id ops true) Q a w :=
  region_mix hm hok hall hlen _ stable_hsat (RO.of ROs.all) H h
end
end Go.Gd
end
section
namespace Go.Gd
set_option linter.unusedVariables false
set_option linter.unusedSimpArgs false
section
variable {r : Option Nat} {P : Program} {ops : Array Oper} {Q : Exit → Act → World → Prop} {md : Region.Mode} {loud tails : List Nat}
def readyB (md : Region.Mode) (ops : Array Oper) (rem : List Nat) (i : Nat) : Bool := match ops[i]? with
  | some o => o.after.toList.all fun e => !Region.binds md e || (decide (e.on < ops.size) && !rem.contains e.on)
  | none => false
/-- whatever is left waits for j, or has nothing to do with it -/
def quietOK (md : Region.Mode) (ops : Array Oper) (tails rem : List Nat) (j : Nat) : Bool :=
  rem.all fun i => i == j || depB md ops ops.size i j || (!tails.contains i && match ops[j]?, ops[i]? with | some oj, some oi => oj.apart ops oi && noSel oj && noSel oi | _, _ => false)
/-- the walk as a tree: a quiet operation is taken first; else whichever may come up comes up -/
def MixT (P : Program) (md : Region.Mode) (ops : Array Oper) (tails : List Nat) (D : World → Prop) (K : Act → World → Prop) : Nat → List Nat → Act → (World → Prop) → Prop
  | 0, rem, a, C => rem = [] ∧ ∀ w, C w → K a w
  | f + 1, rem, a, C => (∃ (free : Bool) (j : Nat) (o : Oper) (v : Value), ops[j]? = some o ∧ j ∈ rem ∧ (readyB md ops rem j && quietOK md ops (if free then [] else tails) rem j) = true ∧ ((Region.wanted o (yielded ops a.tmps) = true ∧ QuietAt P o a (if free then D else C) v) ∨ (Region.wanted o (yielded ops a.tmps) = false ∧ v = undef)) ∧ MixT P md ops tails D K f (rem.erase j) (a.put o.dst v) C) ∨
      (rem.any (readyB md ops rem) = true ∧ ∀ i ∈ rem, readyB md ops rem i = true → ∃ o, ops[i]? = some o ∧ ∀ w, C w → opw P ops o a w (fun a' w' => ∃ C', Stable C' ∧ C' w' ∧ ((∀ w, C' w → C w) ∨ tails.contains i = true) ∧ (∀ w, C' w → D w) ∧ MixT P md ops tails D K f (rem.erase i) a' C'))
theorem quietOK_sub {tails rem rem' : List Nat} {j : Nat} (h : quietOK md ops tails rem j = true) (hs : ∀ x ∈ rem', x ∈ rem) : quietOK md ops tails rem' j = true :=
  List.all_eq_true.2 fun x hx => List.all_eq_true.1 h x (hs x hx)
/-- what is done is closed under what it waits for, in terms of what is left -/
def ClosedR (md : Region.Mode) (ops : Array Oper) (rem : List Nat) : Prop :=
  ∀ i o, ops[i]? = some o → i ∉ rem → ∀ e ∈ o.after, Region.binds md e = true → e.on ∉ rem
theorem dep_left {rem : List Nat} (hcl : ClosedR md ops rem) {j : Nat} (hj : j ∈ rem) :
    ∀ (f i : Nat) (o : Oper), ops[i]? = some o → depB md ops f i j = true → ∃ e ∈ o.after, Region.binds md e = true ∧ e.on ∈ rem := by
  intro f
  induction f with
  | zero => intro i o _ h; cases h
  | succ f ih =>
    intro i o ho h
    simp only [depB, ho] at h
    obtain ⟨e, he, h⟩ := List.any_eq_true.1 h
    simp only [Bool.and_eq_true, Bool.or_eq_true, beq_iff_eq] at h
    obtain ⟨hb, h⟩ := h
    refine ⟨e, by simpa using he, hb, ?_⟩
    rcases h with rfl | h
    · exact hj
    · by_cases hon : e.on ∈ rem
      · exact hon
      · exfalso
        cases heo : ops[e.on]? with
        | none =>
          cases f with
          | zero => cases h
          | succ f => simp [depB, heo] at h
        | some oe =>
          obtain ⟨e', he', hb', hun⟩ := ih e.on oe heo h
          exact hcl e.on oe heo hon e' he' hb' hun
theorem ready_not_dep {rem : List Nat} (hcl : ClosedR md ops rem) {i j : Nat} (hj : j ∈ rem) (hr : readyB md ops rem i = true) : depB md ops ops.size i j = false := by
  cases hd : depB md ops ops.size i j with
  | false => rfl
  | true =>
    unfold readyB at hr
    split at hr
    · rename_i o ho
      obtain ⟨e, he, hb, hm⟩ := dep_left hcl hj ops.size i o ho hd
      have := List.all_eq_true.1 hr e (by simpa using he)
      simp [hb, hm] at this
    · cases hr
theorem ready_sub {rem rem' : List Nat} {i : Nat} (h : readyB md ops rem i = true) (hs : ∀ x ∈ rem', x ∈ rem) : readyB md ops rem' i = true := by
  unfold readyB at h ⊢
  split at h
  · refine List.all_eq_true.2 fun e he => ?_
    have := List.all_eq_true.1 h e he
    simp only [Bool.or_eq_true, Bool.and_eq_true, Bool.not_eq_true', List.contains_eq_mem, decide_eq_false_iff_not] at this ⊢
    rcases this with h1 | ⟨h1, h2⟩
    · exact .inl h1
    · exact .inr ⟨h1, fun hm => h2 (hs _ hm)⟩
  · cases h
theorem closed_erase {rem : List Nat} (hnd : rem.Nodup) (hcl : ClosedR md ops rem) {i : Nat} (hr : readyB md ops rem i = true) : ClosedR md ops (rem.erase i) := by
  intro x o hx hnot e he hb hm
  have hm' := List.mem_of_mem_erase hm
  by_cases hxi : x = i
  · subst hxi
    unfold readyB at hr
    rw [hx] at hr
    have := List.all_eq_true.1 hr e (by simpa using he)
    simp [hb, hm'] at this
  · exact hcl x o hx (fun h => hnot ((List.mem_erase_of_ne hxi).2 h)) e he hb hm'
theorem MixT.pull {tails : List Nat} {D : World → Prop} {K : Act → World → Prop} {i : Nat} {oi : Oper} (hi : ops[i]? = some oi) :
    ∀ (f : Nat) (rem : List Nat) (a : Act) (C : World → Prop), rem.Nodup → ClosedR md ops rem → Stable C → (∀ w, C w → D w) → i ∈ rem → readyB md ops rem i = true → MixT P md ops tails D K (f + 1) rem a C →
      ∀ w, C w → opw P ops oi a w (fun a' w' => ∃ C', Stable C' ∧ C' w' ∧ ((∀ w, C' w → C w) ∨ tails.contains i = true) ∧ (∀ w, C' w → D w) ∧ MixT P md ops tails D K f (rem.erase i) a' C') := by
  intro f
  induction f with
  | zero =>
    intro rem a C hnd hcl hst hCD him hr h w hw
    rcases h with ⟨free, j, o, v, ho, hj, hq, hv, hm⟩ | ⟨_, hb⟩
    · have hij : i = j := by
        have := hm.1
        by_cases hij : i = j
        · exact hij
        · have := (List.mem_erase_of_ne hij).2 him
          rw [hm.1] at this; cases this
      subst hij
      have : o = oi := Option.some.inj (ho.symm.trans hi)
      subst this
      rcases hv with ⟨hwt, hq⟩ | ⟨hwt, rfl⟩
      · rcases hq w (by cases free; exact hw; exact hCD w hw) with hy | ⟨f, args, hc, hr⟩
        · exact opw_val hwt hy ⟨C, hst, hw, .inl (fun _ h => h), hCD, hm⟩
        · refine opw_is hwt hc ?_
          exact Calls.mono hr fun e w' ⟨u, he, hu, hx⟩ => ⟨u, he, C, hst, hst _ _ hw hx, .inl (fun _ h => h), hCD, by subst hu; exact hm⟩
      · exact opw_un hwt ⟨C, hst, hw, .inl (fun _ h => h), hCD, hm⟩
    · obtain ⟨o, ho, h⟩ := hb i him hr
      have : o = oi := Option.some.inj (ho.symm.trans hi)
      subst this
      exact h w hw
  | succ f ih =>
    intro rem a C hnd hcl hst hCD him hr h w hw
    rcases h with ⟨free, j, o, v, ho, hj, hq, hv, hm⟩ | ⟨_, hb⟩
    · by_cases hij : i = j
      · subst hij
        have : o = oi := Option.some.inj (ho.symm.trans hi)
        subst this
        rcases hv with ⟨hwt, hq⟩ | ⟨hwt, rfl⟩
        · rcases hq w (by cases free; exact hw; exact hCD w hw) with hy | ⟨f, args, hc, hr⟩
          · exact opw_val hwt hy ⟨C, hst, hw, .inl (fun _ h => h), hCD, hm⟩
          · refine opw_is hwt hc ?_
            exact Calls.mono hr fun e w' ⟨u, he, hu, hx⟩ => ⟨u, he, C, hst, hst _ _ hw hx, .inl (fun _ h => h), hCD, by subst hu; exact hm⟩
        · exact opw_un hwt ⟨C, hst, hw, .inl (fun _ h => h), hCD, hm⟩
      · have hd := ready_not_dep hcl hj hr
        simp only [Bool.and_eq_true] at hq
        obtain ⟨hjr, hq⟩ := hq
        have hq' := List.all_eq_true.1 hq i him
        simp only [hd, Bool.or_false, Bool.or_eq_true, beq_iff_eq, hij, false_or, Bool.and_eq_true] at hq'
        obtain ⟨hnt, hap⟩ := hq'
        rw [ho, hi] at hap
        simp only [Bool.and_eq_true] at hap
        obtain ⟨⟨hap, hs1⟩, hs2⟩ := hap
        have hsi : ∀ cs b, oi.op ≠ .select cs b := fun cs b e => by simp [noSel, e] at hs2
        have hsj : ∀ cs b, o.op ≠ .select cs b := fun cs b e => by simp [noSel, e] at hs1
        obtain ⟨h1, h2, h3⟩ := Oper.apart_spec hap
        have him' : i ∈ rem.erase j := (List.mem_erase_of_ne hij).2 him
        have hjm' : j ∈ rem.erase i := (List.mem_erase_of_ne (Ne.symm hij)).2 hj
        have hp := ih (rem.erase j) (a.put o.dst v) C (hnd.erase j) (closed_erase hnd hcl hjr) hst hCD him' (ready_sub hr (fun x hx => List.mem_of_mem_erase hx)) hm w hw
        refine opw_mono (opw_put hap hsi hp) ?_
        rintro a' w' ⟨⟨u, rfl⟩, C', hst', hw', hsub, hCD', hm'⟩
        have hsub' : free = false → ∀ w, C' w → C w := fun hf => hsub.elim id (fun h => by subst hf; simp at hnt; simp [hnt] at h)
        refine ⟨C', hst', hw', hsub, hCD', .inl ⟨free, j, o, v, ho, hjm', ?_, ?_, ?_⟩⟩
        · rw [Bool.and_eq_true]; exact ⟨ready_sub hjr (fun x hx => List.mem_of_mem_erase hx), quietOK_sub hq (fun x hx => List.mem_of_mem_erase hx)⟩
        · rw [wanted_put o a oi.dst u h3]
          rcases hv with ⟨hwt, hqv⟩ | ⟨hwt, rfl⟩
          · refine .inl ⟨hwt, fun w1 hw1 => ?_⟩
            have := hqv w1 (by cases free; exact hsub' rfl w1 hw1; exact hw1)
            unfold Yld CallOp at *
            rwa [execOp_put o hsj a oi.dst u h3]
          · exact .inr ⟨hwt, rfl⟩
        · rw [List.erase_comm]; exact hm'
    · obtain ⟨o, ho, h⟩ := hb i him hr
      have : o = oi := Option.some.inj (ho.symm.trans hi)
      subst this
      exact h w hw
theorem mixT_any {tails : List Nat} {D : World → Prop} {K : Act → World → Prop} {Q' : Exit → Act → World → Prop} (hQ : ∀ a w, K a w → Q' .normal a w) :
    ∀ (fuel : Nat) (rem : List Nat) (listed : Array Bool) (a : Act) (C : World → Prop), Stable C → (∀ w, C w → D w) → rem.Nodup → listed.size = ops.size → ClosedR md ops rem →
      (∀ i, i < ops.size → (listed.getD i true = false ↔ i ∈ rem)) → (∀ i ∈ rem, i < ops.size) → rem.length = fuel → MixT P md ops tails D K fuel rem a C → ∀ w, C w → wpAnyIn (FR r) 0 P md ops Q' fuel listed a w := by
  intro fuel
  induction fuel with
  | zero =>
    intro rem listed a C hst hCD hnd hsz hcl hmem hlt hlen hm w hw
    obtain ⟨rfl, hm⟩ := hm
    refine ⟨?_, hQ _ _ (hm w hw)⟩
    cases hr : Region.ready md ops listed with
    | nil => rfl
    | cons x xs =>
      exfalso
      have hx : x ∈ Region.ready md ops listed := by rw [hr]; simp
      obtain ⟨h0, o, ho, _⟩ := mem_ready.1 hx
      have := (hmem x (Array.getElem?_eq_some_iff.1 ho).1).1 h0
      cases this
  | succ fuel ih =>
    intro rem listed a C hst hCD hnd hsz hcl hmem hlt hlen hm w hw
    have hready : ∀ i, i ∈ Region.ready md ops listed ↔ (i ∈ rem ∧ readyB md ops rem i = true) := by
      intro i
      rw [mem_ready]
      constructor
      · rintro ⟨h0, o, ho, hall⟩
        have hi := (Array.getElem?_eq_some_iff.1 ho).1
        refine ⟨(hmem i hi).1 h0, ?_⟩
        unfold readyB; rw [ho]
        refine List.all_eq_true.2 fun e he => ?_
        cases hb : Region.binds md e with
        | false => simp
        | true =>
          have hl := hall e (by simpa using he) hb
          have hlt' : e.on < listed.size := by
            rcases Nat.lt_or_ge e.on listed.size with h' | h'
            · exact h'
            · simp [Array.getElem?_eq_none h'] at hl
          have : ¬ e.on ∈ rem := fun hm => by
            have := (hmem e.on (by omega)).2 hm
            simp [hlt'] at this hl; rw [hl] at this; cases this
          simp [this]; omega
      · rintro ⟨hi, hr⟩
        refine ⟨(hmem i (hlt i hi)).2 hi, ?_⟩
        unfold readyB at hr
        split at hr
        · rename_i o ho
          refine ⟨o, ho, fun e he hb => ?_⟩
          have := List.all_eq_true.1 hr e (by simpa using he)
          rw [hb] at this
          simp only [Bool.not_true, Bool.false_or, Bool.and_eq_true, decide_eq_true_eq, Bool.not_eq_true', List.contains_eq_mem, decide_eq_false_iff_not] at this
          have h8 : ¬ listed.getD e.on true = false := fun hf => this.2 ((hmem e.on this.1).1 hf)
          have : e.on < listed.size := by omega
          simp [this] at h8 ⊢; exact h8
        · cases hr
    refine ⟨fun hr => ?_, fun i hi => ?_⟩
    · exfalso
      have : ∃ i ∈ rem, readyB md ops rem i = true := by
        rcases hm with ⟨free, j, o, v, ho, hj, hq, _⟩ | ⟨hany, _⟩
        · simp only [Bool.and_eq_true] at hq; exact ⟨j, hj, hq.1⟩
        · obtain ⟨i, hi, h⟩ := List.any_eq_true.1 hany; exact ⟨i, hi, h⟩
      obtain ⟨i, hi⟩ := this
      have := (hready i).2 hi
      rw [hr] at this; cases this
    · obtain ⟨him, hir⟩ := (hready i).1 hi
      obtain ⟨_, oi, hoi, hall⟩ := mem_ready.1 hi
      have hp := MixT.pull (P := P) (md := md) (tails := tails) (D := D) (K := K) hoi fuel rem a C hnd hcl hst hCD him hir hm w hw
      have h2 := opw_mono (K' := fun a' w' => wpAnyIn (FR r) 0 P md ops Q' fuel (listed.setIfInBounds i true) a' w') hp (fun a' w' ⟨C', hst', hw', _, hCD', hm'⟩ => by
        have hil : i < listed.size := by have := hlt i him; omega
        refine ih (rem.erase i) _ a' C' hst' hCD' (hnd.erase i) (by simp [hsz]) (closed_erase hnd hcl hir) ?_ (fun x hx => hlt x (List.mem_of_mem_erase hx)) (by rw [List.length_erase_of_mem him, hlen]; rfl) hm' w' hw'
        intro x hx
        by_cases hxi : i = x
        · subst hxi
          constructor
          · intro h; simp [hil] at h
          · intro h; exact absurd h (fun h => by have := hnd.not_mem_erase (a := i); exact this h)
        · rw [getD_set_ne true hxi, hmem x hx, List.mem_erase_of_ne (Ne.symm hxi)])
      unfold wpOpIn
      rw [hoi]
      exact opw_op h2
variable {ro : List Atom} {n : Sz} {d : Nat} {fl : Slots} {a : Act} {w0 : World} {M : Nat → Prop} {l : List Atom} {o : Oper} {v : Value} {K : Act → World → Prop} {f i : Nat} {rem : List Nat}
theorem t_st (ro : List Atom) [ROs ro] [HasRO l ro] {id : Nat} {w : World} (hm : P.follows .mixedOrders = true) (H : HSat M w0 l w) (h : MixT P .any ops tails (RO ro) (Q .normal) ops.size (List.range ops.size) a (HSat M w0 l)) : gp r P (Code.region id ops true) Q a w := by
  refine wpIn_region_any hm ?_
  have H' : HSat M w0 l { w with drawn := w.drawn + 1 } := H.ext (Ext.drawn w _)
  refine mixT_any (fun _ _ h => h) ops.size (List.range ops.size) _ a _ stable_hsat (RO.of ROs.all) List.nodup_range (by simp) ?_ ?_ (by simp) (by simp) h _ H'
  · intro i o hi hn
    exact absurd (List.mem_range.2 (Array.getElem?_eq_some_iff.1 hi).1) hn
  · intro i hi; simp [hi]
theorem t_q {rem' : List Nat} (i : Nat) (hi : ops[i]? = some o) (hm : (rem.contains i && (readyB .any ops rem i && quietOK .any ops tails rem i)) = true) (hr : rem.erase i = rem') (hg : o.guard = none) (hd : o.dst = some d) (hn : Nat.blt d n.n = true) (S : St n fl a) (hy : ∀ w, HSat M w0 l w → Yld P o a w v)
    (k : ∀ a', St n ((d, v) :: fl) a' → MixT P .any ops tails (RO ro) K f rem' a' (HSat M w0 l)) : MixT P .any ops tails (RO ro) K (f + 1) rem a (HSat M w0 l) := by
  rw [Bool.and_eq_true] at hm
  refine .inl ⟨false, i, o, v, hi, by simpa using hm.1, hm.2, .inl ⟨wn hg, fun w h => .inl (hy w h)⟩, ?_⟩
  rw [hd, hr]; exact k _ (S.put hn v)
/-- a quiet operation that does not look at memory -/
theorem t_p {rem' : List Nat} (i : Nat) (hi : ops[i]? = some o) (hm : (rem.contains i && (readyB .any ops rem i && quietOK .any ops [] rem i)) = true) (hr : rem.erase i = rem') (hg : o.guard = none) (hd : o.dst = some d) (hn : Nat.blt d n.n = true) (S : St n fl a) (hy : ∀ w, Yld P o a w v)
    (k : ∀ a', St n ((d, v) :: fl) a' → MixT P .any ops tails (RO ro) K f rem' a' (HSat M w0 l)) : MixT P .any ops tails (RO ro) K (f + 1) rem a (HSat M w0 l) := by
  rw [Bool.and_eq_true] at hm
  refine .inl ⟨true, i, o, v, hi, by simpa using hm.1, hm.2, .inl ⟨wn hg, fun w _ => .inl (hy w)⟩, ?_⟩
  rw [hd, hr]; exact k _ (S.put hn v)
/-- a quiet operation that looks only at atoms that nothing of the region turns -/
theorem t_f {rem' : List Nat} (i : Nat) (hi : ops[i]? = some o) (hm : (rem.contains i && (readyB .any ops rem i && quietOK .any ops [] rem i)) = true) (hr : rem.erase i = rem') (hg : o.guard = none) (hd : o.dst = some d) (hn : Nat.blt d n.n = true) (S : St n fl a) (hy : ∀ w, HSat (fun _ => True) w ro w → Yld P o a w v)
    (k : ∀ a', St n ((d, v) :: fl) a' → MixT P .any ops tails (RO ro) K f rem' a' (HSat M w0 l)) : MixT P .any ops tails (RO ro) K (f + 1) rem a (HSat M w0 l) := by
  rw [Bool.and_eq_true] at hm
  refine .inl ⟨true, i, o, v, hi, by simpa using hm.1, hm.2, .inl ⟨wn hg, fun w h => .inl (hy w (RO.sat h))⟩, ?_⟩
  rw [hd, hr]; exact k _ (S.put hn v)
/-- a branch: rs may come up -/
theorem t_b (rs : List Nat) (hrs : rem.filter (readyB .any ops rem) = rs) (hne : rs.isEmpty = false)
    (h : ∀ i ∈ rs, ∃ o, ops[i]? = some o ∧ ∀ w, HSat M w0 l w → opw P ops o a w (fun a' w' => ∃ C', Stable C' ∧ C' w' ∧ ((∀ w, C' w → HSat M w0 l w) ∨ tails.contains i = true) ∧ (∀ w, C' w → RO ro w) ∧ MixT P .any ops tails (RO ro) K f (rem.erase i) a' C')) : MixT P .any ops tails (RO ro) K (f + 1) rem a (HSat M w0 l) := by
  subst hrs
  refine .inr ⟨?_, fun i hi hr => h i (List.mem_filter.2 ⟨hi, hr⟩)⟩
  cases hf : rem.filter (readyB .any ops rem) with
  | nil => rw [hf] at hne; cases hne
  | cons x xs =>
    have : x ∈ rem.filter (readyB .any ops rem) := by rw [hf]; simp
    obtain ⟨h1, h2⟩ := List.mem_filter.1 this
    exact List.any_eq_true.2 ⟨x, h1, h2⟩
theorem t_next [ROs ro] {a' : Act} {w' : World} {l' : List Atom} {rem' : List Nat} [HasRO l' ro] (H : HSat M w0 l' w') (hs : l.Sublist l') (hr : rem.erase i = rem') (h : MixT P .any ops tails (RO ro) K f rem' a' (HSat M w0 l')) :
    ∃ C', Stable C' ∧ C' w' ∧ ((∀ w, C' w → HSat M w0 l w) ∨ tails.contains i = true) ∧ (∀ w, C' w → RO ro w) ∧ MixT P .any ops tails (RO ro) K f (rem.erase i) a' C' :=
  ⟨_, stable_hsat, H, .inl (fun w h => h.sub hs), RO.of ROs.all, hr ▸ h⟩
theorem t_tail [ROs ro] {a' : Act} {w' : World} {l' : List Atom} {rem' : List Nat} [HasRO l' ro] (H : HSat M w0 l' w') (ht : tails.contains i = true) (hr : rem.erase i = rem') (h : MixT P .any ops tails (RO ro) K f rem' a' (HSat M w0 l')) :
    ∃ C', Stable C' ∧ C' w' ∧ ((∀ w, C' w → HSat M w0 l w) ∨ tails.contains i = true) ∧ (∀ w, C' w → RO ro w) ∧ MixT P .any ops tails (RO ro) K f (rem.erase i) a' C' :=
  ⟨_, stable_hsat, H, .inr ht, RO.of ROs.all, hr ▸ h⟩
theorem t_nil (h : ∀ w, HSat M w0 l w → K a w) : MixT P .any ops tails (RO ro) K 0 [] a (HSat M w0 l) := ⟨rfl, h⟩
end
end Go.Gd
end
section
namespace Go.Gd
set_option linter.unusedVariables false
set_option linter.unusedSimpArgs false
/-- v is a slice whose elements read as xs, each in sz cells by enc -/
structure IsSl (w : World) (v : Value) (sz : Nat) {α : Type} (enc : α → List Value) (xs : List α) : Prop where
  len : xs.length ≤ 9223372036854775807
  shape : ∃ p c, v = .slice p xs.length c
  sizes : ∀ x ∈ xs, (enc x).length = sz
  cells : ∀ i (h : i < xs.length), ∃ b off c, v = .slice (some ⟨b, off, none⟩) xs.length c ∧ ∀ j u, (enc xs[i])[j]? = some u → w.cell? ⟨b, off + i * sz + j, none⟩ = some u
/-- the address of element i -/
def elemAddr (v : Value) (i sz : Nat) : Addr := match v with
  | .slice (some a) _ _ => a.add (i * sz)
  | _ => ⟨0, 0, none⟩
/-- a slice that is read alone -/
def Sl (v : Value) (sz : Nat) {α : Type} (enc : α → List Value) (xs : List α) : Atom where
  own := false
  fp := fun k => v.ownBlock = some k ∧ 0 < sz ∧ xs ≠ []
  ok := fun w => IsSl w v sz enc xs
  loc := fun w w' h hok => ⟨hok.len, hok.shape, hok.sizes, fun i hi => by
    obtain ⟨b, off, c, hv, hc⟩ := hok.cells i hi
    refine ⟨b, off, c, hv, fun j u hu => ?_⟩
    have h1 := (List.getElem?_eq_some_iff.1 hu).1
    have h2 := hok.sizes _ (List.getElem_mem hi)
    have hb := h b ⟨by rw [hv]; rfl, by omega, by rintro rfl; simp at hi⟩
    exact (World.cell?_of_block (w := w) hb).trans (hc j u hu)⟩
  lt := fun w b hok hfp => by
    obtain ⟨h1, h2, h3⟩ := hfp
    have hi : 0 < xs.length := List.length_pos_iff.2 h3
    obtain ⟨b', off, c, hv, hc⟩ := hok.cells 0 hi
    have hs := hok.sizes _ (List.getElem_mem hi)
    rw [hv] at h1
    simp only [Value.ownBlock, Option.some.injEq] at h1
    subst h1
    exact World.block_lt_of_cell? w _ (hc 0 _ (List.getElem?_eq_getElem (by omega)))
instance ROs.sl (v : Value) (sz : Nat) (α : Type) (enc : α → List Value) (xs : List α) (r : List Atom) [h : ROs r] : ROs (Sl v sz enc xs :: r) := ⟨by simpa [Sl] using h.all⟩
class HasSl (l : List Atom) (v : Value) (sz : outParam Nat) (α : outParam Type) (enc : outParam (α → List Value)) (xs : outParam (List α)) : Prop where
  at_ : ∀ w, (∀ x ∈ l, x.ok w) → IsSl w v sz enc xs
instance (priority := 2000) HasSl.here (l : List Atom) (v : Value) (sz : Nat) (α : Type) (enc : α → List Value) (xs : List α) : HasSl (Sl v sz enc xs :: l) v sz α enc xs := ⟨fun w h => h (Sl v sz enc xs) (List.mem_cons_self ..)⟩
instance (priority := 2000) HasSl.hereRo (l : List Atom) (v : Value) (sz : Nat) (α : Type) (enc : α → List Value) (xs : List α) : HasSl (Atom.ro (Sl v sz enc xs) :: l) v sz α enc xs := ⟨fun w h => h (Atom.ro (Sl v sz enc xs)) (List.mem_cons_self ..)⟩
instance HasSl.there (l : List Atom) (x : Atom) (v : Value) (sz : Nat) (α : Type) (enc : α → List Value) (xs : List α) [h : HasSl l v sz α enc xs] : HasSl (x :: l) v sz α enc xs := ⟨fun w hw => h.at_ w (fun y hy => hw y (List.mem_cons_of_mem _ hy))⟩
section
variable {P : Program} {o : Oper} {n : Sz} {fl : Slots} {a : Act} {w w0 : World} {v : Value} {M : Nat → Prop} {l : List Atom}
theorem HSat.sl (H : HSat M w0 l w) (v : Value) {sz : Nat} {α : Type} {enc : α → List Value} {xs : List α} [h : HasSl l v sz α enc xs] : IsSl w v sz enc xs := h.at_ w H.ok
theorem y_lens {x : Operand} {T E : TypeId} (ho : o.op = .call { callee := .builtin .len, args := #[x], argTypes := #[T] }) (hT : P.underlying T = some (.slice E)) (S : St n fl a) (H : HSat M w0 l w) (hx : ev fl x = some v) {sz : Nat} {α : Type} {enc : α → List Value} {xs : List α} [h : HasSl l v sz α enc xs] : Yld P o a w (.int .i64 (xs.length : Int)) := by
  obtain ⟨p, c, hv⟩ := (H.sl v (h := h)).shape
  rw [hv] at hx
  exact y_len ho hT S hx
theorem y_iaddrs {T E : TypeId} {x ix : Operand} {i : Int} {k : IntKind} {sz : Nat} {α : Type} {enc : α → List Value} {xs : List α} (ho : o.op = .indexAddr T x ix) (hT : P.underlying T = some (.slice E)) (hE : sizeB P E sz = true) (S : St n fl a) (H : HSat M w0 l w)
    (hx : ev fl x = some v) (hi : ev fl ix = some (.int k i)) [h : HasSl l v sz α enc xs] (hb : 0 ≤ i ∧ i < xs.length) : Yld P o a w (.pointer (some (elemAddr v i.toNat sz))) := by
  obtain ⟨b, off, c, hv, _⟩ := (H.sl v (h := h)).cells i.toNat (by omega)
  have hx' := hx
  rw [hv] at hx'
  have := y_iaddr (P := P) (w := w) ho hT hE S hx' hi hb
  rw [hv]
  simpa [elemAddr, add_plain] using this
/-- a load of a whole element: one cell -/
theorem y_loads {T : TypeId} {x : Operand} {i sz : Nat} {α : Type} {enc : α → List Value} {xs : List α} {u : Value} (v : Value) (ho : o.op = .load T x) (hT : scalarB P T = true) (S : St n fl a) (H : HSat M w0 l w)
    (hx : ev fl x = some (.pointer (some (elemAddr v i sz)))) [h : HasSl l v sz α enc xs] (hi : i < xs.length) (hu : (enc xs[i])[0]? = some u) : Yld P o a w u := by
  obtain ⟨b, off, c, hv, hc⟩ := (H.sl v (h := h)).cells i hi
  refine y_load_at ho S hx (run_loadVar_scalar hT ?_)
  have := hc 0 u hu
  rw [hv]; simpa [elemAddr, add_plain] using this
/-- of a field of an element -/
theorem y_loadsf {T : TypeId} {x : Operand} {i sz k : Nat} {α : Type} {enc : α → List Value} {xs : List α} {u : Value} (v : Value) (ho : o.op = .load T x) (hT : scalarB P T = true) (S : St n fl a) (H : HSat M w0 l w)
    (hx : ev fl x = some (.pointer (some ((elemAddr v i sz).add k)))) [h : HasSl l v sz α enc xs] (hi : i < xs.length) (hu : (enc xs[i])[k]? = some u) : Yld P o a w u := by
  obtain ⟨b, off, c, hv, hc⟩ := (H.sl v (h := h)).cells i hi
  refine y_load_at ho S hx (run_loadVar_scalar hT ?_)
  have := hc k u hu
  rw [hv]; simpa [elemAddr, add_plain] using this
/-- of a field of a field of an element -/
theorem y_loadsff {T : TypeId} {x : Operand} {i sz k j : Nat} {α : Type} {enc : α → List Value} {xs : List α} {u : Value} (v : Value) (ho : o.op = .load T x) (hT : scalarB P T = true) (S : St n fl a) (H : HSat M w0 l w)
    (hx : ev fl x = some (.pointer (some (((elemAddr v i sz).add j).add k)))) [h : HasSl l v sz α enc xs] (hi : i < xs.length) (hu : (enc xs[i])[j + k]? = some u) : Yld P o a w u := by
  obtain ⟨b, off, c, hv, hc⟩ := (H.sl v (h := h)).cells i hi
  refine y_load_at ho S hx (run_loadVar_scalar hT ?_)
  have := hc (j + k) u hu
  rw [hv]; simpa [elemAddr, add_plain, Nat.add_assoc] using this
/-- of a whole element: a struct -/
theorem y_loadsa {T : TypeId} {x : Operand} {i sz : Nat} {α : Type} {enc : α → List Value} {xs : List α} (v : Value) (ho : o.op = .load T x) (S : St n fl a) (H : HSat M w0 l w)
    (hx : ev fl x = some (.pointer (some (elemAddr v i sz)))) [h : HasSl l v sz α enc xs] (hT : aggB P T sz = true) (hi : i < xs.length) : Yld P o a w (.agg (enc xs[i]).toArray) := by
  obtain ⟨b, off, c, hv, hc⟩ := (H.sl v (h := h)).cells i hi
  have hs := (H.sl v (h := h)).sizes _ (List.getElem_mem hi)
  refine y_load_at ho S hx (run_loadVar_agg (by rw [hs]; exact hT) (fun j u hu => ?_))
  have := hc j u hu
  rw [hv]; simpa [elemAddr, add_plain] using this
end
end Go.Gd
end
section
namespace Go.Gd
set_option linter.unusedVariables false
set_option linter.unusedSimpArgs false
section
variable {P : Program} {o : Oper} {n : Sz} {fl : Slots} {a : Act} {w w0 : World} {v : Value} {M : Nat → Prop} {l : List Atom}
/-- a type's zero cells, and where its parts lie -/
def buildB (P : Program) (T : TypeId) : Option (List Value × List (Nat × Nat)) :=
  match P.info? T, P.underlying T with
  | some it, some (.array k e) => match it.zero, P.info? e with
    | some z, some ie => some (z.cells.toList, (List.range k).map fun i => (i * ie.size, ie.size))
    | _, _ => none
  | some it, some (.struct fields) =>
    match it.zero, fields.toList.mapM (fun f => (P.info? f.type).map fun i => (f.offset, i.size)) with
    | some z, some places => some (z.cells.toList, places)
    | _, _ => none
  | _, _ => none
theorem fill_mono {p q : Nat → Option (Nat × Nat)} (h : ∀ i x, p i = some x → q i = some x) : ∀ (parts : List (Nat × Value)) (cs cs' : Array Value), Instr.fill p cs parts = some cs' → Instr.fill q cs parts = some cs'
  | [], _, _, hf => hf
  | (i, v) :: r, cs, cs', hf => by
    simp only [Instr.fill] at hf ⊢
    cases hp : p i with
    | none => rw [hp] at hf; cases hf
    | some x =>
      rw [hp] at hf
      rw [h i x hp]
      obtain ⟨off, size⟩ := x
      simp only at hf ⊢
      split at hf
      · cases hf
      · rename_i hc
        rw [if_neg hc]
        exact fill_mono h r _ _ hf
theorem built_of {T : TypeId} {z : List Value} {places : List (Nat × Nat)} {parts : List (Nat × Value)} {cs : List Value} (hB : buildB P T = some (z, places)) (hf : Instr.fill (fun i => places[i]?) z.toArray parts = some cs.toArray) : P.built T parts = some cs.toArray := by
  unfold buildB at hB
  unfold Program.built
  split at hB
  · rename_i it k e h1 h2
    rw [h1, h2]
    split at hB
    · rename_i z' ie hz hi
      cases hB
      dsimp only
      rw [hz, hi]
      dsimp only
      refine fill_mono (p := fun i => ((List.range k).map fun i => (i * ie.size, ie.size))[i]?) (fun i x hx => ?_) parts _ _ (by simpa using hf)
      simp only [List.getElem?_map] at hx
      cases hr : (List.range k)[i]? with
      | none => rw [hr] at hx; cases hx
      | some j =>
        rw [hr] at hx
        have : j = i := by
          have := List.getElem?_eq_some_iff.1 hr
          obtain ⟨_, h⟩ := this
          simpa using h.symm
        subst this
        simpa using hx
    · cases hB
  · rename_i it fields h1 h2
    rw [h1, h2]
    split at hB
    · rename_i z' places' hz hp
      cases hB
      dsimp only
      rw [hz, hp]
      dsimp only
      simpa using hf
    · cases hB
  · cases hB
theorem parts_of (S : St n fl a) {parts : List (Nat × Operand)} {idx : List Nat} {vs : List Value} (hi : parts.map (·.1) = idx) (hv : Gd.evs fl (parts.map (·.2)) = some vs) : parts.map (fun p => (p.1, a.eval p.2)) = idx.zip vs := by
  have h := S.evs hv
  subst hi
  rw [← h]
  clear h hv
  induction parts with
  | nil => rfl
  | cons p r ih => simp [ih]
theorem y_buildf {T : TypeId} {parts : Array (Nat × Operand)} {z vs cs : List Value} {places : List (Nat × Nat)} {idx : List Nat} (ho : o.op = .build T parts) (hB : buildB P T = some (z, places)) (S : St n fl a) (hi : parts.toList.map (·.1) = idx) (hv : evs fl (parts.toList.map (·.2)) = some vs)
    (hf : Instr.fill (fun i => places[i]?) z.toArray (idx.zip vs) = some cs.toArray) : Yld P o a w (.agg cs.toArray) := by
  unfold Yld execOp; rw [ho]
  have h := parts_of S hi hv
  have hb := built_of (P := P) (T := T) hB hf
  have hb' : P.built T (parts.map fun (i, x) => (i, a.eval x)).toList = some cs.toArray := by
    rw [← hb, ← h]; simp
  simp [run_build (P := P) w T _ _ hb']
theorem y_iaddrn {T E : TypeId} {x ix : Operand} {i : Nat} {k : IntKind} {sz : Nat} {α : Type} {enc : α → List Value} {xs : List α} (ho : o.op = .indexAddr T x ix) (hT : P.underlying T = some (.slice E)) (hE : sizeB P E sz = true) (S : St n fl a) (H : HSat M w0 l w)
    (hx : ev fl x = some v) (hi : ev fl ix = some (.int k (i : Int))) [h : HasSl l v sz α enc xs] (hb : i < xs.length) : Yld P o a w (.pointer (some (elemAddr v i sz))) := by
  have := y_iaddrs (P := P) (w := w) ho hT hE S H hx hi (h := h) (by omega)
  simpa using this
theorem y_conv {T D : TypeId} {x : Operand} {k k' : IntKind} {m : Int} (ho : o.op = .convert T D x) (hT : P.underlying T = some (.int k)) (hD : P.underlying D = some (.int .i64)) (S : St n fl a) (hx : ev fl x = some (.int k' m)) (hb : -9223372036854775808 ≤ m ∧ m ≤ 9223372036854775807) : Yld P o a w (.int .i64 m) := by
  unfold Yld execOp; rw [ho]; simp [S.ev hx, convert, run_underlying hT, run_underlying hD, Conv.intToInt, wrap_in hb.1 hb.2]
theorem y_nilCheck {x : Operand} {p : Addr} (ho : o.op = .nilCheck x) (S : St n fl a) (hx : ev fl x = some (.pointer (some p))) : Yld P o a w (.pointer (some p)) := by
  unfold Yld execOp; rw [ho]; simp [S.ev hx]
variable {r : Option Nat} {ops : Array Oper} {Q : Exit → Act → World → Prop} {d : Nat} {K : Act → World → Prop}
theorem op_box1 (hw : Region.wanted o (yielded ops a.tmps) = true) (hd : o.dst = some d) (hn : Nat.blt d n.n = true) {T : TypeId} {x : Operand} (ho : o.op = .box T x) (S : St n fl a) (H : HSat M w0 l w) (hx : ev fl x = some v) (hcs : v.cells.toList = [v])
    (k : ∀ b a' w', St n ((d, .pointer (some ⟨b, 0, none⟩)) :: fl) a' → HSat M w0 (Cel b T [v] :: l) w' → K a' w') : opw P ops o a w K := op_box hw hd hn ho S H hx hcs k
theorem op_boxa (hw : Region.wanted o (yielded ops a.tmps) = true) (hd : o.dst = some d) (hn : Nat.blt d n.n = true) {T : TypeId} {x : Operand} {cs : List Value} (ho : o.op = .box T x) (S : St n fl a) (H : HSat M w0 l w) (hx : ev fl x = some (.agg cs.toArray))
    (k : ∀ b a' w', St n ((d, .pointer (some ⟨b, 0, none⟩)) :: fl) a' → HSat M w0 (Cel b T cs :: l) w' → K a' w') : opw P ops o a w K := op_box hw hd hn ho S H hx (by simp [Value.cells]) k
theorem loop_k {X : Type} {c : Code} {flU : Slots} (SU : St n flU a) (mods : X → Slots) (inv : X → Prop) (μ : X → Nat) (x0 : X) (S0 : St n (mods x0) a) (H0 : HSat M w0 l w) (h0 : inv x0)
    (body : ∀ x a w, St n (mods x ++ flU) a → HSat M w0 l w → inv x →
      gp r P c (Exit.then (fun a' w' => ∃ y, St n (mods y) a' ∧ St n flU a' ∧ HSat M w0 l w' ∧ inv y ∧ μ y < μ x) Q) a w) : gp r P (Code.loop c) Q a w :=
  loop SU mods (fun _ => l) inv μ x0 S0 H0 h0 body
theorem results_tmp3 {fn : Func} {t u s : Tmp} (h : fn.results = #[.tmp t, .tmp u, .tmp s]) (tmps : Array Value) (P : Program) (w : World) :
    (results fn tmps).run P w = .ok (.tuple #[tmps.getD t undef, tmps.getD u undef, tmps.getD s undef]) w := by
  simp [results, h]
theorem ret3 {fn : Func} {R : Value → World → Prop} {t u s : Nat} {v' v'' : Value} (hr : fn.results = #[.tmp t, .tmp u, .tmp s]) (S : St n fl a) (hv : fl.lookup t = some v) (hv' : fl.lookup u = some v') (hv'' : fl.lookup s = some v'') (h : R (.tuple #[v, v', v'']) w) (hds : n.ds = [] := by rfl) : endP P fn R .ret a w :=
  end_ret S hds (by rw [results_tmp3 hr, S.get t v hv, S.get u v' hv', S.get s v'' hv'']) h
end
section
variable {P : Program} {o : Oper} {n : Sz} {fl : Slots} {a : Act} {w0 : World} {M : Nat → Prop} {l : List Atom} {ops : Array Oper} {loud tails free rest rem rem' : List Nat} {ro : List Atom} {K : Act → World → Prop} {j d f : Nat}
theorem m_loads {T : TypeId} {x : Operand} {i sz : Nat} {α : Type} {enc : α → List Value} {xs : List α} {u : Value} (v : Value) (h1 : ops[j]? = some o) (h2 : (loud.contains j || free.contains j) = false) (h3 : Region.wanted o (yielded ops a.tmps) = true) (hd : o.dst = some d) (hn : Nat.blt d n.n = true) (S : St n fl a) (ho : o.op = .load T x) (hT : scalarB P T = true)
    (hx : ev fl x = some (.pointer (some (elemAddr v i sz)))) [h : HasSl l v sz α enc xs] (hi : i < xs.length) (hu : (enc xs[i])[0]? = some u) (k : ∀ a', St n ((d, u) :: fl) a' → Mix P ops loud tails free (RO ro) K rest a' (HSat M w0 l)) : Mix P ops loud tails free (RO ro) K (j :: rest) a (HSat M w0 l) :=
  m_w h1 h2 h3 hd hn S (fun w H => y_loads v ho hT S H hx hi hu) k
theorem m_loadsf {T : TypeId} {x : Operand} {i sz q : Nat} {α : Type} {enc : α → List Value} {xs : List α} {u : Value} (v : Value) (h1 : ops[j]? = some o) (h2 : (loud.contains j || free.contains j) = false) (h3 : Region.wanted o (yielded ops a.tmps) = true) (hd : o.dst = some d) (hn : Nat.blt d n.n = true) (S : St n fl a) (ho : o.op = .load T x) (hT : scalarB P T = true)
    (hx : ev fl x = some (.pointer (some ((elemAddr v i sz).add q)))) [h : HasSl l v sz α enc xs] (hi : i < xs.length) (hu : (enc xs[i])[q]? = some u) (k : ∀ a', St n ((d, u) :: fl) a' → Mix P ops loud tails free (RO ro) K rest a' (HSat M w0 l)) : Mix P ops loud tails free (RO ro) K (j :: rest) a (HSat M w0 l) :=
  m_w h1 h2 h3 hd hn S (fun w H => y_loadsf v ho hT S H hx hi hu) k
theorem m_loadsa {T : TypeId} {x : Operand} {i sz : Nat} {α : Type} {enc : α → List Value} {xs : List α} (v : Value) (h1 : ops[j]? = some o) (h2 : (loud.contains j || free.contains j) = false) (h3 : Region.wanted o (yielded ops a.tmps) = true) (hd : o.dst = some d) (hn : Nat.blt d n.n = true) (S : St n fl a) (ho : o.op = .load T x)
    (hx : ev fl x = some (.pointer (some (elemAddr v i sz)))) [h : HasSl l v sz α enc xs] (hT : aggB P T sz = true) (hi : i < xs.length) (k : ∀ a', St n ((d, .agg (enc xs[i]).toArray) :: fl) a' → Mix P ops loud tails free (RO ro) K rest a' (HSat M w0 l)) : Mix P ops loud tails free (RO ro) K (j :: rest) a (HSat M w0 l) :=
  m_w h1 h2 h3 hd hn S (fun w H => y_loadsa v ho S H hx hT hi) k
theorem m_floads {T : TypeId} {x : Operand} {i sz : Nat} {α : Type} {enc : α → List Value} {xs : List α} {u : Value} (v : Value) (h1 : ops[j]? = some o) (h2 : (!loud.contains j && free.contains j) = true) (h3 : Region.wanted o (yielded ops a.tmps) = true) (hd : o.dst = some d) (hn : Nat.blt d n.n = true) (S : St n fl a) (ho : o.op = .load T x) (hT : scalarB P T = true)
    (hx : ev fl x = some (.pointer (some (elemAddr v i sz)))) [h : HasSl ro v sz α enc xs] (hi : i < xs.length) (hu : (enc xs[i])[0]? = some u) (k : ∀ a', St n ((d, u) :: fl) a' → Mix P ops loud tails free (RO ro) K rest a' (HSat M w0 l)) : Mix P ops loud tails free (RO ro) K (j :: rest) a (HSat M w0 l) :=
  m_f h1 h2 h3 hd hn S (fun w H => y_loads v ho hT S H hx hi hu) k
theorem t_loads {T : TypeId} {x : Operand} {i sz : Nat} {α : Type} {enc : α → List Value} {xs : List α} {u : Value} (v : Value) (j : Nat) (h1 : ops[j]? = some o) (hm : (rem.contains j && (readyB .any ops rem j && quietOK .any ops tails rem j)) = true) (hr : rem.erase j = rem') (hg : o.guard = none) (hd : o.dst = some d) (hn : Nat.blt d n.n = true) (S : St n fl a) (ho : o.op = .load T x) (hT : scalarB P T = true)
    (hx : ev fl x = some (.pointer (some (elemAddr v i sz)))) [h : HasSl l v sz α enc xs] (hi : i < xs.length) (hu : (enc xs[i])[0]? = some u) (k : ∀ a', St n ((d, u) :: fl) a' → MixT P .any ops tails (RO ro) K f rem' a' (HSat M w0 l)) : MixT P .any ops tails (RO ro) K (f + 1) rem a (HSat M w0 l) :=
  t_q j h1 hm hr hg hd hn S (fun w H => y_loads v ho hT S H hx hi hu) k
theorem t_floads {T : TypeId} {x : Operand} {i sz : Nat} {α : Type} {enc : α → List Value} {xs : List α} {u : Value} (v : Value) (j : Nat) (h1 : ops[j]? = some o) (hm : (rem.contains j && (readyB .any ops rem j && quietOK .any ops [] rem j)) = true) (hr : rem.erase j = rem') (hg : o.guard = none) (hd : o.dst = some d) (hn : Nat.blt d n.n = true) (S : St n fl a) (ho : o.op = .load T x) (hT : scalarB P T = true)
    (hx : ev fl x = some (.pointer (some (elemAddr v i sz)))) [h : HasSl ro v sz α enc xs] (hi : i < xs.length) (hu : (enc xs[i])[0]? = some u) (k : ∀ a', St n ((d, u) :: fl) a' → MixT P .any ops tails (RO ro) K f rem' a' (HSat M w0 l)) : MixT P .any ops tails (RO ro) K (f + 1) rem a (HSat M w0 l) :=
  t_f j h1 hm hr hg hd hn S (fun w H => y_loads v ho hT S H hx hi hu) k
end
end Go.Gd
end
section
namespace Go.Gd
set_option linter.unusedVariables false
set_option linter.unusedSimpArgs false
/-- v is a slice of the call's own (or nil) over elements of type e, which hold xs; it may be appended to -/
structure IsOSl (w : World) (e : TypeId) (v : Value) (sz : Nat) {α : Type} (enc : α → List Value) (xs : List α) : Prop where
  row : w.ownsRow 0 e sz v xs.length (xs.flatMap enc)
  len : xs.length ≤ 9223372036854775807
  sizes : ∀ x ∈ xs, (enc x).length = sz
def OSl (e : TypeId) (v : Value) (sz : Nat) {α : Type} (enc : α → List Value) (xs : List α) : Atom where
  own := true
  fp := fun k => v.ownBlock = some k
  ok := fun w => IsOSl w e v sz enc xs
  loc := fun w w' h hok => ⟨by
    refine ⟨hok.row.1, ?_⟩
    rcases hok.row.2 with hn | ⟨g, cap, cur, hv, hb, hg, r⟩
    · exact .inl hn
    · exact .inr ⟨g, cap, cur, hv, hb, by rw [h g (by rw [hv]; rfl)]; exact hg, r⟩, hok.len, hok.sizes⟩
  lt := fun w b hok hb => (hok.row.lt b hb).2
theorem flatMap_at {α : Type} {enc : α → List Value} {sz : Nat} : ∀ {xs : List α} (hs : ∀ x ∈ xs, (enc x).length = sz) (i : Nat) (hi : i < xs.length) (j : Nat), j < sz → (xs.flatMap enc)[i * sz + j]? = (enc xs[i])[j]?
  | [], _, i, hi, _, _ => by simp at hi
  | x :: r, hs, 0, _, j, hj => by
    have := hs x (by simp)
    simp only [List.flatMap_cons, Nat.zero_mul, Nat.zero_add, List.getElem_cons_zero]
    rw [List.getElem?_append_left (by omega)]
  | x :: r, hs, i + 1, hi, j, hj => by
    have h0 := hs x (by simp)
    have ih := flatMap_at (xs := r) (fun y hy => hs y (by simp [hy])) i (by simpa using hi) j hj
    have e : (i + 1) * sz + j = sz + (i * sz + j) := by rw [Nat.add_mul]; omega
    simp only [List.flatMap_cons, List.getElem_cons_succ]
    rw [e, ← h0, List.getElem?_append_right (by omega)]
    rw [h0]
    simpa using ih
theorem flatMap_len {α : Type} {enc : α → List Value} {sz : Nat} : ∀ {xs : List α} (hs : ∀ x ∈ xs, (enc x).length = sz), (xs.flatMap enc).length = xs.length * sz
  | [], _ => by simp
  | x :: r, hs => by
    have ih := flatMap_len (xs := r) (fun y hy => hs y (by simp [hy]))
    simp only [List.flatMap_cons, List.length_append, ih, hs x (by simp), List.length_cons, Nat.add_mul]
    omega
theorem IsOSl.sl {w : World} {e : TypeId} {v : Value} {sz : Nat} {α : Type} {enc : α → List Value} {xs : List α} (h : IsOSl w e v sz enc xs) : IsSl w v sz enc xs := by
  refine ⟨h.len, ?_, h.sizes, fun i hi => ?_⟩
  · rcases h.row.2 with ⟨rfl, hn⟩ | ⟨g, cap, cur, rfl, _⟩
    · exact ⟨none, 0, by rw [hn]⟩
    · exact ⟨_, _, rfl⟩
  · rcases h.row.2 with ⟨rfl, hn⟩ | ⟨g, cap, cur, rfl, _, hg, hnc, _, hcs, ht⟩
    · omega
    · refine ⟨g, 0, cap, rfl, fun j u hu => ?_⟩
      have hj : j < sz := by
        have h1 := (List.getElem?_eq_some_iff.1 hu).1
        have h2 := h.sizes _ (List.getElem_mem hi)
        omega
      rw [cell_of_row w g _ cur e (0, 0) hg]
      have hf := flatMap_at h.sizes i hi j hj
      rw [hu, ← ht, List.getElem?_take] at hf
      split at hf
      · simpa using hf
      · cases hf
instance (priority := 2000) HasSl.own (l : List Atom) (e : TypeId) (v : Value) (sz : Nat) (α : Type) (enc : α → List Value) (xs : List α) : HasSl (OSl e v sz enc xs :: l) v sz α enc xs := ⟨fun w h => IsOSl.sl (h (OSl e v sz enc xs) (List.mem_cons_self ..))⟩
instance (priority := 2000) HasSl.ownRo (l : List Atom) (e : TypeId) (v : Value) (sz : Nat) (α : Type) (enc : α → List Value) (xs : List α) : HasSl (Atom.ro (OSl e v sz enc xs) :: l) v sz α enc xs := ⟨fun w h => IsOSl.sl (h (Atom.ro (OSl e v sz enc xs)) (List.mem_cons_self ..))⟩
/-- where the own slice v stands in the list -/
class HasO (l : List Atom) (v : Value) (e : outParam TypeId) (sz : outParam Nat) (α : outParam Type) (enc : outParam (α → List Value)) (xs : outParam (List α)) (l' : outParam (Atom → List Atom)) : Prop where
  at_ : ∃ l1 l2, l = l1 ++ OSl e v sz enc xs :: l2 ∧ ∀ y, l' y = l1 ++ y :: l2
instance (priority := 2000) HasO.here (l : List Atom) (e : TypeId) (v : Value) (sz : Nat) (α : Type) (enc : α → List Value) (xs : List α) : HasO (OSl e v sz enc xs :: l) v e sz α enc xs (fun y => y :: l) := ⟨[], l, rfl, fun _ => rfl⟩
instance HasO.there (l : List Atom) (x : Atom) (e : TypeId) (v : Value) (sz : Nat) (α : Type) (enc : α → List Value) (xs : List α) (l' : Atom → List Atom) [h : HasO l v e sz α enc xs l'] : HasO (x :: l) v e sz α enc xs (fun y => x :: l' y) := by
  obtain ⟨l1, l2, h1, h2⟩ := h.at_
  exact ⟨x :: l1, l2, by simp [h1], fun y => by simp [h2]⟩
/-- an atom gives way to another: its blocks alone have been written, new blocks made -/
theorem HSat.swap {M : Nat → Prop} {w0 w w' : World} {l1 l2 : List Atom} {x y : Atom} (H : HSat M w0 (l1 ++ x :: l2) w) (hx : x.own = true) (hy : y.own = true) (hf : Fr x.fp w w') (hok : y.ok w') (hn : ∀ b, y.fp b → x.fp b ∨ w.heap.size ≤ b) : HSat M w0 (l1 ++ y :: l2) w' := by
  have p : (l1 ++ x :: l2).Perm ([x] ++ (l1 ++ l2)) := List.perm_middle
  have H1 := H.perm p
  have H2 : HSat x.fp w [y] w' := ⟨hf, by intro z hz; simp at hz; subst hz; exact hok, by intro z hz _ b hb; simp at hz; subst hz; exact hn b hb, List.pairwise_singleton _ _⟩
  have H3 := HSat.callM H1 H2 (fun k hk => ⟨x, by simp, hx, hk⟩) (by intro z hz b hb; simp at hz; subst hz; exact hn b hb)
  exact H3.perm (show (y :: (l1 ++ l2)).Perm (l1 ++ y :: l2) from List.perm_middle.symm)
/-- zero value, cells and bytes of an element type -/
def infoB (P : Program) (E : TypeId) : Option (Value × Nat × Nat) := (P.info? E).bind fun i => i.zero.map fun z => (z, i.size, i.bytes)
section
variable {P : Program} {o : Oper} {n : Sz} {fl : Slots} {a : Act} {w w0 : World} {v : Value} {M : Nat → Prop} {l : List Atom} {ops : Array Oper} {d : Nat} {K : Act → World → Prop}
theorem infoB_parts {E : TypeId} {z : Value} {sz by_ : Nat} (h : infoB P E = some (z, sz, by_)) : ∃ i, P.info? E = some i ∧ i.zero = some z ∧ i.size = sz ∧ i.bytes = by_ := by
  unfold infoB at h
  cases hi : P.info? E with
  | none => rw [hi] at h; cases h
  | some i =>
    rw [hi] at h
    cases hz : i.zero with
    | none => rw [Option.bind_some, hz] at h; cases h
    | some z' =>
      simp only [Option.bind_some, hz, Option.map_some, Option.some.injEq, Prod.mk.injEq] at h
      exact ⟨i, rfl, by rw [hz, h.1], h.2.1, h.2.2⟩
theorem HSat.nilO (H : HSat M w0 l w) (e : TypeId) (sz : Nat) {α : Type} (enc : α → List Value) : HSat M w0 (OSl e (.slice none 0 0) sz enc [] :: l) w := by
  refine ⟨H.fr, fun x hx => ?_, fun x hx ho b hb => ?_, List.pairwise_cons.2 ⟨fun y hy ho b hb => ?_, H.sep⟩⟩
  · rcases List.mem_cons.1 hx with rfl | hx
    · exact ⟨World.ownsRow_nil w 0 e sz, by simp, by simp⟩
    · exact H.ok x hx
  · rcases List.mem_cons.1 hx with rfl | hx
    · simp [OSl, Value.ownBlock] at hb
    · exact H.mine x hx ho b hb
  · simp [OSl, Value.ownBlock] at hb
/-- a literal slice -/
theorem op_buildSlice {T E : TypeId} {parts : Array (Nat × Operand)} {vs cs z : List Value} {zv : Value} {m sz by_ : Nat} {idx : List Nat} (hw : Region.wanted o (yielded ops a.tmps) = true) (hd : o.dst = some d) (hn : Nat.blt d n.n = true) (ho : o.op = .buildSlice T m parts) (hT : P.underlying T = some (.slice E)) (hE : infoB P E = some (zv, sz, by_))
    (S : St n fl a) (H : HSat M w0 l w) (hi : parts.toList.map (·.1) = idx) (hv : evs fl (parts.toList.map (·.2)) = some vs) (hsmall : Nat.ble (m * sz) 16777216 = true) (hz : ((Array.range (m * sz)).map (zv.cells[· % zv.cells.size]!)).toList = z)
    (hf : Instr.fill (fun i => some (i * sz, sz)) z.toArray (idx.zip vs) = some cs.toArray)
    (k : ∀ b a' w', St n ((d, .slice (some ⟨b, 0, none⟩) m m) :: fl) a' → HSat M w0 (Cel b E cs :: l) w' → K a' w') : opw P ops o a w K := by
  obtain ⟨i, hinf, hzi, hsi, hbi⟩ := infoB_parts hE
  have hp := parts_of S hi hv
  have hsm : m * sz ≤ 16777216 := by simpa using hsmall
  have hrun : (execOp a.eval o).run P w = .ok (.value (.slice (some ⟨w.heap.size, 0, none⟩) m m)) (w.alloc (.cells cs.toArray E)) := by
    unfold execOp; rw [ho]
    have hp' : (parts.map fun (i, x) => (i, a.eval x)).toList = idx.zip vs := by rw [← hp]; simp
    subst hz
    have hzv : (zeroValue E).run P w = .ok zv w := by simp [zeroValue, typeInfo, hinf, hzi]
    have hsz' : (sizeOf E).run P w = .ok sz w := by simp [sizeOf, typeInfo, hinf, hsi]
    have hno : ¬ (m * sz > 2 ^ 24) := by omega
    simp only [Array.toArray_toList] at hf
    by_cases h0 : m * sz = 0
    · have hf' : Instr.fill (fun i => some (i * sz, sz)) ((Array.range (m * sz)).map ((#[] : Array Value)[· % (#[] : Array Value).size]!)) (idx.zip vs) = some cs.toArray := by
        have e1 : ∀ f : Nat → Value, (Array.range (m * sz)).map f = #[] := fun f => by rw [h0]; simp
        rw [e1] at hf ⊢; exact hf
      simp only [Instr.buildSlice, Sem.run_bind, run_underlying hT, Result.andThen_ok, hsz', if_neg hno, if_pos h0, Sem.run_pure, hp', hf']
      simp [newRow, newObj, Sem.run]
    · simp only [Instr.buildSlice, Sem.run_bind, run_underlying hT, Result.andThen_ok, hsz', if_neg hno, if_neg h0, Sem.run_pure, hzv, hp', hf]
      simp [newRow, newObj, Sem.run]
  refine opw_val hw hrun ?_
  rw [hd]; exact k _ _ _ (S.put hn _) (H.alloc _ (Nat.le_refl 0))
end
end Go.Gd
end
section
namespace Go.Gd
set_option linter.unusedVariables false
set_option linter.unusedSimpArgs false
section
variable {r : Option Nat} {P : Program} {o : Oper} {n : Sz} {fl flU : Slots} {a : Act} {w w0 : World} {v : Value} {M : Nat → Prop} {l : List Atom} {ops : Array Oper} {d : Nat} {K : Act → World → Prop} {Q : Exit → Act → World → Prop}
theorem y_max {x y : Operand} {k k' : IntKind} {m q : Int} {ts : Array TypeId} (ho : o.op = .call { callee := .builtin .max, args := #[x, y], argTypes := ts }) (S : St n fl a) (hx : ev fl x = some (.int k m)) (hy : ev fl y = some (.int k' q)) : Yld P o a w (.int k (max m q)) := by
  unfold Yld execOp; rw [ho]; simp [resolve, invoke, builtin, S.ev hx, S.ev hy, Builtin.max_, Builtin.max2]; omega
theorem y_min {x y : Operand} {k k' : IntKind} {m q : Int} {ts : Array TypeId} (ho : o.op = .call { callee := .builtin .min, args := #[x, y], argTypes := ts }) (S : St n fl a) (hx : ev fl x = some (.int k m)) (hy : ev fl y = some (.int k' q)) : Yld P o a w (.int k (min m q)) := by
  unfold Yld execOp; rw [ho]; simp [resolve, invoke, builtin, S.ev hx, S.ev hy, Builtin.min_, Builtin.min2]; omega
theorem y_quon {T U : TypeId} {x y : Operand} {m q : Int} (ho : o.op = .binOp .quo T x y U) (S : St n fl a) (hx : ev fl x = some (.int .i64 m)) (hy : ev fl y = some (.int .i64 q)) (hm : 0 ≤ m) (hq : 0 < q) (hb : m ≤ 9223372036854775807) : Yld P o a w (.int .i64 (m / q)) := by
  have h1 : m.tdiv q = m / q := Int.tdiv_eq_ediv_of_nonneg hm
  rw [← h1]
  refine y_quo ho S hx hy (by omega) ?_
  rw [h1]
  have h2 := Int.ediv_le_self q hm
  have h3 := Int.ediv_nonneg hm (Int.le_of_lt hq)
  omega
theorem y_remn {T U : TypeId} {x y : Operand} {k : IntKind} {m q : Int} (ho : o.op = .binOp .rem T x y U) (S : St n fl a) (hx : ev fl x = some (.int k m)) (hy : ev fl y = some (.int k q)) (hm : 0 ≤ m) (hq : 0 < q) : Yld P o a w (.int k (m % q)) := by
  rw [← Int.tmod_eq_emod_of_nonneg hm]
  exact y_rem ho S hx hy (by omega)
theorem HSat.now {sz : Nat} {α : Type} {enc : α → List Value} {xs : List α} (h : IsSl w v sz enc xs) : HSat (fun _ => True) w [Sl v sz enc xs] w :=
  ⟨Fr.refl _ _, by simpa [Sl] using h, by intro x hx ho; simp at hx; subst hx; simp [Sl] at ho, List.pairwise_singleton _ _⟩
theorem HSat.any (w : World) : HSat (fun _ => True) w [] w := ⟨Fr.refl _ _, by simp, by simp, .nil⟩
/-- a literal slice is a slice -/
theorem HSat.slb (H : HSat M w0 l w) (b : Nat) {cs : List Value} {T : TypeId} {fz : Nat × Nat} [h : HasRd l b (.cells cs.toArray T fz)] {α : Type} (xs : List α) (enc : α → List Value) (sz : Nat) {m c : Nat} (hcs : cs = xs.flatMap enc) (hm : xs.length = m) (hs : ∀ x ∈ xs, (enc x).length = sz) (hl : m ≤ 9223372036854775807) :
    IsSl w (.slice (some ⟨b, 0, none⟩) m c) sz enc xs := by
  subst hm
  refine ⟨hl, ⟨_, _, rfl⟩, hs, fun i hi => ⟨b, 0, c, rfl, fun j u hu => ?_⟩⟩
  have hj : j < sz := by rw [← hs _ (List.getElem_mem hi)]; exact (List.getElem?_eq_some_iff.1 hu).1
  rw [H.cell h, hcs, Nat.zero_add, flatMap_at hs i hi j hj, hu]
/-- a slice is one cell -/
theorem HSat.sl1 (H : HSat M w0 l w) (v : Value) {sz : Nat} {α : Type} {enc : α → List Value} {xs : List α} [h : HasSl l v sz α enc xs] : v.oneCell' = true := by
  obtain ⟨p, c, hv⟩ := (H.sl v (h := h)).shape
  rw [hv]; rfl
theorem HSat.slc (H : HSat M w0 l w) (v : Value) {sz : Nat} {α : Type} {enc : α → List Value} {xs : List α} [h : HasSl l v sz α enc xs] : v.cells.toList = [v] := by
  obtain ⟨p, c, hv⟩ := (H.sl v (h := h)).shape
  rw [hv]; rfl
/-- a loop: what the world holds is said by W -/
theorem loopW {X : Type} {c : Code} (SU : St n flU a) (mods : X → Slots) (W : X → World → Prop) (μ : X → Nat) (x0 : X) (S0 : St n (mods x0) a) (h0 : W x0 w)
    (body : ∀ x a w, St n (mods x ++ flU) a → W x w →
      gp r P c (Exit.then (fun a' w' => ∃ y, St n (mods y) a' ∧ St n flU a' ∧ W y w' ∧ μ y < μ x) Q) a w) : gp r P (Code.loop c) Q a w := by
  refine g_loop (fun m a w => ∃ x, μ x = m ∧ St n (mods x) a ∧ St n flU a ∧ W x w) (μ x0) ⟨x0, rfl, S0, SU, h0⟩ ?_
  rintro m a w ⟨x, rfl, S1, S2, H⟩
  refine g_mono (body x a w (S1.append S2) H) ?_
  intro e a' w' hq
  cases e with
  | normal =>
    obtain ⟨y, h1, h2, h3, h5⟩ := hq
    exact ⟨μ y, h5, y, rfl, h1, h2, h3⟩
  | _ => exact hq
end
end Go.Gd
end
section
namespace Go.Gd
set_option linter.unusedVariables false
set_option linter.unusedSimpArgs false
/-- how a condition reads -/
theorem DL : (∀ (α : Type) (x : α), (some x).isNone = false) ∧ (∀ (α : Type), (none : Option α).isNone = true) ∧ (∀ (α : Type) (x : α), (some x).isSome = true) ∧ (∀ (α : Type), (none : Option α).isSome = false) ∧
    (∀ p : Prop, (False ∨ p) = p) ∧ (∀ p : Prop, (p ∨ False) = p) ∧ (∀ p : Prop, (True ∧ p) = p) ∧ (∀ p : Prop, (p ∧ True) = p) ∧ (∀ (p : Prop) [Decidable p], (decide p = true) = p) ∧ (∀ (p : Prop) [Decidable p], decide p = false ↔ ¬p) ∧
    (∀ x y : Bool, ((x || y) = true) = (x = true ∨ y = true)) ∧ (∀ x y : Bool, ((x && y) = true) = (x = true ∧ y = true)) ∧ (∀ x y : Bool, ((x || y) = false) = (x = false ∧ y = false)) ∧ (∀ x y : Bool, ((x && y) = false) = (x = false ∨ y = false)) ∧
    (∀ x : Bool, ((!x) = true) = (x = false)) ∧ (∀ x : Bool, ((!x) = false) = (x = true)) ∧ (∀ (α : Type) [BEq α] [LawfulBEq α] (x y : α), (x != y) = true ↔ x ≠ y) ∧ (∀ (α : Type) [BEq α] [LawfulBEq α] (x y : α), (x == y) = true ↔ x = y) ∧
    (∀ (α : Type) [BEq α] [LawfulBEq α] (x y : α), (x == y) = false ↔ x ≠ y) ∧ (∀ (α : Type) [BEq α] [LawfulBEq α] (x y : α), (x != y) = false ↔ x = y) ∧ (∀ (α : Type) (x y : α), (x ≠ y) = ¬(x = y)) ∧ (∀ (p : Prop) [Decidable p], ¬¬p ↔ p) ∧
    (∀ x y : Int, ¬x < y ↔ y ≤ x) ∧ (∀ x y : Int, ¬x ≤ y ↔ y < x) ∧ (∀ x y : Int, x > y ↔ y < x) ∧ (∀ x y : Int, x ≥ y ↔ y ≤ x) ∧ (∀ x y : Nat, x > y ↔ y < x) ∧ (∀ x y : Nat, x ≥ y ↔ y ≤ x) ∧ ((true = false) = False) ∧ ((false = true) = False) ∧ ((¬True) = False) ∧ ((¬False) = True) :=
  ⟨fun _ _ => rfl, fun _ => rfl, fun _ _ => rfl, fun _ => rfl, false_or, or_false, true_and, and_true, @decide_eq_true_eq, @decide_eq_false_iff_not, Bool.or_eq_true, Bool.and_eq_true, fun x y => by cases x <;> cases y <;> simp, fun x y => by cases x <;> cases y <;> simp, fun x => by cases x <;> simp, fun x => by cases x <;> simp,
    fun _ _ _ _ _ => bne_iff_ne, fun _ _ _ _ _ => beq_iff_eq, fun _ _ _ _ _ => beq_eq_false_iff_ne, fun _ _ _ _ _ => bne_eq_false_iff_eq, fun _ _ _ => rfl, @Decidable.not_not, fun _ _ => Int.not_lt, fun _ _ => Int.not_le, fun _ _ => Iff.rfl, fun _ _ => Iff.rfl, fun _ _ => Iff.rfl, fun _ _ => Iff.rfl, by simp, by simp, by simp, by simp⟩
/-- how lengths read -/
theorem LL : (∀ (α : Type) (a b : List α), (a ++ b).length = a.length + b.length) ∧ (∀ (α : Type) (i : Nat) (a : List α), (a.take i).length = min i a.length) ∧ (∀ (α : Type) (i : Nat) (a : List α), (a.drop i).length = a.length - i) ∧ (∀ (α : Type) (i : Nat) (x : α), (List.replicate i x).length = i) ∧
    (∀ (α : Type) (i : Nat) (x : α) (a : List α), (a.set i x).length = a.length) ∧ (∀ (α β : Type) (f : α → β) (a : List α), (a.map f).length = a.length) ∧ (∀ (α : Type) (x : α) (a : List α), (x :: a).length = a.length + 1) ∧ (∀ α : Type, ([] : List α).length = 0) :=
  ⟨fun _ _ _ => List.length_append, fun _ _ _ => List.length_take, fun _ _ _ => List.length_drop, fun _ _ _ => List.length_replicate, fun _ _ _ _ => List.length_set, fun _ _ _ _ => List.length_map _, fun _ _ _ => rfl, fun _ => rfl⟩
section
variable {P : Program} {o : Oper} {n : Sz} {fl : Slots} {a : Act} {w w0 : World} {v : Value} {M : Nat → Prop} {l : List Atom} {ops : Array Oper} {d : Nat} {K : Act → World → Prop} {Q : Exit → Act → World → Prop} {rest : List Oper} {tails rem : List Nat} {ro : List Atom} {f i : Nat}
/-- a quiet step that stands under no guard -/
theorem gy (hg : o.guard = none) (hd : o.dst = some d) (hn : Nat.blt d n.n = true) (S : St n fl a) (hy : Yld P o a w v) (k : ∀ a', St n ((d, v) :: fl) a' → gl P ops Q rest a' w) : gl P ops Q (o :: rest) a w := wl_of (op_y (wn hg) hd hn S hy k)
/-- a move, a variable set -/
theorem gm {x : Operand} (S : St n fl a) (k : ∀ a', St n ((d, v) :: fl) a' → gl P ops Q rest a' w) (hg : o.guard = none := by rfl) (hd : o.dst = some d := by rfl) (hn : Nat.blt d n.n = true := by rfl) (ho : o.op = .move x := by rfl) (hx : ev fl x = some v := by rfl) : gl P ops Q (o :: rest) a w := gy hg hd hn S (y_move ho S hx) k
theorem ga {x : Operand} (S : St n fl a) (k : ∀ a', St n ((d, v) :: fl) a' → gl P ops Q rest a' w) (hg : o.guard = none := by rfl) (hd : o.dst = some d := by rfl) (hn : Nat.blt d n.n = true := by rfl) (ho : o.op = .assign x := by rfl) (hx : ev fl x = some v := by rfl) : gl P ops Q (o :: rest) a w := gy hg hd hn S (y_assign ho S hx) k
theorem gsr {r : Option Nat} {id : Nat} {L : List Oper} {y : Code} (h : gl P L.toArray (Exit.then (gp r P y Q) Q) L a w) : gp r P (.seq (.region id L.toArray false) y) Q a w := g_seq (g_region h)
theorem gnt {K : Act → World → Prop} (h : K a w) : gl P ops (Exit.then K Q) [] a w := gl_nil (n_then h)
/-- a quiet step that stands under a guard -/
theorem gz (g : Nat) {j : Nat} {b B : Bool} (h : B = b) (S : St n fl a) (hg : o.guard = some (j, b)) (hj : (ops[j]?).bind (·.dst) = some g) (hb : fl.lookup g = some (.bool B)) (hl : Nat.blt g n.n = true) (hd : o.dst = some d) (hn : Nat.blt d n.n = true) (hy : Yld P o a w v) (k : ∀ a', St n ((d, v) :: fl) a' → gl P ops Q rest a' w) : gl P ops Q (o :: rest) a w :=
  wl_of (op_y (wg' g hg hj S hb h hl) hd hn S hy k)
theorem t_b1 (i : Nat) (hrs : rem.filter (readyB .any ops rem) = [i]) (hi : ops[i]? = some o)
    (h : ∀ w, HSat M w0 l w → opw P ops o a w (fun a' w' => ∃ C', Stable C' ∧ C' w' ∧ ((∀ w, C' w → HSat M w0 l w) ∨ tails.contains i = true) ∧ (∀ w, C' w → RO ro w) ∧ MixT P .any ops tails (RO ro) K f (rem.erase i) a' C')) : MixT P .any ops tails (RO ro) K (f + 1) rem a (HSat M w0 l) :=
  t_b [i] hrs rfl (fun j hj => by obtain rfl := List.mem_singleton.1 hj; exact ⟨o, hi, h⟩)
theorem fa2 {p : Nat → Prop} {x y : Nat} (h1 : p x) (h2 : p y) : ∀ i ∈ [x, y], p i := fun i hi => by simp only [List.mem_cons, List.not_mem_nil, or_false] at hi; rcases hi with rfl | rfl <;> assumption
/-- atoms put in front -/
class SubL (l l' : List Atom) : Prop where
  sub : l.Sublist l'
instance (priority := 2000) SubL.refl (l : List Atom) : SubL l l := ⟨List.Sublist.refl _⟩
instance SubL.cons (l : List Atom) (x : Atom) (l' : List Atom) [h : SubL l l'] : SubL l (x :: l') := ⟨h.sub.cons x⟩
theorem t_n [ROs ro] {a' : Act} {w' : World} {l' : List Atom} {rem' : List Nat} [HasRO l' ro] (H : HSat M w0 l' w') [hs : SubL l l'] (hr : rem.erase i = rem') (h : MixT P .any ops tails (RO ro) K f rem' a' (HSat M w0 l')) :
    ∃ C', Stable C' ∧ C' w' ∧ ((∀ w, C' w → HSat M w0 l w) ∨ tails.contains i = true) ∧ (∀ w, C' w → RO ro w) ∧ MixT P .any ops tails (RO ro) K f (rem.erase i) a' C' := t_next H hs.sub hr h
end
end Go.Gd
end
section
namespace Go.Proofs.YtienaifmlhcijaaGreatDoor.D
open Go Go.Gd
set_option linter.unusedVariables false
set_option linter.unusedSimpArgs false
theorem Feqg9 : Tryz.prog.eqGuardType Tryz.prog.depth 9 = false := by kernel_rfl
theorem Ffo32_0 : fieldOff Tryz.prog 32 0 = some 0 := by kernel_rfl
theorem Ffo32_1 : fieldOff Tryz.prog 32 1 = some 1 := by kernel_rfl
theorem Ffo32_2 : fieldOff Tryz.prog 32 2 = some 2 := by kernel_rfl
theorem Ffo32_3 : fieldOff Tryz.prog 32 3 = some 3 := by kernel_rfl
theorem Ffo32_4 : fieldOff Tryz.prog 32 4 = some 4 := by kernel_rfl
theorem Ffo32_5 : fieldOff Tryz.prog 32 5 = some 5 := by kernel_rfl
theorem Ffo45_0 : fieldOff Tryz.prog 45 0 = some 0 := by kernel_rfl
theorem Ffo45_1 : fieldOff Tryz.prog 45 1 = some 1 := by kernel_rfl
theorem Ffo45_2 : fieldOff Tryz.prog 45 2 = some 2 := by kernel_rfl
theorem Ffo45_3 : fieldOff Tryz.prog 45 3 = some 3 := by kernel_rfl
theorem Ffo45_4 : fieldOff Tryz.prog 45 4 = some 4 := by kernel_rfl
theorem Ffo45_5 : fieldOff Tryz.prog 45 5 = some 5 := by kernel_rfl
theorem Finf3 : infoB Tryz.prog 3 = some (.int .i64 0, 1, 8) := by kernel_rfl
theorem Fmo : Tryz.prog.follows .mixedOrders = true := by kernel_rfl
theorem Fsca3 : scalarB Tryz.prog 3 = true := by kernel_rfl
theorem Fsca9 : scalarB Tryz.prog 9 = true := by kernel_rfl
theorem Fsiz3 : sizeB Tryz.prog 3 1 = true := by kernel_rfl
theorem cmpi_spec (x y : Int) (w : World) : Ret Tryz.prog 31 #[.int .i64 x, .int .i64 y] w (fun u w' => u = .int .i64 (cmpI x y) ∧ Ext w w') :=
  Calls.mono (Tryz.cmp_Compare_int x y w) fun e w' ⟨h1, h2⟩ => ⟨_, h1, rfl, h2 ▸ Ext.refl w⟩
section
variable {P : Program} {o : Oper} {n : Sz} {fl : Slots} {a : Act} {w : World}
theorem y_lssS {T U : TypeId} {x y : Operand} {p q : ByteArray} (ho : o.op = .binOp .lss T x y U) (S : St n fl a) (hx : ev fl x = some (.string p)) (hy : ev fl y = some (.string q)) : Yld P o a w (.bool (Op.bytesLess p.toList q.toList)) := by
  unfold Yld execOp; rw [ho]; simp [S.ev hx, S.ev hy, eqGuard, binOp, Op.stringOp]
theorem y_gtrS {T U : TypeId} {x y : Operand} {p q : ByteArray} (ho : o.op = .binOp .gtr T x y U) (S : St n fl a) (hx : ev fl x = some (.string p)) (hy : ev fl y = some (.string q)) : Yld P o a w (.bool !(Op.bytesLess p.toList q.toList || (p.toList == q.toList))) := by
  unfold Yld execOp; rw [ho]; simp [S.ev hx, S.ev hy, eqGuard, binOp, Op.stringOp]
theorem y_neqS {T U : TypeId} {x y : Operand} {p q : ByteArray} (ho : o.op = .binOp .neq T x y U) (S : St n fl a) (hx : ev fl x = some (.string p)) (hy : ev fl y = some (.string q)) (b : Bool) (hb : (!(p.toList == q.toList)) = b) (hs : P.underlying T = some .string) (hg : P.eqGuardType P.depth T = false) : Yld P o a w (.bool b) := by
  unfold Yld execOp; rw [ho]; subst hb; simp [S.ev hx, S.ev hy, eqGuard, binOp, Op.stringOp, hg]
end
/-- cmp.isNaN[string] -/
theorem nans_spec (x : ByteArray) (w0 : World) :
    Ret Tryz.prog 91 #[.string x] w0 (fun u w => u = .bool false ∧ Ext w0 w) := by
 refine ret_of_wp (nt := 6) Tryz.func91 rfl rfl rfl (fl := [(0, .string x)]) rfl (fun a S => ?_)
 have H := HSat.start w0
 refine gsr ?_
 refine ga S fun a S => ?_
 refine gnt ?_
 refine gsr ?_
 refine gm S fun a S => ?_
 refine gm S fun a S => ?_
 refine gy rfl rfl rfl S ((y_neqS rfl S rfl rfl false (by simp) Tryz.underlying9 Feqg9)) fun a S => ?_
 refine ga S fun a S => ?_
 refine gnt ?_
 have S := S.nil.cons S 2 rfl
 refine g_ret ?_
 refine ret1 rfl S rfl ?_
 exact ⟨rfl, H.toExt⟩
/-- cmp.Compare[string] -/
theorem cmpb_spec (x y : ByteArray) (w0 : World) :
    Ret Tryz.prog 57 #[.string x, .string y] w0 (fun u w => u = .int .i64 (cmpB x y) ∧ Ext w0 w) := by
 refine ret_of_wp (nt := 20) Tryz.func57 rfl rfl rfl (fl := [(0, .string x), (1, .string y)]) rfl (fun a S => ?_)
 have H := HSat.start w0
 refine gsr ?_
 refine ga S fun a S => ?_
 refine gnt ?_
 refine gsr ?_
 refine gm S fun a S => ?_
 refine wl_of (op_call (wn rfl) rfl rfl S (co_func rfl Tryz.call91 S rfl) (nans_spec x _) fun v w hc a S => ?_)
 obtain ⟨rfl, he⟩ := hc
 have H := H.ext he
 refine ga S fun a S => ?_
 refine gnt ?_
 refine gsr ?_
 refine gm S fun a S => ?_
 refine wl_of (op_call (wn rfl) rfl rfl S (co_func rfl Tryz.call91 S rfl) (nans_spec y _) fun v w hc a S => ?_)
 obtain ⟨rfl, he⟩ := hc
 have H := H.ext he
 refine ga S fun a S => ?_
 refine gnt ?_
 have S := ((((S.nil.cons S 1 rfl).cons S 0 rfl).cons S 4 rfl).cons S 5 rfl).cons S 6 rfl
 refine g_seq ?_
 refine gsr ?_
 refine gm S fun a S => ?_
 refine gnt ?_
 refine c_if S rfl (fun h1 => ?_) (fun h1 => ?_)
 ·have h1p := h1; try simp only [DL] at h1p
  all_goals (
    exact absurd h1 (by simp))
 ·have h1p := h1; try simp only [DL] at h1p
  refine g_skip ?_
  refine n_then ?_
  refine g_seq ?_
  refine gsr ?_
  refine gm S fun a S => ?_
  refine gnt ?_
  refine c_if S rfl (fun h2 => ?_) (fun h2 => ?_)
  ·have h2p := h2; try simp only [DL] at h2p
   all_goals (
     exact absurd h2 (by simp))
  ·have h2p := h2; try simp only [DL] at h2p
   refine g_skip ?_
   refine n_then ?_
   have S := ((S.nil.cons S 1 rfl).cons S 0 rfl).cons S 4 rfl
   refine g_seq ?_
   refine gsr ?_
   refine gm S fun a S => ?_
   refine gm S fun a S => ?_
   refine gy rfl rfl rfl S ((y_lssS rfl S rfl rfl)) fun a S => ?_
   refine gnt ?_
   refine c_if S rfl (fun h3 => ?_) (fun h3 => ?_)
   ·have h3p := h3; try simp only [DL] at h3p
    refine gsr ?_
    refine ga S fun a S => ?_
    refine gnt ?_
    have S := ((S.nil.cons S 1 rfl).cons S 0 rfl).cons S 4 rfl
    refine g_ret ?_
    refine r_then (ret1 rfl S rfl ?_)
    exact ⟨congrArg (Value.int .i64) (by unfold cmpB; rw [if_pos h3p]), H.toExt⟩
   ·have h3p := h3; try simp only [DL] at h3p
    refine g_skip ?_
    refine n_then ?_
    refine g_seq ?_
    refine gsr ?_
    refine gm S fun a S => ?_
    refine gm S fun a S => ?_
    refine gy rfl rfl rfl S ((y_gtrS rfl S rfl rfl)) fun a S => ?_
    refine gnt ?_
    have S := (S.nil.cons S 4 rfl).cons S 19 rfl
    refine c_if S rfl (fun h4 => ?_) (fun h4 => ?_)
    ·have h4p := h4; try simp only [DL] at h4p
     refine gsr ?_
     refine ga S fun a S => ?_
     refine gnt ?_
     refine g_ret ?_
     refine r_then (ret1 rfl S rfl ?_)
     exact ⟨congrArg (Value.int .i64) (by unfold cmpB; have h := h4p; cases h2 : Op.bytesLess y.toList x.toList with | true => rw [if_neg (by rw [h.1]; decide), if_pos rfl] | false => exact absurd (bl_tot _ _ h.1 h2) h.2), H.toExt⟩
    ·have h4p := h4; try simp only [DL] at h4p
     refine g_skip ?_
     refine n_then ?_
     refine gsr ?_
     refine ga S fun a S => ?_
     refine gnt ?_
     refine g_ret ?_
     refine ret1 rfl S rfl ?_
     exact ⟨congrArg (Value.int .i64) (by unfold cmpB; rcases h4p with h | h; rw [h] at h3p; cases h3p; rw [h, bl_irr]; rfl), H.toExt⟩
/-- cmp.Or[int] -/
theorem or_spec (v : Value) (xs : List Int) (w0 : World) (hv : IsSl w0 v 1 encI xs) :
    Ret Tryz.prog 30 #[v] w0 (fun u w => u = .int .i64 (orL xs) ∧ Ext w0 w) := by
 refine ret_of_wp (nt := 18) Tryz.func30 rfl rfl rfl (fl := [(0, v)]) rfl (fun a S => ?_)
 have H := HSat.start w0
 have H := H.ro0 (Sl v 1 encI xs) rfl (hv)
 have hlen := hv.len
 refine gsr ?_
 refine ga S fun a S => ?_
 refine gnt ?_
 refine gsr ?_
 refine ga S fun a S => ?_
 refine gnt ?_
 refine g_seq ?_
 refine gsr ?_
 refine gm S fun a S => ?_
 refine gy rfl rfl rfl S (y_lens rfl Tryz.underlying40 S H rfl) fun a S => ?_
 refine gm S fun a S => ?_
 refine gnt ?_
 refine g_block ?_
 have SU := ((S.nil.cons S 3 rfl).cons S 6 rfl).cons S 7 rfl
 refine loop_k (X := Nat) SU (fun k => [(8, .int .i64 (k : Int))]) (fun k => k ≤ xs.length ∧ orL xs = orL (xs.drop k)) (fun k => xs.length - k) 0 (S.nil.cons S 8 rfl) H (⟨by omega, by rw [List.drop_zero]⟩) (fun k a w S H hi => ?_)
 simp only [List.cons_append, List.nil_append] at S hi
 obtain ⟨hk, hq⟩ := hi
 refine gsr ?_
 refine gy rfl rfl rfl S (y_bin rfl S rfl rfl rfl) fun a S => ?_
 refine gnt ?_
 refine g_seq ?_
 refine c_if S rfl (fun h1 => ?_) (fun h1 => ?_)
 ·have h1p := h1; try simp only [DL] at h1p
  refine g_skip ?_
  refine n_then ?_
  refine g_seq ?_
  refine g_block ?_
  refine gsr ?_
  refine gy rfl rfl rfl S (y_iaddrn rfl Tryz.underlying40 Fsiz3 S H rfl rfl (by first | assumption | omega | (simp only [LL]; omega))) fun a S => ?_
  refine gy rfl rfl rfl S (y_loads _ rfl Fsca3 S H rfl (by first | assumption | omega | (simp only [LL]; omega)) rfl) fun a S => ?_
  refine ga S fun a S => ?_
  refine gnt ?_
  refine gsr ?_
  refine gm S fun a S => ?_
  refine gm S fun a S => ?_
  refine gy rfl rfl rfl S (y_bin rfl S rfl rfl rfl) fun a S => ?_
  refine gnt ?_
  have S := (((((S.nil.cons S 3 rfl).cons S 6 rfl).cons S 7 rfl).cons S 8 rfl).cons S 5 rfl).cons S 14 rfl
  refine c_if S rfl (fun h2 => ?_) (fun h2 => ?_)
  ·have h2p := h2; try simp only [DL] at h2p
   refine gsr ?_
   refine gm S fun a S => ?_
   refine ga S fun a S => ?_
   refine gnt ?_
   refine g_ret ?_
   refine r_block (r_then (r_then (r_block (r_then (ret1 rfl S rfl ?_)))))
   exact ⟨congrArg (Value.int .i64) (by rw [hq, orL_nz (by omega) h2]), H.toExt⟩
  ·have h2p := h2; try simp only [DL] at h2p
   refine g_skip ?_
   refine n_block ?_
   refine n_then ?_
   refine g_region ?_
   refine gy rfl rfl rfl S (y_add rfl S rfl rfl (by omega)) fun a S => ?_
   refine gm S fun a S => ?_
   refine gnt ?_
   refine ⟨k + 1, S.nil.cons S 8 rfl, ((S.nil.cons S 3 rfl).cons S 6 rfl).cons S 7 rfl, H, ?_, ?_⟩
   · exact ⟨by omega, by rw [hq, orL_z (by omega) h2]⟩
   · omega
 ·have h1p := h1; try simp only [DL] at h1p
  refine g_exit ?_
  refine x_then (x_then (x_eq ?_))
  refine n_then ?_
  have S := S.nil.cons S 3 rfl
  refine gsr ?_
  refine gm S fun a S => ?_
  refine ga S fun a S => ?_
  refine gnt ?_
  refine g_ret ?_
  refine ret1 rfl S rfl ?_
  exact ⟨congrArg (Value.int .i64) (by rw [hq, List.drop_eq_nil_of_le (by omega)]; rfl), H.toExt⟩
set_option maxHeartbeats 1000000 in
/-- foyer/merge.order -/
theorem order_spec (x y : SV) (w0 : World) :
    Ret Tryz.prog 20 #[.agg (encSV x).toArray, .agg (encSV y).toArray] w0 (fun u w => u = .int .i64 (ordS x y) ∧ Ext w0 w) := by
 refine ret_of_wp (nt := 37) Tryz.func20 rfl rfl rfl (fl := [(0, .agg (encSV x).toArray), (1, .agg (encSV y).toArray)]) rfl (fun a S => ?_)
 have H := HSat.start w0
 refine gsr ?_
 refine wl_of (op_boxa (wn rfl) rfl rfl rfl S H rfl fun b2 a w S H => ?_)
 refine wl_of (op_boxa (wn rfl) rfl rfl rfl S H rfl fun b3 a w S H => ?_)
 refine ga S fun a S => ?_
 refine gnt ?_
 refine g_seq ?_
 refine region_st (loud := [30]) (tails := []) (free := []) [0, 1, 2, 3, 4, 5, 6, 7, 8, 9, 10, 11, 12, 13, 14, 15, 16, 17, 18, 19, 20, 21, 22, 23, 24, 25, 26, 27, 28, 29, 30, 31, 32] [] Fmo (by kernel_rfl) (by kernel_rfl) rfl H ?_
 refine m_w rfl rfl (wn rfl) rfl rfl S (fun w H => y_faddrb rfl Ffo32_2 S rfl) fun a S => ?_
 refine m_w rfl rfl (wn rfl) rfl rfl S (fun w H => y_load rfl Fsca3 S H rfl rfl) fun a S => ?_
 refine m_w rfl rfl (wn rfl) rfl rfl S (fun w H => y_faddrb rfl Ffo32_2 S rfl) fun a S => ?_
 refine m_w rfl rfl (wn rfl) rfl rfl S (fun w H => y_load rfl Fsca3 S H rfl rfl) fun a S => ?_
 refine m_c rfl rfl (wn rfl) rfl rfl S (fun w => co_func rfl Tryz.call31 S rfl) (fun w H => cmpi_spec x.time y.time _) fun a S => ?_
 refine m_w rfl rfl (wn rfl) rfl rfl S (fun w H => y_faddrb rfl Ffo32_0 S rfl) fun a S => ?_
 refine m_w rfl rfl (wn rfl) rfl rfl S (fun w H => y_load rfl Fsca3 S H rfl rfl) fun a S => ?_
 refine m_w rfl rfl (wn rfl) rfl rfl S (fun w H => y_faddrb rfl Ffo32_0 S rfl) fun a S => ?_
 refine m_w rfl rfl (wn rfl) rfl rfl S (fun w H => y_load rfl Fsca3 S H rfl rfl) fun a S => ?_
 refine m_c rfl rfl (wn rfl) rfl rfl S (fun w => co_func rfl Tryz.call31 S rfl) (fun w H => cmpi_spec x.gate y.gate _) fun a S => ?_
 refine m_w rfl rfl (wn rfl) rfl rfl S (fun w H => y_faddrb rfl Ffo32_1 S rfl) fun a S => ?_
 refine m_w rfl rfl (wn rfl) rfl rfl S (fun w H => y_load rfl Fsca3 S H rfl rfl) fun a S => ?_
 refine m_w rfl rfl (wn rfl) rfl rfl S (fun w H => y_faddrb rfl Ffo32_1 S rfl) fun a S => ?_
 refine m_w rfl rfl (wn rfl) rfl rfl S (fun w H => y_load rfl Fsca3 S H rfl rfl) fun a S => ?_
 refine m_c rfl rfl (wn rfl) rfl rfl S (fun w => co_func rfl Tryz.call31 S rfl) (fun w H => cmpi_spec x.number y.number _) fun a S => ?_
 refine m_w rfl rfl (wn rfl) rfl rfl S (fun w H => y_faddrb rfl Ffo32_3 S rfl) fun a S => ?_
 refine m_w rfl rfl (wn rfl) rfl rfl S (fun w H => y_load rfl Fsca3 S H rfl rfl) fun a S => ?_
 refine m_w rfl rfl (wn rfl) rfl rfl S (fun w H => y_faddrb rfl Ffo32_3 S rfl) fun a S => ?_
 refine m_w rfl rfl (wn rfl) rfl rfl S (fun w H => y_load rfl Fsca3 S H rfl rfl) fun a S => ?_
 refine m_c rfl rfl (wn rfl) rfl rfl S (fun w => co_func rfl Tryz.call31 S rfl) (fun w H => cmpi_spec x.serial y.serial _) fun a S => ?_
 refine m_w rfl rfl (wn rfl) rfl rfl S (fun w H => y_faddrb rfl Ffo32_4 S rfl) fun a S => ?_
 refine m_w rfl rfl (wn rfl) rfl rfl S (fun w H => y_load rfl Fsca3 S H rfl rfl) fun a S => ?_
 refine m_w rfl rfl (wn rfl) rfl rfl S (fun w H => y_faddrb rfl Ffo32_4 S rfl) fun a S => ?_
 refine m_w rfl rfl (wn rfl) rfl rfl S (fun w H => y_load rfl Fsca3 S H rfl rfl) fun a S => ?_
 refine m_c rfl rfl (wn rfl) rfl rfl S (fun w => co_func rfl Tryz.call31 S rfl) (fun w H => cmpi_spec x.kind y.kind _) fun a S => ?_
 refine m_w rfl rfl (wn rfl) rfl rfl S (fun w H => y_faddrb rfl Ffo32_5 S rfl) fun a S => ?_
 refine m_w rfl rfl (wn rfl) rfl rfl S (fun w H => y_load rfl Fsca9 S H rfl rfl) fun a S => ?_
 refine m_w rfl rfl (wn rfl) rfl rfl S (fun w H => y_faddrb rfl Ffo32_5 S rfl) fun a S => ?_
 refine m_w rfl rfl (wn rfl) rfl rfl S (fun w H => y_load rfl Fsca9 S H rfl rfl) fun a S => ?_
 refine m_c rfl rfl (wn rfl) rfl rfl S (fun w => co_func rfl Tryz.call57 S rfl) (fun w H => cmpb_spec x.owner y.owner _) fun a S => ?_
 refine m_l rfl rfl (fun w H => op_buildSlice (wn rfl) rfl rfl rfl Tryz.underlying40 Finf3 S H (idx := [0, 1, 2, 3, 4, 5]) rfl rfl rfl (z := [.int .i64 0, .int .i64 0, .int .i64 0, .int .i64 0, .int .i64 0, .int .i64 0]) (by kernel_rfl) (cs := [.int .i64 (cmpI x.time y.time), .int .i64 (cmpI x.gate y.gate), .int .i64 (cmpI x.number y.number), .int .i64 (cmpI x.serial y.serial), .int .i64 (cmpI x.kind y.kind), .int .i64 (cmpB x.owner y.owner)]) (by kernel_rfl) fun b35 a w S H => m_next H (List.sublist_cons_self _ _) ?_)
 refine m_c rfl rfl (wn rfl) rfl rfl S (fun w => co_func rfl Tryz.call30 S rfl) (fun w H => or_spec _ [cmpI x.time y.time, cmpI x.gate y.gate, cmpI x.number y.number, cmpI x.serial y.serial, cmpI x.kind y.kind, cmpB x.owner y.owner] _ (H.slb b35 _ encI 1 rfl rfl (by intro x _; rfl) (by decide))) fun a S => ?_
 refine m_w rfl rfl (wn rfl) rfl rfl S (fun w H => y_assign rfl S rfl) fun a S => ?_
 refine m_nil (fun w H => ?_)
 refine n_then ?_
 have S := S.nil.cons S 4 rfl
 refine g_ret ?_
 refine ret1 rfl S rfl ?_
 exact ⟨rfl, H.toExt⟩
set_option maxHeartbeats 1000000 in
/-- foyer/merge.Blames$2 -/
theorem orderb_spec (x y : BV) (w0 : World) :
    Ret Tryz.prog 29 #[.agg (encBV x).toArray, .agg (encBV y).toArray] w0 (fun u w => u = .int .i64 (ordB x y) ∧ Ext w0 w) := by
 refine ret_of_wp (nt := 37) Tryz.func29 rfl rfl rfl (fl := [(0, .agg (encBV x).toArray), (1, .agg (encBV y).toArray)]) rfl (fun a S => ?_)
 have H := HSat.start w0
 refine gsr ?_
 refine wl_of (op_boxa (wn rfl) rfl rfl rfl S H rfl fun b2 a w S H => ?_)
 refine wl_of (op_boxa (wn rfl) rfl rfl rfl S H rfl fun b3 a w S H => ?_)
 refine ga S fun a S => ?_
 refine gnt ?_
 refine g_seq ?_
 refine region_st (loud := [30]) (tails := []) (free := []) [0, 1, 2, 3, 4, 5, 6, 7, 8, 9, 10, 11, 12, 13, 14, 15, 16, 17, 18, 19, 20, 21, 22, 23, 24, 25, 26, 27, 28, 29, 30, 31, 32] [] Fmo (by kernel_rfl) (by kernel_rfl) rfl H ?_
 refine m_w rfl rfl (wn rfl) rfl rfl S (fun w H => y_faddrb rfl Ffo45_0 S rfl) fun a S => ?_
 refine m_w rfl rfl (wn rfl) rfl rfl S (fun w H => y_load rfl Fsca3 S H rfl rfl) fun a S => ?_
 refine m_w rfl rfl (wn rfl) rfl rfl S (fun w H => y_faddrb rfl Ffo45_0 S rfl) fun a S => ?_
 refine m_w rfl rfl (wn rfl) rfl rfl S (fun w H => y_load rfl Fsca3 S H rfl rfl) fun a S => ?_
 refine m_c rfl rfl (wn rfl) rfl rfl S (fun w => co_func rfl Tryz.call31 S rfl) (fun w H => cmpi_spec x.kind y.kind _) fun a S => ?_
 refine m_w rfl rfl (wn rfl) rfl rfl S (fun w H => y_faddrb rfl Ffo45_2 S rfl) fun a S => ?_
 refine m_w rfl rfl (wn rfl) rfl rfl S (fun w H => y_load rfl Fsca3 S H rfl rfl) fun a S => ?_
 refine m_w rfl rfl (wn rfl) rfl rfl S (fun w H => y_faddrb rfl Ffo45_2 S rfl) fun a S => ?_
 refine m_w rfl rfl (wn rfl) rfl rfl S (fun w H => y_load rfl Fsca3 S H rfl rfl) fun a S => ?_
 refine m_c rfl rfl (wn rfl) rfl rfl S (fun w => co_func rfl Tryz.call31 S rfl) (fun w H => cmpi_spec x.gate y.gate _) fun a S => ?_
 refine m_w rfl rfl (wn rfl) rfl rfl S (fun w H => y_faddrb rfl Ffo45_3 S rfl) fun a S => ?_
 refine m_w rfl rfl (wn rfl) rfl rfl S (fun w H => y_load rfl Fsca3 S H rfl rfl) fun a S => ?_
 refine m_w rfl rfl (wn rfl) rfl rfl S (fun w H => y_faddrb rfl Ffo45_3 S rfl) fun a S => ?_
 refine m_w rfl rfl (wn rfl) rfl rfl S (fun w H => y_load rfl Fsca3 S H rfl rfl) fun a S => ?_
 refine m_c rfl rfl (wn rfl) rfl rfl S (fun w => co_func rfl Tryz.call31 S rfl) (fun w H => cmpi_spec x.number y.number _) fun a S => ?_
 refine m_w rfl rfl (wn rfl) rfl rfl S (fun w H => y_faddrb rfl Ffo45_1 S rfl) fun a S => ?_
 refine m_w rfl rfl (wn rfl) rfl rfl S (fun w H => y_load rfl Fsca3 S H rfl rfl) fun a S => ?_
 refine m_w rfl rfl (wn rfl) rfl rfl S (fun w H => y_faddrb rfl Ffo45_1 S rfl) fun a S => ?_
 refine m_w rfl rfl (wn rfl) rfl rfl S (fun w H => y_load rfl Fsca3 S H rfl rfl) fun a S => ?_
 refine m_c rfl rfl (wn rfl) rfl rfl S (fun w => co_func rfl Tryz.call31 S rfl) (fun w H => cmpi_spec x.serial y.serial _) fun a S => ?_
 refine m_w rfl rfl (wn rfl) rfl rfl S (fun w H => y_faddrb rfl Ffo45_4 S rfl) fun a S => ?_
 refine m_w rfl rfl (wn rfl) rfl rfl S (fun w H => y_load rfl Fsca3 S H rfl rfl) fun a S => ?_
 refine m_w rfl rfl (wn rfl) rfl rfl S (fun w H => y_faddrb rfl Ffo45_4 S rfl) fun a S => ?_
 refine m_w rfl rfl (wn rfl) rfl rfl S (fun w H => y_load rfl Fsca3 S H rfl rfl) fun a S => ?_
 refine m_c rfl rfl (wn rfl) rfl rfl S (fun w => co_func rfl Tryz.call31 S rfl) (fun w H => cmpi_spec x.other y.other _) fun a S => ?_
 refine m_w rfl rfl (wn rfl) rfl rfl S (fun w H => y_faddrb rfl Ffo45_5 S rfl) fun a S => ?_
 refine m_w rfl rfl (wn rfl) rfl rfl S (fun w H => y_load rfl Fsca3 S H rfl rfl) fun a S => ?_
 refine m_w rfl rfl (wn rfl) rfl rfl S (fun w H => y_faddrb rfl Ffo45_5 S rfl) fun a S => ?_
 refine m_w rfl rfl (wn rfl) rfl rfl S (fun w H => y_load rfl Fsca3 S H rfl rfl) fun a S => ?_
 refine m_c rfl rfl (wn rfl) rfl rfl S (fun w => co_func rfl Tryz.call31 S rfl) (fun w H => cmpi_spec x.count y.count _) fun a S => ?_
 refine m_l rfl rfl (fun w H => op_buildSlice (wn rfl) rfl rfl rfl Tryz.underlying40 Finf3 S H (idx := [0, 1, 2, 3, 4, 5]) rfl rfl rfl (z := [.int .i64 0, .int .i64 0, .int .i64 0, .int .i64 0, .int .i64 0, .int .i64 0]) (by kernel_rfl) (cs := [.int .i64 (cmpI x.kind y.kind), .int .i64 (cmpI x.gate y.gate), .int .i64 (cmpI x.number y.number), .int .i64 (cmpI x.serial y.serial), .int .i64 (cmpI x.other y.other), .int .i64 (cmpI x.count y.count)]) (by kernel_rfl) fun b35 a w S H => m_next H (List.sublist_cons_self _ _) ?_)
 refine m_c rfl rfl (wn rfl) rfl rfl S (fun w => co_func rfl Tryz.call30 S rfl) (fun w H => or_spec _ [cmpI x.kind y.kind, cmpI x.gate y.gate, cmpI x.number y.number, cmpI x.serial y.serial, cmpI x.other y.other, cmpI x.count y.count] _ (H.slb b35 _ encI 1 rfl rfl (by intro x _; rfl) (by decide))) fun a S => ?_
 refine m_w rfl rfl (wn rfl) rfl rfl S (fun w H => y_assign rfl S rfl) fun a S => ?_
 refine m_nil (fun w H => ?_)
 refine n_then ?_
 have S := S.nil.cons S 4 rfl
 refine g_ret ?_
 refine ret1 rfl S rfl ?_
 exact ⟨rfl, H.toExt⟩
end Go.Proofs.YtienaifmlhcijaaGreatDoor.D
end
section
namespace Go.Proofs
open Go.Shelf
def Tryz.sortS_ren : Go.Shelf.Ren := ⟨fun | 6 => 19 | 15 => 56 | 14 => 55 | 28 => 89 | 29 => 90 | 20 => 81 | 21 => 82 | 22 => 83 | 23 => 84 | 24 => 85 | 25 => 86 | 26 => 87 | 27 => 88 | 46 => 120 | 47 => 121 | 48 => 122 | 49 => 123 | 50 => 124 | 57 => 153 | n => n, fun | 22 => 29 | 24 => 32 | 25 => 70 | 3 => 3 | 39 => 116 | 0 => 0 | 53 => 160 | 55 => 97 | 4 => 4 | 46 => 154 | 45 => 153 | 50 => 119 | 5 => 5 | 9 => 9 | 66 => 186 | 70 => 190 | 76 => 219 | 77 => 220 | n => n, fun | n => n⟩
theorem Tryz.sortS : Go.Proofs.SlLaysF0.n6 Tryz.prog Tryz.sortS_ren := {
  mixed := by kernel_rfl
  f6 := ⟨Tryz.f19.name, by decide, Tryz.func19.trans (congrArg some (by kernel_rfl))⟩
  f14 := ⟨Tryz.f55.name, by decide, Tryz.func55.trans (congrArg some (by kernel_rfl))⟩
  f15 := Tryz.func56.trans (congrArg some (by kernel_rfl))
  f20 := ⟨Tryz.f81.name, by decide, Tryz.func81.trans (congrArg some (by kernel_rfl))⟩
  f21 := ⟨Tryz.f82.name, by decide, Tryz.func82.trans (congrArg some (by kernel_rfl))⟩
  f22 := ⟨Tryz.f83.name, by decide, Tryz.func83.trans (congrArg some (by kernel_rfl))⟩
  f23 := ⟨Tryz.f84.name, by decide, Tryz.func84.trans (congrArg some (by kernel_rfl))⟩
  f24 := ⟨Tryz.f85.name, by decide, Tryz.func85.trans (congrArg some (by kernel_rfl))⟩
  f25 := ⟨Tryz.f86.name, by decide, Tryz.func86.trans (congrArg some (by kernel_rfl))⟩
  f26 := ⟨Tryz.f87.name, by decide, Tryz.func87.trans (congrArg some (by kernel_rfl))⟩
  f27 := ⟨Tryz.f88.name, by decide, Tryz.func88.trans (congrArg some (by kernel_rfl))⟩
  f28 := Tryz.func89.trans (congrArg some (by kernel_rfl))
  f29 := Tryz.func90.trans (congrArg some (by kernel_rfl))
  f46 := ⟨Tryz.f120.name, by decide, Tryz.func120.trans (congrArg some (by kernel_rfl))⟩
  f47 := Tryz.func121.trans (congrArg some (by kernel_rfl))
  f48 := Tryz.func122.trans (congrArg some (by kernel_rfl))
  f49 := ⟨Tryz.f123.name, by decide, Tryz.func123.trans (congrArg some (by kernel_rfl))⟩
  f50 := ⟨Tryz.f124.name, by decide, Tryz.func124.trans (congrArg some (by kernel_rfl))⟩
  f57 := ⟨Tryz.f153.name, by decide, Tryz.func153.trans (congrArg some (by kernel_rfl))⟩
  t0 := Tryz.underlying0
  a0 := Tryz.isAgg0
  z0 := Tryz.sizeOf0
  v0 := Tryz.zeroValue0
  t3 := Tryz.underlying3
  a3 := Tryz.isAgg3
  z3 := Tryz.sizeOf3
  v3 := Tryz.zeroValue3
  t4 := Tryz.underlying4
  a4 := Tryz.isAgg4
  z4 := Tryz.sizeOf4
  v4 := Tryz.zeroValue4
  t5 := Tryz.underlying5
  a5 := Tryz.isAgg5
  z5 := Tryz.sizeOf5
  v5 := Tryz.zeroValue5
  t9 := Tryz.underlying9
  a9 := Tryz.isAgg9
  z9 := Tryz.sizeOf9
  v9 := Tryz.zeroValue9
  t22 := Tryz.underlying29
  a22 := Tryz.isAgg29
  z22 := Tryz.sizeOf29
  v22 := Tryz.zeroValue29
  t25 := Tryz.underlying70
  a25 := Tryz.isAgg70
  z25 := Tryz.sizeOf70
  v25 := Tryz.zeroValue70
  t39 := Tryz.underlying116
  a39 := Tryz.isAgg116
  z39 := Tryz.sizeOf116
  v39 := Tryz.zeroValue116
  t45 := Tryz.underlying153
  a45 := Tryz.isAgg153
  z45 := Tryz.sizeOf153
  v45 := Tryz.zeroValue153
  t46 := Tryz.underlying154
  a46 := Tryz.isAgg154
  z46 := Tryz.sizeOf154
  v46 := Tryz.zeroValue154
  t50 := Tryz.underlying119
  a50 := Tryz.isAgg119
  z50 := Tryz.sizeOf119
  v50 := Tryz.zeroValue119
  t53 := Tryz.underlying160
  a53 := Tryz.isAgg160
  z53 := Tryz.sizeOf160
  v53 := Tryz.zeroValue160
  t55 := Tryz.underlying97
  a55 := Tryz.isAgg97
  z55 := Tryz.sizeOf97
  v55 := Tryz.zeroValue97
  t66 := Tryz.underlying186
  a66 := Tryz.isAgg186
  z66 := Tryz.sizeOf186
  v66 := Tryz.zeroValue186
  t70 := Tryz.underlying190
  a70 := Tryz.isAgg190
  z70 := Tryz.sizeOf190
  v70 := Tryz.zeroValue190
  t76 := Tryz.underlying219
  a76 := Tryz.isAgg219
  z76 := Tryz.sizeOf219
  v76 := Tryz.zeroValue219
  t77 := Tryz.underlying220
  a77 := Tryz.isAgg220
  z77 := Tryz.sizeOf220
  v77 := Tryz.zeroValue220 }
def Tryz.sortB_ren : Go.Shelf.Ren := ⟨fun | 14 => 61 | 20 => 93 | 21 => 94 | 22 => 95 | 23 => 96 | 24 => 97 | 25 => 98 | 26 => 99 | 27 => 100 | 46 => 134 | 47 => 121 | 48 => 122 | 49 => 135 | 50 => 136 | 15 => 56 | 57 => 157 | 28 => 89 | 29 => 90 | n => n, fun | 24 => 45 | 22 => 26 | 3 => 3 | 25 => 86 | 4 => 4 | 0 => 0 | 46 => 154 | 45 => 153 | 50 => 119 | 66 => 186 | 39 => 116 | 55 => 97 | 70 => 190 | 76 => 219 | 77 => 220 | 53 => 160 | 5 => 5 | 9 => 9 | n => n, fun | n => n⟩
theorem Tryz.sortB : Go.Proofs.SlLaysF0.n14 Tryz.prog Tryz.sortB_ren := {
  mixed := by kernel_rfl
  f14 := ⟨Tryz.f61.name, by decide, Tryz.func61.trans (congrArg some (by kernel_rfl))⟩
  f15 := Tryz.func56.trans (congrArg some (by kernel_rfl))
  f20 := ⟨Tryz.f93.name, by decide, Tryz.func93.trans (congrArg some (by kernel_rfl))⟩
  f21 := ⟨Tryz.f94.name, by decide, Tryz.func94.trans (congrArg some (by kernel_rfl))⟩
  f22 := ⟨Tryz.f95.name, by decide, Tryz.func95.trans (congrArg some (by kernel_rfl))⟩
  f23 := ⟨Tryz.f96.name, by decide, Tryz.func96.trans (congrArg some (by kernel_rfl))⟩
  f24 := ⟨Tryz.f97.name, by decide, Tryz.func97.trans (congrArg some (by kernel_rfl))⟩
  f25 := ⟨Tryz.f98.name, by decide, Tryz.func98.trans (congrArg some (by kernel_rfl))⟩
  f26 := ⟨Tryz.f99.name, by decide, Tryz.func99.trans (congrArg some (by kernel_rfl))⟩
  f27 := ⟨Tryz.f100.name, by decide, Tryz.func100.trans (congrArg some (by kernel_rfl))⟩
  f28 := Tryz.func89.trans (congrArg some (by kernel_rfl))
  f29 := Tryz.func90.trans (congrArg some (by kernel_rfl))
  f46 := ⟨Tryz.f134.name, by decide, Tryz.func134.trans (congrArg some (by kernel_rfl))⟩
  f47 := Tryz.func121.trans (congrArg some (by kernel_rfl))
  f48 := Tryz.func122.trans (congrArg some (by kernel_rfl))
  f49 := ⟨Tryz.f135.name, by decide, Tryz.func135.trans (congrArg some (by kernel_rfl))⟩
  f50 := ⟨Tryz.f136.name, by decide, Tryz.func136.trans (congrArg some (by kernel_rfl))⟩
  f57 := ⟨Tryz.f157.name, by decide, Tryz.func157.trans (congrArg some (by kernel_rfl))⟩
  t0 := Tryz.underlying0
  a0 := Tryz.isAgg0
  z0 := Tryz.sizeOf0
  v0 := Tryz.zeroValue0
  t3 := Tryz.underlying3
  a3 := Tryz.isAgg3
  z3 := Tryz.sizeOf3
  v3 := Tryz.zeroValue3
  t4 := Tryz.underlying4
  a4 := Tryz.isAgg4
  z4 := Tryz.sizeOf4
  v4 := Tryz.zeroValue4
  t5 := Tryz.underlying5
  a5 := Tryz.isAgg5
  z5 := Tryz.sizeOf5
  v5 := Tryz.zeroValue5
  t9 := Tryz.underlying9
  a9 := Tryz.isAgg9
  z9 := Tryz.sizeOf9
  v9 := Tryz.zeroValue9
  t22 := Tryz.underlying26
  a22 := Tryz.isAgg26
  z22 := Tryz.sizeOf26
  v22 := Tryz.zeroValue26
  t25 := Tryz.underlying86
  a25 := Tryz.isAgg86
  z25 := Tryz.sizeOf86
  v25 := Tryz.zeroValue86
  t39 := Tryz.underlying116
  a39 := Tryz.isAgg116
  z39 := Tryz.sizeOf116
  v39 := Tryz.zeroValue116
  t45 := Tryz.underlying153
  a45 := Tryz.isAgg153
  z45 := Tryz.sizeOf153
  v45 := Tryz.zeroValue153
  t46 := Tryz.underlying154
  a46 := Tryz.isAgg154
  z46 := Tryz.sizeOf154
  v46 := Tryz.zeroValue154
  t50 := Tryz.underlying119
  a50 := Tryz.isAgg119
  z50 := Tryz.sizeOf119
  v50 := Tryz.zeroValue119
  t53 := Tryz.underlying160
  a53 := Tryz.isAgg160
  z53 := Tryz.sizeOf160
  v53 := Tryz.zeroValue160
  t55 := Tryz.underlying97
  a55 := Tryz.isAgg97
  z55 := Tryz.sizeOf97
  v55 := Tryz.zeroValue97
  t66 := Tryz.underlying186
  a66 := Tryz.isAgg186
  z66 := Tryz.sizeOf186
  v66 := Tryz.zeroValue186
  t70 := Tryz.underlying190
  a70 := Tryz.isAgg190
  z70 := Tryz.sizeOf190
  v70 := Tryz.zeroValue190
  t76 := Tryz.underlying219
  a76 := Tryz.isAgg219
  z76 := Tryz.sizeOf219
  v76 := Tryz.zeroValue219
  t77 := Tryz.underlying220
  a77 := Tryz.isAgg220
  z77 := Tryz.sizeOf220
  v77 := Tryz.zeroValue220 }
end Go.Proofs
end
