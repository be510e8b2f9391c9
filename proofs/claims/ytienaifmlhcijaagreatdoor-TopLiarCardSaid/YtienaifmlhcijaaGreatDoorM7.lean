/- Parts of the proof, joined: the program logic, the plain theory, the walks, as they are named inside. No condition. -/
import Derived.Test.YtienaifmlhcijaaGreatDoorChecked
import Derived.Test.YtienaifmlhcijaaGreatDoorM2
import Derived.Test.YtienaifmlhcijaaGreatDoorM4
import Derived.Test.YtienaifmlhcijaaGreatDoorM6
import Derived.Test.YtienaifmlhcijaaGreatDoorRows
import Derived.Test.YtienaifmlhcijaaGreatDoorCards
import Derived.Test.YtienaifmlhcijaaGreatDoorTie
import Derived.WalkKit
import Derived.ProofKit
import Derived.OpenShut
import Derived.LaidMore
import Derived.Lay
import Derived.SevenTiedAt
import Derived.Stop.Joined
section
namespace Go.Proofs.YtienaifmlhcijaaGreatDoor
open Go Go.Gw
set_option linter.unusedVariables false
set_option linter.unusedSimpArgs false
section
variable {M : Nat → Prop} {w0 w : World} {l : List Atom}
theorem rowsCap {e : TypeId} {sz : Nat} {α : Type} {enc : α → List Value} {ps : List (Value × List α)} (H : HSat M w0 (RowsA e sz enc ps :: l) w) : HSat M w0 (CapS ps :: RowsA e sz enc ps :: l) w := by
  refine H.ro (CapS ps) rfl (fun p hp => ?_) (fun y _ _ b hb => hb.elim)
  have h := (H.hd : (RowsA e sz enc ps).ok w).1 (OSl e p.1 sz enc p.2) (List.mem_map.2 ⟨p, hp, rfl⟩)
  exact IsOSl.cap h.2
theorem rowsRo {e : TypeId} {sz : Nat} {α : Type} {enc : α → List Value} {ps : List (Value × List α)} (H : HSat M w0 l w) [h : HasAt l (Atom.ro (RowsA e sz enc ps))] : ∀ p ∈ ps, IsSl w p.1 sz enc p.2 := fun p hp =>
  IsOSl.sl ((H.ok (Atom.ro (RowsA e sz enc ps)) h.mem).1 (OSl e p.1 sz enc p.2) (List.mem_map.2 ⟨p, hp, rfl⟩)).2
end
theorem yld_eq {P : Program} {o : Oper} {a : Act} {w : World} {v v' : Value} (h : Yld P o a w v) (e : v = v') : Yld P o a w v' := e ▸ h
theorem any_step {α : Type} {bl : List α} {q : Nat} {f : α → Bool} (h : q < bl.length) : ((bl.take q).any f || f bl[q]) = (bl.take (q + 1)).any f := by
  rw [List.take_succ_eq_append_getElem h, List.any_append]; simp
theorem row_of {s : Ply} {ps : List (Value × List SV)} (h : ps.map (·.2) = s.logs) {j : Nat} (hj : j < 3) (h2 : j < ps.length) : (ps[j]'h2).2 = (s.gs j).log := by
  have e : (ps.map (·.2))[j]'(by simpa using h2) = s.logs[j]'(by show j < 3; exact hj) := by simp only [h]
  rw [List.getElem_map] at e
  rw [e]
  match j, hj with
  | 0, _ => rfl
  | 1, _ => rfl
  | 2, _ => rfl
theorem flat_set_len {α : Type} : ∀ (L : List (List α)) (i : Nat) (c : List α), (L.set i c).flatten.length ≤ L.flatten.length + c.length
  | [], _, _ => by simp
  | x :: L, 0, c => by simp; omega
  | x :: L, i + 1, c => by
    have := flat_set_len L i c
    simp only [List.set_cons_succ, List.flatten_cons, List.length_append]; omega
theorem cut_eq {α : Type} (L : List α) (n : Nat) : ([] ++ (L.take n).drop 0) ++ (L.take L.length).drop (n + 1) = L.take n ++ L.drop (n + 1) := by rw [List.take_length, List.drop_zero, List.nil_append]
def hitB (kd g n : Int) (b : BV) : Bool := ((b.kind == kd) && (b.gate == g)) && (b.number == n)
theorem any_hit {kd g n : Int} {bl : List BV} {q : Nat} (h : q < bl.length) : ((bl.take q).any (hitB kd g n) || ((bl[q].kind == kd) && (bl[q].gate == g)) && (bl[q].number == n)) = (bl.take (q + 1)).any (hitB kd g n) := any_step h
theorem hit_in {kd g n : Int} {xs : List BV} {bl : List BV} (hp : bl.Perm xs) (h : ∃ b ∈ xs, b.kind = kd ∧ b.gate = g ∧ b.number = n) : bl.any (hitB kd g n) = true := by
  obtain ⟨b, hb, h1, h2, h3⟩ := h
  refine List.any_eq_true.2 ⟨b, hp.mem_iff.2 hb, ?_⟩
  unfold hitB; simp [h1, h2, h3]
set_option maxHeartbeats 8000000 in
set_option maxRecDepth 4000 in
/-- foyer/foyertop.TopLiar -/
theorem liar_law (v : Value) (es : List Ev) (which out late : Nat) (w0 : World) (hv : IsSl w0 v 4 encE es) (hT : Tabs w0) (hB : TabBs w0) (hev : ∀ e ∈ es, e.kind < 256 ∧ e.gate < 256 ∧ e.title < 256 ∧ e.after < 256) (hwh : which < 256) (hou : out < 256) (hla : late < 65536) :
    Ret Tryz.prog 5 #[v, .int .u8 (which : Int), .int .u8 (out : Int), .int .u16 (late : Int)] w0 (fun u w => u = .bool true ∧ Ext w0 w) := by
 refine ret_of_wp (nt := 190) Tryz.func5 rfl rfl rfl (fl := [(0, v), (1, .int .u8 (which : Int)), (2, .int .u8 (out : Int)), (3, .int .u16 (late : Int))]) rfl (fun a S => ?_)
 have H := HSat.start w0
 have H := H.ro0 (TabB) rfl (hB)
 have H := H.ro0 (TabsA) rfl (hT)
 have H := H.ro0 (Sl v 4 encE es) rfl (hv)
 have hlv := hv.len
 refine gsr ?_
 refine ga S fun a S => ?_
 refine gnt ?_
 refine gsr ?_
 refine wl_of (op_call (wn rfl) rfl rfl S (co_func rfl Tryz.call6 S rfl) (admits_spec _ H.tabs (tabB_of H)) fun v w hc a S => ?_)
 obtain ⟨rfl, he⟩ := hc
 have H := H.ext he
 refine ga S fun a S => ?_
 refine gnt ?_
 refine g_seq ?_
 refine gsr ?_
 refine gm S fun a S => ?_
 refine gy rfl rfl rfl S (y_lens rfl Tryz.underlying22 S H rfl) fun a S => ?_
 refine gy rfl rfl rfl S (y_bin rfl S rfl rfl rfl) fun a S => ?_
 refine gnt ?_
 refine c_if S rfl (fun h1 => ?_) (fun h1 => ?_)
 ·have h1p := h1; try simp only [DL] at h1p
  refine gsr ?_
  refine gm S fun a S => ?_
  refine ga S fun a S => ?_
  refine gnt ?_
  have S := (((((S.nil.cons S 3 rfl).cons S 2 rfl).cons S 1 rfl).cons S 0 rfl).cons S 9 rfl).cons S 8 rfl
  refine g_ret ?_
  refine r_then (ret1 rfl S rfl ?_)
  exact ⟨rfl, H.toExt⟩
 ·have h1p := h1; try simp only [DL] at h1p
  have hes : es.length ≤ 40 := by have h := h1p; omega
  obtain ⟨jj, hjj⟩ : ∃ j, j = which % 3 := ⟨_, rfl⟩
  obtain ⟨kt, hkt⟩ : ∃ j, j = out % 5 := ⟨_, rfl⟩
  have hj3 : jj < 3 := by omega
  have hkt5 : kt < 5 := by omega
  refine g_skip ?_
  refine n_then ?_
  have S := (((((S.nil.cons S 3 rfl).cons S 2 rfl).cons S 1 rfl).cons S 0 rfl).cons S 8 rfl).cons S 9 rfl
  refine gsr ?_
  refine gm S fun a S => ?_
  refine wl_of (op_call (wn rfl) rfl rfl S (co_func rfl Tryz.call7 S rfl) (gates_spec v es _ (H.sl v) H.tabs (tabB_of H) hes hev) fun v w hc a S => ?_)
  obtain ⟨lgv, ps, tv, wv, rfl, hps, H1⟩ := hc
  obtain ⟨al, hal, hinv, hnow⟩ := play_inv keyF es.length es rfl (fun e he => (hev e he).2.2.2)
  have hsw := (play_small keyF es es.length (Nat.le_refl _)).2
  rw [List.take_length] at hsw
  obtain ⟨s, hs⟩ : ∃ s, s = play keyF es := ⟨_, rfl⟩
  rw [← hs] at H1 hps hinv hnow hsw
  have hm1 := hinv.m1
  have hll := hinv.perm.length_eq
  have H := H.call4 H1 rfl rfl rfl rfl
  have hpl : ps.length = 3 := by have h := congrArg List.length hps; rw [List.length_map] at h; rw [h]; rfl
  refine gm S fun a S => ?_
  refine gy rfl rfl rfl S (y_extract rfl S rfl rfl) fun a S => ?_
  refine gy rfl rfl rfl S (y_extract rfl S rfl rfl) fun a S => ?_
  refine gy rfl rfl rfl S (y_extract rfl S rfl rfl) fun a S => ?_
  refine ga S fun a S => ?_
  refine ga S fun a S => ?_
  refine ga S fun a S => ?_
  refine gnt ?_
  have S := ((((((S.nil.cons S 3 rfl).cons S 2 rfl).cons S 1 rfl).cons S 8 rfl).cons S 9 rfl).cons S 10 rfl).cons S 11 rfl
  refine gsr ?_
  refine gm S fun a S => ?_
  refine gy rfl rfl rfl S (y_conv rfl Tryz.underlying5 Tryz.underlying3 S rfl (by omega)) fun a S => ?_
  refine gy rfl rfl rfl S ((y_remN (m := which) (q := 3) rfl S rfl rfl (by decide))) fun a S => ?_
  rw [← hjj] at S
  refine ga S fun a S => ?_
  refine gnt ?_
  have S := ((((((S.nil.cons S 3 rfl).cons S 2 rfl).cons S 8 rfl).cons S 9 rfl).cons S 10 rfl).cons S 11 rfl).cons S 13 rfl
  refine gsr ?_
  refine gm S fun a S => ?_
  refine gm S fun a S => ?_
  refine gy rfl rfl rfl S (y_conv rfl Tryz.underlying5 Tryz.underlying3 S rfl (by omega)) fun a S => ?_
  refine gy rfl rfl rfl S ((y_remN (m := out) (q := 5) rfl S rfl rfl (by decide))) fun a S => ?_
  rw [← hkt] at S
  refine gy rfl rfl rfl S (y_iaddrn rfl Tryz.underlying25 Fsiz42 S H rfl rfl (by first | assumption | omega | (rw [titL_len]; omega) | (simp only [LL]; omega))) fun a S => ?_
  refine gy rfl rfl rfl S ((yld_eq (v' := .agg (encO (titA s.gone kt)).toArray) (y_loadsa tv rfl S H rfl (by exact Fagg42) (by rw [titL_len]; omega)) (by rw [titL_at]))) fun a S => ?_
  refine wl_of (op_alloc (wn rfl) rfl rfl rfl S H Fzer42 fun b14 a w S H => ?_)
  refine wl_of (op_storea (wn rfl) rfl rfl S H rfl rfl rfl Fsiz42 rfl (cs' := encO (titA s.gone kt)) rfl fun a w S H => ?_)
  refine gnt ?_
  have S := (((((((S.nil.cons S 3 rfl).cons S 2 rfl).cons S 8 rfl).cons S 9 rfl).cons S 10 rfl).cons S 11 rfl).cons S 13 rfl).cons S 14 rfl
  refine g_seq ?_
  refine gsr ?_
  refine gy rfl rfl rfl S (y_faddrb rfl Ffo42_4 S rfl) fun a S => ?_
  refine gy rfl rfl rfl S ((y_load (v := .int .i64 (s.gone.getD kt 0)) rfl Fsca3 S H rfl rfl)) fun a S => ?_
  refine gy rfl rfl rfl S (y_bin rfl S rfl rfl rfl) fun a S => ?_
  refine gnt ?_
  refine cut (fun a w => St 190 [(2, .int .u8 (out : Int)), (8, .bool false), (9, .bool true), (10, lgv), (11, tv), (13, .int .i64 (jj : Int))] a ∧ HSat No w0 [OSl 29 lgv 1 encRow ps, RowsA 32 6 encSV ps, OSl 42 tv 11 encO (titL s.gone)] w) ?_ ?_
  ·skip
   refine c_if S rfl (fun h2 => ?_) (fun h2 => ?_)
   ·have h2p := h2; try simp only [DL] at h2p
    have hg0 : 0 < s.gone.getD kt 0 := by have h := h2p; omega
    refine g_seq ?_
    have hgl := hinv.glen hj3
    have hrow := row_of hps hj3 (by omega)
    have hgq := hinv.gone kt hkt5
    ·skip
     refine region_st (loud := [20, 21]) (tails := [21]) (free := []) [0, 1, 2, 3, 4, 5, 6, 7, 8, 9, 10, 11, 12, 13, 14, 15, 16, 17, 18, 19, 20, 21] [] Fmo (by kernel_rfl) (by kernel_rfl) rfl H ?_
     refine m_w rfl rfl (wn rfl) rfl rfl S (fun w H => y_move rfl S rfl) fun a S => ?_
     refine m_w rfl rfl (wn rfl) rfl rfl S (fun w H => y_add rfl S rfl rfl (by omega)) fun a S => ?_
     refine m_w rfl rfl (wn rfl) rfl rfl S (fun w H => y_move rfl S rfl) fun a S => ?_
     refine m_w rfl rfl (wn rfl) rfl rfl S (fun w H => y_move rfl S rfl) fun a S => ?_
     refine m_w rfl rfl (wn rfl) rfl rfl S (fun w H => y_iaddrn rfl Tryz.underlying24 Fsiz29 S H rfl rfl (by first | assumption | omega | (rw [titL_len]; omega) | (simp only [LL]; omega))) fun a S => ?_
     refine m_loads _ rfl rfl (wn rfl) rfl rfl S rfl Fsca29 rfl (by first | assumption | omega | (rw [titL_len]; omega) | (simp only [LL]; omega)) rfl fun a S => ?_
     refine m_w rfl rfl (wn rfl) rfl rfl S (fun w H => y_lens rfl Tryz.underlying29 S H rfl) fun a S => ?_
     rw [hrow] at S
     refine m_w rfl rfl (wn rfl) rfl rfl S (fun w H => y_add rfl S rfl rfl (by omega)) fun a S => ?_
     refine m_w rfl rfl (wn rfl) rfl rfl S (fun w H => y_faddrb rfl Ffo42_4 S rfl) fun a S => ?_
     refine m_w rfl rfl (wn rfl) rfl rfl S (fun w H => (y_load (v := .int .i64 (s.gone.getD kt 0)) rfl Fsca3 S H rfl rfl)) fun a S => ?_
     refine m_w rfl rfl (wn rfl) rfl rfl S (fun w H => y_add rfl S rfl rfl (by omega)) fun a S => ?_
     refine m_w rfl rfl (wn rfl) rfl rfl S (fun w H => y_add rfl S rfl rfl (by omega)) fun a S => ?_
     refine m_w rfl rfl (wn rfl) rfl rfl S (fun w H => y_move rfl S rfl) fun a S => ?_
     refine m_w rfl rfl (wn rfl) rfl rfl S (fun w H => y_conv rfl Tryz.underlying47 Tryz.underlying3 S rfl (by omega)) fun a S => ?_
     refine m_w rfl rfl (wn rfl) rfl rfl S (fun w H => y_add rfl S rfl rfl (by omega)) fun a S => ?_
     refine m_w rfl rfl (wn rfl) rfl rfl S (fun w H => y_max rfl S rfl rfl) fun a S => ?_
     refine m_w rfl rfl (wn rfl) rfl rfl S (fun w H => y_faddrb rfl Ffo42_0 S rfl) fun a S => ?_
     refine m_w rfl rfl (wn rfl) rfl rfl S (fun w H => y_faddrb rfl Ffo35_0 S rfl) fun a S => ?_
     refine m_w rfl rfl (wn rfl) rfl rfl S (fun w H => (y_load (v := .int .i64 (serK kt)) rfl Fsca3 S H rfl rfl)) fun a S => ?_
     refine m_w rfl rfl (wn rfl) rfl rfl S (fun w H => y_buildf rfl Fbld32 S rfl (idx := [0, 1, 2, 3, 4]) rfl (cs := [.int .i64 ((jj : Int) + 1), .int .i64 (((s.gs jj).log.length : Int) + 1), .int .i64 (max (s.gone.getD kt 0 + 50 + 1 + (late : Int)) 20000), .int .i64 (serK kt), .int .i64 1, .string ⟨#[]⟩]) (by kernel_rfl)) fun a S => ?_
     refine m_l rfl rfl (fun w H => op_alloc (wn rfl) rfl rfl rfl S H Fzer32 fun b15 a w S H => m_next H (List.sublist_cons_self _ _) ?_)
     refine m_l rfl rfl (fun w H => op_storea (wn rfl) rfl rfl S H rfl rfl rfl Fsiz32 rfl (cs' := [_, _, _, _, _, _]) rfl fun a w S H => m_tail H rfl ?_)
     refine m_nil (fun w H => ?_)
     refine n_then ?_
     refine g_seq ?_
     obtain ⟨x, hx⟩ : ∃ x : SV, x = (⟨(jj : Int) + 1, ((s.gs jj).log.length : Int) + 1, max (s.gone.getD kt 0 + 50 + 1 + (late : Int)) 20000, serK kt, 1, ⟨#[]⟩⟩ : SV) := ⟨_, rfl⟩
     have H : HSat No w0 (Cel b15 32 (encSV (⟨(jj : Int) + 1, ((s.gs jj).log.length : Int) + 1, max (s.gone.getD kt 0 + 50 + 1 + (late : Int)) 20000, serK kt, 1, ⟨#[]⟩⟩ : SV)) :: _) w := H
     rw [← hx] at H
     have H := H.freeze
     have hone2 : ∀ p ∈ ps, ∀ u ∈ encRow p, u.oneCell' = true := fun p hp u hu => by rw [List.mem_singleton.1 hu]; exact (H.rws 32 (sz := 6) (enc := encSV) ps p hp).one
     obtain ⟨hown, hlie⟩ := hinv.lie1 hj3 hkt5 hg0 (by omega) (x := x) (by rw [hx]; refine ⟨rfl, rfl, rfl, rfl, ?_⟩; dsimp only; omega)
     have hxl : (s.logs ++ [[x]]).flatten.length = s.logs.flatten.length + 1 := by simp
     ·skip
      refine cut (fun a w => ∃ (u : Value) (bb : Nat), St 190 [(2, .int .u8 (out : Int)), (8, .bool false), (9, .bool true), (10, lgv), (11, tv), (13, .int .i64 (jj : Int)), (15, .pointer (some ⟨b15, 0, none⟩)), (16, u)] a ∧ HSat No w0 [OSl 29 u 1 encRow (([] ++ ps) ++ [((.slice (some ⟨bb, 0, none⟩) 1 1), [x])]), OSl 32 (.slice (some ⟨bb, 0, none⟩) 1 1) 6 encSV [x], OSl 29 lgv 1 encRow ps, RowsA 32 6 encSV ps, OSl 42 tv 11 encO (titL s.gone), Atom.ro (Cel b15 32 (encSV x))] w) ?_ ?_
      ·skip
       refine t_st (tails := [2, 6]) [Atom.ro (Cel b15 32 (encSV x))] Fmo H ?_
       refine t_q 1 rfl (by kernel_rfl) (rem' := [0, 2, 3, 4, 5, 6, 7]) rfl rfl rfl rfl S (fun w H => y_move rfl S rfl) fun a S => ?_
       refine t_f 3 rfl (by kernel_rfl) (rem' := [0, 2, 4, 5, 6, 7]) rfl rfl rfl rfl S (fun w H => y_load0 rfl S H rfl (by exact Fagg32)) fun a S => ?_
       refine t_b [0, 4] (by kernel_rfl) rfl (fa2 ?_ ?_)
       ·refine ⟨_, rfl, fun w H => ?_⟩
        refine op_buildSlice (wn rfl) rfl rfl rfl Tryz.underlying24 Finf29 S H (idx := []) rfl rfl rfl (z := []) (by kernel_rfl) (cs := []) rfl fun b67 a w S H => ?_
        have H := (H.front (Cel b67 29 [])).celO ([] : List (Value × List SV)) encRow 1 (m := 0) rfl (by simp) rfl (by omega)
        refine t_n H (rem' := [2, 4, 5, 6, 7]) rfl ?_
        refine t_b [2, 4] (by kernel_rfl) rfl (fa2 ?_ ?_)
        ·refine ⟨_, rfl, fun w H => ?_⟩
         refine op_appendT (wn rfl) rfl rfl rfl Tryz.underlying24 Finf29 rfl rfl S H rfl rfl (by exact hone2) (by first | assumption | omega | (rw [titL_len]; omega) | (simp only [LL]; omega)) (by first | assumption | omega | (rw [titL_len]; omega) | (simp only [LL]; omega)) fun u69 a w S H => ?_
         refine t_tail H rfl (rem' := [4, 5, 6, 7]) rfl ?_
         refine t_b1 4 (by kernel_rfl) rfl fun w H => ?_
         refine op_buildSlice (wn rfl) rfl rfl rfl Tryz.underlying29 Finf32 S H (idx := [0]) rfl rfl rfl (z := [.int .i64 0, .int .i64 0, .int .i64 0, .int .i64 0, .int .i64 0, .string ⟨#[]⟩]) (by kernel_rfl) (cs := [.int .i64 x.gate, .int .i64 x.number, .int .i64 x.time, .int .i64 x.serial, .int .i64 x.kind, .string x.owner]) (by kernel_rfl) fun b71 a w S H => ?_
         refine t_n H (rem' := [5, 6, 7]) rfl ?_
         refine t_b1 5 (by kernel_rfl) rfl fun w H => ?_
         refine op_buildSlice (wn rfl) rfl rfl rfl Tryz.underlying24 Finf29 S H (idx := [0]) rfl rfl rfl (z := [.slice none 0 0]) (by kernel_rfl) (cs := [_]) rfl fun b72 a w S H => ?_
         refine t_n H (rem' := [6, 7]) rfl ?_
         refine t_b1 6 (by kernel_rfl) rfl fun w H => ?_
         refine op_append ([((.slice (some ⟨b71, 0, none⟩) 1 1, [x]) : Value × List SV)]) (wn rfl) rfl rfl rfl Tryz.underlying24 Finf29 rfl rfl S H rfl rfl rfl rfl (by simp) (by simp [encRow]) (by simp [encRow, Value.oneCell']) (by simp only [LL, List.length_singleton]; omega) (by simp only [LL, List.length_singleton]; omega) fun u73 a w hn73 S H => ?_
         refine t_tail H rfl (rem' := [7]) rfl ?_
         refine t_q 7 rfl (by kernel_rfl) (rem' := []) rfl rfl rfl rfl S (fun w H => y_assign rfl S rfl) fun a S => ?_
         refine t_nil (fun w H => ?_)
         have H := (H.front (Cel b71 32 [.int .i64 x.gate, .int .i64 x.number, .int .i64 x.time, .int .i64 x.serial, .int .i64 x.kind, .string x.owner])).celO [x] encSV 6 (m := 1) rfl (by simp [encSV]) rfl (by omega)
         exact ⟨u73, b71, ((((((((S.nil.cons S 16 rfl).cons S 15 rfl).cons S 13 rfl).cons S 11 rfl).cons S 10 rfl).cons S 9 rfl).cons S 8 rfl).cons S 2 rfl), H.take [OSl 29 u73 1 encRow (([] ++ ps) ++ [((.slice (some ⟨b71, 0, none⟩) 1 1), [x])]), OSl 32 (.slice (some ⟨b71, 0, none⟩) 1 1) 6 encSV [x], OSl 29 lgv 1 encRow ps, RowsA 32 6 encSV ps, OSl 42 tv 11 encO (titL s.gone), Atom.ro (Cel b15 32 (encSV x))]⟩
        ·refine ⟨_, rfl, fun w H => ?_⟩
         refine op_buildSlice (wn rfl) rfl rfl rfl Tryz.underlying29 Finf32 S H (idx := [0]) rfl rfl rfl (z := [.int .i64 0, .int .i64 0, .int .i64 0, .int .i64 0, .int .i64 0, .string ⟨#[]⟩]) (by kernel_rfl) (cs := [.int .i64 x.gate, .int .i64 x.number, .int .i64 x.time, .int .i64 x.serial, .int .i64 x.kind, .string x.owner]) (by kernel_rfl) fun b71 a w S H => ?_
         refine t_n H (rem' := [2, 5, 6, 7]) rfl ?_
         refine t_b [2, 5] (by kernel_rfl) rfl (fa2 ?_ ?_)
         ·refine ⟨_, rfl, fun w H => ?_⟩
          refine op_appendT (wn rfl) rfl rfl rfl Tryz.underlying24 Finf29 rfl rfl S H rfl rfl (by exact hone2) (by first | assumption | omega | (rw [titL_len]; omega) | (simp only [LL]; omega)) (by first | assumption | omega | (rw [titL_len]; omega) | (simp only [LL]; omega)) fun u69 a w S H => ?_
          refine t_tail H rfl (rem' := [5, 6, 7]) rfl ?_
          refine t_b1 5 (by kernel_rfl) rfl fun w H => ?_
          refine op_buildSlice (wn rfl) rfl rfl rfl Tryz.underlying24 Finf29 S H (idx := [0]) rfl rfl rfl (z := [.slice none 0 0]) (by kernel_rfl) (cs := [_]) rfl fun b72 a w S H => ?_
          refine t_n H (rem' := [6, 7]) rfl ?_
          refine t_b1 6 (by kernel_rfl) rfl fun w H => ?_
          refine op_append ([((.slice (some ⟨b71, 0, none⟩) 1 1, [x]) : Value × List SV)]) (wn rfl) rfl rfl rfl Tryz.underlying24 Finf29 rfl rfl S H rfl rfl rfl rfl (by simp) (by simp [encRow]) (by simp [encRow, Value.oneCell']) (by simp only [LL, List.length_singleton]; omega) (by simp only [LL, List.length_singleton]; omega) fun u73 a w hn73 S H => ?_
          refine t_tail H rfl (rem' := [7]) rfl ?_
          refine t_q 7 rfl (by kernel_rfl) (rem' := []) rfl rfl rfl rfl S (fun w H => y_assign rfl S rfl) fun a S => ?_
          refine t_nil (fun w H => ?_)
          have H := (H.front (Cel b71 32 [.int .i64 x.gate, .int .i64 x.number, .int .i64 x.time, .int .i64 x.serial, .int .i64 x.kind, .string x.owner])).celO [x] encSV 6 (m := 1) rfl (by simp [encSV]) rfl (by omega)
          exact ⟨u73, b71, ((((((((S.nil.cons S 16 rfl).cons S 15 rfl).cons S 13 rfl).cons S 11 rfl).cons S 10 rfl).cons S 9 rfl).cons S 8 rfl).cons S 2 rfl), H.take [OSl 29 u73 1 encRow (([] ++ ps) ++ [((.slice (some ⟨b71, 0, none⟩) 1 1), [x])]), OSl 32 (.slice (some ⟨b71, 0, none⟩) 1 1) 6 encSV [x], OSl 29 lgv 1 encRow ps, RowsA 32 6 encSV ps, OSl 42 tv 11 encO (titL s.gone), Atom.ro (Cel b15 32 (encSV x))]⟩
         ·refine ⟨_, rfl, fun w H => ?_⟩
          refine op_buildSlice (wn rfl) rfl rfl rfl Tryz.underlying24 Finf29 S H (idx := [0]) rfl rfl rfl (z := [.slice none 0 0]) (by kernel_rfl) (cs := [_]) rfl fun b72 a w S H => ?_
          refine t_n H (rem' := [2, 6, 7]) rfl ?_
          refine t_b1 2 (by kernel_rfl) rfl fun w H => ?_
          refine op_appendT (wn rfl) rfl rfl rfl Tryz.underlying24 Finf29 rfl rfl S H rfl rfl (by exact hone2) (by first | assumption | omega | (rw [titL_len]; omega) | (simp only [LL]; omega)) (by first | assumption | omega | (rw [titL_len]; omega) | (simp only [LL]; omega)) fun u69 a w S H => ?_
          refine t_tail H rfl (rem' := [6, 7]) rfl ?_
          refine t_b1 6 (by kernel_rfl) rfl fun w H => ?_
          refine op_append ([((.slice (some ⟨b71, 0, none⟩) 1 1, [x]) : Value × List SV)]) (wn rfl) rfl rfl rfl Tryz.underlying24 Finf29 rfl rfl S H rfl rfl rfl rfl (by simp) (by simp [encRow]) (by simp [encRow, Value.oneCell']) (by simp only [LL, List.length_singleton]; omega) (by simp only [LL, List.length_singleton]; omega) fun u73 a w hn73 S H => ?_
          refine t_tail H rfl (rem' := [7]) rfl ?_
          refine t_q 7 rfl (by kernel_rfl) (rem' := []) rfl rfl rfl rfl S (fun w H => y_assign rfl S rfl) fun a S => ?_
          refine t_nil (fun w H => ?_)
          have H := (H.front (Cel b71 32 [.int .i64 x.gate, .int .i64 x.number, .int .i64 x.time, .int .i64 x.serial, .int .i64 x.kind, .string x.owner])).celO [x] encSV 6 (m := 1) rfl (by simp [encSV]) rfl (by omega)
          exact ⟨u73, b71, ((((((((S.nil.cons S 16 rfl).cons S 15 rfl).cons S 13 rfl).cons S 11 rfl).cons S 10 rfl).cons S 9 rfl).cons S 8 rfl).cons S 2 rfl), H.take [OSl 29 u73 1 encRow (([] ++ ps) ++ [((.slice (some ⟨b71, 0, none⟩) 1 1), [x])]), OSl 32 (.slice (some ⟨b71, 0, none⟩) 1 1) 6 encSV [x], OSl 29 lgv 1 encRow ps, RowsA 32 6 encSV ps, OSl 42 tv 11 encO (titL s.gone), Atom.ro (Cel b15 32 (encSV x))]⟩
       ·refine ⟨_, rfl, fun w H => ?_⟩
        refine op_buildSlice (wn rfl) rfl rfl rfl Tryz.underlying29 Finf32 S H (idx := [0]) rfl rfl rfl (z := [.int .i64 0, .int .i64 0, .int .i64 0, .int .i64 0, .int .i64 0, .string ⟨#[]⟩]) (by kernel_rfl) (cs := [.int .i64 x.gate, .int .i64 x.number, .int .i64 x.time, .int .i64 x.serial, .int .i64 x.kind, .string x.owner]) (by kernel_rfl) fun b71 a w S H => ?_
        refine t_n H (rem' := [0, 2, 5, 6, 7]) rfl ?_
        refine t_b [0, 5] (by kernel_rfl) rfl (fa2 ?_ ?_)
        ·refine ⟨_, rfl, fun w H => ?_⟩
         refine op_buildSlice (wn rfl) rfl rfl rfl Tryz.underlying24 Finf29 S H (idx := []) rfl rfl rfl (z := []) (by kernel_rfl) (cs := []) rfl fun b67 a w S H => ?_
         have H := (H.front (Cel b67 29 [])).celO ([] : List (Value × List SV)) encRow 1 (m := 0) rfl (by simp) rfl (by omega)
         refine t_n H (rem' := [2, 5, 6, 7]) rfl ?_
         refine t_b [2, 5] (by kernel_rfl) rfl (fa2 ?_ ?_)
         ·refine ⟨_, rfl, fun w H => ?_⟩
          refine op_appendT (wn rfl) rfl rfl rfl Tryz.underlying24 Finf29 rfl rfl S H rfl rfl (by exact hone2) (by first | assumption | omega | (rw [titL_len]; omega) | (simp only [LL]; omega)) (by first | assumption | omega | (rw [titL_len]; omega) | (simp only [LL]; omega)) fun u69 a w S H => ?_
          refine t_tail H rfl (rem' := [5, 6, 7]) rfl ?_
          refine t_b1 5 (by kernel_rfl) rfl fun w H => ?_
          refine op_buildSlice (wn rfl) rfl rfl rfl Tryz.underlying24 Finf29 S H (idx := [0]) rfl rfl rfl (z := [.slice none 0 0]) (by kernel_rfl) (cs := [_]) rfl fun b72 a w S H => ?_
          refine t_n H (rem' := [6, 7]) rfl ?_
          refine t_b1 6 (by kernel_rfl) rfl fun w H => ?_
          refine op_append ([((.slice (some ⟨b71, 0, none⟩) 1 1, [x]) : Value × List SV)]) (wn rfl) rfl rfl rfl Tryz.underlying24 Finf29 rfl rfl S H rfl rfl rfl rfl (by simp) (by simp [encRow]) (by simp [encRow, Value.oneCell']) (by simp only [LL, List.length_singleton]; omega) (by simp only [LL, List.length_singleton]; omega) fun u73 a w hn73 S H => ?_
          refine t_tail H rfl (rem' := [7]) rfl ?_
          refine t_q 7 rfl (by kernel_rfl) (rem' := []) rfl rfl rfl rfl S (fun w H => y_assign rfl S rfl) fun a S => ?_
          refine t_nil (fun w H => ?_)
          have H := (H.front (Cel b71 32 [.int .i64 x.gate, .int .i64 x.number, .int .i64 x.time, .int .i64 x.serial, .int .i64 x.kind, .string x.owner])).celO [x] encSV 6 (m := 1) rfl (by simp [encSV]) rfl (by omega)
          exact ⟨u73, b71, ((((((((S.nil.cons S 16 rfl).cons S 15 rfl).cons S 13 rfl).cons S 11 rfl).cons S 10 rfl).cons S 9 rfl).cons S 8 rfl).cons S 2 rfl), H.take [OSl 29 u73 1 encRow (([] ++ ps) ++ [((.slice (some ⟨b71, 0, none⟩) 1 1), [x])]), OSl 32 (.slice (some ⟨b71, 0, none⟩) 1 1) 6 encSV [x], OSl 29 lgv 1 encRow ps, RowsA 32 6 encSV ps, OSl 42 tv 11 encO (titL s.gone), Atom.ro (Cel b15 32 (encSV x))]⟩
         ·refine ⟨_, rfl, fun w H => ?_⟩
          refine op_buildSlice (wn rfl) rfl rfl rfl Tryz.underlying24 Finf29 S H (idx := [0]) rfl rfl rfl (z := [.slice none 0 0]) (by kernel_rfl) (cs := [_]) rfl fun b72 a w S H => ?_
          refine t_n H (rem' := [2, 6, 7]) rfl ?_
          refine t_b1 2 (by kernel_rfl) rfl fun w H => ?_
          refine op_appendT (wn rfl) rfl rfl rfl Tryz.underlying24 Finf29 rfl rfl S H rfl rfl (by exact hone2) (by first | assumption | omega | (rw [titL_len]; omega) | (simp only [LL]; omega)) (by first | assumption | omega | (rw [titL_len]; omega) | (simp only [LL]; omega)) fun u69 a w S H => ?_
          refine t_tail H rfl (rem' := [6, 7]) rfl ?_
          refine t_b1 6 (by kernel_rfl) rfl fun w H => ?_
          refine op_append ([((.slice (some ⟨b71, 0, none⟩) 1 1, [x]) : Value × List SV)]) (wn rfl) rfl rfl rfl Tryz.underlying24 Finf29 rfl rfl S H rfl rfl rfl rfl (by simp) (by simp [encRow]) (by simp [encRow, Value.oneCell']) (by simp only [LL, List.length_singleton]; omega) (by simp only [LL, List.length_singleton]; omega) fun u73 a w hn73 S H => ?_
          refine t_tail H rfl (rem' := [7]) rfl ?_
          refine t_q 7 rfl (by kernel_rfl) (rem' := []) rfl rfl rfl rfl S (fun w H => y_assign rfl S rfl) fun a S => ?_
          refine t_nil (fun w H => ?_)
          have H := (H.front (Cel b71 32 [.int .i64 x.gate, .int .i64 x.number, .int .i64 x.time, .int .i64 x.serial, .int .i64 x.kind, .string x.owner])).celO [x] encSV 6 (m := 1) rfl (by simp [encSV]) rfl (by omega)
          exact ⟨u73, b71, ((((((((S.nil.cons S 16 rfl).cons S 15 rfl).cons S 13 rfl).cons S 11 rfl).cons S 10 rfl).cons S 9 rfl).cons S 8 rfl).cons S 2 rfl), H.take [OSl 29 u73 1 encRow (([] ++ ps) ++ [((.slice (some ⟨b71, 0, none⟩) 1 1), [x])]), OSl 32 (.slice (some ⟨b71, 0, none⟩) 1 1) 6 encSV [x], OSl 29 lgv 1 encRow ps, RowsA 32 6 encSV ps, OSl 42 tv 11 encO (titL s.gone), Atom.ro (Cel b15 32 (encSV x))]⟩
        ·refine ⟨_, rfl, fun w H => ?_⟩
         refine op_buildSlice (wn rfl) rfl rfl rfl Tryz.underlying24 Finf29 S H (idx := [0]) rfl rfl rfl (z := [.slice none 0 0]) (by kernel_rfl) (cs := [_]) rfl fun b72 a w S H => ?_
         refine t_n H (rem' := [0, 2, 6, 7]) rfl ?_
         refine t_b1 0 (by kernel_rfl) rfl fun w H => ?_
         refine op_buildSlice (wn rfl) rfl rfl rfl Tryz.underlying24 Finf29 S H (idx := []) rfl rfl rfl (z := []) (by kernel_rfl) (cs := []) rfl fun b67 a w S H => ?_
         have H := (H.front (Cel b67 29 [])).celO ([] : List (Value × List SV)) encRow 1 (m := 0) rfl (by simp) rfl (by omega)
         refine t_n H (rem' := [2, 6, 7]) rfl ?_
         refine t_b1 2 (by kernel_rfl) rfl fun w H => ?_
         refine op_appendT (wn rfl) rfl rfl rfl Tryz.underlying24 Finf29 rfl rfl S H rfl rfl (by exact hone2) (by first | assumption | omega | (rw [titL_len]; omega) | (simp only [LL]; omega)) (by first | assumption | omega | (rw [titL_len]; omega) | (simp only [LL]; omega)) fun u69 a w S H => ?_
         refine t_tail H rfl (rem' := [6, 7]) rfl ?_
         refine t_b1 6 (by kernel_rfl) rfl fun w H => ?_
         refine op_append ([((.slice (some ⟨b71, 0, none⟩) 1 1, [x]) : Value × List SV)]) (wn rfl) rfl rfl rfl Tryz.underlying24 Finf29 rfl rfl S H rfl rfl rfl rfl (by simp) (by simp [encRow]) (by simp [encRow, Value.oneCell']) (by simp only [LL, List.length_singleton]; omega) (by simp only [LL, List.length_singleton]; omega) fun u73 a w hn73 S H => ?_
         refine t_tail H rfl (rem' := [7]) rfl ?_
         refine t_q 7 rfl (by kernel_rfl) (rem' := []) rfl rfl rfl rfl S (fun w H => y_assign rfl S rfl) fun a S => ?_
         refine t_nil (fun w H => ?_)
         have H := (H.front (Cel b71 32 [.int .i64 x.gate, .int .i64 x.number, .int .i64 x.time, .int .i64 x.serial, .int .i64 x.kind, .string x.owner])).celO [x] encSV 6 (m := 1) rfl (by simp [encSV]) rfl (by omega)
         exact ⟨u73, b71, ((((((((S.nil.cons S 16 rfl).cons S 15 rfl).cons S 13 rfl).cons S 11 rfl).cons S 10 rfl).cons S 9 rfl).cons S 8 rfl).cons S 2 rfl), H.take [OSl 29 u73 1 encRow (([] ++ ps) ++ [((.slice (some ⟨b71, 0, none⟩) 1 1), [x])]), OSl 32 (.slice (some ⟨b71, 0, none⟩) 1 1) 6 encSV [x], OSl 29 lgv 1 encRow ps, RowsA 32 6 encSV ps, OSl 42 tv 11 encO (titL s.gone), Atom.ro (Cel b15 32 (encSV x))]⟩
      rintro a w ⟨u, bb, S, H⟩
      refine gsr ?_
      refine ga S fun a S => ?_
      refine gnt ?_
      refine gsr ?_
      refine gm S fun a S => ?_
      refine wl_of (op_call (wn rfl) rfl rfl S (co_func rfl Tryz.call8 S rfl) (merge_t u (([] ++ ps) ++ [((.slice (some ⟨bb, 0, none⟩) 1 1), [x])]) _ (s.logs ++ [[x]]) (by rw [List.map_append, List.nil_append, hps]; rfl) (H.sl u) (fun p hp => by rcases List.mem_append.1 hp with hp | hp; exact H.rws 32 ps p (by simpa using hp); rw [List.mem_singleton.1 hp]; exact H.sl (.slice (some ⟨bb, 0, none⟩) 1 1)) (by omega) ((sortL_perm ordS _).nodup_iff.1 hown.nodup)) fun u75 w hc a S => ?_)
      have H1 := hc
      have H := H.call1 H1 rfl
      refine gm S fun a S => ?_
      refine wl_of (op_call (wn rfl) rfl rfl S (co_func rfl Tryz.call9 S rfl) (blames_t u75 (sortL ordS (s.logs ++ [[x]]).flatten) tv (titL s.gone) _ (H.sl u75) (H.sl tv) hown (sortS_sortS _) (by rw [(sortL_perm ordS _).length_eq]; omega)) fun u77 w hc a S => ?_)
      have H1 := hc
      rw [titL_pairs] at H1
      obtain ⟨bl, hbl⟩ : ∃ b, b = sortL ordB (BL s.pairs 50 (sortL ordS (s.logs ++ [[x]]).flatten)) := ⟨_, rfl⟩
      have hbp := sortL_perm ordB (BL s.pairs 50 (sortL ordS (s.logs ++ [[x]]).flatten))
      rw [← hbl] at H1 hbp
      have H := H.call1 H1 rfl
      have hbll := (H.sl u77).len
      refine ga S fun a S => ?_
      refine gnt ?_
      refine g_seq ?_
      refine gsr ?_
      refine ga S fun a S => ?_
      refine gnt ?_
      refine g_block ?_
      have SU := (((((((S.nil.cons S 15 rfl).cons S 13 rfl).cons S 11 rfl).cons S 10 rfl).cons S 9 rfl).cons S 8 rfl).cons S 2 rfl).cons S 18 rfl
      refine loop_k (X := Nat) SU (fun k => [(19, .int .i64 (k : Int)), (17, .bool ((bl.take k).any (hitB 4 ((jj : Int) + 1) x.number)))]) (fun k => k ≤ bl.length) (fun k => bl.length - k) 0 ((S.nil.cons S 17 rfl).cons S 19 rfl) H (Nat.zero_le _) (fun k a w S H hi => ?_)
      simp only [List.cons_append, List.nil_append] at S hi
      have hk := hi
      refine g_seq ?_
      refine gsr ?_
      refine gm S fun a S => ?_
      refine gm S fun a S => ?_
      refine gy rfl rfl rfl S (y_lens rfl Tryz.underlying26 S H rfl) fun a S => ?_
      refine gy rfl rfl rfl S (y_bin rfl S rfl rfl rfl) fun a S => ?_
      refine gnt ?_
      refine c_if S rfl (fun h3 => ?_) (fun h3 => ?_)
      ·have h3p := h3; try simp only [DL] at h3p
       have hkl : k < bl.length := by omega
       refine g_skip ?_
       refine n_then ?_
       refine g_seq ?_
       refine g_block ?_
       refine region_st (loud := []) (tails := []) (free := []) [0, 1, 2, 3, 4, 5, 6, 7, 8, 9, 10, 11, 12, 13, 14, 15, 16, 17, 18, 19, 20, 21, 22, 23, 24, 25, 26, 27, 28, 29] [] Fmo (by kernel_rfl) (by kernel_rfl) rfl H ?_
       refine m_w rfl rfl (wn rfl) rfl rfl S (fun w H => y_move rfl S rfl) fun a S => ?_
       refine m_w rfl rfl (wn rfl) rfl rfl S (fun w H => y_move rfl S rfl) fun a S => ?_
       refine' m_orq [2, 3, 4, 5, 6, 7, 8, 9, 10, 11, 12, 13, 14, 15, 16, 17, 18, 19, 20, 21, 22, 23, 24, 25, 26, 27] 85 S rfl rfl rfl rfl rfl rfl rfl rfl rfl (fun _ S => (wn rfl)) (fun h4 kk => ?yh4) (fun a S => ?_)
       case yh4 =>
        have h4p := h4; try simp only [DL] at h4p
        refine m_w rfl rfl (wg' 85 rfl rfl S rfl h4 rfl) rfl rfl S (fun w H => y_move rfl S rfl) fun a S => ?_
        refine m_w rfl rfl (wg' 85 rfl rfl S rfl h4 rfl) rfl rfl S (fun w H => y_move rfl S rfl) fun a S => ?_
        refine m_w rfl rfl (wg' 85 rfl rfl S rfl h4 rfl) rfl rfl S (fun w H => y_iaddrn rfl Tryz.underlying26 Fsiz45 S H rfl rfl (by first | assumption | omega | (rw [titL_len]; omega) | (simp only [LL]; omega))) fun a S => ?_
        refine m_w rfl rfl (wg' 85 rfl rfl S rfl h4 rfl) rfl rfl S (fun w H => y_faddr rfl Ffo45_0 S rfl) fun a S => ?_
        refine m_loadsf _ rfl rfl (wg' 85 rfl rfl S rfl h4 rfl) rfl rfl S rfl Fsca3 rfl (by first | assumption | omega | (rw [titL_len]; omega) | (simp only [LL]; omega)) rfl fun a S => ?_
        refine m_w rfl rfl (wg' 85 rfl rfl S rfl h4 rfl) rfl rfl S (fun w H => y_bin rfl S rfl rfl rfl) fun a S => ?_
        refine m_w rfl rfl (wg' 85 rfl rfl S rfl h4 rfl) rfl rfl S (fun w H => y_move rfl S rfl) fun a S => ?_
        refine' m_andq [9, 10, 11, 12, 13, 14, 15, 16] 92 S rfl rfl rfl rfl rfl rfl rfl rfl rfl (fun _ S => (wg' 85 rfl rfl S rfl h4 rfl)) (fun h5 kk => ?yh5) (fun a S => ?_)
        case yh5 =>
         have h5p := h5; try simp only [DL] at h5p
         refine m_w rfl rfl (wg' 92 rfl rfl S rfl h5 rfl) rfl rfl S (fun w H => y_move rfl S rfl) fun a S => ?_
         refine m_w rfl rfl (wg' 92 rfl rfl S rfl h5 rfl) rfl rfl S (fun w H => y_move rfl S rfl) fun a S => ?_
         refine m_w rfl rfl (wg' 92 rfl rfl S rfl h5 rfl) rfl rfl S (fun w H => y_iaddrn rfl Tryz.underlying26 Fsiz45 S H rfl rfl (by first | assumption | omega | (rw [titL_len]; omega) | (simp only [LL]; omega))) fun a S => ?_
         refine m_w rfl rfl (wg' 92 rfl rfl S rfl h5 rfl) rfl rfl S (fun w H => y_faddr rfl Ffo45_2 S rfl) fun a S => ?_
         refine m_loadsf _ rfl rfl (wg' 92 rfl rfl S rfl h5 rfl) rfl rfl S rfl Fsca3 rfl (by first | assumption | omega | (rw [titL_len]; omega) | (simp only [LL]; omega)) rfl fun a S => ?_
         refine m_w rfl rfl (wg' 92 rfl rfl S rfl h5 rfl) rfl rfl S (fun w H => y_move rfl S rfl) fun a S => ?_
         refine m_w rfl rfl (wg' 92 rfl rfl S rfl h5 rfl) rfl rfl S (fun w H => y_add rfl S rfl rfl (by omega)) fun a S => ?_
         refine m_w rfl rfl (wg' 92 rfl rfl S rfl h5 rfl) rfl rfl S (fun w H => y_bin rfl S rfl rfl rfl) fun a S => ?_
         refine m_w rfl rfl (wg' 85 rfl rfl S rfl h4 rfl) rfl rfl S (fun w H => y_and' rfl h5 S rfl rfl) fun a S => ?_
         exact kk _ (S.join 9 101 rfl rfl)
        refine m_w rfl rfl (wg' 85 rfl rfl S rfl h4 rfl) rfl rfl S (fun w H => y_move rfl S rfl) fun a S => ?_
        refine' m_andq [19, 20, 21, 22, 23, 24, 25, 26] 102 S rfl rfl rfl rfl rfl rfl rfl rfl rfl (fun _ S => (wg' 85 rfl rfl S rfl h4 rfl)) (fun h6 kk => ?yh6) (fun a S => ?_)
        case yh6 =>
         have h6p := h6; try simp only [DL] at h6p
         refine m_w rfl rfl (wg' 102 rfl rfl S rfl h6 rfl) rfl rfl S (fun w H => y_move rfl S rfl) fun a S => ?_
         refine m_w rfl rfl (wg' 102 rfl rfl S rfl h6 rfl) rfl rfl S (fun w H => y_move rfl S rfl) fun a S => ?_
         refine m_w rfl rfl (wg' 102 rfl rfl S rfl h6 rfl) rfl rfl S (fun w H => y_iaddrn rfl Tryz.underlying26 Fsiz45 S H rfl rfl (by first | assumption | omega | (rw [titL_len]; omega) | (simp only [LL]; omega))) fun a S => ?_
         refine m_w rfl rfl (wg' 102 rfl rfl S rfl h6 rfl) rfl rfl S (fun w H => y_faddr rfl Ffo45_3 S rfl) fun a S => ?_
         refine m_loadsf _ rfl rfl (wg' 102 rfl rfl S rfl h6 rfl) rfl rfl S rfl Fsca3 rfl (by first | assumption | omega | (rw [titL_len]; omega) | (simp only [LL]; omega)) rfl fun a S => ?_
         refine m_w rfl rfl (wg' 102 rfl rfl S rfl h6 rfl) rfl rfl S (fun w H => y_faddrb rfl Ffo32_1 S rfl) fun a S => ?_
         refine m_w rfl rfl (wg' 102 rfl rfl S rfl h6 rfl) rfl rfl S (fun w H => (y_load (v := .int .i64 x.number) rfl Fsca3 S H rfl rfl)) fun a S => ?_
         refine m_w rfl rfl (wg' 102 rfl rfl S rfl h6 rfl) rfl rfl S (fun w H => y_bin rfl S rfl rfl rfl) fun a S => ?_
         refine m_w rfl rfl (wg' 85 rfl rfl S rfl h4 rfl) rfl rfl S (fun w H => y_and' rfl h6 S rfl rfl) fun a S => ?_
         exact kk _ (S.join 9 111 rfl rfl)
        refine m_w rfl rfl (wn rfl) rfl rfl S (fun w H => y_or' rfl h4 S rfl rfl) fun a S => ?_
        exact kk _ (S.join 11 112 rfl rfl)
       refine m_w rfl rfl (wn rfl) rfl rfl S (fun w H => y_assign rfl S rfl) fun a S => ?_
       refine m_nil (fun w H => ?_)
       refine n_block ?_
       refine n_then ?_
       refine g_region ?_
       refine gm S fun a S => ?_
       refine gy rfl rfl rfl S (y_add rfl S rfl rfl (by omega)) fun a S => ?_
       refine ga S fun a S => ?_
       refine gnt ?_
       rw [any_hit hkl] at S
       exact ⟨k + 1, (S.nil.cons S 17 rfl).cons S 19 rfl, (((((((S.nil.cons S 15 rfl).cons S 13 rfl).cons S 11 rfl).cons S 10 rfl).cons S 9 rfl).cons S 8 rfl).cons S 2 rfl).cons S 18 rfl, H, by omega, by omega⟩
      ·have h3p := h3; try simp only [DL] at h3p
       obtain rfl : k = bl.length := by omega
       rw [List.take_length, hit_in hbp hlie] at S
       refine g_exit ?_
       refine x_then (x_then (x_eq ?_))
       refine n_then ?_
       refine gsr ?_
       refine gm S fun a S => ?_
       refine gy rfl rfl rfl S (y_not rfl S rfl) fun a S => ?_
       refine gnt ?_
       refine c_if S rfl (fun h7 => ?_) (fun h7 => ?_)
       ·have h7p := h7; try simp only [DL] at h7p
        all_goals (
          exfalso
          have h := h7
          simp at h)
       ·have h7p := h7; try simp only [DL] at h7p
        refine g_skip ?_
        refine n_then ?_
        exact ⟨((((((S.nil.cons S 13 rfl).cons S 11 rfl).cons S 10 rfl).cons S 9 rfl).cons S 8 rfl).cons S 2 rfl), H.take [OSl 29 lgv 1 encRow ps, RowsA 32 6 encSV ps, OSl 42 tv 11 encO (titL s.gone)]⟩
   ·have h2p := h2; try simp only [DL] at h2p
    refine g_skip ?_
    refine n_then ?_
    exact ⟨((((((S.nil.cons S 13 rfl).cons S 11 rfl).cons S 10 rfl).cons S 9 rfl).cons S 8 rfl).cons S 2 rfl), H.take [OSl 29 lgv 1 encRow ps, RowsA 32 6 encSV ps, OSl 42 tv 11 encO (titL s.gone)]⟩
  rintro a w ⟨S, H⟩
  refine g_seq ?_
  refine g_seq ?_
  have hgl := hinv.glen hj3
  have hrow := row_of hps hj3 (by omega)
  ·skip
   refine g_region ?_
   refine gm S fun a S => ?_
   refine gm S fun a S => ?_
   refine gy rfl rfl rfl S (y_iaddrn rfl Tryz.underlying24 Fsiz29 S H rfl rfl (by first | assumption | omega | (rw [titL_len]; omega) | (simp only [LL]; omega))) fun a S => ?_
   refine gy rfl rfl rfl S (y_loads _ rfl Fsca29 S H rfl (by first | assumption | omega | (rw [titL_len]; omega) | (simp only [LL]; omega)) rfl) fun a S => ?_
   refine gy rfl rfl rfl S (y_lens rfl Tryz.underlying29 S H rfl) fun a S => ?_
   rw [hrow] at S
   refine gy rfl rfl rfl S (y_bin rfl S rfl rfl rfl) fun a S => ?_
   refine gnt ?_
   have S := ((((((S.nil.cons S 13 rfl).cons S 11 rfl).cons S 10 rfl).cons S 9 rfl).cons S 8 rfl).cons S 2 rfl).cons S 120 rfl
   refine c_if S rfl (fun h8 => ?_) (fun h8 => ?_)
   ·have h8p := h8; try simp only [DL] at h8p
    refine gsr ?_
    refine gm S fun a S => ?_
    refine ga S fun a S => ?_
    refine gnt ?_
    refine g_ret ?_
    refine r_then (ret1 rfl S rfl ?_)
    exact ⟨rfl, H.toExt⟩
   ·have h8p := h8; try simp only [DL] at h8p
    refine g_skip ?_
    refine n_then ?_
    refine gsr ?_
    refine gm S fun a S => ?_
    refine gy rfl rfl rfl S (y_conv rfl Tryz.underlying5 Tryz.underlying3 S rfl (by omega)) fun a S => ?_
    refine gm S fun a S => ?_
    refine gm S fun a S => ?_
    refine gy rfl rfl rfl S (y_iaddrn rfl Tryz.underlying24 Fsiz29 S H rfl rfl (by first | assumption | omega | (rw [titL_len]; omega) | (simp only [LL]; omega))) fun a S => ?_
    refine gy rfl rfl rfl S (y_loads _ rfl Fsca29 S H rfl (by first | assumption | omega | (rw [titL_len]; omega) | (simp only [LL]; omega)) rfl) fun a S => ?_
    refine gy rfl rfl rfl S (y_lens rfl Tryz.underlying29 S H rfl) fun a S => ?_
    rw [hrow] at S
    refine gy rfl rfl rfl S ((y_subn (m := (s.gs jj).log.length - 1) rfl S rfl rfl (by omega) (by omega))) fun a S => ?_
    refine gy rfl rfl rfl S ((y_remN (m := out) (q := (s.gs jj).log.length - 1) rfl S rfl rfl (by omega))) fun a S => ?_
    obtain ⟨n, hn⟩ : ∃ n, n = out % ((s.gs jj).log.length - 1) := ⟨_, rfl⟩
    rw [← hn] at S
    have hnl : n + 1 < (s.gs jj).log.length := by have := Nat.mod_lt out (show 0 < (s.gs jj).log.length - 1 by omega); omega
    obtain ⟨hown, hlie⟩ := hinv.lie2 (by omega) hj3 hnl
    have hrwl : (ps[jj]'(by omega)).2.length = (s.gs jj).log.length := by rw [hrow]
    have hcl : (s.logs.set jj ((s.gs jj).log.take n ++ (s.gs jj).log.drop (n + 1))).flatten.length ≤ 1000 := by
      have h := (List.Sublist.length_le (cutAt_sub (s.gs jj).log n))
      have h2 : (s.logs.set jj ((s.gs jj).log.take n ++ (s.gs jj).log.drop (n + 1))).flatten.length ≤ s.logs.flatten.length + ((s.gs jj).log.take n ++ (s.gs jj).log.drop (n + 1)).length := flat_set_len s.logs jj ((s.gs jj).log.take n ++ (s.gs jj).log.drop (n + 1))
      have := hinv.glen hj3; omega
    refine ga S fun a S => ?_
    refine gnt ?_
    have S := (((((S.nil.cons S 13 rfl).cons S 11 rfl).cons S 10 rfl).cons S 9 rfl).cons S 8 rfl).cons S 20 rfl
    refine g_seq ?_
    have hone2 : ∀ p ∈ ps, ∀ u ∈ encRow p, u.oneCell' = true := fun p hp u hu => by rw [List.mem_singleton.1 hu]; exact (H.rws 32 (sz := 6) (enc := encSV) ps p hp).one
    ·skip
     refine g_region ?_
     refine wl_of (op_buildSlice (wn rfl) rfl rfl rfl Tryz.underlying24 Finf29 S H (idx := []) rfl rfl rfl (z := []) (by kernel_rfl) (cs := []) rfl fun b131 a w S H => ?_)
     have H := (H.front (Cel b131 29 [])).celO ([] : List (Value × List SV)) encRow 1 (m := 0) rfl (by simp) rfl (by omega)
     refine gm S fun a S => ?_
     refine wl_of (op_appendT (wn rfl) rfl rfl rfl Tryz.underlying24 Finf29 rfl rfl S H rfl rfl (by exact hone2) (by first | assumption | omega | (rw [titL_len]; omega) | (simp only [LL]; omega)) (by first | assumption | omega | (rw [titL_len]; omega) | (simp only [LL]; omega)) fun u133 a w S H => ?_)
     refine ga S fun a S => ?_
     refine gnt ?_
     refine g_seq ?_
     have H := (rowsCap (H.front (RowsA 32 6 encSV ps)))
     have H := (H.front (RowsA 32 6 encSV ps)).freeze
     have H := (H.front (OSl 29 lgv 1 encRow ps)).freeze
     ·skip
      refine region_st (loud := [2, 9, 17, 19]) (tails := [9, 17, 19]) (free := [0, 1, 10, 11, 12, 13, 14, 15, 16]) [0, 1, 3, 4, 5, 6, 7, 8, 10, 11, 12, 13, 14, 15, 16, 2, 9, 17, 18, 19] [Atom.ro (OSl 29 lgv 1 encRow ps), Atom.ro (RowsA 32 6 encSV ps), CapS ps] Fmo (by kernel_rfl) (by kernel_rfl) rfl H ?_
      refine m_f rfl rfl (wn rfl) rfl rfl S (fun w H => y_move rfl S rfl) fun a S => ?_
      refine m_f rfl rfl (wn rfl) rfl rfl S (fun w H => y_move rfl S rfl) fun a S => ?_
      refine m_w rfl rfl (wn rfl) rfl rfl S (fun w H => y_move rfl S rfl) fun a S => ?_
      refine m_w rfl rfl (wn rfl) rfl rfl S (fun w H => y_move rfl S rfl) fun a S => ?_
      refine m_w rfl rfl (wn rfl) rfl rfl S (fun w H => y_iaddrn rfl Tryz.underlying24 Fsiz29 S H rfl rfl (by first | assumption | omega | (rw [titL_len]; omega) | (simp only [LL]; omega))) fun a S => ?_
      refine m_loads _ rfl rfl (wn rfl) rfl rfl S rfl Fsca29 rfl (by first | assumption | omega | (rw [titL_len]; omega) | (simp only [LL]; omega)) rfl fun a S => ?_
      refine m_w rfl rfl (wn rfl) rfl rfl S (fun w H => y_move rfl S rfl) fun a S => ?_
      refine m_w rfl rfl (wn rfl) rfl rfl S (fun w H => y_sliceH rfl Tryz.underlying29 Fsiz32 S H rfl rfl (by first | assumption | omega | (rw [titL_len]; omega) | (simp only [LL]; omega))) fun a S => ?_
      refine m_f rfl rfl (wn rfl) rfl rfl S (fun w H => y_move rfl S rfl) fun a S => ?_
      refine m_f rfl rfl (wn rfl) rfl rfl S (fun w H => y_move rfl S rfl) fun a S => ?_
      refine m_f rfl rfl (wn rfl) rfl rfl S (fun w H => y_iaddrn rfl Tryz.underlying24 Fsiz29 S H rfl rfl (by first | assumption | omega | (rw [titL_len]; omega) | (simp only [LL]; omega))) fun a S => ?_
      refine m_floads _ rfl rfl (wn rfl) rfl rfl S rfl Fsca29 rfl (by first | assumption | omega | (rw [titL_len]; omega) | (simp only [LL]; omega)) rfl fun a S => ?_
      refine m_f rfl rfl (wn rfl) rfl rfl S (fun w H => y_move rfl S rfl) fun a S => ?_
      refine m_f rfl rfl (wn rfl) rfl rfl S (fun w H => y_add rfl S rfl rfl (by omega)) fun a S => ?_
      refine m_f rfl rfl (wn rfl) rfl rfl S (fun w H => y_sliceL rfl Tryz.underlying29 Fsiz32 S H rfl rfl (by first | assumption | omega | (rw [titL_len]; omega) | (simp only [LL]; omega))) fun a S => ?_
      refine m_l rfl rfl (fun w H => op_buildSlice (wn rfl) rfl rfl rfl Tryz.underlying29 Finf32 S H (idx := []) rfl rfl rfl (z := []) (by kernel_rfl) (cs := []) rfl fun b136 a w S H => ?_)
      have H := (H.front (Cel b136 32 [])).celO ([] : List SV) encSV 6 (m := 0) rfl (by simp) rfl (by omega)
      refine m_next H (by repeat (first | exact List.Sublist.refl _ | apply List.Sublist.cons)) ?_
      refine m_l rfl rfl (fun w H => op_appendT (wn rfl) rfl rfl rfl Tryz.underlying29 Finf32 rfl rfl S H rfl rfl (by simp [encSV, Value.oneCell']) (by first | assumption | omega | (rw [titL_len]; omega) | (simp only [LL]; omega)) (by first | assumption | omega | (rw [titL_len]; omega) | (simp only [LL]; omega)) fun u143 a w S H => m_tail H rfl ?_)
      refine m_l rfl rfl (fun w H => op_appendT (wn rfl) rfl rfl rfl Tryz.underlying29 Finf32 rfl rfl S H rfl rfl (by simp [encSV, Value.oneCell']) (by first | assumption | omega | (rw [titL_len]; omega) | (simp only [LL]; omega)) (by first | assumption | omega | (rw [titL_len]; omega) | (simp only [LL]; omega)) fun u151 a w S H => m_tail H rfl ?_)
      refine m_w rfl rfl (wn rfl) rfl rfl S (fun w H => y_iaddrn rfl Tryz.underlying24 Fsiz29 S H rfl rfl (by first | assumption | omega | (rw [titL_len]; omega) | (simp only [LL]; omega))) fun a S => ?_
      refine m_l rfl rfl (fun w H => op_store1 _ (((u151, ((s.gs jj).log.take n ++ (s.gs jj).log.drop (n + 1))) : Value × List SV)) (wn rfl) rfl rfl S H rfl rfl (H.slc _) (H.sl1 _) Fsiz29 (by first | assumption | omega | (rw [titL_len]; omega) | (simp only [LL]; omega)) (by exact rfl) fun a w S H => m_tail H rfl ?_)
      refine m_nil (fun w H => ?_)
      refine n_then ?_
      have S := (((((S.nil.cons S 13 rfl).cons S 11 rfl).cons S 9 rfl).cons S 8 rfl).cons S 20 rfl).cons S 21 rfl
      refine g_seq ?_
      have H := (H.front (OSl 32 u151 6 encSV (([] ++ (ps[jj].2.take n).drop 0) ++ (ps[jj].2.take ps[jj].2.length).drop (n + 1))))
      rw [hrow, cut_eq] at H
      have hrws : ∀ p ∈ ps, IsSl w p.1 6 encSV p.2 := rowsRo (e := 32) H
      ·skip
       refine g_region ?_
       refine gm S fun a S => ?_
       refine wl_of (op_call (wn rfl) rfl rfl S (co_func rfl Tryz.call8 S rfl) (merge_t u133 ((([] ++ ps)).set jj (u151, ((s.gs jj).log.take n ++ (s.gs jj).log.drop (n + 1)))) _ (s.logs.set jj ((s.gs jj).log.take n ++ (s.gs jj).log.drop (n + 1))) (by rw [List.nil_append, List.map_set, hps]) (H.sl u133) (fun p hp => by rcases List.mem_or_eq_of_mem_set hp with hp | hp; exact hrws p (by simpa using hp) ; rw [hp]; exact H.sl u151) (by omega) ((sortL_perm ordS _).nodup_iff.1 hown.nodup)) fun u154 w hc a S => ?_)
       have H1 := hc
       have H := H.call1 H1 rfl
       refine gm S fun a S => ?_
       refine wl_of (op_call (wn rfl) rfl rfl S (co_func rfl Tryz.call9 S rfl) (blames_t u154 (sortL ordS (s.logs.set jj ((s.gs jj).log.take n ++ (s.gs jj).log.drop (n + 1))).flatten) tv (titL s.gone) _ (H.sl u154) (H.sl tv) hown (sortS_sortS _) (by rw [(sortL_perm ordS _).length_eq]; omega)) fun u156 w hc a S => ?_)
       have H1 := hc
       rw [titL_pairs] at H1
       obtain ⟨bl, hbl⟩ : ∃ b, b = sortL ordB (BL s.pairs 50 (sortL ordS (s.logs.set jj ((s.gs jj).log.take n ++ (s.gs jj).log.drop (n + 1))).flatten)) := ⟨_, rfl⟩
       have hbp := sortL_perm ordB (BL s.pairs 50 (sortL ordS (s.logs.set jj ((s.gs jj).log.take n ++ (s.gs jj).log.drop (n + 1))).flatten))
       rw [← hbl] at H1 hbp
       have H := H.call1 H1 rfl
       have hbll := (H.sl u156).len
       refine ga S fun a S => ?_
       refine gnt ?_
       have S := ((((S.nil.cons S 13 rfl).cons S 9 rfl).cons S 8 rfl).cons S 20 rfl).cons S 22 rfl
       refine g_seq ?_
       refine gsr ?_
       refine ga S fun a S => ?_
       refine gnt ?_
       refine g_block ?_
       have SU := (((S.nil.cons S 13 rfl).cons S 9 rfl).cons S 20 rfl).cons S 22 rfl
       refine loop_k (X := Nat) SU (fun k => [(23, .int .i64 (k : Int))]) (fun k => k ≤ bl.length ∧ ∀ q (hq : q < bl.length), q < k → hitB 3 ((jj : Int) + 1) ((n : Int) + 1) bl[q] = false) (fun k => bl.length - k) 0 (S.nil.cons S 23 rfl) H (⟨Nat.zero_le _, fun q hq h => by omega⟩) (fun k a w S H hi => ?_)
       simp only [List.cons_append, List.nil_append] at S hi
       obtain ⟨hk, hno⟩ := hi
       refine g_seq ?_
       refine gsr ?_
       refine gm S fun a S => ?_
       refine gm S fun a S => ?_
       refine gy rfl rfl rfl S (y_lens rfl Tryz.underlying26 S H rfl) fun a S => ?_
       refine gy rfl rfl rfl S (y_bin rfl S rfl rfl rfl) fun a S => ?_
       refine gnt ?_
       refine c_if S rfl (fun h9 => ?_) (fun h9 => ?_)
       ·have h9p := h9; try simp only [DL] at h9p
        have hkl : k < bl.length := by omega
        refine g_skip ?_
        refine n_then ?_
        have S := ((((S.nil.cons S 13 rfl).cons S 9 rfl).cons S 20 rfl).cons S 22 rfl).cons S 23 rfl
        refine g_seq ?_
        refine g_block ?_
        refine gsr ?_
        refine gm S fun a S => ?_
        refine gm S fun a S => ?_
        refine gy rfl rfl rfl S (y_iaddrn rfl Tryz.underlying26 Fsiz45 S H rfl rfl (by first | assumption | omega | (rw [titL_len]; omega) | (simp only [LL]; omega))) fun a S => ?_
        refine gy rfl rfl rfl S (y_faddr rfl Ffo45_0 S rfl) fun a S => ?_
        refine gy rfl rfl rfl S (y_loadsf _ rfl Fsca3 S H rfl (by first | assumption | omega | (rw [titL_len]; omega) | (simp only [LL]; omega)) rfl) fun a S => ?_
        refine gy rfl rfl rfl S (y_bin rfl S rfl rfl rfl) fun a S => ?_
        refine gm S fun a S => ?_
        refine' wl_and 8 169 rfl S H rfl rfl rfl rfl rfl rfl rfl (fun _ S => (wn rfl)) (fun h10 kk => ?yh10) (fun a w S H => ?_)
        case yh10 =>
         have h10p := h10; try simp only [DL] at h10p
         refine gz 169 h10 S rfl rfl rfl rfl rfl rfl (y_move rfl S rfl) fun a S => ?_
         refine gz 169 h10 S rfl rfl rfl rfl rfl rfl (y_move rfl S rfl) fun a S => ?_
         refine gz 169 h10 S rfl rfl rfl rfl rfl rfl (y_iaddrn rfl Tryz.underlying26 Fsiz45 S H rfl rfl (by first | assumption | omega | (rw [titL_len]; omega) | (simp only [LL]; omega))) fun a S => ?_
         refine gz 169 h10 S rfl rfl rfl rfl rfl rfl (y_faddr rfl Ffo45_2 S rfl) fun a S => ?_
         refine gz 169 h10 S rfl rfl rfl rfl rfl rfl (y_loadsf _ rfl Fsca3 S H rfl (by first | assumption | omega | (rw [titL_len]; omega) | (simp only [LL]; omega)) rfl) fun a S => ?_
         refine gz 169 h10 S rfl rfl rfl rfl rfl rfl (y_move rfl S rfl) fun a S => ?_
         refine gz 169 h10 S rfl rfl rfl rfl rfl rfl (y_add rfl S rfl rfl (by omega)) fun a S => ?_
         refine gz 169 h10 S rfl rfl rfl rfl rfl rfl (y_bin rfl S rfl rfl rfl) fun a S => ?_
         refine gy rfl rfl rfl S (y_and' rfl h10 S rfl rfl) fun a S => ?_
         exact kk _ _ (S.join 9 178 rfl rfl) H
        refine gm S fun a S => ?_
        refine' wl_and 8 179 rfl S H rfl rfl rfl rfl rfl rfl rfl (fun _ S => (wn rfl)) (fun h11 kk => ?yh11) (fun a w S H => ?_)
        case yh11 =>
         have h11p := h11; try simp only [DL] at h11p
         refine gz 179 h11 S rfl rfl rfl rfl rfl rfl (y_move rfl S rfl) fun a S => ?_
         refine gz 179 h11 S rfl rfl rfl rfl rfl rfl (y_move rfl S rfl) fun a S => ?_
         refine gz 179 h11 S rfl rfl rfl rfl rfl rfl (y_iaddrn rfl Tryz.underlying26 Fsiz45 S H rfl rfl (by first | assumption | omega | (rw [titL_len]; omega) | (simp only [LL]; omega))) fun a S => ?_
         refine gz 179 h11 S rfl rfl rfl rfl rfl rfl (y_faddr rfl Ffo45_3 S rfl) fun a S => ?_
         refine gz 179 h11 S rfl rfl rfl rfl rfl rfl (y_loadsf _ rfl Fsca3 S H rfl (by first | assumption | omega | (rw [titL_len]; omega) | (simp only [LL]; omega)) rfl) fun a S => ?_
         refine gz 179 h11 S rfl rfl rfl rfl rfl rfl (y_move rfl S rfl) fun a S => ?_
         refine gz 179 h11 S rfl rfl rfl rfl rfl rfl (y_add rfl S rfl rfl (by omega)) fun a S => ?_
         refine gz 179 h11 S rfl rfl rfl rfl rfl rfl (y_bin rfl S rfl rfl rfl) fun a S => ?_
         refine gy rfl rfl rfl S (y_and' rfl h11 S rfl rfl) fun a S => ?_
         exact kk _ _ (S.join 9 188 rfl rfl) H
        refine gnt ?_
        have S := (((((S.nil.cons S 13 rfl).cons S 9 rfl).cons S 20 rfl).cons S 22 rfl).cons S 23 rfl).cons S 188 rfl
        refine c_if S rfl (fun h12 => ?_) (fun h12 => ?_)
        ·have h12p := h12; try simp only [DL] at h12p
         refine gsr ?_
         refine gm S fun a S => ?_
         refine ga S fun a S => ?_
         refine gnt ?_
         refine g_ret ?_
         refine r_block (r_then (r_then (r_block (r_then (ret1 rfl S rfl ?_)))))
         exact ⟨rfl, H.toExt⟩
        ·have h12p := h12; try simp only [DL] at h12p
         have hnh : hitB 3 ((jj : Int) + 1) ((n : Int) + 1) bl[k] = false := by have h := h12; exact h
         refine g_skip ?_
         refine n_block ?_
         refine n_then ?_
         refine g_region ?_
         refine gm S fun a S => ?_
         refine gy rfl rfl rfl S (y_add rfl S rfl rfl (by omega)) fun a S => ?_
         refine ga S fun a S => ?_
         refine gnt ?_
         refine ⟨k + 1, S.nil.cons S 23 rfl, (((S.nil.cons S 13 rfl).cons S 9 rfl).cons S 20 rfl).cons S 22 rfl, H, ?_, ?_⟩
         · exact ⟨by omega, fun q hq h => by by_cases e : q < k; exact hno q hq e; (obtain rfl : q = k := by omega); exact hnh⟩
         · omega
       ·have h9p := h9; try simp only [DL] at h9p
        all_goals (
          exfalso
          obtain rfl : k = bl.length := by omega
          have h2 := hit_in hbp hlie
          obtain ⟨b, hb, hbh⟩ := List.any_eq_true.1 h2
          obtain ⟨q, hq, rfl⟩ := List.getElem_of_mem hb
          rw [hno q hq hq] at hbh; cases hbh)
end Go.Proofs.YtienaifmlhcijaaGreatDoor
end
section
namespace Go.Proofs.YtienaifmlhcijaaGreatDoor
open Go.ChangeShapes Go.WideShapes Go.ChangeAt Go.RowKit Go.Gw
set_option linter.unusedVariables false
set_option linter.unusedSimpArgs false
theorem ownLaw : ownKnob Tryz.prog.godebug = none := by kernel_rfl
theorem laidOut : laidOutB Tryz.prog = true := by kernel_rfl
theorem u8b {n : Int} (h : (Lit.int .u8 n).wf = true) : 0 ≤ n ∧ n ≤ 255 := by
  have h : IntKind.u8.min ≤ n ∧ n ≤ IntKind.u8.max := by simpa [Lit.wf] using h
  exact ⟨h.1, h.2⟩
theorem u16b {n : Int} (h : (Lit.int .u16 n).wf = true) : 0 ≤ n ∧ n ≤ 65535 := by
  have h : IntKind.u16.min ≤ n ∧ n ≤ IntKind.u16.max := by simpa [Lit.wf] using h
  exact ⟨h.1, h.2⟩
theorem readsU : ReadsAs Tryz.prog 5 (fun n : Int => [.int .u8 n]) (fun n => (Lit.int .u8 n).wf = true) := readsInt Tryz.underlying5
theorem readsE (W : World) : ReadsAt Tryz.prog W 50 encE (fun e => e.kind < 256 ∧ e.gate < 256 ∧ e.title < 256 ∧ e.after < 256) :=
  ReadsAt.mono (reads_struct (ts := [5, 5, 5, 5]) Tryz.underlying50 (by kernel_rfl) (readsL_cons readsU.at_ (readsL_cons readsU.at_ (readsL_cons readsU.at_ (readsL_cons readsU.at_ readsL_nil)))))
    (fun y => ⟨y.1.toNat, y.2.1.toNat, y.2.2.1.toNat, y.2.2.2.1.toNat⟩)
    (fun y h => by
      have h1 := u8b h.1
      have h2 := u8b h.2.1
      have h3 := u8b h.2.2.1
      have h4 := u8b h.2.2.2.1
      show [Value.int .u8 y.1, .int .u8 y.2.1, .int .u8 y.2.2.1, .int .u8 y.2.2.2.1] = [Value.int .u8 (y.1.toNat : Int), .int .u8 (y.2.1.toNat : Int), .int .u8 (y.2.2.1.toNat : Int), .int .u8 (y.2.2.2.1.toNat : Int)]
      rw [Int.toNat_of_nonneg h1.1, Int.toNat_of_nonneg h2.1, Int.toNat_of_nonneg h3.1, Int.toNat_of_nonneg h4.1])
    (fun y h => by
      have h1 := u8b h.1
      have h2 := u8b h.2.1
      have h3 := u8b h.2.2.1
      have h4 := u8b h.2.2.2.1
      dsimp only
      omega)
/-- a table that stands somewhere on the list -/
theorem tab_of_vars {P : Program} {W : World} {name : String} {k : IntKind} {zs : List Int} {rest : List (String × DataW Unit)} {ps : List MemPlace} {g : Nat} {t e : TypeId} {n : Nat}
    (hg : P.globalNamed name = some g) (hty : (P.globals[g]?).map (·.type) = some t) (ht : P.underlying t = some (.array n e)) (he : P.underlying e = some (.int k)) (hce : P.cellsOf e = 1) (hct : P.cellsOf t = n)
    (h : DataW.LaidVars P W ((name, Go.Lib.tabData k zs) :: rest) ps) : Go.Lib.TabIs P W name k zs ∧ ∃ q, DataW.LaidVars P W rest q := by
  obtain ⟨g', t', cs, fuel, p, q, hg', ht', hvar, hd, hr, _⟩ := h
  obtain rfl := Option.some.inj (hg.symm.trans hg')
  obtain rfl := Option.some.inj (hty.symm.trans ht')
  refine ⟨?_, q, hr⟩
  unfold Go.Lib.TabIs
  rw [hvar, ← Go.Lib.cells_of_tab ht he hce hct hd]
theorem rest_of_vars {P : Program} {W : World} {x : String × DataW Unit} {rest : List (String × DataW Unit)} {ps : List MemPlace} (h : DataW.LaidVars P W (x :: rest) ps) : ∃ q, DataW.LaidVars P W rest q := by
  obtain ⟨n, d⟩ := x
  obtain ⟨_, _, _, _, _, q, _, _, _, _, hr, _⟩ := h
  exact ⟨q, hr⟩
/-- a table's block -/
theorem block_of_tab {P : Program} {W : World} {name : String} {k : IntKind} {zs : List Int} {g : Nat} (hg : P.globalNamed name = some g) (h : Go.Lib.TabIs P W name k zs) : ∃ T0 fz, W.heap[g]? = some (.cells (zs.map fun z => Value.int k z).toArray T0 fz) := by
  unfold Go.Lib.TabIs World.var? at h
  rw [hg] at h
  simp only [Option.bind_some] at h
  split at h
  · rename_i cs T0 fz hb
    exact ⟨T0, fz, by rw [hb, Option.some.inj h]⟩
  · cases h
def hexZ : List Int := [48, 49, 50, 51, 52, 53, 54, 55, 56, 57, 97, 98, 99, 100, 101, 102]
def dbI : List Int := dbZ.map fun n : Nat => (n : Int)
theorem pow_data : (Rows.laid_internal_strconv_uint64pow10 : DataW Unit) = Go.Lib.tabData .u64 Go.Lib.pow10Tab := by kernel_rfl
theorem hex_data : (Rows.laid_foyer_digest_hex : DataW Unit) = Go.Lib.tabData .u8 hexZ := by kernel_rfl
theorem db_data : (Rows.laid_math_bits_deBruijn64tab : DataW Unit) = Go.Lib.tabData .u8 dbI := by kernel_rfl
theorem hex_vals : (hexZ.map fun z => Value.int .u8 z).toArray = hexTab.toArray := rfl
theorem db_vals : (dbI.map fun z => Value.int .u8 z).toArray = dbV.toArray := by unfold dbI dbV; rw [List.map_map]; rfl
theorem tabs_of {W : World} (h : laidMetH Tryz.prog Rows.topStalenessRow.laid W) : Tabs W ∧ TabBs W := by
  rw [MakeChecks.laidMetH_plain _ _ _ (by kernel_rfl)] at h
  obtain ⟨ps, h, _, _⟩ := h
  change DataW.LaidVars Tryz.prog W [("math/bits.deBruijn32tab", Rows.laid_math_bits_deBruijn32tab), ("math/bits.deBruijn64tab", Rows.laid_math_bits_deBruijn64tab), ("internal/strconv.uint64pow10", Rows.laid_internal_strconv_uint64pow10), ("unicode/utf8.acceptRanges", Rows.laid_unicode_utf8_acceptRanges), ("strconv.ErrRange", Rows.laid_strconv_ErrRange), ("strconv.ErrSyntax", Rows.laid_strconv_ErrSyntax), ("foyer/digest.hex", Rows.laid_foyer_digest_hex), ("unicode/utf8.first", Rows.laid_unicode_utf8_first)] ps at h
  obtain ⟨_, h⟩ := rest_of_vars h
  rw [db_data] at h
  obtain ⟨h0, _, h⟩ := tab_of_vars (g := 6) (t := 256) (by kernel_rfl) (by kernel_rfl) Tryz.underlying256 Tryz.underlying5 (by kernel_rfl) (by kernel_rfl) h
  rw [pow_data] at h
  obtain ⟨h1, _, h⟩ := tab_of_vars (g := 1) (t := 239) (by kernel_rfl) (by kernel_rfl) Tryz.underlying239 Tryz.underlying97 (by kernel_rfl) (by kernel_rfl) h
  obtain ⟨_, h⟩ := rest_of_vars h
  obtain ⟨_, h⟩ := rest_of_vars h
  obtain ⟨_, h⟩ := rest_of_vars h
  rw [hex_data] at h
  obtain ⟨h2, _, _⟩ := tab_of_vars (g := 0) (t := 207) (by kernel_rfl) (by kernel_rfl) Tryz.underlying207 Tryz.underlying5 (by kernel_rfl) (by kernel_rfl) h
  have b0 := block_of_tab (show Tryz.prog.globalNamed "math/bits.deBruijn64tab" = some 6 by kernel_rfl) h0
  have b2 := block_of_tab (show Tryz.prog.globalNamed "foyer/digest.hex" = some 0 by kernel_rfl) h2
  rw [db_vals] at b0
  rw [hex_vals] at b2
  exact ⟨⟨b2, h1⟩, b0⟩
end Go.Proofs.YtienaifmlhcijaaGreatDoor
end
