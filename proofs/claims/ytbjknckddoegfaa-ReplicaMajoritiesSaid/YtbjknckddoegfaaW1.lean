/- The walks. No condition. -/
import Derived.Test.YtbjknckddoegfaaChecked
import Derived.Test.YtbjknckddoegfaaGwFam
import Derived.Test.YtbjknckddoegfaaFacts
import Derived.Test.YtbjknckddoegfaaPlainM
namespace Go.Proofs.Ytbjknckddoegfaa
open Go Go.Gw
set_option linter.unusedVariables false
set_option linter.unusedSimpArgs false
theorem hm_ask (v : Value) (w : World) : (method (Try.prog.types.size + Made.depth) 81 v "foyer/replica.about").run Try.prog w = .ok (60, v) w := by kernel_rfl
theorem hm_vote (v : Value) (w : World) : (method (Try.prog.types.size + Made.depth) 91 v "foyer/replica.about").run Try.prog w = .ok (61, v) w := by kernel_rfl
theorem hm_share (v : Value) (w : World) : (method (Try.prog.types.size + Made.depth) 93 v "foyer/replica.about").run Try.prog w = .ok (62, v) w := by kernel_rfl
theorem hm_ack (v : Value) (w : World) : (method (Try.prog.types.size + Made.depth) 95 v "foyer/replica.about").run Try.prog w = .ok (63, v) w := by kernel_rfl
/-- (foyer/replica.ask).about -/
theorem about_ask (t l n : Int) (w0 : World) :
    Ret Try.prog 60 #[.agg [.int .i64 t, .int .i64 l, .int .i64 n].toArray] w0 (fun u w => u = .int .i64 t ∧ Ext w0 w) := by
 refine ret_of_wp (nt := 5) Try.func60 rfl rfl rfl (fl := [(0, .agg [.int .i64 t, .int .i64 l, .int .i64 n].toArray)]) rfl (fun a S => ?_)
 have H := HSat.start w0
 refine gsr ?_
 refine wl_of (op_boxa (wn rfl) rfl rfl rfl S H rfl fun b1 a w S H => ?_)
 refine ga S fun a S => ?_
 refine gnt ?_
 refine gsr ?_
 refine gy rfl rfl rfl S (y_faddrb rfl Ffo81_0 S rfl) fun a S => ?_
 refine gy rfl rfl rfl S (y_load rfl Fsca3 S H rfl rfl) fun a S => ?_
 refine ga S fun a S => ?_
 refine gnt ?_
 have S := S.nil.cons S 2 rfl
 refine g_ret ?_
 refine ret1 rfl S rfl ?_
 exact ⟨rfl, H.toExt⟩
/-- (foyer/replica.vote).about -/
theorem about_vote (t : Int) (g : Bool) (w0 : World) :
    Ret Try.prog 61 #[.agg [.int .i64 t, .bool g].toArray] w0 (fun u w => u = .int .i64 t ∧ Ext w0 w) := by
 refine ret_of_wp (nt := 5) Try.func61 rfl rfl rfl (fl := [(0, .agg [.int .i64 t, .bool g].toArray)]) rfl (fun a S => ?_)
 have H := HSat.start w0
 refine gsr ?_
 refine wl_of (op_boxa (wn rfl) rfl rfl rfl S H rfl fun b1 a w S H => ?_)
 refine ga S fun a S => ?_
 refine gnt ?_
 refine gsr ?_
 refine gy rfl rfl rfl S (y_faddrb rfl Ffo91_0 S rfl) fun a S => ?_
 refine gy rfl rfl rfl S (y_load rfl Fsca3 S H rfl rfl) fun a S => ?_
 refine ga S fun a S => ?_
 refine gnt ?_
 have S := S.nil.cons S 2 rfl
 refine g_ret ?_
 refine ret1 rfl S rfl ?_
 exact ⟨rfl, H.toExt⟩
/-- (foyer/replica.share).about -/
theorem about_share (t d : Int) (v : Value) (w0 : World) (hv : v.oneCell' = true) :
    Ret Try.prog 62 #[.agg [.int .i64 t, v, .int .i64 d].toArray] w0 (fun u w => u = .int .i64 t ∧ Ext w0 w) := by
 refine ret_of_wp (nt := 5) Try.func62 rfl rfl rfl (fl := [(0, .agg [.int .i64 t, v, .int .i64 d].toArray)]) rfl (fun a S => ?_)
 have H := HSat.start w0
 refine gsr ?_
 refine wl_of (op_boxa (wn rfl) rfl rfl rfl S H rfl fun b1 a w S H => ?_)
 refine ga S fun a S => ?_
 refine gnt ?_
 refine gsr ?_
 refine gy rfl rfl rfl S (y_faddrb rfl Ffo93_0 S rfl) fun a S => ?_
 refine gy rfl rfl rfl S (y_load rfl Fsca3 S H rfl rfl) fun a S => ?_
 refine ga S fun a S => ?_
 refine gnt ?_
 have S := S.nil.cons S 2 rfl
 refine g_ret ?_
 refine ret1 rfl S rfl ?_
 exact ⟨rfl, H.toExt⟩
/-- (foyer/replica.ack).about -/
theorem about_ack (t n : Int) (w0 : World) :
    Ret Try.prog 63 #[.agg [.int .i64 t, .int .i64 n].toArray] w0 (fun u w => u = .int .i64 t ∧ Ext w0 w) := by
 refine ret_of_wp (nt := 5) Try.func63 rfl rfl rfl (fl := [(0, .agg [.int .i64 t, .int .i64 n].toArray)]) rfl (fun a S => ?_)
 have H := HSat.start w0
 refine gsr ?_
 refine wl_of (op_boxa (wn rfl) rfl rfl rfl S H rfl fun b1 a w S H => ?_)
 refine ga S fun a S => ?_
 refine gnt ?_
 refine gsr ?_
 refine gy rfl rfl rfl S (y_faddrb rfl Ffo95_0 S rfl) fun a S => ?_
 refine gy rfl rfl rfl S (y_load rfl Fsca3 S H rfl rfl) fun a S => ?_
 refine ga S fun a S => ?_
 refine gnt ?_
 have S := S.nil.cons S 2 rfl
 refine g_ret ?_
 refine ret1 rfl S rfl ?_
 exact ⟨rfl, H.toExt⟩
/-- slices.Clone[[]foyer/replica.entry,foyer/replica.entry] -/
theorem clone_spec (v : Value) (xs : List Ent) (w0 : World) (hv : IsSl w0 v 2 Ent.enc xs) (hl : xs.length ≤ 200000) :
    Ret Try.prog 35 #[v] w0 (fun u w => HSat No w0 [OSl 87 u 2 Ent.enc xs] w) := by
 refine ret_of_wp (nt := 8) Try.func35 rfl rfl rfl (fl := [(0, v)]) rfl (fun a S => ?_)
 have H := HSat.start w0
 obtain ⟨pv, cv, rfl⟩ := hv.shape
 have H := H.ro0 (Sl (.slice pv xs.length cv) 2 Ent.enc xs) rfl (hv)
 refine gsr ?_
 refine ga S fun a S => ?_
 refine gnt ?_
 refine g_seq ?_
 refine gsr ?_
 refine gm S fun a S => ?_
 refine gy rfl rfl rfl S (y_eqsl rfl Try.underlying54 S rfl rfl) fun a S => ?_
 refine gnt ?_
 refine c_if S rfl (fun h1 => ?_) (fun h1 => ?_)
 ·have h1p := h1; try simp only [DL] at h1p
  have hxs : xs = [] := by
    match xs, hv with
    | [], _ => rfl
    | x :: r, hv => obtain ⟨b, off, c, he, _⟩ := hv.cells 0 (by simp); simp only [Value.slice.injEq] at he; rw [he.1] at h1; simp at h1
  refine gsr ?_
  refine ga S fun a S => ?_
  refine gnt ?_
  refine g_ret ?_
  refine r_then (ret1 rfl S rfl ?_)
  rw [hxs]; exact (H.nilO 87 2 Ent.enc).take [OSl 87 (.slice none 0 0) 2 Ent.enc []]
 ·have h1p := h1; try simp only [DL] at h1p
  refine g_skip ?_
  refine n_then ?_
  refine gsr ?_
  refine wl_of (op_buildSlice (wn rfl) rfl rfl rfl Try.underlying54 Finf87 S H (idx := []) rfl rfl rfl (z := []) (by kernel_rfl) (cs := []) rfl fun b5 a w S H => ?_)
  have H := H.celO [] Ent.enc 2 (m := 0) rfl (by simp) rfl (by omega)
  refine gm S fun a S => ?_
  refine wl_of (op_appendT (wn rfl) rfl rfl rfl Try.underlying54 Finf87 rfl rfl S H rfl rfl (by simp [Ent.enc, Value.oneCell']) (by first | assumption | omega | (simp only [LL]; omega)) (by first | assumption | omega | (simp only [LL]; omega)) fun u7 a w S H => ?_)
  refine ga S fun a S => ?_
  refine gnt ?_
  have S := S.nil.cons S 2 rfl
  refine g_ret ?_
  refine ret1 rfl S rfl ?_
  exact H.take [OSl 87 u7 2 Ent.enc ([] ++ xs)]
/-- (*foyer/replica.peer).last -/
theorem last_spec (pb : Nat) (x : PV) (p : Peer) (w0 : World) (hb : w0.heap[pb]? = some (.cells [.int .i64 p.term, .int .i64 p.vote, x.lv, .bool p.down, .string (roleS p.role), .int .i64 (p.done : Int), .map x.vb, .map x.ab].toArray 58 (0, 0))) (hl : IsSl w0 x.lv 2 Ent.enc p.log) :
    Ret Try.prog 30 #[.pointer (some ⟨pb, 0, none⟩)] w0 (fun u w => u = .int .i64 (lastT p.log) ∧ Ext w0 w) := by
 refine ret_of_wp (nt := 22) Try.func30 rfl rfl rfl (fl := [(0, .pointer (some ⟨pb, 0, none⟩))]) rfl (fun a S => ?_)
 have H := HSat.start w0
 have H := H.ro0 (Atom.ro (Cel pb 58 [.int .i64 p.term, .int .i64 p.vote, x.lv, .bool p.down, .string (roleS p.role), .int .i64 (p.done : Int), .map x.vb, .map x.ab])) rfl (hb)
 have H := H.ro0 (Sl x.lv 2 Ent.enc p.log) rfl (hl)
 have hlen := hl.len
 refine gsr ?_
 refine ga S fun a S => ?_
 refine gnt ?_
 refine g_seq ?_
 refine gsr ?_
 refine gm S fun a S => ?_
 refine gy rfl rfl rfl S (y_nilCheck rfl S rfl) fun a S => ?_
 refine gy rfl rfl rfl S (y_faddrb rfl Ffo58_2 S rfl) fun a S => ?_
 refine gy rfl rfl rfl S (y_load rfl Fsca54 S H rfl rfl) fun a S => ?_
 refine gy rfl rfl rfl S (y_lens rfl Try.underlying54 S H rfl) fun a S => ?_
 refine gy rfl rfl rfl S (y_bin rfl S rfl rfl rfl) fun a S => ?_
 refine gnt ?_
 have S := ((S.nil.cons S 0 rfl).cons S 2 rfl).cons S 8 rfl
 refine c_if S rfl (fun h1 => ?_) (fun h1 => ?_)
 ·have h1p := h1; try simp only [DL] at h1p
  refine gsr ?_
  refine ga S fun a S => ?_
  refine gnt ?_
  refine g_ret ?_
  refine r_then (ret1 rfl S rfl ?_)
  exact ⟨by have e : p.log = [] := List.eq_nil_of_length_eq_zero (by simpa using h1p); rw [e]; rfl, H.toExt⟩
 ·have h1p := h1; try simp only [DL] at h1p
  refine g_skip ?_
  refine n_then ?_
  refine g_seq ?_
  refine region_st (loud := []) (tails := []) (free := []) [0, 1, 2, 3, 4, 5, 6, 7, 8, 9, 10, 11, 12, 13] [] Fmo (by kernel_rfl) (by kernel_rfl) rfl H ?_
  refine m_w rfl rfl (wn rfl) rfl rfl S (fun w H => y_move rfl S rfl) fun a S => ?_
  refine m_w rfl rfl (wn rfl) rfl rfl S (fun w H => y_nilCheck rfl S rfl) fun a S => ?_
  refine m_w rfl rfl (wn rfl) rfl rfl S (fun w H => y_faddrb rfl Ffo58_2 S rfl) fun a S => ?_
  refine m_w rfl rfl (wn rfl) rfl rfl S (fun w H => y_load rfl Fsca54 S H rfl rfl) fun a S => ?_
  refine m_w rfl rfl (wn rfl) rfl rfl S (fun w H => y_move rfl S rfl) fun a S => ?_
  refine m_w rfl rfl (wn rfl) rfl rfl S (fun w H => y_nilCheck rfl S rfl) fun a S => ?_
  refine m_w rfl rfl (wn rfl) rfl rfl S (fun w H => y_faddrb rfl Ffo58_2 S rfl) fun a S => ?_
  refine m_w rfl rfl (wn rfl) rfl rfl S (fun w H => y_load rfl Fsca54 S H rfl rfl) fun a S => ?_
  refine m_w rfl rfl (wn rfl) rfl rfl S (fun w H => y_lens rfl Try.underlying54 S H rfl) fun a S => ?_
  refine m_w rfl rfl (wn rfl) rfl rfl S (fun w H => y_sub rfl S rfl rfl (by omega)) fun a S => ?_
  refine m_w rfl rfl (wn rfl) rfl rfl S (fun w H => y_iaddrs rfl Try.underlying54 Fsiz87 S H rfl rfl (by first | assumption | omega | (simp only [LL]; omega))) fun a S => ?_
  refine m_w rfl rfl (wn rfl) rfl rfl S (fun w H => y_faddr rfl Ffo87_0 S rfl) fun a S => ?_
  refine m_loadsf _ rfl rfl (wn rfl) rfl rfl S rfl Fsca3 rfl (by first | assumption | omega | (simp only [LL]; omega)) rfl fun a S => ?_
  refine m_w rfl rfl (wn rfl) rfl rfl S (fun w H => y_assign rfl S rfl) fun a S => ?_
  refine m_nil (fun w H => ?_)
  refine n_then ?_
  have S := S.nil.cons S 2 rfl
  refine g_ret ?_
  refine ret1 rfl S rfl ?_
  have hne : p.log ≠ [] := fun e => by rw [e] at h1; simp at h1
  exact ⟨by rw [lastT_eq hne]; simp, H.toExt⟩
end Go.Proofs.Ytbjknckddoegfaa
