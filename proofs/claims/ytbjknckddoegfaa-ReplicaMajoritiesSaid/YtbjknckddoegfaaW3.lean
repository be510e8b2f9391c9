/- The walks. No condition. -/
import Derived.Test.YtbjknckddoegfaaChecked
import Derived.Test.YtbjknckddoegfaaGwFam
import Derived.Test.YtbjknckddoegfaaFacts
import Derived.Test.YtbjknckddoegfaaPlainM
import Derived.Test.YtbjknckddoegfaaW2
namespace Go.Proofs.Ytbjknckddoegfaa
open Go Go.Gw
set_option linter.unusedVariables false
set_option linter.unusedSimpArgs false
/-- (*foyer/replica.Group).all -/
theorem all_spec {M : Nat → Prop} {u0 : World} {l : List Atom} (c : GC) (n : Nat) (g : Grp) (z : GV) (i : Nat) (m : MV) (w0 : World) (h0 : HSat M u0 (GrpA c n g z :: GCel c :: GPts c n :: l) w0) (hi : i < n) (hm : ∀ t l d, m.1 = .share t l d → (m.2, l) ∈ z.bag) (hone : (msgV m.1 m.2).oneCell' = true) (hq : ∀ j, (g.q i j).length ≤ 1000000) :
    Ret Try.prog 29 #[.pointer (some ⟨c.b, 0, none⟩), .int .i64 (i : Int), msgV m.1 m.2] w0 (fun u w => u = .tuple #[] ∧ ∃ z', z'.bag = z.bag ∧ HSat M u0 (GrpA c n (g.all i m.1) z' :: GCel c :: GPts c n :: l) w) := by
 refine ret_of_wp (nt := 24) Try.func29 rfl rfl rfl (fl := [(0, .pointer (some ⟨c.b, 0, none⟩)), (1, .int .i64 (i : Int)), (2, msgV m.1 m.2)]) rfl (fun a S => ?_)
 have H := h0
 have hz := (grpOut H).2
 have hn7 := hz.n7
 refine gsr ?_
 refine gm S fun a S => ?_
 refine gy rfl rfl rfl S (y_nilCheck rfl S rfl) fun a S => ?_
 refine gy rfl rfl rfl S (y_faddrb rfl Ffo52_0 S rfl) fun a S => ?_
 refine gy rfl rfl rfl S (y_load rfl Fsca50 S H rfl rfl) fun a S => ?_
 refine gy rfl rfl rfl S (y_lens rfl Try.underlying50 S H rfl) fun a S => ?_
 rw [List.length_range] at S
 refine gm S fun a S => ?_
 refine gnt ?_
 have S := ((((S.nil.cons S 2 rfl).cons S 1 rfl).cons S 0 rfl).cons S 11 rfl).cons S 12 rfl
 refine g_block ?_
 have SU := (((S.nil.cons S 2 rfl).cons S 1 rfl).cons S 0 rfl).cons S 11 rfl
 refine loopW (X := Nat × GV) SU (fun x => [(12, .int .i64 (x.1 : Int))]) (fun x w => x.1 ≤ n ∧ x.2.bag = z.bag ∧ HSat M u0 (GrpA c n (g.allTo i m.1 x.1) x.2 :: GCel c :: GPts c n :: l) w) (fun x => n - x.1) (0, z) (S.nil.cons S 12 rfl) (⟨Nat.zero_le _, rfl, by rw [Grp.allTo_zero]; exact H⟩) (fun x a w S hW => ?_)
 simp only [List.cons_append, List.nil_append] at S
 obtain ⟨k, zk⟩ := x
 obtain ⟨hk, hb, H⟩ := hW
 dsimp only at S H hk hb
 refine gsr ?_
 refine gy rfl rfl rfl S (y_bin rfl S rfl rfl rfl) fun a S => ?_
 refine gnt ?_
 refine g_seq ?_
 refine c_if S rfl (fun h1 => ?_) (fun h1 => ?_)
 ·have h1p := h1; try simp only [DL] at h1p
  refine g_skip ?_
  refine n_then ?_
  refine g_seq ?_
  refine g_block ?_
  refine gsr ?_
  refine gm S fun a S => ?_
  refine ga S fun a S => ?_
  refine gnt ?_
  refine gsr ?_
  refine gm S fun a S => ?_
  refine gm S fun a S => ?_
  refine gy rfl rfl rfl S (y_bin rfl S rfl rfl rfl) fun a S => ?_
  refine gnt ?_
  have S := ((((((S.nil.cons S 2 rfl).cons S 1 rfl).cons S 0 rfl).cons S 11 rfl).cons S 12 rfl).cons S 6 rfl).cons S 17 rfl
  refine c_if S rfl (fun h2 => ?_) (fun h2 => ?_)
  ·have h2p := h2; try simp only [DL] at h2p
   refine g_region ?_
   refine gm S fun a S => ?_
   refine gm S fun a S => ?_
   refine gm S fun a S => ?_
   refine gm S fun a S => ?_
   refine wl_of (op_call (wn rfl) rfl rfl S (co_func rfl Try.call40 S rfl) (send_spec c n (g.allTo i m.1 k) zk i k m _ H hi (by omega) (fun t l d e => by rw [hb]; exact hm t l d e) hone (by rw [Grp.allTo_q]; exact hq k)) fun v w hc a S => ?_)
   obtain ⟨rfl, zk', hb', H⟩ := hc
   
   refine gl_nil ?_
   refine n_block ?_
   refine n_then ?_
   have S := ((((S.nil.cons S 2 rfl).cons S 1 rfl).cons S 0 rfl).cons S 11 rfl).cons S 12 rfl
   refine g_region ?_
   refine gy rfl rfl rfl S (y_add rfl S rfl rfl (by omega)) fun a S => ?_
   refine gm S fun a S => ?_
   refine gnt ?_
   first
   | exact ⟨(k + 1, zk'), S.nil.cons S 12 rfl, (((S.nil.cons S 2 rfl).cons S 1 rfl).cons S 0 rfl).cons S 11 rfl, ⟨by dsimp only; omega, hb'.trans hb, by rw [(Grp.allTo_succ g i m.1 k).1 (by omega)] at H; exact H⟩, by dsimp only; omega⟩
   | exact ⟨(k + 1, zk), S.nil.cons S 12 rfl, (((S.nil.cons S 2 rfl).cons S 1 rfl).cons S 0 rfl).cons S 11 rfl, ⟨by dsimp only; omega, hb, by rw [(Grp.allTo_succ g i m.1 k).2 (by omega)]; exact H⟩, by dsimp only; omega⟩
  ·have h2p := h2; try simp only [DL] at h2p
   refine g_skip ?_
   refine n_block ?_
   refine n_then ?_
   refine g_region ?_
   refine gy rfl rfl rfl S (y_add rfl S rfl rfl (by omega)) fun a S => ?_
   refine gm S fun a S => ?_
   refine gnt ?_
   first
   | exact ⟨(k + 1, zk'), S.nil.cons S 12 rfl, (((S.nil.cons S 2 rfl).cons S 1 rfl).cons S 0 rfl).cons S 11 rfl, ⟨by dsimp only; omega, hb'.trans hb, by rw [(Grp.allTo_succ g i m.1 k).1 (by omega)] at H; exact H⟩, by dsimp only; omega⟩
   | exact ⟨(k + 1, zk), S.nil.cons S 12 rfl, (((S.nil.cons S 2 rfl).cons S 1 rfl).cons S 0 rfl).cons S 11 rfl, ⟨by dsimp only; omega, hb, by rw [(Grp.allTo_succ g i m.1 k).2 (by omega)]; exact H⟩, by dsimp only; omega⟩
 ·have h1p := h1; try simp only [DL] at h1p
  refine g_exit ?_
  refine x_then (x_then (x_eq ?_))
  refine ret0n rfl S ?_
  obtain rfl : k = n := by omega
  exact ⟨rfl, zk, hb, by rw [show g.all i m.1 = g.allTo i m.1 k by rw [← hz.en]; rfl]; exact H⟩
/-- (*foyer/replica.Group).majority -/
theorem majority_spec (c : GC) (n : Nat) (f : FuncId) (cap : List Value) (he : Enters Try.prog f) (pr : Nat → Bool) (w0 : World) (hb : w0.heap[c.b]? = some (.cells [c.pv, .map (some c.qb)].toArray 52 (0, 0))) (hp : IsSl w0 c.pv 1 (encPt c.pb) (List.range n)) (hn : n ≤ 1000)
    (hstep : ∀ i, i < n → ∀ w, Ext w0 w → Ret Try.prog f ([Value.int .i64 (i : Int)] ++ cap).toArray w (fun u w' => u = .bool (pr i) ∧ Ext w w')) :
    Ret Try.prog 42 #[.pointer (some ⟨c.b, 0, none⟩), .func (.func f) #[] cap.toArray] w0 (fun u w => u = .bool (maj n pr) ∧ Ext w0 w) := by
 refine ret_of_wp (nt := 29) Try.func42 rfl rfl rfl (fl := [(0, .pointer (some ⟨c.b, 0, none⟩)), (1, .func (.func f) #[] cap.toArray)]) rfl (fun a S => ?_)
 have H := HSat.start w0
 have H := H.ro0 (Atom.ro (Cel c.b 52 [c.pv, .map (some c.qb)])) rfl (hb)
 have H := H.ro0 (Sl c.pv 1 (encPt c.pb) (List.range n)) rfl (hp)
 refine gsr ?_
 refine ga S fun a S => ?_
 refine gnt ?_
 refine gsr ?_
 refine ga S fun a S => ?_
 refine gnt ?_
 refine g_seq ?_
 refine gsr ?_
 refine gm S fun a S => ?_
 refine gy rfl rfl rfl S (y_nilCheck rfl S rfl) fun a S => ?_
 refine gy rfl rfl rfl S (y_faddrb rfl Ffo52_0 S rfl) fun a S => ?_
 refine gy rfl rfl rfl S (y_load rfl Fsca50 S H rfl rfl) fun a S => ?_
 refine gy rfl rfl rfl S (y_lens rfl Try.underlying50 S H rfl) fun a S => ?_
 rw [List.length_range] at S
 refine gm S fun a S => ?_
 refine gnt ?_
 have S := (((((S.nil.cons S 1 rfl).cons S 0 rfl).cons S 4 rfl).cons S 5 rfl).cons S 11 rfl).cons S 12 rfl
 refine g_block ?_
 have SU := (((S.nil.cons S 1 rfl).cons S 0 rfl).cons S 4 rfl).cons S 11 rfl
 refine loop_k (X := Nat) SU (fun k => [(5, .int .i64 (count k pr : Int)), (12, .int .i64 (k : Int))]) (fun k => k ≤ n) (fun k => n - k) 0 ((S.nil.cons S 12 rfl).cons S 5 rfl) H (Nat.zero_le _) (fun k a w S H hi => ?_)
 simp only [List.cons_append, List.nil_append] at S hi
 have hk := hi
 have hcl := count_le k pr
 refine gsr ?_
 refine gy rfl rfl rfl S (y_bin rfl S rfl rfl rfl) fun a S => ?_
 refine gnt ?_
 refine g_seq ?_
 refine c_if S rfl (fun h1 => ?_) (fun h1 => ?_)
 ·have h1p := h1; try simp only [DL] at h1p
  refine g_skip ?_
  refine n_then ?_
  refine g_seq ?_
  refine g_block ?_
  refine gsr ?_
  refine gm S fun a S => ?_
  refine ga S fun a S => ?_
  refine gnt ?_
  refine gsr ?_
  refine gm S fun a S => ?_
  refine gm S fun a S => ?_
  refine wl_of (op_call (wn rfl) rfl rfl S (co_value rfl he S rfl rfl) (hstep k (by omega) w H.toExt) fun v w hc a S => ?_)
  obtain ⟨rfl, he1⟩ := hc
  have H := H.ext he1
  refine gnt ?_
  have S := ((((((S.nil.cons S 1 rfl).cons S 0 rfl).cons S 4 rfl).cons S 11 rfl).cons S 12 rfl).cons S 5 rfl).cons S 17 rfl
  refine c_if S rfl (fun h2 => ?_) (fun h2 => ?_)
  ·have h2p := h2; try simp only [DL] at h2p
   refine g_region ?_
   refine gm S fun a S => ?_
   refine gy rfl rfl rfl S (y_add rfl S rfl rfl (by omega)) fun a S => ?_
   refine ga S fun a S => ?_
   refine gl_nil ?_
   refine n_block ?_
   refine n_then ?_
   have S := (((((S.nil.cons S 1 rfl).cons S 0 rfl).cons S 4 rfl).cons S 11 rfl).cons S 12 rfl).cons S 5 rfl
   refine g_region ?_
   refine gy rfl rfl rfl S (y_add rfl S rfl rfl (by omega)) fun a S => ?_
   refine gm S fun a S => ?_
   refine gnt ?_
   first
   | (have h2 : pr k = true := h2p
      refine ⟨k + 1, (S.nil.cons S 12 rfl).cons S 5 (by rw [count_succ, if_pos h2]; rfl), (((S.nil.cons S 1 rfl).cons S 0 rfl).cons S 4 rfl).cons S 11 rfl, H, by omega, by omega⟩)
   | (have h2 : ¬ pr k = true := by simpa using h2p
      refine ⟨k + 1, (S.nil.cons S 12 rfl).cons S 5 (by rw [count_succ, if_neg h2]; rfl), (((S.nil.cons S 1 rfl).cons S 0 rfl).cons S 4 rfl).cons S 11 rfl, H, by omega, by omega⟩)
  ·have h2p := h2; try simp only [DL] at h2p
   refine g_skip ?_
   refine n_block ?_
   refine n_then ?_
   refine g_region ?_
   refine gy rfl rfl rfl S (y_add rfl S rfl rfl (by omega)) fun a S => ?_
   refine gm S fun a S => ?_
   refine gnt ?_
   first
   | (have h2 : pr k = true := h2p
      refine ⟨k + 1, (S.nil.cons S 12 rfl).cons S 5 (by rw [count_succ, if_pos h2]; rfl), (((S.nil.cons S 1 rfl).cons S 0 rfl).cons S 4 rfl).cons S 11 rfl, H, by omega, by omega⟩)
   | (have h2 : ¬ pr k = true := by simpa using h2p
      refine ⟨k + 1, (S.nil.cons S 12 rfl).cons S 5 (by rw [count_succ, if_neg h2]; rfl), (((S.nil.cons S 1 rfl).cons S 0 rfl).cons S 4 rfl).cons S 11 rfl, H, by omega, by omega⟩)
 ·have h1p := h1; try simp only [DL] at h1p
  refine g_exit ?_
  refine x_then (x_then (x_eq ?_))
  refine n_then ?_
  have S := ((S.nil.cons S 0 rfl).cons S 4 rfl).cons S 5 rfl
  refine gsr ?_
  refine gm S fun a S => ?_
  refine gy rfl rfl rfl S (y_mul rfl S rfl rfl (by omega)) fun a S => ?_
  refine gm S fun a S => ?_
  refine gy rfl rfl rfl S (y_nilCheck rfl S rfl) fun a S => ?_
  refine gy rfl rfl rfl S (y_faddrb rfl Ffo52_0 S rfl) fun a S => ?_
  refine gy rfl rfl rfl S (y_load rfl Fsca50 S H rfl rfl) fun a S => ?_
  refine gy rfl rfl rfl S (y_lens rfl Try.underlying50 S H rfl) fun a S => ?_
  rw [List.length_range] at S
  refine gy rfl rfl rfl S (y_bin rfl S rfl rfl rfl) fun a S => ?_
  refine ga S fun a S => ?_
  refine gnt ?_
  have S := S.nil.cons S 4 rfl
  refine g_ret ?_
  refine ret1 rfl S rfl ?_
  obtain rfl : k = n := by omega
  exact ⟨congrArg Value.bool (by unfold maj; rw [decide_eq_decide]; omega), H.toExt⟩
end Go.Proofs.Ytbjknckddoegfaa
