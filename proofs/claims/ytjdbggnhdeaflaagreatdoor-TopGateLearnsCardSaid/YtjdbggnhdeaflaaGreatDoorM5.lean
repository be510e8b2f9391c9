/- Parts of the proof, joined: the program logic, the plain theory, the walks, as they are named inside. No condition. -/
import Derived.Test.YtjdbggnhdeaflaaGreatDoorChecked
import Derived.Test.YtjdbggnhdeaflaaGreatDoorM2
import Derived.Test.YtjdbggnhdeaflaaGreatDoorM4
import Derived.Test.YtjdbggnhdeaflaaGreatDoorM3
import Derived.Test.YtjdbggnhdeaflaaGreatDoorRows
import Derived.Test.YtjdbggnhdeaflaaGreatDoorCards
import Derived.Test.YtjdbggnhdeaflaaGreatDoorTie
import Derived.Test.YtjdbggnhdeaflaaGreatDoorM1
import Derived.WalkKit
import Derived.ProofKit
import Derived.OpenShut
import Derived.LaidMore
import Derived.Lay
import Derived.SevenTiedAt
import Derived.Stop.Joined
import Derived.ChangeMaps5
section
namespace Go.Proofs.YtjdbggnhdeaflaaGreatDoor
open Go Go.Gw
set_option linter.unusedVariables false
set_option linter.unusedSimpArgs false
theorem all3 {x y : Int} {v : Value} (h : v.oneCell' = true) : ([Value.int .i64 x, .int .i64 y, v].all fun u => u.oneCell') = true := by simp only [List.all_cons, List.all_nil, h]; rfl
/-- a gate in memory -/
def GateL (b mb : Nat) (wv lv : Value) (c : Nat) (g : GSt) : List Atom := [Cel b 78 [.int .i64 g.id, .int .i64 0, .int .i64 g.stale, .int .i64 g.now, .bool g.synced, .int .i64 g.since, .int .i64 g.bits, .int .i64 g.hs, wv, .map (some mb), lv], OSl 70 wv 1 encU g.ws, MapA mb (fun n : Int => Value.int .i64 n) (fun s : ByteArray => Value.string s) g.ins c, OSl 58 lv 6 encSV g.log]
theorem GateL_own (b mb : Nat) (wv lv : Value) (c : Nat) (g : GSt) : ∀ x ∈ GateL b mb wv lv c g, x.own = true := by simp [GateL, OSl, Blk, MapA]
theorem gateReads {M : Nat → Prop} {u0 w : World} {l : List Atom} {b mb : Nat} {wv lv : Value} {c : Nat} {g : GSt} (h : HSat M u0 (GateL b mb wv lv c g ++ l) w) : HSat No w [Atom.ro (Cel b 78 [.int .i64 g.id, .int .i64 0, .int .i64 g.stale, .int .i64 g.now, .bool g.synced, .int .i64 g.since, .int .i64 g.bits, .int .i64 g.hs, wv, .map (some mb), lv]), Atom.ro (OSl 58 lv 6 encSV g.log)] w := by
  simp only [GateL, List.cons_append, List.nil_append] at h
  exact (h.take [Cel b 78 [.int .i64 g.id, .int .i64 0, .int .i64 g.stale, .int .i64 g.now, .bool g.synced, .int .i64 g.since, .int .i64 g.bits, .int .i64 g.hs, wv, .map (some mb), lv], OSl 58 lv 6 encSV g.log]).reads
/-- foyer/gate.time -/
theorem time_spec (n : Int) (hn : 0 ≤ n ∧ n ≤ 1000000000) (w0 : World) :
    Ret Tryz.prog 29 #[.int .i64 n] w0 (fun u w => u = .bool true ∧ Ext w0 w) := by
 refine ret_of_wp (nt := 9) Tryz.func29 rfl rfl rfl (fl := [(0, .int .i64 n)]) rfl (fun a S => ?_)
 have H := HSat.start w0
 refine gsr ?_
 refine ga S fun a S => ?_
 refine gnt ?_
 refine gsr ?_
 refine gm S fun a S => ?_
 refine gy rfl rfl rfl S (y_bin rfl S rfl rfl rfl) fun a S => ?_
 refine gm S fun a S => ?_
 refine' wl_and 2 5 rfl S H rfl rfl rfl rfl rfl rfl rfl (fun _ S => (wn rfl)) (fun h1 kk => ?yh1) (fun a w S H => ?_)
 case yh1 =>
  have h1p := h1; try simp only [DL] at h1p
  refine gz 5 h1 S rfl rfl rfl rfl rfl rfl (y_move rfl S rfl) fun a S => ?_
  refine gz 5 h1 S rfl rfl rfl rfl rfl rfl (y_bin rfl S rfl rfl rfl) fun a S => ?_
  refine gy rfl rfl rfl S (y_and' rfl h1 S rfl rfl) fun a S => ?_
  exact kk _ _ (S.join 3 8 rfl rfl) H
 refine ga S fun a S => ?_
 refine gnt ?_
 have S := S.nil.cons S 2 rfl
 refine g_ret ?_
 refine ret1 rfl S rfl ?_
 exact ⟨congrArg Value.bool (by simp [hn.1, hn.2]), H.toExt⟩
/-- (*foyer/gate.Gate).come -/
theorem come_spec (b mb : Nat) (wv lv : Value) (g : GSt) (t : Int) (w0 : World) (hG : HSat No w0 [Atom.ro (Cel b 78 [.int .i64 g.id, .int .i64 0, .int .i64 g.stale, .int .i64 g.now, .bool g.synced, .int .i64 g.since, .int .i64 g.bits, .int .i64 g.hs, wv, .map (some mb), lv])] w0) (hn : 0 ≤ t ∧ t ≤ 1000000000) (hle : g.now ≤ t) :
    Ret Tryz.prog 30 #[.pointer (some ⟨b, 0, none⟩), .int .i64 t] w0 (fun u w => u = .int .i64 0 ∧ Ext w0 w) := by
 refine ret_of_wp (nt := 20) Tryz.func30 rfl rfl rfl (fl := [(0, .pointer (some ⟨b, 0, none⟩)), (1, .int .i64 t)]) rfl (fun a S => ?_)
 have H := hG
 refine gsr ?_
 refine ga S fun a S => ?_
 refine gnt ?_
 refine g_seq ?_
 refine g_block ?_
 refine gsr ?_
 refine gm S fun a S => ?_
 refine gy rfl rfl rfl S (y_eqp rfl Tryz.underlying43 S rfl rfl) fun a S => ?_
 refine gm S fun a S => ?_
 refine gz 8 rfl S rfl rfl rfl rfl rfl rfl (y_move rfl S rfl) fun a S => ?_
 refine wl_of (op_call (wg' 8 rfl rfl S rfl rfl rfl) rfl rfl S (co_func rfl Tryz.call29 S rfl) (time_spec t hn _) fun v w hc a S => ?_)
 obtain ⟨rfl, he⟩ := hc
 have H := H.ext he
 refine gz 8 rfl S rfl rfl rfl rfl rfl rfl (y_not rfl S rfl) fun a S => ?_
 refine gy rfl rfl rfl S (y_or' rfl rfl S rfl rfl) fun a S => ?_
 refine ga S fun a S => ?_
 refine gnt ?_
 have S := (((S.nil.cons S 1 rfl).cons S 0 rfl).cons S 4 rfl).cons S 5 rfl
 refine c_if S rfl (fun h2 => ?_) (fun h2 => ?_)
 ·have h2p := h2; try simp only [DL] at h2p
  all_goals (
    exact absurd h2 (by simp))
 ·have h2p := h2; try simp only [DL] at h2p
  refine gsr ?_
  refine gm S fun a S => ?_
  refine gm S fun a S => ?_
  refine gy rfl rfl rfl S (y_nilCheck rfl S rfl) fun a S => ?_
  refine gy rfl rfl rfl S (y_faddrb rfl Ffo78_3 S rfl) fun a S => ?_
  refine gy rfl rfl rfl S (y_load rfl Fsca3 S H rfl rfl) fun a S => ?_
  refine gy rfl rfl rfl S (y_bin rfl S rfl rfl rfl) fun a S => ?_
  refine ga S fun a S => ?_
  refine gnt ?_
  have S := (S.nil.cons S 4 rfl).cons S 13 rfl
  refine c_if S rfl (fun h3 => ?_) (fun h3 => ?_)
  ·have h3p := h3; try simp only [DL] at h3p
   all_goals (
     exfalso
     have h := h3p
     omega)
  ·have h3p := h3; try simp only [DL] at h3p
   refine g_skip ?_
   refine n_block ?_
   refine n_then ?_
   refine gsr ?_
   refine ga S fun a S => ?_
   refine gnt ?_
   refine g_ret ?_
   refine ret1 rfl S rfl ?_
   exact ⟨rfl, H.toExt⟩
/-- foyer/gate.New -/
theorem gnew_spec (id stale : Int) (w0 : World) (hid : 0 ≤ id ∧ id ≤ 999) (hst : 0 ≤ stale ∧ stale ≤ 1000000000) :
    Ret Tryz.prog 12 #[.int .i64 id, .int .i64 0, .int .i64 stale] w0 (fun u w => ∃ b mb, u = .tuple #[.pointer (some ⟨b, 0, none⟩), .int .i64 0] ∧ HSat No w0 (GateL b mb (.slice none 0 0) (.slice none 0 0) 0 (GSt.new id stale)) w) := by
 refine ret_of_wp (nt := 33) Tryz.func12 rfl rfl rfl (fl := [(0, .int .i64 id), (1, .int .i64 0), (2, .int .i64 stale)]) rfl (fun a S => ?_)
 have H := HSat.start w0
 refine gsr ?_
 refine ga S fun a S => ?_
 refine ga S fun a S => ?_
 refine gnt ?_
 refine g_seq ?_
 refine gsr ?_
 refine gm S fun a S => ?_
 refine gy rfl rfl rfl S (y_bin rfl S rfl rfl rfl) fun a S => ?_
 refine gm S fun a S => ?_
 refine' wl_or 2 10 rfl S H rfl rfl rfl rfl rfl rfl rfl (fun _ S => (wn rfl)) (fun h1 kk => ?yh1) (fun a w S H => ?_)
 case yh1 =>
  have h1p := h1; try simp only [DL] at h1p
  refine gz 10 h1 S rfl rfl rfl rfl rfl rfl (y_move rfl S rfl) fun a S => ?_
  refine gz 10 h1 S rfl rfl rfl rfl rfl rfl (y_bin rfl S rfl rfl rfl) fun a S => ?_
  refine gy rfl rfl rfl S (y_or' rfl h1 S rfl rfl) fun a S => ?_
  exact kk _ _ (S.join 3 13 rfl rfl) H
 refine gm S fun a S => ?_
 refine' wl_or 2 14 rfl S H rfl rfl rfl rfl rfl rfl rfl (fun _ S => (wn rfl)) (fun h2 kk => ?yh2) (fun a w S H => ?_)
 case yh2 =>
  have h2p := h2; try simp only [DL] at h2p
  refine gz 14 h2 S rfl rfl rfl rfl rfl rfl (y_move rfl S rfl) fun a S => ?_
  refine gz 14 h2 S rfl rfl rfl rfl rfl rfl (y_bin rfl S rfl rfl rfl) fun a S => ?_
  refine gy rfl rfl rfl S (y_or' rfl h2 S rfl rfl) fun a S => ?_
  exact kk _ _ (S.join 3 17 rfl rfl) H
 refine gm S fun a S => ?_
 refine' wl_or 2 18 rfl S H rfl rfl rfl rfl rfl rfl rfl (fun _ S => (wn rfl)) (fun h3 kk => ?yh3) (fun a w S H => ?_)
 case yh3 =>
  have h3p := h3; try simp only [DL] at h3p
  refine gz 18 h3 S rfl rfl rfl rfl rfl rfl (y_move rfl S rfl) fun a S => ?_
  refine gz 18 h3 S rfl rfl rfl rfl rfl rfl (y_bin rfl S rfl rfl rfl) fun a S => ?_
  refine gy rfl rfl rfl S (y_or' rfl h3 S rfl rfl) fun a S => ?_
  exact kk _ _ (S.join 3 21 rfl rfl) H
 refine gm S fun a S => ?_
 refine' wl_or 3 22 rfl S H rfl rfl rfl rfl rfl rfl rfl (fun _ S => (wn rfl)) (fun h4 kk => ?yh4) (fun a w S H => ?_)
 case yh4 =>
  have h4p := h4; try simp only [DL] at h4p
  refine gz 22 h4 S rfl rfl rfl rfl rfl rfl (y_move rfl S rfl) fun a S => ?_
  refine wl_of (op_call (wg' 22 rfl rfl S rfl h4 rfl) rfl rfl S (co_func rfl Tryz.call29 S rfl) (time_spec stale hst _) fun v w hc a S => ?_)
  obtain ⟨rfl, he⟩ := hc
  have H := H.ext he
  refine gz 22 h4 S rfl rfl rfl rfl rfl rfl (y_not rfl S rfl) fun a S => ?_
  refine gy rfl rfl rfl S (y_or' rfl h4 S rfl rfl) fun a S => ?_
  exact kk _ _ (S.join 4 26 rfl rfl) H
 refine gnt ?_
 have S := (((((S.nil.cons S 2 rfl).cons S 1 rfl).cons S 0 rfl).cons S 6 rfl).cons S 7 rfl).cons S 26 rfl
 refine c_if S rfl (fun h5 => ?_) (fun h5 => ?_)
 ·have h5p := h5; try simp only [DL] at h5p
  all_goals (
    exfalso
    have h := h5p
    omega)
 ·have h5p := h5; try simp only [DL] at h5p
  refine g_skip ?_
  refine n_then ?_
  refine gsr ?_
  refine gm S fun a S => ?_
  refine gm S fun a S => ?_
  refine gm S fun a S => ?_
  refine wl_of (op_makeMap ((fun n : Int => Value.int .i64 n)) ((fun s : ByteArray => Value.string s)) (wn rfl) rfl rfl rfl S H fun b30 a w S H => ?_)
  refine gy rfl rfl rfl S (y_buildf rfl Fbld78 S rfl (idx := [0, 1, 2, 7]) rfl (cs := [_, _, _, _, _, _, _, _, _, _, _]) rfl) fun a S => ?_
  refine wl_of (op_boxa (wn rfl) rfl rfl rfl S H rfl fun b32 a w S H => ?_)
  refine ga S fun a S => ?_
  refine ga S fun a S => ?_
  refine gnt ?_
  have S := (S.nil.cons S 6 rfl).cons S 7 rfl
  refine g_ret ?_
  refine ret2 rfl S rfl rfl ?_
  have H : HSat No w0 (Cel b32 78 [.int .i64 id, .int .i64 0, .int .i64 stale, .int .i64 0, .bool false, .int .i64 0, .int .i64 0, .int .i64 0, (.slice none 0 0), .map (some b30), (.slice none 0 0)] :: _) w := H
  exact ⟨b32, b30, rfl, ((H.nilO 70 1 encU).nilO 58 6 encSV).take [Cel b32 78 [.int .i64 id, .int .i64 0, .int .i64 stale, .int .i64 0, .bool false, .int .i64 0, .int .i64 0, .int .i64 0, (.slice none 0 0), .map (some b30), (.slice none 0 0)], OSl 70 (.slice none 0 0) 1 encU [], MapA b30 (fun n : Int => Value.int .i64 n) (fun s : ByteArray => Value.string s) (fun _ => none) 0, OSl 58 (.slice none 0 0) 6 encSV []]⟩
/-- slices.Clone[[]foyer/api.Scan,foyer/api.Scan] -/
theorem cloneS_spec (v : Value) (xs : List SV) (w0 : World) (hv : IsSl w0 v 6 encSV xs) (hl : xs.length ≤ 200000) :
    Ret Tryz.prog 46 #[v] w0 (fun u w => HSat No w0 [OSl 58 u 6 encSV xs] w) := by
 refine ret_of_wp (nt := 8) Tryz.func46 rfl rfl rfl (fl := [(0, v)]) rfl (fun a S => ?_)
 have H := HSat.start w0
 obtain ⟨pv, cv, rfl⟩ := hv.shape
 have H := H.ro0 (Sl (.slice pv xs.length cv) 6 encSV xs) rfl (hv)
 refine gsr ?_
 refine ga S fun a S => ?_
 refine gnt ?_
 refine g_seq ?_
 refine gsr ?_
 refine gm S fun a S => ?_
 refine gy rfl rfl rfl S (y_eqsl rfl Tryz.underlying54 S rfl rfl) fun a S => ?_
 refine gnt ?_
 refine c_if S rfl (fun h1 => ?_) (fun h1 => ?_)
 ·have h1p := h1; try simp only [DL] at h1p
  have hxs : xs = [] := by
    match xs, hv with
    | [], _ => rfl
    | x :: r, hv => obtain ⟨b, off, c, he, _⟩ := hv.cells 0 (by simp); simp only [Value.slice.injEq] at he; rw [he.1] at h1; simp at h1
  refine gsr ?_
  refine ga S fun a S => ?_
  refine gnt ?_
  refine g_ret ?_
  refine r_then (ret1 rfl S rfl ?_)
  rw [hxs]; exact (H.nilO 58 6 encSV).take [OSl 58 (.slice none 0 0) 6 encSV []]
 ·have h1p := h1; try simp only [DL] at h1p
  refine g_skip ?_
  refine n_then ?_
  refine gsr ?_
  refine wl_of (op_buildSlice (wn rfl) rfl rfl rfl Tryz.underlying54 Finf58 S H (idx := []) rfl rfl rfl (z := []) (by kernel_rfl) (cs := []) rfl fun b5 a w S H => ?_)
  have H := H.celO [] encSV 6 (m := 0) rfl (by simp) rfl (by omega)
  refine gm S fun a S => ?_
  refine wl_of (op_appendT (wn rfl) rfl rfl rfl Tryz.underlying54 Finf58 rfl rfl S H rfl rfl (by simp [encSV, Value.oneCell']) (by first | assumption | omega | (simp only [LL]; omega)) (by first | assumption | omega | (simp only [LL]; omega)) fun u7 a w S H => ?_)
  refine ga S fun a S => ?_
  refine gnt ?_
  have S := S.nil.cons S 2 rfl
  refine g_ret ?_
  refine ret1 rfl S rfl ?_
  exact H.take [OSl 58 u7 6 encSV ([] ++ xs)]
/-- slices.Clone[[]uint64,uint64] -/
theorem cloneU_spec (v : Value) (xs : List Nat) (w0 : World) (hv : IsSl w0 v 1 encU xs) (hl : xs.length ≤ 200000) :
    Ret Tryz.prog 32 #[v] w0 (fun u w => HSat No w0 [OSl 70 u 1 encU xs] w) := by
 refine ret_of_wp (nt := 8) Tryz.func32 rfl rfl rfl (fl := [(0, v)]) rfl (fun a S => ?_)
 have H := HSat.start w0
 obtain ⟨pv, cv, rfl⟩ := hv.shape
 have H := H.ro0 (Sl (.slice pv xs.length cv) 1 encU xs) rfl (hv)
 refine gsr ?_
 refine ga S fun a S => ?_
 refine gnt ?_
 refine g_seq ?_
 refine gsr ?_
 refine gm S fun a S => ?_
 refine gy rfl rfl rfl S (y_eqsl rfl Tryz.underlying38 S rfl rfl) fun a S => ?_
 refine gnt ?_
 refine c_if S rfl (fun h1 => ?_) (fun h1 => ?_)
 ·have h1p := h1; try simp only [DL] at h1p
  have hxs : xs = [] := by
    match xs, hv with
    | [], _ => rfl
    | x :: r, hv => obtain ⟨b, off, c, he, _⟩ := hv.cells 0 (by simp); simp only [Value.slice.injEq] at he; rw [he.1] at h1; simp at h1
  refine gsr ?_
  refine ga S fun a S => ?_
  refine gnt ?_
  refine g_ret ?_
  refine r_then (ret1 rfl S rfl ?_)
  rw [hxs]; exact (H.nilO 70 1 encU).take [OSl 70 (.slice none 0 0) 1 encU []]
 ·have h1p := h1; try simp only [DL] at h1p
  refine g_skip ?_
  refine n_then ?_
  refine gsr ?_
  refine wl_of (op_buildSlice (wn rfl) rfl rfl rfl Tryz.underlying38 Finf70 S H (idx := []) rfl rfl rfl (z := []) (by kernel_rfl) (cs := []) rfl fun b5 a w S H => ?_)
  have H := H.celO [] encU 1 (m := 0) rfl (by simp) rfl (by omega)
  refine gm S fun a S => ?_
  refine wl_of (op_appendT (wn rfl) rfl rfl rfl Tryz.underlying38 Finf70 rfl rfl S H rfl rfl (by simp [encU, Value.oneCell']) (by first | assumption | omega | (simp only [LL]; omega)) (by first | assumption | omega | (simp only [LL]; omega)) fun u7 a w S H => ?_)
  refine ga S fun a S => ?_
  refine gnt ?_
  have S := S.nil.cons S 2 rfl
  refine g_ret ?_
  refine ret1 rfl S rfl ?_
  exact H.take [OSl 70 u7 1 encU ([] ++ xs)]
/-- (*foyer/gate.Gate).Log -/
theorem log_spec {M : Nat → Prop} {u0 : World} {l : List Atom} (b mb : Nat) (wv lv : Value) (c : Nat) (g : GSt) (w0 : World) (h0 : HSat M u0 (GateL b mb wv lv c g ++ l) w0) (hl : g.log.length ≤ 4000) :
    Ret Tryz.prog 17 #[.pointer (some ⟨b, 0, none⟩)] w0 (fun u w => HSat No w0 [OSl 58 u 6 encSV g.log] w) := by
 refine ret_of_wp (nt := 10) Tryz.func17 rfl rfl rfl (fl := [(0, .pointer (some ⟨b, 0, none⟩))]) rfl (fun a S => ?_)
 have H := gateReads h0
 refine gsr ?_
 refine ga S fun a S => ?_
 refine gnt ?_
 refine g_seq ?_
 refine gsr ?_
 refine gm S fun a S => ?_
 refine gy rfl rfl rfl S (y_eqp rfl Tryz.underlying43 S rfl rfl) fun a S => ?_
 refine gnt ?_
 refine c_if S rfl (fun h1 => ?_) (fun h1 => ?_)
 ·have h1p := h1; try simp only [DL] at h1p
  all_goals (
    exact absurd h1 (by simp))
 ·have h1p := h1; try simp only [DL] at h1p
  refine g_skip ?_
  refine n_then ?_
  refine gsr ?_
  refine gm S fun a S => ?_
  refine gy rfl rfl rfl S (y_nilCheck rfl S rfl) fun a S => ?_
  refine gy rfl rfl rfl S (y_faddrb rfl Ffo78_8 S rfl) fun a S => ?_
  refine gy rfl rfl rfl S (y_load rfl Fsca54 S H rfl rfl) fun a S => ?_
  refine wl_of (op_call (wn rfl) rfl rfl S (co_func rfl Tryz.call46 S rfl) (cloneS_spec lv g.log _ (H.sl lv) (by omega)) fun u9 w hc a S => ?_)
  have H1 := hc
  have H := H.call1 H1 rfl
  refine ga S fun a S => ?_
  refine gnt ?_
  have S := S.nil.cons S 2 rfl
  refine g_ret ?_
  refine ret1 rfl S rfl ?_
  exact H.take [OSl 58 u9 6 encSV g.log]
set_option maxHeartbeats 1000000 in
/-- (*foyer/gate.Gate).write -/
theorem gwrite_spec {M : Nat → Prop} {u0 : World} {l : List Atom} (b mb : Nat) (wv lv : Value) (c : Nat) (g : GSt) (kind serial t : Int) (owner : ByteArray) (w0 : World) (h0 : HSat M u0 (GateL b mb wv lv c g ++ l) w0) (hl : g.log.length ≤ 4000) :
    Ret Tryz.prog 33 #[.pointer (some ⟨b, 0, none⟩), .int .i64 kind, .int .i64 serial, .string owner, .int .i64 t] w0 (fun u w => u = .tuple #[] ∧ ∃ lv2, HSat M u0 (GateL b mb wv lv2 c (g.write kind serial owner t) ++ l) w) := by
 refine ret_of_wp (nt := 38) Tryz.func33 rfl rfl rfl (fl := [(0, .pointer (some ⟨b, 0, none⟩)), (1, .int .i64 kind), (2, .int .i64 serial), (3, .string owner), (4, .int .i64 t)]) rfl (fun a S => ?_)
 have H := h0
 simp only [GateL, List.cons_append, List.nil_append] at H
 refine gsr ?_
 refine gm S fun a S => ?_
 refine gm S fun a S => ?_
 refine gy rfl rfl rfl S (y_nilCheck rfl S rfl) fun a S => ?_
 refine gy rfl rfl rfl S (y_faddrb rfl Ffo78_3 S rfl) fun a S => ?_
 refine wl_of (op_store (wn rfl) rfl rfl S H rfl rfl rfl Fsiz3 rfl fun a w S H => ?_)
 dsimp only [List.set, Nat.zero_add, Nat.reduceAdd] at H
 refine gnt ?_
 have S := ((((S.nil.cons S 4 rfl).cons S 3 rfl).cons S 2 rfl).cons S 1 rfl).cons S 0 rfl
 refine region_st (loud := [20, 21, 24]) (tails := [21, 24]) (free := [0]) [0, 1, 2, 3, 4, 5, 6, 7, 8, 9, 10, 11, 12, 13, 14, 15, 16, 17, 18, 19, 20, 21, 22, 23, 24] [] Fmo (by kernel_rfl) (by kernel_rfl) rfl H ?_
 refine m_f rfl rfl (wn rfl) rfl rfl S (fun w H => y_move rfl S rfl) fun a S => ?_
 refine m_w rfl rfl (wn rfl) rfl rfl S (fun w H => y_move rfl S rfl) fun a S => ?_
 refine m_w rfl rfl (wn rfl) rfl rfl S (fun w H => y_nilCheck rfl S rfl) fun a S => ?_
 refine m_w rfl rfl (wn rfl) rfl rfl S (fun w H => y_faddrb rfl Ffo78_8 S rfl) fun a S => ?_
 refine m_w rfl rfl (wn rfl) rfl rfl S (fun w H => y_load rfl Fsca54 S H rfl rfl) fun a S => ?_
 refine m_w rfl rfl (wn rfl) rfl rfl S (fun w H => y_move rfl S rfl) fun a S => ?_
 refine m_w rfl rfl (wn rfl) rfl rfl S (fun w H => y_nilCheck rfl S rfl) fun a S => ?_
 refine m_w rfl rfl (wn rfl) rfl rfl S (fun w H => y_faddrb rfl Ffo78_0 S rfl) fun a S => ?_
 refine m_w rfl rfl (wn rfl) rfl rfl S (fun w H => y_load rfl Fsca3 S H rfl rfl) fun a S => ?_
 refine m_w rfl rfl (wn rfl) rfl rfl S (fun w H => y_move rfl S rfl) fun a S => ?_
 refine m_w rfl rfl (wn rfl) rfl rfl S (fun w H => y_nilCheck rfl S rfl) fun a S => ?_
 refine m_w rfl rfl (wn rfl) rfl rfl S (fun w H => y_faddrb rfl Ffo78_8 S rfl) fun a S => ?_
 refine m_w rfl rfl (wn rfl) rfl rfl S (fun w H => y_load rfl Fsca54 S H rfl rfl) fun a S => ?_
 refine m_w rfl rfl (wn rfl) rfl rfl S (fun w H => y_lens rfl Tryz.underlying54 S H rfl) fun a S => ?_
 refine m_w rfl rfl (wn rfl) rfl rfl S (fun w H => y_add rfl S rfl rfl (by omega)) fun a S => ?_
 refine m_w rfl rfl (wn rfl) rfl rfl S (fun w H => y_move rfl S rfl) fun a S => ?_
 refine m_w rfl rfl (wn rfl) rfl rfl S (fun w H => y_move rfl S rfl) fun a S => ?_
 refine m_w rfl rfl (wn rfl) rfl rfl S (fun w H => y_move rfl S rfl) fun a S => ?_
 refine m_w rfl rfl (wn rfl) rfl rfl S (fun w H => y_move rfl S rfl) fun a S => ?_
 refine m_w rfl rfl (wn rfl) rfl rfl S (fun w H => y_buildf rfl Fbld58 S rfl (idx := [0, 1, 2, 3, 4, 5]) rfl (cs := [_, _, _, _, _, _]) rfl) fun a S => ?_
 refine m_l rfl rfl (fun w H => op_buildSlice (wn rfl) rfl rfl rfl Tryz.underlying54 Finf58 S H (idx := [0]) rfl rfl rfl (z := [.int .i64 0, .int .i64 0, .int .i64 0, .int .i64 0, .int .i64 0, .string ⟨#[]⟩]) (by kernel_rfl) (cs := [.int .i64 g.id, .int .i64 ((g.log.length : Int) + 1), .int .i64 t, .int .i64 serial, .int .i64 kind, .string owner]) (by kernel_rfl) fun b34 a w S H => m_next H (List.sublist_cons_self _ _) ?_)
 refine m_l rfl rfl (fun w H => op_append ([(⟨g.id, (g.log.length : Int) + 1, t, serial, kind, owner⟩ : SV)]) (wn rfl) rfl rfl rfl Tryz.underlying54 Finf58 rfl rfl S H rfl rfl rfl rfl (by simp) (by simp [encSV]) (by simp [encSV, Value.oneCell']) (by simp only [List.length_singleton]; omega) (by simp only [List.length_singleton]; omega) fun u35 a w hn35 S H => m_tail H rfl ?_)
 refine m_w rfl rfl (wn rfl) rfl rfl S (fun w H => y_nilCheck rfl S rfl) fun a S => ?_
 refine m_w rfl rfl (wn rfl) rfl rfl S (fun w H => y_faddrb rfl Ffo78_8 S rfl) fun a S => ?_
 refine m_l rfl rfl (fun w H => op_store (wn rfl) rfl rfl S H rfl rfl (H.sl1 _) Fsiz54 rfl fun a w S H => m_tail H rfl ?_)
 dsimp only [List.set, Nat.zero_add, Nat.reduceAdd] at H
 refine m_nil (fun w H => ?_)
 refine ret0n rfl S ?_
 exact ⟨rfl, u35, H.tail⟩
set_option maxHeartbeats 1000000 in
/-- (*foyer/gate.Gate).Sync -/
theorem sync_spec {M : Nat → Prop} {u0 : World} {l : List Atom} (b mb : Nat) (wv lv : Value) (c : Nat) (g : GSt) (fq fh : Nat) (nv : Value) (ws : List Nat) (t : Int) (w0 : World) (hfq : 1 ≤ fq ∧ fq ≤ 64) (hfh : 1 ≤ fh ∧ fh ≤ 8) (h0 : HSat M u0 (GateL b mb wv lv c g ++ l) w0) [hS : HasSl l nv 1 Nat encU ws] [hTA : HasAt l TabsA] [hTB : HasAt l TabB] (hok : WOk fq ws) (hn : 0 ≤ t ∧ t ≤ 1000000000) (hle : g.now ≤ t) :
    Ret Tryz.prog 13 #[.pointer (some ⟨b, 0, none⟩), .agg (encF fq fh nv).toArray, .int .i64 t] w0 (fun u w => u = .int .i64 0 ∧ ∃ wv2, HSat M u0 (GateL b mb wv2 lv c (g.sync fq fh ws t) ++ l) w) := by
 refine ret_of_wp (nt := 40) Tryz.func13 rfl rfl rfl (fl := [(0, .pointer (some ⟨b, 0, none⟩)), (1, .agg (encF fq fh nv).toArray), (2, .int .i64 t)]) rfl (fun a S => ?_)
 have H := h0
 simp only [GateL, List.cons_append, List.nil_append] at H
 obtain ⟨pn, cn, hpn⟩ := (H.sl nv).shape
 have hlw := hok.len
 refine gsr ?_
 refine wl_of (op_boxa (wn rfl) rfl rfl rfl S H (by rw [hpn]; rfl) fun b4 a w S H => ?_)
 rw [← hpn] at H
 refine ga S fun a S => ?_
 refine gnt ?_
 refine gsr ?_
 refine gm S fun a S => ?_
 refine gm S fun a S => ?_
 refine wl_of (op_call (wn rfl) rfl rfl S (co_func rfl Tryz.call30 S rfl) (come_spec b mb wv lv g t _ (H.take [Cel b 78 [.int .i64 g.id, .int .i64 0, .int .i64 g.stale, .int .i64 g.now, .bool g.synced, .int .i64 g.since, .int .i64 g.bits, .int .i64 g.hs, wv, .map (some mb), lv]]).reads hn hle) fun v w hc a S => ?_)
 obtain ⟨rfl, he⟩ := hc
 have H := H.ext he
 refine ga S fun a S => ?_
 refine gnt ?_
 have S := ((((S.nil.cons S 2 rfl).cons S 0 rfl).cons S 4 rfl).cons S 6 rfl).cons S 7 rfl
 refine g_seq ?_
 refine gsr ?_
 refine gm S fun a S => ?_
 refine gy rfl rfl rfl S (y_bin rfl S rfl rfl rfl) fun a S => ?_
 refine gm S fun a S => ?_
 refine gz 13 rfl S rfl rfl rfl rfl rfl rfl (y_load0 rfl S H rfl (by exact Fagg40)) fun a S => ?_
 refine wl_of (op_call (wg' 13 rfl rfl S rfl rfl rfl) rfl rfl S (co_func rfl Tryz.call31 S rfl) (text_ne fq fh nv ws _ hfq hfh (H.sl nv) hok H.tabs (tabB_of H)) fun v w hc a S => ?_)
 obtain ⟨s, rfl, hs, he⟩ := hc
 have H := H.ext he
 refine gz 13 rfl S rfl rfl rfl rfl rfl rfl (y_eqs rfl Tryz.underlying9 S rfl rfl) fun a S => ?_
 refine gy rfl rfl rfl S (y_or' rfl rfl S rfl rfl) fun a S => ?_
 refine gnt ?_
 have S := (((((S.nil.cons S 2 rfl).cons S 0 rfl).cons S 4 rfl).cons S 6 rfl).cons S 7 rfl).cons S 17 rfl
 refine c_if S rfl (fun h2 => ?_) (fun h2 => ?_)
 ·have h2p := h2; try simp only [DL] at h2p
  all_goals (
    exfalso
    have h := h2p
    have h2 : s = ⟨#[]⟩ := by simpa using h
    subst h2
    exact absurd hs (by decide))
 ·have h2p := h2; try simp only [DL] at h2p
  refine g_skip ?_
  refine n_then ?_
  refine g_seq ?_
  refine gsr ?_
  refine gm S fun a S => ?_
  refine gy rfl rfl rfl S (y_bin rfl S rfl rfl rfl) fun a S => ?_
  refine gnt ?_
  refine c_if S rfl (fun h3 => ?_) (fun h3 => ?_)
  ·have h3p := h3; try simp only [DL] at h3p
   refine gsr ?_
   refine gy rfl rfl rfl S (y_faddrb rfl Ffo40_2 S rfl) fun a S => ?_
   refine gy rfl rfl rfl S (y_load rfl Fsca38 S H rfl rfl) fun a S => ?_
   refine wl_of (op_call (wn rfl) rfl rfl S (co_func rfl Tryz.call32 S rfl) (cloneU_spec nv ws _ (H.sl nv) (by omega)) fun u22 w hc a S => ?_)
   have H1 := hc
   have H := H.call1 H1 rfl
   refine gy rfl rfl rfl S (y_faddrb rfl Ffo40_2 S rfl) fun a S => ?_
   refine wl_of (op_store (wn rfl) rfl rfl S H rfl rfl (H.sl1 _) Fsiz38 rfl fun a w S H => ?_)
   simp only [encF, List.set, Nat.zero_add, Nat.reduceAdd] at H
   refine gnt ?_
   have S := ((((S.nil.cons S 2 rfl).cons S 0 rfl).cons S 4 rfl).cons S 6 rfl).cons S 7 rfl
   have H := (H.front (Cel b4 40 [.int .i64 ((64 * fq : Nat) : Int), .int .i64 (fh : Int), u22])).freeze
   ·skip
    refine region_st (loud := [9, 12, 15, 18]) (tails := [9, 12, 15, 18]) (free := [1, 2, 3, 5, 6]) [0, 1, 2, 3, 4, 5, 6, 7, 8, 9, 10, 11, 12, 13, 14, 15, 16, 17, 18] [Atom.ro (Cel b4 40 [.int .i64 ((64 * fq : Nat) : Int), .int .i64 (fh : Int), u22])] Fmo (by kernel_rfl) (by kernel_rfl) rfl H ?_
    refine m_w rfl rfl (wn rfl) rfl rfl S (fun w H => y_move rfl S rfl) fun a S => ?_
    refine m_f rfl rfl (wn rfl) rfl rfl S (fun w H => y_move rfl S rfl) fun a S => ?_
    refine m_f rfl rfl (wn rfl) rfl rfl S (fun w H => y_move rfl S rfl) fun a S => ?_
    refine m_f rfl rfl (wn rfl) rfl rfl S (fun w H => y_move rfl S rfl) fun a S => ?_
    refine m_w rfl rfl (wn rfl) rfl rfl S (fun w H => y_move rfl S rfl) fun a S => ?_
    refine m_f rfl rfl (wn rfl) rfl rfl S (fun w H => y_move rfl S rfl) fun a S => ?_
    refine m_f rfl rfl (wn rfl) rfl rfl S (fun w H => y_load0 rfl S H rfl (by exact Fagg40)) fun a S => ?_
    refine m_w rfl rfl (wn rfl) rfl rfl S (fun w H => y_nilCheck rfl S rfl) fun a S => ?_
    refine m_w rfl rfl (wn rfl) rfl rfl S (fun w H => y_faddrb rfl Ffo78_3 S rfl) fun a S => ?_
    refine m_l rfl rfl (fun w H => op_store (wn rfl) rfl rfl S H rfl rfl rfl Fsiz3 rfl fun a w S H => m_tail H rfl ?_)
    dsimp only [List.set, Nat.zero_add, Nat.reduceAdd] at H
    refine m_w rfl rfl (wn rfl) rfl rfl S (fun w H => y_nilCheck rfl S rfl) fun a S => ?_
    refine m_w rfl rfl (wn rfl) rfl rfl S (fun w H => y_faddrb rfl Ffo78_5 S rfl) fun a S => ?_
    refine m_l rfl rfl (fun w H => op_store (wn rfl) rfl rfl S H rfl rfl rfl Fsiz3 rfl fun a w S H => m_tail H rfl ?_)
    dsimp only [List.set, Nat.zero_add, Nat.reduceAdd] at H
    refine m_w rfl rfl (wn rfl) rfl rfl S (fun w H => y_nilCheck rfl S rfl) fun a S => ?_
    refine m_w rfl rfl (wn rfl) rfl rfl S (fun w H => y_faddrb rfl Ffo78_4 S rfl) fun a S => ?_
    refine m_l rfl rfl (fun w H => op_store (wn rfl) rfl rfl S H rfl rfl rfl Fsiz4 rfl fun a w S H => m_tail H rfl ?_)
    dsimp only [List.set, Nat.zero_add, Nat.reduceAdd] at H
    refine m_w rfl rfl (wn rfl) rfl rfl S (fun w H => y_nilCheck rfl S rfl) fun a S => ?_
    refine m_w rfl rfl (wn rfl) rfl rfl S (fun w H => y_faddrb rfl Ffo78_6 S rfl) fun a S => ?_
    refine m_l rfl rfl (fun w H => op_storea (wn rfl) rfl rfl S H rfl rfl (all3 (H.sl1 u22)) Fsiz40 rfl (cs' := [_, _, _, _, _, _, _, _, _, _, _]) rfl fun a w S H => m_tail H rfl ?_)
    refine m_nil (fun w H => ?_)
    refine n_then ?_
    have S := (S.nil.cons S 6 rfl).cons S 7 rfl
    refine gsr ?_
    refine gm S fun a S => ?_
    refine ga S fun a S => ?_
    refine gnt ?_
    refine g_ret ?_
    refine ret1 rfl S rfl ?_
    exact ⟨rfl, u22, H.takeT [Cel b 78 [.int .i64 g.id, .int .i64 0, .int .i64 g.stale, .int .i64 t, .bool true, .int .i64 t, .int .i64 ((64 * fq : Nat) : Int), .int .i64 (fh : Int), u22, .map (some mb), lv], OSl 70 u22 1 encU ws, MapA mb (fun n : Int => Value.int .i64 n) (fun s : ByteArray => Value.string s) g.ins c, OSl 58 lv 6 encSV g.log] l⟩
  ·have h3p := h3; try simp only [DL] at h3p
   all_goals (
     exact absurd h3 (by simp))
end Go.Proofs.YtjdbggnhdeaflaaGreatDoor
end
section
namespace Go.Proofs.YtjdbggnhdeaflaaGreatDoor
open Go Go.Gw
set_option linter.unusedVariables false
set_option linter.unusedSimpArgs false
/-- a title that was never handed on -/
def titF (serial place : Int) (first : ByteArray) : TV := ⟨serial, 0, place, first, .slice none 0 0, []⟩
theorem titF_ok (w : World) (serial place : Int) (first : ByteArray) : TOk w (titF serial place first) := ⟨IsSl.nil w 2 encX, by simp [titF, capOK], by simp [titF]⟩
structure TitOK (serial place : Int) (first : ByteArray) : Prop where
  s : 10001 ≤ serial ∧ serial ≤ 19999
  p : 0 ≤ place ∧ place ≤ 3999
  f : isD first = true
theorem TitOK.sz {s p : Int} {f : ByteArray} (h : TitOK s p f) : TSz (titF s p f) := by
  have h1 := h.s
  have h2 := h.p
  have h3 := isD_size h.f
  exact ⟨by simp only [titF]; omega, by simp only [titF]; omega, by simp only [titF]; omega, by simp only [titF]; omega, by simp [titF], by simp [titF]⟩
theorem TitOK.valid {s p : Int} {f : ByteArray} (h : TitOK s p f) : validB (titF s p f) = true := by
  have h1 := h.s
  have h2 := h.p
  have hn : numT (titF s p f) = s - 10000 := by
    unfold numT titF
    dsimp only
    rw [wrap_in (m := 0 + 1) (by decide) (by decide), wrap_in (m := (0 + 1) * 10000) (by decide) (by decide), wrap_in (by omega) (by omega)]
    omega
  unfold validB formedB headB
  rw [hn]
  simp only [titF, h.f, List.all_nil, List.length_nil, List.range_zero, Bool.and_true, Bool.not_true, Bool.or_false, Int.ofNat_zero]
  simp
  exact ⟨⟨⟨by omega, by omega⟩, decide_eq_false (by omega)⟩, by omega⟩
def fun1 (p : Value × Bool) : List Value := [p.1]
/-- (*foyer/gate.Gate).Scan$1 -/
theorem ref1_spec (b : Nat) (r : Bool) (w0 : World) (h0 : HSat No w0 [Atom.ro (Cel b 4 [.bool r])] w0) :
    Ret Tryz.prog 34 #[.pointer (some ⟨b, 0, none⟩)] w0 (fun u w => u = .bool r ∧ Ext w0 w) := by
 refine ret_of_wp (nt := 3) Tryz.func34 rfl rfl rfl (fl := [(0, .pointer (some ⟨b, 0, none⟩))]) rfl (fun a S => ?_)
 have H := h0
 refine gsr ?_
 refine ga S fun a S => ?_
 refine gnt ?_
 refine gsr ?_
 refine gy rfl rfl rfl S (y_load rfl Fsca4 S H rfl rfl) fun a S => ?_
 refine ga S fun a S => ?_
 refine gnt ?_
 refine g_ret ?_
 refine ret1 rfl S rfl ?_
 exact ⟨rfl, H.toExt⟩
/-- (*foyer/gate.Gate).Scan$2 -/
theorem ref2_spec (fq fh : Nat) (b b3 b4 mb : Nat) (wv lv : Value) (g : GSt) (serial place : Int) (first : ByteArray) (w0 : World) (h0 : HSat No w0 [Atom.ro (Cel b3 43 [.pointer (some ⟨b, 0, none⟩)]), Atom.ro (Cel b4 53 [.int .i64 serial, .int .i64 0, .int .i64 place, .string first, .slice none 0 0]), Atom.ro (Cel b 78 [.int .i64 g.id, .int .i64 0, .int .i64 g.stale, .int .i64 g.now, .bool g.synced, .int .i64 g.since, .int .i64 g.bits, .int .i64 g.hs, wv, .map (some mb), lv])] w0) :
    Ret Tryz.prog 35 #[.pointer (some ⟨b4, 0, none⟩), .pointer (some ⟨b3, 0, none⟩)] w0 (fun u w => u = .bool false ∧ Ext w0 w) := by
 refine ret_of_wp (nt := 10) Tryz.func35 rfl rfl rfl (fl := [(0, .pointer (some ⟨b4, 0, none⟩)), (1, .pointer (some ⟨b3, 0, none⟩))]) rfl (fun a S => ?_)
 have H := h0
 refine gsr ?_
 refine ga S fun a S => ?_
 refine gnt ?_
 refine g_seq ?_
 refine region_st (loud := []) (tails := []) (free := []) [0, 1, 2, 3, 4, 5, 6, 7] [] Fmo (by kernel_rfl) (by kernel_rfl) rfl H ?_
 refine m_w rfl rfl (wn rfl) rfl rfl S (fun w H => y_faddrb rfl Ffo53_1 S rfl) fun a S => ?_
 refine m_w rfl rfl (wn rfl) rfl rfl S (fun w H => y_load rfl Fsca3 S H rfl rfl) fun a S => ?_
 refine m_w rfl rfl (wn rfl) rfl rfl S (fun w H => y_load rfl Fsca43 S H rfl rfl) fun a S => ?_
 refine m_w rfl rfl (wn rfl) rfl rfl S (fun w H => y_nilCheck rfl S rfl) fun a S => ?_
 refine m_w rfl rfl (wn rfl) rfl rfl S (fun w H => y_faddrb rfl Ffo78_1 S rfl) fun a S => ?_
 refine m_w rfl rfl (wn rfl) rfl rfl S (fun w H => y_load rfl Fsca3 S H rfl rfl) fun a S => ?_
 refine m_w rfl rfl (wn rfl) rfl rfl S (fun w H => y_bin rfl S rfl rfl rfl) fun a S => ?_
 refine m_w rfl rfl (wn rfl) rfl rfl S (fun w H => y_assign rfl S rfl) fun a S => ?_
 refine m_nil (fun w H => ?_)
 refine n_then ?_
 have S := S.nil.cons S 2 rfl
 refine g_ret ?_
 refine ret1 rfl S rfl ?_
 exact ⟨rfl, H.toExt⟩
/-- (*foyer/gate.Gate).Scan$3 -/
theorem ref3_spec (fq fh : Nat) (b b3 b4 mb : Nat) (wv lv : Value) (g : GSt) (serial place : Int) (first : ByteArray) (w0 : World) (h0 : HSat No w0 [TabsA, Atom.ro (Cel b3 43 [.pointer (some ⟨b, 0, none⟩)]), Atom.ro (Cel b4 53 [.int .i64 serial, .int .i64 0, .int .i64 place, .string first, .slice none 0 0]), Atom.ro (Cel b 78 [.int .i64 g.id, .int .i64 0, .int .i64 g.stale, .int .i64 g.now, .bool g.synced, .int .i64 g.since, .int .i64 ((64 * fq : Nat) : Int), .int .i64 (fh : Int), wv, .map (some mb), lv]), Atom.ro (OSl 70 wv 1 encU g.ws)] w0) (hok : WOk fq g.ws) (hfq : 1 ≤ fq ∧ fq ≤ 64) (hfh : 1 ≤ fh ∧ fh ≤ 8) (hs : 10001 ≤ serial ∧ serial ≤ 19999) :
    Ret Tryz.prog 36 #[.pointer (some ⟨b3, 0, none⟩), .pointer (some ⟨b4, 0, none⟩)] w0 (fun u w => u = .bool (hasF fq fh g.ws serial) ∧ Ext w0 w) := by
 refine ret_of_wp (nt := 10) Tryz.func36 rfl rfl rfl (fl := [(0, .pointer (some ⟨b3, 0, none⟩)), (1, .pointer (some ⟨b4, 0, none⟩))]) rfl (fun a S => ?_)
 have H := h0
 refine gsr ?_
 refine ga S fun a S => ?_
 refine gnt ?_
 refine g_seq ?_
 refine region_st (loud := []) (tails := []) (free := []) [0, 1, 2, 3, 4, 5, 6, 7] [] Fmo (by kernel_rfl) (by kernel_rfl) rfl H ?_
 refine m_w rfl rfl (wn rfl) rfl rfl S (fun w H => y_load rfl Fsca43 S H rfl rfl) fun a S => ?_
 refine m_w rfl rfl (wn rfl) rfl rfl S (fun w H => y_nilCheck rfl S rfl) fun a S => ?_
 refine m_w rfl rfl (wn rfl) rfl rfl S (fun w H => y_faddrb rfl Ffo78_6 S rfl) fun a S => ?_
 refine m_w rfl rfl (wn rfl) rfl rfl S (fun w H => (y_loadp (vs := encF fq fh wv) rfl S H rfl (by exact Fagg40) rfl)) fun a S => ?_
 refine m_w rfl rfl (wn rfl) rfl rfl S (fun w H => y_faddrb rfl Ffo53_0 S rfl) fun a S => ?_
 refine m_w rfl rfl (wn rfl) rfl rfl S (fun w H => y_load rfl Fsca3 S H rfl rfl) fun a S => ?_
 refine m_c rfl rfl (wn rfl) rfl rfl S (fun w => co_func rfl Tryz.call37 S rfl) (fun w H => has_spec fq fh wv g.ws serial _ hfq hfh (H.sl wv) hok (by omega) H.tabs) fun a S => ?_
 refine m_w rfl rfl (wn rfl) rfl rfl S (fun w H => y_assign rfl S rfl) fun a S => ?_
 refine m_nil (fun w H => ?_)
 refine n_then ?_
 have S := S.nil.cons S 2 rfl
 refine g_ret ?_
 refine ret1 rfl S rfl ?_
 exact ⟨rfl, H.toExt⟩
/-- (*foyer/gate.Gate).Scan$4 -/
theorem ref4_spec (b4 : Nat) (serial place : Int) (first : ByteArray) (w0 : World) (h0 : HSat No w0 [TabsA, Atom.ro (Cel b4 53 [.int .i64 serial, .int .i64 0, .int .i64 place, .string first, .slice none 0 0])] w0) (hv : TitOK serial place first) :
    Ret Tryz.prog 38 #[.pointer (some ⟨b4, 0, none⟩)] w0 (fun u w => u = .bool false ∧ Ext w0 w) := by
 refine ret_of_wp (nt := 5) Tryz.func38 rfl rfl rfl (fl := [(0, .pointer (some ⟨b4, 0, none⟩))]) rfl (fun a S => ?_)
 have H := h0
 refine gsr ?_
 refine ga S fun a S => ?_
 refine gnt ?_
 refine gsr ?_
 refine gy rfl rfl rfl S (y_load0 rfl S H rfl (by exact Fagg53)) fun a S => ?_
 refine wl_of (op_call (wn rfl) rfl rfl S (co_func rfl Tryz.call39 S rfl) ((by have h := valid_spec (titF serial place first) w0 (titF_ok _ _ _ _) hv.sz H.tabs; rw [hv.valid] at h; exact h)) fun v w hc a S => ?_)
 obtain ⟨rfl, he⟩ := hc
 have H := H.ext he
 refine gy rfl rfl rfl S (y_not rfl S rfl) fun a S => ?_
 refine ga S fun a S => ?_
 refine gnt ?_
 have S := S.nil.cons S 1 rfl
 refine g_ret ?_
 refine ret1 rfl S rfl ?_
 exact ⟨rfl, H.toExt⟩
/-- (*foyer/gate.Gate).Scan$5 -/
theorem ref5_spec (f : FuncId) (cap : List Value) (he : Enters Tryz.prog f) (r : Bool) (w0 : World) (hr : Ret Tryz.prog f cap.toArray w0 (fun u w => u = .bool r ∧ Ext w0 w)) :
    Ret Tryz.prog 41 #[.func (.func f) #[] cap.toArray] w0 (fun u w => u = .bool r ∧ Ext w0 w) := by
 refine ret_of_wp (nt := 5) Tryz.func41 rfl rfl rfl (fl := [(0, .func (.func f) #[] cap.toArray)]) rfl (fun a S => ?_)
 have H := HSat.start w0
 refine gsr ?_
 refine ga S fun a S => ?_
 refine gnt ?_
 refine gsr ?_
 refine gm S fun a S => ?_
 refine wl_of (op_call (wn rfl) rfl rfl S (co_value rfl he S rfl rfl) ((by simpa using hr)) fun v w hc a S => ?_)
 obtain ⟨rfl, he⟩ := hc
 have H := H.ext he
 refine ga S fun a S => ?_
 refine gnt ?_
 have S := S.nil.cons S 2 rfl
 refine g_ret ?_
 refine ret1 rfl S rfl ?_
 exact ⟨rfl, H.toExt⟩
/-- slices.IndexFunc[[]func() bool,func() bool] -/
theorem idxf_spec (v : Value) (xs : List (Value × Bool)) (f : FuncId) (cap : List Value) (he : Enters Tryz.prog f) (pr : (Value × Bool) → Bool) (w0 : World) (hv : IsSl w0 v 1 fun1 xs)
    (hstep : ∀ x ∈ xs, ∀ w, Ext w0 w → Ret Tryz.prog f ([x.1] ++ cap).toArray w (fun u w' => u = .bool (pr x) ∧ Ext w w')) :
    Ret Tryz.prog 63 #[v, .func (.func f) #[] cap.toArray] w0 (fun u w => (u = .int .i64 (-1) ∧ xs.any pr = false ∧ Ext w0 w) ∨ (∃ j : Nat, u = .int .i64 (j : Int) ∧ xs.any pr = true ∧ Ext w0 w)) := by
 refine ret_of_wp (nt := 19) Tryz.func63 rfl rfl rfl (fl := [(0, v), (1, .func (.func f) #[] cap.toArray)]) rfl (fun a S => ?_)
 have H := HSat.start w0
 have H := H.ro0 (Sl v 1 fun1 xs) rfl (hv)
 have hlen := hv.len
 refine gsr ?_
 refine ga S fun a S => ?_
 refine gnt ?_
 refine g_seq ?_
 refine gsr ?_
 refine gm S fun a S => ?_
 refine gy rfl rfl rfl S (y_lens rfl Tryz.underlying86 S H rfl) fun a S => ?_
 refine gm S fun a S => ?_
 refine gnt ?_
 refine g_block ?_
 have SU := ((S.nil.cons S 1 rfl).cons S 0 rfl).cons S 7 rfl
 refine loop_k (X := Nat) SU (fun k => [(8, .int .i64 (k : Int))]) (fun k => k ≤ xs.length ∧ (∀ j (h : j < xs.length), j < k → pr xs[j] = false)) (fun k => xs.length - k) 0 (S.nil.cons S 8 rfl) H (⟨by omega, fun j h hj => by omega⟩) (fun k a w S H hi => ?_)
 simp only [List.cons_append, List.nil_append] at S hi
 obtain ⟨hk, hpr⟩ := hi
 refine gsr ?_
 refine gy rfl rfl rfl S (y_bin rfl S rfl rfl rfl) fun a S => ?_
 refine gnt ?_
 refine g_seq ?_
 refine c_if S rfl (fun h1 => ?_) (fun h1 => ?_)
 ·have h1p := h1; try simp only [DL] at h1p
  refine g_skip ?_
  refine n_then ?_
  refine g_seq ?_
  refine g_block ?_
  refine gsr ?_
  refine gm S fun a S => ?_
  refine ga S fun a S => ?_
  refine gnt ?_
  refine gsr ?_
  refine gm S fun a S => ?_
  refine gm S fun a S => ?_
  refine gm S fun a S => ?_
  refine gy rfl rfl rfl S (y_iaddrn rfl Tryz.underlying86 Fsiz25 S H rfl rfl (by first | assumption | omega | (simp only [LL]; omega))) fun a S => ?_
  refine gy rfl rfl rfl S (y_loads _ rfl Fsca25 S H rfl (by first | assumption | omega | (simp only [LL]; omega)) rfl) fun a S => ?_
  refine wl_of (op_call (wn rfl) rfl rfl S (co_value rfl he S rfl rfl) (hstep _ (List.getElem_mem (by omega)) w H.toExt) fun v w hc a S => ?_)
  obtain ⟨rfl, he1⟩ := hc
  have H := H.ext he1
  refine gnt ?_
  have S := (((((S.nil.cons S 1 rfl).cons S 0 rfl).cons S 7 rfl).cons S 8 rfl).cons S 5 rfl).cons S 16 rfl
  refine c_if S rfl (fun h2 => ?_) (fun h2 => ?_)
  ·have h2p := h2; try simp only [DL] at h2p
   refine gsr ?_
   refine gm S fun a S => ?_
   refine ga S fun a S => ?_
   refine gnt ?_
   refine g_ret ?_
   refine r_block (r_then (r_then (r_block (r_then (ret1 rfl S rfl ?_)))))
   exact .inr ⟨k, rfl, List.any_eq_true.2 ⟨_, List.getElem_mem (by omega), h2⟩, H.toExt⟩
  ·have h2p := h2; try simp only [DL] at h2p
   refine g_skip ?_
   refine n_block ?_
   refine n_then ?_
   refine g_region ?_
   refine gy rfl rfl rfl S (y_add rfl S rfl rfl (by omega)) fun a S => ?_
   refine gm S fun a S => ?_
   refine gnt ?_
   refine ⟨k + 1, S.nil.cons S 8 rfl, ((S.nil.cons S 1 rfl).cons S 0 rfl).cons S 7 rfl, H, ?_, ?_⟩
   · exact ⟨by omega, fun j h hj => by by_cases hjk : j < k; exact hpr j h hjk; (obtain rfl : j = k := by omega); exact h2⟩
   · omega
 ·have h1p := h1; try simp only [DL] at h1p
  refine g_exit ?_
  refine x_then (x_then (x_eq ?_))
  refine n_then ?_
  have S := S.nil
  refine gsr ?_
  refine ga S fun a S => ?_
  refine gnt ?_
  refine g_ret ?_
  refine ret1 rfl S rfl ?_
  obtain rfl : k = xs.length := by omega
  exact .inl ⟨rfl, List.any_eq_false.2 (fun x hx => by obtain ⟨j, hj, rfl⟩ := List.getElem_of_mem hx; simp [hpr j hj hj]), H.toExt⟩
/-- slices.ContainsFunc[[]func() bool,func() bool] -/
theorem conf_spec (v : Value) (xs : List (Value × Bool)) (f : FuncId) (cap : List Value) (he : Enters Tryz.prog f) (pr : (Value × Bool) → Bool) (w0 : World) (hv : IsSl w0 v 1 fun1 xs)
    (hstep : ∀ x ∈ xs, ∀ w, Ext w0 w → Ret Tryz.prog f ([x.1] ++ cap).toArray w (fun u w' => u = .bool (pr x) ∧ Ext w w')) :
    Ret Tryz.prog 40 #[v, .func (.func f) #[] cap.toArray] w0 (fun u w => u = .bool (xs.any pr) ∧ Ext w0 w) := by
 refine ret_of_wp (nt := 9) Tryz.func40 rfl rfl rfl (fl := [(0, v), (1, .func (.func f) #[] cap.toArray)]) rfl (fun a S => ?_)
 have H := HSat.start w0
 refine gsr ?_
 refine ga S fun a S => ?_
 refine gnt ?_
 refine gsr ?_
 refine gm S fun a S => ?_
 refine gm S fun a S => ?_
 refine wl_of (op_call (wn rfl) rfl rfl S (co_func rfl Tryz.call63 S rfl) (Ret.mono (idxf_spec v xs f cap he pr w0 hv hstep) (fun u w h => (show ∃ i : Int, u = .int .i64 i ∧ xs.any pr = decide (i ≥ 0) ∧ Ext w0 w from by rcases h with ⟨h1, h2, h3⟩ | ⟨j, h1, h2, h3⟩; exact ⟨-1, h1, by rw [h2]; rfl, h3⟩; exact ⟨j, h1, by rw [h2]; simp, h3⟩))) fun v w hc a S => ?_)
 obtain ⟨i, rfl, hany, he1⟩ := hc
 have H := H.ext he1
 refine gy rfl rfl rfl S (y_bin rfl S rfl rfl rfl) fun a S => ?_
 refine ga S fun a S => ?_
 refine gnt ?_
 have S := S.nil.cons S 4 rfl
 refine g_ret ?_
 refine ret1 rfl S rfl ?_
 exact ⟨by rw [hany], H.toExt⟩
end Go.Proofs.YtjdbggnhdeaflaaGreatDoor
end
section
namespace Go.Proofs.YtjdbggnhdeaflaaGreatDoor
open Go Go.Gw
set_option linter.unusedVariables false
set_option linter.unusedSimpArgs false
theorem own_t (serial place : Int) (first : ByteArray) (w0 : World) : Ret Tryz.prog 42 #[.agg ([.int .i64 serial, .int .i64 0, .int .i64 place, .string first, .slice none 0 0] : List Value).toArray] w0 (fun u w => u = .string first ∧ Ext w0 w) := owner_spec (titF serial place first) w0 (titF_ok _ _ _ _)
section
variable {fq fh : Nat} {g : GSt} {serial t : Int} {first : ByteArray}
theorem scan_stale (h : g.synced = false ∨ t - g.since > g.stale) : g.scanR fq fh serial t = (0, 26) ∧ g.scan fq fh serial first t = g := by unfold GSt.scanR GSt.scan; rw [if_pos h, if_pos h]; exact ⟨rfl, rfl⟩
theorem scan_ref (h : ¬ (g.synced = false ∨ t - g.since > g.stale)) (h2 : (g.ins serial).isSome = true ∨ hasF fq fh g.ws serial = true) : (3 : Int) = (g.scanR fq fh serial t).1 ∧ (g.scanR fq fh serial t).2 = 0 ∧ g.scan fq fh serial first t = ({ g with ins := g.ins } : GSt).write 3 serial first t := by unfold GSt.scanR GSt.scan; rw [if_neg h, if_neg h, if_pos h2, if_pos h2]; exact ⟨rfl, rfl, rfl⟩
theorem scan_in (h : ¬ (g.synced = false ∨ t - g.since > g.stale)) (h2 : ¬ ((g.ins serial).isSome = true ∨ hasF fq fh g.ws serial = true)) : (1 : Int) = (g.scanR fq fh serial t).1 ∧ (g.scanR fq fh serial t).2 = 0 ∧ g.scan fq fh serial first t = ({ g with ins := upd g.ins serial first } : GSt).write 1 serial first t := by unfold GSt.scanR GSt.scan; rw [if_neg h, if_neg h, if_neg h2, if_neg h2]; exact ⟨rfl, rfl, rfl⟩
end
set_option maxHeartbeats 2000000 in
/-- (*foyer/gate.Gate).Scan -/
theorem scan_spec {M : Nat → Prop} {u0 : World} {l : List Atom} (b mb : Nat) (wv lv : Value) (c : Nat) (g : GSt) (fq fh : Nat) (serial place t : Int) (first : ByteArray) (w0 : World) (hfq : 1 ≤ fq ∧ fq ≤ 64) (hfh : 1 ≤ fh ∧ fh ≤ 8) (h0 : HSat M u0 (GateL b mb wv lv c g ++ l) w0) [hTA : HasAt l TabsA] (hv : TitOK serial place first) (hok : g.synced = true → g.bits = ((64 * fq : Nat) : Int) ∧ g.hs = (fh : Int) ∧ WOk fq g.ws) (hn : 0 ≤ t ∧ t ≤ 1000000000) (hle : g.now ≤ t) (hsi : 0 ≤ g.since ∧ g.since ≤ 1000000000) (hl : g.log.length < 4000) :
    Ret Tryz.prog 15 #[.pointer (some ⟨b, 0, none⟩), .agg ([.int .i64 serial, .int .i64 0, .int .i64 place, .string first, .slice none 0 0] : List Value).toArray, .int .i64 t] w0 (fun u w => u = .tuple #[.int .i64 (g.scanR fq fh serial t).1, .int .i64 (g.scanR fq fh serial t).2] ∧ ∃ lv2 c2, HSat M u0 (GateL b mb wv lv2 c2 (g.scan fq fh serial first t) ++ l) w) := by
 refine ret_of_wp (nt := 80) Tryz.func15 rfl rfl rfl (fl := [(0, .pointer (some ⟨b, 0, none⟩)), (1, .agg ([.int .i64 serial, .int .i64 0, .int .i64 place, .string first, .slice none 0 0] : List Value).toArray), (2, .int .i64 t)]) rfl (fun a S => ?_)
 have H := h0
 simp only [GateL, List.cons_append, List.nil_append] at H
 refine gsr ?_
 refine wl_of (op_box1 (wn rfl) rfl rfl rfl S H rfl rfl fun b3 a w S H => ?_)
 refine wl_of (op_boxa (wn rfl) rfl rfl rfl S H rfl fun b4 a w S H => ?_)
 refine ga S fun a S => ?_
 refine ga S fun a S => ?_
 refine gnt ?_
 refine gsr ?_
 refine gy rfl rfl rfl S (y_load rfl Fsca43 S H rfl rfl) fun a S => ?_
 refine gm S fun a S => ?_
 refine wl_of (op_call (wn rfl) rfl rfl S (co_func rfl Tryz.call30 S rfl) (come_spec b mb wv lv g t _ (H.take [Cel b 78 [.int .i64 g.id, .int .i64 0, .int .i64 g.stale, .int .i64 g.now, .bool g.synced, .int .i64 g.since, .int .i64 g.bits, .int .i64 g.hs, wv, .map (some mb), lv]]).reads hn hle) fun v w hc a S => ?_)
 obtain ⟨rfl, he⟩ := hc
 have H := H.ext he
 refine ga S fun a S => ?_
 refine gnt ?_
 have S := (((((S.nil.cons S 2 rfl).cons S 3 rfl).cons S 4 rfl).cons S 6 rfl).cons S 7 rfl).cons S 8 rfl
 refine g_seq ?_
 refine g_block ?_
 refine gsr ?_
 refine gm S fun a S => ?_
 refine gy rfl rfl rfl S (y_bin rfl S rfl rfl rfl) fun a S => ?_
 refine ga S fun a S => ?_
 refine gnt ?_
 refine c_if S rfl (fun h1 => ?_) (fun h1 => ?_)
 ·have h1p := h1; try simp only [DL] at h1p
  all_goals (
    exact absurd h1 (by simp))
 ·have h1p := h1; try simp only [DL] at h1p
  refine g_seq ?_
  refine region_st (loud := []) (tails := []) (free := []) [0, 1, 2, 3, 4, 5, 6, 7, 8, 9, 10, 11, 12, 13, 14, 15, 16, 17, 18] [] Fmo (by kernel_rfl) (by kernel_rfl) rfl H ?_
  refine m_w rfl rfl (wn rfl) rfl rfl S (fun w H => y_load rfl Fsca43 S H rfl rfl) fun a S => ?_
  refine m_w rfl rfl (wn rfl) rfl rfl S (fun w H => y_nilCheck rfl S rfl) fun a S => ?_
  refine m_w rfl rfl (wn rfl) rfl rfl S (fun w H => y_faddrb rfl Ffo78_4 S rfl) fun a S => ?_
  refine m_w rfl rfl (wn rfl) rfl rfl S (fun w H => y_load rfl Fsca4 S H rfl rfl) fun a S => ?_
  refine m_w rfl rfl (wn rfl) rfl rfl S (fun w H => y_not rfl S rfl) fun a S => ?_
  refine m_w rfl rfl (wn rfl) rfl rfl S (fun w H => y_move rfl S rfl) fun a S => ?_
  refine' m_orq [6, 7, 8, 9, 10, 11, 12, 13, 14, 15, 16] 26 S rfl rfl rfl rfl rfl rfl rfl rfl rfl (fun _ S => (wn rfl)) (fun h2 kk => ?yh2) (fun a S => ?_)
  case yh2 =>
   have h2p := h2; try simp only [DL] at h2p
   refine m_w rfl rfl (wg' 26 rfl rfl S rfl h2 rfl) rfl rfl S (fun w H => y_move rfl S rfl) fun a S => ?_
   refine m_w rfl rfl (wg' 26 rfl rfl S rfl h2 rfl) rfl rfl S (fun w H => y_load rfl Fsca43 S H rfl rfl) fun a S => ?_
   refine m_w rfl rfl (wg' 26 rfl rfl S rfl h2 rfl) rfl rfl S (fun w H => y_nilCheck rfl S rfl) fun a S => ?_
   refine m_w rfl rfl (wg' 26 rfl rfl S rfl h2 rfl) rfl rfl S (fun w H => y_faddrb rfl Ffo78_5 S rfl) fun a S => ?_
   refine m_w rfl rfl (wg' 26 rfl rfl S rfl h2 rfl) rfl rfl S (fun w H => y_load rfl Fsca3 S H rfl rfl) fun a S => ?_
   refine m_w rfl rfl (wg' 26 rfl rfl S rfl h2 rfl) rfl rfl S (fun w H => y_sub rfl S rfl rfl (by omega)) fun a S => ?_
   refine m_w rfl rfl (wg' 26 rfl rfl S rfl h2 rfl) rfl rfl S (fun w H => y_load rfl Fsca43 S H rfl rfl) fun a S => ?_
   refine m_w rfl rfl (wg' 26 rfl rfl S rfl h2 rfl) rfl rfl S (fun w H => y_nilCheck rfl S rfl) fun a S => ?_
   refine m_w rfl rfl (wg' 26 rfl rfl S rfl h2 rfl) rfl rfl S (fun w H => y_faddrb rfl Ffo78_2 S rfl) fun a S => ?_
   refine m_w rfl rfl (wg' 26 rfl rfl S rfl h2 rfl) rfl rfl S (fun w H => y_load rfl Fsca3 S H rfl rfl) fun a S => ?_
   refine m_w rfl rfl (wg' 26 rfl rfl S rfl h2 rfl) rfl rfl S (fun w H => y_bin rfl S rfl rfl rfl) fun a S => ?_
   refine m_w rfl rfl (wn rfl) rfl rfl S (fun w H => y_or' rfl h2 S rfl rfl) fun a S => ?_
   exact kk _ (S.join 12 38 rfl rfl)
  refine m_w rfl rfl (wn rfl) rfl rfl S (fun w H => y_assign rfl S rfl) fun a S => ?_
  refine m_nil (fun w H => ?_)
  refine n_then ?_
  have S := (((((S.nil.cons S 2 rfl).cons S 3 rfl).cons S 4 rfl).cons S 6 rfl).cons S 7 rfl).cons S 20 rfl
  refine c_if S rfl (fun h3 => ?_) (fun h3 => ?_)
  ·have h3p := h3; try simp only [DL] at h3p
   have hst : g.synced = false ∨ t - g.since > g.stale := by have h := h3p; simpa using h
   refine gsr ?_
   refine ga S fun a S => ?_
   refine ga S fun a S => ?_
   refine gnt ?_
   refine g_ret ?_
   refine r_block (r_then (ret2 rfl S rfl rfl ?_))
   have hsc := scan_stale (fq := fq) (fh := fh) (serial := serial) (first := first) hst
   rw [hsc.1, hsc.2]
   exact ⟨rfl, lv, c, H.takeT [Cel b 78 [.int .i64 g.id, .int .i64 0, .int .i64 g.stale, .int .i64 g.now, .bool g.synced, .int .i64 g.since, .int .i64 g.bits, .int .i64 g.hs, wv, .map (some mb), lv], OSl 70 wv 1 encU g.ws, MapA mb (fun n : Int => Value.int .i64 n) (fun s : ByteArray => Value.string s) g.ins c, OSl 58 lv 6 encSV g.log] l⟩
  ·have h3p := h3; try simp only [DL] at h3p
   have hst : ¬ (g.synced = false ∨ t - g.since > g.stale) := by have h := h3; simpa using h
   have hfk := hok (by cases hs : g.synced with | true => rfl | false => exact absurd (.inl hs) hst)
   refine gsr ?_
   refine gy rfl rfl rfl S (y_load rfl Fsca43 S H rfl rfl) fun a S => ?_
   refine gy rfl rfl rfl S (y_nilCheck rfl S rfl) fun a S => ?_
   refine gy rfl rfl rfl S (y_faddrb rfl Ffo78_8 S rfl) fun a S => ?_
   refine gy rfl rfl rfl S (y_load rfl Fsca54 S H rfl rfl) fun a S => ?_
   refine gy rfl rfl rfl S (y_lens rfl Tryz.underlying54 S H rfl) fun a S => ?_
   refine gy rfl rfl rfl S (y_bin rfl S rfl rfl rfl) fun a S => ?_
   refine ga S fun a S => ?_
   refine gnt ?_
   have S := (((((S.nil.cons S 2 rfl).cons S 3 rfl).cons S 4 rfl).cons S 6 rfl).cons S 7 rfl).cons S 39 rfl
   refine c_if S rfl (fun h4 => ?_) (fun h4 => ?_)
   ·have h4p := h4; try simp only [DL] at h4p
    all_goals (
      exfalso
      have h := h4p
      omega)
   ·have h4p := h4; try simp only [DL] at h4p
    refine g_skip ?_
    refine n_block ?_
    refine n_then ?_
    refine g_seq ?_
    refine region_st (loud := [10, 12]) (tails := [12]) (free := []) [0, 1, 2, 3, 4, 5, 6, 7, 8, 9, 10, 11, 12] [] Fmo (by kernel_rfl) (by kernel_rfl) rfl H ?_
    refine m_w rfl rfl (wn rfl) rfl rfl S (fun w H => y_load rfl Fsca43 S H rfl rfl) fun a S => ?_
    refine m_w rfl rfl (wn rfl) rfl rfl S (fun w H => y_nilCheck rfl S rfl) fun a S => ?_
    refine m_w rfl rfl (wn rfl) rfl rfl S (fun w H => y_faddrb rfl Ffo78_7 S rfl) fun a S => ?_
    refine m_w rfl rfl (wn rfl) rfl rfl S (fun w H => y_load rfl Fsca76 S H rfl rfl) fun a S => ?_
    refine m_w rfl rfl (wn rfl) rfl rfl S (fun w H => y_faddrb rfl Ffo53_0 S rfl) fun a S => ?_
    refine m_w rfl rfl (wn rfl) rfl rfl S (fun w H => y_load rfl Fsca3 S H rfl rfl) fun a S => ?_
    refine m_w rfl rfl (wn rfl) rfl rfl S (fun w H => y_lookupok (_) ((⟨#[]⟩ : ByteArray)) rfl Tryz.underlying76 Finf9 S H rfl (keyOK_int Tryz.underlying3) (by exact rfl) (by exact rfl)) fun a S => ?_
    refine m_w rfl rfl (wn rfl) rfl rfl S (fun w H => y_move rfl S rfl) fun a S => ?_
    refine m_w rfl rfl (wn rfl) rfl rfl S (fun w H => y_extract rfl S rfl rfl) fun a S => ?_
    refine m_w rfl rfl (wn rfl) rfl rfl S (fun w H => y_extract rfl S rfl rfl) fun a S => ?_
    refine m_l rfl rfl (fun w H => op_alloc (wn rfl) rfl rfl rfl S H Fzer4 fun b10 a w S H => m_next H (List.sublist_cons_self _ _) ?_)
    refine m_w rfl rfl (wn rfl) rfl rfl S (fun w H => y_assign rfl S rfl) fun a S => ?_
    refine m_l rfl rfl (fun w H => op_store (wn rfl) rfl rfl S H rfl rfl rfl Fsiz4 rfl fun a w S H => m_tail H rfl ?_)
    dsimp only [List.set, Nat.zero_add, Nat.reduceAdd] at H
    refine m_nil (fun w H => ?_)
    refine n_then ?_
    have S := (((((S.nil.cons S 2 rfl).cons S 3 rfl).cons S 4 rfl).cons S 6 rfl).cons S 7 rfl).cons S 10 rfl
    refine g_seq ?_
    dsimp only [List.set] at H
    ·skip
     refine g_region ?_
     refine gy rfl rfl rfl S (y_makeFunc rfl S rfl rfl) fun a S => ?_
     refine gy rfl rfl rfl S (y_makeFunc rfl S rfl rfl) fun a S => ?_
     refine gy rfl rfl rfl S (y_makeFunc rfl S rfl rfl) fun a S => ?_
     refine gy rfl rfl rfl S (y_makeFunc rfl S rfl rfl) fun a S => ?_
     refine wl_of (op_buildSlice (wn rfl) rfl rfl rfl Tryz.underlying86 Finf25 S H (idx := [0, 1, 2, 3]) rfl rfl rfl (z := [.nilFunc, .nilFunc, .nilFunc, .nilFunc]) (by kernel_rfl) (cs := [.func (.func 34) #[] #[.pointer (some ⟨b10, 0, none⟩)], .func (.func 35) #[] #[.pointer (some ⟨b4, 0, none⟩), .pointer (some ⟨b3, 0, none⟩)], .func (.func 36) #[] #[.pointer (some ⟨b3, 0, none⟩), .pointer (some ⟨b4, 0, none⟩)], .func (.func 38) #[] #[.pointer (some ⟨b4, 0, none⟩)]]) rfl fun b60 a w S H => ?_)
     refine ga S fun a S => ?_
     refine gnt ?_
     have S := (((((S.nil.cons S 2 rfl).cons S 3 rfl).cons S 4 rfl).cons S 6 rfl).cons S 7 rfl).cons S 11 rfl
     refine gsr ?_
     refine ga S fun a S => ?_
     refine gnt ?_
     refine g_seq ?_
     refine gsr ?_
     refine gm S fun a S => ?_
     refine wl_of (op_call (wn rfl) rfl rfl S (co_func rfl Tryz.call40 S rfl) (conf_spec _ ([(.func (.func 34) #[] #[.pointer (some ⟨b10, 0, none⟩)], (g.ins serial).isSome), (.func (.func 35) #[] #[.pointer (some ⟨b4, 0, none⟩), .pointer (some ⟨b3, 0, none⟩)], false), (.func (.func 36) #[] #[.pointer (some ⟨b3, 0, none⟩), .pointer (some ⟨b4, 0, none⟩)], hasF fq fh g.ws serial), (.func (.func 38) #[] #[.pointer (some ⟨b4, 0, none⟩)], false)]) 41 [] Tryz.call41 (fun p => p.2) _ (H.slb b60 ([(.func (.func 34) #[] #[.pointer (some ⟨b10, 0, none⟩)], (g.ins serial).isSome), (.func (.func 35) #[] #[.pointer (some ⟨b4, 0, none⟩), .pointer (some ⟨b3, 0, none⟩)], false), (.func (.func 36) #[] #[.pointer (some ⟨b3, 0, none⟩), .pointer (some ⟨b4, 0, none⟩)], hasF fq fh g.ws serial), (.func (.func 38) #[] #[.pointer (some ⟨b4, 0, none⟩)], false)]) fun1 1 rfl rfl (by intro x _; rfl) (by show 4 ≤ 9223372036854775807; decide)) (fun x hx w1 e => by
       have H := H.ext e
       simp only [List.mem_cons, List.not_mem_nil, or_false] at hx
       rcases hx with rfl | rfl | rfl | rfl
       · exact ref5_spec 34 [.pointer (some ⟨b10, 0, none⟩)] Tryz.call34 _ w1 (ref1_spec b10 _ w1 (H.take [Cel b10 4 [.bool (g.ins serial).isSome]]).reads)
       · exact ref5_spec 35 [.pointer (some ⟨b4, 0, none⟩), .pointer (some ⟨b3, 0, none⟩)] Tryz.call35 false w1 (ref2_spec fq fh b b3 b4 mb wv lv g serial place first w1 (H.take [Cel b3 43 [.pointer (some ⟨b, 0, none⟩)], Cel b4 53 [.int .i64 serial, .int .i64 0, .int .i64 place, .string first, .slice none 0 0], Cel b 78 [.int .i64 g.id, .int .i64 0, .int .i64 g.stale, .int .i64 g.now, .bool g.synced, .int .i64 g.since, .int .i64 g.bits, .int .i64 g.hs, wv, .map (some mb), lv]]).reads)
       · exact ref5_spec 36 [.pointer (some ⟨b3, 0, none⟩), .pointer (some ⟨b4, 0, none⟩)] Tryz.call36 _ w1 (by rw [hfk.1, hfk.2.1] at H; exact ref3_spec fq fh b b3 b4 mb wv lv g serial place first w1 ((H.take [Cel b3 43 [.pointer (some ⟨b, 0, none⟩)], Cel b4 53 [.int .i64 serial, .int .i64 0, .int .i64 place, .string first, .slice none 0 0], Cel b 78 [.int .i64 g.id, .int .i64 0, .int .i64 g.stale, .int .i64 g.now, .bool g.synced, .int .i64 g.since, .int .i64 ((64 * fq : Nat) : Int), .int .i64 (fh : Int), wv, .map (some mb), lv], OSl 70 wv 1 encU g.ws]).reads.ro0 TabsA rfl H.tabs) hfk.2.2 hfq hfh hv.s)
       · exact ref5_spec 38 [.pointer (some ⟨b4, 0, none⟩)] Tryz.call38 false w1 (ref4_spec b4 serial place first w1 ((H.take [Cel b4 53 [.int .i64 serial, .int .i64 0, .int .i64 place, .string first, .slice none 0 0]]).reads.ro0 TabsA rfl H.tabs) hv))) fun v w hc a S => ?_)
     obtain ⟨rfl, he⟩ := hc
     have H := H.ext he
     refine gnt ?_
     refine cut (fun a w => ∃ (kd : Int) (ins2 : Int → Option ByteArray) (c2 : Nat), (kd = (g.scanR fq fh serial t).1 ∧ (g.scanR fq fh serial t).2 = 0 ∧ g.scan fq fh serial first t = ({ g with ins := ins2 } : GSt).write kd serial first t) ∧ St 80 [(12, .int .i64 kd), (2, .int .i64 t), (3, .pointer (some ⟨b3, 0, none⟩)), (4, .pointer (some ⟨b4, 0, none⟩))] a ∧ HSat M u0 (Cel b4 53 [.int .i64 serial, .int .i64 0, .int .i64 place, .string first, .slice none 0 0] :: Cel b3 43 [.pointer (some ⟨b, 0, none⟩)] :: Cel b 78 [.int .i64 g.id, .int .i64 0, .int .i64 g.stale, .int .i64 g.now, .bool g.synced, .int .i64 g.since, .int .i64 g.bits, .int .i64 g.hs, wv, .map (some mb), lv] :: OSl 70 wv 1 encU g.ws :: MapA mb (fun n : Int => Value.int .i64 n) (fun s : ByteArray => Value.string s) ins2 c2 :: OSl 58 lv 6 encSV g.log :: l) w) ?_ ?_
     ·skip
      refine c_if S rfl (fun h5 => ?_) (fun h5 => ?_)
      ·have h5p := h5; try simp only [DL] at h5p
       have hsc := scan_ref (fq := fq) (fh := fh) (first := first) hst (by simpa using h5)
       refine g_region ?_
       refine ga S fun a S => ?_
       refine gnt ?_
       first
       | exact ⟨3, g.ins, c, hsc, (((S.nil.cons S 4 rfl).cons S 3 rfl).cons S 2 rfl).cons S 12 rfl, H.takeT [Cel b4 53 [.int .i64 serial, .int .i64 0, .int .i64 place, .string first, .slice none 0 0], Cel b3 43 [.pointer (some ⟨b, 0, none⟩)], Cel b 78 [.int .i64 g.id, .int .i64 0, .int .i64 g.stale, .int .i64 g.now, .bool g.synced, .int .i64 g.since, .int .i64 g.bits, .int .i64 g.hs, wv, .map (some mb), lv], OSl 70 wv 1 encU g.ws, MapA mb (fun n : Int => Value.int .i64 n) (fun s : ByteArray => Value.string s) g.ins c, OSl 58 lv 6 encSV g.log] l⟩
       | exact ⟨1, upd g.ins serial first, (if (g.ins serial).isSome = true then c else c + 1), hsc, (((S.nil.cons S 4 rfl).cons S 3 rfl).cons S 2 rfl).cons S 12 rfl, H.takeT [Cel b4 53 [.int .i64 serial, .int .i64 0, .int .i64 place, .string first, .slice none 0 0], Cel b3 43 [.pointer (some ⟨b, 0, none⟩)], Cel b 78 [.int .i64 g.id, .int .i64 0, .int .i64 g.stale, .int .i64 g.now, .bool g.synced, .int .i64 g.since, .int .i64 g.bits, .int .i64 g.hs, wv, .map (some mb), lv], OSl 70 wv 1 encU g.ws, MapA mb (fun n : Int => Value.int .i64 n) (fun s : ByteArray => Value.string s) (upd g.ins serial first) (if (g.ins serial).isSome = true then c else c + 1), OSl 58 lv 6 encSV g.log] l⟩
      ·have h5p := h5; try simp only [DL] at h5p
       have hsc := scan_in (fq := fq) (fh := fh) (first := first) hst (by simpa using h5)
       refine region_st (loud := [8]) (tails := [8]) (free := []) [0, 1, 2, 3, 4, 5, 6, 7, 8] [] Fmo (by kernel_rfl) (by kernel_rfl) rfl H ?_
       refine m_w rfl rfl (wn rfl) rfl rfl S (fun w H => y_load rfl Fsca43 S H rfl rfl) fun a S => ?_
       refine m_w rfl rfl (wn rfl) rfl rfl S (fun w H => y_nilCheck rfl S rfl) fun a S => ?_
       refine m_w rfl rfl (wn rfl) rfl rfl S (fun w H => y_faddrb rfl Ffo78_7 S rfl) fun a S => ?_
       refine m_w rfl rfl (wn rfl) rfl rfl S (fun w H => y_load rfl Fsca76 S H rfl rfl) fun a S => ?_
       refine m_w rfl rfl (wn rfl) rfl rfl S (fun w H => y_faddrb rfl Ffo53_0 S rfl) fun a S => ?_
       refine m_w rfl rfl (wn rfl) rfl rfl S (fun w H => y_load rfl Fsca3 S H rfl rfl) fun a S => ?_
       refine m_w rfl rfl (wn rfl) rfl rfl S (fun w H => y_load0 rfl S H rfl (by exact Fagg53)) fun a S => ?_
       refine m_c rfl rfl (wn rfl) rfl rfl S (fun w => co_func rfl Tryz.call42 S rfl) (fun w H => own_t serial place first _) fun a S => ?_
       refine m_l rfl rfl (fun w H => op_mapUpdate (serial) (first) (wn rfl) rfl rfl Tryz.underlying76 S H rfl (keyOK_int Tryz.underlying3) (by exact rfl) (by exact rfl) fun a w S H => m_tail H rfl ?_)
       refine m_nil (fun w H => ?_)
       refine n_then ?_
       first
       | exact ⟨3, g.ins, c, hsc, (((S.nil.cons S 4 rfl).cons S 3 rfl).cons S 2 rfl).cons S 12 rfl, H.takeT [Cel b4 53 [.int .i64 serial, .int .i64 0, .int .i64 place, .string first, .slice none 0 0], Cel b3 43 [.pointer (some ⟨b, 0, none⟩)], Cel b 78 [.int .i64 g.id, .int .i64 0, .int .i64 g.stale, .int .i64 g.now, .bool g.synced, .int .i64 g.since, .int .i64 g.bits, .int .i64 g.hs, wv, .map (some mb), lv], OSl 70 wv 1 encU g.ws, MapA mb (fun n : Int => Value.int .i64 n) (fun s : ByteArray => Value.string s) g.ins c, OSl 58 lv 6 encSV g.log] l⟩
       | exact ⟨1, upd g.ins serial first, (if (g.ins serial).isSome = true then c else c + 1), hsc, (((S.nil.cons S 4 rfl).cons S 3 rfl).cons S 2 rfl).cons S 12 rfl, H.takeT [Cel b4 53 [.int .i64 serial, .int .i64 0, .int .i64 place, .string first, .slice none 0 0], Cel b3 43 [.pointer (some ⟨b, 0, none⟩)], Cel b 78 [.int .i64 g.id, .int .i64 0, .int .i64 g.stale, .int .i64 g.now, .bool g.synced, .int .i64 g.since, .int .i64 g.bits, .int .i64 g.hs, wv, .map (some mb), lv], OSl 70 wv 1 encU g.ws, MapA mb (fun n : Int => Value.int .i64 n) (fun s : ByteArray => Value.string s) (upd g.ins serial first) (if (g.ins serial).isSome = true then c else c + 1), OSl 58 lv 6 encSV g.log] l⟩
     rintro a w ⟨kd, ins2, c2, hsc, S, H⟩
     refine g_seq ?_
     refine region_st (loud := [7]) (tails := [7]) (free := []) [0, 1, 2, 3, 4, 5, 6, 7] [] Fmo (by kernel_rfl) (by kernel_rfl) rfl H ?_
     refine m_w rfl rfl (wn rfl) rfl rfl S (fun w H => y_load rfl Fsca43 S H rfl rfl) fun a S => ?_
     refine m_w rfl rfl (wn rfl) rfl rfl S (fun w H => y_move rfl S rfl) fun a S => ?_
     refine m_w rfl rfl (wn rfl) rfl rfl S (fun w H => y_faddrb rfl Ffo53_0 S rfl) fun a S => ?_
     refine m_w rfl rfl (wn rfl) rfl rfl S (fun w H => y_load rfl Fsca3 S H rfl rfl) fun a S => ?_
     refine m_w rfl rfl (wn rfl) rfl rfl S (fun w H => y_load0 rfl S H rfl (by exact Fagg53)) fun a S => ?_
     refine m_c rfl rfl (wn rfl) rfl rfl S (fun w => co_func rfl Tryz.call42 S rfl) (fun w H => own_t serial place first _) fun a S => ?_
     refine m_w rfl rfl (wn rfl) rfl rfl S (fun w H => y_move rfl S rfl) fun a S => ?_
     refine m_l rfl rfl (fun w H => op_call (wn rfl) rfl rfl S (co_func rfl Tryz.call33 S rfl) (gwrite_spec b mb wv lv c2 ({ g with ins := ins2 } : GSt) kd serial t first _ (H.pick [Cel b 78 [.int .i64 g.id, .int .i64 0, .int .i64 g.stale, .int .i64 g.now, .bool g.synced, .int .i64 g.since, .int .i64 g.bits, .int .i64 g.hs, wv, .map (some mb), lv], OSl 70 wv 1 encU g.ws, MapA mb (fun n : Int => Value.int .i64 n) (fun s : ByteArray => Value.string s) ins2 c2, OSl 58 lv 6 encSV g.log]) (by show g.log.length ≤ 4000; omega)) fun v w hc a S => ?_)
     obtain ⟨rfl, lv2, H⟩ := hc
     
     refine m_tail H rfl ?_
     refine m_nil (fun w H => ?_)
     refine n_then ?_
     have S := S.nil.cons S 12 rfl
     refine gsr ?_
     refine gm S fun a S => ?_
     refine ga S fun a S => ?_
     refine ga S fun a S => ?_
     refine gnt ?_
     refine g_ret ?_
     refine ret2 rfl S rfl rfl ?_
     rw [hsc.2.1, ← hsc.1, hsc.2.2]
     exact ⟨rfl, lv2, c2, H.mid.mid⟩
set_option maxHeartbeats 1000000 in
/-- (*foyer/gate.Gate).Leave -/
theorem leave_spec {M : Nat → Prop} {u0 : World} {l : List Atom} (b mb : Nat) (wv lv : Value) (c : Nat) (g : GSt) (serial t : Int) (w0 : World) (h0 : HSat M u0 (GateL b mb wv lv c g ++ l) w0) (hn : 0 ≤ t ∧ t ≤ 1000000000) (hle : g.now ≤ t) (hl : g.log.length < 4000) :
    Ret Tryz.prog 14 #[.pointer (some ⟨b, 0, none⟩), .int .i64 serial, .int .i64 t] w0 (fun u w => u = .int .i64 (g.leaveR serial) ∧ ∃ lv2 c2, HSat M u0 (GateL b mb wv lv2 c2 (g.leave serial t) ++ l) w) := by
 refine ret_of_wp (nt := 45) Tryz.func14 rfl rfl rfl (fl := [(0, .pointer (some ⟨b, 0, none⟩)), (1, .int .i64 serial), (2, .int .i64 t)]) rfl (fun a S => ?_)
 have H := h0
 simp only [GateL, List.cons_append, List.nil_append] at H
 refine gsr ?_
 refine ga S fun a S => ?_
 refine gnt ?_
 refine g_seq ?_
 refine gsr ?_
 refine gm S fun a S => ?_
 refine gm S fun a S => ?_
 refine wl_of (op_call (wn rfl) rfl rfl S (co_func rfl Tryz.call30 S rfl) (come_spec b mb wv lv g t _ (H.take [Cel b 78 [.int .i64 g.id, .int .i64 0, .int .i64 g.stale, .int .i64 g.now, .bool g.synced, .int .i64 g.since, .int .i64 g.bits, .int .i64 g.hs, wv, .map (some mb), lv]]).reads hn hle) fun v w hc a S => ?_)
 obtain ⟨rfl, he⟩ := hc
 have H := H.ext he
 refine ga S fun a S => ?_
 refine gnt ?_
 refine gsr ?_
 refine gm S fun a S => ?_
 refine gy rfl rfl rfl S (y_bin rfl S rfl rfl rfl) fun a S => ?_
 refine gnt ?_
 have S := (((((S.nil.cons S 2 rfl).cons S 1 rfl).cons S 0 rfl).cons S 6 rfl).cons S 7 rfl).cons S 14 rfl
 refine c_if S rfl (fun h1 => ?_) (fun h1 => ?_)
 ·have h1p := h1; try simp only [DL] at h1p
  all_goals (
    exact absurd h1 (by simp))
 ·have h1p := h1; try simp only [DL] at h1p
  refine g_skip ?_
  refine n_then ?_
  refine gsr ?_
  refine gm S fun a S => ?_
  refine gy rfl rfl rfl S (y_nilCheck rfl S rfl) fun a S => ?_
  refine gy rfl rfl rfl S (y_faddrb rfl Ffo78_7 S rfl) fun a S => ?_
  refine gy rfl rfl rfl S (y_load rfl Fsca76 S H rfl rfl) fun a S => ?_
  refine gm S fun a S => ?_
  refine gy rfl rfl rfl S (y_lookupok (_) ((⟨#[]⟩ : ByteArray)) rfl Tryz.underlying76 Finf9 S H rfl (keyOK_int Tryz.underlying3) (by exact rfl) (by exact rfl)) fun a S => ?_
  refine gm S fun a S => ?_
  refine gy rfl rfl rfl S (y_extract rfl S rfl rfl) fun a S => ?_
  refine gy rfl rfl rfl S (y_extract rfl S rfl rfl) fun a S => ?_
  refine ga S fun a S => ?_
  refine ga S fun a S => ?_
  refine gnt ?_
  have S := (((((S.nil.cons S 2 rfl).cons S 1 rfl).cons S 0 rfl).cons S 6 rfl).cons S 8 rfl).cons S 9 rfl
  refine g_seq ?_
  refine g_block ?_
  refine gsr ?_
  refine gm S fun a S => ?_
  refine gy rfl rfl rfl S (y_not rfl S rfl) fun a S => ?_
  refine ga S fun a S => ?_
  refine gnt ?_
  refine c_if S rfl (fun h2 => ?_) (fun h2 => ?_)
  ·have h2p := h2; try simp only [DL] at h2p
   have hi : g.ins serial = none := by have h := h2; simpa using h
   refine gsr ?_
   refine ga S fun a S => ?_
   refine gnt ?_
   have S := ((((S.nil.cons S 2 rfl).cons S 1 rfl).cons S 0 rfl).cons S 8 rfl).cons S 6 rfl
   refine g_ret ?_
   refine r_block (r_then (ret1 rfl S rfl ?_))
   unfold GSt.leaveR GSt.leave
   rw [hi]
   exact ⟨rfl, lv, c, H.takeT [Cel b 78 [.int .i64 g.id, .int .i64 0, .int .i64 g.stale, .int .i64 g.now, .bool g.synced, .int .i64 g.since, .int .i64 g.bits, .int .i64 g.hs, wv, .map (some mb), lv], OSl 70 wv 1 encU g.ws, MapA mb (fun n : Int => Value.int .i64 n) (fun s : ByteArray => Value.string s) g.ins c, OSl 58 lv 6 encSV g.log] l⟩
  ·have h2p := h2; try simp only [DL] at h2p
   obtain ⟨o, ho⟩ : ∃ o, g.ins serial = some o := Option.isSome_iff_exists.1 (by have h := h2; simpa using h)
   rw [show ((g.ins serial).getD (⟨#[]⟩ : ByteArray)) = o by rw [ho]; rfl] at S
   refine gsr ?_
   refine gm S fun a S => ?_
   refine gy rfl rfl rfl S (y_nilCheck rfl S rfl) fun a S => ?_
   refine gy rfl rfl rfl S (y_faddrb rfl Ffo78_8 S rfl) fun a S => ?_
   refine gy rfl rfl rfl S (y_load rfl Fsca54 S H rfl rfl) fun a S => ?_
   refine gy rfl rfl rfl S (y_lens rfl Tryz.underlying54 S H rfl) fun a S => ?_
   refine gy rfl rfl rfl S (y_bin rfl S rfl rfl rfl) fun a S => ?_
   refine ga S fun a S => ?_
   refine gnt ?_
   have S := (((((S.nil.cons S 2 rfl).cons S 1 rfl).cons S 0 rfl).cons S 6 rfl).cons S 8 rfl).cons S 28 rfl
   refine c_if S rfl (fun h3 => ?_) (fun h3 => ?_)
   ·have h3p := h3; try simp only [DL] at h3p
    all_goals (
      exfalso
      have h := h3p
      omega)
   ·have h3p := h3; try simp only [DL] at h3p
    refine g_skip ?_
    refine n_block ?_
    refine n_then ?_
    refine gsr ?_
    refine gm S fun a S => ?_
    refine gy rfl rfl rfl S (y_nilCheck rfl S rfl) fun a S => ?_
    refine gy rfl rfl rfl S (y_faddrb rfl Ffo78_7 S rfl) fun a S => ?_
    refine gy rfl rfl rfl S (y_load rfl Fsca76 S H rfl rfl) fun a S => ?_
    refine gm S fun a S => ?_
    refine wl_of (op_deleteM serial (wn rfl) rfl rfl Tryz.underlying76 S H rfl (keyOK_int Tryz.underlying3) rfl fun a w S H => ?_)
    refine gnt ?_
    have S := ((((S.nil.cons S 2 rfl).cons S 1 rfl).cons S 0 rfl).cons S 6 rfl).cons S 8 rfl
    refine gsr ?_
    refine gm S fun a S => ?_
    refine gm S fun a S => ?_
    refine gm S fun a S => ?_
    refine gm S fun a S => ?_
    refine wl_of (op_call (wn rfl) rfl rfl S (co_func rfl Tryz.call33 S rfl) (gwrite_spec b mb wv lv _ ({ g with ins := delK g.ins serial } : GSt) 2 serial t o _ (H.pick [Cel b 78 [.int .i64 g.id, .int .i64 0, .int .i64 g.stale, .int .i64 g.now, .bool g.synced, .int .i64 g.since, .int .i64 g.bits, .int .i64 g.hs, wv, .map (some mb), lv], OSl 70 wv 1 encU g.ws, MapA mb (fun n : Int => Value.int .i64 n) (fun s : ByteArray => Value.string s) (delK g.ins serial) (if (g.ins serial).isSome = true then c - 1 else c), OSl 58 lv 6 encSV g.log]) (by show g.log.length ≤ 4000; omega)) fun v w hc a S => ?_)
    obtain ⟨rfl, lv2, H⟩ := hc
    
    refine gnt ?_
    have S := S.nil.cons S 6 rfl
    refine gsr ?_
    refine ga S fun a S => ?_
    refine gnt ?_
    refine g_ret ?_
    refine ret1 rfl S rfl ?_
    unfold GSt.leaveR GSt.leave
    rw [ho]
    exact ⟨rfl, lv2, _, H⟩
end Go.Proofs.YtjdbggnhdeaflaaGreatDoor
end
section
namespace Go.Proofs.YtjdbggnhdeaflaaGreatDoor
open Go Go.Gw
set_option linter.unusedVariables false
set_option linter.unusedSimpArgs false
abbrev GZ := Nat × Value × Value × Nat
/-- a gate in memory, as one -/
def GateA (b : Nat) (g : GSt) (z : GZ) : Atom := Bun (GateL b z.1 z.2.1 z.2.2.1 z.2.2.2 g)
section
variable {M : Nat → Prop} {u0 w0 : World} {l : List Atom} {b : Nat} {g : GSt} {z : GZ}
theorem log_at (h0 : HSat M u0 (GateA b g z :: l) w0) (hl : g.log.length ≤ 4000) : Ret Tryz.prog 17 #[.pointer (some ⟨b, 0, none⟩)] w0 (fun u w => HSat No w0 [OSl 58 u 6 encSV g.log] w) := log_spec b z.1 z.2.1 z.2.2.1 z.2.2.2 g w0 h0.unfold hl
theorem sync_at (fq fh : Nat) (nv : Value) (ws : List Nat) (t : Int) (hfq : 1 ≤ fq ∧ fq ≤ 64) (hfh : 1 ≤ fh ∧ fh ≤ 8) (h0 : HSat M u0 (GateA b g z :: l) w0) [hS : HasSl l nv 1 Nat encU ws] [hTA : HasAt l TabsA] [hTB : HasAt l TabB] (hok : WOk fq ws) (hn : 0 ≤ t ∧ t ≤ 1000000000) (hle : g.now ≤ t) :
    Ret Tryz.prog 13 #[.pointer (some ⟨b, 0, none⟩), .agg (encF fq fh nv).toArray, .int .i64 t] w0 (fun u w => u = .int .i64 0 ∧ ∃ z2, HSat M u0 (GateA b (g.sync fq fh ws t) z2 :: l) w) :=
  Ret.mono (sync_spec b z.1 z.2.1 z.2.2.1 z.2.2.2 g fq fh nv ws t w0 hfq hfh h0.unfold hok hn hle) fun u w ⟨e, wv2, H⟩ => ⟨e, (z.1, wv2, z.2.2.1, z.2.2.2), HSat.fold (ls := GateL b z.1 wv2 z.2.2.1 z.2.2.2 (g.sync fq fh ws t)) H (GateL_own _ _ _ _ _ _)⟩
theorem scan_at (fq fh : Nat) (serial place t : Int) (first : ByteArray) (hfq : 1 ≤ fq ∧ fq ≤ 64) (hfh : 1 ≤ fh ∧ fh ≤ 8) (h0 : HSat M u0 (GateA b g z :: l) w0) [hTA : HasAt l TabsA] (hv : TitOK serial place first) (hok : g.synced = true → g.bits = ((64 * fq : Nat) : Int) ∧ g.hs = (fh : Int) ∧ WOk fq g.ws) (hn : 0 ≤ t ∧ t ≤ 1000000000) (hle : g.now ≤ t) (hsi : 0 ≤ g.since ∧ g.since ≤ 1000000000) (hl : g.log.length < 4000) :
    Ret Tryz.prog 15 #[.pointer (some ⟨b, 0, none⟩), .agg ([.int .i64 serial, .int .i64 0, .int .i64 place, .string first, .slice none 0 0] : List Value).toArray, .int .i64 t] w0 (fun u w => u = .tuple #[.int .i64 (g.scanR fq fh serial t).1, .int .i64 (g.scanR fq fh serial t).2] ∧ ∃ z2, HSat M u0 (GateA b (g.scan fq fh serial first t) z2 :: l) w) :=
  Ret.mono (scan_spec b z.1 z.2.1 z.2.2.1 z.2.2.2 g fq fh serial place t first w0 hfq hfh h0.unfold hv hok hn hle hsi hl) fun u w ⟨e, lv2, c2, H⟩ => ⟨e, (z.1, z.2.1, lv2, c2), HSat.fold (ls := GateL b z.1 z.2.1 lv2 c2 (g.scan fq fh serial first t)) H (GateL_own _ _ _ _ _ _)⟩
theorem leave_at (serial t : Int) (h0 : HSat M u0 (GateA b g z :: l) w0) (hn : 0 ≤ t ∧ t ≤ 1000000000) (hle : g.now ≤ t) (hl : g.log.length < 4000) :
    Ret Tryz.prog 14 #[.pointer (some ⟨b, 0, none⟩), .int .i64 serial, .int .i64 t] w0 (fun u w => u = .int .i64 (g.leaveR serial) ∧ ∃ z2, HSat M u0 (GateA b (g.leave serial t) z2 :: l) w) :=
  Ret.mono (leave_spec b z.1 z.2.1 z.2.2.1 z.2.2.2 g serial t w0 h0.unfold hn hle hl) fun u w ⟨e, lv2, c2, H⟩ => ⟨e, (z.1, z.2.1, lv2, c2), HSat.fold (ls := GateL b z.1 z.2.1 lv2 c2 (g.leave serial t)) H (GateL_own _ _ _ _ _ _)⟩
theorem gnew_at (id stale : Int) (w0 : World) (hid : 0 ≤ id ∧ id ≤ 999) (hst : 0 ≤ stale ∧ stale ≤ 1000000000) : Ret Tryz.prog 12 #[.int .i64 id, .int .i64 0, .int .i64 stale] w0 (fun u w => ∃ b z, u = .tuple #[.pointer (some ⟨b, 0, none⟩), .int .i64 0] ∧ HSat No w0 [GateA b (GSt.new id stale) z] w) :=
  Ret.mono (gnew_spec id stale w0 hid hst) fun u w ⟨b, mb, e, H⟩ => ⟨b, (mb, .slice none 0 0, .slice none 0 0, 0), e, HSat.fold (ls := GateL b mb _ _ 0 (GSt.new id stale)) (by rw [List.append_nil]; exact H) (GateL_own _ _ _ _ _ _)⟩
end
end Go.Proofs.YtjdbggnhdeaflaaGreatDoor
end
section
namespace Go.Proofs.YtjdbggnhdeaflaaGreatDoor
open Go Go.Gw
set_option linter.unusedVariables false
set_option linter.unusedSimpArgs false
def annW : ByteArray := ⟨#[97, 110, 110]⟩
def memW : ByteArray := ⟨#[109, 101, 109, 98, 101, 114]⟩
def saltW : ByteArray := ⟨#[115, 97, 108, 116]⟩
theorem inc1 : IncW [1] [annW, memW].length := ⟨by simp, by simp, by simp⟩
theorem rowsCap {M : Nat → Prop} {w0 w : World} {l : List Atom} {e : TypeId} {sz : Nat} {α : Type} {enc : α → List Value} {ps : List (Value × List α)} (H : HSat M w0 l w) [h : HasAt l (RowsA e sz enc ps)] : ∀ p ∈ ps, capOK p.1 := fun p hp =>
  IsOSl.cap ((H.ok (RowsA e sz enc ps) h.mem).1 (OSl e p.1 sz enc p.2) (List.mem_map.2 ⟨p, hp, rfl⟩)).2
theorem titP (serial : Int) (s : ByteArray) (h : 10001 ≤ serial ∧ serial ≤ 19999) : TitOK serial 0 (pubS s) := ⟨h, by decide, isD_listS _⟩
theorem door_scanR : ((GSt.new 1 100).sync 1 1 (makeW 1 1 []) 5).scanR 1 1 10001 6 = (1, 0) := by
  unfold GSt.scanR
  rw [if_neg (by simp [GSt.sync, GSt.new]), if_neg]
  show ¬ ((none : Option ByteArray).isSome = true ∨ hasF 1 1 (makeW 1 1 []) 10001 = true)
  rw [has_nil 1 (by decide)]; simp
theorem door_log (k : ByteArray) : (((GSt.new 1 100).sync 1 1 (makeW 1 1 []) 5).scan 1 1 10001 k 6).log.length = 1 := by
  unfold GSt.scan
  rw [if_neg (by simp [GSt.sync, GSt.new]), if_neg]
  · rfl
  · show ¬ ((none : Option ByteArray).isSome = true ∨ hasF 1 1 (makeW 1 1 []) 10001 = true)
    rw [has_nil 1 (by decide)]; simp
set_option maxHeartbeats 4000000 in
/-- foyer/foyertop.w21Doors -/
theorem doors_spec (w0 : World) (hT : Tabs w0) (hB : TabBs w0) :
    Ret Tryz.prog 4 #[] w0 (fun u w => u = .bool true ∧ Ext w0 w) := by
 refine ret_of_wp (nt := 77) Tryz.func4 rfl rfl rfl (fl := []) rfl (fun a S => ?_)
 have H := HSat.start w0
 have H := H.ro0 (TabsA) rfl (hT)
 have H := H.ro0 (TabB) rfl (hB)
 refine gsr ?_
 refine ga S fun a S => ?_
 refine gnt ?_
 refine gsr ?_
 refine wl_of (op_call (wn rfl) rfl rfl S (co_func rfl Tryz.call12 S rfl) (gnew_at 1 100 _ (by decide) (by decide)) fun v w hc a S => ?_)
 obtain ⟨gb, gz, rfl, H1⟩ := hc
 have H := H.call1 H1 rfl
 refine gm S fun a S => ?_
 refine gy rfl rfl rfl S (y_extract rfl S rfl rfl) fun a S => ?_
 refine gy rfl rfl rfl S (y_extract rfl S rfl rfl) fun a S => ?_
 refine ga S fun a S => ?_
 refine ga S fun a S => ?_
 refine gnt ?_
 have S := ((S.nil.cons S 0 rfl).cons S 1 rfl).cons S 2 rfl
 refine gsr ?_
 refine wl_of (op_call (wn rfl) rfl rfl S (co_func rfl Tryz.call11 S rfl) (make_spec 1 1 (.slice none 0 0) [] _ (by decide) (by decide) (IsSl.nil _ 1 encI) (by simp) H.tabs) fun v w hc a S => ?_)
 obtain ⟨fv, rfl, H1⟩ := hc
 have H := H.call1 H1 rfl
 refine gm S fun a S => ?_
 refine gy rfl rfl rfl S (y_extract rfl S rfl rfl) fun a S => ?_
 refine gy rfl rfl rfl S (y_extract rfl S rfl rfl) fun a S => ?_
 refine wl_of (op_alloc (wn rfl) rfl rfl rfl S H Fzer40 fun b3 a w S H => ?_)
 refine wl_of (op_storea (wn rfl) rfl rfl S H rfl rfl (by unfold encF; rw [List.all_cons, List.all_cons, List.all_cons, H.sl1 fv]; rfl) Fsiz40 rfl (cs' := [_, _, _]) rfl fun a w S H => ?_)
 refine ga S fun a S => ?_
 refine gnt ?_
 have S := ((((S.nil.cons S 0 rfl).cons S 1 rfl).cons S 2 rfl).cons S 3 rfl).cons S 4 rfl
 refine gsr ?_
 refine gm S fun a S => ?_
 refine gy rfl rfl rfl S (y_load0 rfl S H rfl (by exact Fagg40)) fun a S => ?_
 refine wl_of (op_call (wn rfl) rfl rfl S (co_func rfl Tryz.call13 S rfl) (sync_at 1 1 fv (makeW 1 1 []) 5 (by decide) (by decide) (H.front (GateA gb (GSt.new 1 100) gz)) (makeW_ok (by decide) _ _) (by decide) (by decide)) fun v w hc a S => ?_)
 obtain ⟨rfl, z1, H⟩ := hc
 
 refine ga S fun a S => ?_
 refine gnt ?_
 have S := ((((S.nil.cons S 0 rfl).cons S 1 rfl).cons S 2 rfl).cons S 4 rfl).cons S 5 rfl
 refine gsr ?_
 refine gm S fun a S => ?_
 refine wl_of (op_call (wn rfl) rfl rfl S (co_func rfl Tryz.call16 S rfl) (public_spec annW _ H.tabs (by decide)) fun v w hc a S => ?_)
 obtain ⟨rfl, he⟩ := hc
 have H := H.ext he
 refine gy rfl rfl rfl S (y_buildf rfl Fbld53 S rfl (idx := [0, 3]) rfl (cs := [.int .i64 10001, .int .i64 0, .int .i64 0, .string (pubS annW), .slice none 0 0]) (by kernel_rfl)) fun a S => ?_
 refine wl_of (op_call (wn rfl) rfl rfl S (co_func rfl Tryz.call15 S rfl) (scan_at 1 1 10001 0 6 (pubS annW) (by decide) (by decide) (H.front (GateA gb ((GSt.new 1 100).sync 1 1 (makeW 1 1 []) 5) z1)) (titP 10001 annW (by decide)) (fun _ => ⟨rfl, rfl, makeW_ok (by decide) _ _⟩) (by decide) (by decide) (by decide) (by decide)) fun v w hc a S => ?_)
 obtain ⟨rfl, z2, H⟩ := hc
 rw [door_scanR] at S
 refine gm S fun a S => ?_
 refine gy rfl rfl rfl S (y_extract rfl S rfl rfl) fun a S => ?_
 refine gy rfl rfl rfl S (y_extract rfl S rfl rfl) fun a S => ?_
 refine ga S fun a S => ?_
 refine ga S fun a S => ?_
 refine gnt ?_
 have S := ((((((S.nil.cons S 0 rfl).cons S 1 rfl).cons S 2 rfl).cons S 4 rfl).cons S 5 rfl).cons S 6 rfl).cons S 7 rfl
 refine gsr ?_
 refine wl_of (op_buildSlice (wn rfl) rfl rfl rfl Tryz.underlying22 Finf9 S H (idx := [0, 1]) rfl rfl rfl (z := [.string ⟨#[]⟩, .string ⟨#[]⟩]) (by kernel_rfl) (cs := [.string annW, .string memW]) rfl fun b29 a w S H => ?_)
 have H := H.celO [annW, memW] encS 1 (m := 2) rfl (by simp [encS]) rfl (by decide)
 refine ga S fun a S => ?_
 refine gnt ?_
 refine gsr ?_
 refine gm S fun a S => ?_
 refine wl_of (op_buildSlice (wn rfl) rfl rfl rfl Tryz.underlying27 Finf3 S H (idx := [0]) rfl rfl rfl (z := [.int .i64 0]) (by kernel_rfl) (cs := [.int .i64 1]) rfl fun b32 a w S H => ?_)
 refine wl_of (op_call (wn rfl) rfl rfl S (co_func rfl Tryz.call7 S rfl) (show_spec (.slice (some ⟨b29, 0, none⟩) 2 2) [annW, memW] saltW (.slice (some ⟨b32, 0, none⟩) 1 1) [1] _ H.tabs (H.sl _) (by decide) (by decide) (by decide) (H.slb b32 [1] encN 1 rfl rfl (by simp [encN]) (by decide)) inc1) fun v w hc a S => ?_)
 obtain ⟨dw, df, dp, ps, rfl, hps, H1⟩ := hc
 have H := H.call H1 (by simp [OSl, RowsA, Bun, GateA])
 simp only [List.cons_append, List.nil_append] at H
 refine gm S fun a S => ?_
 refine gy rfl rfl rfl S (y_extract rfl S rfl rfl) fun a S => ?_
 refine gy rfl rfl rfl S (y_extract rfl S rfl rfl) fun a S => ?_
 refine wl_of (op_alloc (wn rfl) rfl rfl rfl S H Fzer31 fun b9 a w S H => ?_)
 refine wl_of (op_storea (wn rfl) rfl rfl S H rfl rfl (by rw [List.all_cons, List.all_cons, List.all_cons, List.all_cons, H.sl1 dw, H.sl1 df, H.sl1 dp]; rfl) Fsiz31 rfl (cs' := [_, _, _, _]) rfl fun a w S H => ?_)
 refine ga S fun a S => ?_
 refine gnt ?_
 have S := (((((((((S.nil.cons S 0 rfl).cons S 1 rfl).cons S 2 rfl).cons S 4 rfl).cons S 5 rfl).cons S 6 rfl).cons S 7 rfl).cons S 8 rfl).cons S 9 rfl).cons S 10 rfl
 refine g_seq ?_
 refine region_st (loud := [37]) (tails := []) (free := []) [0, 1, 2, 3, 4, 5, 6, 7, 8, 9, 10, 11, 12, 13, 14, 15, 16, 17, 18, 19, 20, 21, 22, 23, 24, 25, 26, 27, 28, 29, 30, 31, 32, 33, 34, 35, 36, 37, 38, 39, 40, 41] [] Fmo (by kernel_rfl) (by kernel_rfl) rfl H ?_
 refine m_w rfl rfl (wn rfl) rfl rfl S (fun w H => y_move rfl S rfl) fun a S => ?_
 refine m_w rfl rfl (wn rfl) rfl rfl S (fun w H => y_bin rfl S rfl rfl rfl) fun a S => ?_
 refine m_w rfl rfl (wn rfl) rfl rfl S (fun w H => y_move rfl S rfl) fun a S => ?_
 refine m_w rfl rfl (wg' 38 rfl rfl S rfl rfl rfl) rfl rfl S (fun w H => y_move rfl S rfl) fun a S => ?_
 refine m_w rfl rfl (wg' 38 rfl rfl S rfl rfl rfl) rfl rfl S (fun w H => y_bin rfl S rfl rfl rfl) fun a S => ?_
 refine m_w rfl rfl (wn rfl) rfl rfl S (fun w H => y_and' rfl rfl S rfl rfl) fun a S => ?_
 refine m_w rfl rfl (wn rfl) rfl rfl S (fun w H => y_move rfl S rfl) fun a S => ?_
 refine m_w rfl rfl (wg' 42 rfl rfl S rfl (by simp) rfl) rfl rfl S (fun w H => y_move rfl S rfl) fun a S => ?_
 refine m_w rfl rfl (wg' 42 rfl rfl S rfl (by simp) rfl) rfl rfl S (fun w H => y_bin rfl S rfl rfl rfl) fun a S => ?_
 refine m_w rfl rfl (wn rfl) rfl rfl S (fun w H => y_and' rfl (by simp) S rfl rfl) fun a S => ?_
 refine m_w rfl rfl (wn rfl) rfl rfl S (fun w H => y_move rfl S rfl) fun a S => ?_
 refine m_w rfl rfl (wg' 46 rfl rfl S rfl (by simp) rfl) rfl rfl S (fun w H => y_move rfl S rfl) fun a S => ?_
 refine m_w rfl rfl (wg' 46 rfl rfl S rfl (by simp) rfl) rfl rfl S (fun w H => y_bin rfl S rfl rfl rfl) fun a S => ?_
 refine m_w rfl rfl (wn rfl) rfl rfl S (fun w H => y_and' rfl (by simp) S rfl rfl) fun a S => ?_
 refine m_w rfl rfl (wn rfl) rfl rfl S (fun w H => y_move rfl S rfl) fun a S => ?_
 refine m_w rfl rfl (wg' 50 rfl rfl S rfl (by simp) rfl) rfl rfl S (fun w H => y_move rfl S rfl) fun a S => ?_
 refine m_w rfl rfl (wg' 50 rfl rfl S rfl (by simp) rfl) rfl rfl S (fun w H => y_bin rfl S rfl rfl rfl) fun a S => ?_
 refine m_w rfl rfl (wn rfl) rfl rfl S (fun w H => y_and' rfl (by simp) S rfl rfl) fun a S => ?_
 refine m_w rfl rfl (wn rfl) rfl rfl S (fun w H => y_move rfl S rfl) fun a S => ?_
 refine m_w rfl rfl (wg' 54 rfl rfl S rfl (by simp) rfl) rfl rfl S (fun w H => y_move rfl S rfl) fun a S => ?_
 refine m_w rfl rfl (wg' 54 rfl rfl S rfl (by simp) rfl) rfl rfl S (fun w H => y_bin rfl S rfl rfl rfl) fun a S => ?_
 refine m_w rfl rfl (wn rfl) rfl rfl S (fun w H => y_and' rfl (by simp) S rfl rfl) fun a S => ?_
 refine m_w rfl rfl (wn rfl) rfl rfl S (fun w H => y_move rfl S rfl) fun a S => ?_
 refine m_w rfl rfl (wg' 58 rfl rfl S rfl (by simp) rfl) rfl rfl S (fun w H => y_move rfl S rfl) fun a S => ?_
 refine m_c rfl rfl (wg' 58 rfl rfl S rfl (by simp) rfl) rfl rfl S (fun w => co_func rfl Tryz.call9 S rfl) (fun w H => seal_spec (.slice (some ⟨b29, 0, none⟩) 2 2) [annW, memW] saltW _ H.tabs (H.sl _) (by decide) (by decide) (by decide) (by decide)) fun a S => ?_
 refine m_w rfl rfl (wg' 58 rfl rfl S rfl (by simp) rfl) rfl rfl S (fun w H => y_load0 rfl S H rfl (by exact Fagg31)) fun a S => ?_
 refine m_c rfl rfl (wg' 58 rfl rfl S rfl (by simp) rfl) rfl rfl S (fun w => co_func rfl Tryz.call8 S rfl) (fun w H => rcheck_spec [annW, memW] saltW [1] dw df dp ps _ H.tabs (by decide) (by decide) inc1 (H.sl dw) (H.sl df) (H.sl dp) (H.rws 9 ps) (rowsCap (e := 9) (sz := 1) (enc := encS) H) hps) fun a S => ?_
 refine m_w rfl rfl (wn rfl) rfl rfl S (fun w H => y_and' rfl (by simp) S rfl rfl) fun a S => ?_
 refine m_w rfl rfl (wn rfl) rfl rfl S (fun w H => y_move rfl S rfl) fun a S => ?_
 refine m_w rfl rfl (wg' 64 rfl rfl S rfl (by simp) rfl) rfl rfl S (fun w H => y_faddrb rfl Ffo31_2 S rfl) fun a S => ?_
 refine m_w rfl rfl (wg' 64 rfl rfl S rfl (by simp) rfl) rfl rfl S (fun w H => y_load rfl Fsca22 S H rfl rfl) fun a S => ?_
 refine m_w rfl rfl (wg' 64 rfl rfl S rfl (by simp) rfl) rfl rfl S (fun w H => y_iaddrs rfl Tryz.underlying22 Fsiz9 S H rfl rfl (by first | assumption | omega | (simp only [LL]; omega))) fun a S => ?_
 refine m_loads _ rfl rfl (wg' 64 rfl rfl S rfl (by simp) rfl) rfl rfl S rfl Fsca9 rfl (by first | assumption | omega | (simp only [LL]; omega)) rfl fun a S => ?_
 refine m_w rfl rfl (wg' 64 rfl rfl S rfl (by simp) rfl) rfl rfl S (fun w H => y_eqs rfl Tryz.underlying9 S rfl rfl) fun a S => ?_
 refine m_w rfl rfl (wn rfl) rfl rfl S (fun w H => y_and' rfl (by simp) S rfl rfl) fun a S => ?_
 refine m_w rfl rfl (wn rfl) rfl rfl S (fun w H => y_move rfl S rfl) fun a S => ?_
 refine m_w rfl rfl (wg' 71 rfl rfl S rfl (by simp [memW]) rfl) rfl rfl S (fun w H => y_move rfl S rfl) fun a S => ?_
 refine m_l rfl rfl (fun w H => op_call (wg' 71 rfl rfl S rfl (by simp [memW]) rfl) rfl rfl S (co_func rfl Tryz.call17 S rfl) (log_at (H.front (GateA gb (((GSt.new 1 100).sync 1 1 (makeW 1 1 []) 5).scan 1 1 10001 (pubS annW) 6) z2)) (by rw [door_log]; decide)) fun lg w hc a S => ?_)
 have H1 := hc
 have H := H.call1 H1 rfl
 refine m_next H (by repeat (first | exact List.Sublist.refl _ | apply List.Sublist.cons)) ?_
 refine m_w rfl rfl (wg' 71 rfl rfl S rfl (by simp [memW]) rfl) rfl rfl S (fun w H => (by first | exact y_len rfl Tryz.underlying54 S rfl | exact y_lens rfl Tryz.underlying54 S H rfl)) fun a S => ?_
 refine m_w rfl rfl (wg' 71 rfl rfl S rfl (by simp [memW]) rfl) rfl rfl S (fun w H => y_bin rfl S rfl rfl rfl) fun a S => ?_
 refine m_w rfl rfl (wn rfl) rfl rfl S (fun w H => y_and' rfl (by simp [memW]) S rfl rfl) fun a S => ?_
 refine m_w rfl rfl (wn rfl) rfl rfl S (fun w H => y_assign rfl S rfl) fun a S => ?_
 refine m_nil (fun w H => ?_)
 refine n_then ?_
 have S := S.nil.cons S 0 rfl
 refine g_ret ?_
 refine ret1 rfl S rfl ?_
 exact ⟨by simp [memW, door_log], H.toExt⟩
end Go.Proofs.YtjdbggnhdeaflaaGreatDoor
end
section
namespace Go.Proofs.YtjdbggnhdeaflaaGreatDoor
open Go Go.Gw
set_option linter.unusedVariables false
set_option linter.unusedSimpArgs false
theorem run_part1 {P : Program} {w : World} {T : TypeId} {cs : List Value} {off : Nat} (h : scalarB P T = true) (hv : off < cs.length) : (part T cs.toArray off).run P w = .ok cs[off] w := by simp [part, run_isAgg_scalar h, hv]
theorem Ffs58 : (Tryz.prog.fieldsOf 58).toList = [⟨"Gate", 3, 0, false, "", "", 0⟩, ⟨"Number", 3, 1, false, "", "", 8⟩, ⟨"Time", 3, 2, false, "", "", 16⟩, ⟨"Serial", 3, 3, false, "", "", 24⟩, ⟨"Kind", 3, 4, false, "", "", 32⟩, ⟨"Owner", 9, 5, false, "", "", 40⟩] := by kernel_rfl
theorem Fst58 : Tryz.prog.underlying 58 = some (.struct (Tryz.prog.fieldsOf 58)) := by kernel_rfl
theorem Fhe58 : Tryz.prog.stoodInHeld 58 = false := by kernel_rfl
theorem svEq (x y : SV) (w : World) : (Op.equalIn 10000 58 (.agg (encSV x).toArray) (.agg (encSV y).toArray)).run Tryz.prog w = .ok (decide (x = y)) w := by
  rw [run_equalIn_agg w 9999 58 _ _ Fst58 Fhe58, Ffs58]
  obtain ⟨gate, number, time, serial, kind, owner⟩ := x
  obtain ⟨gate', number', time', serial', kind', owner'⟩ := y
  simp [Op.eqFields, encSV, run_part1 Fsca3, run_part1 Fsca9, run_equalIn_int _ 9998 3 .i64 .i64 _ _ Tryz.underlying3, run_equalIn_string _ 9998 9 _ _ Tryz.underlying9, bytes_beq]
  by_cases h0 : gate = gate' <;> by_cases h1 : number = number' <;> by_cases h2 : time = time' <;> by_cases h3 : serial = serial' <;> by_cases h4 : kind = kind' <;> by_cases h5 : owner = owner' <;> simp [h0, h1, h2, h3, h4, h5]
def encC (n : Nat) : List Value := [.int .u8 (n : Int)]
def goneL (l : List Nat) : List Int := l.map fun c : Nat => 10001 + ((c : Nat) : Int) % 4
theorem goneL_s {l : List Nat} {k : Nat} (h : k < l.length) : goneL (l.take k) ++ [10001 + ((l[k] : Nat) : Int) % 4] = goneL (l.take (k + 1)) := by
  rw [List.take_succ_eq_append_getElem h]; unfold goneL; rw [List.map_append]; rfl
theorem goneL_len (l : List Nat) : (goneL l).length = l.length := List.length_map _
theorem goneL_ok (l : List Nat) : ∀ s ∈ goneL l, -9223372036854775808 ≤ s ∧ s ≤ 9223372036854775807 := fun s hs => by
  obtain ⟨c, _, rfl⟩ := List.mem_map.1 hs
  omega
theorem getD_size {fs : List ByteArray} (hs : ∀ x ∈ fs, x.size ≤ 200) (i : Nat) : (fs.getD i noB).size ≤ 200 := by
  rw [List.getD_eq_getElem?_getD]
  rcases Nat.lt_or_ge i fs.length with h | h
  · rw [List.getElem?_eq_getElem h]; exact hs _ (List.getElem_mem h)
  · rw [List.getElem?_eq_none h]; decide
theorem overK_size {fs gs : List ByteArray} {which : List Nat} (hf : ∀ x ∈ fs, x.size ≤ 200) (hg : ∀ x ∈ gs, x.size ≤ 200) : ∀ k, ∀ x ∈ overK fs gs which k, x.size ≤ 200
  | 0, x, hx => hg x hx
  | k + 1, x, hx => by
    rw [overK] at hx
    rcases List.mem_or_eq_of_mem_set hx with hx | rfl
    · exact overK_size hf hg k x hx
    · exact getD_size hf _
theorem which_at {which : List Nat} {i : Nat} (hi : i < which.length) : which.getD i 0 = which[i] := by rw [List.getD_eq_getElem?_getD, List.getElem?_eq_getElem hi]; rfl
theorem over_same {fs gs : List ByteArray} {which : List Nat} {n : Nat} (hw : IncW which n) (hg : gs.length = n) : (which.map fun i => (overK fs gs which which.length).getD i noB) = which.map fun i => fs.getD i noB := by
  apply List.ext_getElem (by simp)
  intro i h1 h2
  rw [List.getElem_map, List.getElem_map]
  have hi : i < which.length := by simpa using h2
  have h := overK_at (fs := fs) hw hg which.length (Nat.le_refl _) i hi
  rwa [which_at hi] at h
theorem over_s {fs gs : List ByteArray} {which : List Nat} {k : Nat} (hk : k < which.length) (h2 : which[k] < fs.length) : (overK fs gs which k).set which[k] fs[which[k]] = overK fs gs which (k + 1) := by
  rw [overK, which_at hk, List.getD_eq_getElem?_getD, List.getElem?_eq_getElem h2]; rfl
theorem rows_D {fs : List ByteArray} {s : ByteArray} {which : List Nat} {ps : List (Value × List ByteArray)} (hp : ps.map (·.2) = which.map (showP fs s)) : ∀ p ∈ ps, ∀ x ∈ p.2, isD x = true := fun p h x hx => by
  have h2 : p.2 ∈ which.map (showP fs s) := by rw [← hp]; exact List.mem_map.2 ⟨p, h, rfl⟩
  obtain ⟨i, _, e⟩ := List.mem_map.1 h2
  rw [← e] at hx; exact showP_D fs s i x hx
theorem rows_len {fs : List ByteArray} {s : ByteArray} {which : List Nat} {ps : List (Value × List ByteArray)} (hp : ps.map (·.2) = which.map (showP fs s)) : ps.length = which.length := by
  have := congrArg List.length hp; simpa using this
theorem rows_rl {fs gs : List ByteArray} {s t : ByteArray} {which : List Nat} {ps qs : List (Value × List ByteArray)} (he : fs.length = gs.length) (hp : ps.map (·.2) = which.map (showP fs s)) (hq : qs.map (·.2) = which.map (showP gs t)) : ∀ k (h1 : k < ps.length) (h2 : k < qs.length), ps[k].2.length = qs[k].2.length := fun k h1 h2 => by
  have hk : k < which.length := by rw [← rows_len hp]; exact h1
  rw [row_at hp h1 hk, row_at hq h2 hk]; exact showP_len he s t _
theorem step_ws (key : ByteArray) (p : GSt × Int) (c : Nat) : (stepW key p c).1.ws = p.1.ws := by
  unfold stepW; dsimp only; split
  · unfold GSt.leave; dsimp only; split <;> rfl
  · unfold GSt.scan; dsimp only; split
    · rfl
    · split <;> rfl
theorem fold_ws (key : ByteArray) : ∀ (l : List Nat) (p : GSt × Int), (l.foldl (stepW key) p).1.ws = p.1.ws
  | [], _ => rfl
  | c :: l, p => by rw [List.foldl_cons, fold_ws key l, step_ws]
theorem play_ws (key : ByteArray) (ws : List Nat) (l : List Nat) : (playW key ws l).1.ws = ws := fold_ws key l _
theorem play_leave {key : ByteArray} {ws cs : List Nat} {k c : Nat} {px : GSt × Int} {t sr : Int} (hk : k < cs.length) (hc : c = cs[k]) (hp : px = playW key ws (cs.take k)) (ht : t = px.2 + ((c / 8 : Nat) : Int)) (hs : sr = 10001 + ((c % 4 : Nat) : Int)) (h5 : 5 ≤ c % 8) : playW key ws (cs.take (k + 1)) = (px.1.leave sr t, t) := by
  rw [List.take_succ_eq_append_getElem hk, playW_snoc, ← hp, ← hc]; unfold stepW; rw [← ht, ← hs]; dsimp only; rw [if_pos h5]
theorem play_scan {key : ByteArray} {ws cs : List Nat} {k c : Nat} {px : GSt × Int} {t sr : Int} (hk : k < cs.length) (hc : c = cs[k]) (hp : px = playW key ws (cs.take k)) (ht : t = px.2 + ((c / 8 : Nat) : Int)) (hs : sr = 10001 + ((c % 4 : Nat) : Int)) (h5 : ¬ 5 ≤ c % 8) : playW key ws (cs.take (k + 1)) = (px.1.scan 2 2 sr key t, t) := by
  rw [List.take_succ_eq_append_getElem hk, playW_snoc, ← hp, ← hc]; unfold stepW; rw [← ht, ← hs]; dsimp only; rw [if_neg h5]
theorem bare_eq {x y : SV} (h : bare x = bare y) : ({ y with owner := x.owner } : SV) = x := by
  obtain ⟨a1, a2, a3, a4, a5, a6⟩ := x
  obtain ⟨b1, b2, b3, b4, b5, b6⟩ := y
  simp only [bare, SV.mk.injEq] at h
  simp [h]
theorem log_at_eq {l1 l2 : List SV} (h : l1.map bare = l2.map bare) {k : Nat} (h1 : k < l1.length) (h2 : k < l2.length) : ({ l2[k] with owner := l1[k].owner } : SV) = l1[k] := by
  apply bare_eq
  have h3 := congrArg (fun l => l[k]?) h
  simpa [h1, h2] using h3
set_option maxHeartbeats 8000000 in
/-- foyer/foyertop.TopGateLearns -/
theorem learns_law (fv : Value) (fs : List ByteArray) (ov : Value) (os : List ByteArray) (s t0 : ByteArray) (qv : Value) (bs : List Bool) (mine yours : ByteArray) (rv : Value) (rs : List Nat) (cv : Value) (cs : List Nat) (w0 : World) (hT : Tabs w0) (hB : TabBs w0) (hf : IsSl w0 fv 1 encS fs) (ho : IsSl w0 ov 1 encS os) (hq : IsSl w0 qv 1 encQ bs) (hr : IsSl w0 rv 1 encC rs) (hcv : IsSl w0 cv 1 encC cs) (hrs : ∀ c ∈ rs, c < 256) (hcs : ∀ c ∈ cs, c < 256) (hz : s.size ≤ 140737488351232 ∧ t0.size ≤ 140737488351232 ∧ mine.size ≤ 140737488351232 ∧ yours.size ≤ 140737488351232) :
    Ret Tryz.prog 3 #[fv, ov, .string s, .string t0, qv, .string mine, .string yours, rv, cv] w0 (fun u w => u = .bool true ∧ Ext w0 w) := by
 refine ret_of_wp (nt := 331) Tryz.func3 rfl rfl rfl (fl := [(0, fv), (1, ov), (2, .string s), (3, .string t0), (4, qv), (5, .string mine), (6, .string yours), (7, rv), (8, cv)]) rfl (fun a S => ?_)
 have H := HSat.start w0
 have H := H.ro0 (TabsA) rfl (hT)
 have H := H.ro0 (TabB) rfl (hB)
 have H := H.ro0 (Sl cv 1 encC cs) rfl (hcv)
 have H := H.ro0 (Sl rv 1 encC rs) rfl (hr)
 have H := H.ro0 (Sl qv 1 encQ bs) rfl (hq)
 have H := H.ro0 (Sl ov 1 encS os) rfl (ho)
 have H := H.ro0 (Sl fv 1 encS fs) rfl (hf)
 have hfl0 := hf.len
 have hol0 := ho.len
 have hql0 := hq.len
 have hrl0 := hr.len
 have hcl0 := hcv.len
 refine gsr ?_
 refine ga S fun a S => ?_
 refine gnt ?_
 refine gsr ?_
 refine wl_of (op_call (wn rfl) rfl rfl S (co_func rfl Tryz.call4 S rfl) (doors_spec _ H.tabs (tabB_of H)) fun v w hc a S => ?_)
 obtain ⟨rfl, he⟩ := hc
 have H := H.ext he
 refine ga S fun a S => ?_
 refine gnt ?_
 refine g_seq ?_
 refine gsr ?_
 refine gm S fun a S => ?_
 refine wl_of (op_call (wn rfl) rfl rfl S (co_func rfl Tryz.call5 S rfl) (short_spec fv fs _ (H.sl fv)) fun v w hc a S => ?_)
 obtain ⟨rfl, he⟩ := hc
 have H := H.ext he
 refine gy rfl rfl rfl S (y_not rfl S rfl) fun a S => ?_
 refine gm S fun a S => ?_
 refine' wl_or 3 50 rfl S H rfl rfl rfl rfl rfl rfl rfl (fun _ S => (wn rfl)) (fun h1 kk => ?yh1) (fun a w S H => ?_)
 case yh1 =>
  have h1p := h1; try simp only [DL] at h1p
  refine gz 50 h1 S rfl rfl rfl rfl rfl rfl (y_move rfl S rfl) fun a S => ?_
  refine wl_of (op_call (wg' 50 rfl rfl S rfl h1 rfl) rfl rfl S (co_func rfl Tryz.call5 S rfl) (short_spec ov os _ (H.sl ov)) fun v w hc a S => ?_)
  obtain ⟨rfl, he⟩ := hc
  have H := H.ext he
  refine gz 50 h1 S rfl rfl rfl rfl rfl rfl (y_not rfl S rfl) fun a S => ?_
  refine gy rfl rfl rfl S (y_or' rfl h1 S rfl rfl) fun a S => ?_
  exact kk _ _ (S.join 4 54 rfl rfl) H
 refine gm S fun a S => ?_
 refine' wl_or 5 55 rfl S H rfl rfl rfl rfl rfl rfl rfl (fun _ S => (wn rfl)) (fun h2 kk => ?yh2) (fun a w S H => ?_)
 case yh2 =>
  have h2p := h2; try simp only [DL] at h2p
  refine gz 55 h2 S rfl rfl rfl rfl rfl rfl (y_move rfl S rfl) fun a S => ?_
  refine gz 55 h2 S rfl rfl rfl rfl rfl rfl (y_lens rfl Tryz.underlying22 S H rfl) fun a S => ?_
  refine gz 55 h2 S rfl rfl rfl rfl rfl rfl (y_move rfl S rfl) fun a S => ?_
  refine gz 55 h2 S rfl rfl rfl rfl rfl rfl (y_lens rfl Tryz.underlying22 S H rfl) fun a S => ?_
  refine gz 55 h2 S rfl rfl rfl rfl rfl rfl (y_bin rfl S rfl rfl rfl) fun a S => ?_
  refine gy rfl rfl rfl S (y_or' rfl h2 S rfl rfl) fun a S => ?_
  exact kk _ _ (S.join 6 61 rfl rfl) H
 refine gm S fun a S => ?_
 refine' wl_or 3 62 rfl S H rfl rfl rfl rfl rfl rfl rfl (fun _ S => (wn rfl)) (fun h3 kk => ?yh3) (fun a w S H => ?_)
 case yh3 =>
  have h3p := h3; try simp only [DL] at h3p
  refine gz 62 h3 S rfl rfl rfl rfl rfl rfl (y_move rfl S rfl) fun a S => ?_
  refine gz 62 h3 S rfl rfl rfl rfl rfl rfl (y_lens rfl Tryz.underlying22 S H rfl) fun a S => ?_
  refine gz 62 h3 S rfl rfl rfl rfl rfl rfl (y_bin rfl S rfl rfl rfl) fun a S => ?_
  refine gy rfl rfl rfl S (y_or' rfl h3 S rfl rfl) fun a S => ?_
  exact kk _ _ (S.join 4 66 rfl rfl) H
 refine gm S fun a S => ?_
 refine' wl_or 12 67 rfl S H rfl rfl rfl rfl rfl rfl rfl (fun _ S => (wn rfl)) (fun h4 kk => ?yh4) (fun a w S H => ?_)
 case yh4 =>
  have h4p := h4; try simp only [DL] at h4p
  refine gz 67 h4 S rfl rfl rfl rfl rfl rfl (y_move rfl S rfl) fun a S => ?_
  refine gz 67 h4 S rfl rfl rfl rfl rfl rfl (y_lenstr rfl Tryz.underlying9 S rfl) fun a S => ?_
  refine gz 67 h4 S rfl rfl rfl rfl rfl rfl (y_move rfl S rfl) fun a S => ?_
  refine gz 67 h4 S rfl rfl rfl rfl rfl rfl (y_lenstr rfl Tryz.underlying9 S rfl) fun a S => ?_
  refine gz 67 h4 S rfl rfl rfl rfl rfl rfl (y_add rfl S rfl rfl (by omega)) fun a S => ?_
  refine gz 67 h4 S rfl rfl rfl rfl rfl rfl (y_move rfl S rfl) fun a S => ?_
  refine gz 67 h4 S rfl rfl rfl rfl rfl rfl (y_lenstr rfl Tryz.underlying9 S rfl) fun a S => ?_
  refine gz 67 h4 S rfl rfl rfl rfl rfl rfl (y_add rfl S rfl rfl (by omega)) fun a S => ?_
  refine gz 67 h4 S rfl rfl rfl rfl rfl rfl (y_move rfl S rfl) fun a S => ?_
  refine gz 67 h4 S rfl rfl rfl rfl rfl rfl (y_lenstr rfl Tryz.underlying9 S rfl) fun a S => ?_
  refine gz 67 h4 S rfl rfl rfl rfl rfl rfl (y_add rfl S rfl rfl (by omega)) fun a S => ?_
  refine gz 67 h4 S rfl rfl rfl rfl rfl rfl (y_bin rfl S rfl rfl rfl) fun a S => ?_
  refine gy rfl rfl rfl S (y_or' rfl h4 S rfl rfl) fun a S => ?_
  exact kk _ _ (S.join 13 80 rfl rfl) H
 refine gm S fun a S => ?_
 refine' wl_or 3 81 rfl S H rfl rfl rfl rfl rfl rfl rfl (fun _ S => (wn rfl)) (fun h5 kk => ?yh5) (fun a w S H => ?_)
 case yh5 =>
  have h5p := h5; try simp only [DL] at h5p
  refine gz 81 h5 S rfl rfl rfl rfl rfl rfl (y_move rfl S rfl) fun a S => ?_
  refine gz 81 h5 S rfl rfl rfl rfl rfl rfl (y_lens rfl Tryz.underlying24 S H rfl) fun a S => ?_
  refine gz 81 h5 S rfl rfl rfl rfl rfl rfl (y_bin rfl S rfl rfl rfl) fun a S => ?_
  refine gy rfl rfl rfl S (y_or' rfl h5 S rfl rfl) fun a S => ?_
  exact kk _ _ (S.join 4 85 rfl rfl) H
 refine gm S fun a S => ?_
 refine' wl_or 3 86 rfl S H rfl rfl rfl rfl rfl rfl rfl (fun _ S => (wn rfl)) (fun h6 kk => ?yh6) (fun a w S H => ?_)
 case yh6 =>
  have h6p := h6; try simp only [DL] at h6p
  refine gz 86 h6 S rfl rfl rfl rfl rfl rfl (y_move rfl S rfl) fun a S => ?_
  refine gz 86 h6 S rfl rfl rfl rfl rfl rfl (y_lens rfl Tryz.underlying24 S H rfl) fun a S => ?_
  refine gz 86 h6 S rfl rfl rfl rfl rfl rfl (y_bin rfl S rfl rfl rfl) fun a S => ?_
  refine gy rfl rfl rfl S (y_or' rfl h6 S rfl rfl) fun a S => ?_
  exact kk _ _ (S.join 4 90 rfl rfl) H
 refine gnt ?_
 have S := (((((((((((S.nil.cons S 8 rfl).cons S 7 rfl).cons S 6 rfl).cons S 5 rfl).cons S 4 rfl).cons S 3 rfl).cons S 2 rfl).cons S 1 rfl).cons S 0 rfl).cons S 18 rfl).cons S 19 rfl).cons S 90 rfl
 refine c_if S rfl (fun h7 => ?_) (fun h7 => ?_)
 ·have h7p := h7; try simp only [DL] at h7p
  refine gsr ?_
  refine gm S fun a S => ?_
  refine ga S fun a S => ?_
  refine gnt ?_
  refine g_ret ?_
  refine r_then (ret1 rfl S rfl ?_)
  exact ⟨rfl, H.toExt⟩
 ·have h7p := h7; try simp only [DL] at h7p
  have hcd := h7
  simp only [Bool.or_eq_false_iff] at hcd
  obtain ⟨⟨⟨⟨⟨⟨hc1, hc2⟩, hc3⟩, hc4⟩, hc5⟩, hc6⟩, hc7⟩ := hcd
  simp at hc1 hc2 hc3 hc4 hc5 hc6 hc7
  obtain ⟨hfl, hfs⟩ := short_yes hc1
  obtain ⟨hol, hos⟩ := short_yes hc2
  have hpos : 0 < fs.length := by omega
  have hrl : rs.length ≤ 10 := by omega
  have hcl : cs.length ≤ 10 := by omega
  have hfo : os.length = fs.length := by omega
  refine g_skip ?_
  refine n_then ?_
  refine gsr ?_
  refine gm S fun a S => ?_
  refine gy rfl rfl rfl S (y_lens rfl Tryz.underlying22 S H rfl) fun a S => ?_
  refine gm S fun a S => ?_
  refine wl_of (op_call (wn rfl) rfl rfl S (co_func rfl Tryz.call6 S rfl) (chosen_spec fs.length qv bs _ (H.sl qv) (by omega)) fun lv w hc a S => ?_)
  have H1 := hc
  obtain ⟨wh, hwh⟩ : ∃ x, x = chosen fs.length bs := ⟨_, rfl⟩
  rw [← hwh] at H1
  have hi : IncW wh fs.length := hwh ▸ chosen_ok hpos bs
  have hwl := hi.len
  have H := H.call1 H1 rfl
  refine ga S fun a S => ?_
  refine gnt ?_
  have S := ((((((((((S.nil.cons S 8 rfl).cons S 7 rfl).cons S 6 rfl).cons S 5 rfl).cons S 3 rfl).cons S 2 rfl).cons S 1 rfl).cons S 0 rfl).cons S 18 rfl).cons S 19 rfl).cons S 20 rfl
  refine gsr ?_
  refine wl_of (op_buildSlice (wn rfl) rfl rfl rfl Tryz.underlying22 Finf9 S H (idx := []) rfl rfl rfl (z := []) (by kernel_rfl) (cs := []) rfl fun b96 a w S H => ?_)
  have H := H.celO ([] : List ByteArray) encS 1 (m := 0) rfl (by simp) rfl (by omega)
  refine gm S fun a S => ?_
  refine wl_of (op_appendT (wn rfl) rfl rfl rfl Tryz.underlying22 Finf9 rfl rfl S H rfl rfl (by simp [encS, Value.oneCell']) (by first | omega | (simp; omega)) (by first | omega | (simp; omega)) fun u98 a w S H => ?_)
  rw [List.nil_append] at H
  refine ga S fun a S => ?_
  refine gnt ?_
  have S := ((((((((((S.nil.cons S 8 rfl).cons S 7 rfl).cons S 6 rfl).cons S 5 rfl).cons S 3 rfl).cons S 2 rfl).cons S 0 rfl).cons S 18 rfl).cons S 19 rfl).cons S 20 rfl).cons S 21 rfl
  refine g_seq ?_
  refine gsr ?_
  refine ga S fun a S => ?_
  refine gnt ?_
  refine g_block ?_
  have SU := ((((((((((S.nil.cons S 8 rfl).cons S 7 rfl).cons S 6 rfl).cons S 5 rfl).cons S 3 rfl).cons S 2 rfl).cons S 0 rfl).cons S 18 rfl).cons S 19 rfl).cons S 20 rfl).cons S 21 rfl
  refine loopW (X := Nat) SU (fun k => [(22, .int .i64 (k : Int))]) (fun k w => k ≤ wh.length ∧ HSat No w0 [OSl 9 u98 1 encS (overK fs os wh (k)), OSl 3 lv 1 encN wh, Sl fv 1 encS fs, Sl rv 1 encC rs, Sl cv 1 encC cs, TabsA, TabB] w) (fun k => wh.length - k) 0 (S.nil.cons S 22 rfl) (⟨Nat.zero_le _, by have h := H.take [OSl 9 u98 1 encS os, OSl 3 lv 1 encN wh, Sl fv 1 encS fs, Sl rv 1 encC rs, Sl cv 1 encC cs, TabsA, TabB]; exact h⟩) (fun k a w S hW => ?_)
  simp only [List.cons_append, List.nil_append] at S
  obtain ⟨hk, H⟩ := hW
  have hov := overK_len fs os wh k
  refine g_seq ?_
  refine gsr ?_
  refine gm S fun a S => ?_
  refine gm S fun a S => ?_
  refine gy rfl rfl rfl S (y_lens rfl Tryz.underlying27 S H rfl) fun a S => ?_
  refine gy rfl rfl rfl S (y_bin rfl S rfl rfl rfl) fun a S => ?_
  refine gnt ?_
  refine c_if S rfl (fun h8 => ?_) (fun h8 => ?_)
  ·have h8p := h8; try simp only [DL] at h8p
   have hkl : k < wh.length := by omega
   have hwk : wh[k] < fs.length := hi.lt _ (List.getElem_mem hkl)
   refine g_skip ?_
   refine n_then ?_
   have S := (((((((((((S.nil.cons S 8 rfl).cons S 7 rfl).cons S 6 rfl).cons S 5 rfl).cons S 3 rfl).cons S 2 rfl).cons S 0 rfl).cons S 18 rfl).cons S 19 rfl).cons S 20 rfl).cons S 21 rfl).cons S 22 rfl
   refine g_seq ?_
   refine g_block ?_
   refine region_st (loud := [13]) (tails := [13]) (free := []) [0, 1, 2, 3, 4, 5, 6, 7, 8, 9, 10, 11, 12, 13] [] Fmo (by kernel_rfl) (by kernel_rfl) rfl H ?_
   refine m_w rfl rfl (wn rfl) rfl rfl S (fun w H => y_move rfl S rfl) fun a S => ?_
   refine m_w rfl rfl (wn rfl) rfl rfl S (fun w H => y_move rfl S rfl) fun a S => ?_
   refine m_w rfl rfl (wn rfl) rfl rfl S (fun w H => y_move rfl S rfl) fun a S => ?_
   refine m_w rfl rfl (wn rfl) rfl rfl S (fun w H => y_iaddrn rfl Tryz.underlying27 Fsiz3 S H rfl rfl (by first | assumption | omega | (simp only [LL]; omega))) fun a S => ?_
   refine m_loads _ rfl rfl (wn rfl) rfl rfl S rfl Fsca3 rfl (by first | assumption | omega | (simp only [LL]; omega)) rfl fun a S => ?_
   refine m_w rfl rfl (wn rfl) rfl rfl S (fun w H => y_move rfl S rfl) fun a S => ?_
   refine m_w rfl rfl (wn rfl) rfl rfl S (fun w H => y_move rfl S rfl) fun a S => ?_
   refine m_w rfl rfl (wn rfl) rfl rfl S (fun w H => y_move rfl S rfl) fun a S => ?_
   refine m_w rfl rfl (wn rfl) rfl rfl S (fun w H => y_iaddrn rfl Tryz.underlying27 Fsiz3 S H rfl rfl (by first | assumption | omega | (simp only [LL]; omega))) fun a S => ?_
   refine m_loads _ rfl rfl (wn rfl) rfl rfl S rfl Fsca3 rfl (by first | assumption | omega | (simp only [LL]; omega)) rfl fun a S => ?_
   refine m_w rfl rfl (wn rfl) rfl rfl S (fun w H => y_iaddrn rfl Tryz.underlying22 Fsiz9 S H rfl rfl (by first | assumption | omega | (simp only [LL]; omega))) fun a S => ?_
   refine m_loads _ rfl rfl (wn rfl) rfl rfl S rfl Fsca9 rfl (by first | assumption | omega | (simp only [LL]; omega)) rfl fun a S => ?_
   refine m_w rfl rfl (wn rfl) rfl rfl S (fun w H => y_iaddrn rfl Tryz.underlying22 Fsiz9 S H rfl rfl (by first | assumption | omega | (simp only [LL]; omega))) fun a S => ?_
   refine m_l rfl rfl (fun w H => op_store1 _ (_) (wn rfl) rfl rfl S H rfl rfl rfl rfl Fsiz9 (by first | assumption | omega | (simp only [LL]; omega)) (by exact rfl) fun a w S H => m_tail H rfl ?_)
   refine m_nil (fun w H => ?_)
   refine n_block ?_
   refine n_then ?_
   have S := (((((((((((S.nil.cons S 8 rfl).cons S 7 rfl).cons S 6 rfl).cons S 5 rfl).cons S 3 rfl).cons S 2 rfl).cons S 0 rfl).cons S 18 rfl).cons S 19 rfl).cons S 20 rfl).cons S 21 rfl).cons S 22 rfl
   refine g_region ?_
   refine gm S fun a S => ?_
   refine gy rfl rfl rfl S (y_add rfl S rfl rfl (by omega)) fun a S => ?_
   refine ga S fun a S => ?_
   refine gnt ?_
   rw [over_s hkl hwk] at H
   exact ⟨k + 1, S.nil.cons S 22 rfl, ((((((((((S.nil.cons S 8 rfl).cons S 7 rfl).cons S 6 rfl).cons S 5 rfl).cons S 3 rfl).cons S 2 rfl).cons S 0 rfl).cons S 18 rfl).cons S 19 rfl).cons S 20 rfl).cons S 21 rfl, ⟨by omega, H.take [OSl 9 u98 1 encS (overK fs os wh (k + 1)), OSl 3 lv 1 encN wh, Sl fv 1 encS fs, Sl rv 1 encC rs, Sl cv 1 encC cs, TabsA, TabB]⟩, by omega⟩
  ·have h8p := h8; try simp only [DL] at h8p
   obtain rfl : k = wh.length := by omega
   obtain ⟨sec, hsec⟩ : ∃ x, x = overK fs os wh wh.length := ⟨_, rfl⟩
   have hsecl : sec.length = fs.length := by rw [hsec, overK_len]; exact hfo
   have hsecs : ∀ x ∈ sec, x.size ≤ 200 := by rw [hsec]; exact overK_size hfs hos _
   have hsecm : (wh.map fun i => sec.getD i noB) = wh.map fun i => fs.getD i noB := by rw [hsec]; exact over_same hi hfo
   rw [← hsec] at H
   refine g_exit ?_
   refine x_then (x_then (x_eq ?_))
   refine n_then ?_
   have S := ((((((((((S.nil.cons S 8 rfl).cons S 7 rfl).cons S 6 rfl).cons S 5 rfl).cons S 3 rfl).cons S 2 rfl).cons S 0 rfl).cons S 18 rfl).cons S 19 rfl).cons S 20 rfl).cons S 21 rfl
   refine gsr ?_
   refine gm S fun a S => ?_
   refine gm S fun a S => ?_
   refine gm S fun a S => ?_
   refine wl_of (op_call (wn rfl) rfl rfl S (co_func rfl Tryz.call7 S rfl) (show_spec fv fs s lv wh _ H.tabs (H.sl fv) (by omega) (by omega) hfs (H.sl lv) hi) fun v w hc a S => ?_)
   obtain ⟨dwA, dfA, dpA, psA, rfl, hpsA, H1⟩ := hc
   have H := H.call H1 (by simp [OSl, RowsA, Bun, GateA])
   simp only [List.cons_append, List.nil_append] at H
   refine gm S fun a S => ?_
   refine gy rfl rfl rfl S (y_extract rfl S rfl rfl) fun a S => ?_
   refine gy rfl rfl rfl S (y_extract rfl S rfl rfl) fun a S => ?_
   refine wl_of (op_alloc (wn rfl) rfl rfl rfl S H Fzer31 fun b23 a w S H => ?_)
   refine wl_of (op_storea (wn rfl) rfl rfl S H rfl rfl (by rw [List.all_cons, List.all_cons, List.all_cons, List.all_cons, H.sl1 dwA, H.sl1 dfA, H.sl1 dpA]; rfl) Fsiz31 rfl (cs' := [_, _, _, _]) rfl fun a w S H => ?_)
   refine ga S fun a S => ?_
   refine gnt ?_
   have S := ((((((((((((S.nil.cons S 8 rfl).cons S 7 rfl).cons S 6 rfl).cons S 5 rfl).cons S 3 rfl).cons S 2 rfl).cons S 0 rfl).cons S 18 rfl).cons S 19 rfl).cons S 20 rfl).cons S 21 rfl).cons S 23 rfl).cons S 24 rfl
   refine gsr ?_
   refine gm S fun a S => ?_
   refine gm S fun a S => ?_
   refine gm S fun a S => ?_
   refine wl_of (op_call (wn rfl) rfl rfl S (co_func rfl Tryz.call7 S rfl) (show_spec u98 sec t0 lv wh _ H.tabs (H.sl u98) (by omega) (by omega) hsecs (H.sl lv) (by rw [hsecl]; exact hi)) fun v w hc a S => ?_)
   obtain ⟨dwB, dfB, dpB, psB, rfl, hpsB, H1⟩ := hc
   have H := H.call H1 (by simp [OSl, RowsA, Bun, GateA])
   simp only [List.cons_append, List.nil_append] at H
   have hDA := rows_D hpsA
   have hDB := rows_D hpsB
   have hlA := rows_len hpsA
   have hlB := rows_len hpsB
   have hrl := rows_rl hsecl.symm hpsA hpsB
   refine gm S fun a S => ?_
   refine gy rfl rfl rfl S (y_extract rfl S rfl rfl) fun a S => ?_
   refine gy rfl rfl rfl S (y_extract rfl S rfl rfl) fun a S => ?_
   refine wl_of (op_alloc (wn rfl) rfl rfl rfl S H Fzer31 fun b25 a w S H => ?_)
   refine wl_of (op_storea (wn rfl) rfl rfl S H rfl rfl (by rw [List.all_cons, List.all_cons, List.all_cons, List.all_cons, H.sl1 dwB, H.sl1 dfB, H.sl1 dpB]; rfl) Fsiz31 rfl (cs' := [_, _, _, _]) rfl fun a w S H => ?_)
   refine ga S fun a S => ?_
   refine gnt ?_
   have S := (((((((((((((S.nil.cons S 8 rfl).cons S 7 rfl).cons S 6 rfl).cons S 5 rfl).cons S 3 rfl).cons S 2 rfl).cons S 0 rfl).cons S 18 rfl).cons S 19 rfl).cons S 21 rfl).cons S 23 rfl).cons S 24 rfl).cons S 25 rfl).cons S 26 rfl
   refine g_seq ?_
   refine g_seq ?_
   refine region_st (loud := []) (tails := []) (free := []) [0, 1, 2, 3, 4, 5, 6, 7, 8, 9, 10, 11, 12, 13, 14, 15, 16, 17, 18, 19, 20, 21, 22, 23, 24, 25, 26, 27] [] Fmo (by kernel_rfl) (by kernel_rfl) rfl H ?_
   refine m_w rfl rfl (wn rfl) rfl rfl S (fun w H => y_move rfl S rfl) fun a S => ?_
   refine m_w rfl rfl (wn rfl) rfl rfl S (fun w H => y_bin rfl S rfl rfl rfl) fun a S => ?_
   refine m_w rfl rfl (wn rfl) rfl rfl S (fun w H => y_move rfl S rfl) fun a S => ?_
   refine m_w rfl rfl (wg' 134 rfl rfl S rfl (by simp) rfl) rfl rfl S (fun w H => y_move rfl S rfl) fun a S => ?_
   refine m_w rfl rfl (wg' 134 rfl rfl S rfl (by simp) rfl) rfl rfl S (fun w H => y_bin rfl S rfl rfl rfl) fun a S => ?_
   refine m_w rfl rfl (wn rfl) rfl rfl S (fun w H => y_or' rfl (by simp) S rfl rfl) fun a S => ?_
   refine m_w rfl rfl (wn rfl) rfl rfl S (fun w H => y_move rfl S rfl) fun a S => ?_
   refine m_w rfl rfl (wg' 138 rfl rfl S rfl (by simp) rfl) rfl rfl S (fun w H => y_move rfl S rfl) fun a S => ?_
   refine m_w rfl rfl (wg' 138 rfl rfl S rfl (by simp) rfl) rfl rfl S (fun w H => y_move rfl S rfl) fun a S => ?_
   refine m_c rfl rfl (wg' 138 rfl rfl S rfl (by simp) rfl) rfl rfl S (fun w => co_func rfl Tryz.call9 S rfl) (fun w H => seal_spec fv fs s _ H.tabs (H.sl fv) (by omega) (by omega) hfs (by omega)) fun a S => ?_
   refine m_w rfl rfl (wg' 138 rfl rfl S rfl (by simp) rfl) rfl rfl S (fun w H => y_load0 rfl S H rfl (by exact Fagg31)) fun a S => ?_
   refine m_c rfl rfl (wg' 138 rfl rfl S rfl (by simp) rfl) rfl rfl S (fun w => co_func rfl Tryz.call8 S rfl) (fun w H => rcheck_spec fs s wh dwA dfA dpA psA _ H.tabs (by omega) hfs hi (H.sl dwA) (H.sl dfA) (H.sl dpA) (H.rws 9 psA) (rowsCap (e := 9) (sz := 1) (enc := encS) H) hpsA) fun a S => ?_
   refine m_w rfl rfl (wg' 138 rfl rfl S rfl (by simp) rfl) rfl rfl S (fun w H => y_not rfl S rfl) fun a S => ?_
   refine m_w rfl rfl (wn rfl) rfl rfl S (fun w H => y_or' rfl (by simp) S rfl rfl) fun a S => ?_
   refine m_w rfl rfl (wn rfl) rfl rfl S (fun w H => y_move rfl S rfl) fun a S => ?_
   refine m_w rfl rfl (wg' 146 rfl rfl S rfl (by simp) rfl) rfl rfl S (fun w H => y_move rfl S rfl) fun a S => ?_
   refine m_w rfl rfl (wg' 146 rfl rfl S rfl (by simp) rfl) rfl rfl S (fun w H => y_move rfl S rfl) fun a S => ?_
   refine m_c rfl rfl (wg' 146 rfl rfl S rfl (by simp) rfl) rfl rfl S (fun w => co_func rfl Tryz.call9 S rfl) (fun w H => seal_spec u98 sec t0 _ H.tabs (H.sl u98) (by omega) (by omega) hsecs (by omega)) fun a S => ?_
   refine m_w rfl rfl (wg' 146 rfl rfl S rfl (by simp) rfl) rfl rfl S (fun w H => y_load0 rfl S H rfl (by exact Fagg31)) fun a S => ?_
   refine m_c rfl rfl (wg' 146 rfl rfl S rfl (by simp) rfl) rfl rfl S (fun w => co_func rfl Tryz.call8 S rfl) (fun w H => rcheck_spec sec t0 wh dwB dfB dpB psB _ H.tabs (by omega) hsecs (by rw [hsecl]; exact hi) (H.sl dwB) (H.sl dfB) (H.sl dpB) (H.rws 9 psB) (rowsCap (e := 9) (sz := 1) (enc := encS) H) hpsB) fun a S => ?_
   refine m_w rfl rfl (wg' 146 rfl rfl S rfl (by simp) rfl) rfl rfl S (fun w H => y_not rfl S rfl) fun a S => ?_
   refine m_w rfl rfl (wn rfl) rfl rfl S (fun w H => y_or' rfl (by simp) S rfl rfl) fun a S => ?_
   refine m_w rfl rfl (wn rfl) rfl rfl S (fun w H => y_move rfl S rfl) fun a S => ?_
   refine m_w rfl rfl (wg' 154 rfl rfl S rfl (by simp) rfl) rfl rfl S (fun w H => y_load0 rfl S H rfl (by exact Fagg31)) fun a S => ?_
   refine m_w rfl rfl (wg' 154 rfl rfl S rfl (by simp) rfl) rfl rfl S (fun w H => y_load0 rfl S H rfl (by exact Fagg31)) fun a S => ?_
   rw [hsecl] at S
   refine m_c rfl rfl (wg' 154 rfl rfl S rfl (by simp) rfl) rfl rfl S (fun w => co_func rfl Tryz.call10 S rfl) (fun w H => alike_spec (fs.length : Int) wh (wh.map fun i => fs.getD i noB) dwA dfA dpA dwB dfB dpB psA psB _ (H.sl dwA) (H.sl dfA) (H.sl dpA) (H.rws 9 psA) hDA (H.sl dwB) (by rw [← hsecm]; exact H.sl dfB) (H.sl dpB) (H.rws 9 psB) hDB (by omega) hrl (by omega) (by rw [List.length_map]; omega) (by omega)) fun a S => ?_
   refine m_w rfl rfl (wg' 154 rfl rfl S rfl (by simp) rfl) rfl rfl S (fun w H => y_not rfl S rfl) fun a S => ?_
   refine m_w rfl rfl (wn rfl) rfl rfl S (fun w H => y_or' rfl (by simp) S rfl rfl) fun a S => ?_
   refine m_nil (fun w H => ?_)
   refine n_then ?_
   have S := ((((((S.nil.cons S 8 rfl).cons S 7 rfl).cons S 6 rfl).cons S 5 rfl).cons S 18 rfl).cons S 19 rfl).cons S 159 rfl
   refine c_if S rfl (fun h9 => ?_) (fun h9 => ?_)
   ·have h9p := h9; try simp only [DL] at h9p
    all_goals (
      exact absurd h9 (by simp))
   ·have h9p := h9; try simp only [DL] at h9p
    refine g_skip ?_
    refine n_then ?_
    refine gsr ?_
    refine ga S fun a S => ?_
    refine gnt ?_
    refine g_seq ?_
    refine gsr ?_
    refine ga S fun a S => ?_
    refine gnt ?_
    refine g_block ?_
    have H := H.nilO 3 1 encI
    have SU := (((((S.nil.cons S 8 rfl).cons S 7 rfl).cons S 6 rfl).cons S 5 rfl).cons S 18 rfl).cons S 19 rfl
    refine loopW (X := Nat × Value) SU (fun x => [(28, .int .i64 (x.1 : Int)), (27, x.2)]) (fun x w => x.1 ≤ rs.length ∧ HSat No w0 [OSl 3 x.2 1 encI (goneL (rs.take (x.1))), Sl rv 1 encC rs, Sl cv 1 encC cs, TabsA, TabB] w) (fun x => rs.length - x.1) (0, .slice none 0 0) ((S.nil.cons S 27 rfl).cons S 28 rfl) (⟨Nat.zero_le _, H.take [OSl 3 (.slice none 0 0) 1 encI ([] : List Int), Sl rv 1 encC rs, Sl cv 1 encC cs, TabsA, TabB]⟩) (fun x a w S hW => ?_)
    simp only [List.cons_append, List.nil_append] at S
    obtain ⟨k, zg⟩ := x
    obtain ⟨hk, H⟩ := hW
    dsimp only at S H hk
    refine g_seq ?_
    refine gsr ?_
    refine gm S fun a S => ?_
    refine gm S fun a S => ?_
    refine gy rfl rfl rfl S (y_lens rfl Tryz.underlying24 S H rfl) fun a S => ?_
    refine gy rfl rfl rfl S (y_bin rfl S rfl rfl rfl) fun a S => ?_
    refine gnt ?_
    refine c_if S rfl (fun h10 => ?_) (fun h10 => ?_)
    ·have h10p := h10; try simp only [DL] at h10p
     have hkr : k < rs.length := by omega
     refine g_skip ?_
     refine n_then ?_
     have S := (((((((S.nil.cons S 8 rfl).cons S 7 rfl).cons S 6 rfl).cons S 5 rfl).cons S 18 rfl).cons S 19 rfl).cons S 27 rfl).cons S 28 rfl
     refine g_seq ?_
     refine g_block ?_
     refine g_region ?_
     refine gm S fun a S => ?_
     refine gm S fun a S => ?_
     refine gm S fun a S => ?_
     refine gy rfl rfl rfl S (y_iaddrn rfl Tryz.underlying24 Fsiz5 S H rfl rfl (by first | assumption | omega | (simp only [LL]; omega))) fun a S => ?_
     refine gy rfl rfl rfl S (y_loads _ rfl Fsca5 S H rfl (by first | assumption | omega | (simp only [LL]; omega)) rfl) fun a S => ?_
     obtain ⟨c, hc⟩ : ∃ c, c = rs[k] := ⟨_, rfl⟩
     have hcb : c < 256 := hc ▸ hrs _ (List.getElem_mem hkr)
     rw [← hc] at S
     refine gy rfl rfl rfl S (y_conv rfl Tryz.underlying5 Tryz.underlying3 S rfl (by omega)) fun a S => ?_
     refine gy rfl rfl rfl S (y_remn rfl S rfl rfl (by omega) (by omega)) fun a S => ?_
     refine gy rfl rfl rfl S (y_add rfl S rfl rfl (by omega)) fun a S => ?_
     refine wl_of (op_buildSlice (wn rfl) rfl rfl rfl Tryz.underlying27 Finf3 S H (idx := [0]) rfl rfl rfl (z := [.int .i64 0]) (by kernel_rfl) (cs := [.int .i64 (10001 + (c : Int) % 4)]) rfl fun b174 a w S H => ?_)
     refine wl_of (op_append ([10001 + (c : Int) % 4]) (wn rfl) rfl rfl rfl Tryz.underlying27 Finf3 rfl rfl S H rfl rfl rfl rfl (by simp) (by simp [encI]) (by simp [encI, Value.oneCell']) (by rw [goneL_len, List.length_take]; simp only [List.length_cons, List.length_nil]; omega) (by rw [goneL_len, List.length_take]; simp only [List.length_cons, List.length_nil]; omega) fun u175 a w hn175 S H => ?_)
     rw [hc, goneL_s hkr] at H
     refine ga S fun a S => ?_
     refine gl_nil ?_
     refine n_block ?_
     refine n_then ?_
     have S := (((((((S.nil.cons S 8 rfl).cons S 7 rfl).cons S 6 rfl).cons S 5 rfl).cons S 18 rfl).cons S 19 rfl).cons S 28 rfl).cons S 27 rfl
     refine g_region ?_
     refine gm S fun a S => ?_
     refine gy rfl rfl rfl S (y_add rfl S rfl rfl (by omega)) fun a S => ?_
     refine ga S fun a S => ?_
     refine gnt ?_
     exact ⟨(k + 1, u175), (S.nil.cons S 27 rfl).cons S 28 rfl, (((((S.nil.cons S 8 rfl).cons S 7 rfl).cons S 6 rfl).cons S 5 rfl).cons S 18 rfl).cons S 19 rfl, ⟨by dsimp only; omega, H.take [OSl 3 u175 1 encI (goneL (rs.take (k + 1))), Sl rv 1 encC rs, Sl cv 1 encC cs, TabsA, TabB]⟩, by dsimp only; omega⟩
    ·have h10p := h10; try simp only [DL] at h10p
     obtain rfl : k = rs.length := by omega
     rw [List.take_length] at H
     refine g_exit ?_
     refine x_then (x_then (x_eq ?_))
     refine n_then ?_
     have S := (((((S.nil.cons S 8 rfl).cons S 6 rfl).cons S 5 rfl).cons S 18 rfl).cons S 19 rfl).cons S 27 rfl
     refine gsr ?_
     refine gm S fun a S => ?_
     refine wl_of (op_call (wn rfl) rfl rfl S (co_func rfl Tryz.call11 S rfl) (make_spec 2 2 zg (goneL rs) _ (by decide) (by decide) (H.sl zg) (goneL_ok rs) H.tabs) fun v w hc a S => ?_)
     obtain ⟨flv, rfl, H1⟩ := hc
     obtain ⟨ws, hws⟩ : ∃ x, x = makeW 2 2 (goneL rs) := ⟨_, rfl⟩
     have hwok : WOk 2 ws := hws ▸ makeW_ok (by decide) _ _
     rw [← hws] at H1
     have H := H.call1 H1 rfl
     refine gm S fun a S => ?_
     refine gy rfl rfl rfl S (y_extract rfl S rfl rfl) fun a S => ?_
     refine gy rfl rfl rfl S (y_extract rfl S rfl rfl) fun a S => ?_
     refine wl_of (op_alloc (wn rfl) rfl rfl rfl S H Fzer40 fun b29 a w S H => ?_)
     refine wl_of (op_storea (wn rfl) rfl rfl S H rfl rfl (by unfold encF; rw [List.all_cons, List.all_cons, List.all_cons, H.sl1 flv]; rfl) Fsiz40 rfl (cs' := [_, _, _]) rfl fun a w S H => ?_)
     refine ga S fun a S => ?_
     refine gnt ?_
     have S := ((((((S.nil.cons S 8 rfl).cons S 6 rfl).cons S 5 rfl).cons S 18 rfl).cons S 19 rfl).cons S 29 rfl).cons S 30 rfl
     refine gsr ?_
     refine wl_of (op_call (wn rfl) rfl rfl S (co_func rfl Tryz.call12 S rfl) (gnew_at 1 1000 _ (by decide) (by decide)) fun v w hc a S => ?_)
     obtain ⟨xb, zx, rfl, H1⟩ := hc
     have H := H.call1 H1 rfl
     refine gm S fun a S => ?_
     refine gy rfl rfl rfl S (y_extract rfl S rfl rfl) fun a S => ?_
     refine gy rfl rfl rfl S (y_extract rfl S rfl rfl) fun a S => ?_
     refine ga S fun a S => ?_
     refine ga S fun a S => ?_
     refine gnt ?_
     have S := ((((((((S.nil.cons S 8 rfl).cons S 6 rfl).cons S 5 rfl).cons S 18 rfl).cons S 19 rfl).cons S 29 rfl).cons S 30 rfl).cons S 31 rfl).cons S 32 rfl
     refine gsr ?_
     refine wl_of (op_call (wn rfl) rfl rfl S (co_func rfl Tryz.call12 S rfl) (gnew_at 1 1000 _ (by decide) (by decide)) fun v w hc a S => ?_)
     obtain ⟨yb, zy, rfl, H1⟩ := hc
     have H := H.call1 H1 rfl
     refine gm S fun a S => ?_
     refine gy rfl rfl rfl S (y_extract rfl S rfl rfl) fun a S => ?_
     refine gy rfl rfl rfl S (y_extract rfl S rfl rfl) fun a S => ?_
     refine ga S fun a S => ?_
     refine ga S fun a S => ?_
     refine gnt ?_
     have S := ((((((((((S.nil.cons S 8 rfl).cons S 6 rfl).cons S 5 rfl).cons S 18 rfl).cons S 19 rfl).cons S 29 rfl).cons S 30 rfl).cons S 31 rfl).cons S 32 rfl).cons S 33 rfl).cons S 34 rfl
     refine g_seq ?_
     refine gsr ?_
     refine gm S fun a S => ?_
     refine gy rfl rfl rfl S (y_bin rfl S rfl rfl rfl) fun a S => ?_
     refine gm S fun a S => ?_
     refine wl_of (op_y (wg' 191 rfl rfl S rfl (by simp) rfl) rfl rfl S (y_move rfl S rfl) fun a S => ?_)
     refine wl_of (op_y (wg' 191 rfl rfl S rfl (by simp) rfl) rfl rfl S (y_bin rfl S rfl rfl rfl) fun a S => ?_)
     refine gy rfl rfl rfl S (y_or' rfl (by simp) S rfl rfl) fun a S => ?_
     refine gm S fun a S => ?_
     refine wl_of (op_y (wg' 195 rfl rfl S rfl (by simp) rfl) rfl rfl S (y_move rfl S rfl) fun a S => ?_)
     refine wl_of (op_y (wg' 195 rfl rfl S rfl (by simp) rfl) rfl rfl S (y_bin rfl S rfl rfl rfl) fun a S => ?_)
     refine gy rfl rfl rfl S (y_or' rfl (by simp) S rfl rfl) fun a S => ?_
     refine gm S fun a S => ?_
     refine wl_of (op_y (wg' 199 rfl rfl S rfl (by simp) rfl) rfl rfl S (y_move rfl S rfl) fun a S => ?_)
     refine wl_of (op_y (wg' 199 rfl rfl S rfl (by simp) rfl) rfl rfl S (y_load0 rfl S H rfl (by exact Fagg40)) fun a S => ?_)
     refine wl_of (op_call (wg' 199 rfl rfl S rfl (by simp) rfl) rfl rfl S (co_func rfl Tryz.call13 S rfl) (sync_at 2 2 flv ws 0 (by decide) (by decide) (H.front (GateA xb (GSt.new 1 1000) zx)) hwok (by decide) (by decide)) fun v w hc a S => ?_)
     obtain ⟨rfl, zx1, H⟩ := hc
     
     refine wl_of (op_y (wg' 199 rfl rfl S rfl (by simp) rfl) rfl rfl S (y_bin rfl S rfl rfl rfl) fun a S => ?_)
     refine gy rfl rfl rfl S (y_or' rfl (by simp) S rfl rfl) fun a S => ?_
     refine gm S fun a S => ?_
     refine wl_of (op_y (wg' 205 rfl rfl S rfl (by simp) rfl) rfl rfl S (y_move rfl S rfl) fun a S => ?_)
     refine wl_of (op_y (wg' 205 rfl rfl S rfl (by simp) rfl) rfl rfl S (y_load0 rfl S H rfl (by exact Fagg40)) fun a S => ?_)
     refine wl_of (op_call (wg' 205 rfl rfl S rfl (by simp) rfl) rfl rfl S (co_func rfl Tryz.call13 S rfl) (sync_at 2 2 flv ws 0 (by decide) (by decide) (H.front (GateA yb (GSt.new 1 1000) zy)) hwok (by decide) (by decide)) fun v w hc a S => ?_)
     obtain ⟨rfl, zy1, H⟩ := hc
     
     refine wl_of (op_y (wg' 205 rfl rfl S rfl (by simp) rfl) rfl rfl S (y_bin rfl S rfl rfl rfl) fun a S => ?_)
     refine gy rfl rfl rfl S (y_or' rfl (by simp) S rfl rfl) fun a S => ?_
     refine gnt ?_
     have S := (((((((S.nil.cons S 8 rfl).cons S 6 rfl).cons S 5 rfl).cons S 18 rfl).cons S 19 rfl).cons S 31 rfl).cons S 33 rfl).cons S 210 rfl
     refine c_if S rfl (fun h15 => ?_) (fun h15 => ?_)
     ·have h15p := h15; try simp only [DL] at h15p
      all_goals (
        exact absurd h15 (by simp))
     ·have h15p := h15; try simp only [DL] at h15p
      refine g_skip ?_
      refine n_then ?_
      refine gsr ?_
      refine ga S fun a S => ?_
      refine gnt ?_
      refine g_seq ?_
      refine gsr ?_
      refine ga S fun a S => ?_
      refine gnt ?_
      refine g_block ?_
      have SU := (((((S.nil.cons S 8 rfl).cons S 6 rfl).cons S 5 rfl).cons S 19 rfl).cons S 31 rfl).cons S 33 rfl
      refine loopW (X := Nat × GZ × GZ) SU (fun x => [(36, .int .i64 (x.1 : Int)), (35, .int .i64 (playW (pubS mine) ws (cs.take x.1)).2)]) (fun x w => x.1 ≤ cs.length ∧ HSat No w0 [GateA xb (playW (pubS mine) ws (cs.take (x.1))).1 x.2.1, GateA yb (playW (pubS yours) ws (cs.take (x.1))).1 x.2.2, Sl cv 1 encC cs, TabsA] w) (fun x => cs.length - x.1) (0, zx1, zy1) ((S.nil.cons S 35 rfl).cons S 36 rfl) (⟨Nat.zero_le _, by have h := H.take [GateA xb ((GSt.new 1 1000).sync 2 2 ws 0) zx1, GateA yb ((GSt.new 1 1000).sync 2 2 ws 0) zy1, Sl cv 1 encC cs, TabsA]; exact h⟩) (fun x a w S hW => ?_)
      simp only [List.cons_append, List.nil_append] at S
      obtain ⟨k, zx, zy⟩ := x
      obtain ⟨hk, H⟩ := hW
      dsimp only at S H hk
      have hA := playW_alike (k1 := pubS mine) (k2 := pubS yours) ⟨isD_listS _, isD_listS _⟩ ws k (cs.take k) (by rw [List.length_take]; omega) (fun c hc => hcs c (List.mem_of_mem_take hc))
      have hwx := play_ws (pubS mine) ws (cs.take k)
      have hwy := play_ws (pubS yours) ws (cs.take k)
      obtain ⟨px, hpx⟩ : ∃ p, p = playW (pubS mine) ws (cs.take k) := ⟨_, rfl⟩
      obtain ⟨py, hpy⟩ : ∃ p, p = playW (pubS yours) ws (cs.take k) := ⟨_, rfl⟩
      rw [← hpx] at S H hA hwx
      rw [← hpy] at H hA hwy
      have ha1 := hA.t
      have ha2 := hA.gnow
      have ha3 := hA.len
      have ha4 := hA.llen
      have ha5 := hA.since
      have ha6 := hA.now
      refine g_seq ?_
      refine gsr ?_
      refine gm S fun a S => ?_
      refine gm S fun a S => ?_
      refine gy rfl rfl rfl S (y_lens rfl Tryz.underlying24 S H rfl) fun a S => ?_
      refine gy rfl rfl rfl S (y_bin rfl S rfl rfl rfl) fun a S => ?_
      refine gnt ?_
      refine c_if S rfl (fun h16 => ?_) (fun h16 => ?_)
      ·have h16p := h16; try simp only [DL] at h16p
       have hkc : k < cs.length := by omega
       refine g_skip ?_
       refine n_then ?_
       have S := (((((((S.nil.cons S 8 rfl).cons S 6 rfl).cons S 5 rfl).cons S 19 rfl).cons S 31 rfl).cons S 33 rfl).cons S 35 rfl).cons S 36 rfl
       refine g_seq ?_
       refine g_block ?_
       refine gsr ?_
       refine gm S fun a S => ?_
       refine gm S fun a S => ?_
       refine gm S fun a S => ?_
       refine gy rfl rfl rfl S (y_iaddrn rfl Tryz.underlying24 Fsiz5 S H rfl rfl (by first | assumption | omega | (simp only [LL]; omega))) fun a S => ?_
       refine gy rfl rfl rfl S (y_loads _ rfl Fsca5 S H rfl (by first | assumption | omega | (simp only [LL]; omega)) rfl) fun a S => ?_
       obtain ⟨c, hc⟩ : ∃ c, c = cs[k] := ⟨_, rfl⟩
       have hcb : c < 256 := hc ▸ hcs _ (List.getElem_mem hkc)
       rw [← hc] at S
       refine gy rfl rfl rfl S (y_conv rfl Tryz.underlying5 Tryz.underlying3 S rfl (by omega)) fun a S => ?_
       refine gy rfl rfl rfl S (y_quon rfl S rfl rfl (by omega) (by omega) (by omega)) fun a S => ?_
       refine gy rfl rfl rfl S (y_add rfl S rfl rfl (by omega)) fun a S => ?_
       obtain ⟨t, ht⟩ : ∃ t, t = px.2 + ((c / 8 : Nat) : Int) := ⟨_, rfl⟩
       rw [show px.2 + (c : Int) / 8 = t by omega] at S
       refine ga S fun a S => ?_
       refine gnt ?_
       have S := (((((((S.nil.cons S 8 rfl).cons S 6 rfl).cons S 5 rfl).cons S 19 rfl).cons S 31 rfl).cons S 33 rfl).cons S 36 rfl).cons S 35 rfl
       refine gsr ?_
       refine gm S fun a S => ?_
       refine gm S fun a S => ?_
       refine gy rfl rfl rfl S (y_iaddrn rfl Tryz.underlying24 Fsiz5 S H rfl rfl (by first | assumption | omega | (simp only [LL]; omega))) fun a S => ?_
       refine gy rfl rfl rfl S (y_loads _ rfl Fsca5 S H rfl (by first | assumption | omega | (simp only [LL]; omega)) rfl) fun a S => ?_
       rw [← hc] at S
       refine gy rfl rfl rfl S (y_conv rfl Tryz.underlying5 Tryz.underlying3 S rfl (by omega)) fun a S => ?_
       refine gy rfl rfl rfl S (y_remn rfl S rfl rfl (by omega) (by omega)) fun a S => ?_
       refine gy rfl rfl rfl S (y_add rfl S rfl rfl (by omega)) fun a S => ?_
       refine ga S fun a S => ?_
       obtain ⟨sr, hsr⟩ : ∃ t, t = 10001 + ((c % 4 : Nat) : Int) := ⟨_, rfl⟩
       rw [show (10001 : Int) + (c : Int) % 4 = sr by omega] at S
       refine gnt ?_
       have S := ((((((((S.nil.cons S 8 rfl).cons S 6 rfl).cons S 5 rfl).cons S 19 rfl).cons S 31 rfl).cons S 33 rfl).cons S 36 rfl).cons S 35 rfl).cons S 37 rfl
       refine g_seq ?_
       refine gsr ?_
       refine gm S fun a S => ?_
       refine gm S fun a S => ?_
       refine gy rfl rfl rfl S (y_iaddrn rfl Tryz.underlying24 Fsiz5 S H rfl rfl (by first | assumption | omega | (simp only [LL]; omega))) fun a S => ?_
       refine gy rfl rfl rfl S (y_loads _ rfl Fsca5 S H rfl (by first | assumption | omega | (simp only [LL]; omega)) rfl) fun a S => ?_
       rw [← hc] at S
       refine gy rfl rfl rfl S (y_remn rfl S rfl rfl (by omega) (by omega)) fun a S => ?_
       refine gy rfl rfl rfl S (y_bin rfl S rfl rfl rfl) fun a S => ?_
       refine gnt ?_
       have S := (((((((((S.nil.cons S 8 rfl).cons S 6 rfl).cons S 5 rfl).cons S 19 rfl).cons S 31 rfl).cons S 33 rfl).cons S 36 rfl).cons S 35 rfl).cons S 37 rfl).cons S 237 rfl
       refine c_if S rfl (fun h17 => ?_) (fun h17 => ?_)
       ·have h17p := h17; try simp only [DL] at h17p
        have h5 : 5 ≤ c % 8 := by omega
        have ex := play_leave hkc hc hpx ht hsr h5
        have ey := play_leave (t := t) hkc hc hpy (by rw [← hA.now]; exact ht) hsr h5
        refine g_seq ?_
        refine gsr ?_
        refine gm S fun a S => ?_
        refine gm S fun a S => ?_
        refine gm S fun a S => ?_
        refine wl_of (op_call (wn rfl) rfl rfl S (co_func rfl Tryz.call14 S rfl) (leave_at sr t (H.front (GateA xb px.1 zx)) (by omega) (by omega) (by omega)) fun v w hc a S => ?_)
        obtain ⟨rfl, zx2, H⟩ := hc
        
        refine gm S fun a S => ?_
        refine gm S fun a S => ?_
        refine gm S fun a S => ?_
        refine wl_of (op_call (wn rfl) rfl rfl S (co_func rfl Tryz.call14 S rfl) (leave_at sr t (H.front (GateA yb py.1 zy)) (by omega) (by omega) (by omega)) fun v w hc a S => ?_)
        obtain ⟨rfl, zy2, H⟩ := hc
        
        refine gy rfl rfl rfl S (y_bin rfl S rfl rfl rfl) fun a S => ?_
        refine gnt ?_
        have S := (((((((((S.nil.cons S 8 rfl).cons S 6 rfl).cons S 5 rfl).cons S 19 rfl).cons S 31 rfl).cons S 33 rfl).cons S 36 rfl).cons S 35 rfl).cons S 37 rfl).cons S 246 rfl
        refine c_if S rfl (fun h18 => ?_) (fun h18 => ?_)
        ·have h18p := h18; try simp only [DL] at h18p
         all_goals (
           exact absurd h18 (by simp [hA.leaveR sr]))
        ·have h18p := h18; try simp only [DL] at h18p
         refine g_skip ?_
         refine n_then ?_
         refine g_exit ?_
         refine x_then (x_eq ?_)
         refine n_then ?_
         refine g_region ?_
         refine gm S fun a S => ?_
         refine gy rfl rfl rfl S (y_add rfl S rfl rfl (by omega)) fun a S => ?_
         refine ga S fun a S => ?_
         refine gnt ?_
         first
         | (rw [show t = (playW (pubS mine) ws (cs.take (k + 1))).2 by rw [ex]] at S
            exact ⟨(k + 1, zx2, zy2), (S.nil.cons S 35 rfl).cons S 36 rfl, (((((S.nil.cons S 8 rfl).cons S 6 rfl).cons S 5 rfl).cons S 19 rfl).cons S 31 rfl).cons S 33 rfl, ⟨by dsimp only; omega, by dsimp only; rw [ex, ey]; exact H.take [GateA xb (px.1.leave sr t) zx2, GateA yb (py.1.leave sr t) zy2, Sl cv 1 encC cs, TabsA]⟩, by dsimp only; omega⟩)
         | (rw [show t = (playW (pubS mine) ws (cs.take (k + 1))).2 by rw [ex]] at S
            exact ⟨(k + 1, zx2, zy2), (S.nil.cons S 35 rfl).cons S 36 rfl, (((((S.nil.cons S 8 rfl).cons S 6 rfl).cons S 5 rfl).cons S 19 rfl).cons S 31 rfl).cons S 33 rfl, ⟨by dsimp only; omega, by dsimp only; rw [ex, ey]; exact H.take [GateA xb (px.1.scan 2 2 sr (pubS mine) t) zx2, GateA yb (py.1.scan 2 2 sr (pubS yours) t) zy2, Sl cv 1 encC cs, TabsA]⟩, by dsimp only; omega⟩)
       ·have h17p := h17; try simp only [DL] at h17p
        have h5 : ¬ 5 ≤ c % 8 := by omega
        have ex := play_scan hkc hc hpx ht hsr h5
        have ey := play_scan (t := t) hkc hc hpy (by rw [← hA.now]; exact ht) hsr h5
        refine g_skip ?_
        refine n_then ?_
        refine gsr ?_
        refine gm S fun a S => ?_
        refine gm S fun a S => ?_
        refine gm S fun a S => ?_
        refine wl_of (op_call (wn rfl) rfl rfl S (co_func rfl Tryz.call16 S rfl) (public_spec mine _ H.tabs (by omega)) fun v w hc a S => ?_)
        obtain ⟨rfl, he⟩ := hc
        have H := H.ext he
        refine gy rfl rfl rfl S (y_buildf rfl Fbld53 S rfl (idx := [0, 3]) rfl (cs := [.int .i64 sr, .int .i64 0, .int .i64 0, .string (pubS mine), .slice none 0 0]) rfl) fun a S => ?_
        refine gm S fun a S => ?_
        refine wl_of (op_call (wn rfl) rfl rfl S (co_func rfl Tryz.call15 S rfl) (scan_at 2 2 sr 0 t (pubS mine) (by decide) (by decide) (H.front (GateA xb px.1 zx)) (titP sr mine (by omega)) (fun _ => ⟨by rw [hA.f1.1]; rfl, hA.f1.2.2.1, by rw [hwx]; exact hwok⟩) (by omega) (by omega) (by omega) (by omega)) fun v w hc a S => ?_)
        obtain ⟨rfl, zx2, H⟩ := hc
        
        refine gm S fun a S => ?_
        refine gy rfl rfl rfl S (y_extract rfl S rfl rfl) fun a S => ?_
        refine gy rfl rfl rfl S (y_extract rfl S rfl rfl) fun a S => ?_
        refine ga S fun a S => ?_
        refine ga S fun a S => ?_
        refine gnt ?_
        have S := ((((((((((S.nil.cons S 8 rfl).cons S 6 rfl).cons S 5 rfl).cons S 19 rfl).cons S 31 rfl).cons S 33 rfl).cons S 36 rfl).cons S 35 rfl).cons S 37 rfl).cons S 38 rfl).cons S 39 rfl
        refine gsr ?_
        refine gm S fun a S => ?_
        refine gm S fun a S => ?_
        refine gm S fun a S => ?_
        refine wl_of (op_call (wn rfl) rfl rfl S (co_func rfl Tryz.call16 S rfl) (public_spec yours _ H.tabs (by omega)) fun v w hc a S => ?_)
        obtain ⟨rfl, he⟩ := hc
        have H := H.ext he
        refine gy rfl rfl rfl S (y_buildf rfl Fbld53 S rfl (idx := [0, 3]) rfl (cs := [.int .i64 sr, .int .i64 0, .int .i64 0, .string (pubS yours), .slice none 0 0]) rfl) fun a S => ?_
        refine gm S fun a S => ?_
        refine wl_of (op_call (wn rfl) rfl rfl S (co_func rfl Tryz.call15 S rfl) (scan_at 2 2 sr 0 t (pubS yours) (by decide) (by decide) (H.front (GateA yb py.1 zy)) (titP sr yours (by omega)) (fun _ => ⟨by rw [hA.f1.2.1]; rfl, hA.f1.2.2.2, by rw [hwy]; exact hwok⟩) (by omega) (by omega) (by omega) (by omega)) fun v w hc a S => ?_)
        obtain ⟨rfl, zy2, H⟩ := hc
        
        refine gm S fun a S => ?_
        refine gy rfl rfl rfl S (y_extract rfl S rfl rfl) fun a S => ?_
        refine gy rfl rfl rfl S (y_extract rfl S rfl rfl) fun a S => ?_
        refine ga S fun a S => ?_
        refine ga S fun a S => ?_
        refine gnt ?_
        have S := (((((((((((S.nil.cons S 8 rfl).cons S 6 rfl).cons S 5 rfl).cons S 19 rfl).cons S 31 rfl).cons S 33 rfl).cons S 36 rfl).cons S 35 rfl).cons S 38 rfl).cons S 39 rfl).cons S 40 rfl).cons S 41 rfl
        refine gsr ?_
        refine gm S fun a S => ?_
        refine gm S fun a S => ?_
        refine gy rfl rfl rfl S (y_bin rfl S rfl rfl rfl) fun a S => ?_
        refine gm S fun a S => ?_
        refine wl_of (op_y (wg' 270 rfl rfl S rfl (by simp [hA.scanR 2 2 sr t]) rfl) rfl rfl S (y_move rfl S rfl) fun a S => ?_)
        refine wl_of (op_y (wg' 270 rfl rfl S rfl (by simp [hA.scanR 2 2 sr t]) rfl) rfl rfl S (y_move rfl S rfl) fun a S => ?_)
        refine wl_of (op_y (wg' 270 rfl rfl S rfl (by simp [hA.scanR 2 2 sr t]) rfl) rfl rfl S (y_bin rfl S rfl rfl rfl) fun a S => ?_)
        refine gy rfl rfl rfl S (y_or' rfl (by simp [hA.scanR 2 2 sr t]) S rfl rfl) fun a S => ?_
        refine gnt ?_
        have S := ((((((((S.nil.cons S 8 rfl).cons S 6 rfl).cons S 5 rfl).cons S 19 rfl).cons S 31 rfl).cons S 33 rfl).cons S 36 rfl).cons S 35 rfl).cons S 274 rfl
        refine c_if S rfl (fun h20 => ?_) (fun h20 => ?_)
        ·have h20p := h20; try simp only [DL] at h20p
         all_goals (
           exact absurd h20 (by simp [hA.scanR 2 2 sr t]))
        ·have h20p := h20; try simp only [DL] at h20p
         refine g_skip ?_
         refine n_block ?_
         refine n_then ?_
         refine g_region ?_
         refine gm S fun a S => ?_
         refine gy rfl rfl rfl S (y_add rfl S rfl rfl (by omega)) fun a S => ?_
         refine ga S fun a S => ?_
         refine gnt ?_
         first
         | (rw [show t = (playW (pubS mine) ws (cs.take (k + 1))).2 by rw [ex]] at S
            exact ⟨(k + 1, zx2, zy2), (S.nil.cons S 35 rfl).cons S 36 rfl, (((((S.nil.cons S 8 rfl).cons S 6 rfl).cons S 5 rfl).cons S 19 rfl).cons S 31 rfl).cons S 33 rfl, ⟨by dsimp only; omega, by dsimp only; rw [ex, ey]; exact H.take [GateA xb (px.1.leave sr t) zx2, GateA yb (py.1.leave sr t) zy2, Sl cv 1 encC cs, TabsA]⟩, by dsimp only; omega⟩)
         | (rw [show t = (playW (pubS mine) ws (cs.take (k + 1))).2 by rw [ex]] at S
            exact ⟨(k + 1, zx2, zy2), (S.nil.cons S 35 rfl).cons S 36 rfl, (((((S.nil.cons S 8 rfl).cons S 6 rfl).cons S 5 rfl).cons S 19 rfl).cons S 31 rfl).cons S 33 rfl, ⟨by dsimp only; omega, by dsimp only; rw [ex, ey]; exact H.take [GateA xb (px.1.scan 2 2 sr (pubS mine) t) zx2, GateA yb (py.1.scan 2 2 sr (pubS yours) t) zy2, Sl cv 1 encC cs, TabsA]⟩, by dsimp only; omega⟩)
      ·have h16p := h16; try simp only [DL] at h16p
       obtain rfl : k = cs.length := by omega
       refine g_exit ?_
       refine x_then (x_then (x_eq ?_))
       refine n_then ?_
       have S := ((S.nil.cons S 19 rfl).cons S 31 rfl).cons S 33 rfl
       refine gsr ?_
       refine gm S fun a S => ?_
       refine wl_of (op_call (wn rfl) rfl rfl S (co_func rfl Tryz.call17 S rfl) (log_at (H.front (GateA xb px.1 zx)) (by omega)) fun lg1 w hc a S => ?_)
       have H1 := hc
       have H := H.call1 H1 rfl
       refine ga S fun a S => ?_
       refine gnt ?_
       refine gsr ?_
       refine gm S fun a S => ?_
       refine wl_of (op_call (wn rfl) rfl rfl S (co_func rfl Tryz.call17 S rfl) (log_at (H.front (GateA yb py.1 zy)) (by omega)) fun lg2 w hc a S => ?_)
       have H1 := hc
       have H := H.call1 H1 rfl
       refine ga S fun a S => ?_
       refine gnt ?_
       have S := ((S.nil.cons S 19 rfl).cons S 42 rfl).cons S 43 rfl
       refine g_seq ?_
       refine gsr ?_
       refine ga S fun a S => ?_
       refine gnt ?_
       refine g_block ?_
       have SU := ((S.nil.cons S 19 rfl).cons S 42 rfl).cons S 43 rfl
       refine loopW (X := Nat) SU (fun q => [(44, .int .i64 (q : Int))]) (fun q w => q ≤ px.1.log.length ∧ HSat No w0 [OSl 58 lg1 6 encSV px.1.log, OSl 58 lg2 6 encSV py.1.log] w) (fun q => px.1.log.length - q) 0 (S.nil.cons S 44 rfl) (⟨Nat.zero_le _, H.take [OSl 58 lg1 6 encSV px.1.log, OSl 58 lg2 6 encSV py.1.log]⟩) (fun q a w S hW => ?_)
       simp only [List.cons_append, List.nil_append] at S
       obtain ⟨hq0, H⟩ := hW
       refine g_seq ?_
       refine gsr ?_
       refine gm S fun a S => ?_
       refine gm S fun a S => ?_
       refine gy rfl rfl rfl S (y_lens rfl Tryz.underlying54 S H rfl) fun a S => ?_
       refine gy rfl rfl rfl S (y_bin rfl S rfl rfl rfl) fun a S => ?_
       refine gnt ?_
       refine c_if S rfl (fun h21 => ?_) (fun h21 => ?_)
       ·have h21p := h21; try simp only [DL] at h21p
        have hq1 : q < px.1.log.length := by omega
        have hq2 : q < py.1.log.length := by omega
        have hD1 : isD px.1.log[q].owner = true := hA.logD _ (List.mem_append_left _ (List.getElem_mem hq1))
        have hD2 : isD py.1.log[q].owner = true := hA.logD _ (List.mem_append_right _ (List.getElem_mem hq2))
        refine g_skip ?_
        refine n_then ?_
        have S := (((S.nil.cons S 19 rfl).cons S 42 rfl).cons S 43 rfl).cons S 44 rfl
        refine g_seq ?_
        refine g_block ?_
        refine g_seq ?_
        refine gsr ?_
        refine gm S fun a S => ?_
        refine gm S fun a S => ?_
        refine gy rfl rfl rfl S (y_lens rfl Tryz.underlying54 S H rfl) fun a S => ?_
        refine gy rfl rfl rfl S (y_bin rfl S rfl rfl rfl) fun a S => ?_
        refine gm S fun a S => ?_
        refine wl_of (op_y (wg' 289 rfl rfl S rfl (decide_eq_false (by omega)) rfl) rfl rfl S (y_move rfl S rfl) fun a S => ?_)
        refine wl_of (op_y (wg' 289 rfl rfl S rfl (decide_eq_false (by omega)) rfl) rfl rfl S (y_move rfl S rfl) fun a S => ?_)
        refine wl_of (op_y (wg' 289 rfl rfl S rfl (decide_eq_false (by omega)) rfl) rfl rfl S (y_iaddrn rfl Tryz.underlying54 Fsiz58 S H rfl rfl (by first | assumption | omega | (simp only [LL]; omega))) fun a S => ?_)
        refine wl_of (op_y (wg' 289 rfl rfl S rfl (decide_eq_false (by omega)) rfl) rfl rfl S (y_faddr rfl Ffo58_5 S rfl) fun a S => ?_)
        refine wl_of (op_y (wg' 289 rfl rfl S rfl (decide_eq_false (by omega)) rfl) rfl rfl S (y_loadsf _ rfl Fsca9 S H rfl (by first | assumption | omega | (simp only [LL]; omega)) rfl) fun a S => ?_)
        refine wl_of (op_call (wg' 289 rfl rfl S rfl (decide_eq_false (by omega)) rfl) rfl rfl S (co_func rfl Tryz.call18 S rfl) (is_spec _ _ (by have := isD_size hD1; omega)) fun v w hc a S => ?_)
        obtain ⟨rfl, he⟩ := hc
        have H := H.ext he
        refine wl_of (op_y (wg' 289 rfl rfl S rfl (decide_eq_false (by omega)) rfl) rfl rfl S (y_not rfl S rfl) fun a S => ?_)
        refine gy rfl rfl rfl S (y_or' rfl (decide_eq_false (by omega)) S rfl rfl) fun a S => ?_
        refine gm S fun a S => ?_
        refine wl_of (op_y (wg' 298 rfl rfl S rfl (by rw [decide_eq_false (by omega), hD1]; rfl) rfl) rfl rfl S (y_move rfl S rfl) fun a S => ?_)
        refine wl_of (op_y (wg' 298 rfl rfl S rfl (by rw [decide_eq_false (by omega), hD1]; rfl) rfl) rfl rfl S (y_move rfl S rfl) fun a S => ?_)
        refine wl_of (op_y (wg' 298 rfl rfl S rfl (by rw [decide_eq_false (by omega), hD1]; rfl) rfl) rfl rfl S (y_iaddrn rfl Tryz.underlying54 Fsiz58 S H rfl rfl (by first | assumption | omega | (simp only [LL]; omega))) fun a S => ?_)
        refine wl_of (op_y (wg' 298 rfl rfl S rfl (by rw [decide_eq_false (by omega), hD1]; rfl) rfl) rfl rfl S (y_faddr rfl Ffo58_5 S rfl) fun a S => ?_)
        refine wl_of (op_y (wg' 298 rfl rfl S rfl (by rw [decide_eq_false (by omega), hD1]; rfl) rfl) rfl rfl S (y_loadsf _ rfl Fsca9 S H rfl (by first | assumption | omega | (simp only [LL]; omega)) rfl) fun a S => ?_)
        refine wl_of (op_call (wg' 298 rfl rfl S rfl (by rw [decide_eq_false (by omega), hD1]; rfl) rfl) rfl rfl S (co_func rfl Tryz.call18 S rfl) (is_spec _ _ (by have := isD_size hD2; omega)) fun v w hc a S => ?_)
        obtain ⟨rfl, he⟩ := hc
        have H := H.ext he
        refine wl_of (op_y (wg' 298 rfl rfl S rfl (by rw [decide_eq_false (by omega), hD1]; rfl) rfl) rfl rfl S (y_not rfl S rfl) fun a S => ?_)
        refine gy rfl rfl rfl S (y_or' rfl (by rw [decide_eq_false (by omega), hD1]; rfl) S rfl rfl) fun a S => ?_
        refine gnt ?_
        have S := ((((S.nil.cons S 19 rfl).cons S 42 rfl).cons S 43 rfl).cons S 44 rfl).cons S 306 rfl
        refine c_if S rfl (fun h24 => ?_) (fun h24 => ?_)
        ·have h24p := h24; try simp only [DL] at h24p
         all_goals (
           exact absurd h24 (by rw [decide_eq_false (by omega), hD1, hD2]; simp))
        ·have h24p := h24; try simp only [DL] at h24p
         refine g_skip ?_
         refine n_then ?_
         refine gsr ?_
         refine gm S fun a S => ?_
         refine gm S fun a S => ?_
         refine gy rfl rfl rfl S (y_iaddrn rfl Tryz.underlying54 Fsiz58 S H rfl rfl (by first | assumption | omega | (simp only [LL]; omega))) fun a S => ?_
         refine gy rfl rfl rfl S (y_loadsa _ rfl S H rfl (by exact Fagg58) (by first | assumption | omega | (simp only [LL]; omega))) fun a S => ?_
         refine wl_of (op_alloc (wn rfl) rfl rfl rfl S H Fzer58 fun b45 a w S H => ?_)
         refine wl_of (op_storea (wn rfl) rfl rfl S H rfl rfl rfl Fsiz58 rfl (cs' := [_, _, _, _, _, _]) rfl fun a w S H => ?_)
         refine gnt ?_
         have S := ((((S.nil.cons S 19 rfl).cons S 42 rfl).cons S 43 rfl).cons S 44 rfl).cons S 45 rfl
         refine gsr ?_
         refine gm S fun a S => ?_
         refine gm S fun a S => ?_
         refine gy rfl rfl rfl S (y_iaddrn rfl Tryz.underlying54 Fsiz58 S H rfl rfl (by first | assumption | omega | (simp only [LL]; omega))) fun a S => ?_
         refine gy rfl rfl rfl S (y_faddr rfl Ffo58_5 S rfl) fun a S => ?_
         refine gy rfl rfl rfl S (y_loadsf _ rfl Fsca9 S H rfl (by first | assumption | omega | (simp only [LL]; omega)) rfl) fun a S => ?_
         refine gy rfl rfl rfl S (y_faddrb rfl Ffo58_5 S rfl) fun a S => ?_
         refine wl_of (op_store (wn rfl) rfl rfl S H rfl rfl rfl Fsiz9 rfl fun a w S H => ?_)
         dsimp only [List.set, Nat.zero_add, Nat.reduceAdd] at H
         refine gnt ?_
         have S := ((((S.nil.cons S 19 rfl).cons S 42 rfl).cons S 43 rfl).cons S 44 rfl).cons S 45 rfl
         refine g_seq ?_
         refine region_st (loud := []) (tails := []) (free := []) [0, 1, 2, 3, 4, 5] [] Fmo (by kernel_rfl) (by kernel_rfl) rfl H ?_
         refine m_w rfl rfl (wn rfl) rfl rfl S (fun w H => y_load0 rfl S H rfl (by exact Fagg58)) fun a S => ?_
         refine m_w rfl rfl (wn rfl) rfl rfl S (fun w H => y_move rfl S rfl) fun a S => ?_
         refine m_w rfl rfl (wn rfl) rfl rfl S (fun w H => y_move rfl S rfl) fun a S => ?_
         refine m_w rfl rfl (wn rfl) rfl rfl S (fun w H => y_iaddrn rfl Tryz.underlying54 Fsiz58 S H rfl rfl (by first | assumption | omega | (simp only [LL]; omega))) fun a S => ?_
         refine m_loadsa _ rfl rfl (wn rfl) rfl rfl S rfl rfl (by exact Fagg58) (by first | assumption | omega | (simp only [LL]; omega)) fun a S => ?_
         refine m_w rfl rfl (wn rfl) rfl rfl S (fun w H => y_nea (svEq ({ py.1.log[q] with owner := px.1.log[q].owner } : SV) px.1.log[q]) rfl Feqg58 S rfl rfl) fun a S => ?_
         refine m_nil (fun w H => ?_)
         refine n_then ?_
         have S := ((((S.nil.cons S 19 rfl).cons S 42 rfl).cons S 43 rfl).cons S 44 rfl).cons S 322 rfl
         refine c_if S rfl (fun h25 => ?_) (fun h25 => ?_)
         ·have h25p := h25; try simp only [DL] at h25p
          all_goals (
            exact absurd h25 (by simp [log_at_eq hA.log hq1 hq2]))
         ·have h25p := h25; try simp only [DL] at h25p
          refine g_skip ?_
          refine n_block ?_
          refine n_then ?_
          refine g_region ?_
          refine gm S fun a S => ?_
          refine gy rfl rfl rfl S (y_add rfl S rfl rfl (by omega)) fun a S => ?_
          refine ga S fun a S => ?_
          refine gnt ?_
          exact ⟨q + 1, S.nil.cons S 44 rfl, ((S.nil.cons S 19 rfl).cons S 42 rfl).cons S 43 rfl, ⟨by omega, H.take [OSl 58 lg1 6 encSV px.1.log, OSl 58 lg2 6 encSV py.1.log]⟩, by omega⟩
       ·have h21p := h21; try simp only [DL] at h21p
        obtain rfl : q = px.1.log.length := by omega
        refine g_exit ?_
        refine x_then (x_then (x_eq ?_))
        refine n_then ?_
        have S := ((S.nil.cons S 19 rfl).cons S 42 rfl).cons S 43 rfl
        refine gsr ?_
        refine gm S fun a S => ?_
        refine gm S fun a S => ?_
        refine gz 324 rfl S rfl rfl rfl rfl rfl rfl (y_move rfl S rfl) fun a S => ?_
        refine gz 324 rfl S rfl rfl rfl rfl rfl rfl (y_lens rfl Tryz.underlying54 S H rfl) fun a S => ?_
        refine gz 324 rfl S rfl rfl rfl rfl rfl rfl (y_move rfl S rfl) fun a S => ?_
        refine gz 324 rfl S rfl rfl rfl rfl rfl rfl (y_lens rfl Tryz.underlying54 S H rfl) fun a S => ?_
        refine gz 324 rfl S rfl rfl rfl rfl rfl rfl (y_bin rfl S rfl rfl rfl) fun a S => ?_
        refine gy rfl rfl rfl S (y_and' rfl rfl S rfl rfl) fun a S => ?_
        refine ga S fun a S => ?_
        refine gnt ?_
        have S := S.nil.cons S 18 rfl
        refine g_ret ?_
        refine ret1 rfl S rfl ?_
        exact ⟨by simp [ha4], H.toExt⟩
end Go.Proofs.YtjdbggnhdeaflaaGreatDoor
end
section
namespace Go.Proofs.YtjdbggnhdeaflaaGreatDoor
open Go.ChangeShapes Go.WideShapes Go.ChangeAt Go.RowKit Go.Gw
set_option linter.unusedVariables false
set_option linter.unusedSimpArgs false
theorem ownLaw : ownKnob Tryz.prog.godebug = none := by kernel_rfl
theorem laidOut : laidOutB Tryz.prog = true := by kernel_rfl
theorem u8b {n : Int} (h : (Lit.int .u8 n).wf = true) : 0 ≤ n ∧ n ≤ 255 := by
  have h : IntKind.u8.min ≤ n ∧ n ≤ IntKind.u8.max := by simpa [Lit.wf] using h
  exact ⟨h.1, h.2⟩
theorem readsU : ReadsAs Tryz.prog 5 (fun n : Int => [.int .u8 n]) (fun n => (Lit.int .u8 n).wf = true) := readsInt Tryz.underlying5
theorem readsC (W : World) : ReadsAt Tryz.prog W 5 encC (fun c => c < 256) :=
  ReadsAt.mono readsU.at_ (fun n => n.toNat)
    (fun y h => by
      have h1 := u8b h
      show [Value.int .u8 y] = [Value.int .u8 (y.toNat : Int)]
      rw [Int.toNat_of_nonneg h1.1])
    (fun y h => by
      have h1 := u8b h
      omega)
theorem readsS (W : World) : ReadsAt Tryz.prog W 9 encS (fun _ => True) := fun h => by
  obtain ⟨s, h1, _, _⟩ := DataW.trod_string Tryz.underlying9 h
  exact ⟨s, h1, trivial⟩
theorem readsQ (W : World) : ReadsAt Tryz.prog W 4 encQ (fun _ => True) := fun h => by
  obtain ⟨b, h1, _⟩ := DataW.trod_bool Tryz.underlying4 h
  exact ⟨b, h1, trivial⟩
/-- a string that is handed in is within reach -/
theorem weigh {H : Type} {P : Program} {ts : List TypeId} {ds : List (DataW H)} {s : ByteArray} {t : TypeId} (i : Nat) (h : (DataW.weightsEach P ts ds).all (· ≤ reachBytes) = true) (h1 : ts[i]? = some t) (h2 : ds[i]? = some (.lit (.string s.data.toList))) : s.size ≤ 140737488351232 := by
  have h3 := List.all_eq_true.1 h s.data.toList.length (weightsEach_mem i h1 h2 _ (by simp [DataW.weights]))
  have h4 : s.data.toList.length ≤ reachBytes := of_decide_eq_true h3
  have h5 : s.size = s.data.toList.length := by rw [Array.length_toList]; rfl
  have h6 : reachBytes = 140737488351232 := rfl
  omega
/-- a table that stands somewhere on the list -/
theorem tab_of_vars {P : Program} {W : World} {name : String} {k : IntKind} {zs : List Int} {rest : List (String × DataW Unit)} {ps : List MemPlace} {g : Nat} {t e : TypeId} {n : Nat}
    (hg : P.globalNamed name = some g) (hty : (P.globals[g]?).map (·.type) = some t) (ht : P.underlying t = some (.array n e)) (he : P.underlying e = some (.int k)) (hce : P.cellsOf e = 1) (hct : P.cellsOf t = n)
    (h : DataW.LaidVars P W ((name, Go.Lib.tabData k zs) :: rest) ps) : Go.Lib.TabIs P W name k zs ∧ ∃ q, DataW.LaidVars P W rest q := by
  obtain ⟨g', t', cs, fuel, p, q, hg', ht', hvar, hd, hr, _⟩ := h
  obtain rfl := Option.some.inj (hg.symm.trans hg')
  obtain rfl := Option.some.inj (hty.symm.trans ht')
  refine ⟨?_, q, hr⟩
  unfold Go.Lib.TabIs
  rw [hvar, ← Go.Lib.cells_of_tab ht he hce hct hd]
theorem rest_of_vars {P : Program} {W : World} {x : String × DataW Unit} {rest : List (String × DataW Unit)} {ps : List MemPlace} (h : DataW.LaidVars P W (x :: rest) ps) : ∃ q, DataW.LaidVars P W rest q := by
  obtain ⟨n, d⟩ := x
  obtain ⟨_, _, _, _, _, q, _, _, _, _, hr, _⟩ := h
  exact ⟨q, hr⟩
/-- a table's block -/
theorem block_of_tab {P : Program} {W : World} {name : String} {k : IntKind} {zs : List Int} {g : Nat} (hg : P.globalNamed name = some g) (h : Go.Lib.TabIs P W name k zs) : ∃ T0 fz, W.heap[g]? = some (.cells (zs.map fun z => Value.int k z).toArray T0 fz) := by
  unfold Go.Lib.TabIs World.var? at h
  rw [hg] at h
  simp only [Option.bind_some] at h
  split at h
  · rename_i cs T0 fz hb
    exact ⟨T0, fz, by rw [hb, Option.some.inj h]⟩
  · cases h
def hexZ : List Int := [48, 49, 50, 51, 52, 53, 54, 55, 56, 57, 97, 98, 99, 100, 101, 102]
def dbI : List Int := dbZ.map fun n : Nat => (n : Int)
theorem pow_data : (Rows.laid_internal_strconv_uint64pow10 : DataW Unit) = Go.Lib.tabData .u64 Go.Lib.pow10Tab := by kernel_rfl
theorem hex_data : (Rows.laid_foyer_digest_hex : DataW Unit) = Go.Lib.tabData .u8 hexZ := by kernel_rfl
theorem db_data : (Rows.laid_math_bits_deBruijn64tab : DataW Unit) = Go.Lib.tabData .u8 dbI := by kernel_rfl
theorem hex_vals : (hexZ.map fun z => Value.int .u8 z).toArray = hexTab.toArray := rfl
theorem db_vals : (dbI.map fun z => Value.int .u8 z).toArray = dbV.toArray := by unfold dbI dbV; rw [List.map_map]; rfl
theorem tabs_of {W : World} (h : laidMetH Tryz.prog Rows.topGateLearnsRow.laid W) : Tabs W ∧ TabBs W := by
  rw [MakeChecks.laidMetH_plain _ _ _ (by kernel_rfl)] at h
  obtain ⟨ps, h, _, _⟩ := h
  change DataW.LaidVars Tryz.prog W [("math/bits.deBruijn32tab", Rows.laid_math_bits_deBruijn32tab), ("math/bits.deBruijn64tab", Rows.laid_math_bits_deBruijn64tab), ("internal/strconv.uint64pow10", Rows.laid_internal_strconv_uint64pow10), ("unicode/utf8.acceptRanges", Rows.laid_unicode_utf8_acceptRanges), ("strconv.ErrRange", Rows.laid_strconv_ErrRange), ("strconv.ErrSyntax", Rows.laid_strconv_ErrSyntax), ("foyer/digest.hex", Rows.laid_foyer_digest_hex), ("unicode/utf8.first", Rows.laid_unicode_utf8_first)] ps at h
  obtain ⟨_, h⟩ := rest_of_vars h
  rw [db_data] at h
  obtain ⟨h0, _, h⟩ := tab_of_vars (g := 8) (t := 205) (by kernel_rfl) (by kernel_rfl) Tryz.underlying205 Tryz.underlying5 (by kernel_rfl) (by kernel_rfl) h
  rw [pow_data] at h
  obtain ⟨h1, _, h⟩ := tab_of_vars (g := 1) (t := 186) (by kernel_rfl) (by kernel_rfl) Tryz.underlying186 Tryz.underlying70 (by kernel_rfl) (by kernel_rfl) h
  obtain ⟨_, h⟩ := rest_of_vars h
  obtain ⟨_, h⟩ := rest_of_vars h
  obtain ⟨_, h⟩ := rest_of_vars h
  rw [hex_data] at h
  obtain ⟨h2, _, _⟩ := tab_of_vars (g := 0) (t := 177) (by kernel_rfl) (by kernel_rfl) Tryz.underlying177 Tryz.underlying5 (by kernel_rfl) (by kernel_rfl) h
  have b0 := block_of_tab (show Tryz.prog.globalNamed "math/bits.deBruijn64tab" = some 8 by kernel_rfl) h0
  have b2 := block_of_tab (show Tryz.prog.globalNamed "foyer/digest.hex" = some 0 by kernel_rfl) h2
  rw [db_vals] at b0
  rw [hex_vals] at b2
  exact ⟨⟨b2, h1⟩, b0⟩
end Go.Proofs.YtjdbggnhdeaflaaGreatDoor
end
