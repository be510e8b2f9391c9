/- The walks. No condition. -/
import Derived.Test.YtngocpdmlijnfaaDoorChecked
import Derived.Test.YtngocpdmlijnfaaDoorGwStrApp
import Derived.Test.YtngocpdmlijnfaaDoorShelf
import Derived.Test.YtngocpdmlijnfaaDoorFacts
import Derived.Test.YtngocpdmlijnfaaDoorPlain
import Derived.Test.YtngocpdmlijnfaaDoorW2
namespace Go.Proofs.YtngocpdmlijnfaaDoor
open Go Go.Gw
set_option linter.unusedVariables false
set_option linter.unusedSimpArgs false
theorem info68 : ∃ j, Tryd.prog.info? 68 = some j ∧ j.size = 2 := by
  have h : (Tryd.prog.info? 68).map (·.size) = some 2 := by kernel_rfl
  obtain ⟨j, h1, h2⟩ := Option.map_eq_some_iff.1 h
  exact ⟨j, h1, h2⟩
theorem cvA (b : Nat) (p v : Value) (w : World) (h : w.heap[b]? = some (.cells [p, v].toArray 68 (0, 0))) : (convert 66 106 (.pointer (some ⟨b, 0, none⟩))).run Tryd.prog w = .ok (.pointer (some ⟨b, 0, none⟩)) w := by
  obtain ⟨j, h1, h2⟩ := info68
  exact Go.Lib.run_to_unsafe w ⟨b, 0, none⟩ Tryd.underlying66 Tryd.underlying106 h1 (by omega) (show w.shape? b = some (68, 2) by simp [World.shape?, h]) (show 0 < 2 by decide)
theorem cvB (b : Nat) (p v : Value) (w : World) (h : w.heap[b]? = some (.cells [p, v].toArray 68 (0, 0))) : (convert 106 66 (.pointer (some ⟨b, 0, none⟩))).run Tryd.prog w = .ok (.pointer (some ⟨b, 0, none⟩)) w := by
  obtain ⟨j, h1, h2⟩ := info68
  exact Go.Lib.run_from_unsafe w ⟨b, 0, none⟩ Tryd.underlying106 Tryd.underlying66 h1 (show w.shape? b = some (68, 2) by simp [World.shape?, h]) (by kernel_rfl)
theorem nesc (b : Nat) (w : World) : (callFunc 70 #[.pointer (some ⟨b, 0, none⟩)]).run Tryd.prog w = .ok (.value (.pointer (some ⟨b, 0, none⟩))) w := by kernel_rfl
/-- (*strings.Builder).copyCheck -/
theorem copy_spec {M : Nat → Prop} {u0 : World} {l : List Atom} (b : Nat) (p : Bool) (v : Value) (w0 : World) (h0 : HSat M u0 (Cel b 68 [.pointer (if p = true then some ⟨b, 0, none⟩ else none), v] :: l) w0) :
    Ret Tryd.prog 57 #[.pointer (some ⟨b, 0, none⟩)] w0 (fun u w => u = .tuple #[] ∧ HSat M u0 (Cel b 68 [.pointer (some ⟨b, 0, none⟩), v] :: l) w) := by
 refine ret_of_wp (nt := 20) Tryd.func57 rfl rfl rfl (fl := [(0, .pointer (some ⟨b, 0, none⟩))]) rfl (fun a S => ?_)
 have H := h0
 obtain ⟨j68, hj68, _⟩ := info68
 refine g_seq ?_
 cases p
 ·simp only [Bool.false_eq_true, if_false] at H
  refine g_region ?_
  refine gm S fun a S => ?_
  refine gy rfl rfl rfl S (y_nilCheck rfl S rfl) fun a S => ?_
  refine gy rfl rfl rfl S (y_faddrb rfl Ffo68_0 S rfl) fun a S => ?_
  refine gy rfl rfl rfl S (y_load rfl Fsca66 S H rfl rfl) fun a S => ?_
  refine gy rfl rfl rfl S (y_eqp rfl Tryd.underlying66 S rfl rfl) fun a S => ?_
  refine gnt ?_
  have S := (S.nil.cons S 0 rfl).cons S 6 rfl
  refine c_if S rfl (fun h1 => ?_) (fun h1 => ?_)
  ·have h1p := h1; try simp only [DL] at h1p
   refine g_region ?_
   refine gm S fun a S => ?_
   refine gm S fun a S => ?_
   refine gy rfl rfl rfl S ((y_convX rfl S rfl (cvA b _ _ _ (H.rd b)))) fun a S => ?_
   refine gy rfl rfl rfl S ((y_extern rfl S rfl (nesc _ _))) fun a S => ?_
   refine gy rfl rfl rfl S ((y_convX rfl S rfl (cvB b _ _ _ (H.rd b)))) fun a S => ?_
   refine gy rfl rfl rfl S (y_nilCheck rfl S rfl) fun a S => ?_
   refine gy rfl rfl rfl S (y_faddrb rfl Ffo68_0 S rfl) fun a S => ?_
   refine wl_of (op_store (wn rfl) rfl rfl S H rfl rfl rfl Fsiz66 rfl fun a w S H => ?_)
   dsimp only [List.set, Nat.zero_add, Nat.reduceAdd] at H
   refine gl_nil ?_
   refine ret0n rfl S ?_
   exact ⟨rfl, H⟩
  ·have h1p := h1; try simp only [DL] at h1p
   all_goals (
     exact absurd h1 (by simp))
 ·simp only [if_true] at H
  refine g_region ?_
  refine gm S fun a S => ?_
  refine gy rfl rfl rfl S (y_nilCheck rfl S rfl) fun a S => ?_
  refine gy rfl rfl rfl S (y_faddrb rfl Ffo68_0 S rfl) fun a S => ?_
  refine gy rfl rfl rfl S (y_load rfl Fsca66 S H rfl rfl) fun a S => ?_
  refine gy rfl rfl rfl S (y_eqp rfl Tryd.underlying66 S rfl rfl) fun a S => ?_
  refine gnt ?_
  have S := (S.nil.cons S 0 rfl).cons S 6 rfl
  refine c_if S rfl (fun h2 => ?_) (fun h2 => ?_)
  ·have h2p := h2; try simp only [DL] at h2p
   all_goals (
     exact absurd h2 (by simp))
  ·have h2p := h2; try simp only [DL] at h2p
   refine gsr ?_
   refine gm S fun a S => ?_
   refine gy rfl rfl rfl S (y_nilCheck rfl S rfl) fun a S => ?_
   refine gy rfl rfl rfl S (y_faddrb rfl Ffo68_0 S rfl) fun a S => ?_
   refine gy rfl rfl rfl S (y_load rfl Fsca66 S H rfl rfl) fun a S => ?_
   refine gm S fun a S => ?_
   refine gy rfl rfl rfl S ((y_neself rfl Tryd.underlying66 hj68 S rfl rfl)) fun a S => ?_
   refine gnt ?_
   have S := S.nil.cons S 19 rfl
   refine c_if S rfl (fun h3 => ?_) (fun h3 => ?_)
   ·have h3p := h3; try simp only [DL] at h3p
    all_goals (
      exact absurd h3 (by simp))
   ·have h3p := h3; try simp only [DL] at h3p
    refine g_skip ?_
    refine ret0n rfl S ?_
    exact ⟨rfl, H⟩
/-- (*strings.Builder).WriteString -/
theorem write_spec {M : Nat → Prop} {u0 : World} {l : List Atom} (b : Nat) (p : Bool) (v : Value) (xs : List UInt8) (t : ByteArray) (w0 : World) (h0 : HSat M u0 (Cel b 68 [.pointer (if p = true then some ⟨b, 0, none⟩ else none), v] :: OSl 5 v 1 encB xs :: l) w0) (hb : xs.length + t.size ≤ 140737488355328) (hne : t.size ≠ 0 ∨ v ≠ .slice none 0 0) :
    Ret Tryd.prog 42 #[.pointer (some ⟨b, 0, none⟩), .string t] w0 (fun u w => u = .tuple #[.int .i64 (t.size : Int), .nilIface] ∧ ∃ v', v' ≠ .slice none 0 0 ∧ HSat M u0 (Cel b 68 [.pointer (some ⟨b, 0, none⟩), v'] :: OSl 5 v' 1 encB (xs ++ t.data.toList) :: l) w) := by
 refine ret_of_wp (nt := 19) Tryd.func42 rfl rfl rfl (fl := [(0, .pointer (some ⟨b, 0, none⟩)), (1, .string t)]) rfl (fun a S => ?_)
 have H := h0
 refine gsr ?_
 refine ga S fun a S => ?_
 refine ga S fun a S => ?_
 refine gnt ?_
 refine gsr ?_
 refine gm S fun a S => ?_
 refine wl_of (op_call (wn rfl) rfl rfl S (co_func rfl Tryd.call57 S rfl) (copy_spec b p v _ H) fun v w hc a S => ?_)
 obtain ⟨rfl, H⟩ := hc
 
 refine gnt ?_
 refine gsr ?_
 refine gm S fun a S => ?_
 refine gm S fun a S => ?_
 refine gy rfl rfl rfl S (y_nilCheck rfl S rfl) fun a S => ?_
 refine gy rfl rfl rfl S (y_faddrb rfl Ffo68_1 S rfl) fun a S => ?_
 refine gy rfl rfl rfl S (y_load rfl Fsca64 S H rfl rfl) fun a S => ?_
 refine gm S fun a S => ?_
 refine wl_of (op_appendStr t (wn rfl) rfl rfl rfl Tryd.underlying64 Tryd.underlying9 Finf5 rfl S H rfl rfl hb hne fun u14 a w hn14 S H => ?_)
 refine gy rfl rfl rfl S (y_nilCheck rfl S rfl) fun a S => ?_
 refine gy rfl rfl rfl S (y_faddrb rfl Ffo68_1 S rfl) fun a S => ?_
 refine wl_of (op_store (wn rfl) rfl rfl S H rfl rfl (H.sl1 _) Fsiz64 rfl fun a w S H => ?_)
 dsimp only [List.set, Nat.zero_add, Nat.reduceAdd] at H
 refine gnt ?_
 have S := ((S.nil.cons S 1 rfl).cons S 4 rfl).cons S 5 rfl
 refine gsr ?_
 refine gm S fun a S => ?_
 refine gy rfl rfl rfl S (y_lenstr rfl Tryd.underlying9 S rfl) fun a S => ?_
 refine ga S fun a S => ?_
 refine ga S fun a S => ?_
 refine gnt ?_
 have S := (S.nil.cons S 4 rfl).cons S 5 rfl
 refine g_ret ?_
 refine ret2 rfl S rfl rfl ?_
 exact ⟨rfl, u14, hn14, H⟩
theorem ext_grow (w : World) (k : Nat) (os : Array Obj) : Ext w (Go.Sort.grow (w.drewN k) os) := by
  have e : (Go.Sort.grow (w.drewN k) os).heap = w.heap ++ os := rfl
  refine ⟨rfl, rfl, rfl, by rw [e]; simp, fun j hj _ => ?_, fun j hj ht => ?_⟩
  · rw [e, Array.getElem?_append_left hj]
  · rw [e, Array.getElem?_append_left hj]; exact ht
theorem itoa_spec (n : Int) (h0 : -9223372036854775808 ≤ n) (h1 : n ≤ 9223372036854775807) (w : World) (htab : Go.Lib.TabIs Tryd.prog w "internal/strconv.uint64pow10" .u64 Go.Lib.pow10Tab) : Ret Tryd.prog 37 #[.int .i64 n] w (fun u w' => u = .string ⟨(Go.Lib.itoa n).toArray⟩ ∧ Ext w w') :=
  Calls.mono (Tryd.strconv_Itoa n h0 h1 w htab) fun e w' ⟨he, k, os, hw⟩ => ⟨_, he, rfl, hw ▸ ext_grow w k os⟩
theorem string_spec (b : Nat) (p : Bool) (v : Value) (xs : List UInt8) (w0 w : World) (H : HSat No w0 [Cel b 68 [.pointer (if p = true then some ⟨b, 0, none⟩ else none), v], OSl 5 v 1 encB xs] w) : Ret Tryd.prog 43 #[.pointer (some ⟨b, 0, none⟩)] w (fun u w' => u = .string ⟨xs.toArray⟩ ∧ Ext w0 w') := by
  have hrow := (H.ok (OSl 5 v 1 encB xs) (by simp) : IsOSl w 5 v 1 encB xs)
  have hb := H.rd b (o := .cells [.pointer (if p = true then some ⟨b, 0, none⟩ else none), v].toArray 68 (0, 0))
  have hm1 : w0.heap.size ≤ b := (H.mine (Cel b 68 [.pointer (if p = true then some ⟨b, 0, none⟩ else none), v]) (by simp) rfl b rfl).resolve_left (fun h => h.elim)
  have hm2 : ∀ k, v.ownBlock = some k → w0.heap.size ≤ k := fun k hk => (H.mine (OSl 5 v 1 encB xs) (by simp) rfl k hk).resolve_left (fun h => h.elim)
  have hsep : v.ownBlock ≠ some b := fun e => by
    have := (List.pairwise_cons.1 H.sep).1 (OSl 5 v 1 encB xs) (by simp) (.inl rfl) b rfl
    exact this e
  have hbc : xs.flatMap encB = Go.Lib.byteCells xs := by unfold Go.Lib.byteCells; rw [List.map_eq_flatMap]; rfl
  have hown : w.ownsRow w0.heap.size 5 1 v (Go.Lib.byteCells xs).length (Go.Lib.byteCells xs) := by
    have hl : (Go.Lib.byteCells xs).length = xs.length := by unfold Go.Lib.byteCells; simp
    obtain ⟨r1, r2⟩ := hrow.row
    rw [hbc] at r1 r2
    refine ⟨by omega, ?_⟩
    rw [hl]
    rcases r2 with r2 | ⟨g, cap, cur, e, _, r3⟩
    · exact .inl r2
    · exact .inr ⟨g, cap, cur, e, hm2 g (by rw [e]; rfl), r3⟩
  have hB : Go.Lib.IsBuilder 68 5 w0.heap.size b (Go.Lib.byteCells xs) w := by
    cases p with
    | false => exact .inl ⟨hm1, v, hb, hown, hsep⟩
    | true => exact .inr ⟨hm1, v, hb, hown, hsep⟩
  refine Calls.mono (Tryd.Builder_String_any w0.heap.size b xs w hB H.fr.size) fun e w' ⟨he, hB⟩ => ⟨_, he, rfl, ?_⟩
  have hE := H.toExt
  exact ⟨hB.os.trans hE.os, hB.tape.trans hE.tape, hB.output.trans hE.output, Nat.le_trans hE.size hB.size, fun k hk _ => (hB.block k hk).trans (hE.block hk), fun k hk ht => by rw [hB.block k hk, hE.block hk]; exact ht⟩
end Go.Proofs.YtngocpdmlijnfaaDoor
