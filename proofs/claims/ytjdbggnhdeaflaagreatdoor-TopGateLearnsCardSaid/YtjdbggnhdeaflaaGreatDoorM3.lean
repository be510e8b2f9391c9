/- Parts of the proof, joined: the program logic, the plain theory, the walks, as they are named inside. No condition. -/
import Derived.Test.YtjdbggnhdeaflaaGreatDoorChecked
import Derived.Test.YtjdbggnhdeaflaaGreatDoorM2
import Derived.Shelf.Strings.SlTrimAscii
section
namespace Go.Proofs.YtjdbggnhdeaflaaGreatDoor
open Go Go.Gw
set_option linter.unusedVariables false
set_option linter.unusedSimpArgs false
theorem info68 : ∃ j, Tryz.prog.info? 117 = some j ∧ j.size = 2 := by
  have h : (Tryz.prog.info? 117).map (·.size) = some 2 := by kernel_rfl
  obtain ⟨j, h1, h2⟩ := Option.map_eq_some_iff.1 h
  exact ⟨j, h1, h2⟩
theorem cvA (b : Nat) (p v : Value) (w : World) (h : w.heap[b]? = some (.cells [p, v].toArray 117 (0, 0))) : (convert 115 172 (.pointer (some ⟨b, 0, none⟩))).run Tryz.prog w = .ok (.pointer (some ⟨b, 0, none⟩)) w := by
  obtain ⟨j, h1, h2⟩ := info68
  exact Go.Lib.run_to_unsafe w ⟨b, 0, none⟩ Tryz.underlying115 Tryz.underlying172 h1 (by omega) (show w.shape? b = some (117, 2) by simp [World.shape?, h]) (show 0 < 2 by decide)
theorem cvB (b : Nat) (p v : Value) (w : World) (h : w.heap[b]? = some (.cells [p, v].toArray 117 (0, 0))) : (convert 172 115 (.pointer (some ⟨b, 0, none⟩))).run Tryz.prog w = .ok (.pointer (some ⟨b, 0, none⟩)) w := by
  obtain ⟨j, h1, h2⟩ := info68
  exact Go.Lib.run_from_unsafe w ⟨b, 0, none⟩ Tryz.underlying172 Tryz.underlying115 h1 (show w.shape? b = some (117, 2) by simp [World.shape?, h]) (by kernel_rfl)
theorem nesc (b : Nat) (w : World) : (callFunc 117 #[.pointer (some ⟨b, 0, none⟩)]).run Tryz.prog w = .ok (.value (.pointer (some ⟨b, 0, none⟩))) w := by kernel_rfl
/-- (*strings.Builder).copyCheck -/
theorem copy_spec {M : Nat → Prop} {u0 : World} {l : List Atom} (b : Nat) (p : Bool) (v : Value) (w0 : World) (h0 : HSat M u0 (Cel b 117 [.pointer (if p = true then some ⟨b, 0, none⟩ else none), v] :: l) w0) :
    Ret Tryz.prog 93 #[.pointer (some ⟨b, 0, none⟩)] w0 (fun u w => u = .tuple #[] ∧ HSat M u0 (Cel b 117 [.pointer (some ⟨b, 0, none⟩), v] :: l) w) := by
 refine ret_of_wp (nt := 20) Tryz.func93 rfl rfl rfl (fl := [(0, .pointer (some ⟨b, 0, none⟩))]) rfl (fun a S => ?_)
 have H := h0
 obtain ⟨j68, hj68, _⟩ := info68
 refine g_seq ?_
 cases p
 ·simp only [Bool.false_eq_true, if_false] at H
  refine g_region ?_
  refine gm S fun a S => ?_
  refine gy rfl rfl rfl S (y_nilCheck rfl S rfl) fun a S => ?_
  refine gy rfl rfl rfl S (y_faddrb rfl Ffo117_0 S rfl) fun a S => ?_
  refine gy rfl rfl rfl S (y_load rfl Fsca115 S H rfl rfl) fun a S => ?_
  refine gy rfl rfl rfl S (y_eqp rfl Tryz.underlying115 S rfl rfl) fun a S => ?_
  refine gnt ?_
  have S := (S.nil.cons S 0 rfl).cons S 6 rfl
  refine c_if S rfl (fun h1 => ?_) (fun h1 => ?_)
  ·have h1p := h1; try simp only [DL] at h1p
   refine g_region ?_
   refine gm S fun a S => ?_
   refine gm S fun a S => ?_
   refine gy rfl rfl rfl S ((y_convX rfl S rfl (cvA b _ _ _ (H.rd b)))) fun a S => ?_
   refine gy rfl rfl rfl S ((y_extern rfl S rfl (nesc _ _))) fun a S => ?_
   refine gy rfl rfl rfl S ((y_convX rfl S rfl (cvB b _ _ _ (H.rd b)))) fun a S => ?_
   refine gy rfl rfl rfl S (y_nilCheck rfl S rfl) fun a S => ?_
   refine gy rfl rfl rfl S (y_faddrb rfl Ffo117_0 S rfl) fun a S => ?_
   refine wl_of (op_store (wn rfl) rfl rfl S H rfl rfl rfl Fsiz115 rfl fun a w S H => ?_)
   dsimp only [List.set, Nat.zero_add, Nat.reduceAdd] at H
   refine gl_nil ?_
   refine ret0n rfl S ?_
   exact ⟨rfl, H⟩
  ·have h1p := h1; try simp only [DL] at h1p
   all_goals (
     exact absurd h1 (by simp))
 ·simp only [if_true] at H
  refine g_region ?_
  refine gm S fun a S => ?_
  refine gy rfl rfl rfl S (y_nilCheck rfl S rfl) fun a S => ?_
  refine gy rfl rfl rfl S (y_faddrb rfl Ffo117_0 S rfl) fun a S => ?_
  refine gy rfl rfl rfl S (y_load rfl Fsca115 S H rfl rfl) fun a S => ?_
  refine gy rfl rfl rfl S (y_eqp rfl Tryz.underlying115 S rfl rfl) fun a S => ?_
  refine gnt ?_
  have S := (S.nil.cons S 0 rfl).cons S 6 rfl
  refine c_if S rfl (fun h2 => ?_) (fun h2 => ?_)
  ·have h2p := h2; try simp only [DL] at h2p
   all_goals (
     exact absurd h2 (by simp))
  ·have h2p := h2; try simp only [DL] at h2p
   refine gsr ?_
   refine gm S fun a S => ?_
   refine gy rfl rfl rfl S (y_nilCheck rfl S rfl) fun a S => ?_
   refine gy rfl rfl rfl S (y_faddrb rfl Ffo117_0 S rfl) fun a S => ?_
   refine gy rfl rfl rfl S (y_load rfl Fsca115 S H rfl rfl) fun a S => ?_
   refine gm S fun a S => ?_
   refine gy rfl rfl rfl S ((y_neself rfl Tryz.underlying115 hj68 S rfl rfl)) fun a S => ?_
   refine gnt ?_
   have S := S.nil.cons S 19 rfl
   refine c_if S rfl (fun h3 => ?_) (fun h3 => ?_)
   ·have h3p := h3; try simp only [DL] at h3p
    all_goals (
      exact absurd h3 (by simp))
   ·have h3p := h3; try simp only [DL] at h3p
    refine g_skip ?_
    refine ret0n rfl S ?_
    exact ⟨rfl, H⟩
/-- (*strings.Builder).WriteString -/
theorem write_spec {M : Nat → Prop} {u0 : World} {l : List Atom} (b : Nat) (p : Bool) (v : Value) (xs : List UInt8) (t : ByteArray) (w0 : World) (h0 : HSat M u0 (Cel b 117 [.pointer (if p = true then some ⟨b, 0, none⟩ else none), v] :: OSl 5 v 1 encB xs :: l) w0) (hb : xs.length + t.size ≤ 140737488355328) (hne : t.size ≠ 0 ∨ v ≠ .slice none 0 0) :
    Ret Tryz.prog 64 #[.pointer (some ⟨b, 0, none⟩), .string t] w0 (fun u w => u = .tuple #[.int .i64 (t.size : Int), .nilIface] ∧ ∃ v', v' ≠ .slice none 0 0 ∧ HSat M u0 (Cel b 117 [.pointer (some ⟨b, 0, none⟩), v'] :: OSl 5 v' 1 encB (xs ++ t.data.toList) :: l) w) := by
 refine ret_of_wp (nt := 19) Tryz.func64 rfl rfl rfl (fl := [(0, .pointer (some ⟨b, 0, none⟩)), (1, .string t)]) rfl (fun a S => ?_)
 have H := h0
 refine gsr ?_
 refine ga S fun a S => ?_
 refine ga S fun a S => ?_
 refine gnt ?_
 refine gsr ?_
 refine gm S fun a S => ?_
 refine wl_of (op_call (wn rfl) rfl rfl S (co_func rfl Tryz.call93 S rfl) (copy_spec b p v _ H) fun v w hc a S => ?_)
 obtain ⟨rfl, H⟩ := hc
 
 refine gnt ?_
 refine gsr ?_
 refine gm S fun a S => ?_
 refine gm S fun a S => ?_
 refine gy rfl rfl rfl S (y_nilCheck rfl S rfl) fun a S => ?_
 refine gy rfl rfl rfl S (y_faddrb rfl Ffo117_1 S rfl) fun a S => ?_
 refine gy rfl rfl rfl S (y_load rfl Fsca24 S H rfl rfl) fun a S => ?_
 refine gm S fun a S => ?_
 refine wl_of (op_appendStr t (wn rfl) rfl rfl rfl Tryz.underlying24 Tryz.underlying9 Finf5 rfl S H rfl rfl hb hne fun u14 a w hn14 S H => ?_)
 refine gy rfl rfl rfl S (y_nilCheck rfl S rfl) fun a S => ?_
 refine gy rfl rfl rfl S (y_faddrb rfl Ffo117_1 S rfl) fun a S => ?_
 refine wl_of (op_store (wn rfl) rfl rfl S H rfl rfl (H.sl1 _) Fsiz24 rfl fun a w S H => ?_)
 dsimp only [List.set, Nat.zero_add, Nat.reduceAdd] at H
 refine gnt ?_
 have S := ((S.nil.cons S 1 rfl).cons S 4 rfl).cons S 5 rfl
 refine gsr ?_
 refine gm S fun a S => ?_
 refine gy rfl rfl rfl S (y_lenstr rfl Tryz.underlying9 S rfl) fun a S => ?_
 refine ga S fun a S => ?_
 refine ga S fun a S => ?_
 refine gnt ?_
 have S := (S.nil.cons S 4 rfl).cons S 5 rfl
 refine g_ret ?_
 refine ret2 rfl S rfl rfl ?_
 exact ⟨rfl, u14, hn14, H⟩
theorem ext_grow (w : World) (k : Nat) (os : Array Obj) : Ext w (Go.Sort.grow (w.drewN k) os) := by
  have e : (Go.Sort.grow (w.drewN k) os).heap = w.heap ++ os := rfl
  refine ⟨rfl, rfl, rfl, by rw [e]; simp, fun j hj _ => ?_, fun j hj ht => ?_⟩
  · rw [e, Array.getElem?_append_left hj]
  · rw [e, Array.getElem?_append_left hj]; exact ht
theorem itoa_spec (n : Int) (h0 : -9223372036854775808 ≤ n) (h1 : n ≤ 9223372036854775807) (w : World) (htab : Go.Lib.TabIs Tryz.prog w "internal/strconv.uint64pow10" .u64 Go.Lib.pow10Tab) : Ret Tryz.prog 53 #[.int .i64 n] w (fun u w' => u = .string ⟨(Go.Lib.itoa n).toArray⟩ ∧ Ext w w') :=
  Calls.mono (Tryz.strconv_Itoa n h0 h1 w htab) fun e w' ⟨he, k, os, hw⟩ => ⟨_, he, rfl, hw ▸ ext_grow w k os⟩
theorem string_spec (b : Nat) (p : Bool) (v : Value) (xs : List UInt8) (w0 w : World) (H : HSat No w0 [Cel b 117 [.pointer (if p = true then some ⟨b, 0, none⟩ else none), v], OSl 5 v 1 encB xs] w) : Ret Tryz.prog 66 #[.pointer (some ⟨b, 0, none⟩)] w (fun u w' => u = .string ⟨xs.toArray⟩ ∧ Ext w0 w') := by
  have hrow := (H.ok (OSl 5 v 1 encB xs) (by simp) : IsOSl w 5 v 1 encB xs)
  have hb := H.rd b (o := .cells [.pointer (if p = true then some ⟨b, 0, none⟩ else none), v].toArray 117 (0, 0))
  have hm1 : w0.heap.size ≤ b := (H.mine (Cel b 117 [.pointer (if p = true then some ⟨b, 0, none⟩ else none), v]) (by simp) rfl b rfl).resolve_left (fun h => h.elim)
  have hm2 : ∀ k, v.ownBlock = some k → w0.heap.size ≤ k := fun k hk => (H.mine (OSl 5 v 1 encB xs) (by simp) rfl k hk).resolve_left (fun h => h.elim)
  have hsep : v.ownBlock ≠ some b := fun e => by
    have := (List.pairwise_cons.1 H.sep).1 (OSl 5 v 1 encB xs) (by simp) (.inl rfl) b rfl
    exact this e
  have hbc : xs.flatMap encB = Go.Lib.byteCells xs := by unfold Go.Lib.byteCells; rw [List.map_eq_flatMap]; rfl
  have hown : w.ownsRow w0.heap.size 5 1 v (Go.Lib.byteCells xs).length (Go.Lib.byteCells xs) := by
    have hl : (Go.Lib.byteCells xs).length = xs.length := by unfold Go.Lib.byteCells; simp
    obtain ⟨r1, r2⟩ := hrow.row
    rw [hbc] at r1 r2
    refine ⟨by omega, ?_⟩
    rw [hl]
    rcases r2 with r2 | ⟨g, cap, cur, e, _, r3⟩
    · exact .inl r2
    · exact .inr ⟨g, cap, cur, e, hm2 g (by rw [e]; rfl), r3⟩
  have hB : Go.Lib.IsBuilder 117 5 w0.heap.size b (Go.Lib.byteCells xs) w := by
    cases p with
    | false => exact .inl ⟨hm1, v, hb, hown, hsep⟩
    | true => exact .inr ⟨hm1, v, hb, hown, hsep⟩
  refine Calls.mono (Tryz.Builder_String_any w0.heap.size b xs w hB H.fr.size) fun e w' ⟨he, hB⟩ => ⟨_, he, rfl, ?_⟩
  have hE := H.toExt
  exact ⟨hB.os.trans hE.os, hB.tape.trans hE.tape, hB.output.trans hE.output, Nat.le_trans hE.size hB.size, fun k hk _ => (hB.block k hk).trans (hE.block hk), fun k hk ht => by rw [hB.block k hk, hE.block hk]; exact ht⟩
end Go.Proofs.YtjdbggnhdeaflaaGreatDoor
end
section
namespace Go.Proofs.YtjdbggnhdeaflaaGreatDoor
open Go Go.Gw
set_option linter.unusedVariables false
set_option linter.unusedSimpArgs false
theorem tab_ext {w w' : World} (he : Ext w w') (h : Go.Lib.TabIs Tryz.prog w "internal/strconv.uint64pow10" .u64 Go.Lib.pow10Tab) : Go.Lib.TabIs Tryz.prog w' "internal/strconv.uint64pow10" .u64 Go.Lib.pow10Tab := by
  have hn : Tryz.prog.globalNamed "internal/strconv.uint64pow10" = some 1 := by kernel_rfl
  unfold Go.Lib.TabIs World.var? at h ⊢
  rw [hn] at h ⊢
  simp only [Option.bind_some] at h ⊢
  have hlt : 1 < w.heap.size := by
    rcases Nat.lt_or_ge 1 w.heap.size with h2 | h2
    · exact h2
    · rw [Array.getElem?_eq_none h2] at h; cases h
  rw [he.block hlt]; exact h
set_option maxHeartbeats 1000000 in
/-- foyer/digest.List -/
theorem list_spec (va : Value) (xs : List ByteArray) (w0 : World) (T0 : TypeId) (fz : Nat × Nat) (hG : w0.heap[0]? = some (.cells hexTab.toArray T0 fz)) (htab : Go.Lib.TabIs Tryz.prog w0 "internal/strconv.uint64pow10" .u64 Go.Lib.pow10Tab) (ha : IsSl w0 va 1 encS xs) (hb : (joinL xs).length ≤ 140737488355328) :
    Ret Tryz.prog 43 #[va] w0 (fun u w => u = .string (listS xs) ∧ Ext w0 w) := by
 refine ret_of_wp (nt := 22) Tryz.func43 rfl rfl rfl (fl := [(0, va)]) rfl (fun a S => ?_)
 have H := HSat.start w0
 have H := H.ro0 (Sl va 1 encS xs) rfl (ha)
 have hlen := ha.len
 have hsz : (⟨(joinL xs).toArray⟩ : ByteArray).size ≤ 9223372036854775807 := by show (joinL xs).toArray.size ≤ _; rw [List.size_toArray]; omega
 have hG2 : ∀ {w : World}, Ext w0 w → w.heap[0]? = some (.cells hexTab.toArray T0 fz) := fun he => (he.block (Array.getElem?_eq_some_iff.1 hG).1).trans hG
 refine gsr ?_
 refine ga S fun a S => ?_
 refine gnt ?_
 refine gsr ?_
 refine wl_of (op_alloc (wn rfl) rfl rfl rfl S H Fzer117 fun b3 a w S H => ?_)
 refine gnt ?_
 refine g_seq ?_
 refine gsr ?_
 refine gm S fun a S => ?_
 refine gy rfl rfl rfl S (y_lens rfl Tryz.underlying22 S H rfl) fun a S => ?_
 refine gm S fun a S => ?_
 refine gnt ?_
 refine g_block ?_
 have SU := (((S.nil.cons S 2 rfl).cons S 3 rfl).cons S 6 rfl).cons S 7 rfl
 refine loopW (X := Nat × Value) SU (fun x => [(8, .int .i64 (x.1 : Int))]) (fun x w => x.1 ≤ xs.length ∧ HSat No w0 [Cel b3 117 [.pointer (if decide (0 < x.1) = true then some ⟨b3, 0, none⟩ else none), x.2], OSl 5 x.2 1 encB (joinL (xs.take x.1)), Sl va 1 encS xs] w) (fun x => xs.length - x.1) (0, .slice none 0 0) (S.nil.cons S 8 rfl) (⟨Nat.zero_le _, (H.nilO 5 1 encB).take [Cel b3 117 [.pointer none, .slice none 0 0], OSl 5 (.slice none 0 0) 1 encB [], Sl va 1 encS xs]⟩) (fun x a w S hW => ?_)
 simp only [List.cons_append, List.nil_append] at S
 obtain ⟨k, v⟩ := x
 obtain ⟨hk, H⟩ := hW
 dsimp only at S H hk
 refine gsr ?_
 refine gy rfl rfl rfl S (y_bin rfl S rfl rfl rfl) fun a S => ?_
 refine gnt ?_
 refine g_seq ?_
 refine c_if S rfl (fun h1 => ?_) (fun h1 => ?_)
 ·have h1p := h1; try simp only [DL] at h1p
  refine g_skip ?_
  refine n_then ?_
  refine g_seq ?_
  refine g_block ?_
  refine gsr ?_
  refine gy rfl rfl rfl S (y_iaddrn rfl Tryz.underlying22 Fsiz9 S H rfl rfl (by first | assumption | omega | (simp only [LL]; omega))) fun a S => ?_
  refine gy rfl rfl rfl S (y_loads _ rfl Fsca9 S H rfl (by first | assumption | omega | (simp only [LL]; omega)) rfl) fun a S => ?_
  refine ga S fun a S => ?_
  refine gnt ?_
  have hkl : k < xs.length := by have := h1p; omega
  have hle := joinL_le hkl
  have hpl := partL_len xs[k]
  have hit : (⟨(Go.Lib.itoa (xs[k].size : Int)).toArray⟩ : ByteArray).size = (Go.Lib.itoa (xs[k].size : Int)).length := by show (Go.Lib.itoa (xs[k].size : Int)).toArray.size = _; simp
  ·skip
   refine g_region ?_
   refine gm S fun a S => ?_
   refine gy rfl rfl rfl S (y_lenstr rfl Tryz.underlying9 S rfl) fun a S => ?_
   refine wl_of (op_call (wn rfl) rfl rfl S (co_func rfl Tryz.call53 S rfl) (itoa_spec (xs[k].size : Int) (by omega) (by omega) _ (tab_ext H.toExt htab)) fun v w hc a S => ?_)
   obtain ⟨rfl, he⟩ := hc
   have H := H.ext he
   refine gy rfl rfl rfl S (y_adds rfl S rfl rfl (by first | omega | (rw [ByteArray.size_append]; have h1 : (⟨#[58]⟩ : ByteArray).size = 1 := rfl; omega) | (have h1 : (⟨#[58]⟩ : ByteArray).size = 1 := rfl; omega))) fun a S => ?_
   refine gm S fun a S => ?_
   refine gy rfl rfl rfl S (y_adds rfl S rfl rfl (by first | omega | (rw [ByteArray.size_append]; have h1 : (⟨#[58]⟩ : ByteArray).size = 1 := rfl; omega) | (have h1 : (⟨#[58]⟩ : ByteArray).size = 1 := rfl; omega))) fun a S => ?_
   refine wl_of (op_call (wn rfl) rfl rfl S (co_func rfl Tryz.call64 S rfl) (write_spec b3 (decide (0 < k)) v (joinL (xs.take k)) ((⟨(Go.Lib.itoa (xs[k].size : Int)).toArray⟩ : ByteArray) ++ (⟨#[58]⟩ : ByteArray) ++ xs[k]) _ H (by rw [partL_size]; omega) (.inl (by rw [partL_size, partL_len]; omega))) fun v w hc a S => ?_)
   obtain ⟨rfl, v2, hn2, H⟩ := hc
   rw [partL_text, ← joinL_take hkl] at H
   refine gl_nil ?_
   refine n_block ?_
   refine n_then ?_
   have S := ((((S.nil.cons S 2 rfl).cons S 3 rfl).cons S 6 rfl).cons S 7 rfl).cons S 8 rfl
   refine g_region ?_
   refine gy rfl rfl rfl S (y_add rfl S rfl rfl (by first | omega | (rw [ByteArray.size_append]; have h1 : (⟨#[58]⟩ : ByteArray).size = 1 := rfl; omega) | (have h1 : (⟨#[58]⟩ : ByteArray).size = 1 := rfl; omega))) fun a S => ?_
   refine gm S fun a S => ?_
   refine gnt ?_
   exact ⟨(k + 1, v2), S.nil.cons S 8 rfl, (((S.nil.cons S 2 rfl).cons S 3 rfl).cons S 6 rfl).cons S 7 rfl, ⟨by dsimp only; omega, by dsimp only; rw [decide_eq_true (by omega : 0 < k + 1)]; exact H⟩, by dsimp only; omega⟩
 ·have h1p := h1; try simp only [DL] at h1p
  refine g_exit ?_
  refine x_then (x_then (x_eq ?_))
  refine n_then ?_
  have S := (S.nil.cons S 2 rfl).cons S 3 rfl
  refine g_seq ?_
  have hk2 : xs.take k = xs := List.take_of_length_le (by have := h1p; omega)
  rw [hk2] at H
  ·skip
   refine g_region ?_
   refine wl_of (op_call (wn rfl) rfl rfl S (co_func rfl Tryz.call66 S rfl) (string_spec b3 (decide (0 < k)) v (joinL xs) w0 _ (H.take [Cel b3 117 [.pointer (if decide (0 < k) = true then some ⟨b3, 0, none⟩ else none), v], OSl 5 v 1 encB (joinL xs)])) fun v w hc a S => ?_)
   obtain ⟨rfl, he⟩ := hc
   have H := (HSat.start w0).ext he
   refine wl_of (op_call (wn rfl) rfl rfl S (co_func rfl Tryz.call65 S rfl) (sum_spec ⟨(joinL xs).toArray⟩ _ T0 fz (hG2 H.toExt) hsz) fun v w hc a S => ?_)
   obtain ⟨rfl, he⟩ := hc
   have H := H.ext he
   refine ga S fun a S => ?_
   refine gnt ?_
   have S := S.nil.cons S 2 rfl
   refine g_ret ?_
   refine ret1 rfl S rfl ?_
   exact ⟨rfl, H.toExt⟩
end Go.Proofs.YtjdbggnhdeaflaaGreatDoor
end
section
namespace Go.Proofs.YtjdbggnhdeaflaaGreatDoor
open Go Go.Gw
set_option linter.unusedVariables false
set_option linter.unusedSimpArgs false
theorem ext_below {w w' : World} (h : Go.RowKit.Below w.heap.size w w') : Ext w w' := ⟨h.os, h.tape, h.output, h.size, fun k hk _ => h.block k hk, fun k hk ht => by rw [h.block k hk]; exact ht⟩
theorem trim_spec (s cs : ByteArray) (w : World) (hs : s.size ≤ 9223372036854775807) (hcs : cs.size < 4294967281) (ha : cs.data.toList.all (fun b => decide (b.toNat < 128)) = true) :
    Ret Tryz.prog 47 #[.string s, .string cs] w (fun u w' => u = .string ⟨(Go.Lib.trimS s.data.toList cs.data.toList).toArray⟩ ∧ Ext w w') :=
  Calls.mono (Any.strings_Trim_laid Tryz.lays160 (by kernel_rfl) s cs w hs hcs (ascii_of_all ha)) fun e w' ⟨he, hb⟩ => ⟨_, he, rfl, ext_below hb⟩
/-- the tables of digest and strconv stand -/
def Tabs (w : World) : Prop := (∃ T0 fz, w.heap[0]? = some (.cells hexTab.toArray T0 fz)) ∧ Go.Lib.TabIs Tryz.prog w "internal/strconv.uint64pow10" .u64 Go.Lib.pow10Tab
theorem tab_named : Tryz.prog.globalNamed "internal/strconv.uint64pow10" = some 1 := by kernel_rfl
def TabsA : Atom where
  own := false
  fp := fun b => b = 0 ∨ b = 1
  ok := Tabs
  loc := fun w w' h hok => by
    refine ⟨?_, ?_⟩
    · rw [h 0 (.inl rfl)]; exact hok.1
    · have h2 := hok.2
      unfold Go.Lib.TabIs World.var? at h2 ⊢
      rw [tab_named] at h2 ⊢
      simp only [Option.bind_some] at h2 ⊢
      rw [h 1 (.inr rfl)]; exact h2
  lt := fun w b hok hb => by
    rcases hb with rfl | rfl
    · obtain ⟨T0, fz, h⟩ := hok.1
      exact (Array.getElem?_eq_some_iff.1 h).1
    · have h2 := hok.2
      unfold Go.Lib.TabIs World.var? at h2
      rw [tab_named] at h2
      simp only [Option.bind_some] at h2
      rcases Nat.lt_or_ge 1 w.heap.size with h3 | h3
      · exact h3
      · rw [Array.getElem?_eq_none h3] at h2; cases h2
instance ROs.tabs (r : List Atom) [h : ROs r] : ROs (TabsA :: r) := ⟨by simpa [TabsA] using h.all⟩
theorem _root_.Go.Gw.HSat.tabs {M : Nat → Prop} {w0 w : World} {l : List Atom} (H : HSat M w0 l w) [h : HasAt l TabsA] : Tabs w := H.ok TabsA h.mem
theorem Tabs.ext {w w' : World} (e : Ext w w') (h : Tabs w) : Tabs w' := TabsA.loc w w' (fun b hb => e.block (TabsA.lt w b h hb)) h
theorem idx_spec (d : Nat) (h : d < 16) (w : World) : Ret Tryz.prog 116 #[.string ⟨#[48, 49, 50, 51, 52, 53, 54, 55, 56, 57, 97, 98, 99, 100, 101, 102]⟩, .int .u8 ((hexD d).toNat : Int)] w (fun u w' => u = .int .i64 (d : Int) ∧ Ext w w') :=
  Calls.mono (Tryz.strings_IndexByte _ _ _) fun e w' ⟨h1, h2⟩ => ⟨_, h1, congrArg (Value.int .i64) (idx_hexD d h), h2 ▸ Ext.refl _⟩
theorem sum_t (t : ByteArray) (w : World) (hT : Tabs w) (hs : t.size ≤ 9223372036854775807) : Ret Tryz.prog 65 #[.string t] w (fun u w' => u = .string (sumS t) ∧ Ext w w') := by
  obtain ⟨⟨T0, fz, hG⟩, _⟩ := hT
  exact sum_spec t w T0 fz hG hs
theorem chain_t (t : ByteArray) (n : Nat) (w : World) (hT : Tabs w) (hs : t.size ≤ 9223372036854775807) (hn : n ≤ 1000) : Ret Tryz.prog 68 #[.string t, .int .i64 (n : Int)] w (fun u w' => u = .string (chainS t n) ∧ Ext w w') := by
  obtain ⟨⟨T0, fz, hG⟩, _⟩ := hT
  exact chain_spec t n w T0 fz hG hs hn
theorem list_t (va : Value) (xs : List ByteArray) (w : World) (hT : Tabs w) (ha : IsSl w va 1 encS xs) (hb : (joinL xs).length ≤ 140737488355328) : Ret Tryz.prog 43 #[va] w (fun u w' => u = .string (listS xs) ∧ Ext w w') := by
  obtain ⟨⟨T0, fz, hG⟩, htab⟩ := hT
  exact list_spec va xs w T0 fz hG htab ha hb
theorem itoa_t (n : Int) (h0 : -9223372036854775808 ≤ n) (h1 : n ≤ 9223372036854775807) (w : World) (hT : Tabs w) : Ret Tryz.prog 53 #[.int .i64 n] w (fun u w' => u = .string (itoaS n) ∧ Ext w w') := itoa_spec n h0 h1 w hT.2
/-- foyer/digest.Is -/
theorem is_spec (t : ByteArray) (w0 : World) (hs : t.size ≤ 9223372036854775807) :
    Ret Tryz.prog 18 #[.string t] w0 (fun u w => u = .bool (isD t) ∧ Ext w0 w) := by
 refine ret_of_wp (nt := 11) Tryz.func18 rfl rfl rfl (fl := [(0, .string t)]) rfl (fun a S => ?_)
 have H := HSat.start w0
 refine gsr ?_
 refine ga S fun a S => ?_
 refine gnt ?_
 refine gsr ?_
 refine gm S fun a S => ?_
 refine gy rfl rfl rfl S (y_lenstr rfl Tryz.underlying9 S rfl) fun a S => ?_
 refine gy rfl rfl rfl S (y_bin rfl S rfl rfl rfl) fun a S => ?_
 refine gm S fun a S => ?_
 refine' wl_and 3 6 rfl S H rfl rfl rfl rfl rfl rfl rfl (fun _ S => (wn rfl)) (fun h1 kk => ?yh1) (fun a w S H => ?_)
 case yh1 =>
  have h1p := h1; try simp only [DL] at h1p
  refine gz 6 h1 S rfl rfl rfl rfl rfl rfl (y_move rfl S rfl) fun a S => ?_
  refine wl_of (op_call (wg' 6 rfl rfl S rfl h1 rfl) rfl rfl S (co_func rfl Tryz.call47 S rfl) (trim_spec t _ _ hs (by decide) (by decide)) fun v w hc a S => ?_)
  obtain ⟨rfl, he⟩ := hc
  have H := H.ext he
  refine gz 6 h1 S rfl rfl rfl rfl rfl rfl (y_eqs rfl Tryz.underlying9 S rfl rfl) fun a S => ?_
  refine gy rfl rfl rfl S (y_and' rfl h1 S rfl rfl) fun a S => ?_
  exact kk _ _ (S.join 4 10 rfl rfl) H
 refine ga S fun a S => ?_
 refine gnt ?_
 have S := S.nil.cons S 2 rfl
 refine g_ret ?_
 refine ret1 rfl S rfl ?_
 refine ⟨congrArg Value.bool ?_, H.toExt⟩
 rw [trim_nil]
 unfold isD
 have e : (((t.size : Int)) == 16) = decide (t.size = 16) := by rw [Bool.eq_iff_iff]; simp; omega
 rw [e]; rfl
set_option maxHeartbeats 1000000 in
/-- foyer/sign.digits -/
theorem digits_spec (m : ByteArray) (w0 : World) (hT : Tabs w0) (hs : m.size ≤ 9223372036854775807) :
    Ret Tryz.prog 92 #[.string m] w0 (fun u w => u = .agg (digV m).toArray ∧ Ext w0 w) := by
 refine ret_of_wp (nt := 36) Tryz.func92 rfl rfl rfl (fl := [(0, .string m)]) rfl (fun a S => ?_)
 have H := HSat.start w0
 have H := H.ro0 (TabsA) rfl (hT)
 have hlen := sumS_len m
 refine gsr ?_
 refine wl_of (op_alloc (wn rfl) rfl rfl rfl S H Fzer146 fun b2 a w S H => ?_)
 refine gnt ?_
 refine gsr ?_
 refine wl_of (op_alloc (wn rfl) rfl rfl rfl S H Fzer146 fun b3 a w S H => ?_)
 refine gnt ?_
 refine gsr ?_
 refine ga S fun a S => ?_
 refine gnt ?_
 refine g_seq ?_
 refine gsr ?_
 refine gm S fun a S => ?_
 refine wl_of (op_call (wn rfl) rfl rfl S (co_func rfl Tryz.call65 S rfl) (sum_t _ _ H.tabs (by first | assumption | omega)) fun v w hc a S => ?_)
 obtain ⟨rfl, he⟩ := hc
 have H := H.ext he
 refine wl_of (op_strBytes (wn rfl) rfl rfl rfl Tryz.underlying9 Tryz.underlying24 Tryz.underlying5 S H rfl (by rw [sumS_size]; decide) fun v9 a w S H => ?_)
 refine gy rfl rfl rfl S (y_lens rfl Tryz.underlying24 S H rfl) fun a S => ?_
 refine gm S fun a S => ?_
 refine gnt ?_
 refine g_block ?_
 have H : HSat No w0 [Sl v9 1 encB (sumS m).data.toList, Cel b3 146 (digC (sumN m.data.toList) 0), Cel b2 146 (digC 0 0), TabsA] w := H
 have SU := (((S.nil.cons S 2 rfl).cons S 3 rfl).cons S 9 rfl).cons S 10 rfl
 refine loopW (X := Nat) SU (fun k => [(11, .int .i64 (k : Int)), (4, .int .i64 (restL (sumN m.data.toList) k : Int))]) (fun k w => k ≤ 16 ∧ HSat No w0 [Cel b3 146 (digC (sumN m.data.toList) k), Cel b2 146 (digC 0 0), Sl v9 1 encB (sumS m).data.toList] w) (fun k => 16 - k) 0 ((S.nil.cons S 4 rfl).cons S 11 rfl) (⟨by omega, H.take [Cel b3 146 (digC (sumN m.data.toList) 0), Cel b2 146 (digC 0 0), Sl v9 1 encB (sumS m).data.toList]⟩) (fun k a w S hW => ?_)
 simp only [List.cons_append, List.nil_append] at S
 obtain ⟨hk, H⟩ := hW
 have hrl := restL_le (sumN m.data.toList) k hk
 have hdl := digL_lt (sumN m.data.toList) k
 refine gsr ?_
 refine gy rfl rfl rfl S (y_bin rfl S rfl rfl rfl) fun a S => ?_
 refine gnt ?_
 refine g_seq ?_
 refine c_if S rfl (fun h1 => ?_) (fun h1 => ?_)
 ·have h1p := h1; try simp only [DL] at h1p
  have hk16 : k < 16 := by omega
  refine g_skip ?_
  refine n_then ?_
  refine g_seq ?_
  refine g_block ?_
  refine gsr ?_
  refine gm S fun a S => ?_
  refine gy rfl rfl rfl S (y_iaddrn rfl Tryz.underlying24 Fsiz5 S H rfl rfl (by first | assumption | omega | (simp only [LL]; omega))) fun a S => ?_
  refine gy rfl rfl rfl S ((y_loads v9 rfl Fsca5 S H rfl (by omega) rfl)) fun a S => ?_
  rw [sumS_at m k (by omega)] at S
  refine ga S fun a S => ?_
  refine ga S fun a S => ?_
  refine gnt ?_
  have S := (((((((S.nil.cons S 2 rfl).cons S 3 rfl).cons S 9 rfl).cons S 10 rfl).cons S 4 rfl).cons S 11 rfl).cons S 5 rfl).cons S 6 rfl
  refine gsr ?_
  refine gm S fun a S => ?_
  refine gy rfl rfl rfl S (y_bin rfl S rfl rfl rfl) fun a S => ?_
  refine gnt ?_
  refine c_if S rfl (fun h2 => ?_) (fun h2 => ?_)
  ·have h2p := h2; try simp only [DL] at h2p
   refine gsr ?_
   refine gm S fun a S => ?_
   refine gm S fun a S => ?_
   refine wl_of (op_call (wn rfl) rfl rfl S (co_func rfl Tryz.call116 S rfl) (idx_spec _ (digL_lt _ _) _) fun v w hc a S => ?_)
   obtain ⟨rfl, he⟩ := hc
   have H := H.ext he
   refine gy rfl rfl rfl S (y_iaddra rfl Tryz.underlying146 Fsiz3 S rfl rfl (by omega)) fun a S => ?_
   refine wl_of (op_store (wn rfl) rfl rfl S H rfl rfl rfl Fsiz3 (by rw [digC_len]; simp; omega) fun a w S H => ?_)
   simp only [Int.toNat_natCast, Nat.zero_add, Nat.mul_one] at H
   rw [digC_set (sumN m.data.toList) k hk16] at H
   refine gnt ?_
   have S := ((((((S.nil.cons S 2 rfl).cons S 3 rfl).cons S 9 rfl).cons S 10 rfl).cons S 4 rfl).cons S 11 rfl).cons S 5 rfl
   refine g_region ?_
   refine gm S fun a S => ?_
   refine gm S fun a S => ?_
   refine gy rfl rfl rfl S (y_iaddra rfl Tryz.underlying146 Fsiz3 S rfl rfl (by omega)) fun a S => ?_
   refine gy rfl rfl rfl S ((y_load (v := .int .i64 ((digL (sumN m.data.toList)).getD k 0 : Int)) rfl Fsca3 S H rfl (by have h := digC_get (sumN m.data.toList) k hk16; simpa only [Int.toNat_natCast, Nat.zero_add, Nat.mul_one] using h))) fun a S => ?_
   refine gy rfl rfl rfl S (y_sub rfl S rfl rfl (by omega)) fun a S => ?_
   refine gy rfl rfl rfl S (y_add rfl S rfl rfl (by omega)) fun a S => ?_
   rw [show ((restL (sumN m.data.toList) k : Int) + (15 - ((digL (sumN m.data.toList)).getD k 0 : Int))) = ((restL (sumN m.data.toList) (k + 1) : Nat) : Int) from by rw [restL_s _ _ hk16]; omega] at S
   refine ga S fun a S => ?_
   refine gl_nil ?_
   refine n_block ?_
   refine n_then ?_
   have S := (((((S.nil.cons S 2 rfl).cons S 3 rfl).cons S 9 rfl).cons S 10 rfl).cons S 11 rfl).cons S 4 rfl
   refine g_region ?_
   refine gy rfl rfl rfl S (y_add rfl S rfl rfl (by omega)) fun a S => ?_
   refine gm S fun a S => ?_
   refine gnt ?_
   exact ⟨k + 1, (S.nil.cons S 4 rfl).cons S 11 rfl, (by have S := S; exact (((S.nil.cons S 2 rfl).cons S 3 rfl).cons S 9 rfl).cons S 10 rfl), ⟨by omega, H⟩, by omega⟩
  ·have h2p := h2; try simp only [DL] at h2p
   all_goals (
     exfalso; omega)
 ·have h1p := h1; try simp only [DL] at h1p
  obtain rfl : k = 16 := by omega
  refine g_exit ?_
  refine x_then (x_then (x_eq ?_))
  refine n_then ?_
  have S := ((S.nil.cons S 2 rfl).cons S 3 rfl).cons S 4 rfl
  refine gsr ?_
  refine gm S fun a S => ?_
  refine gy rfl rfl rfl S (y_quon rfl S rfl rfl (by omega) (by omega) (by omega)) fun a S => ?_
  refine gm S fun a S => ?_
  refine gy rfl rfl rfl S (y_remn rfl S rfl rfl (by omega) (by omega)) fun a S => ?_
  refine gy rfl rfl rfl S (y_iaddra rfl Tryz.underlying146 Fsiz3 S rfl rfl (by omega)) fun a S => ?_
  refine wl_of (op_store (wn rfl) rfl rfl S H rfl rfl rfl Fsiz3 (by rw [digC_len]; rfl) fun a w S H => ?_)
  refine gy rfl rfl rfl S (y_iaddra rfl Tryz.underlying146 Fsiz3 S rfl rfl (by omega)) fun a S => ?_
  refine wl_of (op_store (wn rfl) rfl rfl S H rfl rfl rfl Fsiz3 (by rw [List.length_set, digC_len]; rfl) fun a w S H => ?_)
  have e : ((digC (sumN m.data.toList) 16).set 16 (.int .i64 ((restL (sumN m.data.toList) 16 : Int) / 16))).set 17 (.int .i64 ((restL (sumN m.data.toList) 16 : Int) % 16)) = digV m := digV_fin m (sumN m.data.toList) (restL (sumN m.data.toList) 16 / 16) (restL (sumN m.data.toList) 16 % 16) rfl rfl rfl
  change HSat _ _ (Cel b3 146 (((digC (sumN m.data.toList) 16).set 16 (.int .i64 ((restL (sumN m.data.toList) 16 : Int) / 16))).set 17 (.int .i64 ((restL (sumN m.data.toList) 16 : Int) % 16))) :: _) w at H
  rw [e] at H
  refine gnt ?_
  have S := (S.nil.cons S 2 rfl).cons S 3 rfl
  refine gsr ?_
  refine gy rfl rfl rfl S ((y_load0 rfl S H rfl (by rw [digV_len]; exact Fagg146))) fun a S => ?_
  refine wl_of (op_storea (wn rfl) rfl rfl S H rfl rfl (digV_one m) (by rw [digV_len]; exact Fsiz146) (by rw [digV_len]; rfl) (cs' := digV m) (by simp [digV_len, digC_len]) fun a w S H => ?_)
  refine gnt ?_
  refine g_ret ?_
  refine retc rfl S H rfl (by exact Fagg146) ?_
  exact ⟨rfl, H.toExt⟩
end Go.Proofs.YtjdbggnhdeaflaaGreatDoor
end
section
namespace Go.Proofs.YtjdbggnhdeaflaaGreatDoor
open Go Go.Gw
set_option linter.unusedVariables false
set_option linter.unusedSimpArgs false
set_option maxHeartbeats 1000000 in
/-- foyer/sign.Verify -/
theorem verify_spec (pub m : ByteArray) (v : Value) (xs : List ByteArray) (w0 : World) (hT : Tabs w0) (hm : m.size ≤ 1000000) (hx : ∀ x ∈ xs, x.size ≤ 1000) (hv : IsSl w0 v 1 encS xs) :
    Ret Tryz.prog 61 #[.string pub, .string m, v] w0 (fun u w => u = .bool (verB pub m xs) ∧ Ext w0 w) := by
 refine ret_of_wp (nt := 40) Tryz.func61 rfl rfl rfl (fl := [(0, .string pub), (1, .string m), (2, v)]) rfl (fun a S => ?_)
 have H := HSat.start w0
 have H := H.ro0 (TabsA) rfl (hT)
 have H := H.ro0 (Sl v 1 encS xs) rfl (hv)
 have hlen := hv.len
 refine gsr ?_
 refine ga S fun a S => ?_
 refine gnt ?_
 refine g_seq ?_
 refine gsr ?_
 refine gm S fun a S => ?_
 refine gy rfl rfl rfl S (y_lens rfl Tryz.underlying22 S H rfl) fun a S => ?_
 refine gy rfl rfl rfl S (y_bin rfl S rfl rfl rfl) fun a S => ?_
 refine gnt ?_
 refine c_if S rfl (fun h1 => ?_) (fun h1 => ?_)
 ·have h1p := h1; try simp only [DL] at h1p
  have hno : xs.length ≠ 18 := by omega
  refine gsr ?_
  refine ga S fun a S => ?_
  refine gnt ?_
  have S := (((S.nil.cons S 2 rfl).cons S 1 rfl).cons S 0 rfl).cons S 6 rfl
  refine g_ret ?_
  refine r_then (ret1 rfl S rfl ?_)
  refine ⟨congrArg Value.bool ?_, H.toExt⟩
  unfold verB; rw [decide_eq_false hno]; rfl
 ·have h1p := h1; try simp only [DL] at h1p
  have h18 : xs.length = 18 := by omega
  refine g_skip ?_
  refine n_then ?_
  refine gsr ?_
  refine gm S fun a S => ?_
  refine wl_of (op_call (wn rfl) rfl rfl S (co_func rfl Tryz.call92 S rfl) (digits_spec _ _ H.tabs (by first | assumption | omega)) fun v w hc a S => ?_)
  obtain ⟨rfl, he⟩ := hc
  have H := H.ext he
  refine wl_of (op_alloc (wn rfl) rfl rfl rfl S H Fzer146 fun b7 a w S H => ?_)
  refine wl_of (op_storea (wn rfl) rfl rfl S H rfl rfl (digV_one m) (by rw [digV_len]; exact Fsiz146) (by rw [digV_len]; rfl) (cs' := digV m) (by simp [digV_len]) fun a w S H => ?_)
  refine gnt ?_
  have S := (((S.nil.cons S 2 rfl).cons S 0 rfl).cons S 6 rfl).cons S 7 rfl
  refine gsr ?_
  refine ga S fun a S => ?_
  refine gnt ?_
  refine g_seq ?_
  refine gsr ?_
  refine gm S fun a S => ?_
  refine gy rfl rfl rfl S (y_lens rfl Tryz.underlying22 S H rfl) fun a S => ?_
  refine gm S fun a S => ?_
  refine gnt ?_
  refine g_block ?_
  have SU := (((S.nil.cons S 0 rfl).cons S 7 rfl).cons S 16 rfl).cons S 17 rfl
  refine loopW (X := Nat × Value) SU (fun x => [(18, .int .i64 (x.1 : Int)), (8, x.2)]) (fun x w => x.1 ≤ 18 ∧ (∀ i (h : i < xs.length), i < x.1 → isD xs[i] = true) ∧ HSat No w0 [OSl 9 x.2 1 encS (endsK m xs x.1), Cel b7 146 (digV m), Sl v 1 encS xs, TabsA] w) (fun x => 18 - x.1) (0, .slice none 0 0) ((S.nil.cons S 8 rfl).cons S 18 rfl) (⟨by simp, fun i _ h => absurd h (by simp), by have h := (H.nilO 9 1 encS).take [OSl 9 (.slice none 0 0) 1 encS [], Cel b7 146 (digV m), Sl v 1 encS xs, TabsA]; exact h⟩) (fun x a w S hW => ?_)
  simp only [List.cons_append, List.nil_append] at S
  obtain ⟨k, u⟩ := x
  obtain ⟨hk, hok, H⟩ := hW
  dsimp only at S H hk hok
  refine gsr ?_
  refine gy rfl rfl rfl S (y_bin rfl S rfl rfl rfl) fun a S => ?_
  refine gnt ?_
  refine g_seq ?_
  refine c_if S rfl (fun h2 => ?_) (fun h2 => ?_)
  ·have h2p := h2; try simp only [DL] at h2p
   have hk18 : k < 18 := by omega
   have hkx : k < xs.length := by omega
   have hsk : xs[k].size ≤ 9223372036854775807 := by have := hx xs[k] (List.getElem_mem hkx); omega
   refine g_skip ?_
   refine n_then ?_
   refine g_seq ?_
   refine g_block ?_
   refine gsr ?_
   refine gm S fun a S => ?_
   refine gy rfl rfl rfl S (y_iaddrn rfl Tryz.underlying22 Fsiz9 S H rfl rfl (by first | assumption | omega | (simp only [LL]; omega))) fun a S => ?_
   refine gy rfl rfl rfl S (y_loads _ rfl Fsca9 S H rfl (by first | assumption | omega | (simp only [LL]; omega)) rfl) fun a S => ?_
   refine ga S fun a S => ?_
   refine ga S fun a S => ?_
   refine gnt ?_
   have S := (((((((S.nil.cons S 0 rfl).cons S 7 rfl).cons S 16 rfl).cons S 17 rfl).cons S 8 rfl).cons S 18 rfl).cons S 9 rfl).cons S 10 rfl
   refine g_seq ?_
   refine gsr ?_
   refine gm S fun a S => ?_
   refine wl_of (op_call (wn rfl) rfl rfl S (co_func rfl Tryz.call18 S rfl) (is_spec _ _ hsk) fun v w hc a S => ?_)
   obtain ⟨rfl, he⟩ := hc
   have H := H.ext he
   refine gy rfl rfl rfl S (y_not rfl S rfl) fun a S => ?_
   refine gnt ?_
   refine c_if S rfl (fun h3 => ?_) (fun h3 => ?_)
   ·have h3p := h3; try simp only [DL] at h3p
    refine gsr ?_
    refine ga S fun a S => ?_
    refine gnt ?_
    refine g_ret ?_
    refine r_then (r_block (r_then (r_then (r_block (r_then (ret1 rfl S rfl ?_))))))
    refine ⟨congrArg Value.bool ?_, H.toExt⟩
    have hno : xs.all isD = false := List.all_eq_false.2 ⟨xs[k], List.getElem_mem hkx, by simpa using h3⟩
    unfold verB; rw [hno, Bool.and_false]; rfl
   ·have h3p := h3; try simp only [DL] at h3p
    refine g_skip ?_
    refine n_then ?_
    refine g_region ?_
    refine gm S fun a S => ?_
    refine gm S fun a S => ?_
    refine gm S fun a S => ?_
    refine gy rfl rfl rfl S (y_iaddra rfl Tryz.underlying146 Fsiz3 S rfl rfl (by omega)) fun a S => ?_
    refine gy rfl rfl rfl S ((y_load (v := .int .i64 ((digs m).getD k 0 : Int)) rfl Fsca3 S H rfl (by have h := digV_get m k hk18; simpa only [Int.toNat_natCast, Nat.zero_add, Nat.mul_one] using h))) fun a S => ?_
    refine gy rfl rfl rfl S ((y_subn (m := 15 - (digs m).getD k 0) rfl S rfl rfl (by have := digs_le m k; omega) (by omega))) fun a S => ?_
    refine wl_of (op_call (wn rfl) rfl rfl S (co_func rfl Tryz.call68 S rfl) (chain_t _ (15 - (digs m).getD k 0) _ H.tabs hsk (by omega)) fun v w hc a S => ?_)
    obtain ⟨rfl, he⟩ := hc
    have H := H.ext he
    refine wl_of (op_buildSlice (wn rfl) rfl rfl rfl Tryz.underlying22 Finf9 S H (idx := [0]) rfl rfl rfl (z := [.string ⟨#[]⟩]) (by kernel_rfl) (cs := [_]) rfl fun b33 a w S H => ?_)
    refine wl_of (op_append ([chainS xs[k] (15 - (digs m).getD k 0)]) (wn rfl) rfl rfl rfl Tryz.underlying22 Finf9 rfl rfl S H rfl rfl rfl rfl (by simp) (by simp [encS]) (by simp [encS, Value.oneCell']) (by simp only [List.length_cons, List.length_nil, endsK_len]; omega) (by simp only [List.length_cons, List.length_nil, endsK_len]; omega) fun u34 a w hn34 S H => ?_)
    refine ga S fun a S => ?_
    refine gl_nil ?_
    refine n_block ?_
    refine n_then ?_
    have S := (((((S.nil.cons S 0 rfl).cons S 7 rfl).cons S 16 rfl).cons S 17 rfl).cons S 18 rfl).cons S 8 rfl
    refine g_region ?_
    refine gy rfl rfl rfl S (y_add rfl S rfl rfl (by omega)) fun a S => ?_
    refine gm S fun a S => ?_
    refine gnt ?_
    rw [endsK_s m xs k hkx] at H
    exact ⟨(k + 1, u34), (S.nil.cons S 8 rfl).cons S 18 rfl, (((S.nil.cons S 0 rfl).cons S 7 rfl).cons S 16 rfl).cons S 17 rfl, ⟨by dsimp only; omega, fun i hi hik => by (by_cases hjk : i < k; exact hok i hi hjk; (obtain rfl : i = k := by dsimp only at hik; omega); simpa using h3), H.take [OSl 9 u34 1 encS (endsK m xs (k + 1)), Cel b7 146 (digV m), Sl v 1 encS xs, TabsA]⟩, by dsimp only; omega⟩
  ·have h2p := h2; try simp only [DL] at h2p
   obtain rfl : k = 18 := by omega
   have hall : xs.all isD = true := List.all_eq_true.2 fun x hx => by obtain ⟨i, hi, rfl⟩ := List.getElem_of_mem hx; exact hok i hi (by omega)
   have hjl := list_ok (xs := endsK m xs 18) (fun x hx => by have := endsK_size (m := m) (by omega) hok x hx; omega) (by rw [endsK_len]; decide)
   refine g_exit ?_
   refine x_then (x_then (x_eq ?_))
   refine n_then ?_
   have S := (S.nil.cons S 0 rfl).cons S 8 rfl
   refine gsr ?_
   refine gm S fun a S => ?_
   refine wl_of (op_call (wn rfl) rfl rfl S (co_func rfl Tryz.call43 S rfl) (list_t u (endsK m xs 18) _ H.tabs (H.sl u) hjl) fun v w hc a S => ?_)
   obtain ⟨rfl, he⟩ := hc
   have H := H.ext he
   refine gm S fun a S => ?_
   refine gy rfl rfl rfl S (y_eqs rfl Tryz.underlying9 S rfl rfl) fun a S => ?_
   refine ga S fun a S => ?_
   refine gnt ?_
   have S := S.nil.cons S 6 rfl
   refine g_ret ?_
   refine ret1 rfl S rfl ?_
   refine ⟨congrArg Value.bool ?_, H.toExt⟩
   unfold verB; rw [hall, decide_eq_true h18]; rfl
/-- foyer/sign.starts -/
theorem starts_spec (s : ByteArray) (w0 : World) :
    Ret Tryz.prog 67 #[.string s] w0 (fun u w => ∃ b1, u = .func (.func 97) #[] #[.pointer (some ⟨b1, 0, none⟩)] ∧ HSat No w0 [Cel b1 9 [.string s]] w) := by
 refine ret_of_wp (nt := 4) Tryz.func67 rfl rfl rfl (fl := [(0, .string s)]) rfl (fun a S => ?_)
 have H := HSat.start w0
 refine gsr ?_
 refine wl_of (op_box1 (wn rfl) rfl rfl rfl S H rfl rfl fun b1 a w S H => ?_)
 refine ga S fun a S => ?_
 refine gnt ?_
 refine gsr ?_
 refine gy rfl rfl rfl S (y_makeFunc rfl S rfl rfl) fun a S => ?_
 refine ga S fun a S => ?_
 refine gnt ?_
 have S := S.nil.cons S 2 rfl
 refine g_ret ?_
 refine ret1 rfl S rfl ?_
 exact ⟨_, rfl, H⟩
/-- foyer/sign.starts$1 -/
theorem starts_iter {M : Nat → Prop} {u0 : World} {Z : Type} (L : Nat → Z → List Atom) (lb b1 : Nat) (s : ByteArray) (w0 : World) (hs : s.size ≤ 1000)
    (hround : ∀ k, k < 18 → ∀ z w, HSat M u0 (Atom.ro (Cel b1 9 [.string s]) :: TabsA :: L (k) z) w → YieldRet Tryz.prog lb #[.int .i64 (k : Int), .string (startS s k)] w (fun u w' => u = .bool true ∧ ∃ z, HSat M u0 (Atom.ro (Cel b1 9 [.string s]) :: TabsA :: L (k + 1) z) w')) (h0 : ∃ z, HSat M u0 (Atom.ro (Cel b1 9 [.string s]) :: TabsA :: L (0) z) w0) :
    Ret Tryz.prog 97 #[.func (.yield lb) #[] #[], .pointer (some ⟨b1, 0, none⟩)] w0 (fun u w => ∃ z, HSat M u0 (Atom.ro (Cel b1 9 [.string s]) :: TabsA :: L (18) z) w) := by
 refine ret_of_wp (nt := 17) Tryz.func97 rfl rfl rfl (fl := [(0, .func (.yield lb) #[] #[]), (1, .pointer (some ⟨b1, 0, none⟩))]) rfl (fun a S => ?_)
 obtain ⟨z0, H⟩ := h0
 refine gsr ?_
 refine gm S fun a S => ?_
 refine gnt ?_
 refine g_block ?_
 have SU := (S.nil.cons S 1 rfl).cons S 0 rfl
 refine loopW (X := Nat) SU (fun k => [(4, .int .i64 (k : Int))]) (fun k w => k ≤ 18 ∧ ∃ z, HSat M u0 (Atom.ro (Cel b1 9 [.string s]) :: TabsA :: L (k) z) w) (fun k => 18 - k) 0 (S.nil.cons S 4 rfl) (⟨by omega, z0, H⟩) (fun k a w S hW => ?_)
 simp only [List.cons_append, List.nil_append] at S
 obtain ⟨hk, z, H⟩ := hW
 refine gsr ?_
 refine gy rfl rfl rfl S (y_bin rfl S rfl rfl rfl) fun a S => ?_
 refine gnt ?_
 refine g_seq ?_
 refine c_if S rfl (fun h1 => ?_) (fun h1 => ?_)
 ·have h1p := h1; try simp only [DL] at h1p
  refine g_skip ?_
  refine n_then ?_
  refine g_seq ?_
  refine g_block ?_
  refine gsr ?_
  refine gm S fun a S => ?_
  refine ga S fun a S => ?_
  refine gnt ?_
  refine g_seq ?_
  refine region_st (loud := [5, 7]) (tails := [7]) (free := []) [0, 1, 2, 3, 4, 5, 6, 7, 8] [] Fmo (by kernel_rfl) (by kernel_rfl) rfl H ?_
  refine m_w rfl rfl (wn rfl) rfl rfl S (fun w H => y_move rfl S rfl) fun a S => ?_
  refine m_w rfl rfl (wn rfl) rfl rfl S (fun w H => y_move rfl S rfl) fun a S => ?_
  refine m_w rfl rfl (wn rfl) rfl rfl S (fun w H => y_load rfl Fsca9 S H rfl rfl) fun a S => ?_
  refine m_w rfl rfl (wn rfl) rfl rfl S (fun w H => y_move rfl S rfl) fun a S => ?_
  refine m_c rfl rfl (wn rfl) rfl rfl S (fun w => co_func rfl Tryz.call53 S rfl) (fun w H => itoa_t (k : Int) (by omega) (by omega) _ H.tabs) fun a S => ?_
  refine m_l rfl rfl (fun w H => op_buildSlice (wn rfl) rfl rfl rfl Tryz.underlying22 Finf9 S H (idx := [0, 1]) rfl rfl rfl (z := [.string ⟨#[]⟩, .string ⟨#[]⟩]) (by kernel_rfl) (cs := [.string s, .string (itoaS (k : Int))]) rfl fun b12 a w S H => m_next H (List.sublist_cons_self _ _) ?_)
  refine m_c rfl rfl (wn rfl) rfl rfl S (fun w => co_func rfl Tryz.call43 S rfl) (fun w H => list_t _ [s, itoaS (k : Int)] _ H.tabs (H.slb b12 _ encS 1 rfl rfl (by simp [encS]) (by decide)) (list_ok (by intro x hx; simp only [List.mem_cons, List.not_mem_nil, or_false] at hx; rcases hx with rfl | rfl; exact hs; have := itoaS_size (k : Int) (by omega) (by omega); omega) (by simp))) fun a S => ?_
  refine m_l rfl rfl (fun w H => op_yield (wn rfl) rfl rfl rfl S rfl rfl (hround k (by omega) z _ H.tail) fun u w hc a S => ?_)
  obtain ⟨rfl, z2, H⟩ := hc
  refine m_tail H rfl ?_
  refine m_w rfl rfl (wn rfl) rfl rfl S (fun w H => y_not rfl S rfl) fun a S => ?_
  refine m_nil (fun w H => ?_)
  refine n_then ?_
  have S := (((S.nil.cons S 1 rfl).cons S 0 rfl).cons S 4 rfl).cons S 15 rfl
  refine c_if S rfl (fun h2 => ?_) (fun h2 => ?_)
  ·have h2p := h2; try simp only [DL] at h2p
   all_goals (
     exact absurd h2 (by simp))
  ·have h2p := h2; try simp only [DL] at h2p
   refine g_skip ?_
   refine n_block ?_
   refine n_then ?_
   refine g_region ?_
   refine gy rfl rfl rfl S (y_add rfl S rfl rfl (by omega)) fun a S => ?_
   refine gm S fun a S => ?_
   refine gnt ?_
   exact ⟨k + 1, S.nil.cons S 4 rfl, (S.nil.cons S 1 rfl).cons S 0 rfl, ⟨by omega, z2, H⟩, by omega⟩
 ·have h1p := h1; try simp only [DL] at h1p
  obtain rfl : k = 18 := by omega
  refine g_exit ?_
  refine x_then (x_then (x_eq ?_))
  refine ret0n rfl S ?_
  exact ⟨z, H⟩
set_option maxHeartbeats 1000000 in
/-- foyer/sign.walk -/
theorem walk_spec (s : ByteArray) (f : FuncId) (cap : List Value) (he : Enters Tryz.prog f) (d : Nat → Nat) (w0 : World) (hT : Tabs w0) (hs : s.size ≤ 1000) (hd : ∀ k, k < 18 → d k ≤ 15)
    (hl : ∀ k : Nat, k < 18 → ∀ w, Ext w0 w → Ret Tryz.prog f ([Value.int .i64 (k : Int)] ++ cap).toArray w (fun u w' => u = .int .i64 (d k : Int) ∧ Ext w w')) :
    Ret Tryz.prog 44 #[.string s, .func (.func f) #[] cap.toArray] w0 (fun u w => HSat No w0 [OSl 9 u 1 encS (walkK s d 18)] w) := by
 refine ret_of_wp (nt := 21) Tryz.func44 rfl rfl rfl (fl := [(0, .string s), (1, .func (.func f) #[] cap.toArray)]) rfl (fun a S => ?_)
 have H := HSat.start w0
 have H := H.ro0 (TabsA) rfl (hT)
 refine gsr ?_
 refine wl_of (op_box1 (wn rfl) rfl rfl rfl S H rfl rfl fun b3 a w S H => ?_)
 refine ga S fun a S => ?_
 refine gnt ?_
 refine gsr ?_
 refine wl_of (op_alloc (wn rfl) rfl rfl rfl S H Fzer22 fun b5 a w S H => ?_)
 refine gnt ?_
 refine g_seq ?_
 refine gsr ?_
 refine gm S fun a S => ?_
 refine wl_of (op_call (wn rfl) rfl rfl S (co_func rfl Tryz.call67 S rfl) (starts_spec s _) fun v w hc a S => ?_)
 obtain ⟨b1, rfl, H1⟩ := hc
 have H := H.call H1 (by simp [Blk])
 simp only [List.cons_append, List.nil_append] at H
 have H := (H.freeze.nilO 9 1 encS).defs0
 refine gnt ?_
 refine g_block ?_
 refine g_range (Φ := fun p l2 => p = none ∧ ∃ z, l2 = [Cel b5 22 [z], OSl 9 z 1 encS (walkK s d 18)]) S (H.take [DefsA [], Atom.ro (Cel b1 9 [.string s]), TabsA, Cel b5 22 [.slice none 0 0], OSl 9 (.slice none 0 0) 1 encS [], Cel b3 91 [.func (.func f) #[] cap.toArray]]) rfl Tryz.call97 (fun R lb w1 hrec H1 => ?_) ?_
 ·have SR := S.recd
  refine Ret.mono (starts_iter (M := No) (u0 := w0) (Z := Value) (fun k z => Blk lb (.loop R) :: DefsA [R.defers] :: Cel b5 22 [z] :: OSl 9 z 1 encS (walkK s d (k)) :: Cel b3 91 [.func (.func f) #[] cap.toArray] :: []) lb b1 s w1 hs (fun k hk z w H => ?_) ⟨.slice none 0 0, by have h := H1.take (Atom.ro (Cel b1 9 [.string s]) :: TabsA :: Blk lb (.loop R) :: DefsA [R.defers] :: Cel b5 22 [(.slice none 0 0)] :: OSl 9 (.slice none 0 0) 1 encS [] :: Cel b3 91 [.func (.func f) #[] cap.toArray] :: []); exact h⟩) ?_
  ·skip
   skip
   refine yield2 hrec SR H rfl rfl (fun a S => ?_)
   refine gsr ?_
   refine ga S fun a S => ?_
   refine gnt ?_
   have S := ((((S.nil.cons S 3 rfl).cons S 4 rfl).cons S 5 rfl).cons S 11 rfl).cons S 6 rfl
   refine g_region ?_
   refine ga S fun a S => ?_
   refine gnt ?_
   refine r_begin hrec H (fun w H => ?_)
   refine g_block ?_
   refine region_st (loud := [6, 7, 8]) (tails := [7, 8]) (free := []) [0, 1, 2, 3, 4, 5, 6, 7, 8] [] Fmo (by kernel_rfl) (by kernel_rfl) rfl H ?_
   refine m_w rfl rfl (wn rfl) rfl rfl S (fun w H => y_load rfl Fsca22 S H rfl rfl) fun a S => ?_
   refine m_w rfl rfl (wn rfl) rfl rfl S (fun w H => y_move rfl S rfl) fun a S => ?_
   refine m_w rfl rfl (wn rfl) rfl rfl S (fun w H => y_load rfl Fsca91 S H rfl rfl) fun a S => ?_
   refine m_w rfl rfl (wn rfl) rfl rfl S (fun w H => y_move rfl S rfl) fun a S => ?_
   refine m_c rfl rfl (wn rfl) rfl rfl S (fun w => co_value rfl he S rfl rfl) (fun w H => hl k hk w H.toExt) fun a S => ?_
   refine m_c rfl rfl (wn rfl) rfl rfl S (fun w => co_func rfl Tryz.call68 S rfl) (fun w H => chain_t _ (d k) _ H.tabs (by rw [show startS s k = listS _ from rfl, listS_size]; decide) (by have := hd k hk; omega)) fun a S => ?_
   refine m_l rfl rfl (fun w H => op_buildSlice (wn rfl) rfl rfl rfl Tryz.underlying22 Finf9 S H (idx := [0]) rfl rfl rfl (z := [.string ⟨#[]⟩]) (by kernel_rfl) (cs := [_]) rfl fun b18 a w S H => m_next H (List.sublist_cons_self _ _) ?_)
   refine m_l rfl rfl (fun w H => op_append ([chainS (startS s k) (d k)]) (wn rfl) rfl rfl rfl Tryz.underlying22 Finf9 rfl rfl S H rfl rfl rfl rfl (by simp) (by simp [encS]) (by simp [encS, Value.oneCell']) (by simp only [List.length_cons, List.length_nil, walkK_len]; omega) (by simp only [List.length_cons, List.length_nil, walkK_len]; omega) fun u19 a w hn19 S H => ?_)
   rw [walkK_s] at H
   refine m_tail H rfl ?_
   refine m_l rfl rfl (fun w H => op_store (wn rfl) rfl rfl S H rfl rfl (H.sl1 _) Fsiz22 rfl fun a w S H => m_tail H rfl ?_)
   dsimp only [List.set, Nat.zero_add, Nat.reduceAdd] at H
   refine m_nil (fun w H => ?_)
   refine n_block ?_
   refine r_end hrec H (fun w H => ?_)
   dsimp only [List.set] at H
   exact ⟨rfl, u19, H.take (Atom.ro (Cel b1 9 [.string s]) :: TabsA :: Blk lb (.loop R) :: DefsA [R.defers] :: Cel b5 22 [u19] :: OSl 9 u19 1 encS (walkK s d (k + 1)) :: Cel b3 91 [.func (.func f) #[] cap.toArray] :: [])⟩
  ·rintro _ w2 ⟨z, H2⟩
   exact ⟨.ready, none, _, by simp, ⟨rfl, z, rfl⟩, by rw [hrec.same]; exact H2.take [Blk lb (.loop R), DefsA [R.defers], Cel b5 22 [z], OSl 9 z 1 encS (walkK s d 18)]⟩
 ·intro bd a w pend l2 S H hΦ
  obtain ⟨rfl, z, rfl⟩ := hΦ
  refine n_block ?_
  refine n_then ?_
  have S := (S.nil.cons S 4 rfl).cons S 5 rfl
  refine gsr ?_
  refine gy rfl rfl rfl S (y_load rfl Fsca22 S H rfl rfl) fun a S => ?_
  refine ga S fun a S => ?_
  refine gnt ?_
  refine g_ret ?_
  refine ret1M rfl S H rfl (fun w H => ?_)
  exact H.take [OSl 9 z 1 encS (walkK s d 18)]
/-- foyer/sign.Public$1 -/
theorem pub1_spec (i : Int) (w0 : World) :
    Ret Tryz.prog 45 #[.int .i64 i] w0 (fun u w => u = .int .i64 ((15 : Nat) : Int) ∧ Ext w0 w) := by
 refine ret_of_wp (nt := 3) Tryz.func45 rfl rfl rfl (fl := [(0, .int .i64 i)]) rfl (fun a S => ?_)
 have H := HSat.start w0
 refine gsr ?_
 refine ga S fun a S => ?_
 refine gnt ?_
 refine gsr ?_
 refine ga S fun a S => ?_
 refine gnt ?_
 refine g_ret ?_
 refine ret1 rfl S rfl ?_
 exact ⟨rfl, H.toExt⟩
/-- foyer/sign.Public -/
theorem public_spec (s : ByteArray) (w0 : World) (hT : Tabs w0) (hs : s.size ≤ 1000) :
    Ret Tryz.prog 16 #[.string s] w0 (fun u w => u = .string (pubS s) ∧ Ext w0 w) := by
 refine ret_of_wp (nt := 6) Tryz.func16 rfl rfl rfl (fl := [(0, .string s)]) rfl (fun a S => ?_)
 have H := HSat.start w0
 have H := H.ro0 (TabsA) rfl (hT)
 refine gsr ?_
 refine ga S fun a S => ?_
 refine gnt ?_
 refine gsr ?_
 refine gm S fun a S => ?_
 refine wl_of (op_call (wn rfl) rfl rfl S (co_func rfl Tryz.call44 S rfl) (walk_spec s 45 [] Tryz.call45 (fun _ => 15) _ H.tabs hs (fun _ _ => by decide) (fun k hk w _ => pub1_spec _ _)) fun u4 w hc a S => ?_)
 have H1 := hc
 have H := H.call H1 (by simp [OSl, Blk])
 simp only [List.cons_append, List.nil_append] at H
 refine wl_of (op_call (wn rfl) rfl rfl S (co_func rfl Tryz.call43 S rfl) (list_t u4 _ _ H.tabs (H.sl u4) (list_ok (fun x hx => by have := walkK_size _ _ _ x hx; omega) (by rw [walkK_len]; decide))) fun v w hc a S => ?_)
 obtain ⟨rfl, he⟩ := hc
 have H := H.ext he
 refine ga S fun a S => ?_
 refine gnt ?_
 have S := S.nil.cons S 2 rfl
 refine g_ret ?_
 refine ret1 rfl S rfl ?_
 exact ⟨rfl, H.toExt⟩
end Go.Proofs.YtjdbggnhdeaflaaGreatDoor
end
section
namespace Go.Proofs.YtjdbggnhdeaflaaGreatDoor
open Go Go.Gw
set_option linter.unusedVariables false
set_option linter.unusedSimpArgs false
/-- foyer/title.formed$1 -/
theorem formed1_spec (s : ByteArray) (w0 : World) (hs : s.size ≤ 9223372036854775807) :
    Ret Tryz.prog 88 #[.string s] w0 (fun u w => u = .bool (!isD s) ∧ Ext w0 w) := by
 refine ret_of_wp (nt := 6) Tryz.func88 rfl rfl rfl (fl := [(0, .string s)]) rfl (fun a S => ?_)
 have H := HSat.start w0
 refine gsr ?_
 refine ga S fun a S => ?_
 refine gnt ?_
 refine gsr ?_
 refine gm S fun a S => ?_
 refine wl_of (op_call (wn rfl) rfl rfl S (co_func rfl Tryz.call18 S rfl) (is_spec _ _ (by first | assumption | omega)) fun v w hc a S => ?_)
 obtain ⟨rfl, he⟩ := hc
 have H := H.ext he
 refine gy rfl rfl rfl S (y_not rfl S rfl) fun a S => ?_
 refine ga S fun a S => ?_
 refine gnt ?_
 have S := S.nil.cons S 2 rfl
 refine g_ret ?_
 refine ret1 rfl S rfl ?_
 exact ⟨rfl, H.toExt⟩
/-- slices.IndexFunc[[]string,string] -/
theorem indexS_spec (v : Value) (xs : List ByteArray) (f : FuncId) (cap : List Value) (he : Enters Tryz.prog f) (pr : ByteArray → Bool) (w0 : World) (hv : IsSl w0 v 1 encS xs)
    (hstep : ∀ x ∈ xs, ∀ w, Ext w0 w → Ret Tryz.prog f ([Value.string x] ++ cap).toArray w (fun u w' => u = .bool (pr x) ∧ Ext w w')) :
    Ret Tryz.prog 114 #[v, .func (.func f) #[] cap.toArray] w0 (fun u w => (u = .int .i64 (-1) ∧ xs.any pr = false ∧ Ext w0 w) ∨ (∃ j : Nat, u = .int .i64 (j : Int) ∧ xs.any pr = true ∧ Ext w0 w)) := by
 refine ret_of_wp (nt := 19) Tryz.func114 rfl rfl rfl (fl := [(0, v), (1, .func (.func f) #[] cap.toArray)]) rfl (fun a S => ?_)
 have H := HSat.start w0
 have H := H.ro0 (Sl v 1 encS xs) rfl (hv)
 have hlen := hv.len
 refine gsr ?_
 refine ga S fun a S => ?_
 refine gnt ?_
 refine g_seq ?_
 refine gsr ?_
 refine gm S fun a S => ?_
 refine gy rfl rfl rfl S (y_lens rfl Tryz.underlying22 S H rfl) fun a S => ?_
 refine gm S fun a S => ?_
 refine gnt ?_
 refine g_block ?_
 have SU := ((S.nil.cons S 1 rfl).cons S 0 rfl).cons S 7 rfl
 refine loop_k (X := Nat) SU (fun k => [(8, .int .i64 (k : Int))]) (fun k => k ≤ xs.length ∧ (∀ j (h : j < xs.length), j < k → pr xs[j] = false)) (fun k => xs.length - k) 0 (S.nil.cons S 8 rfl) H (⟨by omega, fun j h hj => by omega⟩) (fun k a w S H hi => ?_)
 simp only [List.cons_append, List.nil_append] at S hi
 obtain ⟨hk, hpr⟩ := hi
 refine gsr ?_
 refine gy rfl rfl rfl S (y_bin rfl S rfl rfl rfl) fun a S => ?_
 refine gnt ?_
 refine g_seq ?_
 refine c_if S rfl (fun h1 => ?_) (fun h1 => ?_)
 ·have h1p := h1; try simp only [DL] at h1p
  refine g_skip ?_
  refine n_then ?_
  refine g_seq ?_
  refine g_block ?_
  refine gsr ?_
  refine gm S fun a S => ?_
  refine ga S fun a S => ?_
  refine gnt ?_
  refine gsr ?_
  refine gm S fun a S => ?_
  refine gm S fun a S => ?_
  refine gm S fun a S => ?_
  refine gy rfl rfl rfl S (y_iaddrn rfl Tryz.underlying22 Fsiz9 S H rfl rfl (by first | assumption | omega | (simp only [LL]; omega))) fun a S => ?_
  refine gy rfl rfl rfl S (y_loads _ rfl Fsca9 S H rfl (by first | assumption | omega | (simp only [LL]; omega)) rfl) fun a S => ?_
  refine wl_of (op_call (wn rfl) rfl rfl S (co_value rfl he S rfl rfl) (hstep _ (List.getElem_mem (by omega)) w H.toExt) fun v w hc a S => ?_)
  obtain ⟨rfl, he1⟩ := hc
  have H := H.ext he1
  refine gnt ?_
  have S := (((((S.nil.cons S 1 rfl).cons S 0 rfl).cons S 7 rfl).cons S 8 rfl).cons S 5 rfl).cons S 16 rfl
  refine c_if S rfl (fun h2 => ?_) (fun h2 => ?_)
  ·have h2p := h2; try simp only [DL] at h2p
   refine gsr ?_
   refine gm S fun a S => ?_
   refine ga S fun a S => ?_
   refine gnt ?_
   refine g_ret ?_
   refine r_block (r_then (r_then (r_block (r_then (ret1 rfl S rfl ?_)))))
   exact .inr ⟨k, rfl, List.any_eq_true.2 ⟨_, List.getElem_mem (by omega), h2⟩, H.toExt⟩
  ·have h2p := h2; try simp only [DL] at h2p
   refine g_skip ?_
   refine n_block ?_
   refine n_then ?_
   refine g_region ?_
   refine gy rfl rfl rfl S (y_add rfl S rfl rfl (by omega)) fun a S => ?_
   refine gm S fun a S => ?_
   refine gnt ?_
   refine ⟨k + 1, S.nil.cons S 8 rfl, ((S.nil.cons S 1 rfl).cons S 0 rfl).cons S 7 rfl, H, ?_, ?_⟩
   · exact ⟨by omega, fun j h hj => by by_cases hjk : j < k; exact hpr j h hjk; (obtain rfl : j = k := by omega); exact h2⟩
   · omega
 ·have h1p := h1; try simp only [DL] at h1p
  refine g_exit ?_
  refine x_then (x_then (x_eq ?_))
  refine n_then ?_
  have S := S.nil
  refine gsr ?_
  refine ga S fun a S => ?_
  refine gnt ?_
  refine g_ret ?_
  refine ret1 rfl S rfl ?_
  obtain rfl : k = xs.length := by omega
  exact .inl ⟨rfl, List.any_eq_false.2 (fun x hx => by obtain ⟨j, hj, rfl⟩ := List.getElem_of_mem hx; simp [hpr j hj hj]), H.toExt⟩
/-- slices.ContainsFunc[[]string,string] -/
theorem containsS_spec (v : Value) (xs : List ByteArray) (f : FuncId) (cap : List Value) (he : Enters Tryz.prog f) (pr : ByteArray → Bool) (w0 : World) (hv : IsSl w0 v 1 encS xs)
    (hstep : ∀ x ∈ xs, ∀ w, Ext w0 w → Ret Tryz.prog f ([Value.string x] ++ cap).toArray w (fun u w' => u = .bool (pr x) ∧ Ext w w')) :
    Ret Tryz.prog 87 #[v, .func (.func f) #[] cap.toArray] w0 (fun u w => u = .bool (xs.any pr) ∧ Ext w0 w) := by
 refine ret_of_wp (nt := 9) Tryz.func87 rfl rfl rfl (fl := [(0, v), (1, .func (.func f) #[] cap.toArray)]) rfl (fun a S => ?_)
 have H := HSat.start w0
 refine gsr ?_
 refine ga S fun a S => ?_
 refine gnt ?_
 refine gsr ?_
 refine gm S fun a S => ?_
 refine gm S fun a S => ?_
 refine wl_of (op_call (wn rfl) rfl rfl S (co_func rfl Tryz.call114 S rfl) (Ret.mono (indexS_spec v xs f cap he pr w0 hv hstep) (fun u w h => (show ∃ i : Int, u = .int .i64 i ∧ xs.any pr = decide (i ≥ 0) ∧ Ext w0 w from by rcases h with ⟨h1, h2, h3⟩ | ⟨j, h1, h2, h3⟩; exact ⟨-1, h1, by rw [h2]; rfl, h3⟩; exact ⟨j, h1, by rw [h2]; simp, h3⟩))) fun v w hc a S => ?_)
 obtain ⟨i, rfl, hany, he1⟩ := hc
 have H := H.ext he1
 refine gy rfl rfl rfl S (y_bin rfl S rfl rfl rfl) fun a S => ?_
 refine ga S fun a S => ?_
 refine gnt ?_
 have S := S.nil.cons S 4 rfl
 refine g_ret ?_
 refine ret1 rfl S rfl ?_
 exact ⟨by rw [hany], H.toExt⟩
/-- slices.IndexFunc[[]foyer/api.Transfer,foyer/api.Transfer] -/
theorem indexX_spec (v : Value) (xs : List XV) (f : FuncId) (cap : List Value) (he : Enters Tryz.prog f) (pr : XV → Bool) (w0 : World) (hv : IsSl w0 v 2 encX xs)
    (hstep : ∀ x ∈ xs, ∀ w, Ext w0 w → Ret Tryz.prog f ([Value.agg (encX x).toArray] ++ cap).toArray w (fun u w' => u = .bool (pr x) ∧ Ext w w')) :
    Ret Tryz.prog 115 #[v, .func (.func f) #[] cap.toArray] w0 (fun u w => (u = .int .i64 (-1) ∧ xs.any pr = false ∧ Ext w0 w) ∨ (∃ j : Nat, u = .int .i64 (j : Int) ∧ xs.any pr = true ∧ Ext w0 w)) := by
 refine ret_of_wp (nt := 19) Tryz.func115 rfl rfl rfl (fl := [(0, v), (1, .func (.func f) #[] cap.toArray)]) rfl (fun a S => ?_)
 have H := HSat.start w0
 have H := H.ro0 (Sl v 2 encX xs) rfl (hv)
 have hlen := hv.len
 refine gsr ?_
 refine ga S fun a S => ?_
 refine gnt ?_
 refine g_seq ?_
 refine gsr ?_
 refine gm S fun a S => ?_
 refine gy rfl rfl rfl S (y_lens rfl Tryz.underlying51 S H rfl) fun a S => ?_
 refine gm S fun a S => ?_
 refine gnt ?_
 refine g_block ?_
 have SU := ((S.nil.cons S 1 rfl).cons S 0 rfl).cons S 7 rfl
 refine loop_k (X := Nat) SU (fun k => [(8, .int .i64 (k : Int))]) (fun k => k ≤ xs.length ∧ (∀ j (h : j < xs.length), j < k → pr xs[j] = false)) (fun k => xs.length - k) 0 (S.nil.cons S 8 rfl) H (⟨by omega, fun j h hj => by omega⟩) (fun k a w S H hi => ?_)
 simp only [List.cons_append, List.nil_append] at S hi
 obtain ⟨hk, hpr⟩ := hi
 refine gsr ?_
 refine gy rfl rfl rfl S (y_bin rfl S rfl rfl rfl) fun a S => ?_
 refine gnt ?_
 refine g_seq ?_
 refine c_if S rfl (fun h1 => ?_) (fun h1 => ?_)
 ·have h1p := h1; try simp only [DL] at h1p
  refine g_skip ?_
  refine n_then ?_
  refine g_seq ?_
  refine g_block ?_
  refine gsr ?_
  refine gm S fun a S => ?_
  refine ga S fun a S => ?_
  refine gnt ?_
  refine gsr ?_
  refine gm S fun a S => ?_
  refine gm S fun a S => ?_
  refine gm S fun a S => ?_
  refine gy rfl rfl rfl S (y_iaddrn rfl Tryz.underlying51 Fsiz110 S H rfl rfl (by first | assumption | omega | (simp only [LL]; omega))) fun a S => ?_
  refine gy rfl rfl rfl S (y_loadsa _ rfl S H rfl (by exact Fagg110) (by first | assumption | omega | (simp only [LL]; omega))) fun a S => ?_
  refine wl_of (op_call (wn rfl) rfl rfl S (co_value rfl he S rfl rfl) (hstep _ (List.getElem_mem (by omega)) w H.toExt) fun v w hc a S => ?_)
  obtain ⟨rfl, he1⟩ := hc
  have H := H.ext he1
  refine gnt ?_
  have S := (((((S.nil.cons S 1 rfl).cons S 0 rfl).cons S 7 rfl).cons S 8 rfl).cons S 5 rfl).cons S 16 rfl
  refine c_if S rfl (fun h2 => ?_) (fun h2 => ?_)
  ·have h2p := h2; try simp only [DL] at h2p
   refine gsr ?_
   refine gm S fun a S => ?_
   refine ga S fun a S => ?_
   refine gnt ?_
   refine g_ret ?_
   refine r_block (r_then (r_then (r_block (r_then (ret1 rfl S rfl ?_)))))
   exact .inr ⟨k, rfl, List.any_eq_true.2 ⟨_, List.getElem_mem (by omega), h2⟩, H.toExt⟩
  ·have h2p := h2; try simp only [DL] at h2p
   refine g_skip ?_
   refine n_block ?_
   refine n_then ?_
   refine g_region ?_
   refine gy rfl rfl rfl S (y_add rfl S rfl rfl (by omega)) fun a S => ?_
   refine gm S fun a S => ?_
   refine gnt ?_
   refine ⟨k + 1, S.nil.cons S 8 rfl, ((S.nil.cons S 1 rfl).cons S 0 rfl).cons S 7 rfl, H, ?_, ?_⟩
   · exact ⟨by omega, fun j h hj => by by_cases hjk : j < k; exact hpr j h hjk; (obtain rfl : j = k := by omega); exact h2⟩
   · omega
 ·have h1p := h1; try simp only [DL] at h1p
  refine g_exit ?_
  refine x_then (x_then (x_eq ?_))
  refine n_then ?_
  have S := S.nil
  refine gsr ?_
  refine ga S fun a S => ?_
  refine gnt ?_
  refine g_ret ?_
  refine ret1 rfl S rfl ?_
  obtain rfl : k = xs.length := by omega
  exact .inl ⟨rfl, List.any_eq_false.2 (fun x hx => by obtain ⟨j, hj, rfl⟩ := List.getElem_of_mem hx; simp [hpr j hj hj]), H.toExt⟩
/-- slices.ContainsFunc[[]foyer/api.Transfer,foyer/api.Transfer] -/
theorem containsX_spec (v : Value) (xs : List XV) (f : FuncId) (cap : List Value) (he : Enters Tryz.prog f) (pr : XV → Bool) (w0 : World) (hv : IsSl w0 v 2 encX xs)
    (hstep : ∀ x ∈ xs, ∀ w, Ext w0 w → Ret Tryz.prog f ([Value.agg (encX x).toArray] ++ cap).toArray w (fun u w' => u = .bool (pr x) ∧ Ext w w')) :
    Ret Tryz.prog 90 #[v, .func (.func f) #[] cap.toArray] w0 (fun u w => u = .bool (xs.any pr) ∧ Ext w0 w) := by
 refine ret_of_wp (nt := 9) Tryz.func90 rfl rfl rfl (fl := [(0, v), (1, .func (.func f) #[] cap.toArray)]) rfl (fun a S => ?_)
 have H := HSat.start w0
 refine gsr ?_
 refine ga S fun a S => ?_
 refine gnt ?_
 refine gsr ?_
 refine gm S fun a S => ?_
 refine gm S fun a S => ?_
 refine wl_of (op_call (wn rfl) rfl rfl S (co_func rfl Tryz.call115 S rfl) (Ret.mono (indexX_spec v xs f cap he pr w0 hv hstep) (fun u w h => (show ∃ i : Int, u = .int .i64 i ∧ xs.any pr = decide (i ≥ 0) ∧ Ext w0 w from by rcases h with ⟨h1, h2, h3⟩ | ⟨j, h1, h2, h3⟩; exact ⟨-1, h1, by rw [h2]; rfl, h3⟩; exact ⟨j, h1, by rw [h2]; simp, h3⟩))) fun v w hc a S => ?_)
 obtain ⟨i, rfl, hany, he1⟩ := hc
 have H := H.ext he1
 refine gy rfl rfl rfl S (y_bin rfl S rfl rfl rfl) fun a S => ?_
 refine ga S fun a S => ?_
 refine gnt ?_
 have S := S.nil.cons S 4 rfl
 refine g_ret ?_
 refine ret1 rfl S rfl ?_
 exact ⟨by rw [hany], H.toExt⟩
set_option maxHeartbeats 1000000 in
/-- foyer/title.formed -/
theorem formed_spec (t : TV) (w0 : World) (ht : TOk w0 t) (hz : TSz t) :
    Ret Tryz.prog 58 #[.agg (encT t).toArray] w0 (fun u w => u = .bool (formedB t) ∧ Ext w0 w) := by
 refine ret_of_wp (nt := 74) Tryz.func58 rfl rfl rfl (fl := [(0, .agg (encT t).toArray)]) rfl (fun a S => ?_)
 have H := HSat.start w0
 have H := H.ro0 (Sl t.cv 2 encX t.chain) rfl (ht.sl)
 have H := H.ro0 (CapA t.cv) rfl (ht.cap)
 have H := H.ro0 (XRows t.chain) rfl (ht.rows)
 have hlen := ht.sl.len
 refine gsr ?_
 refine wl_of (op_boxa (wn rfl) rfl rfl rfl S H rfl fun b1 a w S H => ?_)
 refine ga S fun a S => ?_
 refine gnt ?_
 refine gsr ?_
 refine gy rfl rfl rfl S (y_faddrb rfl Ffo53_0 S rfl) fun a S => ?_
 refine gy rfl rfl rfl S (y_load rfl Fsca3 S H rfl rfl) fun a S => ?_
 refine gy rfl rfl rfl S (y_faddrb rfl Ffo53_1 S rfl) fun a S => ?_
 refine gy rfl rfl rfl S (y_load rfl Fsca3 S H rfl rfl) fun a S => ?_
 refine gy rfl rfl rfl S ((y_bin rfl S rfl rfl rfl)) fun a S => ?_
 refine gy rfl rfl rfl S ((y_bin rfl S rfl rfl rfl)) fun a S => ?_
 refine gy rfl rfl rfl S ((y_bin rfl S rfl rfl rfl)) fun a S => ?_
 refine ga S fun a S => ?_
 refine gnt ?_
 have S := ((S.nil.cons S 1 rfl).cons S 2 rfl).cons S 3 rfl
 refine g_seq ?_
 refine gsr ?_
 refine gy rfl rfl rfl S (y_faddrb rfl Ffo53_1 S rfl) fun a S => ?_
 refine gy rfl rfl rfl S (y_load rfl Fsca3 S H rfl rfl) fun a S => ?_
 refine gy rfl rfl rfl S (y_bin rfl S rfl rfl rfl) fun a S => ?_
 refine gm S fun a S => ?_
 refine' wl_or 3 16 rfl S H rfl rfl rfl rfl rfl rfl rfl (fun _ S => (wn rfl)) (fun h1 kk => ?yh1) (fun a w S H => ?_)
 case yh1 =>
  have h1p := h1; try simp only [DL] at h1p
  refine gz 16 h1 S rfl rfl rfl rfl rfl rfl (y_faddrb rfl Ffo53_1 S rfl) fun a S => ?_
  refine gz 16 h1 S rfl rfl rfl rfl rfl rfl (y_load rfl Fsca3 S H rfl rfl) fun a S => ?_
  refine gz 16 h1 S rfl rfl rfl rfl rfl rfl (y_bin rfl S rfl rfl rfl) fun a S => ?_
  refine gy rfl rfl rfl S (y_or' rfl h1 S rfl rfl) fun a S => ?_
  exact kk _ _ (S.join 4 20 rfl rfl) H
 refine gm S fun a S => ?_
 refine' wl_or 2 21 rfl S H rfl rfl rfl rfl rfl rfl rfl (fun _ S => (wn rfl)) (fun h2 kk => ?yh2) (fun a w S H => ?_)
 case yh2 =>
  have h2p := h2; try simp only [DL] at h2p
  refine gz 21 h2 S rfl rfl rfl rfl rfl rfl (y_move rfl S rfl) fun a S => ?_
  refine gz 21 h2 S rfl rfl rfl rfl rfl rfl (y_bin rfl S rfl rfl rfl) fun a S => ?_
  refine gy rfl rfl rfl S (y_or' rfl h2 S rfl rfl) fun a S => ?_
  exact kk _ _ (S.join 3 24 rfl rfl) H
 refine gm S fun a S => ?_
 refine' wl_or 2 25 rfl S H rfl rfl rfl rfl rfl rfl rfl (fun _ S => (wn rfl)) (fun h3 kk => ?yh3) (fun a w S H => ?_)
 case yh3 =>
  have h3p := h3; try simp only [DL] at h3p
  refine gz 25 h3 S rfl rfl rfl rfl rfl rfl (y_move rfl S rfl) fun a S => ?_
  refine gz 25 h3 S rfl rfl rfl rfl rfl rfl (y_bin rfl S rfl rfl rfl) fun a S => ?_
  refine gy rfl rfl rfl S (y_or' rfl h3 S rfl rfl) fun a S => ?_
  exact kk _ _ (S.join 3 28 rfl rfl) H
 refine gm S fun a S => ?_
 refine' wl_or 3 29 rfl S H rfl rfl rfl rfl rfl rfl rfl (fun _ S => (wn rfl)) (fun h4 kk => ?yh4) (fun a w S H => ?_)
 case yh4 =>
  have h4p := h4; try simp only [DL] at h4p
  refine gz 29 h4 S rfl rfl rfl rfl rfl rfl (y_faddrb rfl Ffo53_2 S rfl) fun a S => ?_
  refine gz 29 h4 S rfl rfl rfl rfl rfl rfl (y_load rfl Fsca3 S H rfl rfl) fun a S => ?_
  refine gz 29 h4 S rfl rfl rfl rfl rfl rfl (y_bin rfl S rfl rfl rfl) fun a S => ?_
  refine gy rfl rfl rfl S (y_or' rfl h4 S rfl rfl) fun a S => ?_
  exact kk _ _ (S.join 4 33 rfl rfl) H
 refine gm S fun a S => ?_
 refine' wl_or 3 34 rfl S H rfl rfl rfl rfl rfl rfl rfl (fun _ S => (wn rfl)) (fun h5 kk => ?yh5) (fun a w S H => ?_)
 case yh5 =>
  have h5p := h5; try simp only [DL] at h5p
  refine gz 34 h5 S rfl rfl rfl rfl rfl rfl (y_faddrb rfl Ffo53_2 S rfl) fun a S => ?_
  refine gz 34 h5 S rfl rfl rfl rfl rfl rfl (y_load rfl Fsca3 S H rfl rfl) fun a S => ?_
  refine gz 34 h5 S rfl rfl rfl rfl rfl rfl (y_bin rfl S rfl rfl rfl) fun a S => ?_
  refine gy rfl rfl rfl S (y_or' rfl h5 S rfl rfl) fun a S => ?_
  exact kk _ _ (S.join 4 38 rfl rfl) H
 refine gm S fun a S => ?_
 refine' wl_or 4 39 rfl S H rfl rfl rfl rfl rfl rfl rfl (fun _ S => (wn rfl)) (fun h6 kk => ?yh6) (fun a w S H => ?_)
 case yh6 =>
  have h6p := h6; try simp only [DL] at h6p
  refine gz 39 h6 S rfl rfl rfl rfl rfl rfl (y_faddrb rfl Ffo53_3 S rfl) fun a S => ?_
  refine gz 39 h6 S rfl rfl rfl rfl rfl rfl (y_load rfl Fsca9 S H rfl rfl) fun a S => ?_
  refine wl_of (op_call (wg' 39 rfl rfl S rfl h6 rfl) rfl rfl S (co_func rfl Tryz.call18 S rfl) (is_spec _ _ (by have := hz.first; omega)) fun v w hc a S => ?_)
  obtain ⟨rfl, he⟩ := hc
  have H := H.ext he
  refine gz 39 h6 S rfl rfl rfl rfl rfl rfl (y_not rfl S rfl) fun a S => ?_
  refine gy rfl rfl rfl S (y_or' rfl h6 S rfl rfl) fun a S => ?_
  exact kk _ _ (S.join 5 44 rfl rfl) H
 refine gm S fun a S => ?_
 refine' wl_or 4 45 rfl S H rfl rfl rfl rfl rfl rfl rfl (fun _ S => (wn rfl)) (fun h7 kk => ?yh7) (fun a w S H => ?_)
 case yh7 =>
  have h7p := h7; try simp only [DL] at h7p
  refine gz 45 h7 S rfl rfl rfl rfl rfl rfl (y_faddrb rfl Ffo53_4 S rfl) fun a S => ?_
  refine gz 45 h7 S rfl rfl rfl rfl rfl rfl (y_load rfl Fsca51 S H rfl rfl) fun a S => ?_
  refine gz 45 h7 S rfl rfl rfl rfl rfl rfl (y_lens rfl Tryz.underlying51 S H rfl) fun a S => ?_
  refine gz 45 h7 S rfl rfl rfl rfl rfl rfl (y_bin rfl S rfl rfl rfl) fun a S => ?_
  refine gy rfl rfl rfl S (y_or' rfl h7 S rfl rfl) fun a S => ?_
  exact kk _ _ (S.join 5 50 rfl rfl) H
 refine gnt ?_
 have S := ((S.nil.cons S 1 rfl).cons S 2 rfl).cons S 50 rfl
 refine c_if S rfl (fun h8 => ?_) (fun h8 => ?_)
 ·have h8p := h8; try simp only [DL] at h8p
  have hh : headB t = false := by unfold headB; simp only [Bool.not_eq_false']; exact h8
  refine gsr ?_
  refine ga S fun a S => ?_
  refine gnt ?_
  refine g_ret ?_
  refine r_then (ret1 rfl S rfl ?_)
  exact ⟨congrArg Value.bool (by unfold formedB; rw [hh]; rfl), H.toExt⟩
 ·have h8p := h8; try simp only [DL] at h8p
  have hh : headB t = true := by unfold headB; simp only [Bool.not_eq_true']; exact h8
  refine g_skip ?_
  refine n_then ?_
  refine g_seq ?_
  refine gsr ?_
  refine gy rfl rfl rfl S (y_faddrb rfl Ffo53_4 S rfl) fun a S => ?_
  refine gy rfl rfl rfl S (y_load rfl Fsca51 S H rfl rfl) fun a S => ?_
  refine gy rfl rfl rfl S (y_lens rfl Tryz.underlying51 S H rfl) fun a S => ?_
  refine gm S fun a S => ?_
  refine gnt ?_
  refine g_block ?_
  have SU := (S.nil.cons S 52 rfl).cons S 53 rfl
  refine loop_k (X := Nat) SU (fun k => [(54, .int .i64 (k : Int))]) (fun k => k ≤ t.chain.length ∧ ∀ i (h : i < t.chain.length), i < k → formX t.chain[i] = true) (fun k => t.chain.length - k) 0 (S.nil.cons S 54 rfl) H (⟨by omega, fun i _ h => absurd h (by omega)⟩) (fun k a w S H hi => ?_)
  simp only [List.cons_append, List.nil_append] at S hi
  obtain ⟨hk, hok⟩ := hi
  refine gsr ?_
  refine gy rfl rfl rfl S (y_bin rfl S rfl rfl rfl) fun a S => ?_
  refine gnt ?_
  refine g_seq ?_
  refine c_if S rfl (fun h9 => ?_) (fun h9 => ?_)
  ·have h9p := h9; try simp only [DL] at h9p
   have hkl : k < t.chain.length := by omega
   have hxk := hz.x t.chain[k] (List.getElem_mem hkl)
   have hto : t.chain[k].tw.size ≤ 9223372036854775807 := by omega
   refine g_skip ?_
   refine n_then ?_
   refine g_seq ?_
   refine g_block ?_
   refine gsr ?_
   refine gy rfl rfl rfl S (y_iaddrn rfl Tryz.underlying51 Fsiz110 S H rfl rfl (by first | assumption | omega | (simp only [LL]; omega))) fun a S => ?_
   refine gy rfl rfl rfl S (y_loadsa _ rfl S H rfl (by exact Fagg110) (by first | assumption | omega | (simp only [LL]; omega))) fun a S => ?_
   refine wl_of (op_alloc (wn rfl) rfl rfl rfl S H Fzer110 fun b5 a w S H => ?_)
   refine wl_of (op_storea (wn rfl) rfl rfl S H rfl rfl (encX_one (w := w) (H.sl1 t.chain[k].sv)) Fsiz110 rfl (cs' := [_, _]) rfl fun a w S H => ?_)
   refine gnt ?_
   refine gsr ?_
   refine gy rfl rfl rfl S (y_faddrb rfl Ffo110_1 S rfl) fun a S => ?_
   refine gy rfl rfl rfl S (y_load rfl Fsca22 S H rfl rfl) fun a S => ?_
   refine gy rfl rfl rfl S (y_lens rfl Tryz.underlying22 S H rfl) fun a S => ?_
   refine gy rfl rfl rfl S (y_bin rfl S rfl rfl rfl) fun a S => ?_
   refine gm S fun a S => ?_
   refine' wl_or 4 62 rfl S H rfl rfl rfl rfl rfl rfl rfl (fun _ S => (wn rfl)) (fun h10 kk => ?yh10) (fun a w S H => ?_)
   case yh10 =>
    have h10p := h10; try simp only [DL] at h10p
    refine gz 62 h10 S rfl rfl rfl rfl rfl rfl (y_faddrb rfl Ffo110_0 S rfl) fun a S => ?_
    refine gz 62 h10 S rfl rfl rfl rfl rfl rfl (y_load rfl Fsca9 S H rfl rfl) fun a S => ?_
    refine wl_of (op_call (wg' 62 rfl rfl S rfl h10 rfl) rfl rfl S (co_func rfl Tryz.call18 S rfl) (is_spec _ _ hto) fun v w hc a S => ?_)
    obtain ⟨rfl, he⟩ := hc
    have H := H.ext he
    refine gz 62 h10 S rfl rfl rfl rfl rfl rfl (y_not rfl S rfl) fun a S => ?_
    refine gy rfl rfl rfl S (y_or' rfl h10 S rfl rfl) fun a S => ?_
    exact kk _ _ (S.join 5 67 rfl rfl) H
   refine gm S fun a S => ?_
   refine' wl_or 3 68 rfl S H rfl rfl rfl rfl rfl rfl rfl (fun _ S => (wn rfl)) (fun h11 kk => ?yh11) (fun a w S H => ?_)
   case yh11 =>
    have h11p := h11; try simp only [DL] at h11p
    refine gz 68 h11 S rfl rfl rfl rfl rfl rfl (y_faddrb rfl Ffo110_1 S rfl) fun a S => ?_
    refine gz 68 h11 S rfl rfl rfl rfl rfl rfl (y_load rfl Fsca22 S H rfl rfl) fun a S => ?_
    refine wl_of (op_call (wg' 68 rfl rfl S rfl h11 rfl) rfl rfl S (co_func rfl Tryz.call87 S rfl) (containsS_spec _ t.chain[k].sig 88 [] Tryz.call88 (fun s => !isD s) _ (H.sl t.chain[k].sv) (fun x hx w _ => formed1_spec x w (by have := hxk.2.2 x hx; omega))) fun v w hc a S => ?_)
    obtain ⟨rfl, he⟩ := hc
    have H := H.ext he
    refine gy rfl rfl rfl S (y_or' rfl h11 S rfl rfl) fun a S => ?_
    exact kk _ _ (S.join 4 72 rfl rfl) H
   refine gnt ?_
   have S := (((S.nil.cons S 52 rfl).cons S 53 rfl).cons S 54 rfl).cons S 72 rfl
   refine c_if S rfl (fun h12 => ?_) (fun h12 => ?_)
   ·have h12p := h12; try simp only [DL] at h12p
    have hfx : formX t.chain[k] = false := by
      have e : (((t.chain[k].sig.length : Int)) != 18) = !decide (t.chain[k].sig.length = 18) := by rw [Bool.eq_iff_iff]; simp; omega
      have h := h12
      rw [e] at h
      unfold formX
      have e2 : t.chain[k].sig.any (fun s => !isD s) = !t.chain[k].sig.all isD := by rw [List.all_eq_not_any_not, Bool.not_not]
      rw [e2] at h
      generalize decide (t.chain[k].sig.length = 18) = b1 at h ⊢; generalize isD t.chain[k].tw = b2 at h ⊢; generalize t.chain[k].sig.all isD = b3 at h ⊢
      cases b1 <;> cases b2 <;> cases b3 <;> simp_all
    refine gsr ?_
    refine ga S fun a S => ?_
    refine gnt ?_
    refine g_ret ?_
    refine r_block (r_then (r_then (r_block (r_then (ret1 rfl S rfl ?_)))))
    exact ⟨congrArg Value.bool (by unfold formedB; rw [show t.chain.all formX = false from List.all_eq_false.2 ⟨_, List.getElem_mem hkl, by rw [hfx]; simp⟩, Bool.and_false]), H.toExt⟩
   ·have h12p := h12; try simp only [DL] at h12p
    have hfx : formX t.chain[k] = true := by
      have e : (((t.chain[k].sig.length : Int)) != 18) = !decide (t.chain[k].sig.length = 18) := by rw [Bool.eq_iff_iff]; simp; omega
      have h := h12
      rw [e] at h
      unfold formX
      have e2 : t.chain[k].sig.any (fun s => !isD s) = !t.chain[k].sig.all isD := by rw [List.all_eq_not_any_not, Bool.not_not]
      rw [e2] at h
      generalize decide (t.chain[k].sig.length = 18) = b1 at h ⊢; generalize isD t.chain[k].tw = b2 at h ⊢; generalize t.chain[k].sig.all isD = b3 at h ⊢
      cases b1 <;> cases b2 <;> cases b3 <;> simp_all
    refine g_skip ?_
    refine n_block ?_
    refine n_then ?_
    refine g_region ?_
    refine gy rfl rfl rfl S (y_add rfl S rfl rfl (by omega)) fun a S => ?_
    refine gm S fun a S => ?_
    refine gnt ?_
    refine ⟨k + 1, S.nil.cons S 54 rfl, (S.nil.cons S 52 rfl).cons S 53 rfl, H.drop 1, ?_, ?_⟩
    · exact ⟨by omega, fun i hi hik => by by_cases hjk : i < k; exact hok i hi hjk; (obtain rfl : i = k := by omega); exact hfx⟩
    · omega
  ·have h9p := h9; try simp only [DL] at h9p
   obtain rfl : k = t.chain.length := by omega
   refine g_exit ?_
   refine x_then (x_then (x_eq ?_))
   refine n_then ?_
   have S := S.nil
   refine gsr ?_
   refine ga S fun a S => ?_
   refine gnt ?_
   refine g_ret ?_
   refine ret1 rfl S rfl ?_
   exact ⟨congrArg Value.bool (by unfold formedB; rw [hh, show t.chain.all formX = true from List.all_eq_true.2 fun x hx => by obtain ⟨i, hi, rfl⟩ := List.getElem_of_mem hx; exact hok i hi hi]; rfl), H.toExt⟩
/-- foyer/title.Owner -/
theorem owner_spec (t : TV) (w0 : World) (ht : TOk w0 t) :
    Ret Tryz.prog 42 #[.agg (encT t).toArray] w0 (fun u w => u = .string (ownerS t) ∧ Ext w0 w) := by
 refine ret_of_wp (nt := 18) Tryz.func42 rfl rfl rfl (fl := [(0, .agg (encT t).toArray)]) rfl (fun a S => ?_)
 have H := HSat.start w0
 have H := H.ro0 (Sl t.cv 2 encX t.chain) rfl (ht.sl)
 have H := H.ro0 (CapA t.cv) rfl (ht.cap)
 have H := H.ro0 (XRows t.chain) rfl (ht.rows)
 have hlen := ht.sl.len
 refine gsr ?_
 refine wl_of (op_boxa (wn rfl) rfl rfl rfl S H rfl fun b1 a w S H => ?_)
 refine ga S fun a S => ?_
 refine gnt ?_
 refine g_seq ?_
 refine gsr ?_
 refine gy rfl rfl rfl S (y_faddrb rfl Ffo53_4 S rfl) fun a S => ?_
 refine gy rfl rfl rfl S (y_load rfl Fsca51 S H rfl rfl) fun a S => ?_
 refine gy rfl rfl rfl S (y_lens rfl Tryz.underlying51 S H rfl) fun a S => ?_
 refine ga S fun a S => ?_
 refine gnt ?_
 have S := ((S.nil.cons S 1 rfl).cons S 2 rfl).cons S 3 rfl
 refine gsr ?_
 refine gm S fun a S => ?_
 refine gy rfl rfl rfl S (y_bin rfl S rfl rfl rfl) fun a S => ?_
 refine gnt ?_
 refine c_if S rfl (fun h1 => ?_) (fun h1 => ?_)
 ·have h1p := h1; try simp only [DL] at h1p
  refine gsr ?_
  refine gy rfl rfl rfl S (y_faddrb rfl Ffo53_4 S rfl) fun a S => ?_
  refine gy rfl rfl rfl S (y_load rfl Fsca51 S H rfl rfl) fun a S => ?_
  refine gm S fun a S => ?_
  refine gy rfl rfl rfl S ((y_subn (m := t.chain.length - 1) rfl S rfl rfl (by omega) (by omega))) fun a S => ?_
  refine gy rfl rfl rfl S (y_iaddrn rfl Tryz.underlying51 Fsiz110 S H rfl rfl (by first | assumption | omega | (simp only [LL]; omega))) fun a S => ?_
  refine gy rfl rfl rfl S (y_faddr rfl Ffo110_0 S rfl) fun a S => ?_
  refine gy rfl rfl rfl S (y_loadsf _ rfl Fsca9 S H rfl (by first | assumption | omega | (simp only [LL]; omega)) rfl) fun a S => ?_
  refine ga S fun a S => ?_
  refine gnt ?_
  have S := (S.nil.cons S 1 rfl).cons S 2 rfl
  refine g_ret ?_
  refine r_then (ret1 rfl S rfl ?_)
  exact ⟨by rw [ownerS_some (by omega)], H.toExt⟩
 ·have h1p := h1; try simp only [DL] at h1p
  refine g_skip ?_
  refine n_then ?_
  refine gsr ?_
  refine gy rfl rfl rfl S (y_faddrb rfl Ffo53_3 S rfl) fun a S => ?_
  refine gy rfl rfl rfl S (y_load rfl Fsca9 S H rfl rfl) fun a S => ?_
  refine ga S fun a S => ?_
  refine gnt ?_
  have S := S.nil.cons S 2 rfl
  refine g_ret ?_
  refine ret1 rfl S rfl ?_
  exact ⟨by rw [ownerS_none (by omega)], H.toExt⟩
/-- foyer/title.used$1 -/
theorem used1_spec (x : XV) (b : Nat) (key : ByteArray) (w0 : World) (hb : w0.heap[b]? = some (.cells [Value.string key].toArray 9 (0, 0))) :
    Ret Tryz.prog 91 #[.agg (encX x).toArray, .pointer (some ⟨b, 0, none⟩)] w0 (fun u w => u = .bool (decide (x.tw = key)) ∧ Ext w0 w) := by
 refine ret_of_wp (nt := 8) Tryz.func91 rfl rfl rfl (fl := [(0, .agg (encX x).toArray), (1, .pointer (some ⟨b, 0, none⟩))]) rfl (fun a S => ?_)
 have H := HSat.start w0
 have H := H.ro0 (Atom.ro (Cel b 9 [.string key])) rfl (hb)
 refine gsr ?_
 refine wl_of (op_boxa (wn rfl) rfl rfl rfl S H rfl fun b2 a w S H => ?_)
 refine ga S fun a S => ?_
 refine gnt ?_
 refine gsr ?_
 refine gy rfl rfl rfl S (y_faddrb rfl Ffo110_0 S rfl) fun a S => ?_
 refine gy rfl rfl rfl S (y_load rfl Fsca9 S H rfl rfl) fun a S => ?_
 refine gy rfl rfl rfl S (y_load rfl Fsca9 S H rfl rfl) fun a S => ?_
 refine gy rfl rfl rfl S (y_eqs rfl Tryz.underlying9 S rfl rfl) fun a S => ?_
 refine ga S fun a S => ?_
 refine gnt ?_
 have S := S.nil.cons S 3 rfl
 refine g_ret ?_
 refine ret1 rfl S rfl ?_
 exact ⟨rfl, H.toExt⟩
/-- foyer/title.used -/
theorem used_spec (t : TV) (key : ByteArray) (w0 : World) (ht : TOk w0 t) :
    Ret Tryz.prog 60 #[.agg (encT t).toArray, .string key] w0 (fun u w => u = .bool (usedB t key) ∧ Ext w0 w) := by
 refine ret_of_wp (nt := 15) Tryz.func60 rfl rfl rfl (fl := [(0, .agg (encT t).toArray), (1, .string key)]) rfl (fun a S => ?_)
 have H := HSat.start w0
 have H := H.ro0 (Sl t.cv 2 encX t.chain) rfl (ht.sl)
 have H := H.ro0 (CapA t.cv) rfl (ht.cap)
 have H := H.ro0 (XRows t.chain) rfl (ht.rows)
 have hlen := ht.sl.len
 refine gsr ?_
 refine wl_of (op_boxa (wn rfl) rfl rfl rfl S H rfl fun b2 a w S H => ?_)
 refine wl_of (op_box1 (wn rfl) rfl rfl rfl S H rfl rfl fun b3 a w S H => ?_)
 refine ga S fun a S => ?_
 refine gnt ?_
 refine gsr ?_
 refine gy rfl rfl rfl S (y_faddrb rfl Ffo53_3 S rfl) fun a S => ?_
 refine gy rfl rfl rfl S (y_load rfl Fsca9 S H rfl rfl) fun a S => ?_
 refine gy rfl rfl rfl S (y_load rfl Fsca9 S H rfl rfl) fun a S => ?_
 refine gy rfl rfl rfl S (y_eqs rfl Tryz.underlying9 S rfl rfl) fun a S => ?_
 refine gm S fun a S => ?_
 refine' wl_or 4 9 rfl S H rfl rfl rfl rfl rfl rfl rfl (fun _ S => (wn rfl)) (fun h1 kk => ?yh1) (fun a w S H => ?_)
 case yh1 =>
  have h1p := h1; try simp only [DL] at h1p
  refine gz 9 h1 S rfl rfl rfl rfl rfl rfl (y_faddrb rfl Ffo53_4 S rfl) fun a S => ?_
  refine gz 9 h1 S rfl rfl rfl rfl rfl rfl (y_load rfl Fsca51 S H rfl rfl) fun a S => ?_
  refine gz 9 h1 S rfl rfl rfl rfl rfl rfl (y_makeFunc rfl S rfl rfl) fun a S => ?_
  refine wl_of (op_call (wg' 9 rfl rfl S rfl h1 rfl) rfl rfl S (co_func rfl Tryz.call90 S rfl) (containsX_spec _ t.chain 91 [.pointer (some ⟨b3, 0, none⟩)] Tryz.call91 (fun x => decide (x.tw = key)) _ (H.sl t.cv) (fun x hx w e => used1_spec x b3 key w ((e.block (Array.getElem?_eq_some_iff.1 (H.rd b3)).1).trans (H.rd b3)))) fun v w hc a S => ?_)
  obtain ⟨rfl, he⟩ := hc
  have H := H.ext he
  refine gy rfl rfl rfl S (y_or' rfl h1 S rfl rfl) fun a S => ?_
  exact kk _ _ (S.join 5 14 rfl rfl) H
 refine ga S fun a S => ?_
 refine gnt ?_
 have S := S.nil.cons S 4 rfl
 refine g_ret ?_
 refine ret1 rfl S rfl ?_
 exact ⟨rfl, H.toExt⟩
set_option maxHeartbeats 1000000 in
/-- foyer/title.Message -/
theorem message_spec (t : TV) (tw : ByteArray) (w0 : World) (ht : TOk w0 t) (hz : TSz t) (hto : tw.size ≤ 1000) (hT : Tabs w0) :
    Ret Tryz.prog 62 #[.agg (encT t).toArray, .string tw] w0 (fun u w => u = .string (msgS t tw) ∧ Ext w0 w) := by
 refine ret_of_wp (nt := 35) Tryz.func62 rfl rfl rfl (fl := [(0, .agg (encT t).toArray), (1, .string tw)]) rfl (fun a S => ?_)
 have H := HSat.start w0
 have H := H.ro0 (TabsA) rfl (hT)
 have H := H.ro0 (Sl t.cv 2 encX t.chain) rfl (ht.sl)
 have H := H.ro0 (CapA t.cv) rfl (ht.cap)
 have H := H.ro0 (XRows t.chain) rfl (ht.rows)
 have hlen := ht.sl.len
 refine gsr ?_
 refine wl_of (op_boxa (wn rfl) rfl rfl rfl S H rfl fun b2 a w S H => ?_)
 refine ga S fun a S => ?_
 refine gnt ?_
 refine g_seq ?_
 refine region_st (loud := [8]) (tails := []) (free := []) [0, 1, 2, 3, 4, 5, 6, 7, 8, 9] [] Fmo (by kernel_rfl) (by kernel_rfl) rfl H ?_
 refine m_w rfl rfl (wn rfl) rfl rfl S (fun w H => y_faddrb rfl Ffo53_0 S rfl) fun a S => ?_
 refine m_w rfl rfl (wn rfl) rfl rfl S (fun w H => y_load rfl Fsca3 S H rfl rfl) fun a S => ?_
 refine m_c rfl rfl (wn rfl) rfl rfl S (fun w => co_func rfl Tryz.call53 S rfl) (fun w H => itoa_t t.serial hz.s0.1 hz.s0.2 _ H.tabs) fun a S => ?_
 refine m_w rfl rfl (wn rfl) rfl rfl S (fun w H => y_faddrb rfl Ffo53_1 S rfl) fun a S => ?_
 refine m_w rfl rfl (wn rfl) rfl rfl S (fun w H => y_load rfl Fsca3 S H rfl rfl) fun a S => ?_
 refine m_c rfl rfl (wn rfl) rfl rfl S (fun w => co_func rfl Tryz.call53 S rfl) (fun w H => itoa_t t.show_ hz.s1.1 hz.s1.2 _ H.tabs) fun a S => ?_
 refine m_w rfl rfl (wn rfl) rfl rfl S (fun w H => y_faddrb rfl Ffo53_3 S rfl) fun a S => ?_
 refine m_w rfl rfl (wn rfl) rfl rfl S (fun w H => y_load rfl Fsca9 S H rfl rfl) fun a S => ?_
 refine m_l rfl rfl (fun w H => op_buildSlice (wn rfl) rfl rfl rfl Tryz.underlying22 Finf9 S H (idx := [0, 1, 2]) rfl rfl rfl (z := [.string ⟨#[]⟩, .string ⟨#[]⟩, .string ⟨#[]⟩]) (by kernel_rfl) (cs := [.string (itoaS t.serial), .string (itoaS t.show_), .string t.first]) rfl fun b16 a w S H => m_next H (List.sublist_cons_self _ _) ?_)
 refine m_w rfl rfl (wn rfl) rfl rfl S (fun w H => y_assign rfl S rfl) fun a S => ?_
 refine m_nil (fun w H => ?_)
 refine n_then ?_
 have S := (((S.nil.cons S 1 rfl).cons S 2 rfl).cons S 4 rfl).cons S 5 rfl
 refine g_seq ?_
 refine gsr ?_
 refine gy rfl rfl rfl S (y_faddrb rfl Ffo53_4 S rfl) fun a S => ?_
 refine gy rfl rfl rfl S (y_load rfl Fsca51 S H rfl rfl) fun a S => ?_
 refine gy rfl rfl rfl S (y_lens rfl Tryz.underlying51 S H rfl) fun a S => ?_
 refine gm S fun a S => ?_
 refine gnt ?_
 refine g_block ?_
 have H := ((H.take [Cel b16 9 [.string (itoaS t.serial), .string (itoaS t.show_), .string t.first], Cel b2 53 (encT t), Sl t.cv 2 encX t.chain, CapA t.cv, XRows t.chain, TabsA]).celO [itoaS t.serial, itoaS t.show_, t.first] encS 1 (m := 3) rfl (by intro x _; rfl) rfl (by omega)).take [OSl 9 (.slice (some ⟨b16, 0, none⟩) 3 3) 1 encS [itoaS t.serial, itoaS t.show_, t.first], Cel b2 53 (encT t), Sl t.cv 2 encX t.chain, CapA t.cv, XRows t.chain, TabsA]
 have SU := (((S.nil.cons S 1 rfl).cons S 4 rfl).cons S 18 rfl).cons S 19 rfl
 refine loopW (X := Nat × Value) SU (fun x => [(20, .int .i64 (x.1 : Int)), (5, x.2)]) (fun x w => x.1 ≤ t.chain.length ∧ HSat No w0 [OSl 9 x.2 1 encS ([itoaS t.serial, itoaS t.show_, t.first] ++ (t.chain.take (x.1)).map (·.tw)), Cel b2 53 (encT t), Sl t.cv 2 encX t.chain, CapA t.cv, XRows t.chain, TabsA] w) (fun x => t.chain.length - x.1) (0, .slice (some ⟨b16, 0, none⟩) 3 3) ((S.nil.cons S 5 rfl).cons S 20 rfl) (⟨by simp, H⟩) (fun x a w S hW => ?_)
 simp only [List.cons_append, List.nil_append] at S
 obtain ⟨k, u⟩ := x
 obtain ⟨hk, H⟩ := hW
 dsimp only at S H hk
 refine gsr ?_
 refine gy rfl rfl rfl S (y_bin rfl S rfl rfl rfl) fun a S => ?_
 refine gnt ?_
 refine g_seq ?_
 refine c_if S rfl (fun h1 => ?_) (fun h1 => ?_)
 ·have h1p := h1; try simp only [DL] at h1p
  refine g_skip ?_
  refine n_then ?_
  refine g_seq ?_
  refine g_block ?_
  refine gsr ?_
  refine gy rfl rfl rfl S (y_iaddrn rfl Tryz.underlying51 Fsiz110 S H rfl rfl (by first | assumption | omega | (simp only [LL]; omega))) fun a S => ?_
  refine gy rfl rfl rfl S (y_loadsa _ rfl S H rfl (by exact Fagg110) (by first | assumption | omega | (simp only [LL]; omega))) fun a S => ?_
  refine wl_of (op_alloc (wn rfl) rfl rfl rfl S H Fzer110 fun b7 a w S H => ?_)
  refine wl_of (op_storea (wn rfl) rfl rfl S H rfl rfl (encX_one (w := w) (H.sl1 t.chain[k].sv)) Fsiz110 rfl (cs' := [_, _]) rfl fun a w S H => ?_)
  refine gnt ?_
  refine g_region ?_
  refine gm S fun a S => ?_
  refine gy rfl rfl rfl S (y_faddrb rfl Ffo110_0 S rfl) fun a S => ?_
  refine gy rfl rfl rfl S (y_load rfl Fsca9 S H rfl rfl) fun a S => ?_
  refine wl_of (op_buildSlice (wn rfl) rfl rfl rfl Tryz.underlying22 Finf9 S H (idx := [0]) rfl rfl rfl (z := [.string ⟨#[]⟩]) (by kernel_rfl) (cs := [_]) rfl fun b27 a w S H => ?_)
  refine wl_of (op_append ([t.chain[k].tw]) (wn rfl) rfl rfl rfl Tryz.underlying22 Finf9 rfl rfl S H rfl rfl rfl rfl (by simp) (by simp [encS]) (by simp [encS, Value.oneCell']) (by simp only [List.length_append, List.length_cons, List.length_nil, List.length_map, List.length_take]; have := hz.len; omega) (by simp only [List.length_append, List.length_cons, List.length_nil, List.length_map, List.length_take]; have := hz.len; omega) fun u28 a w hn28 S H => ?_)
  have e28 : ([itoaS t.serial, itoaS t.show_, t.first] ++ (t.chain.take (k)).map (·.tw)) ++ [t.chain[k].tw] = ([itoaS t.serial, itoaS t.show_, t.first] ++ (t.chain.take (k + 1)).map (·.tw)) := by rw [List.take_succ_eq_append_getElem (by omega), List.map_append, List.append_assoc]; rfl
  rw [e28] at H
  refine ga S fun a S => ?_
  refine gl_nil ?_
  refine n_block ?_
  refine n_then ?_
  have S := (((((S.nil.cons S 1 rfl).cons S 4 rfl).cons S 18 rfl).cons S 19 rfl).cons S 20 rfl).cons S 5 rfl
  refine g_region ?_
  refine gy rfl rfl rfl S (y_add rfl S rfl rfl (by omega)) fun a S => ?_
  refine gm S fun a S => ?_
  refine gnt ?_
  exact ⟨(k + 1, u28), (S.nil.cons S 5 rfl).cons S 20 rfl, (((S.nil.cons S 1 rfl).cons S 4 rfl).cons S 18 rfl).cons S 19 rfl, ⟨by dsimp only; omega, H.take [OSl 9 u28 1 encS ([itoaS t.serial, itoaS t.show_, t.first] ++ (t.chain.take (k + 1)).map (·.tw)), Cel b2 53 (encT t), Sl t.cv 2 encX t.chain, CapA t.cv, XRows t.chain, TabsA]⟩, by dsimp only; omega⟩
 ·have h1p := h1; try simp only [DL] at h1p
  obtain rfl : k = t.chain.length := by omega
  rw [List.take_length] at H
  refine g_exit ?_
  refine x_then (x_then (x_eq ?_))
  refine n_then ?_
  have S := ((S.nil.cons S 1 rfl).cons S 4 rfl).cons S 5 rfl
  refine gsr ?_
  refine gm S fun a S => ?_
  refine gm S fun a S => ?_
  refine wl_of (op_buildSlice (wn rfl) rfl rfl rfl Tryz.underlying22 Finf9 S H (idx := [0]) rfl rfl rfl (z := [.string ⟨#[]⟩]) (by kernel_rfl) (cs := [_]) rfl fun b32 a w S H => ?_)
  refine wl_of (op_append ([tw]) (wn rfl) rfl rfl rfl Tryz.underlying22 Finf9 rfl rfl S H rfl rfl rfl rfl (by simp) (by simp [encS]) (by simp [encS, Value.oneCell']) (by simp only [List.length_append, List.length_cons, List.length_nil, List.length_map, List.length_take]; have := hz.len; omega) (by simp only [List.length_append, List.length_cons, List.length_nil, List.length_map, List.length_take]; have := hz.len; omega) fun u33 a w hn33 S H => ?_)
  have H : HSat No w0 (_ :: OSl 9 u33 1 encS (msgL t tw) :: _) w := H
  refine wl_of (op_call (wn rfl) rfl rfl S (co_func rfl Tryz.call43 S rfl) (list_t u33 (msgL t tw) _ H.tabs (H.sl u33) (list_ok (msgL_size hz hto).1 (by have := (msgL_size hz hto).2; omega))) fun v w hc a S => ?_)
  obtain ⟨rfl, he⟩ := hc
  have H := H.ext he
  refine ga S fun a S => ?_
  refine gnt ?_
  have S := S.nil.cons S 4 rfl
  refine g_ret ?_
  refine ret1 rfl S rfl ?_
  exact ⟨rfl, H.toExt⟩
end Go.Proofs.YtjdbggnhdeaflaaGreatDoor
end
section
namespace Go.Proofs.YtjdbggnhdeaflaaGreatDoor
open Go Go.Gw
set_option linter.unusedVariables false
set_option linter.unusedSimpArgs false
/-- foyer/title.steps -/
theorem steps_spec (t : TV) (w0 : World) :
    Ret Tryz.prog 59 #[.agg (encT t).toArray] w0 (fun u w => ∃ c1, u = .func (.func 89) #[] #[.pointer (some ⟨c1, 0, none⟩)] ∧ HSat No w0 [Cel c1 53 (encT t)] w) := by
 refine ret_of_wp (nt := 4) Tryz.func59 rfl rfl rfl (fl := [(0, .agg (encT t).toArray)]) rfl (fun a S => ?_)
 have H := HSat.start w0
 refine gsr ?_
 refine wl_of (op_boxa (wn rfl) rfl rfl rfl S H rfl fun b1 a w S H => ?_)
 refine ga S fun a S => ?_
 refine gnt ?_
 refine gsr ?_
 refine gy rfl rfl rfl S (y_makeFunc rfl S rfl rfl) fun a S => ?_
 refine ga S fun a S => ?_
 refine gnt ?_
 have S := S.nil.cons S 2 rfl
 refine g_ret ?_
 refine ret1 rfl S rfl ?_
 exact ⟨_, rfl, H⟩
set_option maxHeartbeats 1000000 in
/-- foyer/title.steps$1 -/
theorem steps_iter {M : Nat → Prop} {u0 : World} {Z : Type} (L : Nat → Z → List Atom) (LS : Z → List Atom) (lb c1 : Nat) (t : TV) (w0 : World)
    (hround : ∀ k (h : k < t.chain.length) z w, HSat M u0 (Atom.ro (Cel c1 53 (encT t)) :: Sl t.cv 2 encX t.chain :: CapA t.cv :: XRows t.chain :: L k z) w → YieldRet Tryz.prog lb #[.agg (encT (cutT t k)).toArray, .agg (encX t.chain[k]).toArray] w (fun u w' => ∃ b, u = .bool b ∧ ∃ z, HSat M u0 (Atom.ro (Cel c1 53 (encT t)) :: Sl t.cv 2 encX t.chain :: CapA t.cv :: XRows t.chain :: cond b (L (k + 1) z) (LS z)) w')) (h0 : ∃ z, HSat M u0 (Atom.ro (Cel c1 53 (encT t)) :: Sl t.cv 2 encX t.chain :: CapA t.cv :: XRows t.chain :: L 0 z) w0) :
    Ret Tryz.prog 89 #[.func (.yield lb) #[] #[], .pointer (some ⟨c1, 0, none⟩)] w0 (fun u w => (∃ z, HSat M u0 (Atom.ro (Cel c1 53 (encT t)) :: Sl t.cv 2 encX t.chain :: CapA t.cv :: XRows t.chain :: L t.chain.length z) w) ∨ (∃ z, HSat M u0 (Atom.ro (Cel c1 53 (encT t)) :: Sl t.cv 2 encX t.chain :: CapA t.cv :: XRows t.chain :: LS z) w)) := by
 refine ret_of_wp (nt := 26) Tryz.func89 rfl rfl rfl (fl := [(0, .func (.yield lb) #[] #[]), (1, .pointer (some ⟨c1, 0, none⟩))]) rfl (fun a S => ?_)
 obtain ⟨z0, H⟩ := h0
 have hlen := (H.sl t.cv (xs := t.chain)).len
 refine gsr ?_
 refine gy rfl rfl rfl S (y_faddrb rfl Ffo53_4 S rfl) fun a S => ?_
 refine gy rfl rfl rfl S (y_load rfl Fsca51 S H rfl rfl) fun a S => ?_
 refine gy rfl rfl rfl S (y_lens rfl Tryz.underlying51 S H rfl) fun a S => ?_
 refine gm S fun a S => ?_
 refine gnt ?_
 refine g_block ?_
 have SU := (((S.nil.cons S 1 rfl).cons S 0 rfl).cons S 7 rfl).cons S 8 rfl
 refine loopW (X := Nat) SU (fun k => [(9, .int .i64 (k : Int))]) (fun k w => k ≤ t.chain.length ∧ ∃ z, HSat M u0 (Atom.ro (Cel c1 53 (encT t)) :: Sl t.cv 2 encX t.chain :: CapA t.cv :: XRows t.chain :: L k z) w) (fun k => t.chain.length - k) 0 (S.nil.cons S 9 rfl) (⟨by omega, z0, H⟩) (fun k a w S hW => ?_)
 simp only [List.cons_append, List.nil_append] at S
 obtain ⟨hk, z, H⟩ := hW
 refine gsr ?_
 refine gy rfl rfl rfl S (y_bin rfl S rfl rfl rfl) fun a S => ?_
 refine gnt ?_
 refine g_seq ?_
 refine c_if S rfl (fun h1 => ?_) (fun h1 => ?_)
 ·have h1p := h1; try simp only [DL] at h1p
  have hkl : k < t.chain.length := by omega
  refine g_skip ?_
  refine n_then ?_
  refine g_seq ?_
  refine g_block ?_
  refine gsr ?_
  refine gm S fun a S => ?_
  refine gy rfl rfl rfl S (y_iaddrn rfl Tryz.underlying51 Fsiz110 S H rfl rfl (by first | assumption | omega | (simp only [LL]; omega))) fun a S => ?_
  refine gy rfl rfl rfl S (y_loadsa _ rfl S H rfl (by exact Fagg110) (by first | assumption | omega | (simp only [LL]; omega))) fun a S => ?_
  refine wl_of (op_alloc (wn rfl) rfl rfl rfl S H Fzer110 fun b4 a w S H => ?_)
  refine ga S fun a S => ?_
  refine wl_of (op_storea (wn rfl) rfl rfl S H rfl rfl (encX_one (w := w) (H.sl1 t.chain[k].sv)) Fsiz110 rfl (cs' := [_, _]) rfl fun a w S H => ?_)
  refine gnt ?_
  have S := ((((((S.nil.cons S 1 rfl).cons S 0 rfl).cons S 7 rfl).cons S 8 rfl).cons S 9 rfl).cons S 4 rfl).cons S 3 rfl
  refine gsr ?_
  refine gy rfl rfl rfl S (y_load0 rfl S H rfl (by exact Fagg53)) fun a S => ?_
  refine wl_of (op_alloc (wn rfl) rfl rfl rfl S H Fzer53 fun b5 a w S H => ?_)
  refine wl_of (op_storea (wn rfl) rfl rfl S H rfl rfl (encT_one (H.sl1 t.cv)) Fsiz53 rfl (cs' := [_, _, _, _, _]) rfl fun a w S H => ?_)
  refine gnt ?_
  refine gsr ?_
  refine gy rfl rfl rfl S (y_faddrb rfl Ffo53_4 S rfl) fun a S => ?_
  refine gy rfl rfl rfl S (y_load rfl Fsca51 S H rfl rfl) fun a S => ?_
  refine gm S fun a S => ?_
  refine gy rfl rfl rfl S (y_sliceH rfl Tryz.underlying51 Fsiz110 S H rfl rfl (by first | assumption | omega | (simp only [LL]; omega))) fun a S => ?_
  refine gy rfl rfl rfl S (y_faddrb rfl Ffo53_4 S rfl) fun a S => ?_
  refine wl_of (op_store (wn rfl) rfl rfl S H rfl rfl (H.sl1 _) Fsiz51 rfl fun a w S H => ?_)
  dsimp only [List.set, Nat.zero_add, Nat.reduceAdd] at H
  refine gnt ?_
  have S := ((((((S.nil.cons S 1 rfl).cons S 0 rfl).cons S 7 rfl).cons S 8 rfl).cons S 9 rfl).cons S 4 rfl).cons S 5 rfl
  refine gsr ?_
  refine gm S fun a S => ?_
  refine gy rfl rfl rfl S (y_load0 rfl S H rfl (by exact Fagg53)) fun a S => ?_
  refine gy rfl rfl rfl S (y_load0 rfl S H rfl (by exact Fagg110)) fun a S => ?_
  refine wl_of (op_yield (wn rfl) rfl rfl rfl S rfl rfl (hround k hkl z _ (H.drop 2)) fun u w hc a S => ?_)
  obtain ⟨b, rfl, z2, H⟩ := hc
  refine gy rfl rfl rfl S (y_not rfl S rfl) fun a S => ?_
  refine gnt ?_
  have S := (((((S.nil.cons S 1 rfl).cons S 0 rfl).cons S 7 rfl).cons S 8 rfl).cons S 9 rfl).cons S 24 rfl
  refine c_if S rfl (fun h2 => ?_) (fun h2 => ?_)
  ·have h2p := h2; try simp only [DL] at h2p
   refine g_ret ?_
   refine r_block (r_then (r_then (r_block (ret0 rfl S ?_))))
   obtain rfl : b = false := by simpa using h2
   exact .inr ⟨z2, H⟩
  ·have h2p := h2; try simp only [DL] at h2p
   refine g_skip ?_
   refine n_block ?_
   refine n_then ?_
   refine g_region ?_
   refine gy rfl rfl rfl S (y_add rfl S rfl rfl (by omega)) fun a S => ?_
   refine gm S fun a S => ?_
   refine gnt ?_
   obtain rfl : b = true := by simpa using h2
   exact ⟨k + 1, S.nil.cons S 9 rfl, (((S.nil.cons S 1 rfl).cons S 0 rfl).cons S 7 rfl).cons S 8 rfl, ⟨by omega, z2, H⟩, by omega⟩
 ·have h1p := h1; try simp only [DL] at h1p
  obtain rfl : k = t.chain.length := by omega
  refine g_exit ?_
  refine x_then (x_then (x_eq ?_))
  refine ret0n rfl S ?_
  exact .inl ⟨z, H⟩
set_option maxHeartbeats 1000000 in
/-- foyer/title.Valid -/
theorem valid_spec (t : TV) (w0 : World) (ht : TOk w0 t) (hz : TSz t) (hT : Tabs w0) :
    Ret Tryz.prog 39 #[.agg (encT t).toArray] w0 (fun u w => u = .bool (validB t) ∧ Ext w0 w) := by
 refine ret_of_wp (nt := 28) Tryz.func39 rfl rfl rfl (fl := [(0, .agg (encT t).toArray)]) rfl (fun a S => ?_)
 have H := HSat.start w0
 have H := H.ro0 (TabsA) rfl (hT)
 have H := H.ro0 (Sl t.cv 2 encX t.chain) rfl (ht.sl)
 have H := H.ro0 (CapA t.cv) rfl (ht.cap)
 have H := H.ro0 (XRows t.chain) rfl (ht.rows)
 have hlen := ht.sl.len
 refine gsr ?_
 refine wl_of (op_boxa (wn rfl) rfl rfl rfl S H rfl fun b1 a w S H => ?_)
 refine wl_of (op_alloc (wn rfl) rfl rfl rfl S H Fzer4 fun b2 a w S H => ?_)
 refine gnt ?_
 refine g_seq ?_
 refine gsr ?_
 refine gy rfl rfl rfl S (y_load0 rfl S H rfl (by exact Fagg53)) fun a S => ?_
 refine wl_of (op_call (wn rfl) rfl rfl S (co_func rfl Tryz.call58 S rfl) (formed_spec t _ (H.tok t) hz) fun v w hc a S => ?_)
 obtain ⟨rfl, he⟩ := hc
 have H := H.ext he
 refine gy rfl rfl rfl S (y_not rfl S rfl) fun a S => ?_
 refine gnt ?_
 refine c_if S rfl (fun h1 => ?_) (fun h1 => ?_)
 ·have h1p := h1; try simp only [DL] at h1p
  have hff : formedB t = false := by simpa using h1
  refine gsr ?_
  refine wl_of (op_store (wn rfl) rfl rfl S H rfl rfl rfl Fsiz4 rfl fun a w S H => ?_)
  dsimp only [List.set, Nat.zero_add, Nat.reduceAdd] at H
  refine gnt ?_
  have S := (S.nil.cons S 1 rfl).cons S 2 rfl
  refine g_ret ?_
  refine r_then (retcsM rfl S (H.defs0) rfl Fsca4 rfl (fun w H => ?_))
  exact ⟨congrArg Value.bool (by unfold validB; rw [hff]; rfl), H.toExt⟩
 ·have h1p := h1; try simp only [DL] at h1p
  have hff : formedB t = true := by simpa using h1
  refine g_skip ?_
  refine n_then ?_
  have S := (S.nil.cons S 1 rfl).cons S 2 rfl
  refine g_seq ?_
  refine gsr ?_
  refine gy rfl rfl rfl S (y_load0 rfl S H rfl (by exact Fagg53)) fun a S => ?_
  refine wl_of (op_call (wn rfl) rfl rfl S (co_func rfl Tryz.call59 S rfl) (steps_spec t _) fun v w hc a S => ?_)
  obtain ⟨c1, rfl, H1⟩ := hc
  have H := H.call1 H1 rfl
  have H := (H.freeze.laid (p := ∀ i, i < 0 → stepB t i = true) (fun i h => absurd h (by omega))).defs0
  refine gnt ?_
  refine g_block ?_
  refine g_range (Φ := fun p l2 => l2 = [Cel b2 4 [.bool false]] ∧ ((p = none ∧ ∀ i, i < t.chain.length → stepB t i = true) ∨ (p = some .ret ∧ ∃ i, i < t.chain.length ∧ stepB t i = false))) S (H.take [DefsA [], PureA (∀ i, i < 0 → stepB t i = true), Atom.ro (Cel c1 53 (encT t)), Sl t.cv 2 encX t.chain, CapA t.cv, XRows t.chain, TabsA, Cel b2 4 [.bool false], Cel b1 53 (encT t)]) rfl Tryz.call89 (fun R lb w1 hrec H1 => ?_) ?_
  ·have SR := S.recd
   refine Ret.mono (steps_iter (M := No) (u0 := w0) (Z := Unit) (fun k _ => Blk lb (.loop R) :: DefsA [R.defers] :: Cel b2 4 [.bool false] :: Cel b1 53 (encT t) :: TabsA :: PureA (∀ i, i < k → stepB t i = true) :: []) (fun _ => Blk lb (.loop { R with state := .done, pending := some .ret }) :: DefsA [R.defers] :: Cel b2 4 [.bool false] :: PureA (∃ i, i < t.chain.length ∧ stepB t i = false) :: []) lb c1 t w1 (fun k hk z w H => ?_) ⟨(), H1.take [Atom.ro (Cel c1 53 (encT t)), Sl t.cv 2 encX t.chain, CapA t.cv, XRows t.chain, Blk lb (.loop R), DefsA [R.defers], Cel b2 4 [.bool false], Cel b1 53 (encT t), TabsA, PureA (∀ i, i < 0 → stepB t i = true)]⟩) ?_
   ·have hxk := hz.x t.chain[k] (List.getElem_mem hk)
    skip
    refine yield2 hrec SR H rfl rfl (fun a S => ?_)
    refine gsr ?_
    refine wl_of (op_alloc (wn rfl) rfl rfl rfl S H Fzer53 fun b3 a w S H => ?_)
    refine wl_of (op_storea (wn rfl) rfl rfl S H rfl rfl (encT_one (t := cutT t k) (H.sl1 (subV t.cv 0 k 2))) Fsiz53 rfl (cs' := [_, _, _, _, _]) rfl fun a w S H => ?_)
    refine gnt ?_
    have S := ((S.nil.cons S 2 rfl).cons S 11 rfl).cons S 3 rfl
    refine g_region ?_
    refine wl_of (op_alloc (wn rfl) rfl rfl rfl S H Fzer110 fun b4 a w S H => ?_)
    refine wl_of (op_storea (wn rfl) rfl rfl S H rfl rfl (encX_one (w := w) (H.sl1 t.chain[k].sv)) Fsiz110 rfl (cs' := [_, _]) rfl fun a w S H => ?_)
    refine gnt ?_
    refine r_begin hrec H (fun w H => ?_)
    refine g_block ?_
    refine g_seq ?_
    refine region_st (loud := []) (tails := []) (free := []) [0, 1, 2, 3, 4, 5, 6, 7, 8, 9, 10, 11, 12, 13, 14, 15] [] Fmo (by kernel_rfl) (by kernel_rfl) rfl H ?_
    refine m_w rfl rfl (wn rfl) rfl rfl S (fun w H => y_load0 rfl S H rfl (by exact Fagg53)) fun a S => ?_
    refine m_w rfl rfl (wn rfl) rfl rfl S (fun w H => y_faddrb rfl Ffo110_0 S rfl) fun a S => ?_
    refine m_w rfl rfl (wn rfl) rfl rfl S (fun w H => y_load rfl Fsca9 S H rfl rfl) fun a S => ?_
    refine m_c rfl rfl (wn rfl) rfl rfl S (fun w => co_func rfl Tryz.call60 S rfl) (fun w H => (by have h := used_spec (cutT t k) t.chain[k].tw w ((H.tok t).cut k); unfold encT at h; exact h)) fun a S => ?_
    refine m_w rfl rfl (wn rfl) rfl rfl S (fun w H => y_move rfl S rfl) fun a S => ?_
    refine' m_orq [5, 6, 7, 8, 9, 10, 11, 12, 13, 14] 16 S rfl rfl rfl rfl rfl rfl rfl rfl rfl (fun _ S => (wn rfl)) (fun h2 kk => ?yh2) (fun a S => ?_)
    case yh2 =>
     have h2p := h2; try simp only [DL] at h2p
     refine m_w rfl rfl (wg' 16 rfl rfl S rfl h2 rfl) rfl rfl S (fun w H => y_load0 rfl S H rfl (by exact Fagg53)) fun a S => ?_
     refine m_c rfl rfl (wg' 16 rfl rfl S rfl h2 rfl) rfl rfl S (fun w => co_func rfl Tryz.call42 S rfl) (fun w H => owner_spec (cutT t k) _ ((H.tok t).cut k)) fun a S => ?_
     refine m_w rfl rfl (wg' 16 rfl rfl S rfl h2 rfl) rfl rfl S (fun w H => y_load0 rfl S H rfl (by exact Fagg53)) fun a S => ?_
     refine m_w rfl rfl (wg' 16 rfl rfl S rfl h2 rfl) rfl rfl S (fun w H => y_faddrb rfl Ffo110_0 S rfl) fun a S => ?_
     refine m_w rfl rfl (wg' 16 rfl rfl S rfl h2 rfl) rfl rfl S (fun w H => y_load rfl Fsca9 S H rfl rfl) fun a S => ?_
     refine m_c rfl rfl (wg' 16 rfl rfl S rfl h2 rfl) rfl rfl S (fun w => co_func rfl Tryz.call62 S rfl) (fun w H => (by have h := message_spec (cutT t k) t.chain[k].tw w ((H.tok t).cut k) (hz.cut k) hxk.1 H.tabs; unfold encT at h; exact h)) fun a S => ?_
     refine m_w rfl rfl (wg' 16 rfl rfl S rfl h2 rfl) rfl rfl S (fun w H => y_faddrb rfl Ffo110_1 S rfl) fun a S => ?_
     refine m_w rfl rfl (wg' 16 rfl rfl S rfl h2 rfl) rfl rfl S (fun w H => y_load rfl Fsca22 S H rfl rfl) fun a S => ?_
     refine m_c rfl rfl (wg' 16 rfl rfl S rfl h2 rfl) rfl rfl S (fun w => co_func rfl Tryz.call61 S rfl) (fun w H => verify_spec (ownerS (cutT t k)) (msgS (cutT t k) t.chain[k].tw) t.chain[k].sv t.chain[k].sig _ H.tabs (by rw [show msgS (cutT t k) t.chain[k].tw = listS _ from rfl, listS_size]; decide) hxk.2.2 (H.sl t.chain[k].sv)) fun a S => ?_
     refine m_w rfl rfl (wg' 16 rfl rfl S rfl h2 rfl) rfl rfl S (fun w H => y_not rfl S rfl) fun a S => ?_
     refine m_w rfl rfl (wn rfl) rfl rfl S (fun w H => y_or' rfl h2 S rfl rfl) fun a S => ?_
     exact kk _ (S.join 11 27 rfl rfl)
    refine m_nil (fun w H => ?_)
    refine n_then ?_
    have S := (S.nil.cons S 2 rfl).cons S 27 rfl
    refine c_if S rfl (fun h3 => ?_) (fun h3 => ?_)
    ·have h3p := h3; try simp only [DL] at h3p
     have hst : stepB t k = false := by rw [stepB_at hk]; have h := h3; generalize usedB (cutT t k) t.chain[k].tw = b1 at h ⊢; generalize verB (ownerS (cutT t k)) (msgS (cutT t k) t.chain[k].tw) t.chain[k].sig = b2 at h ⊢; cases b1 <;> cases b2 <;> simp_all
     refine gsr ?_
     refine wl_of (op_store (wn rfl) rfl rfl S H rfl rfl rfl Fsiz4 rfl fun a w S H => ?_)
     dsimp only [List.set, Nat.zero_add, Nat.reduceAdd] at H
     refine gnt ?_
     refine g_ret ?_
     refine r_block (r_ret H (fun w H => ?_))
     exact ⟨false, rfl, (), by have h := (H.laid (p := ∃ i, i < t.chain.length ∧ stepB t i = false) ⟨k, hk, hst⟩).take [Atom.ro (Cel c1 53 (encT t)), Sl t.cv 2 encX t.chain, CapA t.cv, XRows t.chain, Blk lb (.loop { R with state := .done, pending := some .ret }), DefsA [R.defers], Cel b2 4 [.bool false], PureA (∃ i, i < t.chain.length ∧ stepB t i = false)]; exact h⟩
    ·have h3p := h3; try simp only [DL] at h3p
     have hst : stepB t k = true := by rw [stepB_at hk]; have h := h3; generalize usedB (cutT t k) t.chain[k].tw = b1 at h ⊢; generalize verB (ownerS (cutT t k)) (msgS (cutT t k) t.chain[k].tw) t.chain[k].sig = b2 at h ⊢; cases b1 <;> cases b2 <;> simp_all
     refine g_skip ?_
     refine n_block ?_
     refine r_end hrec H (fun w H => ?_)
     exact ⟨true, rfl, (), by have h := (H.laid (p := ∀ i, i < k + 1 → stepB t i = true) (fun i hi => by by_cases hik : i < k; exact (H.take [PureA (∀ i, i < k → stepB t i = true)]).fact i hik; (obtain rfl : i = k := by omega); exact hst)).take [Atom.ro (Cel c1 53 (encT t)), Sl t.cv 2 encX t.chain, CapA t.cv, XRows t.chain, Blk lb (.loop R), DefsA [R.defers], Cel b2 4 [.bool false], Cel b1 53 (encT t), TabsA, PureA (∀ i, i < k + 1 → stepB t i = true)]; exact h⟩
   ·rintro _ w2 (⟨_, H2⟩ | ⟨_, H2⟩)
    · have hf := (H2.take [PureA (∀ i, i < t.chain.length → stepB t i = true)]).fact
      exact ⟨.ready, none, _, by simp, ⟨rfl, .inl ⟨rfl, hf⟩⟩, by rw [hrec.same]; exact H2.take [Blk lb (.loop R), DefsA [R.defers], Cel b2 4 [.bool false]]⟩
    · have hf := (H2.take [PureA (∃ i, i < t.chain.length ∧ stepB t i = false)]).fact
      exact ⟨.done, some .ret, _, by simp, ⟨rfl, .inr ⟨rfl, hf⟩⟩, H2.take [Blk lb (.loop { R with state := .done, pending := some .ret }), DefsA [R.defers], Cel b2 4 [.bool false]]⟩
  ·intro bd a w pend l2 S H hΦ
   obtain ⟨rfl, hΦ⟩ := hΦ
   rcases hΦ with ⟨rfl, hall⟩ | ⟨rfl, hbad⟩
   rotate_left
   ·skip
    refine g_ret ?_
    refine r_block (r_then (retcsM rfl S (H.front (DefsA [bd])) rfl Fsca4 rfl (fun w H => ?_)))
    obtain ⟨i, hi, hb⟩ := hbad
    exact ⟨congrArg Value.bool (by unfold validB; rw [show (List.range t.chain.length).all (stepB t) = false from List.all_eq_false.2 ⟨i, List.mem_range.2 hi, by rw [hb]; simp⟩, Bool.and_false]), H.toExt⟩
   refine n_block ?_
   refine n_then ?_
   refine gsr ?_
   refine wl_of (op_store (wn rfl) rfl rfl S H rfl rfl rfl Fsiz4 rfl fun a w S H => ?_)
   dsimp only [List.set, Nat.zero_add, Nat.reduceAdd] at H
   refine gnt ?_
   refine g_ret ?_
   refine retcsM rfl S (H.front (DefsA [bd])) rfl Fsca4 rfl (fun w H => ?_)
   exact ⟨congrArg Value.bool (by unfold validB; rw [hff, show (List.range t.chain.length).all (stepB t) = true from List.all_eq_true.2 fun i hi => hall i (List.mem_range.1 hi)]; rfl), H.toExt⟩
end Go.Proofs.YtjdbggnhdeaflaaGreatDoor
end
section
namespace Go.Proofs.YtjdbggnhdeaflaaGreatDoor
open Go Go.Gw
set_option linter.unusedVariables false
set_option linter.unusedSimpArgs false
theorem chunkOut {M : Nat → Prop} {w0 w : World} {l : List Atom} {e : TypeId} {x y : Atom} {sv : Value} {xs : List ByteArray} {k : Nat} (H : HSat M w0 (x :: y :: Atom.ro (OSl e sv 1 encS xs) :: l) w) (h : 2 * k < xs.length) :
    HSat M w0 (Sl (subM sv (2 * k) (min (2 * k + 2) xs.length) (min (2 * k + 2) xs.length) 1) 1 encS ((xs.take (min (2 * k + 2) xs.length)).drop (2 * k)) :: x :: y :: Atom.ro (OSl e sv 1 encS xs) :: l) w := by
  have H1 := (H.perm (p3e (r := l)))
  have H2 := H1.partM (2 * k) (min (2 * k + 2) xs.length) (min (2 * k + 2) xs.length) (by omega) (by omega) (Nat.le_refl _)
  exact H2.perm (.cons _ (p3d (r := l)))
theorem fill_set {α : Type} {A : List α} {z : α} {i : Nat} (h : i < A.length) : ((A.take i) ++ List.replicate (A.length - i) z).set i A[i] = (A.take (i + 1)) ++ List.replicate (A.length - (i + 1)) z := by
  rw [List.set_append_right _ _ (by rw [List.length_take]; omega), List.take_succ_eq_append_getElem h, List.append_assoc]
  congr 1
  rw [List.length_take, Nat.min_eq_left (by omega), Nat.sub_self, show A.length - i = (A.length - (i + 1)) + 1 by omega, List.replicate_succ, List.set_cons_zero]
  rfl
/-- foyer/tree.of -/
theorem treeof_spec (va : Value) (xs : List ByteArray) (w0 : World) (hT : Tabs w0) (ha : IsSl w0 va 1 encS xs) (hb : (joinL xs).length ≤ 140737488355328) :
    Ret Tryz.prog 50 #[va] w0 (fun u w => u = .string (listS xs) ∧ Ext w0 w) := by
 refine ret_of_wp (nt := 5) Tryz.func50 rfl rfl rfl (fl := [(0, va)]) rfl (fun a S => ?_)
 have H := HSat.start w0
 have H := H.ro0 (TabsA) rfl (hT)
 have H := H.ro0 (Sl va 1 encS xs) rfl (ha)
 refine gsr ?_
 refine ga S fun a S => ?_
 refine gnt ?_
 refine gsr ?_
 refine gm S fun a S => ?_
 refine wl_of (op_call (wn rfl) rfl rfl S (co_func rfl Tryz.call43 S rfl) (list_t va xs _ H.tabs (H.sl va) hb) fun v w hc a S => ?_)
 obtain ⟨rfl, he⟩ := hc
 have H := H.ext he
 refine ga S fun a S => ?_
 refine gnt ?_
 have S := S.nil.cons S 2 rfl
 refine g_ret ?_
 refine ret1 rfl S rfl ?_
 exact ⟨rfl, H.toExt⟩
/-- foyer/reveal.of -/
theorem revealof_spec (va : Value) (xs : List ByteArray) (w0 : World) (hT : Tabs w0) (ha : IsSl w0 va 1 encS xs) (hb : (joinL xs).length ≤ 140737488355328) :
    Ret Tryz.prog 77 #[va] w0 (fun u w => u = .string (listS xs) ∧ Ext w0 w) := by
 refine ret_of_wp (nt := 5) Tryz.func77 rfl rfl rfl (fl := [(0, va)]) rfl (fun a S => ?_)
 have H := HSat.start w0
 have H := H.ro0 (TabsA) rfl (hT)
 have H := H.ro0 (Sl va 1 encS xs) rfl (ha)
 refine gsr ?_
 refine ga S fun a S => ?_
 refine gnt ?_
 refine gsr ?_
 refine gm S fun a S => ?_
 refine wl_of (op_call (wn rfl) rfl rfl S (co_func rfl Tryz.call43 S rfl) (list_t va xs _ H.tabs (H.sl va) hb) fun v w hc a S => ?_)
 obtain ⟨rfl, he⟩ := hc
 have H := H.ext he
 refine ga S fun a S => ?_
 refine gnt ?_
 have S := S.nil.cons S 2 rfl
 refine g_ret ?_
 refine ret1 rfl S rfl ?_
 exact ⟨rfl, H.toExt⟩
/-- foyer/tree.levels -/
theorem levels_spec (v : Value) (ls : List ByteArray) (w0 : World) (hv : IsSl w0 v 1 encS ls) :
    Ret Tryz.prog 49 #[v] w0 (fun u w => ∃ b, u = .func (.func 78) #[] #[.pointer (some ⟨b, 0, none⟩)] ∧ HSat No w0 [Cel b 22 [v]] w) := by
 refine ret_of_wp (nt := 4) Tryz.func49 rfl rfl rfl (fl := [(0, v)]) rfl (fun a S => ?_)
 have H := HSat.start w0
 have H := H.ro0 (Sl v 1 encS ls) rfl (hv)
 refine gsr ?_
 refine wl_of (op_box1 (wn rfl) rfl rfl rfl S H rfl (H.slc _) fun b1 a w S H => ?_)
 refine ga S fun a S => ?_
 refine gnt ?_
 refine gsr ?_
 refine gy rfl rfl rfl S (y_makeFunc rfl S rfl rfl) fun a S => ?_
 refine ga S fun a S => ?_
 refine gnt ?_
 have S := S.nil.cons S 2 rfl
 refine g_ret ?_
 refine ret1 rfl S rfl ?_
 exact ⟨_, rfl, H.take [Cel b1 22 [v]]⟩
/-- slices.Chunk[[]string,string] -/
theorem chunk_spec (v : Value) (ls : List ByteArray) (w0 : World) (hv : IsSl w0 v 1 encS ls) :
    Ret Tryz.prog 79 #[v, .int .i64 2] w0 (fun u w => ∃ b c, u = .func (.func 102) #[] #[.pointer (some ⟨b, 0, none⟩), .pointer (some ⟨c, 0, none⟩)] ∧ HSat No w0 [Cel c 3 [.int .i64 2], Cel b 22 [v]] w) := by
 refine ret_of_wp (nt := 9) Tryz.func79 rfl rfl rfl (fl := [(0, v), (1, .int .i64 2)]) rfl (fun a S => ?_)
 have H := HSat.start w0
 have H := H.ro0 (Sl v 1 encS ls) rfl (hv)
 refine gsr ?_
 refine wl_of (op_box1 (wn rfl) rfl rfl rfl S H rfl (H.slc _) fun b2 a w S H => ?_)
 refine wl_of (op_box1 (wn rfl) rfl rfl rfl S H rfl rfl fun b3 a w S H => ?_)
 refine ga S fun a S => ?_
 refine gnt ?_
 refine g_seq ?_
 refine gsr ?_
 refine gy rfl rfl rfl S (y_load rfl Fsca3 S H rfl rfl) fun a S => ?_
 refine gy rfl rfl rfl S (y_bin rfl S rfl rfl rfl) fun a S => ?_
 refine gnt ?_
 refine c_if S rfl (fun h1 => ?_) (fun h1 => ?_)
 ·have h1p := h1; try simp only [DL] at h1p
  all_goals (
    exact absurd h1 (by simp))
 ·have h1p := h1; try simp only [DL] at h1p
  refine g_skip ?_
  refine n_then ?_
  have S := ((S.nil.cons S 2 rfl).cons S 3 rfl).cons S 4 rfl
  refine gsr ?_
  refine gy rfl rfl rfl S (y_makeFunc rfl S rfl rfl) fun a S => ?_
  refine ga S fun a S => ?_
  refine gnt ?_
  have S := S.nil.cons S 4 rfl
  refine g_ret ?_
  refine ret1 rfl S rfl ?_
  exact ⟨_, _, rfl, H.take [Cel b3 3 [.int .i64 2], Cel b2 22 [v]]⟩
set_option maxHeartbeats 1000000 in
/-- slices.Chunk[[]string,string]$1 -/
theorem chunk_iter {M : Nat → Prop} {u0 : World} {Z : Type} (L : Nat → Z → List Atom) (lb c1 c2 : Nat) (sv : Value) (xs : List ByteArray) (w0 : World) (hl : xs.length ≤ 100000)
    (hround : ∀ k, 2 * k < xs.length → ∀ z w, HSat M u0 (Sl (subM sv (2 * k) (min (2 * k + 2) xs.length) (min (2 * k + 2) xs.length) 1) 1 encS ((xs.take (min (2 * k + 2) xs.length)).drop (2 * k)) :: Atom.ro (Cel c1 22 [sv]) :: Atom.ro (Cel c2 3 [.int .i64 2]) :: Atom.ro (OSl 9 sv 1 encS xs) :: L k z) w → YieldRet Tryz.prog lb #[(subM sv (2 * k) (min (2 * k + 2) xs.length) (min (2 * k + 2) xs.length) 1)] w (fun u w' => u = .bool true ∧ ∃ z, HSat M u0 (Atom.ro (Cel c1 22 [sv]) :: Atom.ro (Cel c2 3 [.int .i64 2]) :: Atom.ro (OSl 9 sv 1 encS xs) :: L (k + 1) z) w')) (h0 : ∃ z, HSat M u0 (Atom.ro (Cel c1 22 [sv]) :: Atom.ro (Cel c2 3 [.int .i64 2]) :: Atom.ro (OSl 9 sv 1 encS xs) :: L 0 z) w0) :
    Ret Tryz.prog 102 #[.func (.yield lb) #[] #[], .pointer (some ⟨c1, 0, none⟩), .pointer (some ⟨c2, 0, none⟩)] w0 (fun u w => ∃ z, HSat M u0 (Atom.ro (Cel c1 22 [sv]) :: Atom.ro (Cel c2 3 [.int .i64 2]) :: Atom.ro (OSl 9 sv 1 encS xs) :: L ((xs.length + 1) / 2) z) w) := by
 refine ret_of_wp (nt := 31) Tryz.func102 rfl rfl rfl (fl := [(0, .func (.yield lb) #[] #[]), (1, .pointer (some ⟨c1, 0, none⟩)), (2, .pointer (some ⟨c2, 0, none⟩))]) rfl (fun a S => ?_)
 obtain ⟨z0, H⟩ := h0
 refine gsr ?_
 refine ga S fun a S => ?_
 refine gnt ?_
 refine g_block ?_
 have SU := ((S.nil.cons S 2 rfl).cons S 1 rfl).cons S 0 rfl
 refine loopW (X := Nat) SU (fun k => [(4, .int .i64 ((2 * k : Nat) : Int))]) (fun k w => 2 * k < xs.length + 2 ∧ ∃ z, HSat M u0 (Atom.ro (Cel c1 22 [sv]) :: Atom.ro (Cel c2 3 [.int .i64 2]) :: Atom.ro (OSl 9 sv 1 encS xs) :: L k z) w) (fun k => xs.length + 2 - 2 * k) 0 (S.nil.cons S 4 rfl) (⟨by omega, z0, H⟩) (fun k a w S hW => ?_)
 simp only [List.cons_append, List.nil_append] at S
 obtain ⟨hk, z, H⟩ := hW
 refine g_seq ?_
 refine gsr ?_
 refine gm S fun a S => ?_
 refine gy rfl rfl rfl S (y_load rfl Fsca22 S H rfl rfl) fun a S => ?_
 refine gy rfl rfl rfl S (y_lens rfl Tryz.underlying22 S H rfl) fun a S => ?_
 refine gy rfl rfl rfl S (y_bin rfl S rfl rfl rfl) fun a S => ?_
 refine gnt ?_
 refine c_if S rfl (fun h1 => ?_) (fun h1 => ?_)
 ·have h1p := h1; try simp only [DL] at h1p
  refine g_skip ?_
  refine n_then ?_
  have S := (((S.nil.cons S 2 rfl).cons S 1 rfl).cons S 0 rfl).cons S 4 rfl
  refine g_seq ?_
  refine g_block ?_
  refine g_seq ?_
  refine region_st (loud := []) (tails := []) (free := []) [0, 1, 2, 3, 4, 5, 6] [] Fmo (by kernel_rfl) (by kernel_rfl) rfl H ?_
  refine m_w rfl rfl (wn rfl) rfl rfl S (fun w H => y_load rfl Fsca3 S H rfl rfl) fun a S => ?_
  refine m_w rfl rfl (wn rfl) rfl rfl S (fun w H => y_load rfl Fsca22 S H rfl rfl) fun a S => ?_
  refine m_w rfl rfl (wn rfl) rfl rfl S (fun w H => y_move rfl S rfl) fun a S => ?_
  refine m_w rfl rfl (wn rfl) rfl rfl S (fun w H => (y_sliceL (i := 2 * k) rfl Tryz.underlying22 Fsiz9 S H rfl rfl (by omega))) fun a S => ?_
  refine m_w rfl rfl (wn rfl) rfl rfl S (fun w H => y_lens rfl Tryz.underlying22 S H rfl) fun a S => ?_
  refine m_w rfl rfl (wn rfl) rfl rfl S (fun w H => y_min rfl S rfl rfl) fun a S => ?_
  rw [show min (2 : Int) ((((xs.take xs.length).drop (2 * k)).length : Nat) : Int) = ((min 2 (xs.length - 2 * k) : Nat) : Int) by rw [List.length_drop, List.length_take, Nat.min_self]; omega] at S
  refine m_w rfl rfl (wn rfl) rfl rfl S (fun w H => y_assign rfl S rfl) fun a S => ?_
  refine m_nil (fun w H => ?_)
  refine n_then ?_
  have S := ((((S.nil.cons S 2 rfl).cons S 1 rfl).cons S 0 rfl).cons S 4 rfl).cons S 5 rfl
  refine gsr ?_
  refine gm S fun a S => ?_
  refine gy rfl rfl rfl S (y_load rfl Fsca22 S H rfl rfl) fun a S => ?_
  refine gm S fun a S => ?_
  refine gm S fun a S => ?_
  refine gm S fun a S => ?_
  refine gy rfl rfl rfl S (y_add rfl S rfl rfl (by omega)) fun a S => ?_
  rw [show (((2 * k : Nat) : Int) + ((min 2 (xs.length - 2 * k) : Nat) : Int)) = ((min (2 * k + 2) xs.length : Nat) : Int) by omega] at S
  refine gm S fun a S => ?_
  refine gm S fun a S => ?_
  refine gy rfl rfl rfl S (y_add rfl S rfl rfl (by omega)) fun a S => ?_
  rw [show (((2 * k : Nat) : Int) + ((min 2 (xs.length - 2 * k) : Nat) : Int)) = ((min (2 * k + 2) xs.length : Nat) : Int) by omega] at S
  refine gy rfl rfl rfl S ((y_slice3 (i := 2 * k) (j := min (2 * k + 2) xs.length) (m := min (2 * k + 2) xs.length) rfl Tryz.underlying22 Fsiz9 S H rfl rfl rfl rfl (by omega) (by omega) (by omega))) fun a S => ?_
  refine wl_of (op_yield (wn rfl) rfl rfl rfl S rfl rfl (hround k (by omega) z _ (chunkOut H (by omega))) fun u w hc a S => ?_)
  obtain ⟨rfl, z2, H⟩ := hc
  refine gy rfl rfl rfl S (y_not rfl S rfl) fun a S => ?_
  refine gnt ?_
  have S := ((((S.nil.cons S 2 rfl).cons S 1 rfl).cons S 0 rfl).cons S 4 rfl).cons S 30 rfl
  refine c_if S rfl (fun h2 => ?_) (fun h2 => ?_)
  ·have h2p := h2; try simp only [DL] at h2p
   all_goals (
     exact absurd h2 (by simp))
  ·have h2p := h2; try simp only [DL] at h2p
   refine g_skip ?_
   refine n_block ?_
   refine n_then ?_
   refine g_region ?_
   refine gm S fun a S => ?_
   refine gy rfl rfl rfl S (y_load rfl Fsca3 S H rfl rfl) fun a S => ?_
   refine gy rfl rfl rfl S (y_add rfl S rfl rfl (by omega)) fun a S => ?_
   refine ga S fun a S => ?_
   refine gnt ?_
   rw [show (((2 * k : Nat) : Int) + 2) = ((2 * (k + 1) : Nat) : Int) by omega] at S
   exact ⟨k + 1, S.nil.cons S 4 rfl, ((S.nil.cons S 2 rfl).cons S 1 rfl).cons S 0 rfl, ⟨by omega, z2, H⟩, by omega⟩
 ·have h1p := h1; try simp only [DL] at h1p
  refine g_exit ?_
  refine x_then (x_then (x_eq ?_))
  refine ret0n rfl S ?_
  obtain rfl : k = (xs.length + 1) / 2 := by omega
  exact ⟨z, H⟩
end Go.Proofs.YtjdbggnhdeaflaaGreatDoor
end
section
namespace Go.Proofs.YtjdbggnhdeaflaaGreatDoor
open Go Go.Gw
set_option linter.unusedVariables false
set_option linter.unusedSimpArgs false
theorem rotD {M : Nat → Prop} {u0 w : World} {a b c d D : Atom} {L : List Atom} (H : HSat M u0 (D :: a :: b :: c :: d :: L) w) : HSat M u0 (a :: b :: c :: d :: (L ++ [D])) w :=
  H.perm (List.perm_append_comm (l₁ := [D]) (l₂ := a :: b :: c :: d :: L))
theorem rotU {M : Nat → Prop} {u0 w : World} {a b c d D : Atom} {L : List Atom} (H : HSat M u0 (a :: b :: c :: d :: (L ++ [D])) w) : HSat M u0 (D :: a :: b :: c :: d :: L) w :=
  H.perm (List.perm_append_comm (l₁ := a :: b :: c :: d :: L) (l₂ := [D]))
theorem chunk_next {xs ps : List ByteArray} {k : Nat} (hp : ps = (xs.take (min (2 * k + 2) xs.length)).drop (2 * k)) (h : 2 * k < xs.length) : (2 * k + 1 < xs.length → ∃ h0 : 1 < ps.length, ps.length = 2 ∧ (nextL xs).take (k + 1) = (nextL xs).take k ++ [nodeD ps[0] ps[1]]) ∧ (¬ 2 * k + 1 < xs.length → ∃ h0 : 0 < ps.length, ps.length = 1 ∧ (nextL xs).take (k + 1) = (nextL xs).take k ++ [ps[0]]) := by
  have hl : ps.length = min (2 * k + 2) xs.length - 2 * k := by rw [hp, List.length_drop, List.length_take]; omega
  have hn : k < (nextL xs).length := by rw [nextL_len]; omega
  have e := nextL_at xs k
  rw [List.getD_eq_getElem?_getD, List.getElem?_eq_getElem hn, Option.getD_some] at e
  have g : ∀ i (hi : i < ps.length), ps[i] = xs.getD (2 * k + i) noB := by
    intro i hi
    rw [List.getD_eq_getElem?_getD, List.getElem?_eq_getElem (by omega), Option.getD_some]
    simp only [hp, List.getElem_drop, List.getElem_take]
  refine ⟨fun h1 => ⟨by omega, by omega, ?_⟩, fun h1 => ⟨by omega, by omega, ?_⟩⟩
  · rw [List.take_succ_eq_append_getElem hn, e, if_pos h1, g 0 (by omega), g 1 (by omega)]; rfl
  · rw [List.take_succ_eq_append_getElem hn, e, if_neg h1, g 0 (by omega)]; rfl
theorem lvN_le (l : List ByteArray) : ∀ k, (lvN l k).length ≤ l.length
  | 0 => Nat.le_refl _
  | k + 1 => by rw [lvN_len]; have := lvN_le l k; omega
theorem lvN_size (ls : List ByteArray) (k : Nat) : ∀ x ∈ lvN (ls.map leafD) k, x.size ≤ 1000 := fun x hx => by
  have h := isD_size (lvN_D (fun y hy => by obtain ⟨z, _, rfl⟩ := List.mem_map.1 hy; exact isD_listS _) k x hx)
  omega
set_option maxHeartbeats 2000000 in
/-- foyer/tree.levels$1 -/
theorem lev_iter {M : Nat → Prop} {u0 : World} {Z : Type} (L : Nat → Z → List Atom) (lb c1 : Nat) (v : Value) (ls : List ByteArray) (w0 : World) (hl : ls.length ≤ 100000) (hs : ∀ s ∈ ls, s.size ≤ 1000) (z0 : Z)
    (hround : ∀ k, k ≤ dep ls.length → ∀ z lv l w, HSat M u0 (OSl 9 lv 1 encS (lvN (ls.map leafD) k) :: Atom.ro (Cel c1 22 [v]) :: Sl v 1 encS ls :: TabsA :: (L k z ++ l)) w → YieldRet Tryz.prog lb #[lv] w (fun u w' => u = .bool true ∧ ∃ z2, HSat M u0 (OSl 9 lv 1 encS (lvN (ls.map leafD) k) :: Atom.ro (Cel c1 22 [v]) :: Sl v 1 encS ls :: TabsA :: (L (k + 1) z2 ++ l)) w')) (h0 : HSat M u0 (Atom.ro (Cel c1 22 [v]) :: Sl v 1 encS ls :: TabsA :: L 0 z0) w0) :
    Ret Tryz.prog 78 #[.func (.yield lb) #[] #[], .pointer (some ⟨c1, 0, none⟩)] w0 (fun u w => ∃ z, HSat M u0 (Atom.ro (Cel c1 22 [v]) :: Sl v 1 encS ls :: TabsA :: L (dep ls.length + 1) z) w) := by
 refine ret_of_wp (nt := 57) Tryz.func78 rfl rfl rfl (fl := [(0, .func (.yield lb) #[] #[]), (1, .pointer (some ⟨c1, 0, none⟩))]) rfl (fun a S => ?_)
 have H := h0
 refine gsr ?_
 refine gy rfl rfl rfl S (y_load rfl Fsca22 S H rfl rfl) fun a S => ?_
 refine gy rfl rfl rfl S (y_lens rfl Tryz.underlying22 S H rfl) fun a S => ?_
 refine wl_of (op_make (encS) (noB) (wn rfl) rfl rfl rfl Tryz.underlying22 Finf9 rfl rfl S H rfl rfl rfl (by omega) (by omega) fun b10 a w S H => ?_)
 refine ga S fun a S => ?_
 refine gnt ?_
 refine g_seq ?_
 refine gsr ?_
 refine gy rfl rfl rfl S (y_load rfl Fsca22 S H rfl rfl) fun a S => ?_
 refine gy rfl rfl rfl S (y_lens rfl Tryz.underlying22 S H rfl) fun a S => ?_
 refine gm S fun a S => ?_
 refine gnt ?_
 have S := ((((S.nil.cons S 0 rfl).cons S 3 rfl).cons S 11 rfl).cons S 12 rfl).cons S 13 rfl
 refine g_block ?_
 have SU := (((S.nil.cons S 0 rfl).cons S 3 rfl).cons S 11 rfl).cons S 12 rfl
 refine loopW (X := Nat) SU (fun k => [(13, .int .i64 (k : Int))]) (fun k w => k ≤ ls.length ∧ HSat M u0 (OSl 9 (.slice (some ⟨b10, 0, none⟩) ls.length ls.length) 1 encS ((ls.map leafD).take k ++ List.replicate (ls.length - k) noB) :: Atom.ro (Cel c1 22 [v]) :: Sl v 1 encS ls :: TabsA :: L 0 z0) w) (fun k => ls.length - k) 0 (S.nil.cons S 13 rfl) (⟨by omega, H⟩) (fun k a w S hW => ?_)
 simp only [List.cons_append, List.nil_append] at S
 obtain ⟨hk, H⟩ := hW
 refine gsr ?_
 refine gy rfl rfl rfl S (y_bin rfl S rfl rfl rfl) fun a S => ?_
 refine gnt ?_
 refine g_seq ?_
 refine c_if S rfl (fun h1 => ?_) (fun h1 => ?_)
 ·have h1p := h1; try simp only [DL] at h1p
  have hkl : k < ls.length := by omega
  refine g_skip ?_
  refine n_then ?_
  refine g_seq ?_
  refine g_block ?_
  refine gsr ?_
  refine gm S fun a S => ?_
  refine gy rfl rfl rfl S (y_iaddrn rfl Tryz.underlying22 Fsiz9 S H rfl rfl (by first | assumption | omega | (simp only [LL]; omega))) fun a S => ?_
  refine gy rfl rfl rfl S (y_loads _ rfl Fsca9 S H rfl (by first | assumption | omega | (simp only [LL]; omega)) rfl) fun a S => ?_
  refine ga S fun a S => ?_
  refine ga S fun a S => ?_
  refine gnt ?_
  have S := ((((((S.nil.cons S 0 rfl).cons S 3 rfl).cons S 11 rfl).cons S 12 rfl).cons S 13 rfl).cons S 4 rfl).cons S 5 rfl
  refine g_region ?_
  refine gm S fun a S => ?_
  refine gm S fun a S => ?_
  refine gm S fun a S => ?_
  refine wl_of (op_buildSlice (wn rfl) rfl rfl rfl Tryz.underlying22 Finf9 S H (idx := [0, 1]) rfl rfl rfl (z := [.string ⟨#[]⟩, .string ⟨#[]⟩]) (by kernel_rfl) (cs := [.string leafW, .string ls[k]]) rfl fun b21 a w S H => ?_)
  refine wl_of (op_call (wn rfl) rfl rfl S (co_func rfl Tryz.call50 S rfl) (treeof_spec _ [leafW, ls[k]] _ H.tabs (H.slb b21 _ encS 1 rfl rfl (by simp [encS]) (by decide)) (list_ok (by intro x hx; simp only [List.mem_cons, List.not_mem_nil, or_false] at hx; rcases hx with rfl | rfl; decide; exact hs _ (List.getElem_mem hkl)) (by simp))) fun v w hc a S => ?_)
  obtain ⟨rfl, he⟩ := hc
  have H := H.ext he
  refine gy rfl rfl rfl S (y_iaddrn rfl Tryz.underlying22 Fsiz9 S H rfl rfl (by first | assumption | omega | (simp only [LL]; omega))) fun a S => ?_
  refine wl_of (op_store1 _ ((leafD ls[k])) (wn rfl) rfl rfl S H rfl rfl rfl rfl Fsiz9 (by first | assumption | omega | (simp only [LL]; omega)) (by exact rfl) fun a w S H => ?_)
  refine gl_nil ?_
  refine n_block ?_
  refine n_then ?_
  have S := ((((S.nil.cons S 0 rfl).cons S 3 rfl).cons S 11 rfl).cons S 12 rfl).cons S 13 rfl
  refine g_region ?_
  refine gy rfl rfl rfl S (y_add rfl S rfl rfl (by omega)) fun a S => ?_
  refine gm S fun a S => ?_
  refine gnt ?_
  have hfs := fill_set (A := ls.map leafD) (z := noB) (i := k) (by rw [List.length_map]; exact hkl)
  simp only [List.length_map, List.getElem_map] at hfs
  rw [hfs] at H
  exact ⟨k + 1, S.nil.cons S 13 rfl, (((S.nil.cons S 0 rfl).cons S 3 rfl).cons S 11 rfl).cons S 12 rfl, ⟨by omega, H.tail⟩, by omega⟩
 ·have h1p := h1; try simp only [DL] at h1p
  obtain rfl : k = ls.length := by omega
  simp only [Nat.sub_self, List.replicate_zero, List.append_nil] at H
  refine g_exit ?_
  refine x_then (x_then (x_eq ?_))
  refine n_then ?_
  have S := (S.nil.cons S 0 rfl).cons S 3 rfl
  refine g_block ?_
  rw [List.take_of_length_le (by rw [List.length_map]; exact Nat.le_refl _)] at H
  have H := H.defs0
  have SU := S.nil.cons S 0 rfl
  refine loopD (X := Nat × Z × Value × List Nat) (fun x => x.2.2.2) (fun x => [(3, x.2.2.1)]) (fun x w => x.1 ≤ dep ls.length ∧ HSat M u0 (DefsA x.2.2.2 :: OSl 9 x.2.2.1 1 encS (lvN (ls.map leafD) x.1) :: Atom.ro (Cel c1 22 [v]) :: Sl v 1 encS ls :: TabsA :: L x.1 x.2.1) w) (fun x => dep ls.length + 1 - x.1) (0, z0, (.slice (some ⟨b10, 0, none⟩) ls.length ls.length), []) SU (S.nil.cons S 3 rfl) (⟨Nat.zero_le _, H⟩) (fun x a w S hW => ?_)
  simp only [List.cons_append, List.nil_append] at S
  obtain ⟨k, z, lv, ds⟩ := x
  obtain ⟨hk, H⟩ := hW
  dsimp only at S H hk
  have hxl : (lvN (ls.map leafD) k).length ≤ 100000 := Nat.le_trans (lvN_le _ k) (by rw [List.length_map]; exact hl)
  refine g_seq ?_
  refine gsr ?_
  refine gm S fun a S => ?_
  refine gm S fun a S => ?_
  refine wl_of (op_yield (wn rfl) rfl rfl rfl S rfl rfl (hround k hk z lv [DefsA ds] _ (rotD H)) fun u w hc a S => ?_)
  obtain ⟨rfl, z2, H⟩ := hc
  have H := rotU H
  refine gm S fun a S => ?_
  refine gz 28 rfl S rfl rfl rfl rfl rfl rfl (y_move rfl S rfl) fun a S => ?_
  refine gz 28 rfl S rfl rfl rfl rfl rfl rfl (y_lens rfl Tryz.underlying22 S H rfl) fun a S => ?_
  refine gz 28 rfl S rfl rfl rfl rfl rfl rfl (y_bin rfl S rfl rfl rfl) fun a S => ?_
  refine gy rfl rfl rfl S (y_and' rfl rfl S rfl rfl) fun a S => ?_
  refine gnt ?_
  have S := ((S.nil.cons S 0 rfl).cons S 3 rfl).cons S 32 rfl
  refine c_if S rfl (fun h3 => ?_) (fun h3 => ?_)
  ·have h3p := h3; try simp only [DL] at h3p
   have hkd : k < dep ls.length := by
     rcases Nat.lt_or_ge k (dep ls.length) with h | h
     · exact h
     · have e := dep_top (ls.map leafD)
       rw [List.length_map, show dep ls.length = k by omega] at e
       omega
   refine g_skip ?_
   refine n_then ?_
   refine g_block ?_
   refine gsr ?_
   refine wl_of (op_alloc (wn rfl) rfl rfl rfl S H Fzer22 fun b6 a w S H => ?_)
   refine gnt ?_
   refine g_seq ?_
   refine gsr ?_
   refine gm S fun a S => ?_
   refine wl_of (op_call (wn rfl) rfl rfl S (co_func rfl Tryz.call79 S rfl) (chunk_spec lv _ _ (H.sl lv)) fun v w hc a S => ?_)
   obtain ⟨cb, cc, rfl, H1⟩ := hc
   have H := H.call H1 (by simp [Blk])
   simp only [List.cons_append, List.nil_append] at H
   refine gnt ?_
   refine g_block ?_
   have H := (((H.freeze.front (Cel cb 22 [lv])).freeze.front (OSl 9 lv 1 encS (lvN (ls.map leafD) k))).freeze).nilO 9 1 encS
   have H : HSat M u0 (DefsA ds :: Atom.ro (Cel cb 22 [lv]) :: Atom.ro (Cel cc 3 [.int .i64 2]) :: Atom.ro (OSl 9 lv 1 encS (lvN (ls.map leafD) k)) :: Cel b6 22 [.slice none 0 0] :: OSl 9 (.slice none 0 0) 1 encS [] :: Atom.ro (Cel c1 22 [v]) :: Sl v 1 encS ls :: TabsA :: L (k + 1) z2) w := H.takeT [DefsA ds, Atom.ro (Cel cb 22 [lv]), Atom.ro (Cel cc 3 [.int .i64 2]), Atom.ro (OSl 9 lv 1 encS (lvN (ls.map leafD) k)), Cel b6 22 [.slice none 0 0], OSl 9 (.slice none 0 0) 1 encS [], Atom.ro (Cel c1 22 [v]), Sl v 1 encS ls, TabsA] (L (k + 1) z2)
   refine g_range (Φ := fun p l2 => p = none ∧ ∃ zv, l2 = (Cel b6 22 [zv] :: OSl 9 (zv) 1 encS (nextL (lvN (ls.map leafD) k)) :: Atom.ro (Cel c1 22 [v]) :: Sl v 1 encS ls :: TabsA :: L (k + 1) z2)) S (H) rfl Tryz.call102 (fun R lb w1 hrec H1 => ?_) ?_
   ·have SR := S.recd
    refine Ret.mono (chunk_iter (M := M) (u0 := u0) (Z := Value) (fun j zv => Blk lb (.loop R) :: DefsA (R.defers :: ds) :: Cel b6 22 [zv] :: OSl 9 (zv) 1 encS ((nextL (lvN (ls.map leafD) k)).take j) :: Atom.ro (Cel c1 22 [v]) :: Sl v 1 encS ls :: TabsA :: L (k + 1) z2) lb cb cc lv (lvN (ls.map leafD) k) w1 hxl (fun j hj zv w H => ?_) ⟨.slice none 0 0, by
      have h : HSat M u0 (Atom.ro (Cel cb 22 [lv]) :: Atom.ro (Cel cc 3 [.int .i64 2]) :: Atom.ro (OSl 9 lv 1 encS (lvN (ls.map leafD) k)) :: Blk lb (.loop R) :: DefsA (R.defers :: ds) :: Cel b6 22 [(.slice none 0 0)] :: OSl 9 ((.slice none 0 0)) 1 encS [] :: Atom.ro (Cel c1 22 [v]) :: Sl v 1 encS ls :: TabsA :: L (k + 1) z2) w1 := H1.takeT [Atom.ro (Cel cb 22 [lv]), Atom.ro (Cel cc 3 [.int .i64 2]), Atom.ro (OSl 9 lv 1 encS (lvN (ls.map leafD) k)), Blk lb (.loop R), DefsA (R.defers :: ds), Cel b6 22 [(.slice none 0 0)], OSl 9 ((.slice none 0 0)) 1 encS [], Atom.ro (Cel c1 22 [v]), Sl v 1 encS ls, TabsA] (L (k + 1) z2)
      exact h⟩) ?_
    ·obtain ⟨ps, hP⟩ : ∃ ps, ps = (((lvN (ls.map leafD) k).take (min (2 * j + 2) (lvN (ls.map leafD) k).length)).drop (2 * j)) := ⟨_, rfl⟩
     rw [← hP] at H
     have hps : ∀ y ∈ ps, y.size ≤ 1000 := fun y hy => lvN_size ls k y (by rw [hP] at hy; exact List.mem_of_mem_take (List.mem_of_mem_drop hy))
     generalize subM lv (2 * j) (min (2 * j + 2) (lvN (ls.map leafD) k).length) (min (2 * j + 2) (lvN (ls.map leafD) k).length) 1 = pv at H ⊢
     obtain ⟨hc2, hc1⟩ := chunk_next hP hj
     have hnl : (nextL (lvN (ls.map leafD) k)).length ≤ 100000 := by rw [nextL_len]; omega
     refine yield1 hrec SR H rfl (fun a S => ?_)
     refine g_region ?_
     refine ga S fun a S => ?_
     refine gnt ?_
     refine r_begin hrec H (fun w H => ?_)
     refine g_block ?_
     refine gsr ?_
     refine gm S fun a S => ?_
     refine gy rfl rfl rfl S (y_lens rfl Tryz.underlying22 S H rfl) fun a S => ?_
     refine gy rfl rfl rfl S (y_bin rfl S rfl rfl rfl) fun a S => ?_
     refine gnt ?_
     have S := ((S.nil.cons S 6 rfl).cons S 7 rfl).cons S 38 rfl
     refine c_if S rfl (fun h4 => ?_) (fun h4 => ?_)
     ·have h4p := h4; try simp only [DL] at h4p
      obtain ⟨hg1, hg2, hg⟩ := hc2 (by
        rcases Nat.lt_or_ge (2 * j + 1) (lvN (ls.map leafD) k).length with h | h
        · exact h
        · obtain ⟨_, h2, _⟩ := hc1 (by omega)
          omega)
      have hp0 : 0 < ps.length := by omega
      have hp1 : 1 < ps.length := by omega
      refine region_st (loud := [7, 9, 10, 11]) (tails := [10, 11]) (free := []) [0, 1, 2, 3, 4, 5, 6, 7, 8, 9, 10, 11] [] Fmo (by kernel_rfl) (by kernel_rfl) rfl H ?_
      refine m_w rfl rfl (wn rfl) rfl rfl S (fun w H => y_load rfl Fsca22 S H rfl rfl) fun a S => ?_
      refine m_w rfl rfl (wn rfl) rfl rfl S (fun w H => y_move rfl S rfl) fun a S => ?_
      refine m_w rfl rfl (wn rfl) rfl rfl S (fun w H => y_iaddrs rfl Tryz.underlying22 Fsiz9 S H rfl rfl (by first | assumption | omega | (simp only [LL]; omega))) fun a S => ?_
      refine m_loads _ rfl rfl (wn rfl) rfl rfl S rfl Fsca9 rfl (by first | assumption | omega | (simp only [LL]; omega)) rfl fun a S => ?_
      refine m_w rfl rfl (wn rfl) rfl rfl S (fun w H => y_move rfl S rfl) fun a S => ?_
      refine m_w rfl rfl (wn rfl) rfl rfl S (fun w H => y_iaddrs rfl Tryz.underlying22 Fsiz9 S H rfl rfl (by first | assumption | omega | (simp only [LL]; omega))) fun a S => ?_
      refine m_loads _ rfl rfl (wn rfl) rfl rfl S rfl Fsca9 rfl (by first | assumption | omega | (simp only [LL]; omega)) rfl fun a S => ?_
      refine m_l rfl rfl (fun w H => op_buildSlice (wn rfl) rfl rfl rfl Tryz.underlying22 Finf9 S H (idx := [0, 1, 2]) rfl rfl rfl (z := [.string ⟨#[]⟩, .string ⟨#[]⟩, .string ⟨#[]⟩]) (by kernel_rfl) (cs := [.string nodeW, .string (ps[0]'hp0), .string (ps[1]'hp1)]) rfl fun b46 a w S H => m_next H (List.sublist_cons_self _ _) ?_)
      refine m_c rfl rfl (wn rfl) rfl rfl S (fun w => co_func rfl Tryz.call50 S rfl) (fun w H => treeof_spec _ [nodeW, (ps[0]'hp0), (ps[1]'hp1)] _ H.tabs (H.slb b46 _ encS 1 rfl rfl (by simp [encS]) (by first | decide | (simp only [List.length_cons, List.length_nil]; decide))) (list_ok (by intro x hx; simp only [List.mem_cons, List.not_mem_nil, or_false] at hx; rcases hx with rfl | rfl | rfl; decide; exact hps _ (List.getElem_mem _); exact hps _ (List.getElem_mem _)) (by simp))) fun a S => ?_
      refine m_l rfl rfl (fun w H => op_buildSlice (wn rfl) rfl rfl rfl Tryz.underlying22 Finf9 S H (idx := [0]) rfl rfl rfl (z := [.string ⟨#[]⟩]) (by kernel_rfl) (cs := [_]) rfl fun b48 a w S H => m_next H (List.sublist_cons_self _ _) ?_)
      refine m_l rfl rfl (fun w H => op_append ([nodeD (ps[0]'hp0) (ps[1]'hp1)]) (wn rfl) rfl rfl rfl Tryz.underlying22 Finf9 rfl rfl S H rfl rfl rfl rfl (by simp) (by simp [encS]) (by simp [encS, Value.oneCell']) (by simp only [List.length_cons, List.length_nil, List.length_take]; omega) (by simp only [List.length_cons, List.length_nil, List.length_take]; omega) fun u49 a w hn49 S H => ?_)
      rw [← hg] at H
      refine m_tail H rfl ?_
      refine m_l rfl rfl (fun w H => op_store (wn rfl) rfl rfl S H rfl rfl (H.sl1 _) Fsiz22 rfl fun a w S H => m_tail H rfl ?_)
      dsimp only [List.set, Nat.zero_add, Nat.reduceAdd] at H
      refine m_nil (fun w H => ?_)
      refine n_block ?_
      refine r_end hrec H (fun w H => ?_)
      dsimp only [List.set] at H
      first | exact ⟨rfl, u49, by
        have h : HSat M u0 (Atom.ro (Cel cb 22 [lv]) :: Atom.ro (Cel cc 3 [.int .i64 2]) :: Atom.ro (OSl 9 lv 1 encS (lvN (ls.map leafD) k)) :: Blk lb (.loop R) :: DefsA (R.defers :: ds) :: Cel b6 22 [u49] :: OSl 9 (u49) 1 encS ((nextL (lvN (ls.map leafD) k)).take (j + 1)) :: Atom.ro (Cel c1 22 [v]) :: Sl v 1 encS ls :: TabsA :: L (k + 1) z2) w := H.takeT [Atom.ro (Cel cb 22 [lv]), Atom.ro (Cel cc 3 [.int .i64 2]), Atom.ro (OSl 9 lv 1 encS (lvN (ls.map leafD) k)), Blk lb (.loop R), DefsA (R.defers :: ds), Cel b6 22 [u49], OSl 9 (u49) 1 encS ((nextL (lvN (ls.map leafD) k)).take (j + 1)), Atom.ro (Cel c1 22 [v]), Sl v 1 encS ls, TabsA] (L (k + 1) z2)
        exact h⟩ | exact ⟨rfl, u55, by
        have h : HSat M u0 (Atom.ro (Cel cb 22 [lv]) :: Atom.ro (Cel cc 3 [.int .i64 2]) :: Atom.ro (OSl 9 lv 1 encS (lvN (ls.map leafD) k)) :: Blk lb (.loop R) :: DefsA (R.defers :: ds) :: Cel b6 22 [u55] :: OSl 9 (u55) 1 encS ((nextL (lvN (ls.map leafD) k)).take (j + 1)) :: Atom.ro (Cel c1 22 [v]) :: Sl v 1 encS ls :: TabsA :: L (k + 1) z2) w := H.takeT [Atom.ro (Cel cb 22 [lv]), Atom.ro (Cel cc 3 [.int .i64 2]), Atom.ro (OSl 9 lv 1 encS (lvN (ls.map leafD) k)), Blk lb (.loop R), DefsA (R.defers :: ds), Cel b6 22 [u55], OSl 9 (u55) 1 encS ((nextL (lvN (ls.map leafD) k)).take (j + 1)), Atom.ro (Cel c1 22 [v]), Sl v 1 encS ls, TabsA] (L (k + 1) z2)
        exact h⟩
     ·have h4p := h4; try simp only [DL] at h4p
      obtain ⟨hg1, hg2, hg⟩ := hc1 (fun h => by obtain ⟨_, h2, _⟩ := hc2 h; omega)
      have hp0 : 0 < ps.length := by omega
      refine region_st (loud := [4, 5, 6]) (tails := [5, 6]) (free := []) [0, 1, 2, 3, 4, 5, 6] [] Fmo (by kernel_rfl) (by kernel_rfl) rfl H ?_
      refine m_w rfl rfl (wn rfl) rfl rfl S (fun w H => y_load rfl Fsca22 S H rfl rfl) fun a S => ?_
      refine m_w rfl rfl (wn rfl) rfl rfl S (fun w H => y_move rfl S rfl) fun a S => ?_
      refine m_w rfl rfl (wn rfl) rfl rfl S (fun w H => y_iaddrs rfl Tryz.underlying22 Fsiz9 S H rfl rfl (by first | assumption | omega | (simp only [LL]; omega))) fun a S => ?_
      refine m_loads _ rfl rfl (wn rfl) rfl rfl S rfl Fsca9 rfl (by first | assumption | omega | (simp only [LL]; omega)) rfl fun a S => ?_
      refine m_l rfl rfl (fun w H => op_buildSlice (wn rfl) rfl rfl rfl Tryz.underlying22 Finf9 S H (idx := [0]) rfl rfl rfl (z := [.string ⟨#[]⟩]) (by kernel_rfl) (cs := [.string (ps[0]'hp0)]) rfl fun b54 a w S H => m_next H (List.sublist_cons_self _ _) ?_)
      refine m_l rfl rfl (fun w H => op_append ([(ps[0]'hp0)]) (wn rfl) rfl rfl rfl Tryz.underlying22 Finf9 rfl rfl S H rfl rfl rfl rfl (by simp) (by simp [encS]) (by simp [encS, Value.oneCell']) (by simp only [List.length_cons, List.length_nil, List.length_take]; omega) (by simp only [List.length_cons, List.length_nil, List.length_take]; omega) fun u55 a w hn55 S H => ?_)
      rw [← hg] at H
      refine m_tail H rfl ?_
      refine m_l rfl rfl (fun w H => op_store (wn rfl) rfl rfl S H rfl rfl (H.sl1 _) Fsiz22 rfl fun a w S H => m_tail H rfl ?_)
      dsimp only [List.set, Nat.zero_add, Nat.reduceAdd] at H
      refine m_nil (fun w H => ?_)
      refine n_block ?_
      refine r_end hrec H (fun w H => ?_)
      dsimp only [List.set] at H
      first | exact ⟨rfl, u49, by
        have h : HSat M u0 (Atom.ro (Cel cb 22 [lv]) :: Atom.ro (Cel cc 3 [.int .i64 2]) :: Atom.ro (OSl 9 lv 1 encS (lvN (ls.map leafD) k)) :: Blk lb (.loop R) :: DefsA (R.defers :: ds) :: Cel b6 22 [u49] :: OSl 9 (u49) 1 encS ((nextL (lvN (ls.map leafD) k)).take (j + 1)) :: Atom.ro (Cel c1 22 [v]) :: Sl v 1 encS ls :: TabsA :: L (k + 1) z2) w := H.takeT [Atom.ro (Cel cb 22 [lv]), Atom.ro (Cel cc 3 [.int .i64 2]), Atom.ro (OSl 9 lv 1 encS (lvN (ls.map leafD) k)), Blk lb (.loop R), DefsA (R.defers :: ds), Cel b6 22 [u49], OSl 9 (u49) 1 encS ((nextL (lvN (ls.map leafD) k)).take (j + 1)), Atom.ro (Cel c1 22 [v]), Sl v 1 encS ls, TabsA] (L (k + 1) z2)
        exact h⟩ | exact ⟨rfl, u55, by
        have h : HSat M u0 (Atom.ro (Cel cb 22 [lv]) :: Atom.ro (Cel cc 3 [.int .i64 2]) :: Atom.ro (OSl 9 lv 1 encS (lvN (ls.map leafD) k)) :: Blk lb (.loop R) :: DefsA (R.defers :: ds) :: Cel b6 22 [u55] :: OSl 9 (u55) 1 encS ((nextL (lvN (ls.map leafD) k)).take (j + 1)) :: Atom.ro (Cel c1 22 [v]) :: Sl v 1 encS ls :: TabsA :: L (k + 1) z2) w := H.takeT [Atom.ro (Cel cb 22 [lv]), Atom.ro (Cel cc 3 [.int .i64 2]), Atom.ro (OSl 9 lv 1 encS (lvN (ls.map leafD) k)), Blk lb (.loop R), DefsA (R.defers :: ds), Cel b6 22 [u55], OSl 9 (u55) 1 encS ((nextL (lvN (ls.map leafD) k)).take (j + 1)), Atom.ro (Cel c1 22 [v]), Sl v 1 encS ls, TabsA] (L (k + 1) z2)
        exact h⟩
    ·rintro _ w2 ⟨zv, H2⟩
     rw [← nextL_len, List.take_length] at H2
     exact ⟨.ready, none, _, by simp, ⟨rfl, zv, rfl⟩, by
       rw [hrec.same]
       have h : HSat M u0 (Blk lb (.loop R) :: DefsA (R.defers :: ds) :: Cel b6 22 [zv] :: OSl 9 (zv) 1 encS (nextL (lvN (ls.map leafD) k)) :: Atom.ro (Cel c1 22 [v]) :: Sl v 1 encS ls :: TabsA :: L (k + 1) z2) w2 := H2.takeT [Blk lb (.loop R), DefsA (R.defers :: ds), Cel b6 22 [zv], OSl 9 (zv) 1 encS (nextL (lvN (ls.map leafD) k)), Atom.ro (Cel c1 22 [v]), Sl v 1 encS ls, TabsA] (L (k + 1) z2)
       exact h⟩
   ·intro bd a w pend l2 S H hΦ
    obtain ⟨rfl, zv, rfl⟩ := hΦ
    refine n_block ?_
    refine n_then ?_
    refine g_region ?_
    refine gy rfl rfl rfl S (y_load rfl Fsca22 S H rfl rfl) fun a S => ?_
    refine ga S fun a S => ?_
    refine gl_nil ?_
    refine n_block ?_
    refine n_then ?_
    exact ⟨(k + 1, z2, zv, bd :: ds), S.nil.cons S 3 rfl, S.nil.cons S 0 rfl, ⟨by dsimp only; omega, by
      have h : HSat M u0 (DefsA (bd :: ds) :: OSl 9 zv 1 encS (nextL (lvN (ls.map leafD) k)) :: Atom.ro (Cel c1 22 [v]) :: Sl v 1 encS ls :: TabsA :: L (k + 1) z2) w := H.takeT [DefsA (bd :: ds), OSl 9 zv 1 encS (nextL (lvN (ls.map leafD) k)), Atom.ro (Cel c1 22 [v]), Sl v 1 encS ls, TabsA] (L (k + 1) z2)
      exact h⟩, by dsimp only; omega⟩
  ·have h3p := h3; try simp only [DL] at h3p
   have hkd : k = dep ls.length := by
     rcases Nat.lt_or_ge k (dep ls.length) with h | h
     · have e := dep_more (l := ls.map leafD) (k := k) (by rw [List.length_map]; exact h)
       omega
     · omega
   refine g_exit ?_
   refine x_then (x_then (x_eq ?_))
   refine end_normal (ret0M rfl S (H.front (DefsA ds)) (fun w H => ?_))
   exact ⟨z2, by rw [← hkd]; exact H.tail⟩
end Go.Proofs.YtjdbggnhdeaflaaGreatDoor
end
section
namespace Go.Proofs.YtjdbggnhdeaflaaGreatDoor
open Go Go.Gw
set_option linter.unusedVariables false
set_option linter.unusedSimpArgs false
section
variable {P : Program} {o : Oper} {n : Sz} {fl : Slots} {a : Act} {w : World}
theorem bits_xor_i64 (a b : Nat) (ha : a < 4611686018427387904) (hb : b < 4611686018427387904) : bits .xor .i64 (a : Int) (b : Int) = ((a ^^^ b : Nat) : Int) := by
  have hx : a ^^^ b < 2 ^ 62 := Nat.xor_lt_two_pow (by omega) (by omega)
  have h1 : (BitVec.ofInt 64 (a : Int)).toNat = a := by
    rw [BitVec.ofInt_natCast, BitVec.toNat_ofNat]; exact Nat.mod_eq_of_lt (by omega)
  have h2 : (BitVec.ofInt 64 (b : Int)).toNat = b := by
    rw [BitVec.ofInt_natCast, BitVec.toNat_ofNat]; exact Nat.mod_eq_of_lt (by omega)
  show IntKind.i64.wrap ((BitVec.ofInt 64 (a : Int) ^^^ BitVec.ofInt 64 (b : Int)).toNat : Int) = _
  rw [BitVec.toNat_xor, h1, h2]
  exact wrap_in (by omega) (by omega)
theorem y_xori {T U : TypeId} {x y : Operand} {m q : Nat} (ho : o.op = .binOp .xor T x y U) (S : St n fl a) (hx : ev fl x = some (.int .i64 (m : Int))) (hy : ev fl y = some (.int .i64 (q : Int))) (hm : m < 4611686018427387904) (hq : q < 4611686018427387904) : Yld P o a w (.int .i64 ((m ^^^ q : Nat) : Int)) := by
  unfold Yld execOp; rw [ho]; simp only [S.ev hx, S.ev hy]
  have h := bits_xor_i64 m q hm hq
  simp only [bits] at h
  simp only [eqGuard, binOp, Op.intBits, h]
  simp [h]
end
/-- what Root's variable holds -/
noncomputable def rtK (D : List ByteArray) : Nat → ByteArray
  | 0 => noB
  | k + 1 => (lvN D k).getD 0 noB
theorem rtK_s {D : List ByteArray} {k : Nat} (h : 0 < (lvN D k).length) : rtK D (k + 1) = (lvN D k)[0] := by
  show (lvN D k).getD 0 noB = _
  rw [List.getD_eq_getElem?_getD, List.getElem?_eq_getElem h]; rfl
theorem rtK_top (ls : List ByteArray) : rtK (ls.map leafD) (dep ls.length + 1) = rootT (ls.map leafD) := by
  unfold rootT; rw [List.length_map]; rfl
/-- foyer/tree.Root -/
theorem root_spec (v : Value) (ls : List ByteArray) (w0 : World) (hT : Tabs w0) (hv : IsSl w0 v 1 encS ls) (hn : 0 < ls.length) (hl : ls.length ≤ 100000) (hs : ∀ s ∈ ls, s.size ≤ 1000) :
    Ret Tryz.prog 24 #[v] w0 (fun u w => u = .string (rootT (ls.map leafD)) ∧ Ext w0 w) := by
 refine ret_of_wp (nt := 17) Tryz.func24 rfl rfl rfl (fl := [(0, v)]) rfl (fun a S => ?_)
 have H := HSat.start w0
 have H := H.ro0 (TabsA) rfl (hT)
 have H := H.ro0 (Sl v 1 encS ls) rfl (hv)
 refine gsr ?_
 refine ga S fun a S => ?_
 refine gnt ?_
 refine g_seq ?_
 refine gsr ?_
 refine gm S fun a S => ?_
 refine gy rfl rfl rfl S (y_lens rfl Tryz.underlying22 S H rfl) fun a S => ?_
 refine gy rfl rfl rfl S (y_bin rfl S rfl rfl rfl) fun a S => ?_
 refine gnt ?_
 refine c_if S rfl (fun h1 => ?_) (fun h1 => ?_)
 ·have h1p := h1; try simp only [DL] at h1p
  all_goals (
    exfalso
    omega)
 ·have h1p := h1; try simp only [DL] at h1p
  refine g_skip ?_
  refine n_then ?_
  refine gsr ?_
  refine wl_of (op_alloc (wn rfl) rfl rfl rfl S H Fzer9 fun b3 a w S H => ?_)
  refine wl_of (op_store (wn rfl) rfl rfl S H rfl rfl rfl Fsiz9 rfl fun a w S H => ?_)
  dsimp only [List.set, Nat.zero_add, Nat.reduceAdd] at H
  refine gnt ?_
  refine g_seq ?_
  refine gsr ?_
  refine gm S fun a S => ?_
  refine wl_of (op_call (wn rfl) rfl rfl S (co_func rfl Tryz.call49 S rfl) (levels_spec v ls _ (H.sl v)) fun v w hc a S => ?_)
  obtain ⟨cb, rfl, H1⟩ := hc
  have H := H.call1 H1 rfl
  refine gnt ?_
  have S := ((S.nil.cons S 2 rfl).cons S 3 rfl).cons S 11 rfl
  refine g_block ?_
  have H := H.freeze.defs0
  refine g_range (Φ := fun p l2 => p = none ∧ ∃ z : Unit, l2 = [Cel b3 9 [.string (rootT (ls.map leafD))], Sl v 1 encS ls, TabsA]) S (H.take [DefsA [], Atom.ro (Cel cb 22 [v]), Sl v 1 encS ls, TabsA, Cel b3 9 [.string (⟨#[]⟩ : ByteArray)]]) rfl Tryz.call78 (fun R lb w1 hrec H1 => ?_) ?_
  ·have SR := S.recd
   refine Ret.mono (lev_iter (M := No) (u0 := w0) (Z := Unit) (fun k z => [Blk lb (.loop R), DefsA [R.defers], Cel b3 9 [.string (rtK (ls.map leafD) (k))]]) lb cb v ls w1 hl hs () (fun k hk z lv l w H => ?_) (by
     have h := H1.take [Atom.ro (Cel cb 22 [v]), Sl v 1 encS ls, TabsA, Blk lb (.loop R), DefsA [R.defers], Cel b3 9 [.string (⟨#[]⟩ : ByteArray)]]
     first | exact h | (simp only [anc_0]; exact h))) ?_
   ·simp only [List.cons_append, List.nil_append] at H
    have hx0 : 0 < (lvN (ls.map leafD) k).length := lvN_pos (by rw [List.length_map]; exact hn) k
    have hxl : (lvN (ls.map leafD) k).length ≤ 100000 := Nat.le_trans (lvN_le _ k) (by rw [List.length_map]; exact hl)
    refine yield1 hrec SR H rfl (fun a S => ?_)
    refine g_region ?_
    refine ga S fun a S => ?_
    refine gnt ?_
    refine r_begin hrec H (fun w H => ?_)
    refine g_block ?_
    refine g_region ?_
    refine gm S fun a S => ?_
    refine gy rfl rfl rfl S (y_iaddrs rfl Tryz.underlying22 Fsiz9 S H rfl rfl (by first | assumption | omega | (simp only [LL]; omega))) fun a S => ?_
    refine gy rfl rfl rfl S (y_loads _ rfl Fsca9 S H rfl (by first | assumption | omega | (simp only [LL]; omega)) rfl) fun a S => ?_
    refine wl_of (op_store (wn rfl) rfl rfl S H rfl rfl rfl Fsiz9 rfl fun a w S H => ?_)
    dsimp only [List.set, Nat.zero_add, Nat.reduceAdd] at H
    refine gl_nil ?_
    refine n_block ?_
    refine r_end hrec H (fun w H => ?_)
    rw [show (lvN (ls.map leafD) k)[Int.toNat 0]'(by simpa using hx0) = rtK (ls.map leafD) (k + 1) from (rtK_s hx0).symm] at H
    exact ⟨rfl, (), H.takeT [OSl 9 lv 1 encS (lvN (ls.map leafD) k), Atom.ro (Cel cb 22 [v]), Sl v 1 encS ls, TabsA, Blk lb (.loop R), DefsA [R.defers], Cel b3 9 [.string (rtK (ls.map leafD) (k + 1))]] l⟩
   ·rintro _ w2 ⟨z, H2⟩
    rw [rtK_top] at H2
    exact ⟨.ready, none, _, by simp, ⟨rfl, z, rfl⟩, by rw [hrec.same]; exact H2.take [Blk lb (.loop R), DefsA [R.defers], Cel b3 9 [.string (rootT (ls.map leafD))], Sl v 1 encS ls, TabsA]⟩
  ·intro bd a w pend l2 S H hΦ
   obtain ⟨rfl, z, rfl⟩ := hΦ
   refine n_block ?_
   refine n_then ?_
   refine gsr ?_
   refine gy rfl rfl rfl S (y_load rfl Fsca9 S H rfl rfl) fun a S => ?_
   refine ga S fun a S => ?_
   refine gnt ?_
   have S := S.nil.cons S 2 rfl
   refine g_ret ?_
   refine ret1M rfl S (H.front (DefsA [bd])) rfl (fun w H => ?_)
   exact ⟨rfl, H.toExt⟩
theorem pathT_top (ls : List ByteArray) (i : Nat) : pthK (ls.map leafD) i (dep ls.length + 1) = pathT (ls.map leafD) i := by unfold pathT; rw [List.length_map]
theorem pth_yes {l : List ByteArray} {i k : Nat} (h : anc i k ^^^ 1 < (lvN l k).length) : pthK l i k ++ [(lvN l k)[anc i k ^^^ 1]] = pthK l i (k + 1) := by
  rw [pthK, besK, if_pos h, List.getD_eq_getElem?_getD, List.getElem?_eq_getElem h]; rfl
theorem pth_no {l : List ByteArray} {i k : Nat} (h : ¬ anc i k ^^^ 1 < (lvN l k).length) : pthK l i k = pthK l i (k + 1) := by
  rw [pthK, besK, if_neg h, List.append_nil]
set_option maxHeartbeats 1000000 in
/-- foyer/tree.Path -/
theorem path_spec (v : Value) (ls : List ByteArray) (i : Nat) (w0 : World) (hT : Tabs w0) (hv : IsSl w0 v 1 encS ls) (hn : 0 < ls.length) (hl : ls.length ≤ 100000) (hs : ∀ s ∈ ls, s.size ≤ 1000) (hi : i < ls.length) :
    Ret Tryz.prog 22 #[v, .int .i64 (i : Int)] w0 (fun u w => ∃ pv, u = .tuple #[pv, .int .i64 0] ∧ HSat No w0 [OSl 9 pv 1 encS (pathT (ls.map leafD) i)] w) := by
 refine ret_of_wp (nt := 36) Tryz.func22 rfl rfl rfl (fl := [(0, v), (1, .int .i64 (i : Int))]) rfl (fun a S => ?_)
 have H := HSat.start w0
 have H := H.ro0 (TabsA) rfl (hT)
 have H := H.ro0 (Sl v 1 encS ls) rfl (hv)
 refine gsr ?_
 refine wl_of (op_box1 (wn rfl) rfl rfl rfl S H rfl rfl fun b3 a w S H => ?_)
 refine ga S fun a S => ?_
 refine ga S fun a S => ?_
 refine gnt ?_
 refine g_seq ?_
 refine gsr ?_
 refine gy rfl rfl rfl S (y_load rfl Fsca3 S H rfl rfl) fun a S => ?_
 refine gy rfl rfl rfl S (y_bin rfl S rfl rfl rfl) fun a S => ?_
 refine gm S fun a S => ?_
 refine wl_of (op_y (wg' 11 rfl rfl S rfl (decide_eq_false (by omega)) rfl) rfl rfl S (y_load rfl Fsca3 S H rfl rfl) fun a S => ?_)
 refine wl_of (op_y (wg' 11 rfl rfl S rfl (decide_eq_false (by omega)) rfl) rfl rfl S (y_move rfl S rfl) fun a S => ?_)
 refine wl_of (op_y (wg' 11 rfl rfl S rfl (decide_eq_false (by omega)) rfl) rfl rfl S (y_lens rfl Tryz.underlying22 S H rfl) fun a S => ?_)
 refine wl_of (op_y (wg' 11 rfl rfl S rfl (decide_eq_false (by omega)) rfl) rfl rfl S (y_bin rfl S rfl rfl rfl) fun a S => ?_)
 refine gy rfl rfl rfl S (y_or' rfl (decide_eq_false (by omega)) S rfl rfl) fun a S => ?_
 refine gnt ?_
 have S := ((((S.nil.cons S 0 rfl).cons S 3 rfl).cons S 4 rfl).cons S 5 rfl).cons S 16 rfl
 refine c_if S rfl (fun h2 => ?_) (fun h2 => ?_)
 ·have h2p := h2; try simp only [DL] at h2p
  all_goals (
    exfalso
    omega)
 ·have h2p := h2; try simp only [DL] at h2p
  refine g_skip ?_
  refine n_then ?_
  refine gsr ?_
  refine wl_of (op_alloc (wn rfl) rfl rfl rfl S H Fzer22 fun b6 a w S H => ?_)
  refine gnt ?_
  refine g_seq ?_
  refine gsr ?_
  refine gm S fun a S => ?_
  refine wl_of (op_call (wn rfl) rfl rfl S (co_func rfl Tryz.call49 S rfl) (levels_spec v ls _ (H.sl v)) fun v w hc a S => ?_)
  obtain ⟨cb, rfl, H1⟩ := hc
  have H := H.call1 H1 rfl
  refine gnt ?_
  refine g_block ?_
  have H := (H.freeze.nilO 9 1 encS).defs0
  refine g_range (Φ := fun p l2 => p = none ∧ ∃ z : Value, l2 = [Cel b3 3 [.int .i64 ((anc i (dep ls.length + 1) : Nat) : Int)], Cel b6 22 [z], OSl 9 z 1 encS (pathT (ls.map leafD) i), Sl v 1 encS ls, TabsA]) S (H.take [DefsA [], Atom.ro (Cel cb 22 [v]), Sl v 1 encS ls, TabsA, Cel b3 3 [.int .i64 (i : Int)], Cel b6 22 [.slice none 0 0], OSl 9 (.slice none 0 0) 1 encS []]) rfl Tryz.call78 (fun R lb w1 hrec H1 => ?_) ?_
  ·have SR := S.recd
   refine Ret.mono (lev_iter (M := No) (u0 := w0) (Z := Value) (fun k z => [Blk lb (.loop R), DefsA [R.defers], Cel b3 3 [.int .i64 ((anc i (k) : Nat) : Int)], Cel b6 22 [z], OSl 9 z 1 encS (pthK (ls.map leafD) i (k))]) lb cb v ls w1 hl hs (.slice none 0 0) (fun k hk z lv l w H => ?_) (by
     have h := H1.take [Atom.ro (Cel cb 22 [v]), Sl v 1 encS ls, TabsA, Blk lb (.loop R), DefsA [R.defers], Cel b3 3 [.int .i64 (i : Int)], Cel b6 22 [.slice none 0 0], OSl 9 (.slice none 0 0) 1 encS []]
     first | exact h | (simp only [anc_0]; exact h))) ?_
   ·simp only [List.cons_append, List.nil_append] at H
    have hx0 : 0 < (lvN (ls.map leafD) k).length := lvN_pos (by rw [List.length_map]; exact hn) k
    have hxl : (lvN (ls.map leafD) k).length ≤ 100000 := Nat.le_trans (lvN_le _ k) (by rw [List.length_map]; exact hl)
    have hai : anc i k < (lvN (ls.map leafD) k).length := anc_lt (by rw [List.length_map]; exact hi) k
    have hpl : (pthK (ls.map leafD) i k).length ≤ 100000 := by have := pth_le (ls.map leafD) i k; have := dep_le ls.length; omega
    refine yield1 hrec SR H rfl (fun a S => ?_)
    refine g_region ?_
    refine ga S fun a S => ?_
    refine gnt ?_
    refine r_begin hrec H (fun w H => ?_)
    refine g_block ?_
    refine g_seq ?_
    refine gsr ?_
    refine gy rfl rfl rfl S (y_load rfl Fsca3 S H rfl rfl) fun a S => ?_
    refine gy rfl rfl rfl S ((y_xori (m := anc i k) (q := 1) rfl S rfl rfl (by omega) (by decide))) fun a S => ?_
    refine ga S fun a S => ?_
    refine gnt ?_
    have S := (((((S.nil.cons S 3 rfl).cons S 4 rfl).cons S 5 rfl).cons S 6 rfl).cons S 7 rfl).cons S 8 rfl
    refine gsr ?_
    refine gm S fun a S => ?_
    refine gm S fun a S => ?_
    refine gy rfl rfl rfl S (y_lens rfl Tryz.underlying22 S H rfl) fun a S => ?_
    refine gy rfl rfl rfl S (y_bin rfl S rfl rfl rfl) fun a S => ?_
    refine gnt ?_
    refine c_if S rfl (fun h3 => ?_) (fun h3 => ?_)
    ·have h3p := h3; try simp only [DL] at h3p
     have hx1 : anc i k ^^^ 1 < (lvN (ls.map leafD) k).length := by omega
     refine region_st (loud := [5, 6, 7]) (tails := [6, 7]) (free := []) [0, 1, 2, 3, 4, 5, 6, 7] [] Fmo (by kernel_rfl) (by kernel_rfl) rfl H ?_
     refine m_w rfl rfl (wn rfl) rfl rfl S (fun w H => y_load rfl Fsca22 S H rfl rfl) fun a S => ?_
     refine m_w rfl rfl (wn rfl) rfl rfl S (fun w H => y_move rfl S rfl) fun a S => ?_
     refine m_w rfl rfl (wn rfl) rfl rfl S (fun w H => y_move rfl S rfl) fun a S => ?_
     refine m_w rfl rfl (wn rfl) rfl rfl S (fun w H => y_iaddrn rfl Tryz.underlying22 Fsiz9 S H rfl rfl (by first | assumption | omega | (simp only [LL]; omega))) fun a S => ?_
     refine m_loads _ rfl rfl (wn rfl) rfl rfl S rfl Fsca9 rfl (by first | assumption | omega | (simp only [LL]; omega)) rfl fun a S => ?_
     refine m_l rfl rfl (fun w H => op_buildSlice (wn rfl) rfl rfl rfl Tryz.underlying22 Finf9 S H (idx := [0]) rfl rfl rfl (z := [.string ⟨#[]⟩]) (by kernel_rfl) (cs := [.string ((lvN (ls.map leafD) k)[anc i k ^^^ 1]'hx1)]) rfl fun b31 a w S H => m_next H (List.sublist_cons_self _ _) ?_)
     refine m_l rfl rfl (fun w H => op_append ([((lvN (ls.map leafD) k)[anc i k ^^^ 1]'hx1)]) (wn rfl) rfl rfl rfl Tryz.underlying22 Finf9 rfl rfl S H rfl rfl rfl rfl (by simp) (by simp [encS]) (by simp [encS, Value.oneCell']) (by simp only [List.length_cons, List.length_nil]; omega) (by simp only [List.length_cons, List.length_nil]; omega) fun u32 a w hn32 S H => ?_)
     rw [pth_yes hx1] at H
     refine m_tail H rfl ?_
     refine m_l rfl rfl (fun w H => op_store (wn rfl) rfl rfl S H rfl rfl (H.sl1 _) Fsiz22 rfl fun a w S H => m_tail H rfl ?_)
     dsimp only [List.set, Nat.zero_add, Nat.reduceAdd] at H
     refine m_nil (fun w H => ?_)
     refine n_then ?_
     have S := ((S.nil.cons S 3 rfl).cons S 4 rfl).cons S 5 rfl
     refine g_region ?_
     refine gy rfl rfl rfl S (y_load rfl Fsca3 S H rfl rfl) fun a S => ?_
     refine gy rfl rfl rfl S ((y_quon (m := anc i k) (q := 2) rfl S rfl rfl (by omega) (by omega) (by omega))) fun a S => ?_
     rw [show ((anc i k : Nat) : Int) / 2 = ((anc i (k + 1) : Nat) : Int) by rw [anc_s]; omega] at S
     refine wl_of (op_store (wn rfl) rfl rfl S H rfl rfl rfl Fsiz3 rfl fun a w S H => ?_)
     dsimp only [List.set, Nat.zero_add, Nat.reduceAdd] at H
     refine gl_nil ?_
     refine n_block ?_
     refine r_end hrec H (fun w H => ?_)
     first | exact ⟨rfl, u32, H.takeT [OSl 9 lv 1 encS (lvN (ls.map leafD) k), Atom.ro (Cel cb 22 [v]), Sl v 1 encS ls, TabsA, Blk lb (.loop R), DefsA [R.defers], Cel b3 3 [.int .i64 ((anc i (k + 1) : Nat) : Int)], Cel b6 22 [u32], OSl 9 u32 1 encS (pthK (ls.map leafD) i (k + 1))] l⟩ | exact ⟨rfl, z, H.takeT [OSl 9 lv 1 encS (lvN (ls.map leafD) k), Atom.ro (Cel cb 22 [v]), Sl v 1 encS ls, TabsA, Blk lb (.loop R), DefsA [R.defers], Cel b3 3 [.int .i64 ((anc i (k + 1) : Nat) : Int)], Cel b6 22 [z], OSl 9 z 1 encS (pthK (ls.map leafD) i (k + 1))] l⟩
    ·have h3p := h3; try simp only [DL] at h3p
     have hx1 : ¬ anc i k ^^^ 1 < (lvN (ls.map leafD) k).length := by omega
     rw [pth_no hx1] at H
     refine g_skip ?_
     refine n_then ?_
     have S := ((S.nil.cons S 3 rfl).cons S 4 rfl).cons S 5 rfl
     refine g_region ?_
     refine gy rfl rfl rfl S (y_load rfl Fsca3 S H rfl rfl) fun a S => ?_
     refine gy rfl rfl rfl S ((y_quon (m := anc i k) (q := 2) rfl S rfl rfl (by omega) (by omega) (by omega))) fun a S => ?_
     rw [show ((anc i k : Nat) : Int) / 2 = ((anc i (k + 1) : Nat) : Int) by rw [anc_s]; omega] at S
     refine wl_of (op_store (wn rfl) rfl rfl S H rfl rfl rfl Fsiz3 rfl fun a w S H => ?_)
     dsimp only [List.set, Nat.zero_add, Nat.reduceAdd] at H
     refine gl_nil ?_
     refine n_block ?_
     refine r_end hrec H (fun w H => ?_)
     first | exact ⟨rfl, u32, H.takeT [OSl 9 lv 1 encS (lvN (ls.map leafD) k), Atom.ro (Cel cb 22 [v]), Sl v 1 encS ls, TabsA, Blk lb (.loop R), DefsA [R.defers], Cel b3 3 [.int .i64 ((anc i (k + 1) : Nat) : Int)], Cel b6 22 [u32], OSl 9 u32 1 encS (pthK (ls.map leafD) i (k + 1))] l⟩ | exact ⟨rfl, z, H.takeT [OSl 9 lv 1 encS (lvN (ls.map leafD) k), Atom.ro (Cel cb 22 [v]), Sl v 1 encS ls, TabsA, Blk lb (.loop R), DefsA [R.defers], Cel b3 3 [.int .i64 ((anc i (k + 1) : Nat) : Int)], Cel b6 22 [z], OSl 9 z 1 encS (pthK (ls.map leafD) i (k + 1))] l⟩
   ·rintro _ w2 ⟨z, H2⟩
    rw [pathT_top] at H2
    exact ⟨.ready, none, _, by simp, ⟨rfl, z, rfl⟩, by rw [hrec.same]; exact H2.take [Blk lb (.loop R), DefsA [R.defers], Cel b3 3 [.int .i64 ((anc i (dep ls.length + 1) : Nat) : Int)], Cel b6 22 [z], OSl 9 z 1 encS (pathT (ls.map leafD) i), Sl v 1 encS ls, TabsA]⟩
  ·intro bd a w pend l2 S H hΦ
   obtain ⟨rfl, z, rfl⟩ := hΦ
   refine n_block ?_
   refine n_then ?_
   have S := ((S.nil.cons S 4 rfl).cons S 5 rfl).cons S 6 rfl
   refine gsr ?_
   refine gy rfl rfl rfl S (y_load rfl Fsca22 S H rfl rfl) fun a S => ?_
   refine ga S fun a S => ?_
   refine ga S fun a S => ?_
   refine gnt ?_
   have S := (S.nil.cons S 4 rfl).cons S 5 rfl
   refine g_ret ?_
   refine ret2M rfl S (H.front (DefsA [bd])) rfl rfl (fun w H => ?_)
   exact ⟨z, rfl, H.take [OSl 9 z 1 encS (pathT (ls.map leafD) i)]⟩
end Go.Proofs.YtjdbggnhdeaflaaGreatDoor
end
section
namespace Go.Proofs.YtjdbggnhdeaflaaGreatDoor
open Go Go.Gw
set_option linter.unusedVariables false
set_option linter.unusedSimpArgs false
theorem pth_pre (l : List ByteArray) (i : Nat) {k m : Nat} (h : k ≤ m) : ∃ r, pthK l i m = pthK l i k ++ r := by
  induction m with
  | zero => obtain rfl : k = 0 := by omega
            exact ⟨[], by rw [List.append_nil]⟩
  | succ m ih =>
    rcases Nat.lt_or_ge k (m + 1) with h1 | h1
    · obtain ⟨r, hr⟩ := ih (by omega)
      exact ⟨r ++ besK l i m, by rw [pthK, hr, List.append_assoc]⟩
    · obtain rfl : k = m + 1 := by omega
      exact ⟨[], by rw [List.append_nil]⟩
theorem pth_split {l : List ByteArray} {i k : Nat} {r : List ByteArray} (h : i < l.length) (hk : k < dep l.length) (hx : anc i k ^^^ 1 < (lvN l k).length) (hr : pthK l i k ++ r = pathT l i) : ∃ r2, r = (lvN l k).getD (anc i k ^^^ 1) noB :: r2 ∧ pthK l i (k + 1) ++ r2 = pathT l i := by
  obtain ⟨r2, h2⟩ := pth_pre l i (k := k + 1) (m := dep l.length) (by omega)
  rw [← path_eq h] at h2
  have e : pthK l i (k + 1) = pthK l i k ++ [(lvN l k).getD (anc i k ^^^ 1) noB] := by rw [pthK, besK, if_pos hx]
  refine ⟨r2, ?_, h2.symm⟩
  rw [← hr, e, List.append_assoc] at h2
  exact List.append_cancel_left h2
theorem pth_end {l : List ByteArray} {i : Nat} {r : List ByteArray} (h : i < l.length) (hr : pthK l i (dep l.length) ++ r = pathT l i) : r = [] := by
  rw [path_eq h] at hr
  exact List.append_right_eq_self.1 hr
theorem lvD_size {l : List ByteArray} (h : ∀ x ∈ l, isD x = true) (k j : Nat) : ((lvN l k).getD j noB).size ≤ 1000 := by
  rw [List.getD_eq_getElem?_getD]
  rcases Nat.lt_or_ge j (lvN l k).length with h1 | h1
  · rw [List.getElem?_eq_getElem h1]
    have := isD_size (lvN_D h k _ (List.getElem_mem h1))
    simp only [Option.getD_some]; omega
  · rw [List.getElem?_eq_none h1]; decide
theorem root_at {l : List ByteArray} {i : Nat} (h : i < l.length) : (lvN l (dep l.length)).getD (anc i (dep l.length)) noB = rootT l := by
  have h1 := dep_top l
  have h2 := anc_lt h (dep l.length)
  rw [show anc i (dep l.length) = 0 by omega]; rfl
set_option maxHeartbeats 2000000 in
/-- foyer/tree.Check -/
theorem tcheck_spec (D : List ByteArray) (leaf : ByteArray) (n i : Nat) (pv : Value) (w0 : World) (hT : Tabs w0) (hp : IsSl w0 pv 1 encS (pathT D i)) (hcp : capOK pv) (hn : n = D.length) (hi : i < D.length) (hl : D.length ≤ 100000) (hD : ∀ x ∈ D, isD x = true) (hleaf : D.getD i noB = leafD leaf) (hls : leaf.size ≤ 1000) :
    Ret Tryz.prog 23 #[.string (rootT D), .int .i64 (n : Int), .int .i64 (i : Int), .string leaf, pv] w0 (fun u w => u = .bool true ∧ Ext w0 w) := by
 refine ret_of_wp (nt := 66) Tryz.func23 rfl rfl rfl (fl := [(0, .string (rootT D)), (1, .int .i64 (n : Int)), (2, .int .i64 (i : Int)), (3, .string leaf), (4, pv)]) rfl (fun a S => ?_)
 subst hn
 have H := HSat.start w0
 have H := H.ro0 (TabsA) rfl (hT)
 have H := H.ro0 (CapA pv) rfl (hcp)
 have H := H.ro0 (Sl pv 1 encS (pathT D i)) rfl (hp)
 refine gsr ?_
 refine ga S fun a S => ?_
 refine gnt ?_
 refine g_seq ?_
 refine gsr ?_
 refine gm S fun a S => ?_
 refine gy rfl rfl rfl S (y_bin rfl S rfl rfl rfl) fun a S => ?_
 refine gm S fun a S => ?_
 refine wl_of (op_y (wg' 14 rfl rfl S rfl (decide_eq_false (by omega)) rfl) rfl rfl S (y_move rfl S rfl) fun a S => ?_)
 refine wl_of (op_y (wg' 14 rfl rfl S rfl (decide_eq_false (by omega)) rfl) rfl rfl S (y_bin rfl S rfl rfl rfl) fun a S => ?_)
 refine gy rfl rfl rfl S (y_or' rfl (decide_eq_false (by omega)) S rfl rfl) fun a S => ?_
 refine gm S fun a S => ?_
 refine wl_of (op_y (wg' 18 rfl rfl S rfl (by rw [Bool.or_eq_false_iff]; exact ⟨decide_eq_false (by omega), decide_eq_false (by omega)⟩) rfl) rfl rfl S (y_move rfl S rfl) fun a S => ?_)
 refine wl_of (op_y (wg' 18 rfl rfl S rfl (by rw [Bool.or_eq_false_iff]; exact ⟨decide_eq_false (by omega), decide_eq_false (by omega)⟩) rfl) rfl rfl S (y_move rfl S rfl) fun a S => ?_)
 refine wl_of (op_y (wg' 18 rfl rfl S rfl (by rw [Bool.or_eq_false_iff]; exact ⟨decide_eq_false (by omega), decide_eq_false (by omega)⟩) rfl) rfl rfl S (y_bin rfl S rfl rfl rfl) fun a S => ?_)
 refine gy rfl rfl rfl S (y_or' rfl (by rw [Bool.or_eq_false_iff]; exact ⟨decide_eq_false (by omega), decide_eq_false (by omega)⟩) S rfl rfl) fun a S => ?_
 refine gnt ?_
 have S := ((((((S.nil.cons S 4 rfl).cons S 3 rfl).cons S 2 rfl).cons S 1 rfl).cons S 0 rfl).cons S 10 rfl).cons S 22 rfl
 refine c_if S rfl (fun h3 => ?_) (fun h3 => ?_)
 ·have h3p := h3; try simp only [DL] at h3p
  all_goals (
    exfalso
    omega)
 ·have h3p := h3; try simp only [DL] at h3p
  refine g_skip ?_
  refine n_then ?_
  refine gsr ?_
  refine gm S fun a S => ?_
  refine wl_of (op_buildSlice (wn rfl) rfl rfl rfl Tryz.underlying22 Finf9 S H (idx := [0, 1]) rfl rfl rfl (z := [.string ⟨#[]⟩, .string ⟨#[]⟩]) (by kernel_rfl) (cs := [.string leafW, .string leaf]) rfl fun b24 a w S H => ?_)
  refine wl_of (op_call (wn rfl) rfl rfl S (co_func rfl Tryz.call50 S rfl) (treeof_spec _ [leafW, leaf] _ H.tabs (H.slb b24 _ encS 1 rfl rfl (by simp [encS]) (by decide)) (list_ok (by intro x hx; simp only [List.mem_cons, List.not_mem_nil, or_false] at hx; rcases hx with rfl | rfl; decide; exact hls) (by simp))) fun v w hc a S => ?_)
  obtain ⟨rfl, he⟩ := hc
  have H := H.ext he
  refine ga S fun a S => ?_
  refine gnt ?_
  have S := (((((S.nil.cons S 4 rfl).cons S 2 rfl).cons S 1 rfl).cons S 0 rfl).cons S 10 rfl).cons S 11 rfl
  refine g_seq ?_
  refine g_block ?_
  have SU := S.nil.cons S 0 rfl
  refine loopW (X := Nat × Value × List ByteArray) SU (fun x => [(1, .int .i64 (((lvN D x.1).length : Nat) : Int)), (2, .int .i64 ((anc i x.1 : Nat) : Int)), (11, .string ((lvN D x.1).getD (anc i x.1) noB)), (4, x.2.1)]) (fun x w => x.1 ≤ dep D.length ∧ pthK D i x.1 ++ x.2.2 = pathT D i ∧ HSat No w0 [Sl x.2.1 1 encS x.2.2, CapA x.2.1, TabsA] w) (fun x => dep D.length - x.1) (0, pv, pathT D i) ((((S.nil.cons S 4 rfl).cons S 11 (by rw [anc_0, show (lvN D 0).getD i noB = leafD leaf from hleaf]; rfl)).cons S 2 (by rw [anc_0]; rfl)).cons S 1 rfl) (⟨Nat.zero_le _, rfl, H.take [Sl pv 1 encS (pathT D i), CapA pv, TabsA]⟩) (fun x a w S hW => ?_)
  simp only [List.cons_append, List.nil_append] at S
  obtain ⟨k, pv, r⟩ := x
  obtain ⟨hk, hr, H⟩ := hW
  dsimp only at S H hk hr
  have hxl : (lvN D k).length ≤ 100000 := Nat.le_trans (lvN_le _ k) hl
  have hai := anc_lt hi k
  refine g_seq ?_
  refine gsr ?_
  refine gm S fun a S => ?_
  refine gy rfl rfl rfl S (y_bin rfl S rfl rfl rfl) fun a S => ?_
  refine gnt ?_
  refine c_if S rfl (fun h4 => ?_) (fun h4 => ?_)
  ·have h4p := h4; try simp only [DL] at h4p
   have hkd : k < dep D.length := by
     rcases Nat.lt_or_ge k (dep D.length) with h | h
     · exact h
     · have e := dep_top D
       rw [show dep D.length = k by omega] at e
       omega
   refine g_skip ?_
   refine n_then ?_
   refine g_seq ?_
   refine g_block ?_
   refine g_seq ?_
   refine gsr ?_
   refine gm S fun a S => ?_
   refine gy rfl rfl rfl S ((y_xori (m := anc i k) (q := 1) rfl S rfl rfl (by omega) (by decide))) fun a S => ?_
   refine gm S fun a S => ?_
   refine gy rfl rfl rfl S (y_bin rfl S rfl rfl rfl) fun a S => ?_
   refine gnt ?_
   have S := (((((S.nil.cons S 0 rfl).cons S 4 rfl).cons S 11 rfl).cons S 2 rfl).cons S 1 rfl).cons S 37 rfl
   refine c_if S rfl (fun h5 => ?_) (fun h5 => ?_)
   ·have h5p := h5; try simp only [DL] at h5p
    have hx1 : ¬ anc i k ^^^ 1 < (lvN D k).length := by omega
    have hup := lvN_up hi k
    rw [if_neg hx1] at hup
    have hr2 : pthK D i (k + 1) ++ r = pathT D i := by rw [← pth_no hx1]; exact hr
    rw [← hup] at S
    refine g_exit ?_
    refine x_then (x_eq ?_)
    refine n_then ?_
    refine g_region ?_
    refine gm S fun a S => ?_
    refine gm S fun a S => ?_
    refine gy rfl rfl rfl S ((y_quon (m := (lvN D k).length) (q := 2) rfl S rfl rfl (by omega) (by omega) (by omega))) fun a S => ?_
    refine gy rfl rfl rfl S (y_sub rfl S rfl rfl (by omega)) fun a S => ?_
    rw [show (((lvN D k).length : Nat) : Int) - (((lvN D k).length : Nat) : Int) / 2 = (((lvN D (k + 1)).length : Nat) : Int) by rw [lvN_len]; omega] at S
    refine gm S fun a S => ?_
    refine gy rfl rfl rfl S ((y_quon (m := anc i k) (q := 2) rfl S rfl rfl (by omega) (by omega) (by omega))) fun a S => ?_
    rw [show ((anc i k : Nat) : Int) / 2 = ((anc i (k + 1) : Nat) : Int) by rw [anc_s]; omega] at S
    refine ga S fun a S => ?_
    refine ga S fun a S => ?_
    refine gnt ?_
    first
    | exact ⟨(k + 1, pv, r), (((S.nil.cons S 4 rfl).cons S 11 rfl).cons S 2 rfl).cons S 1 rfl, S.nil.cons S 0 rfl, ⟨hkd, hr2, H⟩, by dsimp only; omega⟩
    | exact ⟨(k + 1, (subV pv 1 (((lvN D k).getD (anc i k ^^^ 1) noB) :: r2).length 1), r2), (((S.nil.cons S 4 rfl).cons S 11 rfl).cons S 2 rfl).cons S 1 rfl, S.nil.cons S 0 rfl, ⟨hkd, hr2, by
      have h := ((H.take [Sl pv 1 encS (((lvN D k).getD (anc i k ^^^ 1) noB) :: r2), CapA pv, TabsA]).partS (H.cap pv) 1 (((lvN D k).getD (anc i k ^^^ 1) noB) :: r2).length).ro (CapA (subV pv 1 (((lvN D k).getD (anc i k ^^^ 1) noB) :: r2).length 1)) rfl (capOK_sub (H.cap pv) _ _ _) (fun _ _ _ _ hb => hb.elim)
      rw [List.take_length, show List.drop 1 (((lvN D k).getD (anc i k ^^^ 1) noB) :: r2) = r2 from rfl] at h
      exact h.take [Sl (subV pv 1 (((lvN D k).getD (anc i k ^^^ 1) noB) :: r2).length 1) 1 encS r2, CapA (subV pv 1 (((lvN D k).getD (anc i k ^^^ 1) noB) :: r2).length 1), TabsA]⟩, by dsimp only; omega⟩
   ·have h5p := h5; try simp only [DL] at h5p
    have hx1 : anc i k ^^^ 1 < (lvN D k).length := by omega
    have hup := lvN_up hi k
    rw [if_pos hx1] at hup
    obtain ⟨r2, hr1, hr2⟩ := pth_split hi hkd hx1 hr
    subst hr1
    refine g_skip ?_
    refine n_then ?_
    refine g_seq ?_
    refine gsr ?_
    refine gm S fun a S => ?_
    refine gy rfl rfl rfl S (y_lens rfl Tryz.underlying22 S H rfl) fun a S => ?_
    refine gy rfl rfl rfl S (y_bin rfl S rfl rfl rfl) fun a S => ?_
    refine gnt ?_
    refine c_if S rfl (fun h6 => ?_) (fun h6 => ?_)
    ·have h6p := h6; try simp only [DL] at h6p
     all_goals (
       exfalso
       have h := h6p
       simp only [List.length_cons] at h
       omega)
    ·have h6p := h6; try simp only [DL] at h6p
     refine g_skip ?_
     refine n_then ?_
     have S := ((((S.nil.cons S 0 rfl).cons S 4 rfl).cons S 11 rfl).cons S 2 rfl).cons S 1 rfl
     refine g_seq ?_
     refine gsr ?_
     refine gm S fun a S => ?_
     refine gy rfl rfl rfl S ((y_remn (m := anc i k) (q := 2) rfl S rfl rfl (by omega) (by omega))) fun a S => ?_
     refine gy rfl rfl rfl S (y_bin rfl S rfl rfl rfl) fun a S => ?_
     refine gnt ?_
     refine c_if S rfl (fun h7 => ?_) (fun h7 => ?_)
     ·have h7p := h7; try simp only [DL] at h7p
      rw [if_pos (show anc i k % 2 = 0 by omega)] at hup
      refine g_region ?_
      refine gm S fun a S => ?_
      refine gm S fun a S => ?_
      refine gy rfl rfl rfl S (y_iaddrs rfl Tryz.underlying22 Fsiz9 S H rfl rfl (by first | assumption | omega | (simp only [LL]; omega))) fun a S => ?_
      refine gy rfl rfl rfl S (y_loads _ rfl Fsca9 S H rfl (by first | assumption | omega | (simp only [LL]; omega)) rfl) fun a S => ?_
      refine wl_of (op_buildSlice (wn rfl) rfl rfl rfl Tryz.underlying22 Finf9 S H (idx := [0, 1, 2]) rfl rfl rfl (z := [.string ⟨#[]⟩, .string ⟨#[]⟩, .string ⟨#[]⟩]) (by kernel_rfl) (cs := [.string nodeW, .string ((lvN D k).getD (anc i k) noB), .string ((lvN D k).getD (anc i k ^^^ 1) noB)]) rfl fun b48 a w S H => ?_)
      refine wl_of (op_call (wn rfl) rfl rfl S (co_func rfl Tryz.call50 S rfl) (treeof_spec _ [nodeW, ((lvN D k).getD (anc i k) noB), ((lvN D k).getD (anc i k ^^^ 1) noB)] _ H.tabs (H.slb b48 _ encS 1 rfl rfl (by simp [encS]) (by first | decide | (simp only [List.length_cons, List.length_nil]; decide))) (list_ok (by intro x hx; simp only [List.mem_cons, List.not_mem_nil, or_false] at hx; rcases hx with rfl | rfl | rfl; decide; exact lvD_size hD _ _; exact lvD_size hD _ _) (by simp))) fun v w hc a S => ?_)
      obtain ⟨rfl, he⟩ := hc
      have H := H.ext he
      rw [show listS [nodeW, ((lvN D k).getD (anc i k) noB), ((lvN D k).getD (anc i k ^^^ 1) noB)] = ((lvN D (k + 1)).getD (anc i (k + 1)) noB) from hup.symm] at S
      refine ga S fun a S => ?_
      refine gnt ?_
      have S := ((((S.nil.cons S 0 rfl).cons S 4 rfl).cons S 2 rfl).cons S 1 rfl).cons S 11 rfl
      refine g_region ?_
      refine gm S fun a S => ?_
      refine gy rfl rfl rfl S ((y_sliceL (i := 1) rfl Tryz.underlying22 Fsiz9 S H rfl rfl (by simp only [List.length_cons]; omega))) fun a S => ?_
      refine ga S fun a S => ?_
      refine gl_nil ?_
      refine n_block ?_
      refine n_then ?_
      refine g_region ?_
      refine gm S fun a S => ?_
      refine gm S fun a S => ?_
      refine gy rfl rfl rfl S ((y_quon (m := (lvN D k).length) (q := 2) rfl S rfl rfl (by omega) (by omega) (by omega))) fun a S => ?_
      refine gy rfl rfl rfl S (y_sub rfl S rfl rfl (by omega)) fun a S => ?_
      rw [show (((lvN D k).length : Nat) : Int) - (((lvN D k).length : Nat) : Int) / 2 = (((lvN D (k + 1)).length : Nat) : Int) by rw [lvN_len]; omega] at S
      refine gm S fun a S => ?_
      refine gy rfl rfl rfl S ((y_quon (m := anc i k) (q := 2) rfl S rfl rfl (by omega) (by omega) (by omega))) fun a S => ?_
      rw [show ((anc i k : Nat) : Int) / 2 = ((anc i (k + 1) : Nat) : Int) by rw [anc_s]; omega] at S
      refine ga S fun a S => ?_
      refine ga S fun a S => ?_
      refine gnt ?_
      first
      | exact ⟨(k + 1, pv, r), (((S.nil.cons S 4 rfl).cons S 11 rfl).cons S 2 rfl).cons S 1 rfl, S.nil.cons S 0 rfl, ⟨hkd, hr2, H⟩, by dsimp only; omega⟩
      | exact ⟨(k + 1, (subV pv 1 (((lvN D k).getD (anc i k ^^^ 1) noB) :: r2).length 1), r2), (((S.nil.cons S 4 rfl).cons S 11 rfl).cons S 2 rfl).cons S 1 rfl, S.nil.cons S 0 rfl, ⟨hkd, hr2, by
        have h := ((H.take [Sl pv 1 encS (((lvN D k).getD (anc i k ^^^ 1) noB) :: r2), CapA pv, TabsA]).partS (H.cap pv) 1 (((lvN D k).getD (anc i k ^^^ 1) noB) :: r2).length).ro (CapA (subV pv 1 (((lvN D k).getD (anc i k ^^^ 1) noB) :: r2).length 1)) rfl (capOK_sub (H.cap pv) _ _ _) (fun _ _ _ _ hb => hb.elim)
        rw [List.take_length, show List.drop 1 (((lvN D k).getD (anc i k ^^^ 1) noB) :: r2) = r2 from rfl] at h
        exact h.take [Sl (subV pv 1 (((lvN D k).getD (anc i k ^^^ 1) noB) :: r2).length 1) 1 encS r2, CapA (subV pv 1 (((lvN D k).getD (anc i k ^^^ 1) noB) :: r2).length 1), TabsA]⟩, by dsimp only; omega⟩
     ·have h7p := h7; try simp only [DL] at h7p
      rw [if_neg (show ¬ anc i k % 2 = 0 by omega)] at hup
      refine g_region ?_
      refine gm S fun a S => ?_
      refine gy rfl rfl rfl S (y_iaddrs rfl Tryz.underlying22 Fsiz9 S H rfl rfl (by first | assumption | omega | (simp only [LL]; omega))) fun a S => ?_
      refine gy rfl rfl rfl S (y_loads _ rfl Fsca9 S H rfl (by first | assumption | omega | (simp only [LL]; omega)) rfl) fun a S => ?_
      refine gm S fun a S => ?_
      refine wl_of (op_buildSlice (wn rfl) rfl rfl rfl Tryz.underlying22 Finf9 S H (idx := [0, 1, 2]) rfl rfl rfl (z := [.string ⟨#[]⟩, .string ⟨#[]⟩, .string ⟨#[]⟩]) (by kernel_rfl) (cs := [.string nodeW, .string ((lvN D k).getD (anc i k ^^^ 1) noB), .string ((lvN D k).getD (anc i k) noB)]) rfl fun b54 a w S H => ?_)
      refine wl_of (op_call (wn rfl) rfl rfl S (co_func rfl Tryz.call50 S rfl) (treeof_spec _ [nodeW, ((lvN D k).getD (anc i k ^^^ 1) noB), ((lvN D k).getD (anc i k) noB)] _ H.tabs (H.slb b54 _ encS 1 rfl rfl (by simp [encS]) (by first | decide | (simp only [List.length_cons, List.length_nil]; decide))) (list_ok (by intro x hx; simp only [List.mem_cons, List.not_mem_nil, or_false] at hx; rcases hx with rfl | rfl | rfl; decide; exact lvD_size hD _ _; exact lvD_size hD _ _) (by simp))) fun v w hc a S => ?_)
      obtain ⟨rfl, he⟩ := hc
      have H := H.ext he
      rw [show listS [nodeW, ((lvN D k).getD (anc i k ^^^ 1) noB), ((lvN D k).getD (anc i k) noB)] = ((lvN D (k + 1)).getD (anc i (k + 1)) noB) from hup.symm] at S
      refine ga S fun a S => ?_
      refine gnt ?_
      have S := ((((S.nil.cons S 0 rfl).cons S 4 rfl).cons S 2 rfl).cons S 1 rfl).cons S 11 rfl
      refine g_region ?_
      refine gm S fun a S => ?_
      refine gy rfl rfl rfl S ((y_sliceL (i := 1) rfl Tryz.underlying22 Fsiz9 S H rfl rfl (by simp only [List.length_cons]; omega))) fun a S => ?_
      refine ga S fun a S => ?_
      refine gl_nil ?_
      refine n_block ?_
      refine n_then ?_
      refine g_region ?_
      refine gm S fun a S => ?_
      refine gm S fun a S => ?_
      refine gy rfl rfl rfl S ((y_quon (m := (lvN D k).length) (q := 2) rfl S rfl rfl (by omega) (by omega) (by omega))) fun a S => ?_
      refine gy rfl rfl rfl S (y_sub rfl S rfl rfl (by omega)) fun a S => ?_
      rw [show (((lvN D k).length : Nat) : Int) - (((lvN D k).length : Nat) : Int) / 2 = (((lvN D (k + 1)).length : Nat) : Int) by rw [lvN_len]; omega] at S
      refine gm S fun a S => ?_
      refine gy rfl rfl rfl S ((y_quon (m := anc i k) (q := 2) rfl S rfl rfl (by omega) (by omega) (by omega))) fun a S => ?_
      rw [show ((anc i k : Nat) : Int) / 2 = ((anc i (k + 1) : Nat) : Int) by rw [anc_s]; omega] at S
      refine ga S fun a S => ?_
      refine ga S fun a S => ?_
      refine gnt ?_
      first
      | exact ⟨(k + 1, pv, r), (((S.nil.cons S 4 rfl).cons S 11 rfl).cons S 2 rfl).cons S 1 rfl, S.nil.cons S 0 rfl, ⟨hkd, hr2, H⟩, by dsimp only; omega⟩
      | exact ⟨(k + 1, (subV pv 1 (((lvN D k).getD (anc i k ^^^ 1) noB) :: r2).length 1), r2), (((S.nil.cons S 4 rfl).cons S 11 rfl).cons S 2 rfl).cons S 1 rfl, S.nil.cons S 0 rfl, ⟨hkd, hr2, by
        have h := ((H.take [Sl pv 1 encS (((lvN D k).getD (anc i k ^^^ 1) noB) :: r2), CapA pv, TabsA]).partS (H.cap pv) 1 (((lvN D k).getD (anc i k ^^^ 1) noB) :: r2).length).ro (CapA (subV pv 1 (((lvN D k).getD (anc i k ^^^ 1) noB) :: r2).length 1)) rfl (capOK_sub (H.cap pv) _ _ _) (fun _ _ _ _ hb => hb.elim)
        rw [List.take_length, show List.drop 1 (((lvN D k).getD (anc i k ^^^ 1) noB) :: r2) = r2 from rfl] at h
        exact h.take [Sl (subV pv 1 (((lvN D k).getD (anc i k ^^^ 1) noB) :: r2).length 1) 1 encS r2, CapA (subV pv 1 (((lvN D k).getD (anc i k ^^^ 1) noB) :: r2).length 1), TabsA]⟩, by dsimp only; omega⟩
  ·have h4p := h4; try simp only [DL] at h4p
   have hkd : k = dep D.length := by
     rcases Nat.lt_or_ge k (dep D.length) with h | h
     · have e := dep_more (l := D) (k := k) h
       omega
     · omega
   subst hkd
   obtain rfl := pth_end hi hr
   rw [root_at hi] at S
   refine g_exit ?_
   refine x_then (x_then (x_eq ?_))
   refine n_then ?_
   have S := ((S.nil.cons S 0 rfl).cons S 4 rfl).cons S 11 rfl
   refine gsr ?_
   refine gm S fun a S => ?_
   refine gy rfl rfl rfl S (y_lens rfl Tryz.underlying22 S H rfl) fun a S => ?_
   refine gy rfl rfl rfl S (y_bin rfl S rfl rfl rfl) fun a S => ?_
   refine gm S fun a S => ?_
   refine wl_of (op_y (wg' 61 rfl rfl S rfl (by simp) rfl) rfl rfl S (y_move rfl S rfl) fun a S => ?_)
   refine wl_of (op_y (wg' 61 rfl rfl S rfl (by simp) rfl) rfl rfl S (y_move rfl S rfl) fun a S => ?_)
   refine wl_of (op_y (wg' 61 rfl rfl S rfl (by simp) rfl) rfl rfl S (y_eqs rfl Tryz.underlying9 S rfl rfl) fun a S => ?_)
   refine gy rfl rfl rfl S (y_and' rfl (by simp) S rfl rfl) fun a S => ?_
   refine ga S fun a S => ?_
   refine gnt ?_
   have S := S.nil.cons S 10 rfl
   refine g_ret ?_
   refine ret1 rfl S rfl ?_
   exact ⟨by simp, H.toExt⟩
end Go.Proofs.YtjdbggnhdeaflaaGreatDoor
end
section
namespace Go.Proofs.YtjdbggnhdeaflaaGreatDoor
open Go Go.Gw
set_option linter.unusedVariables false
set_option linter.unusedSimpArgs false
theorem ret2csM {P : Program} {fl : Slots} {a : Act} {w w0 : World} {v v2 : Value} {M : Nat → Prop} {l : List Atom} {fn : Func} {R : Value → World → Prop} {t u T U b b2 : Nat} {cs cs2 : List Value} {T' T2' : TypeId} {fz fz2 : Nat × Nat} {m : Nat} {ds : List Nat} (hr : fn.results = #[.cell t T, .cell u U]) (S : St ⟨m, ds⟩ fl a) (H : HSat M w0 (DefsA ds :: l) w) (hv : fl.lookup t = some (.pointer (some ⟨b, 0, none⟩))) (hu : fl.lookup u = some (.pointer (some ⟨b2, 0, none⟩)))
    [h : HasRd l b (.cells cs.toArray T' fz)] [h2 : HasRd l b2 (.cells cs2.toArray T2' fz2)] (hT : scalarB P T = true) (hU : scalarB P U = true) (hc : cs[0]? = some v) (hc2 : cs2[0]? = some v2) (hR : ∀ w, HSat M w0 l w → R (.tuple #[v, v2]) w) : endP P fn R .ret a w := by
  show LeavesInM Fence.wide 0 P fn a.tmps _ a.defers .returning w
  rw [S.defers]
  refine leavesM (fun w H => ?_) hR ds w H
  have hl := run_loadVar_scalar (P := P) (w := w) (p := ⟨b, 0, none⟩) hT (by rw [H.cell h]; exact hc)
  have hl2 := run_loadVar_scalar (P := P) (w := w) (p := ⟨b2, 0, none⟩) hU (by rw [H.cell h2]; exact hc2)
  have hv' : a.tmps[t]?.getD undef = .pointer (some ⟨b, 0, none⟩) := by rw [← Array.getD_eq_getD_getElem?]; exact S.get t _ hv
  have hu' : a.tmps[u]?.getD undef = .pointer (some ⟨b2, 0, none⟩) := by rw [← Array.getD_eq_getD_getElem?]; exact S.get u _ hu
  simp [results, hr, hv', hu', asAddr, hl, hl2]
def encN (n : Nat) : List Value := [.int .i64 (n : Int)]
/-- the last index before the k-th one -/
def lastW (xs : List Nat) (k : Nat) : Int := if k = 0 then -1 else (xs.getD (k - 1) 0 : Int)
theorem lastW_s {xs : List Nat} {k : Nat} (h : k < xs.length) : lastW xs (k + 1) = (xs[k] : Int) := by
  unfold lastW
  rw [if_neg (by omega), Nat.add_sub_cancel, List.getD_eq_getElem?_getD, List.getElem?_eq_getElem h]; rfl
theorem lastW_lt {xs : List Nat} {n k : Nat} (hw : IncW xs n) (h : k < xs.length) : lastW xs k < (xs[k] : Int) ∧ xs[k] < n := by
  refine ⟨?_, hw.lt _ (List.getElem_mem h)⟩
  unfold lastW
  split
  · omega
  · rw [List.getD_eq_getElem?_getD, List.getElem?_eq_getElem (by omega), Option.getD_some]
    have := List.pairwise_iff_getElem.1 hw.inc (k - 1) k (by omega) h (by omega)
    omega
theorem lastW_pos {xs : List Nat} {n : Nat} (hw : IncW xs n) : 0 ≤ lastW xs xs.length := by
  unfold lastW
  have := hw.pos
  rw [if_neg (by omega)]; omega
theorem saltL_s (s : ByteArray) (k : Nat) : saltL s k ++ [startS s k] = saltL s (k + 1) := by
  unfold saltL; rw [List.range_succ, List.map_append]; rfl
theorem elemL_s (fs : List ByteArray) (s : ByteArray) (k : Nat) : elemL fs s k ++ [elemK fs s k] = elemL fs s (k + 1) := by
  unfold elemL; rw [List.range_succ, List.map_append]; rfl
theorem elemK_at {fs : List ByteArray} {s : ByteArray} {k : Nat} (h : k < fs.length) : startS s k ++ fs[k] = elemK fs s k := by
  unfold elemK; rw [List.getD_eq_getElem?_getD, List.getElem?_eq_getElem h]; rfl
theorem elemK_size {fs : List ByteArray} (hs : ∀ x ∈ fs, x.size ≤ 200) (s : ByteArray) (k : Nat) : (elemK fs s k).size ≤ 1000 := by
  have h1 := isD_size (startS_D s k)
  have h2 : (fs.getD k noB).size ≤ 200 := by
    rw [List.getD_eq_getElem?_getD]
    rcases Nat.lt_or_ge k fs.length with h | h
    · rw [List.getElem?_eq_getElem h]; exact hs _ (List.getElem_mem h)
    · rw [List.getElem?_eq_none h]; decide
  unfold elemK
  rw [ByteArray.size_append]; omega
theorem saltL_len (s : ByteArray) (k : Nat) : (saltL s k).length = k := by simp [saltL]
theorem elemL_len (fs : List ByteArray) (s : ByteArray) (k : Nat) : (elemL fs s k).length = k := by simp [elemL]
/-- foyer/reveal.increasing -/
theorem inc_spec (v : Value) (xs : List Nat) (n : Nat) (w0 : World) (hv : IsSl w0 v 1 encN xs) (hw : IncW xs n) (hn : n ≤ 100000) :
    Ret Tryz.prog 19 #[v, .int .i64 (n : Int)] w0 (fun u w => u = .bool true ∧ Ext w0 w) := by
 refine ret_of_wp (nt := 26) Tryz.func19 rfl rfl rfl (fl := [(0, v), (1, .int .i64 (n : Int))]) rfl (fun a S => ?_)
 have H := HSat.start w0
 have H := H.ro0 (Sl v 1 encN xs) rfl (hv)
 have hxl := hw.len
 refine gsr ?_
 refine ga S fun a S => ?_
 refine gnt ?_
 refine gsr ?_
 refine ga S fun a S => ?_
 refine gnt ?_
 refine g_seq ?_
 refine gsr ?_
 refine gm S fun a S => ?_
 refine gy rfl rfl rfl S (y_lens rfl Tryz.underlying27 S H rfl) fun a S => ?_
 refine gm S fun a S => ?_
 refine gnt ?_
 refine g_block ?_
 have SU := ((S.nil.cons S 1 rfl).cons S 8 rfl).cons S 9 rfl
 refine loopW (X := Nat) SU (fun k => [(10, .int .i64 (k : Int)), (5, .int .i64 (lastW xs k))]) (fun k w => k ≤ xs.length ∧ HSat No w0 [Sl v 1 encN xs] w) (fun k => xs.length - k) 0 ((S.nil.cons S 5 rfl).cons S 10 rfl) (⟨by omega, H⟩) (fun k a w S hW => ?_)
 simp only [List.cons_append, List.nil_append] at S
 obtain ⟨hk, H⟩ := hW
 refine gsr ?_
 refine gy rfl rfl rfl S (y_bin rfl S rfl rfl rfl) fun a S => ?_
 refine gnt ?_
 refine g_seq ?_
 refine c_if S rfl (fun h1 => ?_) (fun h1 => ?_)
 ·have h1p := h1; try simp only [DL] at h1p
  have hkl : k < xs.length := by omega
  obtain ⟨hw1, hw2⟩ := lastW_lt hw hkl
  refine g_skip ?_
  refine n_then ?_
  refine g_seq ?_
  refine g_block ?_
  refine gsr ?_
  refine gy rfl rfl rfl S (y_iaddrn rfl Tryz.underlying27 Fsiz3 S H rfl rfl (by first | assumption | omega | (simp only [LL]; omega))) fun a S => ?_
  refine gy rfl rfl rfl S (y_loads _ rfl Fsca3 S H rfl (by first | assumption | omega | (simp only [LL]; omega)) rfl) fun a S => ?_
  refine ga S fun a S => ?_
  refine gnt ?_
  refine g_seq ?_
  refine gsr ?_
  refine gm S fun a S => ?_
  refine gm S fun a S => ?_
  refine gy rfl rfl rfl S (y_bin rfl S rfl rfl rfl) fun a S => ?_
  refine gm S fun a S => ?_
  refine wl_of (op_y (wg' 17 rfl rfl S rfl (decide_eq_false (by omega)) rfl) rfl rfl S (y_move rfl S rfl) fun a S => ?_)
  refine wl_of (op_y (wg' 17 rfl rfl S rfl (decide_eq_false (by omega)) rfl) rfl rfl S (y_move rfl S rfl) fun a S => ?_)
  refine wl_of (op_y (wg' 17 rfl rfl S rfl (decide_eq_false (by omega)) rfl) rfl rfl S (y_bin rfl S rfl rfl rfl) fun a S => ?_)
  refine gy rfl rfl rfl S (y_or' rfl (decide_eq_false (by omega)) S rfl rfl) fun a S => ?_
  refine gnt ?_
  have S := ((((((S.nil.cons S 1 rfl).cons S 8 rfl).cons S 9 rfl).cons S 5 rfl).cons S 10 rfl).cons S 7 rfl).cons S 21 rfl
  refine c_if S rfl (fun h3 => ?_) (fun h3 => ?_)
  ·have h3p := h3; try simp only [DL] at h3p
   all_goals (
     exfalso
     omega)
  ·have h3p := h3; try simp only [DL] at h3p
   refine g_skip ?_
   refine n_then ?_
   refine g_region ?_
   refine gm S fun a S => ?_
   refine ga S fun a S => ?_
   refine gl_nil ?_
   refine n_block ?_
   refine n_then ?_
   have S := ((((S.nil.cons S 1 rfl).cons S 8 rfl).cons S 9 rfl).cons S 10 rfl).cons S 5 rfl
   refine g_region ?_
   refine gy rfl rfl rfl S (y_add rfl S rfl rfl (by omega)) fun a S => ?_
   refine gm S fun a S => ?_
   refine gnt ?_
   rw [← lastW_s hkl] at S
   exact ⟨k + 1, (S.nil.cons S 5 rfl).cons S 10 rfl, ((S.nil.cons S 1 rfl).cons S 8 rfl).cons S 9 rfl, ⟨by omega, H⟩, by omega⟩
 ·have h1p := h1; try simp only [DL] at h1p
  obtain rfl : k = xs.length := by omega
  have hw3 := lastW_pos hw
  refine g_exit ?_
  refine x_then (x_then (x_eq ?_))
  refine n_then ?_
  have S := S.nil.cons S 5 rfl
  refine gsr ?_
  refine gm S fun a S => ?_
  refine gy rfl rfl rfl S (y_bin rfl S rfl rfl rfl) fun a S => ?_
  refine ga S fun a S => ?_
  refine gnt ?_
  refine g_ret ?_
  refine ret1 rfl S rfl ?_
  exact ⟨by simp [hw3], H.toExt⟩
/-- foyer/reveal.elements -/
theorem elements_spec (v : Value) (fs : List ByteArray) (s : ByteArray) (w0 : World) (hv : IsSl w0 v 1 encS fs) :
    Ret Tryz.prog 48 #[v, .string s] w0 (fun u w => ∃ b c, u = .func (.func 76) #[] #[.pointer (some ⟨b, 0, none⟩), .pointer (some ⟨c, 0, none⟩)] ∧ HSat No w0 [Cel c 9 [.string s], Cel b 22 [v]] w) := by
 refine ret_of_wp (nt := 6) Tryz.func48 rfl rfl rfl (fl := [(0, v), (1, .string s)]) rfl (fun a S => ?_)
 have H := HSat.start w0
 have H := H.ro0 (Sl v 1 encS fs) rfl (hv)
 refine gsr ?_
 refine wl_of (op_box1 (wn rfl) rfl rfl rfl S H rfl (H.slc _) fun b2 a w S H => ?_)
 refine wl_of (op_box1 (wn rfl) rfl rfl rfl S H rfl rfl fun b3 a w S H => ?_)
 refine ga S fun a S => ?_
 refine gnt ?_
 refine gsr ?_
 refine gy rfl rfl rfl S (y_makeFunc rfl S rfl rfl) fun a S => ?_
 refine ga S fun a S => ?_
 refine gnt ?_
 have S := S.nil.cons S 4 rfl
 refine g_ret ?_
 refine ret1 rfl S rfl ?_
 exact ⟨_, _, rfl, H.take [Cel b3 9 [.string s], Cel b2 22 [v]]⟩
set_option maxHeartbeats 1000000 in
/-- foyer/reveal.elements$1 -/
theorem elem_iter {M : Nat → Prop} {u0 : World} {Z : Type} (L : Nat → Z → List Atom) (lb c1 c2 : Nat) (v : Value) (fs : List ByteArray) (s : ByteArray) (w0 : World) (hl : fs.length ≤ 1000) (hss : s.size ≤ 1000) (hfs : ∀ x ∈ fs, x.size ≤ 200)
    (hround : ∀ k, k < fs.length → ∀ z w, HSat M u0 (Atom.ro (Cel c1 22 [v]) :: Atom.ro (Cel c2 9 [.string s]) :: Sl v 1 encS fs :: TabsA :: L k z) w → YieldRet Tryz.prog lb #[.string (startS s k), .string (elemK fs s k)] w (fun u w' => u = .bool true ∧ ∃ z, HSat M u0 (Atom.ro (Cel c1 22 [v]) :: Atom.ro (Cel c2 9 [.string s]) :: Sl v 1 encS fs :: TabsA :: L (k + 1) z) w')) (h0 : ∃ z, HSat M u0 (Atom.ro (Cel c1 22 [v]) :: Atom.ro (Cel c2 9 [.string s]) :: Sl v 1 encS fs :: TabsA :: L 0 z) w0) :
    Ret Tryz.prog 76 #[.func (.yield lb) #[] #[], .pointer (some ⟨c1, 0, none⟩), .pointer (some ⟨c2, 0, none⟩)] w0 (fun u w => ∃ z, HSat M u0 (Atom.ro (Cel c1 22 [v]) :: Atom.ro (Cel c2 9 [.string s]) :: Sl v 1 encS fs :: TabsA :: L fs.length z) w) := by
 refine ret_of_wp (nt := 27) Tryz.func76 rfl rfl rfl (fl := [(0, .func (.yield lb) #[] #[]), (1, .pointer (some ⟨c1, 0, none⟩)), (2, .pointer (some ⟨c2, 0, none⟩))]) rfl (fun a S => ?_)
 obtain ⟨z0, H⟩ := h0
 refine gsr ?_
 refine gy rfl rfl rfl S (y_load rfl Fsca22 S H rfl rfl) fun a S => ?_
 refine gy rfl rfl rfl S (y_lens rfl Tryz.underlying22 S H rfl) fun a S => ?_
 refine gm S fun a S => ?_
 refine gnt ?_
 refine g_block ?_
 have SU := (((S.nil.cons S 2 rfl).cons S 0 rfl).cons S 7 rfl).cons S 8 rfl
 refine loopW (X := Nat) SU (fun k => [(9, .int .i64 (k : Int))]) (fun k w => k ≤ fs.length ∧ ∃ z, HSat M u0 (Atom.ro (Cel c1 22 [v]) :: Atom.ro (Cel c2 9 [.string s]) :: Sl v 1 encS fs :: TabsA :: L k z) w) (fun k => fs.length - k) 0 (S.nil.cons S 9 rfl) (⟨by omega, z0, H⟩) (fun k a w S hW => ?_)
 simp only [List.cons_append, List.nil_append] at S
 obtain ⟨hk, z, H⟩ := hW
 refine gsr ?_
 refine gy rfl rfl rfl S (y_bin rfl S rfl rfl rfl) fun a S => ?_
 refine gnt ?_
 refine g_seq ?_
 refine c_if S rfl (fun h1 => ?_) (fun h1 => ?_)
 ·have h1p := h1; try simp only [DL] at h1p
  have hkl : k < fs.length := by omega
  refine g_skip ?_
  refine n_then ?_
  refine g_seq ?_
  refine g_block ?_
  refine gsr ?_
  refine gm S fun a S => ?_
  refine gy rfl rfl rfl S (y_iaddrn rfl Tryz.underlying22 Fsiz9 S H rfl rfl (by first | assumption | omega | (simp only [LL]; omega))) fun a S => ?_
  refine gy rfl rfl rfl S (y_loads _ rfl Fsca9 S H rfl (by first | assumption | omega | (simp only [LL]; omega)) rfl) fun a S => ?_
  refine ga S fun a S => ?_
  refine ga S fun a S => ?_
  refine gnt ?_
  have S := ((((((S.nil.cons S 2 rfl).cons S 0 rfl).cons S 7 rfl).cons S 8 rfl).cons S 9 rfl).cons S 4 rfl).cons S 5 rfl
  refine g_seq ?_
  refine region_st (loud := [3]) (tails := []) (free := []) [0, 1, 2, 3, 4, 5] [] Fmo (by kernel_rfl) (by kernel_rfl) rfl H ?_
  refine m_w rfl rfl (wn rfl) rfl rfl S (fun w H => y_load rfl Fsca9 S H rfl rfl) fun a S => ?_
  refine m_w rfl rfl (wn rfl) rfl rfl S (fun w H => y_move rfl S rfl) fun a S => ?_
  refine m_c rfl rfl (wn rfl) rfl rfl S (fun w => co_func rfl Tryz.call53 S rfl) (fun w H => itoa_t (k : Int) (by omega) (by omega) _ H.tabs) fun a S => ?_
  refine m_l rfl rfl (fun w H => op_buildSlice (wn rfl) rfl rfl rfl Tryz.underlying22 Finf9 S H (idx := [0, 1]) rfl rfl rfl (z := [.string ⟨#[]⟩, .string ⟨#[]⟩]) (by kernel_rfl) (cs := [.string s, .string (itoaS (k : Int))]) rfl fun b17 a w S H => m_next H (List.sublist_cons_self _ _) ?_)
  refine m_c rfl rfl (wn rfl) rfl rfl S (fun w => co_func rfl Tryz.call77 S rfl) (fun w H => revealof_spec _ [s, itoaS (k : Int)] _ H.tabs (H.slb b17 _ encS 1 rfl rfl (by simp [encS]) (by decide)) (list_ok (by intro x hx; simp only [List.mem_cons, List.not_mem_nil, or_false] at hx; rcases hx with rfl | rfl; exact hss; have := itoaS_size (k : Int) (by omega) (by omega); omega) (by simp))) fun a S => ?_
  refine m_w rfl rfl (wn rfl) rfl rfl S (fun w H => y_assign rfl S rfl) fun a S => ?_
  refine m_nil (fun w H => ?_)
  refine n_then ?_
  have S := ((((((S.nil.cons S 2 rfl).cons S 0 rfl).cons S 7 rfl).cons S 8 rfl).cons S 9 rfl).cons S 5 rfl).cons S 6 rfl
  refine gsr ?_
  refine gm S fun a S => ?_
  refine gm S fun a S => ?_
  refine gm S fun a S => ?_
  refine gm S fun a S => ?_
  refine gy rfl rfl rfl S ((y_adds rfl S rfl rfl (by have := isD_size (startS_D s k); have := hfs _ (List.getElem_mem hkl); rw [show listS [s, itoaS (k : Int)] = startS s k from rfl]; omega))) fun a S => ?_
  rw [show listS [s, itoaS (k : Int)] = startS s k from rfl, elemK_at hkl] at S
  refine wl_of (op_yield (wn rfl) rfl rfl rfl S rfl rfl (hround k hkl z _ H.tail) fun u w hc a S => ?_)
  obtain ⟨rfl, z2, H⟩ := hc
  refine gy rfl rfl rfl S (y_not rfl S rfl) fun a S => ?_
  refine gnt ?_
  have S := (((((S.nil.cons S 2 rfl).cons S 0 rfl).cons S 7 rfl).cons S 8 rfl).cons S 9 rfl).cons S 25 rfl
  refine c_if S rfl (fun h2 => ?_) (fun h2 => ?_)
  ·have h2p := h2; try simp only [DL] at h2p
   all_goals (
     exact absurd h2 (by simp))
  ·have h2p := h2; try simp only [DL] at h2p
   refine g_skip ?_
   refine n_block ?_
   refine n_then ?_
   refine g_region ?_
   refine gy rfl rfl rfl S (y_add rfl S rfl rfl (by omega)) fun a S => ?_
   refine gm S fun a S => ?_
   refine gnt ?_
   exact ⟨k + 1, S.nil.cons S 9 rfl, (((S.nil.cons S 2 rfl).cons S 0 rfl).cons S 7 rfl).cons S 8 rfl, ⟨by omega, z2, H⟩, by omega⟩
 ·have h1p := h1; try simp only [DL] at h1p
  obtain rfl : k = fs.length := by omega
  refine g_exit ?_
  refine x_then (x_then (x_eq ?_))
  refine ret0n rfl S ?_
  exact ⟨z, H⟩
set_option maxHeartbeats 2000000 in
/-- foyer/reveal.spread -/
theorem spread_spec (v : Value) (fs : List ByteArray) (s : ByteArray) (w0 : World) (hT : Tabs w0) (hv : IsSl w0 v 1 encS fs) (hl : fs.length ≤ 1000) (hss : s.size ≤ 1000) (hfs : ∀ x ∈ fs, x.size ≤ 200) :
    Ret Tryz.prog 20 #[v, .string s] w0 (fun u w => ∃ a b, u = .tuple #[a, b] ∧ HSat No w0 [OSl 9 a 1 encS (saltL s fs.length), OSl 9 b 1 encS (elemL fs s fs.length)] w) := by
 refine ret_of_wp (nt := 23) Tryz.func20 rfl rfl rfl (fl := [(0, v), (1, .string s)]) rfl (fun a S => ?_)
 have H := HSat.start w0
 have H := H.ro0 (TabsA) rfl (hT)
 have H := H.ro0 (Sl v 1 encS fs) rfl (hv)
 refine gsr ?_
 refine wl_of (op_alloc (wn rfl) rfl rfl rfl S H Fzer22 fun b4 a w S H => ?_)
 refine wl_of (op_alloc (wn rfl) rfl rfl rfl S H Fzer22 fun b5 a w S H => ?_)
 refine gnt ?_
 refine g_seq ?_
 refine gsr ?_
 refine gm S fun a S => ?_
 refine gm S fun a S => ?_
 refine wl_of (op_call (wn rfl) rfl rfl S (co_func rfl Tryz.call48 S rfl) (elements_spec v fs s _ (H.sl v)) fun v w hc a S => ?_)
 obtain ⟨cb, cc, rfl, H1⟩ := hc
 have H := H.call H1 (by simp [Blk])
 simp only [List.cons_append, List.nil_append] at H
 refine gnt ?_
 have S := ((S.nil.cons S 4 rfl).cons S 5 rfl).cons S 10 rfl
 refine g_block ?_
 have H := ((((H.freeze.front (Cel cb 22 [v])).freeze).nilO 9 1 encS).nilO 9 1 encS).defs0
 refine g_range (Φ := fun p l2 => p = none ∧ ∃ z : Value × Value, l2 = [Cel b4 22 [z.1], OSl 9 z.1 1 encS (saltL s (fs.length)), Cel b5 22 [z.2], OSl 9 z.2 1 encS (elemL fs s (fs.length)), Sl v 1 encS fs, TabsA]) S (H.take [DefsA [], Atom.ro (Cel cb 22 [v]), Atom.ro (Cel cc 9 [.string s]), Sl v 1 encS fs, TabsA, Cel b4 22 [(.slice none 0 0)], OSl 9 (.slice none 0 0) 1 encS [], Cel b5 22 [(.slice none 0 0)], OSl 9 (.slice none 0 0) 1 encS []]) rfl Tryz.call76 (fun R lb w1 hrec H1 => ?_) ?_
 ·have SR := S.recd
  refine Ret.mono (elem_iter (M := No) (u0 := w0) (Z := Value × Value) (fun k z => [Blk lb (.loop R), DefsA [R.defers], Cel b4 22 [z.1], OSl 9 z.1 1 encS (saltL s (k)), Cel b5 22 [z.2], OSl 9 z.2 1 encS (elemL fs s (k))]) lb cb cc v fs s w1 hl hss hfs (fun k hk z w H => ?_) ⟨(.slice none 0 0, .slice none 0 0), by
    have h := H1.take [Atom.ro (Cel cb 22 [v]), Atom.ro (Cel cc 9 [.string s]), Sl v 1 encS fs, TabsA, Blk lb (.loop R), DefsA [R.defers], Cel b4 22 [(.slice none 0 0)], OSl 9 (.slice none 0 0) 1 encS [], Cel b5 22 [(.slice none 0 0)], OSl 9 (.slice none 0 0) 1 encS []]
    exact h⟩) ?_
  ·skip
   obtain ⟨za, zb⟩ := z
   dsimp only at H
   refine yield2 hrec SR H rfl rfl (fun a S => ?_)
   refine gsr ?_
   refine ga S fun a S => ?_
   refine gnt ?_
   refine g_region ?_
   refine ga S fun a S => ?_
   refine gnt ?_
   refine r_begin hrec H (fun w H => ?_)
   refine g_block ?_
   refine cutQ (fun a w => ∃ u16 u20, St 23 [] a ∧ HSat No w0 [Atom.ro (Cel cb 22 [v]), Atom.ro (Cel cc 9 [.string s]), Sl v 1 encS fs, TabsA, Blk lb (.loop { R with state := .busy }), DefsA [R.defers], Cel b4 22 [u16], OSl 9 u16 1 encS (saltL s (k + 1)), Cel b5 22 [u20], OSl 9 u20 1 encS (elemL fs s (k + 1))] w) ?_ ?_
   ·skip
    refine t_st (tails := [3, 7, 8, 9]) [] Fmo H ?_
    refine t_q 0 rfl (by kernel_rfl) (rem' := [1, 2, 3, 4, 5, 6, 7, 8, 9]) rfl rfl rfl rfl S (fun w H => y_load rfl Fsca22 S H rfl rfl) fun a S => ?_
    refine t_q 1 rfl (by kernel_rfl) (rem' := [2, 3, 4, 5, 6, 7, 8, 9]) rfl rfl rfl rfl S (fun w H => y_move rfl S rfl) fun a S => ?_
    refine t_p 5 rfl (by kernel_rfl) (rem' := [2, 3, 4, 6, 7, 8, 9]) rfl rfl rfl rfl S (fun w => y_move rfl S rfl) fun a S => ?_
    refine t_b [2, 4, 6] (by kernel_rfl) rfl (fa3 ?_ ?_ ?_)
    ·refine ⟨_, rfl, fun w H => ?_⟩
     refine op_buildSlice (wn rfl) rfl rfl rfl Tryz.underlying22 Finf9 S H (idx := [0]) rfl rfl rfl (z := [.string ⟨#[]⟩]) (by kernel_rfl) (cs := [_]) rfl fun b15 a w S H => ?_
     refine t_n H (rem' := [3, 4, 6, 7, 8, 9]) rfl ?_
     refine t_b [3, 4, 6] (by kernel_rfl) rfl (fa3 ?_ ?_ ?_)
     ·refine ⟨_, rfl, fun w H => ?_⟩
      refine op_append ([startS s k]) (wn rfl) rfl rfl rfl Tryz.underlying22 Finf9 rfl rfl S H rfl rfl rfl rfl (by simp) (by simp [encS]) (by simp [encS, Value.oneCell']) (by simp only [List.length_cons, List.length_nil, saltL_len, elemL_len]; omega) (by simp only [List.length_cons, List.length_nil, saltL_len, elemL_len]; omega) fun u16 a w hn16 S H => ?_
      rw [saltL_s] at H
      refine t_tail H rfl (rem' := [4, 6, 7, 8, 9]) rfl ?_
      refine t_q 4 rfl (by kernel_rfl) (rem' := [6, 7, 8, 9]) rfl rfl rfl rfl S (fun w H => y_load rfl Fsca22 S H rfl rfl) fun a S => ?_
      refine t_b1 6 (by kernel_rfl) rfl fun w H => ?_
      refine op_buildSlice (wn rfl) rfl rfl rfl Tryz.underlying22 Finf9 S H (idx := [0]) rfl rfl rfl (z := [.string ⟨#[]⟩]) (by kernel_rfl) (cs := [_]) rfl fun b19 a w S H => ?_
      refine t_n H (rem' := [7, 8, 9]) rfl ?_
      refine t_b1 7 (by kernel_rfl) rfl fun w H => ?_
      refine op_append ([elemK fs s k]) (wn rfl) rfl rfl rfl Tryz.underlying22 Finf9 rfl rfl S H rfl rfl rfl rfl (by simp) (by simp [encS]) (by simp [encS, Value.oneCell']) (by simp only [List.length_cons, List.length_nil, saltL_len, elemL_len]; omega) (by simp only [List.length_cons, List.length_nil, saltL_len, elemL_len]; omega) fun u20 a w hn20 S H => ?_
      rw [elemL_s] at H
      refine t_tail H rfl (rem' := [8, 9]) rfl ?_
      refine t_b1 8 (by kernel_rfl) rfl fun w H => ?_
      refine op_store (wn rfl) rfl rfl S H rfl rfl (H.sl1 _) Fsiz22 rfl fun a w S H => ?_
      dsimp only [List.set, Nat.zero_add, Nat.reduceAdd] at H
      refine t_tail H rfl (rem' := [9]) rfl ?_
      refine t_b1 9 (by kernel_rfl) rfl fun w H => ?_
      refine op_store (wn rfl) rfl rfl S H rfl rfl (H.sl1 _) Fsiz22 rfl fun a w S H => ?_
      dsimp only [List.set, Nat.zero_add, Nat.reduceAdd] at H
      refine t_tail H rfl (rem' := []) rfl ?_
      refine t_nil (fun w H => ?_)
      exact ⟨u16, u20, S.nil, H.take [Atom.ro (Cel cb 22 [v]), Atom.ro (Cel cc 9 [.string s]), Sl v 1 encS fs, TabsA, Blk lb (.loop { R with state := .busy }), DefsA [R.defers], Cel b4 22 [u16], OSl 9 u16 1 encS (saltL s (k + 1)), Cel b5 22 [u20], OSl 9 u20 1 encS (elemL fs s (k + 1))]⟩
     ·refine ⟨_, rfl, fun w H => ?_⟩
      refine op_y (wn rfl) rfl rfl S (y_load rfl Fsca22 S H rfl rfl) fun a S => ?_
      refine t_n H (rem' := [3, 6, 7, 8, 9]) rfl ?_
      refine t_b [3, 6] (by kernel_rfl) rfl (fa2 ?_ ?_)
      ·refine ⟨_, rfl, fun w H => ?_⟩
       refine op_append ([startS s k]) (wn rfl) rfl rfl rfl Tryz.underlying22 Finf9 rfl rfl S H rfl rfl rfl rfl (by simp) (by simp [encS]) (by simp [encS, Value.oneCell']) (by simp only [List.length_cons, List.length_nil, saltL_len, elemL_len]; omega) (by simp only [List.length_cons, List.length_nil, saltL_len, elemL_len]; omega) fun u16 a w hn16 S H => ?_
       rw [saltL_s] at H
       refine t_tail H rfl (rem' := [6, 7, 8, 9]) rfl ?_
       refine t_b1 6 (by kernel_rfl) rfl fun w H => ?_
       refine op_buildSlice (wn rfl) rfl rfl rfl Tryz.underlying22 Finf9 S H (idx := [0]) rfl rfl rfl (z := [.string ⟨#[]⟩]) (by kernel_rfl) (cs := [_]) rfl fun b19 a w S H => ?_
       refine t_n H (rem' := [7, 8, 9]) rfl ?_
       refine t_b1 7 (by kernel_rfl) rfl fun w H => ?_
       refine op_append ([elemK fs s k]) (wn rfl) rfl rfl rfl Tryz.underlying22 Finf9 rfl rfl S H rfl rfl rfl rfl (by simp) (by simp [encS]) (by simp [encS, Value.oneCell']) (by simp only [List.length_cons, List.length_nil, saltL_len, elemL_len]; omega) (by simp only [List.length_cons, List.length_nil, saltL_len, elemL_len]; omega) fun u20 a w hn20 S H => ?_
       rw [elemL_s] at H
       refine t_tail H rfl (rem' := [8, 9]) rfl ?_
       refine t_b1 8 (by kernel_rfl) rfl fun w H => ?_
       refine op_store (wn rfl) rfl rfl S H rfl rfl (H.sl1 _) Fsiz22 rfl fun a w S H => ?_
       dsimp only [List.set, Nat.zero_add, Nat.reduceAdd] at H
       refine t_tail H rfl (rem' := [9]) rfl ?_
       refine t_b1 9 (by kernel_rfl) rfl fun w H => ?_
       refine op_store (wn rfl) rfl rfl S H rfl rfl (H.sl1 _) Fsiz22 rfl fun a w S H => ?_
       dsimp only [List.set, Nat.zero_add, Nat.reduceAdd] at H
       refine t_tail H rfl (rem' := []) rfl ?_
       refine t_nil (fun w H => ?_)
       exact ⟨u16, u20, S.nil, H.take [Atom.ro (Cel cb 22 [v]), Atom.ro (Cel cc 9 [.string s]), Sl v 1 encS fs, TabsA, Blk lb (.loop { R with state := .busy }), DefsA [R.defers], Cel b4 22 [u16], OSl 9 u16 1 encS (saltL s (k + 1)), Cel b5 22 [u20], OSl 9 u20 1 encS (elemL fs s (k + 1))]⟩
      ·refine ⟨_, rfl, fun w H => ?_⟩
       refine op_buildSlice (wn rfl) rfl rfl rfl Tryz.underlying22 Finf9 S H (idx := [0]) rfl rfl rfl (z := [.string ⟨#[]⟩]) (by kernel_rfl) (cs := [_]) rfl fun b19 a w S H => ?_
       refine t_n H (rem' := [3, 7, 8, 9]) rfl ?_
       refine t_b1 3 (by kernel_rfl) rfl fun w H => ?_
       refine op_append ([startS s k]) (wn rfl) rfl rfl rfl Tryz.underlying22 Finf9 rfl rfl S H rfl rfl rfl rfl (by simp) (by simp [encS]) (by simp [encS, Value.oneCell']) (by simp only [List.length_cons, List.length_nil, saltL_len, elemL_len]; omega) (by simp only [List.length_cons, List.length_nil, saltL_len, elemL_len]; omega) fun u16 a w hn16 S H => ?_
       rw [saltL_s] at H
       refine t_tail H rfl (rem' := [7, 8, 9]) rfl ?_
       refine t_b1 7 (by kernel_rfl) rfl fun w H => ?_
       refine op_append ([elemK fs s k]) (wn rfl) rfl rfl rfl Tryz.underlying22 Finf9 rfl rfl S H rfl rfl rfl rfl (by simp) (by simp [encS]) (by simp [encS, Value.oneCell']) (by simp only [List.length_cons, List.length_nil, saltL_len, elemL_len]; omega) (by simp only [List.length_cons, List.length_nil, saltL_len, elemL_len]; omega) fun u20 a w hn20 S H => ?_
       rw [elemL_s] at H
       refine t_tail H rfl (rem' := [8, 9]) rfl ?_
       refine t_b1 8 (by kernel_rfl) rfl fun w H => ?_
       refine op_store (wn rfl) rfl rfl S H rfl rfl (H.sl1 _) Fsiz22 rfl fun a w S H => ?_
       dsimp only [List.set, Nat.zero_add, Nat.reduceAdd] at H
       refine t_tail H rfl (rem' := [9]) rfl ?_
       refine t_b1 9 (by kernel_rfl) rfl fun w H => ?_
       refine op_store (wn rfl) rfl rfl S H rfl rfl (H.sl1 _) Fsiz22 rfl fun a w S H => ?_
       dsimp only [List.set, Nat.zero_add, Nat.reduceAdd] at H
       refine t_tail H rfl (rem' := []) rfl ?_
       refine t_nil (fun w H => ?_)
       exact ⟨u16, u20, S.nil, H.take [Atom.ro (Cel cb 22 [v]), Atom.ro (Cel cc 9 [.string s]), Sl v 1 encS fs, TabsA, Blk lb (.loop { R with state := .busy }), DefsA [R.defers], Cel b4 22 [u16], OSl 9 u16 1 encS (saltL s (k + 1)), Cel b5 22 [u20], OSl 9 u20 1 encS (elemL fs s (k + 1))]⟩
     ·refine ⟨_, rfl, fun w H => ?_⟩
      refine op_buildSlice (wn rfl) rfl rfl rfl Tryz.underlying22 Finf9 S H (idx := [0]) rfl rfl rfl (z := [.string ⟨#[]⟩]) (by kernel_rfl) (cs := [_]) rfl fun b19 a w S H => ?_
      refine t_n H (rem' := [3, 4, 7, 8, 9]) rfl ?_
      refine t_b [3, 4] (by kernel_rfl) rfl (fa2 ?_ ?_)
      ·refine ⟨_, rfl, fun w H => ?_⟩
       refine op_append ([startS s k]) (wn rfl) rfl rfl rfl Tryz.underlying22 Finf9 rfl rfl S H rfl rfl rfl rfl (by simp) (by simp [encS]) (by simp [encS, Value.oneCell']) (by simp only [List.length_cons, List.length_nil, saltL_len, elemL_len]; omega) (by simp only [List.length_cons, List.length_nil, saltL_len, elemL_len]; omega) fun u16 a w hn16 S H => ?_
       rw [saltL_s] at H
       refine t_tail H rfl (rem' := [4, 7, 8, 9]) rfl ?_
       refine t_q 4 rfl (by kernel_rfl) (rem' := [7, 8, 9]) rfl rfl rfl rfl S (fun w H => y_load rfl Fsca22 S H rfl rfl) fun a S => ?_
       refine t_b1 7 (by kernel_rfl) rfl fun w H => ?_
       refine op_append ([elemK fs s k]) (wn rfl) rfl rfl rfl Tryz.underlying22 Finf9 rfl rfl S H rfl rfl rfl rfl (by simp) (by simp [encS]) (by simp [encS, Value.oneCell']) (by simp only [List.length_cons, List.length_nil, saltL_len, elemL_len]; omega) (by simp only [List.length_cons, List.length_nil, saltL_len, elemL_len]; omega) fun u20 a w hn20 S H => ?_
       rw [elemL_s] at H
       refine t_tail H rfl (rem' := [8, 9]) rfl ?_
       refine t_b1 8 (by kernel_rfl) rfl fun w H => ?_
       refine op_store (wn rfl) rfl rfl S H rfl rfl (H.sl1 _) Fsiz22 rfl fun a w S H => ?_
       dsimp only [List.set, Nat.zero_add, Nat.reduceAdd] at H
       refine t_tail H rfl (rem' := [9]) rfl ?_
       refine t_b1 9 (by kernel_rfl) rfl fun w H => ?_
       refine op_store (wn rfl) rfl rfl S H rfl rfl (H.sl1 _) Fsiz22 rfl fun a w S H => ?_
       dsimp only [List.set, Nat.zero_add, Nat.reduceAdd] at H
       refine t_tail H rfl (rem' := []) rfl ?_
       refine t_nil (fun w H => ?_)
       exact ⟨u16, u20, S.nil, H.take [Atom.ro (Cel cb 22 [v]), Atom.ro (Cel cc 9 [.string s]), Sl v 1 encS fs, TabsA, Blk lb (.loop { R with state := .busy }), DefsA [R.defers], Cel b4 22 [u16], OSl 9 u16 1 encS (saltL s (k + 1)), Cel b5 22 [u20], OSl 9 u20 1 encS (elemL fs s (k + 1))]⟩
      ·refine ⟨_, rfl, fun w H => ?_⟩
       refine op_y (wn rfl) rfl rfl S (y_load rfl Fsca22 S H rfl rfl) fun a S => ?_
       refine t_n H (rem' := [3, 7, 8, 9]) rfl ?_
       refine t_b1 3 (by kernel_rfl) rfl fun w H => ?_
       refine op_append ([startS s k]) (wn rfl) rfl rfl rfl Tryz.underlying22 Finf9 rfl rfl S H rfl rfl rfl rfl (by simp) (by simp [encS]) (by simp [encS, Value.oneCell']) (by simp only [List.length_cons, List.length_nil, saltL_len, elemL_len]; omega) (by simp only [List.length_cons, List.length_nil, saltL_len, elemL_len]; omega) fun u16 a w hn16 S H => ?_
       rw [saltL_s] at H
       refine t_tail H rfl (rem' := [7, 8, 9]) rfl ?_
       refine t_b1 7 (by kernel_rfl) rfl fun w H => ?_
       refine op_append ([elemK fs s k]) (wn rfl) rfl rfl rfl Tryz.underlying22 Finf9 rfl rfl S H rfl rfl rfl rfl (by simp) (by simp [encS]) (by simp [encS, Value.oneCell']) (by simp only [List.length_cons, List.length_nil, saltL_len, elemL_len]; omega) (by simp only [List.length_cons, List.length_nil, saltL_len, elemL_len]; omega) fun u20 a w hn20 S H => ?_
       rw [elemL_s] at H
       refine t_tail H rfl (rem' := [8, 9]) rfl ?_
       refine t_b1 8 (by kernel_rfl) rfl fun w H => ?_
       refine op_store (wn rfl) rfl rfl S H rfl rfl (H.sl1 _) Fsiz22 rfl fun a w S H => ?_
       dsimp only [List.set, Nat.zero_add, Nat.reduceAdd] at H
       refine t_tail H rfl (rem' := [9]) rfl ?_
       refine t_b1 9 (by kernel_rfl) rfl fun w H => ?_
       refine op_store (wn rfl) rfl rfl S H rfl rfl (H.sl1 _) Fsiz22 rfl fun a w S H => ?_
       dsimp only [List.set, Nat.zero_add, Nat.reduceAdd] at H
       refine t_tail H rfl (rem' := []) rfl ?_
       refine t_nil (fun w H => ?_)
       exact ⟨u16, u20, S.nil, H.take [Atom.ro (Cel cb 22 [v]), Atom.ro (Cel cc 9 [.string s]), Sl v 1 encS fs, TabsA, Blk lb (.loop { R with state := .busy }), DefsA [R.defers], Cel b4 22 [u16], OSl 9 u16 1 encS (saltL s (k + 1)), Cel b5 22 [u20], OSl 9 u20 1 encS (elemL fs s (k + 1))]⟩
    ·refine ⟨_, rfl, fun w H => ?_⟩
     refine op_y (wn rfl) rfl rfl S (y_load rfl Fsca22 S H rfl rfl) fun a S => ?_
     refine t_n H (rem' := [2, 3, 6, 7, 8, 9]) rfl ?_
     refine t_b [2, 6] (by kernel_rfl) rfl (fa2 ?_ ?_)
     ·refine ⟨_, rfl, fun w H => ?_⟩
      refine op_buildSlice (wn rfl) rfl rfl rfl Tryz.underlying22 Finf9 S H (idx := [0]) rfl rfl rfl (z := [.string ⟨#[]⟩]) (by kernel_rfl) (cs := [_]) rfl fun b15 a w S H => ?_
      refine t_n H (rem' := [3, 6, 7, 8, 9]) rfl ?_
      refine t_b [3, 6] (by kernel_rfl) rfl (fa2 ?_ ?_)
      ·refine ⟨_, rfl, fun w H => ?_⟩
       refine op_append ([startS s k]) (wn rfl) rfl rfl rfl Tryz.underlying22 Finf9 rfl rfl S H rfl rfl rfl rfl (by simp) (by simp [encS]) (by simp [encS, Value.oneCell']) (by simp only [List.length_cons, List.length_nil, saltL_len, elemL_len]; omega) (by simp only [List.length_cons, List.length_nil, saltL_len, elemL_len]; omega) fun u16 a w hn16 S H => ?_
       rw [saltL_s] at H
       refine t_tail H rfl (rem' := [6, 7, 8, 9]) rfl ?_
       refine t_b1 6 (by kernel_rfl) rfl fun w H => ?_
       refine op_buildSlice (wn rfl) rfl rfl rfl Tryz.underlying22 Finf9 S H (idx := [0]) rfl rfl rfl (z := [.string ⟨#[]⟩]) (by kernel_rfl) (cs := [_]) rfl fun b19 a w S H => ?_
       refine t_n H (rem' := [7, 8, 9]) rfl ?_
       refine t_b1 7 (by kernel_rfl) rfl fun w H => ?_
       refine op_append ([elemK fs s k]) (wn rfl) rfl rfl rfl Tryz.underlying22 Finf9 rfl rfl S H rfl rfl rfl rfl (by simp) (by simp [encS]) (by simp [encS, Value.oneCell']) (by simp only [List.length_cons, List.length_nil, saltL_len, elemL_len]; omega) (by simp only [List.length_cons, List.length_nil, saltL_len, elemL_len]; omega) fun u20 a w hn20 S H => ?_
       rw [elemL_s] at H
       refine t_tail H rfl (rem' := [8, 9]) rfl ?_
       refine t_b1 8 (by kernel_rfl) rfl fun w H => ?_
       refine op_store (wn rfl) rfl rfl S H rfl rfl (H.sl1 _) Fsiz22 rfl fun a w S H => ?_
       dsimp only [List.set, Nat.zero_add, Nat.reduceAdd] at H
       refine t_tail H rfl (rem' := [9]) rfl ?_
       refine t_b1 9 (by kernel_rfl) rfl fun w H => ?_
       refine op_store (wn rfl) rfl rfl S H rfl rfl (H.sl1 _) Fsiz22 rfl fun a w S H => ?_
       dsimp only [List.set, Nat.zero_add, Nat.reduceAdd] at H
       refine t_tail H rfl (rem' := []) rfl ?_
       refine t_nil (fun w H => ?_)
       exact ⟨u16, u20, S.nil, H.take [Atom.ro (Cel cb 22 [v]), Atom.ro (Cel cc 9 [.string s]), Sl v 1 encS fs, TabsA, Blk lb (.loop { R with state := .busy }), DefsA [R.defers], Cel b4 22 [u16], OSl 9 u16 1 encS (saltL s (k + 1)), Cel b5 22 [u20], OSl 9 u20 1 encS (elemL fs s (k + 1))]⟩
      ·refine ⟨_, rfl, fun w H => ?_⟩
       refine op_buildSlice (wn rfl) rfl rfl rfl Tryz.underlying22 Finf9 S H (idx := [0]) rfl rfl rfl (z := [.string ⟨#[]⟩]) (by kernel_rfl) (cs := [_]) rfl fun b19 a w S H => ?_
       refine t_n H (rem' := [3, 7, 8, 9]) rfl ?_
       refine t_b1 3 (by kernel_rfl) rfl fun w H => ?_
       refine op_append ([startS s k]) (wn rfl) rfl rfl rfl Tryz.underlying22 Finf9 rfl rfl S H rfl rfl rfl rfl (by simp) (by simp [encS]) (by simp [encS, Value.oneCell']) (by simp only [List.length_cons, List.length_nil, saltL_len, elemL_len]; omega) (by simp only [List.length_cons, List.length_nil, saltL_len, elemL_len]; omega) fun u16 a w hn16 S H => ?_
       rw [saltL_s] at H
       refine t_tail H rfl (rem' := [7, 8, 9]) rfl ?_
       refine t_b1 7 (by kernel_rfl) rfl fun w H => ?_
       refine op_append ([elemK fs s k]) (wn rfl) rfl rfl rfl Tryz.underlying22 Finf9 rfl rfl S H rfl rfl rfl rfl (by simp) (by simp [encS]) (by simp [encS, Value.oneCell']) (by simp only [List.length_cons, List.length_nil, saltL_len, elemL_len]; omega) (by simp only [List.length_cons, List.length_nil, saltL_len, elemL_len]; omega) fun u20 a w hn20 S H => ?_
       rw [elemL_s] at H
       refine t_tail H rfl (rem' := [8, 9]) rfl ?_
       refine t_b1 8 (by kernel_rfl) rfl fun w H => ?_
       refine op_store (wn rfl) rfl rfl S H rfl rfl (H.sl1 _) Fsiz22 rfl fun a w S H => ?_
       dsimp only [List.set, Nat.zero_add, Nat.reduceAdd] at H
       refine t_tail H rfl (rem' := [9]) rfl ?_
       refine t_b1 9 (by kernel_rfl) rfl fun w H => ?_
       refine op_store (wn rfl) rfl rfl S H rfl rfl (H.sl1 _) Fsiz22 rfl fun a w S H => ?_
       dsimp only [List.set, Nat.zero_add, Nat.reduceAdd] at H
       refine t_tail H rfl (rem' := []) rfl ?_
       refine t_nil (fun w H => ?_)
       exact ⟨u16, u20, S.nil, H.take [Atom.ro (Cel cb 22 [v]), Atom.ro (Cel cc 9 [.string s]), Sl v 1 encS fs, TabsA, Blk lb (.loop { R with state := .busy }), DefsA [R.defers], Cel b4 22 [u16], OSl 9 u16 1 encS (saltL s (k + 1)), Cel b5 22 [u20], OSl 9 u20 1 encS (elemL fs s (k + 1))]⟩
     ·refine ⟨_, rfl, fun w H => ?_⟩
      refine op_buildSlice (wn rfl) rfl rfl rfl Tryz.underlying22 Finf9 S H (idx := [0]) rfl rfl rfl (z := [.string ⟨#[]⟩]) (by kernel_rfl) (cs := [_]) rfl fun b19 a w S H => ?_
      refine t_n H (rem' := [2, 3, 7, 8, 9]) rfl ?_
      refine t_b1 2 (by kernel_rfl) rfl fun w H => ?_
      refine op_buildSlice (wn rfl) rfl rfl rfl Tryz.underlying22 Finf9 S H (idx := [0]) rfl rfl rfl (z := [.string ⟨#[]⟩]) (by kernel_rfl) (cs := [_]) rfl fun b15 a w S H => ?_
      refine t_n H (rem' := [3, 7, 8, 9]) rfl ?_
      refine t_b1 3 (by kernel_rfl) rfl fun w H => ?_
      refine op_append ([startS s k]) (wn rfl) rfl rfl rfl Tryz.underlying22 Finf9 rfl rfl S H rfl rfl rfl rfl (by simp) (by simp [encS]) (by simp [encS, Value.oneCell']) (by simp only [List.length_cons, List.length_nil, saltL_len, elemL_len]; omega) (by simp only [List.length_cons, List.length_nil, saltL_len, elemL_len]; omega) fun u16 a w hn16 S H => ?_
      rw [saltL_s] at H
      refine t_tail H rfl (rem' := [7, 8, 9]) rfl ?_
      refine t_b1 7 (by kernel_rfl) rfl fun w H => ?_
      refine op_append ([elemK fs s k]) (wn rfl) rfl rfl rfl Tryz.underlying22 Finf9 rfl rfl S H rfl rfl rfl rfl (by simp) (by simp [encS]) (by simp [encS, Value.oneCell']) (by simp only [List.length_cons, List.length_nil, saltL_len, elemL_len]; omega) (by simp only [List.length_cons, List.length_nil, saltL_len, elemL_len]; omega) fun u20 a w hn20 S H => ?_
      rw [elemL_s] at H
      refine t_tail H rfl (rem' := [8, 9]) rfl ?_
      refine t_b1 8 (by kernel_rfl) rfl fun w H => ?_
      refine op_store (wn rfl) rfl rfl S H rfl rfl (H.sl1 _) Fsiz22 rfl fun a w S H => ?_
      dsimp only [List.set, Nat.zero_add, Nat.reduceAdd] at H
      refine t_tail H rfl (rem' := [9]) rfl ?_
      refine t_b1 9 (by kernel_rfl) rfl fun w H => ?_
      refine op_store (wn rfl) rfl rfl S H rfl rfl (H.sl1 _) Fsiz22 rfl fun a w S H => ?_
      dsimp only [List.set, Nat.zero_add, Nat.reduceAdd] at H
      refine t_tail H rfl (rem' := []) rfl ?_
      refine t_nil (fun w H => ?_)
      exact ⟨u16, u20, S.nil, H.take [Atom.ro (Cel cb 22 [v]), Atom.ro (Cel cc 9 [.string s]), Sl v 1 encS fs, TabsA, Blk lb (.loop { R with state := .busy }), DefsA [R.defers], Cel b4 22 [u16], OSl 9 u16 1 encS (saltL s (k + 1)), Cel b5 22 [u20], OSl 9 u20 1 encS (elemL fs s (k + 1))]⟩
    ·refine ⟨_, rfl, fun w H => ?_⟩
     refine op_buildSlice (wn rfl) rfl rfl rfl Tryz.underlying22 Finf9 S H (idx := [0]) rfl rfl rfl (z := [.string ⟨#[]⟩]) (by kernel_rfl) (cs := [_]) rfl fun b19 a w S H => ?_
     refine t_n H (rem' := [2, 3, 4, 7, 8, 9]) rfl ?_
     refine t_b [2, 4] (by kernel_rfl) rfl (fa2 ?_ ?_)
     ·refine ⟨_, rfl, fun w H => ?_⟩
      refine op_buildSlice (wn rfl) rfl rfl rfl Tryz.underlying22 Finf9 S H (idx := [0]) rfl rfl rfl (z := [.string ⟨#[]⟩]) (by kernel_rfl) (cs := [_]) rfl fun b15 a w S H => ?_
      refine t_n H (rem' := [3, 4, 7, 8, 9]) rfl ?_
      refine t_b [3, 4] (by kernel_rfl) rfl (fa2 ?_ ?_)
      ·refine ⟨_, rfl, fun w H => ?_⟩
       refine op_append ([startS s k]) (wn rfl) rfl rfl rfl Tryz.underlying22 Finf9 rfl rfl S H rfl rfl rfl rfl (by simp) (by simp [encS]) (by simp [encS, Value.oneCell']) (by simp only [List.length_cons, List.length_nil, saltL_len, elemL_len]; omega) (by simp only [List.length_cons, List.length_nil, saltL_len, elemL_len]; omega) fun u16 a w hn16 S H => ?_
       rw [saltL_s] at H
       refine t_tail H rfl (rem' := [4, 7, 8, 9]) rfl ?_
       refine t_q 4 rfl (by kernel_rfl) (rem' := [7, 8, 9]) rfl rfl rfl rfl S (fun w H => y_load rfl Fsca22 S H rfl rfl) fun a S => ?_
       refine t_b1 7 (by kernel_rfl) rfl fun w H => ?_
       refine op_append ([elemK fs s k]) (wn rfl) rfl rfl rfl Tryz.underlying22 Finf9 rfl rfl S H rfl rfl rfl rfl (by simp) (by simp [encS]) (by simp [encS, Value.oneCell']) (by simp only [List.length_cons, List.length_nil, saltL_len, elemL_len]; omega) (by simp only [List.length_cons, List.length_nil, saltL_len, elemL_len]; omega) fun u20 a w hn20 S H => ?_
       rw [elemL_s] at H
       refine t_tail H rfl (rem' := [8, 9]) rfl ?_
       refine t_b1 8 (by kernel_rfl) rfl fun w H => ?_
       refine op_store (wn rfl) rfl rfl S H rfl rfl (H.sl1 _) Fsiz22 rfl fun a w S H => ?_
       dsimp only [List.set, Nat.zero_add, Nat.reduceAdd] at H
       refine t_tail H rfl (rem' := [9]) rfl ?_
       refine t_b1 9 (by kernel_rfl) rfl fun w H => ?_
       refine op_store (wn rfl) rfl rfl S H rfl rfl (H.sl1 _) Fsiz22 rfl fun a w S H => ?_
       dsimp only [List.set, Nat.zero_add, Nat.reduceAdd] at H
       refine t_tail H rfl (rem' := []) rfl ?_
       refine t_nil (fun w H => ?_)
       exact ⟨u16, u20, S.nil, H.take [Atom.ro (Cel cb 22 [v]), Atom.ro (Cel cc 9 [.string s]), Sl v 1 encS fs, TabsA, Blk lb (.loop { R with state := .busy }), DefsA [R.defers], Cel b4 22 [u16], OSl 9 u16 1 encS (saltL s (k + 1)), Cel b5 22 [u20], OSl 9 u20 1 encS (elemL fs s (k + 1))]⟩
      ·refine ⟨_, rfl, fun w H => ?_⟩
       refine op_y (wn rfl) rfl rfl S (y_load rfl Fsca22 S H rfl rfl) fun a S => ?_
       refine t_n H (rem' := [3, 7, 8, 9]) rfl ?_
       refine t_b1 3 (by kernel_rfl) rfl fun w H => ?_
       refine op_append ([startS s k]) (wn rfl) rfl rfl rfl Tryz.underlying22 Finf9 rfl rfl S H rfl rfl rfl rfl (by simp) (by simp [encS]) (by simp [encS, Value.oneCell']) (by simp only [List.length_cons, List.length_nil, saltL_len, elemL_len]; omega) (by simp only [List.length_cons, List.length_nil, saltL_len, elemL_len]; omega) fun u16 a w hn16 S H => ?_
       rw [saltL_s] at H
       refine t_tail H rfl (rem' := [7, 8, 9]) rfl ?_
       refine t_b1 7 (by kernel_rfl) rfl fun w H => ?_
       refine op_append ([elemK fs s k]) (wn rfl) rfl rfl rfl Tryz.underlying22 Finf9 rfl rfl S H rfl rfl rfl rfl (by simp) (by simp [encS]) (by simp [encS, Value.oneCell']) (by simp only [List.length_cons, List.length_nil, saltL_len, elemL_len]; omega) (by simp only [List.length_cons, List.length_nil, saltL_len, elemL_len]; omega) fun u20 a w hn20 S H => ?_
       rw [elemL_s] at H
       refine t_tail H rfl (rem' := [8, 9]) rfl ?_
       refine t_b1 8 (by kernel_rfl) rfl fun w H => ?_
       refine op_store (wn rfl) rfl rfl S H rfl rfl (H.sl1 _) Fsiz22 rfl fun a w S H => ?_
       dsimp only [List.set, Nat.zero_add, Nat.reduceAdd] at H
       refine t_tail H rfl (rem' := [9]) rfl ?_
       refine t_b1 9 (by kernel_rfl) rfl fun w H => ?_
       refine op_store (wn rfl) rfl rfl S H rfl rfl (H.sl1 _) Fsiz22 rfl fun a w S H => ?_
       dsimp only [List.set, Nat.zero_add, Nat.reduceAdd] at H
       refine t_tail H rfl (rem' := []) rfl ?_
       refine t_nil (fun w H => ?_)
       exact ⟨u16, u20, S.nil, H.take [Atom.ro (Cel cb 22 [v]), Atom.ro (Cel cc 9 [.string s]), Sl v 1 encS fs, TabsA, Blk lb (.loop { R with state := .busy }), DefsA [R.defers], Cel b4 22 [u16], OSl 9 u16 1 encS (saltL s (k + 1)), Cel b5 22 [u20], OSl 9 u20 1 encS (elemL fs s (k + 1))]⟩
     ·refine ⟨_, rfl, fun w H => ?_⟩
      refine op_y (wn rfl) rfl rfl S (y_load rfl Fsca22 S H rfl rfl) fun a S => ?_
      refine t_n H (rem' := [2, 3, 7, 8, 9]) rfl ?_
      refine t_b1 2 (by kernel_rfl) rfl fun w H => ?_
      refine op_buildSlice (wn rfl) rfl rfl rfl Tryz.underlying22 Finf9 S H (idx := [0]) rfl rfl rfl (z := [.string ⟨#[]⟩]) (by kernel_rfl) (cs := [_]) rfl fun b15 a w S H => ?_
      refine t_n H (rem' := [3, 7, 8, 9]) rfl ?_
      refine t_b1 3 (by kernel_rfl) rfl fun w H => ?_
      refine op_append ([startS s k]) (wn rfl) rfl rfl rfl Tryz.underlying22 Finf9 rfl rfl S H rfl rfl rfl rfl (by simp) (by simp [encS]) (by simp [encS, Value.oneCell']) (by simp only [List.length_cons, List.length_nil, saltL_len, elemL_len]; omega) (by simp only [List.length_cons, List.length_nil, saltL_len, elemL_len]; omega) fun u16 a w hn16 S H => ?_
      rw [saltL_s] at H
      refine t_tail H rfl (rem' := [7, 8, 9]) rfl ?_
      refine t_b1 7 (by kernel_rfl) rfl fun w H => ?_
      refine op_append ([elemK fs s k]) (wn rfl) rfl rfl rfl Tryz.underlying22 Finf9 rfl rfl S H rfl rfl rfl rfl (by simp) (by simp [encS]) (by simp [encS, Value.oneCell']) (by simp only [List.length_cons, List.length_nil, saltL_len, elemL_len]; omega) (by simp only [List.length_cons, List.length_nil, saltL_len, elemL_len]; omega) fun u20 a w hn20 S H => ?_
      rw [elemL_s] at H
      refine t_tail H rfl (rem' := [8, 9]) rfl ?_
      refine t_b1 8 (by kernel_rfl) rfl fun w H => ?_
      refine op_store (wn rfl) rfl rfl S H rfl rfl (H.sl1 _) Fsiz22 rfl fun a w S H => ?_
      dsimp only [List.set, Nat.zero_add, Nat.reduceAdd] at H
      refine t_tail H rfl (rem' := [9]) rfl ?_
      refine t_b1 9 (by kernel_rfl) rfl fun w H => ?_
      refine op_store (wn rfl) rfl rfl S H rfl rfl (H.sl1 _) Fsiz22 rfl fun a w S H => ?_
      dsimp only [List.set, Nat.zero_add, Nat.reduceAdd] at H
      refine t_tail H rfl (rem' := []) rfl ?_
      refine t_nil (fun w H => ?_)
      exact ⟨u16, u20, S.nil, H.take [Atom.ro (Cel cb 22 [v]), Atom.ro (Cel cc 9 [.string s]), Sl v 1 encS fs, TabsA, Blk lb (.loop { R with state := .busy }), DefsA [R.defers], Cel b4 22 [u16], OSl 9 u16 1 encS (saltL s (k + 1)), Cel b5 22 [u20], OSl 9 u20 1 encS (elemL fs s (k + 1))]⟩
   rintro a w ⟨u16, u20, S, H⟩
   refine n_block ?_
   refine r_end hrec H (fun w H => ?_)
   exact ⟨rfl, (u16, u20), H.take [Atom.ro (Cel cb 22 [v]), Atom.ro (Cel cc 9 [.string s]), Sl v 1 encS fs, TabsA, Blk lb (.loop R), DefsA [R.defers], Cel b4 22 [u16], OSl 9 u16 1 encS (saltL s (k + 1)), Cel b5 22 [u20], OSl 9 u20 1 encS (elemL fs s (k + 1))]⟩
  ·rintro _ w2 ⟨z, H2⟩
   exact ⟨.ready, none, _, by simp, ⟨rfl, z, rfl⟩, by rw [hrec.same]; exact H2.take [Blk lb (.loop R), DefsA [R.defers], Cel b4 22 [z.1], OSl 9 z.1 1 encS (saltL s (fs.length)), Cel b5 22 [z.2], OSl 9 z.2 1 encS (elemL fs s (fs.length)), Sl v 1 encS fs, TabsA]⟩
 ·intro bd a w pend l2 S H hΦ
  obtain ⟨rfl, z, rfl⟩ := hΦ
  obtain ⟨za, zb⟩ := z
  dsimp only at H
  refine n_block ?_
  refine n_then ?_
  refine g_seq ?_
  refine cut (fun a w => St ⟨23, [bd]⟩ [(4, .pointer (some ⟨b4, 0, none⟩)), (5, .pointer (some ⟨b5, 0, none⟩))] a ∧ HSat No w0 [DefsA [bd], Cel b4 22 [za], OSl 9 za 1 encS (saltL s fs.length), Cel b5 22 [zb], OSl 9 zb 1 encS (elemL fs s fs.length)] w) ?_ ?_
  ·skip
   refine t_st (tails := [2, 3]) [] Fmo H ?_
   refine t_q 0 rfl (by kernel_rfl) (rem' := [1, 2, 3]) rfl rfl rfl rfl S (fun w H => y_load rfl Fsca22 S H rfl rfl) fun a S => ?_
   refine t_b [1, 2] (by kernel_rfl) rfl (fa2 ?_ ?_)
   ·refine ⟨_, rfl, fun w H => ?_⟩
    refine op_y (wn rfl) rfl rfl S (y_load rfl Fsca22 S H rfl rfl) fun a S => ?_
    refine t_n H (rem' := [2, 3]) rfl ?_
    refine t_b1 2 (by kernel_rfl) rfl fun w H => ?_
    refine op_store (wn rfl) rfl rfl S H rfl rfl (H.sl1 _) Fsiz22 rfl fun a w S H => ?_
    dsimp only [List.set, Nat.zero_add, Nat.reduceAdd] at H
    refine t_tail H rfl (rem' := [3]) rfl ?_
    refine t_b1 3 (by kernel_rfl) rfl fun w H => ?_
    refine op_store (wn rfl) rfl rfl S H rfl rfl (H.sl1 _) Fsiz22 rfl fun a w S H => ?_
    dsimp only [List.set, Nat.zero_add, Nat.reduceAdd] at H
    refine t_tail H rfl (rem' := []) rfl ?_
    refine t_nil (fun w H => ?_)
    exact ⟨(S.nil.cons S 5 rfl).cons S 4 rfl, H.take [DefsA [bd], Cel b4 22 [za], OSl 9 za 1 encS (saltL s fs.length), Cel b5 22 [zb], OSl 9 zb 1 encS (elemL fs s fs.length)]⟩
   ·refine ⟨_, rfl, fun w H => ?_⟩
    refine op_store (wn rfl) rfl rfl S H rfl rfl (H.sl1 _) Fsiz22 rfl fun a w S H => ?_
    dsimp only [List.set, Nat.zero_add, Nat.reduceAdd] at H
    refine t_tail H rfl (rem' := [1, 3]) rfl ?_
    refine t_q 1 rfl (by kernel_rfl) (rem' := [3]) rfl rfl rfl rfl S (fun w H => y_load rfl Fsca22 S H rfl rfl) fun a S => ?_
    refine t_b1 3 (by kernel_rfl) rfl fun w H => ?_
    refine op_store (wn rfl) rfl rfl S H rfl rfl (H.sl1 _) Fsiz22 rfl fun a w S H => ?_
    dsimp only [List.set, Nat.zero_add, Nat.reduceAdd] at H
    refine t_tail H rfl (rem' := []) rfl ?_
    refine t_nil (fun w H => ?_)
    exact ⟨(S.nil.cons S 5 rfl).cons S 4 rfl, H.take [DefsA [bd], Cel b4 22 [za], OSl 9 za 1 encS (saltL s fs.length), Cel b5 22 [zb], OSl 9 zb 1 encS (elemL fs s fs.length)]⟩
  rintro a w ⟨S, H⟩
  refine g_ret ?_
  refine ret2csM rfl S (H.front (DefsA [bd])) rfl rfl Fsca22 Fsca22 rfl rfl (fun w H => ?_)
  exact ⟨za, zb, rfl, H.take [OSl 9 za 1 encS (saltL s fs.length), OSl 9 zb 1 encS (elemL fs s fs.length)]⟩
end Go.Proofs.YtjdbggnhdeaflaaGreatDoor
end
