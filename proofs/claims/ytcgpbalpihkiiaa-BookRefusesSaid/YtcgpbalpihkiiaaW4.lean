/- The walks. No condition. -/
import Derived.Test.YtcgpbalpihkiiaaChecked
import Derived.Test.YtcgpbalpihkiiaaGwIns
import Derived.Test.YtcgpbalpihkiiaaFacts
import Derived.Test.YtcgpbalpihkiiaaPlain
import Derived.Test.YtcgpbalpihkiiaaW3
namespace Go.Proofs.Ytcgpbalpihkiiaa
open Go Go.Gw
set_option linter.unusedVariables false
set_option linter.unusedSimpArgs false
/-- a book in memory -/
def BookL (b mb : Nat) (vo vb : Value) (s : Bk) : List Atom := [Cel b 51 [vo, vb, .map (some mb)], OSl 29 vo 5 Ord.enc (s.offers), OSl 29 vb 5 Ord.enc (s.bids), MapA mb (fun n : Int => Value.int .i64 n) (fun b : Bool => Value.bool b) (memS (s.ids)) (s.ids).length]
theorem BookL_own (b mb : Nat) (vo vb : Value) (s : Bk) : ∀ x ∈ BookL b mb vo vb s, x.own = true := by simp [BookL, OSl, Blk, MapA]
theorem bookReads {M : Nat → Prop} {u0 w0 : World} {l : List Atom} {b mb : Nat} {vo vb : Value} {s : Bk} (h : HSat M u0 (BookL b mb vo vb s ++ l) w0) : HSat No w0 [Atom.ro (Cel b 51 [vo, vb, .map (some mb)]), Atom.ro (OSl 29 vo 5 Ord.enc (s.offers)), Atom.ro (OSl 29 vb 5 Ord.enc (s.bids))] w0 := by
  have := h.reads
  rw [List.map_append] at this
  exact (this.sub (List.sublist_append_left _ _)).sub (by simp only [BookL, List.map_cons, List.map_nil]; repeat (first | exact List.nil_sublist _ | apply List.Sublist.cons_cons))
/-- foyer/book.New -/
theorem new_spec (w0 : World) :
    Ret Try.prog 9 #[] w0 (fun u w => ∃ b mb, u = .pointer (some ⟨b, 0, none⟩) ∧ HSat No w0 (BookL b mb (.slice none 0 0) (.slice none 0 0) Bk.z) w) := by
 refine ret_of_wp (nt := 4) Try.func9 rfl rfl rfl (fl := []) rfl (fun a S => ?_)
 have H := HSat.start w0
 refine gsr ?_
 refine ga S fun a S => ?_
 refine gnt ?_
 refine gsr ?_
 refine wl_of (op_makeMap (fun n : Int => .int .i64 n) (fun b : Bool => .bool b) (wn rfl) rfl rfl rfl S H fun b1 a w S H => ?_)
 refine gy rfl rfl rfl S (y_buildf rfl Fbld51 S rfl (idx := [2]) rfl (cs := [.slice none 0 0, .slice none 0 0, .map (some b1)]) (by kernel_rfl)) fun a S => ?_
 refine wl_of (op_boxa (wn rfl) rfl rfl rfl S H rfl fun b3 a w S H => ?_)
 refine ga S fun a S => ?_
 refine gnt ?_
 have S := S.nil.cons S 0 rfl
 refine g_ret ?_
 refine ret1 rfl S rfl ?_
 exact ⟨_, _, rfl, ((H.nilO 29 5 Ord.enc).nilO 29 5 Ord.enc).take [Cel b3 51 [.slice none 0 0, .slice none 0 0, .map (some b1)], OSl 29 (.slice none 0 0) 5 Ord.enc [], OSl 29 (.slice none 0 0) 5 Ord.enc [], MapA b1 (fun n : Int => Value.int .i64 n) (fun b : Bool => Value.bool b) (fun _ => none) 0]⟩
/-- (*foyer/book.Book).Orders -/
theorem orders_spec {M : Nat → Prop} {u0 : World} {l : List Atom} (b mb : Nat) (vo vb : Value) (s : Bk) (w0 : World) (h0 : HSat M u0 (BookL b mb vo vb s ++ l) w0) (hlo : s.offers.length ≤ 1000) (hlb : s.bids.length ≤ 1000) :
    Ret Try.prog 16 #[.pointer (some ⟨b, 0, none⟩)] w0 (fun u w => HSat No w0 [OSl 29 u 5 Ord.enc (s.offers ++ s.bids)] w) := by
 refine ret_of_wp (nt := 15) Try.func16 rfl rfl rfl (fl := [(0, .pointer (some ⟨b, 0, none⟩))]) rfl (fun a S => ?_)
 have H := bookReads h0
 obtain ⟨po, co, rfl⟩ := (H.sl vo).shape
 obtain ⟨pb, cb, rfl⟩ := (H.sl vb).shape
 refine gsr ?_
 refine ga S fun a S => ?_
 refine gnt ?_
 refine g_seq ?_
 refine gsr ?_
 refine gm S fun a S => ?_
 refine gy rfl rfl rfl S (y_eqp rfl Try.underlying24 S rfl rfl) fun a S => ?_
 refine gnt ?_
 refine c_if S rfl (fun h1 => ?_) (fun h1 => ?_)
 ·have h1p := h1; try simp only [DL] at h1p
  all_goals (
    exact absurd h1 (by simp))
 ·have h1p := h1; try simp only [DL] at h1p
  refine g_skip ?_
  refine n_then ?_
  refine g_seq ?_
  refine region_st (loud := [8, 9]) (tails := []) (free := []) [0, 1, 2, 3, 4, 5, 6, 7, 8, 9, 10] [] Fmo (by kernel_rfl) (by kernel_rfl) rfl H ?_
  refine m_w rfl rfl (wn rfl) rfl rfl S (fun w H => y_move rfl S rfl) fun a S => ?_
  refine m_w rfl rfl (wn rfl) rfl rfl S (fun w H => y_nilCheck rfl S rfl) fun a S => ?_
  refine m_w rfl rfl (wn rfl) rfl rfl S (fun w H => y_faddrb rfl Ffo51_0 S rfl) fun a S => ?_
  refine m_w rfl rfl (wn rfl) rfl rfl S (fun w H => y_load rfl Fsca39 S H rfl rfl) fun a S => ?_
  refine m_w rfl rfl (wn rfl) rfl rfl S (fun w H => y_move rfl S rfl) fun a S => ?_
  refine m_w rfl rfl (wn rfl) rfl rfl S (fun w H => y_nilCheck rfl S rfl) fun a S => ?_
  refine m_w rfl rfl (wn rfl) rfl rfl S (fun w H => y_faddrb rfl Ffo51_1 S rfl) fun a S => ?_
  refine m_w rfl rfl (wn rfl) rfl rfl S (fun w H => y_load rfl Fsca39 S H rfl rfl) fun a S => ?_
  refine m_l rfl rfl (fun w H => op_buildSlice (wn rfl) rfl rfl rfl Try.underlying74 Finf39 S H (idx := [0, 1]) rfl rfl rfl (z := [.slice none 0 0, .slice none 0 0]) (by kernel_rfl) (cs := [.slice po s.offers.length co, .slice pb s.bids.length cb]) (by kernel_rfl) fun b13 a w S H => ?_)
  have H := H.celO [(.slice po s.offers.length co, s.offers), (.slice pb s.bids.length cb, s.bids)] encRow 1 (m := 2) rfl (by simp [encRow]) rfl (by decide)
  refine m_next H (by repeat (first | exact List.Sublist.refl _ | apply List.Sublist.cons)) ?_
  refine m_l rfl rfl (fun w H => op_call (wn rfl) rfl rfl S (co_func rfl Try.call36 S rfl) (concat_spec _ [(.slice po s.offers.length co, s.offers), (.slice pb s.bids.length cb, s.bids)] _ (H.sl _) (by intro p hp; simp only [List.mem_cons, List.not_mem_nil, or_false] at hp; rcases hp with rfl | rfl; exact H.sl (.slice po s.offers.length co); exact H.sl (.slice pb s.bids.length cb)) (by simp [catO]; omega)) fun u14 w hc a S => ?_)
  have H1 := hc
  have H := H.call1 H1 rfl
  refine m_next H (by repeat (first | exact List.Sublist.refl _ | apply List.Sublist.cons)) ?_
  refine m_w rfl rfl (wn rfl) rfl rfl S (fun w H => y_assign rfl S rfl) fun a S => ?_
  refine m_nil (fun w H => ?_)
  refine n_then ?_
  have S := S.nil.cons S 2 rfl
  refine g_ret ?_
  refine ret1 rfl S rfl ?_
  have e : catO [(.slice po s.offers.length co, s.offers), (.slice pb s.bids.length cb, s.bids)] = s.offers ++ s.bids := by simp [catO]
  rw [e] at H
  exact H.take [_]
/-- (*foyer/book.Book).Cancel -/
theorem cancel_nil (i : Int) (p : ByteArray) (w0 : World) :
    Ret Try.prog 11 #[.pointer none, .int .i64 i, .string p] w0 (fun u w => u = .int .i64 1 ∧ Ext w0 w) := by
 refine ret_of_wp (nt := 53) Try.func11 rfl rfl rfl (fl := [(0, .pointer none), (1, .int .i64 i), (2, .string p)]) rfl (fun a S => ?_)
 have H := HSat.start w0
 refine gsr ?_
 refine wl_of (op_box1 (wn rfl) rfl rfl rfl S H rfl rfl fun b4 a w S H => ?_)
 refine ga S fun a S => ?_
 refine gnt ?_
 refine g_seq ?_
 refine gsr ?_
 refine gm S fun a S => ?_
 refine gy rfl rfl rfl S (y_eqp rfl Try.underlying24 S rfl rfl) fun a S => ?_
 refine gnt ?_
 refine c_if S rfl (fun h1 => ?_) (fun h1 => ?_)
 ·have h1p := h1; try simp only [DL] at h1p
  refine gsr ?_
  refine ga S fun a S => ?_
  refine gnt ?_
  have S := (((S.nil.cons S 2 rfl).cons S 0 rfl).cons S 4 rfl).cons S 6 rfl
  refine g_ret ?_
  refine r_then (ret1 rfl S rfl ?_)
  exact ⟨rfl, H.toExt⟩
 ·have h1p := h1; try simp only [DL] at h1p
  all_goals (
    exact absurd h1 (by simp))
set_option maxHeartbeats 1000000 in
/-- (*foyer/book.Book).Cancel -/
theorem cancel_spec {M : Nat → Prop} {u0 : World} {l : List Atom} (b mb : Nat) (vo vb : Value) (s : Bk) (i : Int) (p : ByteArray) (w0 : World) (h0 : HSat M u0 (BookL b mb vo vb s ++ l) w0) (hlo : s.offers.length ≤ 1000) (hlb : s.bids.length ≤ 1000) :
    Ret Try.prog 11 #[.pointer (some ⟨b, 0, none⟩), .int .i64 i, .string p] w0 (fun u w => u = .int .i64 (cancelR s i p) ∧ ∃ vo' vb', HSat M u0 (BookL b mb vo' vb' (cancelS s i p) ++ l) w) := by
 refine ret_of_wp (nt := 53) Try.func11 rfl rfl rfl (fl := [(0, .pointer (some ⟨b, 0, none⟩)), (1, .int .i64 i), (2, .string p)]) rfl (fun a S => ?_)
 have H := h0
 simp only [BookL, List.cons_append, List.nil_append] at H
 refine gsr ?_
 refine wl_of (op_box1 (wn rfl) rfl rfl rfl S H rfl rfl fun b4 a w S H => ?_)
 refine ga S fun a S => ?_
 refine gnt ?_
 refine g_seq ?_
 refine gsr ?_
 refine gm S fun a S => ?_
 refine gy rfl rfl rfl S (y_eqp rfl Try.underlying24 S rfl rfl) fun a S => ?_
 refine gnt ?_
 refine c_if S rfl (fun h1 => ?_) (fun h1 => ?_)
 ·have h1p := h1; try simp only [DL] at h1p
  all_goals (
    exact absurd h1 (by simp))
 ·have h1p := h1; try simp only [DL] at h1p
  refine g_skip ?_
  refine n_then ?_
  refine g_seq ?_
  refine g_seq ?_
  refine region_st (loud := [6]) (tails := []) (free := []) [0, 1, 2, 3, 4, 5, 8, 6, 7] [] Fmo (by kernel_rfl) (by kernel_rfl) rfl H ?_
  refine m_w rfl rfl (wn rfl) rfl rfl S (fun w H => y_move rfl S rfl) fun a S => ?_
  refine m_w rfl rfl (wn rfl) rfl rfl S (fun w H => y_nilCheck rfl S rfl) fun a S => ?_
  refine m_w rfl rfl (wn rfl) rfl rfl S (fun w H => y_faddrb rfl Ffo51_0 S rfl) fun a S => ?_
  refine m_w rfl rfl (wn rfl) rfl rfl S (fun w H => y_move rfl S rfl) fun a S => ?_
  refine m_w rfl rfl (wn rfl) rfl rfl S (fun w H => y_nilCheck rfl S rfl) fun a S => ?_
  refine m_w rfl rfl (wn rfl) rfl rfl S (fun w H => y_faddrb rfl Ffo51_1 S rfl) fun a S => ?_
  refine m_w rfl rfl (wn rfl) rfl rfl S (fun w H => y_move rfl S rfl) fun a S => ?_
  refine m_l rfl rfl (fun w H => op_buildSlice (wn rfl) rfl rfl rfl Try.underlying56 Finf55 S H (idx := [0, 1]) rfl rfl rfl (z := [.pointer none, .pointer none]) (by kernel_rfl) (cs := [.pointer (some ⟨b, 0, none⟩), .pointer (some ⟨b, 1, none⟩)]) (by kernel_rfl) fun b18 a w S H => m_next H (List.sublist_cons_self _ _) ?_)
  refine m_w rfl rfl (wn rfl) rfl rfl S (fun w H => y_len rfl Try.underlying56 S rfl) fun a S => ?_
  refine m_nil (fun w H => ?_)
  refine n_then ?_
  have S := (((((S.nil.cons S 2 rfl).cons S 4 rfl).cons S 6 rfl).cons S 20 rfl).cons S 18 rfl).cons S 19 rfl
  refine g_block ?_
  have SU := (((S.nil.cons S 2 rfl).cons S 4 rfl).cons S 18 rfl).cons S 19 rfl
  refine loopW (X := Nat) SU (fun k => [(20, .int .i64 (k : Int))]) (fun k w => (1 ≤ k → ∀ x ∈ s.offers, idP i x = false) ∧ (2 ≤ k → ∀ x ∈ s.bids, idP i x = false) ∧ k ≤ 2 ∧ HSat M u0 (Cel b18 55 [.pointer (some ⟨b, 0, none⟩), .pointer (some ⟨b, 1, none⟩)] :: Cel b4 3 [.int .i64 i] :: Cel b 51 [vo, vb, .map (some mb)] :: OSl 29 vo 5 Ord.enc (s.offers) :: OSl 29 vb 5 Ord.enc (s.bids) :: MapA mb (fun n : Int => Value.int .i64 n) (fun b : Bool => Value.bool b) (memS (s.ids)) (s.ids).length :: l) w) (fun k => 2 - k) 0 (S.nil.cons S 20 rfl) (⟨fun h => by omega, fun h => by omega, by omega, H⟩) (fun k a w S hW => ?_)
  simp only [List.cons_append, List.nil_append] at S
  obtain ⟨hqo, hqb, hk, H⟩ := hW
  refine gsr ?_
  refine gy rfl rfl rfl S (y_bin rfl S rfl rfl rfl) fun a S => ?_
  refine gnt ?_
  refine g_seq ?_
  refine c_if S rfl (fun h2 => ?_) (fun h2 => ?_)
  ·have h2p := h2; try simp only [DL] at h2p
   refine g_skip ?_
   refine n_then ?_
   refine g_seq ?_
   refine g_block ?_
   refine g_seq ?_
   obtain rfl | rfl : k = 0 ∨ k = 1 := by omega
   ·skip
    refine g_region ?_
    refine gy rfl rfl rfl S (y_iaddr rfl Try.underlying56 Fsiz55 S rfl rfl (by omega)) fun a S => ?_
    refine gy rfl rfl rfl S (y_load rfl Fsca55 S H rfl rfl) fun a S => ?_
    refine ga S fun a S => ?_
    refine gnt ?_
    refine gsr ?_
    refine gm S fun a S => ?_
    refine gy rfl rfl rfl S (y_nilCheck rfl S rfl) fun a S => ?_
    refine gy rfl rfl rfl S (y_load rfl Fsca39 S H rfl rfl) fun a S => ?_
    refine gy rfl rfl rfl S (y_makeFunc rfl S rfl rfl) fun a S => ?_
    refine wl_of (op_call (wn rfl) rfl rfl S (co_func rfl Try.call23 S rfl) (idx_spec vo s.offers 24 [.pointer (some ⟨b4, 0, none⟩)] Try.call24 (idP i) _ (H.sl vo) (fun x _ w1 hx => idP_spec x b4 i w1 ((H.ext hx).rd b4))) fun v w hc a S => ?_)
    obtain ⟨z, rfl, hz, he⟩ := hc
    have H := H.ext he
    refine ga S fun a S => ?_
    refine gnt ?_
    have S := ((((((S.nil.cons S 2 rfl).cons S 4 rfl).cons S 18 rfl).cons S 19 rfl).cons S 20 rfl).cons S 8 rfl).cons S 9 rfl
    refine g_block ?_
    refine gsr ?_
    refine gm S fun a S => ?_
    refine gy rfl rfl rfl S (y_bin rfl S rfl rfl rfl) fun a S => ?_
    refine ga S fun a S => ?_
    refine gnt ?_
    refine c_if S rfl (fun h3 => ?_) (fun h3 => ?_)
    ·have h3p := h3; try simp only [DL] at h3p
     have hall : ∀ x ∈ s.offers, idP i x = false := by rcases hz with ⟨_, h⟩ | ⟨q, hq, e, _⟩; exact h; exfalso; have := h3p; omega
     refine g_skip ?_
     refine n_block ?_
     refine n_block ?_
     refine n_then ?_
     have S := ((((S.nil.cons S 2 rfl).cons S 4 rfl).cons S 18 rfl).cons S 19 rfl).cons S 20 rfl
     refine g_region ?_
     refine gy rfl rfl rfl S (y_add rfl S rfl rfl (by omega)) fun a S => ?_
     refine gm S fun a S => ?_
     refine gnt ?_
     first
     | exact ⟨1, S.nil.cons S 20 rfl, (((S.nil.cons S 2 rfl).cons S 4 rfl).cons S 18 rfl).cons S 19 rfl, ⟨fun _ => hall, fun h => by omega, by omega, H.drop 0⟩, by omega⟩
     | exact ⟨2, S.nil.cons S 20 rfl, (((S.nil.cons S 2 rfl).cons S 4 rfl).cons S 18 rfl).cons S 19 rfl, ⟨fun _ => hqo (Nat.le_refl _), fun _ => hall, by omega, H.drop 0⟩, by omega⟩
    ·have h3p := h3; try simp only [DL] at h3p
     obtain ⟨rfl, hall⟩ | ⟨j, hj, rfl, hp, hn⟩ := hz
     · exfalso; have := h3p; omega
     refine gsr ?_
     refine gm S fun a S => ?_
     refine gy rfl rfl rfl S (y_nilCheck rfl S rfl) fun a S => ?_
     refine gy rfl rfl rfl S (y_load rfl Fsca39 S H rfl rfl) fun a S => ?_
     refine gm S fun a S => ?_
     refine gy rfl rfl rfl S (y_iaddrs rfl Try.underlying39 Fsiz29 S H rfl rfl (by first | assumption | omega | (simp only [LL]; omega))) fun a S => ?_
     refine gy rfl rfl rfl S (y_faddr rfl Ffo29_3 S rfl) fun a S => ?_
     refine gy rfl rfl rfl S (y_loadsf _ rfl Fsca9 S H rfl (by first | assumption | omega | (simp only [LL]; omega)) rfl) fun a S => ?_
     refine gm S fun a S => ?_
     refine gy rfl rfl rfl S (y_nes rfl Try.underlying9 S rfl rfl) fun a S => ?_
     refine ga S fun a S => ?_
     refine gnt ?_
     have S := (((((((S.nil.cons S 2 rfl).cons S 4 rfl).cons S 18 rfl).cons S 19 rfl).cons S 20 rfl).cons S 8 rfl).cons S 9 rfl).cons S 42 rfl
     refine c_if S rfl (fun h4 => ?_) (fun h4 => ?_)
     ·have h4p := h4; try simp only [DL] at h4p
      refine gsr ?_
      refine ga S fun a S => ?_
      refine gnt ?_
      refine g_ret ?_
      refine r_block (r_block (r_then (r_then (r_block (r_then (ret1 rfl S rfl ?_))))))
      exact ⟨congrArg (Value.int .i64) ((can_o (p := p) hj hp hn).2 (by simpa using h4p)).1.symm, vo, vb, by rw [((can_o (p := p) hj hp hn).2 (by simpa using h4p)).2]; exact H.takeT [Cel b 51 [vo, vb, .map (some mb)], OSl 29 vo 5 Ord.enc (s.offers), OSl 29 vb 5 Ord.enc (s.bids), MapA mb (fun n : Int => Value.int .i64 n) (fun b : Bool => Value.bool b) (memS (s.ids)) (s.ids).length] l⟩
     ·have h4p := h4; try simp only [DL] at h4p
      refine gsr ?_
      refine gm S fun a S => ?_
      refine gm S fun a S => ?_
      refine gy rfl rfl rfl S (y_nilCheck rfl S rfl) fun a S => ?_
      refine gy rfl rfl rfl S (y_load rfl Fsca39 S H rfl rfl) fun a S => ?_
      refine wl_of (op_call (wn rfl) rfl rfl S (co_func rfl Try.call26 S rfl) (clone_spec vo s.offers _ (H.sl vo) (by omega)) fun u33 w hc a S => ?_)
      have H1 := hc
      have H := H.call1 H1 rfl
      refine gm S fun a S => ?_
      refine gm S fun a S => ?_
      refine gy rfl rfl rfl S (y_add rfl S rfl rfl (by omega)) fun a S => ?_
      rw [show ((j : Int) + 1) = ((j + 1 : Nat) : Int) by omega] at S
      refine wl_of (op_call (wn rfl) rfl rfl S (co_func rfl Try.call25 S rfl) (delete_spec u33 s.offers j _ H hj) fun u37 w hc a S => ?_)
      have H := hc
      
      refine gy rfl rfl rfl S (y_nilCheck rfl S rfl) fun a S => ?_
      refine wl_of (op_store (wn rfl) rfl rfl S H rfl rfl (H.sl1 _) Fsiz39 rfl fun a w S H => ?_)
      dsimp only [List.set, Nat.zero_add, Nat.reduceAdd] at H
      refine gnt ?_
      have S := ((((S.nil.cons S 2 rfl).cons S 4 rfl).cons S 18 rfl).cons S 19 rfl).cons S 20 rfl
      refine gsr ?_
      refine ga S fun a S => ?_
      refine gnt ?_
      refine g_ret ?_
      refine r_block (r_block (r_then (r_then (r_block (r_then (ret1 rfl S rfl ?_))))))
      exact ⟨congrArg (Value.int .i64) ((can_o (p := p) hj hp hn).1 (by simpa using h4p)).1.symm, u37, vb, by rw [((can_o (p := p) hj hp hn).1 (by simpa using h4p)).2]; exact H.takeT [Cel b 51 [u37, vb, .map (some mb)], OSl 29 u37 5 Ord.enc (s.offers.eraseIdx j), OSl 29 vb 5 Ord.enc (s.bids), MapA mb (fun n : Int => Value.int .i64 n) (fun b : Bool => Value.bool b) (memS (s.ids)) (s.ids).length] l⟩
   ·skip
    refine g_region ?_
    refine gy rfl rfl rfl S (y_iaddr rfl Try.underlying56 Fsiz55 S rfl rfl (by omega)) fun a S => ?_
    refine gy rfl rfl rfl S (y_load rfl Fsca55 S H rfl rfl) fun a S => ?_
    refine ga S fun a S => ?_
    refine gnt ?_
    refine gsr ?_
    refine gm S fun a S => ?_
    refine gy rfl rfl rfl S (y_nilCheck rfl S rfl) fun a S => ?_
    refine gy rfl rfl rfl S (y_load rfl Fsca39 S H rfl rfl) fun a S => ?_
    refine gy rfl rfl rfl S (y_makeFunc rfl S rfl rfl) fun a S => ?_
    refine wl_of (op_call (wn rfl) rfl rfl S (co_func rfl Try.call23 S rfl) (idx_spec vb s.bids 24 [.pointer (some ⟨b4, 0, none⟩)] Try.call24 (idP i) _ (H.sl vb) (fun x _ w1 hx => idP_spec x b4 i w1 ((H.ext hx).rd b4))) fun v w hc a S => ?_)
    obtain ⟨z, rfl, hz, he⟩ := hc
    have H := H.ext he
    refine ga S fun a S => ?_
    refine gnt ?_
    have S := ((((((S.nil.cons S 2 rfl).cons S 4 rfl).cons S 18 rfl).cons S 19 rfl).cons S 20 rfl).cons S 8 rfl).cons S 9 rfl
    refine g_block ?_
    refine gsr ?_
    refine gm S fun a S => ?_
    refine gy rfl rfl rfl S (y_bin rfl S rfl rfl rfl) fun a S => ?_
    refine ga S fun a S => ?_
    refine gnt ?_
    refine c_if S rfl (fun h5 => ?_) (fun h5 => ?_)
    ·have h5p := h5; try simp only [DL] at h5p
     have hall : ∀ x ∈ s.bids, idP i x = false := by rcases hz with ⟨_, h⟩ | ⟨q, hq, e, _⟩; exact h; exfalso; have := h5p; omega
     refine g_skip ?_
     refine n_block ?_
     refine n_block ?_
     refine n_then ?_
     have S := ((((S.nil.cons S 2 rfl).cons S 4 rfl).cons S 18 rfl).cons S 19 rfl).cons S 20 rfl
     refine g_region ?_
     refine gy rfl rfl rfl S (y_add rfl S rfl rfl (by omega)) fun a S => ?_
     refine gm S fun a S => ?_
     refine gnt ?_
     first
     | exact ⟨1, S.nil.cons S 20 rfl, (((S.nil.cons S 2 rfl).cons S 4 rfl).cons S 18 rfl).cons S 19 rfl, ⟨fun _ => hall, fun h => by omega, by omega, H.drop 0⟩, by omega⟩
     | exact ⟨2, S.nil.cons S 20 rfl, (((S.nil.cons S 2 rfl).cons S 4 rfl).cons S 18 rfl).cons S 19 rfl, ⟨fun _ => hqo (Nat.le_refl _), fun _ => hall, by omega, H.drop 0⟩, by omega⟩
    ·have h5p := h5; try simp only [DL] at h5p
     obtain ⟨rfl, hall⟩ | ⟨j, hj, rfl, hp, hn⟩ := hz
     · exfalso; have := h5p; omega
     refine gsr ?_
     refine gm S fun a S => ?_
     refine gy rfl rfl rfl S (y_nilCheck rfl S rfl) fun a S => ?_
     refine gy rfl rfl rfl S (y_load rfl Fsca39 S H rfl rfl) fun a S => ?_
     refine gm S fun a S => ?_
     refine gy rfl rfl rfl S (y_iaddrs rfl Try.underlying39 Fsiz29 S H rfl rfl (by first | assumption | omega | (simp only [LL]; omega))) fun a S => ?_
     refine gy rfl rfl rfl S (y_faddr rfl Ffo29_3 S rfl) fun a S => ?_
     refine gy rfl rfl rfl S (y_loadsf _ rfl Fsca9 S H rfl (by first | assumption | omega | (simp only [LL]; omega)) rfl) fun a S => ?_
     refine gm S fun a S => ?_
     refine gy rfl rfl rfl S (y_nes rfl Try.underlying9 S rfl rfl) fun a S => ?_
     refine ga S fun a S => ?_
     refine gnt ?_
     have S := (((((((S.nil.cons S 2 rfl).cons S 4 rfl).cons S 18 rfl).cons S 19 rfl).cons S 20 rfl).cons S 8 rfl).cons S 9 rfl).cons S 42 rfl
     refine c_if S rfl (fun h6 => ?_) (fun h6 => ?_)
     ·have h6p := h6; try simp only [DL] at h6p
      refine gsr ?_
      refine ga S fun a S => ?_
      refine gnt ?_
      refine g_ret ?_
      refine r_block (r_block (r_then (r_then (r_block (r_then (ret1 rfl S rfl ?_))))))
      exact ⟨congrArg (Value.int .i64) ((can_b (p := p) (hqo (Nat.le_refl _)) hj hp hn).2 (by simpa using h6p)).1.symm, vo, vb, by rw [((can_b (p := p) (hqo (Nat.le_refl _)) hj hp hn).2 (by simpa using h6p)).2]; exact H.takeT [Cel b 51 [vo, vb, .map (some mb)], OSl 29 vo 5 Ord.enc (s.offers), OSl 29 vb 5 Ord.enc (s.bids), MapA mb (fun n : Int => Value.int .i64 n) (fun b : Bool => Value.bool b) (memS (s.ids)) (s.ids).length] l⟩
     ·have h6p := h6; try simp only [DL] at h6p
      refine gsr ?_
      refine gm S fun a S => ?_
      refine gm S fun a S => ?_
      refine gy rfl rfl rfl S (y_nilCheck rfl S rfl) fun a S => ?_
      refine gy rfl rfl rfl S (y_load rfl Fsca39 S H rfl rfl) fun a S => ?_
      refine wl_of (op_call (wn rfl) rfl rfl S (co_func rfl Try.call26 S rfl) (clone_spec vb s.bids _ (H.sl vb) (by omega)) fun u33 w hc a S => ?_)
      have H1 := hc
      have H := H.call1 H1 rfl
      refine gm S fun a S => ?_
      refine gm S fun a S => ?_
      refine gy rfl rfl rfl S (y_add rfl S rfl rfl (by omega)) fun a S => ?_
      rw [show ((j : Int) + 1) = ((j + 1 : Nat) : Int) by omega] at S
      refine wl_of (op_call (wn rfl) rfl rfl S (co_func rfl Try.call25 S rfl) (delete_spec u33 s.bids j _ H hj) fun u37 w hc a S => ?_)
      have H := hc
      
      refine gy rfl rfl rfl S (y_nilCheck rfl S rfl) fun a S => ?_
      refine wl_of (op_store (wn rfl) rfl rfl S H rfl rfl (H.sl1 _) Fsiz39 rfl fun a w S H => ?_)
      dsimp only [List.set, Nat.zero_add, Nat.reduceAdd] at H
      refine gnt ?_
      have S := ((((S.nil.cons S 2 rfl).cons S 4 rfl).cons S 18 rfl).cons S 19 rfl).cons S 20 rfl
      refine gsr ?_
      refine ga S fun a S => ?_
      refine gnt ?_
      refine g_ret ?_
      refine r_block (r_block (r_then (r_then (r_block (r_then (ret1 rfl S rfl ?_))))))
      exact ⟨congrArg (Value.int .i64) ((can_b (p := p) (hqo (Nat.le_refl _)) hj hp hn).1 (by simpa using h6p)).1.symm, vo, u37, by rw [((can_b (p := p) (hqo (Nat.le_refl _)) hj hp hn).1 (by simpa using h6p)).2]; exact H.takeT [Cel b 51 [vo, u37, .map (some mb)], OSl 29 vo 5 Ord.enc (s.offers), OSl 29 u37 5 Ord.enc (s.bids.eraseIdx j), MapA mb (fun n : Int => Value.int .i64 n) (fun b : Bool => Value.bool b) (memS (s.ids)) (s.ids).length] l⟩
  ·have h2p := h2; try simp only [DL] at h2p
   refine g_exit ?_
   refine x_then (x_then (x_eq ?_))
   refine n_then ?_
   have S := S.nil
   refine gsr ?_
   refine ga S fun a S => ?_
   refine gnt ?_
   refine g_ret ?_
   refine ret1 rfl S rfl ?_
   obtain rfl : k = 2 := by omega
   have hc := can_n (p := p) (hqo (by omega)) (hqb (by omega))
   exact ⟨congrArg (Value.int .i64) hc.1.symm, vo, vb, by rw [hc.2]; exact H.takeT [Cel b 51 [vo, vb, .map (some mb)], OSl 29 vo 5 Ord.enc (s.offers), OSl 29 vb 5 Ord.enc (s.bids), MapA mb (fun n : Int => Value.int .i64 n) (fun b : Bool => Value.bool b) (memS (s.ids)) (s.ids).length] l⟩
end Go.Proofs.Ytcgpbalpihkiiaa
