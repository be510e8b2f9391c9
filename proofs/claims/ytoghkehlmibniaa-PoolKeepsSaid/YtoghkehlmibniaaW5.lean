/- The walks. No condition. -/
import Derived.Test.YtoghkehlmibniaaChecked
import Derived.Test.YtoghkehlmibniaaGwQue
import Derived.Test.YtoghkehlmibniaaFacts
import Derived.Test.YtoghkehlmibniaaPlain
import Derived.Test.YtoghkehlmibniaaPlainB
import Derived.Test.YtoghkehlmibniaaW4
namespace Go.Proofs.Ytoghkehlmibniaa
open Go Go.Gw
set_option linter.unusedVariables false
set_option linter.unusedSimpArgs false
set_option maxHeartbeats 4000000 in
/-- foyer/pool.components -/
theorem components_spec {M : Nat → Prop} {u0 : World} {l : List Atom} (v2 vb : Value) (got : List Int) (qs : List (Value × List Int)) (bt bb : Nat) (n : Nat) (hgl : got.length = n) (hql : qs.length = n) (w0 : World) (hrw2 : ∀ j, (rowG (gr qs) j).length ≤ 1000) (hto : ∀ u, u < n → ∀ t ∈ toS got qs u, 0 ≤ t ∧ t < n) (hn : n ≤ 1000) (h0 : HSat M u0 (Atom.ro (Cel bt 23 [v2]) :: Atom.ro (Cel bb 22 [vb]) :: Sl v2 1 encI got :: Sl vb 1 encRow qs :: RowsS 1 encI qs :: l) w0) :
    Ret Try.prog 28 #[.int .i64 (n : Int), .func (.func 29) #[] #[.pointer (some ⟨bt, 0, none⟩), .pointer (some ⟨bb, 0, none⟩)]] w0 (fun u w => ∃ out, HSat No w0 [OSl 3 u 1 encN out] w ∧ out.length = n ∧ ∀ x y, x < n → y < n → (atN out x = atN out y ↔ Rch (toS got qs) x y ∧ Rch (toS got qs) y x)) := by
  refine ret_of_wp (nt := 106) Try.func28 rfl rfl rfl (fl := [(0, .int .i64 (n : Int)), (1, .func (.func 29) #[] #[.pointer (some ⟨bt, 0, none⟩), .pointer (some ⟨bb, 0, none⟩)])]) rfl (fun a S => ?_)
  have H := (HSat.start w0).ro0 (RowsS 1 encI qs) rfl (h0.rwsS qs)
  have H := H.ro0 (Sl vb 1 encRow qs) rfl (h0.sl vb)
  have H := H.ro0 (Sl v2 1 encI got) rfl (h0.sl v2)
  have H := H.ro0 (Atom.ro (Cel bb 22 [vb])) rfl (h0.rd bb)
  have H := H.ro0 (Atom.ro (Cel bt 23 [v2])) rfl (h0.rd bt)
  have hrw : ∀ j, (rowG (gr qs) j).length ≤ 1000000 := fun j => by have := hrw2 j; omega
  refine g_seq ?_
  -- region 0 pool.go:113
  refine g_region ?_
  refine wl_of (op_box1 (wn rfl) rfl rfl rfl S H rfl rfl fun b3 a w S H => ?_)
  refine wl_of (op_y (wn rfl) rfl rfl S (y_assign rfl S rfl) fun a S => ?_)
  refine gl_nil ?_
  refine n_then ?_
  refine g_seq ?_
  -- region 1 pool.go:114
  refine g_region ?_
  refine wl_of (op_alloc (wn rfl) rfl rfl rfl S H Fzer23 fun b5 a w S H => ?_)
  refine gl_nil ?_
  refine n_then ?_
  refine g_seq ?_
  -- region 2 pool.go:115
  refine g_region ?_
  refine wl_of (op_y (wn rfl) rfl rfl S (y_move rfl S rfl) fun a S => ?_)
  refine wl_of (op_make (encB) (false) (wn rfl) rfl rfl rfl Try.underlying38 Finf4 rfl rfl S H rfl rfl rfl (by omega) (by omega) fun b20 a w S H => ?_)
  refine wl_of (op_alloc (wn rfl) rfl rfl rfl S H Fzer38 fun b6 a w S H => ?_)
  refine wl_of (op_store (wn rfl) rfl rfl S H rfl rfl (H.sl1 _) Fsiz38 rfl fun a w S H => ?_)
  dsimp only [List.set, Nat.zero_add, Nat.reduceAdd] at H
  refine gl_nil ?_
  refine n_then ?_
  refine g_seq ?_
  -- region 3 pool.go:116
  refine g_region ?_
  refine wl_of (op_alloc (wn rfl) rfl rfl rfl S H Fzer48 fun b7 a w S H => ?_)
  refine gl_nil ?_
  refine n_then ?_
  refine g_seq ?_
  -- region 4 pool.go:117
  refine g_region ?_
  refine wl_of (op_y (wn rfl) rfl rfl S (y_makeFunc rfl S rfl rfl) fun a S => ?_)
  refine wl_of (op_store (wn rfl) rfl rfl S H rfl rfl rfl Fsiz48 rfl fun a w S H => ?_)
  dsimp only [List.set, Nat.zero_add, Nat.reduceAdd] at H
  refine gl_nil ?_
  refine n_then ?_
  have S := (((((S.nil.cons S 0 rfl).cons S 3 rfl).cons S 4 rfl).cons S 5 rfl).cons S 6 rfl).cons S 7 rfl
  refine g_seq ?_
  -- region 5 pool.go:126
  refine g_region ?_
  refine wl_of (op_y (wn rfl) rfl rfl S (y_move rfl S rfl) fun a S => ?_)
  refine wl_of (op_make (encRow (α := Nat)) ((Value.slice none 0 0, [])) (wn rfl) rfl rfl rfl Try.underlying22 Finf23 rfl rfl S H rfl rfl rfl (by omega) (by omega) fun b23 a w S H => ?_)
  refine wl_of (op_alloc (wn rfl) rfl rfl rfl S H Fzer22 fun b8 a w S H => ?_)
  refine wl_of (op_store (wn rfl) rfl rfl S H rfl rfl (H.sl1 _) Fsiz22 rfl fun a w S H => ?_)
  dsimp only [List.set, Nat.zero_add, Nat.reduceAdd] at H
  refine gl_nil ?_
  refine n_then ?_
  refine g_seq ?_
  refine g_seq ?_
  -- region 6 pool.go:127
  refine g_region ?_
  refine wl_of (op_y (wn rfl) rfl rfl S (y_move rfl S rfl) fun a S => ?_)
  refine wl_of (op_y (wn rfl) rfl rfl S (y_move rfl S rfl) fun a S => ?_)
  refine gl_nil ?_
  refine n_then ?_
  refine g_block ?_
  have H := (H.front (Cel b8 22 [(.slice (some ⟨b23, 0, none⟩) n n)])).freeze
  have H := (H.front (Cel b7 48 [.func (.func 31) #[] #[.pointer (some ⟨b6, 0, none⟩), .pointer (some ⟨b3, 0, none⟩), .pointer (some ⟨b7, 0, none⟩), .pointer (some ⟨b5, 0, none⟩)]])).freeze
  have H := (H.front (Cel b6 38 [(.slice (some ⟨b20, 0, none⟩) n n)])).freeze
  have H := (H.front (Cel b3 44 [.func (.func 29) #[] #[.pointer (some ⟨bt, 0, none⟩), .pointer (some ⟨bb, 0, none⟩)]])).freeze
  have H := (H.rowsNil 3 1 encN n).nilO 3 1 encN
  have SU := (((((((S.nil.cons S 0 rfl).cons S 3 rfl).cons S 4 rfl).cons S 5 rfl).cons S 6 rfl).cons S 7 rfl).cons S 8 rfl).cons S 24 rfl
  refine loopW (X := Nat) SU (fun i => [(25, .int .i64 (i : Int))]) (fun i w => i ≤ n ∧ ∃ seen order vo fs, Pass (toS got qs) n seen order i ∧ FromOK (toS got qs) n fs i 0 ∧ HSat No w0 [OSl 4 (.slice (some ⟨b20, 0, none⟩) n n) 1 encB (seen), Cel b5 23 [vo], OSl 3 vo 1 encN (order), Atom.ro (Cel b6 38 [(.slice (some ⟨b20, 0, none⟩) n n)]), Atom.ro (Cel b3 44 [.func (.func 29) #[] #[.pointer (some ⟨bt, 0, none⟩), .pointer (some ⟨bb, 0, none⟩)]]), Atom.ro (Cel b7 48 [.func (.func 31) #[] #[.pointer (some ⟨b6, 0, none⟩), .pointer (some ⟨b3, 0, none⟩), .pointer (some ⟨b7, 0, none⟩), .pointer (some ⟨b5, 0, none⟩)]]), Atom.ro (Cel bt 23 [v2]), Atom.ro (Cel bb 22 [vb]), Sl v2 1 encI got, Sl vb 1 encRow qs, RowsS 1 encI qs, OSl 23 (.slice (some ⟨b23, 0, none⟩) n n) 1 encRow fs, RowsA 3 1 encN fs, Atom.ro (Cel b8 22 [(.slice (some ⟨b23, 0, none⟩) n n)])] w) (fun i => n - i) 0 (S.nil.cons S 25 rfl) (⟨by omega, _, [], .slice none 0 0, _, pass_start _ _, from_start _ _, H.take [OSl 4 (.slice (some ⟨b20, 0, none⟩) n n) 1 encB (List.replicate n false), Cel b5 23 [(.slice none 0 0)], OSl 3 (.slice none 0 0) 1 encN ([]), Atom.ro (Cel b6 38 [(.slice (some ⟨b20, 0, none⟩) n n)]), Atom.ro (Cel b3 44 [.func (.func 29) #[] #[.pointer (some ⟨bt, 0, none⟩), .pointer (some ⟨bb, 0, none⟩)]]), Atom.ro (Cel b7 48 [.func (.func 31) #[] #[.pointer (some ⟨b6, 0, none⟩), .pointer (some ⟨b3, 0, none⟩), .pointer (some ⟨b7, 0, none⟩), .pointer (some ⟨b5, 0, none⟩)]]), Atom.ro (Cel bt 23 [v2]), Atom.ro (Cel bb 22 [vb]), Sl v2 1 encI got, Sl vb 1 encRow qs, RowsS 1 encI qs, OSl 23 (.slice (some ⟨b23, 0, none⟩) n n) 1 encRow (List.replicate n (Value.slice none 0 0, ([] : List Nat))), RowsA 3 1 encN (List.replicate n (Value.slice none 0 0, ([] : List Nat))), Atom.ro (Cel b8 22 [(.slice (some ⟨b23, 0, none⟩) n n)])]⟩) (fun i a w S hW => ?_)
  simp only [List.cons_append, List.nil_append] at S
  obtain ⟨hin, seen, order, vo, fs, hp, hfr, H⟩ := hW
  refine g_seq ?_
  -- region 7 pool.go:127
  refine g_region ?_
  refine wl_of (op_y (wn rfl) rfl rfl S (y_bin rfl S rfl rfl rfl) fun a S => ?_)
  refine gl_nil ?_
  refine n_then ?_
  refine g_seq ?_
  -- cond 1
  refine c_if S rfl (fun h1 => ?_) (fun h1 => ?_)
  · have h1p := h1; try simp only [Option.isNone_some, Option.isNone_none, Option.isSome_some, Option.isSome_none, false_or, or_false, true_and, and_true, decide_eq_true_eq, decide_eq_false_iff_not, Bool.or_eq_true, Bool.and_eq_true, Bool.or_eq_false_iff, Bool.and_eq_false_iff, Bool.not_eq_true', Bool.not_eq_false', bne_iff_ne, beq_iff_eq, beq_eq_false_iff_ne, bne_eq_false_iff_eq, ne_eq, Decidable.not_not, Int.not_lt, Int.not_le, gt_iff_lt, ge_iff_le, Bool.true_eq_false, Bool.false_eq_true, not_true_eq_false, not_false_eq_true] at h1p
    have hil : i < n := by omega
    have hsl := hp.fin.ln
    have hatb : atB seen i = seen[i] := atB_eq (by omega)
    refine g_skip ?_
    refine n_then ?_
    refine g_seq ?_
    refine g_block ?_
    refine g_seq ?_
    -- region 8 pool.go:127
    refine g_region ?_
    refine wl_of (op_y (wn rfl) rfl rfl S (y_move rfl S rfl) fun a S => ?_)
    refine wl_of (op_y (wn rfl) rfl rfl S (y_assign rfl S rfl) fun a S => ?_)
    refine gl_nil ?_
    refine n_then ?_
    refine g_seq ?_
    refine g_seq ?_
    -- region 9 pool.go:128
    refine g_region ?_
    refine wl_of (op_y (wn rfl) rfl rfl S (y_load rfl Fsca38 S H rfl rfl) fun a S => ?_)
    refine wl_of (op_y (wn rfl) rfl rfl S (y_move rfl S rfl) fun a S => ?_)
    refine wl_of (op_y (wn rfl) rfl rfl S (y_iaddrn rfl Try.underlying38 Fsiz4 S H rfl rfl (by first | assumption | omega | (simp only [List.length_append, List.length_take, List.length_drop, List.length_replicate, List.length_set, List.length_map, List.length_cons, List.length_nil]; omega))) fun a S => ?_)
    refine wl_of (op_y (wn rfl) rfl rfl S (y_loads _ rfl Fsca4 S H rfl (by first | assumption | omega | (simp only [List.length_append, List.length_take, List.length_drop, List.length_replicate, List.length_set, List.length_map, List.length_cons, List.length_nil]; omega)) rfl) fun a S => ?_)
    refine wl_of (op_y (wn rfl) rfl rfl S (y_not rfl S rfl) fun a S => ?_)
    refine gl_nil ?_
    refine n_then ?_
    -- cond 2 (both ways go on)
    refine cut (fun a w => ∃ seen order vo, Pass (toS got qs) n seen order (i + 1) ∧ St 106 [(0, .int .i64 (n : Int)), (3, .pointer (some ⟨b3, 0, none⟩)), (4, .slice none 0 0), (5, .pointer (some ⟨b5, 0, none⟩)), (6, .pointer (some ⟨b6, 0, none⟩)), (7, .pointer (some ⟨b7, 0, none⟩)), (8, .pointer (some ⟨b8, 0, none⟩)), (9, .int .i64 (i : Int)), (24, .int .i64 (n : Int)), (25, .int .i64 (i : Int))] a ∧ HSat No w0 [OSl 4 (.slice (some ⟨b20, 0, none⟩) n n) 1 encB (seen), Cel b5 23 [vo], OSl 3 vo 1 encN (order), Atom.ro (Cel b6 38 [(.slice (some ⟨b20, 0, none⟩) n n)]), Atom.ro (Cel b3 44 [.func (.func 29) #[] #[.pointer (some ⟨bt, 0, none⟩), .pointer (some ⟨bb, 0, none⟩)]]), Atom.ro (Cel b7 48 [.func (.func 31) #[] #[.pointer (some ⟨b6, 0, none⟩), .pointer (some ⟨b3, 0, none⟩), .pointer (some ⟨b7, 0, none⟩), .pointer (some ⟨b5, 0, none⟩)]]), Atom.ro (Cel bt 23 [v2]), Atom.ro (Cel bb 22 [vb]), Sl v2 1 encI got, Sl vb 1 encRow qs, RowsS 1 encI qs, OSl 23 (.slice (some ⟨b23, 0, none⟩) n n) 1 encRow fs, RowsA 3 1 encN fs, Atom.ro (Cel b8 22 [(.slice (some ⟨b23, 0, none⟩) n n)])] w) ?_ ?_
    · skip
      refine c_if S rfl (fun h2 => ?_) (fun h2 => ?_)
      · have h2p := h2; try simp only [Option.isNone_some, Option.isNone_none, Option.isSome_some, Option.isSome_none, false_or, or_false, true_and, and_true, decide_eq_true_eq, decide_eq_false_iff_not, Bool.or_eq_true, Bool.and_eq_true, Bool.or_eq_false_iff, Bool.and_eq_false_iff, Bool.not_eq_true', Bool.not_eq_false', bne_iff_ne, beq_iff_eq, beq_eq_false_iff_ne, bne_eq_false_iff_eq, ne_eq, Decidable.not_not, Int.not_lt, Int.not_le, gt_iff_lt, ge_iff_le, Bool.true_eq_false, Bool.false_eq_true, not_true_eq_false, not_false_eq_true] at h2p
        have hsi : atB seen i = false := by rw [hatb]; simpa using h2
        -- region 10 pool.go:129
        refine g_region ?_
        refine wl_of (op_y (wn rfl) rfl rfl S (y_load rfl Fsca48 S H rfl rfl) fun a S => ?_)
        refine wl_of (op_y (wn rfl) rfl rfl S (y_move rfl S rfl) fun a S => ?_)
        refine wl_of (op_call (wn rfl) rfl rfl S (co_value rfl Try.call31 S rfl rfl) (walk_spec v2 vb got qs bt bb n hgl hql (.slice (some ⟨b20, 0, none⟩) n n) b6 b3 b7 b5 hrw hto hn (thereC seen) i seen order vo _ hil hsi hp.fin (Nat.le_refl _) H) fun v w hc a S => ?_)
        obtain ⟨rfl, s1, o1, vo1, hwo, H⟩ := hc
        
        refine gl_nil ?_
        refine n_then ?_
        first
        | exact ⟨seen, order, vo, pass_skip hp hsi, ((((((((((S.nil.cons S 25 rfl).cons S 24 rfl).cons S 9 rfl).cons S 8 rfl).cons S 7 rfl).cons S 6 rfl).cons S 5 rfl).cons S 4 rfl).cons S 3 rfl).cons S 0 rfl), H⟩
        | exact ⟨s1, o1, vo1, pass_call hp hwo, ((((((((((S.nil.cons S 25 rfl).cons S 24 rfl).cons S 9 rfl).cons S 8 rfl).cons S 7 rfl).cons S 6 rfl).cons S 5 rfl).cons S 4 rfl).cons S 3 rfl).cons S 0 rfl), H⟩
      · have h2p := h2; try simp only [Option.isNone_some, Option.isNone_none, Option.isSome_some, Option.isSome_none, false_or, or_false, true_and, and_true, decide_eq_true_eq, decide_eq_false_iff_not, Bool.or_eq_true, Bool.and_eq_true, Bool.or_eq_false_iff, Bool.and_eq_false_iff, Bool.not_eq_true', Bool.not_eq_false', bne_iff_ne, beq_iff_eq, beq_eq_false_iff_ne, bne_eq_false_iff_eq, ne_eq, Decidable.not_not, Int.not_lt, Int.not_le, gt_iff_lt, ge_iff_le, Bool.true_eq_false, Bool.false_eq_true, not_true_eq_false, not_false_eq_true] at h2p
        have hsi : atB seen i = true := by rw [hatb]; simpa using h2
        refine g_skip ?_
        refine n_then ?_
        first
        | exact ⟨seen, order, vo, pass_skip hp hsi, ((((((((((S.nil.cons S 25 rfl).cons S 24 rfl).cons S 9 rfl).cons S 8 rfl).cons S 7 rfl).cons S 6 rfl).cons S 5 rfl).cons S 4 rfl).cons S 3 rfl).cons S 0 rfl), H⟩
        | exact ⟨s1, o1, vo1, pass_call hp hwo, ((((((((((S.nil.cons S 25 rfl).cons S 24 rfl).cons S 9 rfl).cons S 8 rfl).cons S 7 rfl).cons S 6 rfl).cons S 5 rfl).cons S 4 rfl).cons S 3 rfl).cons S 0 rfl), H⟩
    rintro a w ⟨seen, order, vo, hp, S, H⟩
    refine g_seq ?_
    -- region 11 pool.go:131
    refine g_region ?_
    refine wl_of (op_y (wn rfl) rfl rfl S (y_load rfl Fsca44 S H rfl rfl) fun a S => ?_)
    refine wl_of (op_y (wn rfl) rfl rfl S (y_move rfl S rfl) fun a S => ?_)
    refine wl_of (op_call (wn rfl) rfl rfl S (co_value rfl Try.call29 S rfl rfl) (to_spec (l := []) v2 vb got qs bt bb n hgl hql i _ hil hrw (H.take [Atom.ro (Cel bt 23 [v2]), Atom.ro (Cel bb 22 [vb]), Sl v2 1 encI got, Sl vb 1 encRow qs, RowsS 1 encI qs])) fun u38 w hc a S => ?_)
    have H1 := hc
    have H := (H.call1 H1 rfl).giveSl
    have htl : (toS got qs i).length ≤ 1001 := by unfold toS; simp only [List.length_cons]; have := hrw2 i; omega
    refine wl_of (op_y (wn rfl) rfl rfl S (y_lens rfl Try.underlying23 S H rfl) fun a S => ?_)
    refine wl_of (op_y (wn rfl) rfl rfl S (y_move rfl S rfl) fun a S => ?_)
    refine gl_nil ?_
    refine n_then ?_
    refine g_block ?_
    have SU := (((((((((((((S.nil.cons S 25 rfl).cons S 24 rfl).cons S 9 rfl).cons S 8 rfl).cons S 7 rfl).cons S 6 rfl).cons S 5 rfl).cons S 4 rfl).cons S 3 rfl).cons S 0 rfl).cons S 36 rfl).cons S 37 rfl).cons S 38 rfl).cons S 39 rfl
    refine loopW (X := Nat) SU (fun k => [(40, .int .i64 (k : Int))]) (fun k w => k ≤ (toS got qs i).length ∧ ∃ fs, FromOK (toS got qs) n fs i k ∧ HSat No w0 [OSl 4 (.slice (some ⟨b20, 0, none⟩) n n) 1 encB (seen), Cel b5 23 [vo], OSl 3 vo 1 encN (order), Atom.ro (Cel b6 38 [(.slice (some ⟨b20, 0, none⟩) n n)]), Atom.ro (Cel b3 44 [.func (.func 29) #[] #[.pointer (some ⟨bt, 0, none⟩), .pointer (some ⟨bb, 0, none⟩)]]), Atom.ro (Cel b7 48 [.func (.func 31) #[] #[.pointer (some ⟨b6, 0, none⟩), .pointer (some ⟨b3, 0, none⟩), .pointer (some ⟨b7, 0, none⟩), .pointer (some ⟨b5, 0, none⟩)]]), Atom.ro (Cel bt 23 [v2]), Atom.ro (Cel bb 22 [vb]), Sl v2 1 encI got, Sl vb 1 encRow qs, RowsS 1 encI qs, OSl 23 (.slice (some ⟨b23, 0, none⟩) n n) 1 encRow fs, RowsA 3 1 encN fs, Atom.ro (Cel b8 22 [(.slice (some ⟨b23, 0, none⟩) n n)]), Sl u38 1 encI (toS got qs i)] w) (fun k => (toS got qs i).length - k) 0 (S.nil.cons S 40 rfl) (⟨by omega, fs, hfr, H.take [OSl 4 (.slice (some ⟨b20, 0, none⟩) n n) 1 encB (seen), Cel b5 23 [vo], OSl 3 vo 1 encN (order), Atom.ro (Cel b6 38 [(.slice (some ⟨b20, 0, none⟩) n n)]), Atom.ro (Cel b3 44 [.func (.func 29) #[] #[.pointer (some ⟨bt, 0, none⟩), .pointer (some ⟨bb, 0, none⟩)]]), Atom.ro (Cel b7 48 [.func (.func 31) #[] #[.pointer (some ⟨b6, 0, none⟩), .pointer (some ⟨b3, 0, none⟩), .pointer (some ⟨b7, 0, none⟩), .pointer (some ⟨b5, 0, none⟩)]]), Atom.ro (Cel bt 23 [v2]), Atom.ro (Cel bb 22 [vb]), Sl v2 1 encI got, Sl vb 1 encRow qs, RowsS 1 encI qs, OSl 23 (.slice (some ⟨b23, 0, none⟩) n n) 1 encRow fs, RowsA 3 1 encN fs, Atom.ro (Cel b8 22 [(.slice (some ⟨b23, 0, none⟩) n n)]), Sl u38 1 encI (toS got qs i)]⟩) (fun k a w S hW => ?_)
    simp only [List.cons_append, List.nil_append] at S
    clear H hfr
    obtain ⟨hk, fs, hfr, H⟩ := hW
    refine g_seq ?_
    -- region 12 pool.go:131
    refine g_region ?_
    refine wl_of (op_y (wn rfl) rfl rfl S (y_bin rfl S rfl rfl rfl) fun a S => ?_)
    refine gl_nil ?_
    refine n_then ?_
    refine g_seq ?_
    -- cond 3
    refine c_if S rfl (fun h3 => ?_) (fun h3 => ?_)
    · have h3p := h3; try simp only [Option.isNone_some, Option.isNone_none, Option.isSome_some, Option.isSome_none, false_or, or_false, true_and, and_true, decide_eq_true_eq, decide_eq_false_iff_not, Bool.or_eq_true, Bool.and_eq_true, Bool.or_eq_false_iff, Bool.and_eq_false_iff, Bool.not_eq_true', Bool.not_eq_false', bne_iff_ne, beq_iff_eq, beq_eq_false_iff_ne, bne_eq_false_iff_eq, ne_eq, Decidable.not_not, Int.not_lt, Int.not_le, gt_iff_lt, ge_iff_le, Bool.true_eq_false, Bool.false_eq_true, not_true_eq_false, not_false_eq_true] at h3p
      have hkl : k < (toS got qs i).length := by omega
      obtain ⟨t, ht⟩ : ∃ t : Nat, (toS got qs i)[k] = t := ⟨(toS got qs i)[k].toNat, by have := hto i hil _ (List.getElem_mem hkl); omega⟩
      have htn : t < n := by have := hto i hil _ (List.getElem_mem hkl); omega
      have htf : t < fs.length := by rw [hfr.len]; exact htn
      have hbd := hfr.bnd t htf
      have H := (H.front (RowsA 3 1 encN fs)).rowOut t htf
      refine g_skip ?_
      refine n_then ?_
      refine g_seq ?_
      refine g_block ?_
      refine g_seq ?_
      -- region 13 pool.go:131
      refine g_region ?_
      refine wl_of (op_y (wn rfl) rfl rfl S (y_iaddrn rfl Try.underlying23 Fsiz3 S H rfl rfl (by first | assumption | omega | (simp only [List.length_append, List.length_take, List.length_drop, List.length_replicate, List.length_set, List.length_map, List.length_cons, List.length_nil]; omega))) fun a S => ?_)
      refine wl_of (op_y (wn rfl) rfl rfl S (y_loads _ rfl Fsca3 S H rfl (by first | assumption | omega | (simp only [List.length_append, List.length_take, List.length_drop, List.length_replicate, List.length_set, List.length_map, List.length_cons, List.length_nil]; omega)) rfl) fun a S => ?_)
      rw [ht] at S
      refine wl_of (op_y (wn rfl) rfl rfl S (y_assign rfl S rfl) fun a S => ?_)
      refine gl_nil ?_
      refine n_then ?_
      -- region 14 DRAWS pool.go:132
      refine region_st (loud := [7, 8, 10]) (tails := [8, 10]) (free := [0, 1]) [0, 1, 2, 3, 4, 5, 6, 7, 8, 9, 10] [Atom.ro (Cel b8 22 [(.slice (some ⟨b23, 0, none⟩) n n)])] Fmo (by kernel_rfl) (by kernel_rfl) rfl H ?_
      refine m_f rfl rfl (wn rfl) rfl rfl S (fun w H => y_load rfl Fsca22 S H rfl rfl) fun a S => ?_
      refine m_f rfl rfl (wn rfl) rfl rfl S (fun w H => y_move rfl S rfl) fun a S => ?_
      refine m_w rfl rfl (wn rfl) rfl rfl S (fun w H => y_load rfl Fsca22 S H rfl rfl) fun a S => ?_
      refine m_w rfl rfl (wn rfl) rfl rfl S (fun w H => y_move rfl S rfl) fun a S => ?_
      refine m_w rfl rfl (wn rfl) rfl rfl S (fun w H => y_iaddrn rfl Try.underlying22 Fsiz23 S H rfl rfl (by first | assumption | omega | (simp only [List.length_append, List.length_take, List.length_drop, List.length_replicate, List.length_set, List.length_map, List.length_cons, List.length_nil]; omega))) fun a S => ?_
      refine m_loads _ rfl rfl (wn rfl) rfl rfl S rfl Fsca23 rfl (by first | assumption | omega | (simp only [List.length_append, List.length_take, List.length_drop, List.length_replicate, List.length_set, List.length_map, List.length_cons, List.length_nil]; omega)) rfl fun a S => ?_
      refine m_w rfl rfl (wn rfl) rfl rfl S (fun w H => y_move rfl S rfl) fun a S => ?_
      refine m_l rfl rfl (fun w H => op_buildSlice (wn rfl) rfl rfl rfl Try.underlying23 Finf3 S H (idx := [0]) rfl rfl rfl (z := [.int .i64 0]) (by kernel_rfl) (cs := [_]) rfl fun b51 a w S H => m_next H (List.sublist_cons_self _ _) ?_)
      refine m_l rfl rfl (fun w H => op_append ([i]) (wn rfl) rfl rfl rfl Try.underlying23 Finf3 rfl rfl S H rfl rfl rfl rfl (by simp) (by simp [encN]) (by simp [encN, Value.oneCell']) (by simp only [List.length_cons, List.length_nil]; omega) (by simp only [List.length_cons, List.length_nil]; omega) fun u52 a w hn52 S H => m_tail H rfl ?_)
      refine m_w rfl rfl (wn rfl) rfl rfl S (fun w H => y_iaddrn rfl Try.underlying22 Fsiz23 S H rfl rfl (by first | assumption | omega | (simp only [List.length_append, List.length_take, List.length_drop, List.length_replicate, List.length_set, List.length_map, List.length_cons, List.length_nil]; omega))) fun a S => ?_
      refine m_l rfl rfl (fun w H => op_store1 _ ((u52, fs[t].2 ++ [i])) (wn rfl) rfl rfl S H rfl rfl (H.slc _) (H.sl1 _) Fsiz23 (by first | assumption | omega | (simp only [List.length_append, List.length_take, List.length_drop, List.length_replicate, List.length_set, List.length_map, List.length_cons, List.length_nil]; omega)) (by exact rfl) fun a w S H => m_tail H rfl ?_)
      refine m_nil (fun w H => ?_)
      refine n_block ?_
      refine n_then ?_
      -- region 15 pool.go:131
      refine g_region ?_
      refine wl_of (op_y (wn rfl) rfl rfl S (y_add rfl S rfl rfl (by omega)) fun a S => ?_)
      refine wl_of (op_y (wn rfl) rfl rfl S (y_move rfl S rfl) fun a S => ?_)
      refine gl_nil ?_
      refine n_then ?_
      exact ⟨k + 1, S.nil.cons S 40 rfl, (((((((((((((S.nil.cons S 25 rfl).cons S 24 rfl).cons S 9 rfl).cons S 8 rfl).cons S 7 rfl).cons S 6 rfl).cons S 5 rfl).cons S 4 rfl).cons S 3 rfl).cons S 0 rfl).cons S 36 rfl).cons S 37 rfl).cons S 38 rfl).cons S 39 rfl, ⟨by omega, _, from_step hfr htf hkl ht u52, ((H.front2 (OSl 3 u52 1 encN (fs[t].2 ++ [i])) (RowsA 3 1 encN (fs.eraseIdx t))).rowIn htf).take [OSl 4 (.slice (some ⟨b20, 0, none⟩) n n) 1 encB (seen), Cel b5 23 [vo], OSl 3 vo 1 encN (order), Atom.ro (Cel b6 38 [(.slice (some ⟨b20, 0, none⟩) n n)]), Atom.ro (Cel b3 44 [.func (.func 29) #[] #[.pointer (some ⟨bt, 0, none⟩), .pointer (some ⟨bb, 0, none⟩)]]), Atom.ro (Cel b7 48 [.func (.func 31) #[] #[.pointer (some ⟨b6, 0, none⟩), .pointer (some ⟨b3, 0, none⟩), .pointer (some ⟨b7, 0, none⟩), .pointer (some ⟨b5, 0, none⟩)]]), Atom.ro (Cel bt 23 [v2]), Atom.ro (Cel bb 22 [vb]), Sl v2 1 encI got, Sl vb 1 encRow qs, RowsS 1 encI qs, OSl 23 (.slice (some ⟨b23, 0, none⟩) n n) 1 encRow (fs.set t (u52, fs[t].2 ++ [i])), RowsA 3 1 encN (fs.set t (u52, fs[t].2 ++ [i])), Atom.ro (Cel b8 22 [(.slice (some ⟨b23, 0, none⟩) n n)]), Sl u38 1 encI (toS got qs i)]⟩, by omega⟩
    · have h3p := h3; try simp only [Option.isNone_some, Option.isNone_none, Option.isSome_some, Option.isSome_none, false_or, or_false, true_and, and_true, decide_eq_true_eq, decide_eq_false_iff_not, Bool.or_eq_true, Bool.and_eq_true, Bool.or_eq_false_iff, Bool.and_eq_false_iff, Bool.not_eq_true', Bool.not_eq_false', bne_iff_ne, beq_iff_eq, beq_eq_false_iff_ne, bne_eq_false_iff_eq, ne_eq, Decidable.not_not, Int.not_lt, Int.not_le, gt_iff_lt, ge_iff_le, Bool.true_eq_false, Bool.false_eq_true, not_true_eq_false, not_false_eq_true] at h3p
      have hfe := from_end hfr (by omega) (by omega)
      refine g_exit ?_
      refine x_then (x_then (x_eq ?_))
      refine n_block ?_
      refine n_then ?_
      -- region 16 pool.go:127
      refine g_region ?_
      refine wl_of (op_y (wn rfl) rfl rfl S (y_add rfl S rfl rfl (by omega)) fun a S => ?_)
      refine wl_of (op_y (wn rfl) rfl rfl S (y_move rfl S rfl) fun a S => ?_)
      refine gl_nil ?_
      refine n_then ?_
      exact ⟨i + 1, S.nil.cons S 25 rfl, (((((((S.nil.cons S 0 rfl).cons S 3 rfl).cons S 4 rfl).cons S 5 rfl).cons S 6 rfl).cons S 7 rfl).cons S 8 rfl).cons S 24 rfl, ⟨by omega, seen, order, vo, fs, hp, hfe, H.take [OSl 4 (.slice (some ⟨b20, 0, none⟩) n n) 1 encB (seen), Cel b5 23 [vo], OSl 3 vo 1 encN (order), Atom.ro (Cel b6 38 [(.slice (some ⟨b20, 0, none⟩) n n)]), Atom.ro (Cel b3 44 [.func (.func 29) #[] #[.pointer (some ⟨bt, 0, none⟩), .pointer (some ⟨bb, 0, none⟩)]]), Atom.ro (Cel b7 48 [.func (.func 31) #[] #[.pointer (some ⟨b6, 0, none⟩), .pointer (some ⟨b3, 0, none⟩), .pointer (some ⟨b7, 0, none⟩), .pointer (some ⟨b5, 0, none⟩)]]), Atom.ro (Cel bt 23 [v2]), Atom.ro (Cel bb 22 [vb]), Sl v2 1 encI got, Sl vb 1 encRow qs, RowsS 1 encI qs, OSl 23 (.slice (some ⟨b23, 0, none⟩) n n) 1 encRow fs, RowsA 3 1 encN fs, Atom.ro (Cel b8 22 [(.slice (some ⟨b23, 0, none⟩) n n)])]⟩, by omega⟩
  · have h1p := h1; try simp only [Option.isNone_some, Option.isNone_none, Option.isSome_some, Option.isSome_none, false_or, or_false, true_and, and_true, decide_eq_true_eq, decide_eq_false_iff_not, Bool.or_eq_true, Bool.and_eq_true, Bool.or_eq_false_iff, Bool.and_eq_false_iff, Bool.not_eq_true', Bool.not_eq_false', bne_iff_ne, beq_iff_eq, beq_eq_false_iff_ne, bne_eq_false_iff_eq, ne_eq, Decidable.not_not, Int.not_lt, Int.not_le, gt_iff_lt, ge_iff_le, Bool.true_eq_false, Bool.false_eq_true, not_true_eq_false, not_false_eq_true] at h1p
    obtain rfl : n = i := by omega
    refine g_exit ?_
    refine x_then (x_then (x_eq ?_))
    refine n_then ?_
    have S := (((S.nil.cons S 0 rfl).cons S 4 rfl).cons S 5 rfl).cons S 8 rfl
    refine g_seq ?_
    -- region 17 pool.go:135
    refine g_region ?_
    refine wl_of (op_y (wn rfl) rfl rfl S (y_move rfl S rfl) fun a S => ?_)
    refine wl_of (op_make (encN) (0) (wn rfl) rfl rfl rfl Try.underlying23 Finf3 rfl rfl S H rfl rfl rfl (by omega) (by omega) fun b57 a w S H => ?_)
    refine wl_of (op_alloc (wn rfl) rfl rfl rfl S H Fzer23 fun b12 a w S H => ?_)
    refine wl_of (op_store (wn rfl) rfl rfl S H rfl rfl (H.sl1 _) Fsiz23 rfl fun a w S H => ?_)
    dsimp only [List.set, Nat.zero_add, Nat.reduceAdd] at H
    refine gl_nil ?_
    refine n_then ?_
    refine g_seq ?_
    -- region 18 pool.go:136
    refine g_region ?_
    refine wl_of (op_alloc (wn rfl) rfl rfl rfl S H Fzer3 fun b13 a w S H => ?_)
    refine wl_of (op_store (wn rfl) rfl rfl S H rfl rfl rfl Fsiz3 rfl fun a w S H => ?_)
    dsimp only [List.set, Nat.zero_add, Nat.reduceAdd] at H
    refine gl_nil ?_
    refine n_then ?_
    refine g_seq ?_
    refine g_seq ?_
    -- region 19 pool.go:137
    refine g_region ?_
    refine wl_of (op_y (wn rfl) rfl rfl S (y_load rfl Fsca23 S H rfl rfl) fun a S => ?_)
    refine wl_of (op_call (wn rfl) rfl rfl S (co_func rfl Try.call32 S rfl) (backward_spec vo order _ (H.sl vo)) fun v w hc a S => ?_)
    obtain ⟨bi, rfl, H1⟩ := hc
    have H := H.call1 H1 rfl
    refine gl_nil ?_
    refine n_then ?_
    have S := ((((S.nil.cons S 4 rfl).cons S 8 rfl).cons S 12 rfl).cons S 13 rfl).cons S 59 rfl
    refine g_block ?_
    have hol : order.length = n := by
      have h1 := nodup_le (m := List.range n) hp.fin.nd (fun x hx => List.mem_range.2 (hp.fin.sub x hx).1)
      have h2 := nodup_le (m := order) (List.nodup_range (n := n)) (fun x hx => hp.same x (hp.all x (List.mem_range.1 hx)))
      simp only [List.length_range] at h1 h2; omega
    have H := H.take [OSl 3 (.slice (some ⟨b57, 0, none⟩) n n) 1 encN (List.replicate n 0), Cel b13 3 [.int .i64 ((0 : Nat) : Int)], Cel b12 23 [(.slice (some ⟨b57, 0, none⟩) n n)], Cel bi 23 [vo], OSl 3 vo 1 encN order, OSl 23 (.slice (some ⟨b23, 0, none⟩) n n) 1 encRow fs, RowsA 3 1 encN fs, Atom.ro (Cel b8 22 [(.slice (some ⟨b23, 0, none⟩) n n)])]
    -- range over a function
    refine g_range (Φ := fun p l2 => p = none ∧ ∃ out m, Cls (toS got qs) n order out m 0 ∧ l2 = [OSl 3 (.slice (some ⟨b57, 0, none⟩) n n) 1 encN out, Cel b13 3 [.int .i64 ((m : Nat) : Int)], Cel b12 23 [(.slice (some ⟨b57, 0, none⟩) n n)], Cel bi 23 [vo], OSl 3 vo 1 encN order, OSl 23 (.slice (some ⟨b23, 0, none⟩) n n) 1 encRow fs, RowsA 3 1 encN fs, Atom.ro (Cel b8 22 [(.slice (some ⟨b23, 0, none⟩) n n)])]) S (H.defs0) rfl Try.call33 (fun R lb w1 hrec H1 => ?_) ?_
    · have SR := S.recd
      refine Ret.mono (backward_iter lb bi vo order w1 (fun k w => ∃ out m, Cls (toS got qs) n order out m k ∧ HSat No w0 [Blk lb (.loop R), DefsA (R.defers :: []), OSl 3 (.slice (some ⟨b57, 0, none⟩) n n) 1 encN out, Cel b13 3 [.int .i64 ((m : Nat) : Int)], Cel b12 23 [(.slice (some ⟨b57, 0, none⟩) n n)], Cel bi 23 [vo], OSl 3 vo 1 encN order, OSl 23 (.slice (some ⟨b23, 0, none⟩) n n) 1 encRow fs, RowsA 3 1 encN fs, Atom.ro (Cel b8 22 [(.slice (some ⟨b23, 0, none⟩) n n)])] w) (fun k w ⟨out, m, _, H⟩ => ⟨H.rd bi, H.sl vo⟩) (fun k w w' ⟨out, m, h1, H⟩ e => ⟨out, m, h1, H.ext e⟩) (fun k hk w hJ => ?_) ⟨_, 0, cls_start _ n order hol, H1⟩) ?_
      · obtain ⟨out, m, hcl, H⟩ := hJ
        have hlo := hcl.lo
        have hmj := hcl.mj
        obtain ⟨i, hi⟩ : ∃ i, i = order[k] := ⟨_, rfl⟩
        have hiln : i < n := by rw [hi]; exact (hp.fin.sub _ (List.getElem_mem hk)).1
        have hzc : ∀ o : List Nat, zeroC o ≤ o.length := fun o => by have := List.length_filter_le (fun j => decide (atN o j = 0)) (List.range o.length); simpa [zeroC] using this
        refine yield2 hrec SR H rfl rfl (fun a S => ?_)
        -- region 20 pool.go:137
        refine g_region ?_
        refine wl_of (op_y (wn rfl) rfl rfl S (y_assign rfl S rfl) fun a S => ?_)
        rw [← hi] at S
        refine gl_nil ?_
        refine n_then ?_
        refine r_begin hrec H (fun w H => ?_)
        refine g_block ?_
        refine g_seq ?_
        refine g_seq ?_
        -- region 21 pool.go:138
        refine g_region ?_
        refine wl_of (op_y (wn rfl) rfl rfl S (y_load rfl Fsca23 S H rfl rfl) fun a S => ?_)
        refine wl_of (op_y (wn rfl) rfl rfl S (y_move rfl S rfl) fun a S => ?_)
        refine wl_of (op_y (wn rfl) rfl rfl S (y_iaddrn rfl Try.underlying23 Fsiz3 S H rfl rfl (by first | assumption | omega | (simp only [List.length_append, List.length_take, List.length_drop, List.length_replicate, List.length_set, List.length_map, List.length_cons, List.length_nil]; omega))) fun a S => ?_)
        refine wl_of (op_y (wn rfl) rfl rfl S (y_loads _ rfl Fsca3 S H rfl (by first | assumption | omega | (simp only [List.length_append, List.length_take, List.length_drop, List.length_replicate, List.length_set, List.length_map, List.length_cons, List.length_nil]; omega)) rfl) fun a S => ?_)
        skip
        refine wl_of (op_y (wn rfl) rfl rfl S (y_bin rfl S rfl rfl rfl) fun a S => ?_)
        refine gl_nil ?_
        refine n_then ?_
        have S := (((((S.nil.cons S 4 rfl).cons S 8 rfl).cons S 12 rfl).cons S 13 rfl).cons S 15 rfl).cons S 66 rfl
        -- cond 4
        refine c_if S rfl (fun h4 => ?_) (fun h4 => ?_)
        · have h4p := h4; try simp only [Option.isNone_some, Option.isNone_none, Option.isSome_some, Option.isSome_none, false_or, or_false, true_and, and_true, decide_eq_true_eq, decide_eq_false_iff_not, Bool.or_eq_true, Bool.and_eq_true, Bool.or_eq_false_iff, Bool.and_eq_false_iff, Bool.not_eq_true', Bool.not_eq_false', bne_iff_ne, beq_iff_eq, beq_eq_false_iff_ne, bne_eq_false_iff_eq, ne_eq, Decidable.not_not, Int.not_lt, Int.not_le, gt_iff_lt, ge_iff_le, Bool.true_eq_false, Bool.false_eq_true, not_true_eq_false, not_false_eq_true] at h4p
          have hpos : 0 < atN out order[k] := by rw [← hi, atN_eq (by omega)]; have := h4p; omega
          refine g_exit ?_
          refine x_then (x_eq ?_)
          refine r_end hrec H (fun w H => ?_)
          first
          | exact ⟨rfl, out, m, cls_skip hcl hk hpos, H.take [Blk lb (.loop R), DefsA (R.defers :: []), OSl 3 (.slice (some ⟨b57, 0, none⟩) n n) 1 encN out, Cel b13 3 [.int .i64 ((m : Nat) : Int)], Cel b12 23 [(.slice (some ⟨b57, 0, none⟩) n n)], Cel bi 23 [vo], OSl 3 vo 1 encN order, OSl 23 (.slice (some ⟨b23, 0, none⟩) n n) 1 encRow fs, RowsA 3 1 encN fs, Atom.ro (Cel b8 22 [(.slice (some ⟨b23, 0, none⟩) n n)])]⟩
          | exact ⟨rfl, out1, m + 1, cls_end hto hp hk hcl hz0 (by rw [← hi]; exact hb), H.take [Blk lb (.loop R), DefsA (R.defers :: []), OSl 3 (.slice (some ⟨b57, 0, none⟩) n n) 1 encN out1, Cel b13 3 [.int .i64 (((m + 1) : Nat) : Int)], Cel b12 23 [(.slice (some ⟨b57, 0, none⟩) n n)], Cel bi 23 [vo], OSl 3 vo 1 encN order, OSl 23 (.slice (some ⟨b23, 0, none⟩) n n) 1 encRow fs, RowsA 3 1 encN fs, Atom.ro (Cel b8 22 [(.slice (some ⟨b23, 0, none⟩) n n)])]⟩
        · have h4p := h4; try simp only [Option.isNone_some, Option.isNone_none, Option.isSome_some, Option.isSome_none, false_or, or_false, true_and, and_true, decide_eq_true_eq, decide_eq_false_iff_not, Bool.or_eq_true, Bool.and_eq_true, Bool.or_eq_false_iff, Bool.and_eq_false_iff, Bool.not_eq_true', Bool.not_eq_false', bne_iff_ne, beq_iff_eq, beq_eq_false_iff_ne, bne_eq_false_iff_eq, ne_eq, Decidable.not_not, Int.not_lt, Int.not_le, gt_iff_lt, ge_iff_le, Bool.true_eq_false, Bool.false_eq_true, not_true_eq_false, not_false_eq_true] at h4p
          have hz0 : atN out order[k] = 0 := by rw [← hi, atN_eq (by omega)]; have := h4p; omega
          refine g_skip ?_
          refine n_then ?_
          refine g_seq ?_
          -- region 22 pool.go:141
          refine g_region ?_
          refine wl_of (op_y (wn rfl) rfl rfl S (y_load rfl Fsca3 S H rfl rfl) fun a S => ?_)
          refine wl_of (op_y (wn rfl) rfl rfl S (y_add rfl S rfl rfl (by omega)) fun a S => ?_)
          rw [show ((m : Int) + 1) = ((m + 1 : Nat) : Int) from rfl] at S
          refine wl_of (op_store (wn rfl) rfl rfl S H rfl rfl rfl Fsiz3 rfl fun a w S H => ?_)
          dsimp only [List.set, Nat.zero_add, Nat.reduceAdd] at H
          refine gl_nil ?_
          refine n_then ?_
          refine g_seq ?_
          -- region 23 pool.go:142
          refine g_region ?_
          refine wl_of (op_y (wn rfl) rfl rfl S (y_load rfl Fsca23 S H rfl rfl) fun a S => ?_)
          refine wl_of (op_y (wn rfl) rfl rfl S (y_move rfl S rfl) fun a S => ?_)
          refine wl_of (op_y (wn rfl) rfl rfl S (y_load rfl Fsca3 S H rfl rfl) fun a S => ?_)
          refine wl_of (op_y (wn rfl) rfl rfl S (y_iaddrn rfl Try.underlying23 Fsiz3 S H rfl rfl (by first | assumption | omega | (simp only [List.length_append, List.length_take, List.length_drop, List.length_replicate, List.length_set, List.length_map, List.length_cons, List.length_nil]; omega))) fun a S => ?_)
          refine wl_of (op_store1 _ (m + 1) (wn rfl) rfl rfl S H rfl rfl rfl rfl Fsiz3 (by first | assumption | omega | (simp only [List.length_append, List.length_take, List.length_drop, List.length_replicate, List.length_set, List.length_map, List.length_cons, List.length_nil]; omega)) (by exact rfl) fun a w S H => ?_)
          refine gl_nil ?_
          refine n_then ?_
          have S := ((((S.nil.cons S 4 rfl).cons S 8 rfl).cons S 12 rfl).cons S 13 rfl).cons S 15 rfl
          refine g_seq ?_
          -- region 24 pool.go:143
          refine g_region ?_
          refine wl_of (op_y (wn rfl) rfl rfl S (y_move rfl S rfl) fun a S => ?_)
          refine wl_of (op_buildSlice (wn rfl) rfl rfl rfl Try.underlying23 Finf3 S H (idx := [0]) rfl rfl rfl (z := [.int .i64 0]) (by kernel_rfl) (cs := [_]) rfl fun b74 a w S H => ?_)
          have H := H.celQ [i] encN (m := 1) rfl (by simp [encN]) rfl (by omega)
          refine wl_of (op_y (wn rfl) rfl rfl S (y_assign rfl S rfl) fun a S => ?_)
          refine gl_nil ?_
          refine n_then ?_
          refine g_block ?_
          have SU := (((S.nil.cons S 4 rfl).cons S 8 rfl).cons S 12 rfl).cons S 13 rfl
          refine loopW (X := List Nat × List Nat × Value) SU (fun x => [(16, x.2.2)]) (fun x w => Bfs (toS got qs) n out (m + 1) i x.1 x.2.1 ∧ 2 * zeroC x.1 + x.2.1.length ≤ 2 * n + 1 ∧ HSat No w0 [Blk lb (.loop { R with state := .busy }), DefsA (R.defers :: []), OSl 3 (.slice (some ⟨b57, 0, none⟩) n n) 1 encN x.1, Cel b13 3 [.int .i64 (((m + 1) : Nat) : Int)], QSl 3 x.2.2 encN x.2.1, Cel b12 23 [(.slice (some ⟨b57, 0, none⟩) n n)], Cel bi 23 [vo], OSl 3 vo 1 encN order, OSl 23 (.slice (some ⟨b23, 0, none⟩) n n) 1 encRow fs, RowsA 3 1 encN fs, Atom.ro (Cel b8 22 [(.slice (some ⟨b23, 0, none⟩) n n)])] w) (fun x => 2 * zeroC x.1 + x.2.1.length) (out.set i (m + 1), [i], .slice (some ⟨b74, 0, none⟩) 1 1) (S.nil.cons S 16 rfl) (⟨bfs_start hcl.lo (by omega) (by rw [hi]; exact hz0) (by omega), (by have := hzc (out.set i (m + 1)); rw [List.length_set] at this; simp only [List.length_cons, List.length_nil]; omega), H.take [Blk lb (.loop { R with state := .busy }), DefsA (R.defers :: []), OSl 3 (.slice (some ⟨b57, 0, none⟩) n n) 1 encN (out.set i (m + 1)), Cel b13 3 [.int .i64 (((m + 1) : Nat) : Int)], QSl 3 (.slice (some ⟨b74, 0, none⟩) 1 1) encN [i], Cel b12 23 [(.slice (some ⟨b57, 0, none⟩) n n)], Cel bi 23 [vo], OSl 3 vo 1 encN order, OSl 23 (.slice (some ⟨b23, 0, none⟩) n n) 1 encRow fs, RowsA 3 1 encN fs, Atom.ro (Cel b8 22 [(.slice (some ⟨b23, 0, none⟩) n n)])]⟩) (fun x a w S hW => ?_)
          simp only [List.cons_append, List.nil_append] at S
          clear H
          obtain ⟨out1, xs, vq⟩ := x
          obtain ⟨hb, hms0, H⟩ := hW
          dsimp only at S H hb hms0
          refine g_seq ?_
          refine g_seq ?_
          -- region 25 pool.go:143
          refine g_region ?_
          refine wl_of (op_y (wn rfl) rfl rfl S (y_move rfl S rfl) fun a S => ?_)
          refine wl_of (op_y (wn rfl) rfl rfl S (y_lens rfl Try.underlying23 S H rfl) fun a S => ?_)
          refine wl_of (op_y (wn rfl) rfl rfl S (y_bin rfl S rfl rfl rfl) fun a S => ?_)
          refine gl_nil ?_
          refine n_then ?_
          -- cond 5
          refine c_if S rfl (fun h5 => ?_) (fun h5 => ?_)
          · have h5p := h5; try simp only [Option.isNone_some, Option.isNone_none, Option.isSome_some, Option.isSome_none, false_or, or_false, true_and, and_true, decide_eq_true_eq, decide_eq_false_iff_not, Bool.or_eq_true, Bool.and_eq_true, Bool.or_eq_false_iff, Bool.and_eq_false_iff, Bool.not_eq_true', Bool.not_eq_false', bne_iff_ne, beq_iff_eq, beq_eq_false_iff_ne, bne_eq_false_iff_eq, ne_eq, Decidable.not_not, Int.not_lt, Int.not_le, gt_iff_lt, ge_iff_le, Bool.true_eq_false, Bool.false_eq_true, not_true_eq_false, not_false_eq_true] at h5p
            obtain ⟨y, ys, rfl⟩ : ∃ y ys, xs = y :: ys := by cases xs with
              | nil => simp at h5
              | cons y ys => exact ⟨y, ys, rfl⟩
            have hyq := hb.que y (List.mem_cons_self ..)
            have hyn : y < n := hyq.1
            have hyf : y < fs.length := by rw [hfr.len]; exact hyn
            have hfb := hfr.bnd y hyf
            refine g_skip ?_
            refine n_then ?_
            refine g_seq ?_
            refine g_block ?_
            refine g_seq ?_
            -- region 27 DRAWS pool.go:144
            refine region_st (loud := []) (tails := []) (free := []) [0, 1, 2, 3, 4, 5, 6, 7] [] Fmo (by kernel_rfl) (by kernel_rfl) rfl H ?_
            refine m_w rfl rfl (wn rfl) rfl rfl S (fun w H => y_load rfl Fsca22 S H rfl rfl) fun a S => ?_
            refine m_w rfl rfl (wn rfl) rfl rfl S (fun w H => y_move rfl S rfl) fun a S => ?_
            refine m_w rfl rfl (wn rfl) rfl rfl S (fun w H => y_iaddrs rfl Try.underlying23 Fsiz3 S H rfl rfl (by first | assumption | omega | (simp only [List.length_append, List.length_take, List.length_drop, List.length_replicate, List.length_set, List.length_map, List.length_cons, List.length_nil]; omega))) fun a S => ?_
            refine m_loads _ rfl rfl (wn rfl) rfl rfl S rfl Fsca3 rfl (by first | assumption | omega | (simp only [List.length_append, List.length_take, List.length_drop, List.length_replicate, List.length_set, List.length_map, List.length_cons, List.length_nil]; omega)) rfl fun a S => ?_
            have e0 : ((y :: ys)[Int.toNat 0]) = y := rfl
            rw [e0] at S
            refine m_w rfl rfl (wn rfl) rfl rfl S (fun w H => y_iaddrn rfl Try.underlying22 Fsiz23 S H rfl rfl (by first | assumption | omega | (simp only [List.length_append, List.length_take, List.length_drop, List.length_replicate, List.length_set, List.length_map, List.length_cons, List.length_nil]; omega))) fun a S => ?_
            refine m_loads _ rfl rfl (wn rfl) rfl rfl S rfl Fsca23 rfl (by first | assumption | omega | (simp only [List.length_append, List.length_take, List.length_drop, List.length_replicate, List.length_set, List.length_map, List.length_cons, List.length_nil]; omega)) rfl fun a S => ?_
            refine m_w rfl rfl (wn rfl) rfl rfl S (fun w H => y_lens rfl Try.underlying23 S H rfl) fun a S => ?_
            refine m_w rfl rfl (wn rfl) rfl rfl S (fun w H => y_move rfl S rfl) fun a S => ?_
            refine m_nil (fun w H => ?_)
            refine n_then ?_
            refine g_block ?_
            have SU := (((((((((((((S.nil.cons S 4 rfl).cons S 8 rfl).cons S 12 rfl).cons S 13 rfl).cons S 75 rfl).cons S 76 rfl).cons S 77 rfl).cons S 80 rfl).cons S 81 rfl).cons S 82 rfl).cons S 83 rfl).cons S 84 rfl).cons S 85 rfl).cons S 86 rfl
            refine loopW (X := Nat × Value) SU (fun x => [(16, x.2), (87, .int .i64 (x.1 : Int))]) (fun x w => x.1 ≤ fs[y].2.length ∧ ∃ out2 zs, Bfs (toS got qs) n out (m + 1) i out2 (y :: zs) ∧ 2 * zeroC out2 + (y :: zs).length ≤ 2 * zeroC out1 + (y :: ys).length ∧ (∀ p, p < x.1 → (h : p < fs[y].2.length) → 0 < atN out2 fs[y].2[p]) ∧ HSat No w0 [Blk lb (.loop { R with state := .busy }), DefsA (R.defers :: []), OSl 3 (.slice (some ⟨b57, 0, none⟩) n n) 1 encN out2, Cel b13 3 [.int .i64 (((m + 1) : Nat) : Int)], QSl 3 x.2 encN (y :: zs), Cel b12 23 [(.slice (some ⟨b57, 0, none⟩) n n)], Cel bi 23 [vo], OSl 3 vo 1 encN order, OSl 23 (.slice (some ⟨b23, 0, none⟩) n n) 1 encRow fs, RowsA 3 1 encN fs, Atom.ro (Cel b8 22 [(.slice (some ⟨b23, 0, none⟩) n n)])] w) (fun x => fs[y].2.length - x.1) (0, vq) ((S.nil.cons S 87 rfl).cons S 16 rfl) (⟨by simp, out1, ys, hb, Nat.le_refl _, fun p hp => by simp at hp, H⟩) (fun x a w S hW => ?_)
            simp only [List.cons_append, List.nil_append] at S
            clear H
            obtain ⟨q, vq⟩ := x
            obtain ⟨hq, out2, zs, hb2, hms, hpre, H⟩ := hW
            dsimp only at S H hq hpre
            refine g_seq ?_
            -- region 28 pool.go:144
            refine g_region ?_
            refine wl_of (op_y (wn rfl) rfl rfl S (y_bin rfl S rfl rfl rfl) fun a S => ?_)
            refine gl_nil ?_
            refine n_then ?_
            refine g_seq ?_
            -- cond 6
            refine c_if S rfl (fun h6 => ?_) (fun h6 => ?_)
            · have h6p := h6; try simp only [Option.isNone_some, Option.isNone_none, Option.isSome_some, Option.isSome_none, false_or, or_false, true_and, and_true, decide_eq_true_eq, decide_eq_false_iff_not, Bool.or_eq_true, Bool.and_eq_true, Bool.or_eq_false_iff, Bool.and_eq_false_iff, Bool.not_eq_true', Bool.not_eq_false', bne_iff_ne, beq_iff_eq, beq_eq_false_iff_ne, bne_eq_false_iff_eq, ne_eq, Decidable.not_not, Int.not_lt, Int.not_le, gt_iff_lt, ge_iff_le, Bool.true_eq_false, Bool.false_eq_true, not_true_eq_false, not_false_eq_true] at h6p
              have hql2 : q < fs[y].2.length := by omega
              obtain ⟨t, ht⟩ : ∃ t, fs[y].2[q] = t := ⟨_, rfl⟩
              have htm := (hfr.mem y hyf t).1 (by rw [← ht]; exact List.getElem_mem _)
              simp only [List.take_zero, List.not_mem_nil, and_false, or_false] at htm
              have hol2 := hb2.lo
              have hat := atN_eq (l := out2) (i := t) (by omega)
              refine g_skip ?_
              refine n_then ?_
              refine g_seq ?_
              refine g_block ?_
              refine g_seq ?_
              -- region 29 pool.go:144
              refine g_region ?_
              refine wl_of (op_y (wn rfl) rfl rfl S (y_iaddrn rfl Try.underlying23 Fsiz3 S H rfl rfl (by first | assumption | omega | (simp only [List.length_append, List.length_take, List.length_drop, List.length_replicate, List.length_set, List.length_map, List.length_cons, List.length_nil]; omega))) fun a S => ?_)
              refine wl_of (op_y (wn rfl) rfl rfl S (y_loads _ rfl Fsca3 S H rfl (by first | assumption | omega | (simp only [List.length_append, List.length_take, List.length_drop, List.length_replicate, List.length_set, List.length_map, List.length_cons, List.length_nil]; omega)) rfl) fun a S => ?_)
              rw [ht] at S
              refine wl_of (op_y (wn rfl) rfl rfl S (y_assign rfl S rfl) fun a S => ?_)
              refine gl_nil ?_
              refine n_then ?_
              refine g_seq ?_
              -- region 30 pool.go:145
              refine g_region ?_
              refine wl_of (op_y (wn rfl) rfl rfl S (y_load rfl Fsca23 S H rfl rfl) fun a S => ?_)
              refine wl_of (op_y (wn rfl) rfl rfl S (y_move rfl S rfl) fun a S => ?_)
              refine wl_of (op_y (wn rfl) rfl rfl S (y_iaddrn rfl Try.underlying23 Fsiz3 S H rfl rfl (by first | assumption | omega | (simp only [List.length_append, List.length_take, List.length_drop, List.length_replicate, List.length_set, List.length_map, List.length_cons, List.length_nil]; omega))) fun a S => ?_)
              refine wl_of (op_y (wn rfl) rfl rfl S (y_loads _ rfl Fsca3 S H rfl (by first | assumption | omega | (simp only [List.length_append, List.length_take, List.length_drop, List.length_replicate, List.length_set, List.length_map, List.length_cons, List.length_nil]; omega)) rfl) fun a S => ?_)
              refine wl_of (op_y (wn rfl) rfl rfl S (y_bin rfl S rfl rfl rfl) fun a S => ?_)
              refine gl_nil ?_
              refine n_then ?_
              -- cond 7 (both ways go on)
              refine c_if S rfl (fun h7 => ?_) (fun h7 => ?_)
              · have h7p := h7; try simp only [Option.isNone_some, Option.isNone_none, Option.isSome_some, Option.isSome_none, false_or, or_false, true_and, and_true, decide_eq_true_eq, decide_eq_false_iff_not, Bool.or_eq_true, Bool.and_eq_true, Bool.or_eq_false_iff, Bool.and_eq_false_iff, Bool.not_eq_true', Bool.not_eq_false', bne_iff_ne, beq_iff_eq, beq_eq_false_iff_ne, bne_eq_false_iff_eq, ne_eq, Decidable.not_not, Int.not_lt, Int.not_le, gt_iff_lt, ge_iff_le, Bool.true_eq_false, Bool.false_eq_true, not_true_eq_false, not_false_eq_true] at h7p
                have hz : atN out2 t = 0 := by rw [hat]; have := h7p; omega
                have hzs := zero_set (m := m + 1) (show t < out2.length by omega) hz (by omega)
                refine g_seq ?_
                -- region 31 pool.go:146
                refine g_region ?_
                refine wl_of (op_y (wn rfl) rfl rfl S (y_load rfl Fsca23 S H rfl rfl) fun a S => ?_)
                refine wl_of (op_y (wn rfl) rfl rfl S (y_move rfl S rfl) fun a S => ?_)
                refine wl_of (op_y (wn rfl) rfl rfl S (y_load rfl Fsca3 S H rfl rfl) fun a S => ?_)
                refine wl_of (op_y (wn rfl) rfl rfl S (y_iaddrn rfl Try.underlying23 Fsiz3 S H rfl rfl (by first | assumption | omega | (simp only [List.length_append, List.length_take, List.length_drop, List.length_replicate, List.length_set, List.length_map, List.length_cons, List.length_nil]; omega))) fun a S => ?_)
                refine wl_of (op_store1 _ (m + 1) (wn rfl) rfl rfl S H rfl rfl rfl rfl Fsiz3 (by first | assumption | omega | (simp only [List.length_append, List.length_take, List.length_drop, List.length_replicate, List.length_set, List.length_map, List.length_cons, List.length_nil]; omega)) (by exact rfl) fun a w S H => ?_)
                refine gl_nil ?_
                refine n_then ?_
                -- region 32 pool.go:147
                refine g_region ?_
                refine wl_of (op_y (wn rfl) rfl rfl S (y_move rfl S rfl) fun a S => ?_)
                refine wl_of (op_y (wn rfl) rfl rfl S (y_move rfl S rfl) fun a S => ?_)
                refine wl_of (op_buildSlice (wn rfl) rfl rfl rfl Try.underlying23 Finf3 S H (idx := [0]) rfl rfl rfl (z := [.int .i64 0]) (by kernel_rfl) (cs := [_]) rfl fun b102 a w S H => ?_)
                refine wl_of (op_appendQ (t) (wn rfl) rfl rfl rfl Try.underlying23 Finf3 rfl S H rfl rfl rfl rfl (by simp [encN, Value.oneCell']) (by simp only [List.length_cons] at hms hms0 ⊢; omega) (by simp only [List.length_cons] at hms hms0 ⊢; omega) fun u103 a w S H => ?_)
                refine wl_of (op_y (wn rfl) rfl rfl S (y_assign rfl S rfl) fun a S => ?_)
                refine gl_nil ?_
                refine n_block ?_
                refine n_then ?_
                -- region 33 pool.go:144
                refine g_region ?_
                refine wl_of (op_y (wn rfl) rfl rfl S (y_add rfl S rfl rfl (by omega)) fun a S => ?_)
                refine wl_of (op_y (wn rfl) rfl rfl S (y_move rfl S rfl) fun a S => ?_)
                refine gl_nil ?_
                refine n_then ?_
                first
                | exact ⟨(q + 1, vq), (S.nil.cons S 87 rfl).cons S 16 rfl, (((((((((((((S.nil.cons S 4 rfl).cons S 8 rfl).cons S 12 rfl).cons S 13 rfl).cons S 75 rfl).cons S 76 rfl).cons S 77 rfl).cons S 80 rfl).cons S 81 rfl).cons S 82 rfl).cons S 83 rfl).cons S 84 rfl).cons S 85 rfl).cons S 86 rfl, ⟨by dsimp only; omega, out2, zs, hb2, hms, fun p hp hl => by by_cases hpq : p < q; exact hpre p hpq hl; (obtain rfl : p = q := by dsimp only at hp; omega); rw [ht]; exact hz, H⟩, by dsimp only; omega⟩
                | exact ⟨(q + 1, u103), (S.nil.cons S 87 rfl).cons S 16 rfl, (((((((((((((S.nil.cons S 4 rfl).cons S 8 rfl).cons S 12 rfl).cons S 13 rfl).cons S 75 rfl).cons S 76 rfl).cons S 77 rfl).cons S 80 rfl).cons S 81 rfl).cons S 82 rfl).cons S 83 rfl).cons S 84 rfl).cons S 85 rfl).cons S 86 rfl, ⟨by dsimp only; omega, out2.set t (m + 1), zs ++ [t], bfs_add hb2 htm.1 (List.mem_cons_self ..) htm.2 hz (by omega), by simp only [List.length_cons, List.length_append, List.length_nil] at hms ⊢; omega, fun p hp hl => by rw [atN_set _ (by omega)]; split; omega; by_cases hpq : p < q; exact hpre p hpq hl; (obtain rfl : p = q := by dsimp only at hp; omega); exact absurd ht (by assumption), H.take [Blk lb (.loop { R with state := .busy }), DefsA (R.defers :: []), OSl 3 (.slice (some ⟨b57, 0, none⟩) n n) 1 encN (out2.set t (m + 1)), Cel b13 3 [.int .i64 (((m + 1) : Nat) : Int)], QSl 3 u103 encN (y :: zs ++ [t]), Cel b12 23 [(.slice (some ⟨b57, 0, none⟩) n n)], Cel bi 23 [vo], OSl 3 vo 1 encN order, OSl 23 (.slice (some ⟨b23, 0, none⟩) n n) 1 encRow fs, RowsA 3 1 encN fs, Atom.ro (Cel b8 22 [(.slice (some ⟨b23, 0, none⟩) n n)])]⟩, by dsimp only; omega⟩
              · have h7p := h7; try simp only [Option.isNone_some, Option.isNone_none, Option.isSome_some, Option.isSome_none, false_or, or_false, true_and, and_true, decide_eq_true_eq, decide_eq_false_iff_not, Bool.or_eq_true, Bool.and_eq_true, Bool.or_eq_false_iff, Bool.and_eq_false_iff, Bool.not_eq_true', Bool.not_eq_false', bne_iff_ne, beq_iff_eq, beq_eq_false_iff_ne, bne_eq_false_iff_eq, ne_eq, Decidable.not_not, Int.not_lt, Int.not_le, gt_iff_lt, ge_iff_le, Bool.true_eq_false, Bool.false_eq_true, not_true_eq_false, not_false_eq_true] at h7p
                have hz : 0 < atN out2 t := by rw [hat]; have := h7p; omega
                refine g_skip ?_
                refine n_block ?_
                refine n_then ?_
                -- region 33 pool.go:144
                refine g_region ?_
                refine wl_of (op_y (wn rfl) rfl rfl S (y_add rfl S rfl rfl (by omega)) fun a S => ?_)
                refine wl_of (op_y (wn rfl) rfl rfl S (y_move rfl S rfl) fun a S => ?_)
                refine gl_nil ?_
                refine n_then ?_
                first
                | exact ⟨(q + 1, vq), (S.nil.cons S 87 rfl).cons S 16 rfl, (((((((((((((S.nil.cons S 4 rfl).cons S 8 rfl).cons S 12 rfl).cons S 13 rfl).cons S 75 rfl).cons S 76 rfl).cons S 77 rfl).cons S 80 rfl).cons S 81 rfl).cons S 82 rfl).cons S 83 rfl).cons S 84 rfl).cons S 85 rfl).cons S 86 rfl, ⟨by dsimp only; omega, out2, zs, hb2, hms, fun p hp hl => by by_cases hpq : p < q; exact hpre p hpq hl; (obtain rfl : p = q := by dsimp only at hp; omega); rw [ht]; exact hz, H⟩, by dsimp only; omega⟩
                | exact ⟨(q + 1, u103), (S.nil.cons S 87 rfl).cons S 16 rfl, (((((((((((((S.nil.cons S 4 rfl).cons S 8 rfl).cons S 12 rfl).cons S 13 rfl).cons S 75 rfl).cons S 76 rfl).cons S 77 rfl).cons S 80 rfl).cons S 81 rfl).cons S 82 rfl).cons S 83 rfl).cons S 84 rfl).cons S 85 rfl).cons S 86 rfl, ⟨by dsimp only; omega, out2.set t (m + 1), zs ++ [t], bfs_add hb2 htm.1 (List.mem_cons_self ..) htm.2 hz (by omega), by simp only [List.length_cons, List.length_append, List.length_nil] at hms ⊢; omega, fun p hp hl => by rw [atN_set _ (by omega)]; split; omega; by_cases hpq : p < q; exact hpre p hpq hl; (obtain rfl : p = q := by dsimp only at hp; omega); exact absurd ht (by assumption), H.take [Blk lb (.loop { R with state := .busy }), DefsA (R.defers :: []), OSl 3 (.slice (some ⟨b57, 0, none⟩) n n) 1 encN (out2.set t (m + 1)), Cel b13 3 [.int .i64 (((m + 1) : Nat) : Int)], QSl 3 u103 encN (y :: zs ++ [t]), Cel b12 23 [(.slice (some ⟨b57, 0, none⟩) n n)], Cel bi 23 [vo], OSl 3 vo 1 encN order, OSl 23 (.slice (some ⟨b23, 0, none⟩) n n) 1 encRow fs, RowsA 3 1 encN fs, Atom.ro (Cel b8 22 [(.slice (some ⟨b23, 0, none⟩) n n)])]⟩, by dsimp only; omega⟩
            · have h6p := h6; try simp only [Option.isNone_some, Option.isNone_none, Option.isSome_some, Option.isSome_none, false_or, or_false, true_and, and_true, decide_eq_true_eq, decide_eq_false_iff_not, Bool.or_eq_true, Bool.and_eq_true, Bool.or_eq_false_iff, Bool.and_eq_false_iff, Bool.not_eq_true', Bool.not_eq_false', bne_iff_ne, beq_iff_eq, beq_eq_false_iff_ne, bne_eq_false_iff_eq, ne_eq, Decidable.not_not, Int.not_lt, Int.not_le, gt_iff_lt, ge_iff_le, Bool.true_eq_false, Bool.false_eq_true, not_true_eq_false, not_false_eq_true] at h6p
              refine g_exit ?_
              refine x_then (x_then (x_eq ?_))
              refine n_block ?_
              refine n_then ?_
              -- region 26 pool.go:143
              refine g_region ?_
              refine wl_of (op_y (wn rfl) rfl rfl S (y_move rfl S rfl) fun a S => ?_)
              refine wl_of (op_y (wn rfl) rfl rfl S (y_sliceL rfl Try.underlying23 Fsiz3 S H rfl rfl (by first | assumption | omega | (simp only [List.length_append, List.length_take, List.length_drop, List.length_replicate, List.length_set, List.length_map, List.length_cons, List.length_nil]; omega))) fun a S => ?_)
              have H := (H.front (QSl 3 vq encN (y :: zs))).cutQ 1 (by simp)
              refine wl_of (op_y (wn rfl) rfl rfl S (y_assign rfl S rfl) fun a S => ?_)
              refine gl_nil ?_
              refine n_then ?_
              refine ⟨(out2, zs, _), S.nil.cons S 16 rfl, (((S.nil.cons S 4 rfl).cons S 8 rfl).cons S 12 rfl).cons S 13 rfl, ⟨bfs_next hb2 (fun x hx hyx => ?_), by dsimp only; simp only [List.length_cons] at hms hms0; omega, H.take [Blk lb (.loop { R with state := .busy }), DefsA (R.defers :: []), OSl 3 (.slice (some ⟨b57, 0, none⟩) n n) 1 encN out2, Cel b13 3 [.int .i64 (((m + 1) : Nat) : Int)], QSl 3 (subV vq 1 (y :: zs).length 1) encN ((y :: zs).drop 1), Cel b12 23 [(.slice (some ⟨b57, 0, none⟩) n n)], Cel bi 23 [vo], OSl 3 vo 1 encN order, OSl 23 (.slice (some ⟨b23, 0, none⟩) n n) 1 encRow fs, RowsA 3 1 encN fs, Atom.ro (Cel b8 22 [(.slice (some ⟨b23, 0, none⟩) n n)])]⟩, by dsimp only; simp only [List.length_cons] at hms ⊢; omega⟩
              obtain ⟨p, hp, rfl⟩ := List.getElem_of_mem ((hfr.mem y hyf x).2 (.inl ⟨hx, hyx⟩))
              exact hpre p (by omega) hp
          · have h5p := h5; try simp only [Option.isNone_some, Option.isNone_none, Option.isSome_some, Option.isSome_none, false_or, or_false, true_and, and_true, decide_eq_true_eq, decide_eq_false_iff_not, Bool.or_eq_true, Bool.and_eq_true, Bool.or_eq_false_iff, Bool.and_eq_false_iff, Bool.not_eq_true', Bool.not_eq_false', bne_iff_ne, beq_iff_eq, beq_eq_false_iff_ne, bne_eq_false_iff_eq, ne_eq, Decidable.not_not, Int.not_lt, Int.not_le, gt_iff_lt, ge_iff_le, Bool.true_eq_false, Bool.false_eq_true, not_true_eq_false, not_false_eq_true] at h5p
            obtain rfl : xs = [] := by cases xs with
              | nil => rfl
              | cons y ys => simp at h5
            refine g_exit ?_
            refine x_then (x_then (x_eq ?_))
            refine n_block ?_
            refine r_end hrec H (fun w H => ?_)
            first
            | exact ⟨rfl, out, m, cls_skip hcl hk hpos, H.take [Blk lb (.loop R), DefsA (R.defers :: []), OSl 3 (.slice (some ⟨b57, 0, none⟩) n n) 1 encN out, Cel b13 3 [.int .i64 ((m : Nat) : Int)], Cel b12 23 [(.slice (some ⟨b57, 0, none⟩) n n)], Cel bi 23 [vo], OSl 3 vo 1 encN order, OSl 23 (.slice (some ⟨b23, 0, none⟩) n n) 1 encRow fs, RowsA 3 1 encN fs, Atom.ro (Cel b8 22 [(.slice (some ⟨b23, 0, none⟩) n n)])]⟩
            | exact ⟨rfl, out1, m + 1, cls_end hto hp hk hcl hz0 (by rw [← hi]; exact hb), H.take [Blk lb (.loop R), DefsA (R.defers :: []), OSl 3 (.slice (some ⟨b57, 0, none⟩) n n) 1 encN out1, Cel b13 3 [.int .i64 (((m + 1) : Nat) : Int)], Cel b12 23 [(.slice (some ⟨b57, 0, none⟩) n n)], Cel bi 23 [vo], OSl 3 vo 1 encN order, OSl 23 (.slice (some ⟨b23, 0, none⟩) n n) 1 encRow fs, RowsA 3 1 encN fs, Atom.ro (Cel b8 22 [(.slice (some ⟨b23, 0, none⟩) n n)])]⟩
      · rintro _ w2 ⟨out, m, hcl, H2⟩
        exact ⟨.ready, none, _, by simp, ⟨rfl, out, m, hcl, rfl⟩, by rw [hrec.same]; exact H2⟩
    · intro bd a w pend l2 S H hΦ
      obtain ⟨rfl, out, m, hcl, rfl⟩ := hΦ
      refine n_block ?_
      refine n_then ?_
      refine g_seq ?_
      -- region 34 pool.go:152
      refine g_region ?_
      refine wl_of (op_y (wn rfl) rfl rfl S (y_load rfl Fsca23 S H rfl rfl) fun a S => ?_)
      refine wl_of (op_y (wn rfl) rfl rfl S (y_assign rfl S rfl) fun a S => ?_)
      refine gl_nil ?_
      refine n_then ?_
      have S := S.nil.cons S 4 rfl
      refine g_ret ?_
      refine ret1M rfl S H rfl (fun w H => ?_)
      exact ⟨out, H.take [OSl 3 (.slice (some ⟨b57, 0, none⟩) n n) 1 encN out], hcl.lo, cls_all hp hcl⟩

end Go.Proofs.Ytoghkehlmibniaa
