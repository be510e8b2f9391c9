/- The walks. No condition. -/
import Derived.Test.YtaiohhcjbdjgfaaChecked
import Derived.Test.YtaiohhcjbdjgfaaGwCut
import Derived.Test.YtaiohhcjbdjgfaaFacts
import Derived.Test.YtaiohhcjbdjgfaaPlain
import Derived.Test.YtaiohhcjbdjgfaaPlainB
import Derived.Test.YtaiohhcjbdjgfaaW6
namespace Go.Proofs.Ytaiohhcjbdjgfaa
open Go Go.Gw
set_option linter.unusedVariables false
set_option linter.unusedSimpArgs false

theorem match_okI (v : Value) (ps : List (Value × List Int)) (right : Int) (w0 : World) (hv : IsSl w0 v 1 encRow ps) (hr : ∀ p ∈ ps, IsSl w0 p.1 1 encI p.2) (hvg : validG (gr ps) right = true) : Ret Try.prog 15 #[v, .int .i64 right] w0 (fun u w => ∃ vg vl vr, u = .tuple #[vg, .agg #[vl, vr], .int .i64 0] ∧ HSat No w0 [OSl 3 vg 1 encI (gotL (gr ps) right), OSl 3 vl 1 encI (leftL (gr ps) right), OSl 3 vr 1 encI (rightL (gr ps) right)] w) := by
  obtain ⟨r, rfl⟩ : ∃ r : Nat, right = r := ⟨right.toNat, by have := validG_parts hvg; omega⟩
  exact match_ok v ps r w0 hv hr hvg
set_option maxHeartbeats 1000000 in
/-- foyer/foyerref40.Neighbours -/
theorem neighbours_spec (v : Value) (ps : List (Value × List Int)) (right : Int) (v2 : Value) (set : List Int) (w0 : World) (hv : IsSl w0 v 1 encRow ps) (hr : ∀ p ∈ ps, IsSl w0 p.1 1 encI p.2) (hs : IsSl w0 v2 1 encI set) (hvg : validG (gr ps) right = true) (hin : ∀ i ∈ set, 0 ≤ i ∧ i < ps.length) :
    Ret Try.prog 21 #[v, v2] w0 (fun u w => u = .int .i64 ((nbL (gr ps) [] set).length : Int) ∧ Ext w0 w) := by
  refine ret_of_wp (nt := 44) Try.func21 rfl rfl rfl (fl := [(0, v), (1, v2)]) rfl (fun a S => ?_)
  have H := HSat.start w0
  have H := H.ro0 (Sl v 1 encRow ps) rfl (hv)
  have H := H.ro0 (RowsS 1 encI ps) rfl (hr)
  have H := H.ro0 (Sl v2 1 encI set) rfl (hs)
  have hl := hv.len
  have hls := hs.len
  have hvp := validG_parts hvg
  refine g_seq ?_
  -- region 0 ref.go:97
  refine g_region ?_
  refine wl_of (op_y (wn rfl) rfl rfl S (y_assign rfl S rfl) fun a S => ?_)
  refine gl_nil ?_
  refine n_then ?_
  refine g_seq ?_
  -- region 1 ref.go:98
  refine g_region ?_
  refine wl_of (op_y (wn rfl) rfl rfl S (y_assign rfl S rfl) fun a S => ?_)
  refine gl_nil ?_
  refine n_then ?_
  refine g_seq ?_
  refine g_seq ?_
  -- region 2 ref.go:99
  refine g_region ?_
  refine wl_of (op_y (wn rfl) rfl rfl S (y_assign rfl S rfl) fun a S => ?_)
  refine gl_nil ?_
  refine n_then ?_
  refine g_block ?_
  have H := H.nilO 3 1 encI
  have SU := ((S.nil.cons S 1 rfl).cons S 0 rfl).cons S 4 rfl
  refine loopW (X := Nat × Value) SU (fun x => [(5, x.2), (6, .int .i64 (x.1 : Int))]) (fun x w => x.1 ≤ set.length ∧ ∃ out, nbL (gr ps) [] set = nbL (gr ps) out (set.drop x.1) ∧ out.Nodup ∧ (∀ n ∈ out, 0 ≤ n ∧ n < right) ∧ HSat No w0 [OSl 3 x.2 1 encI out, Sl v2 1 encI set, RowsS 1 encI ps, Sl v 1 encRow ps] w) (fun x => set.length - x.1) (0, .slice none 0 0) ((S.nil.cons S 6 rfl).cons S 5 rfl) (⟨by simp, [], rfl, List.nodup_nil, fun n h => (by cases h), H.take [OSl 3 (.slice none 0 0) 1 encI [], Sl v2 1 encI set, RowsS 1 encI ps, Sl v 1 encRow ps]⟩) (fun x a w S hW => ?_)
  simp only [List.cons_append, List.nil_append] at S
  obtain ⟨k, vo⟩ := x
  obtain ⟨hk, out, hnb, ho2, ho3, H⟩ := hW
  dsimp only at S H hk hnb
  refine g_seq ?_
  refine g_seq ?_
  -- region 3 ref.go:99
  refine g_region ?_
  refine wl_of (op_y (wn rfl) rfl rfl S (y_move rfl S rfl) fun a S => ?_)
  refine wl_of (op_y (wn rfl) rfl rfl S (y_move rfl S rfl) fun a S => ?_)
  refine wl_of (op_y (wn rfl) rfl rfl S (y_lens rfl Try.underlying23 S H rfl) fun a S => ?_)
  refine wl_of (op_y (wn rfl) rfl rfl S (y_bin rfl S rfl rfl rfl) fun a S => ?_)
  refine gl_nil ?_
  refine n_then ?_
  -- cond 1
  refine c_if S rfl (fun h1 => ?_) (fun h1 => ?_)
  · have h1p := h1; try simp only [Option.isNone_some, Option.isNone_none, Option.isSome_some, Option.isSome_none, false_or, or_false, true_and, and_true, decide_eq_true_eq, decide_eq_false_iff_not, Bool.or_eq_true, Bool.and_eq_true, Bool.or_eq_false_iff, Bool.and_eq_false_iff, Bool.not_eq_true', Bool.not_eq_false', bne_iff_ne, beq_iff_eq, beq_eq_false_iff_ne, bne_eq_false_iff_eq, ne_eq, Decidable.not_not, Int.not_lt, Int.not_le, gt_iff_lt, ge_iff_le, Bool.true_eq_false, Bool.false_eq_true, not_true_eq_false, not_false_eq_true] at h1p
    have hkl : k < set.length := by omega
    obtain ⟨i, hi⟩ : ∃ i : Nat, set[k] = i := ⟨set[k].toNat, by have := hin _ (List.getElem_mem hkl); omega⟩
    have hip : i < ps.length := by have := hin _ (List.getElem_mem hkl); omega
    have hrl := (hr _ (List.getElem_mem hip)).len
    have hrw := gr_row ps hip
    have hsd : set.drop k = (i : Int) :: set.drop (k + 1) := by rw [List.drop_eq_getElem_cons hkl, hi]
    refine g_skip ?_
    refine n_then ?_
    refine g_seq ?_
    refine g_block ?_
    refine g_seq ?_
    -- region 5 ref.go:100
    refine g_region ?_
    refine wl_of (op_y (wn rfl) rfl rfl S (y_move rfl S rfl) fun a S => ?_)
    refine wl_of (op_y (wn rfl) rfl rfl S (y_move rfl S rfl) fun a S => ?_)
    refine wl_of (op_y (wn rfl) rfl rfl S (y_move rfl S rfl) fun a S => ?_)
    refine wl_of (op_y (wn rfl) rfl rfl S (y_iaddrn rfl Try.underlying23 Fsiz3 S H rfl rfl (by first | assumption | omega | (simp only [List.length_append, List.length_take, List.length_drop, List.length_replicate, List.length_set, List.length_map, List.length_cons, List.length_nil]; omega))) fun a S => ?_)
    refine wl_of (op_y (wn rfl) rfl rfl S (y_loads _ rfl Fsca3 S H rfl (by first | assumption | omega | (simp only [List.length_append, List.length_take, List.length_drop, List.length_replicate, List.length_set, List.length_map, List.length_cons, List.length_nil]; omega)) rfl) fun a S => ?_)
    rw [hi] at S
    refine wl_of (op_y (wn rfl) rfl rfl S (y_iaddrn rfl Try.underlying22 Fsiz23 S H rfl rfl (by first | assumption | omega | (simp only [List.length_append, List.length_take, List.length_drop, List.length_replicate, List.length_set, List.length_map, List.length_cons, List.length_nil]; omega))) fun a S => ?_)
    refine wl_of (op_y (wn rfl) rfl rfl S (y_loads _ rfl Fsca23 S H rfl (by first | assumption | omega | (simp only [List.length_append, List.length_take, List.length_drop, List.length_replicate, List.length_set, List.length_map, List.length_cons, List.length_nil]; omega)) rfl) fun a S => ?_)
    refine wl_of (op_y (wn rfl) rfl rfl S (y_assign rfl S rfl) fun a S => ?_)
    refine gl_nil ?_
    refine n_then ?_
    refine g_seq ?_
    -- region 6 ref.go:101
    refine g_region ?_
    refine wl_of (op_y (wn rfl) rfl rfl S (y_assign rfl S rfl) fun a S => ?_)
    refine gl_nil ?_
    refine n_then ?_
    refine g_block ?_
    have SU := (((((((((((((((S.nil.cons S 1 rfl).cons S 0 rfl).cons S 4 rfl).cons S 6 rfl).cons S 9 rfl).cons S 10 rfl).cons S 11 rfl).cons S 12 rfl).cons S 15 rfl).cons S 16 rfl).cons S 17 rfl).cons S 18 rfl).cons S 19 rfl).cons S 20 rfl).cons S 21 rfl).cons S 7 rfl
    refine loopW (X := Nat × Value) SU (fun x => [(5, x.2), (8, .int .i64 (x.1 : Int))]) (fun x w => x.1 ≤ ps[i].2.length ∧ ∃ out2, addNew out ps[i].2 = addNew out2 (ps[i].2.drop x.1) ∧ out2.Nodup ∧ (∀ n ∈ out2, 0 ≤ n ∧ n < right) ∧ HSat No w0 [OSl 3 x.2 1 encI out2, Sl v2 1 encI set, RowsS 1 encI ps, Sl v 1 encRow ps] w) (fun x => ps[i].2.length - x.1) (0, vo) ((S.nil.cons S 8 rfl).cons S 5 rfl) (⟨by simp, out, rfl, ho2, ho3, H⟩) (fun x a w S hW => ?_)
    simp only [List.cons_append, List.nil_append] at S
    clear ho2 ho3 H
    obtain ⟨q, vo⟩ := x
    obtain ⟨hq, out2, hadd, ho2, ho3, H⟩ := hW
    dsimp only at S H hq hadd
    refine g_seq ?_
    refine g_seq ?_
    -- region 7 ref.go:101
    refine g_region ?_
    refine wl_of (op_y (wn rfl) rfl rfl S (y_move rfl S rfl) fun a S => ?_)
    refine wl_of (op_y (wn rfl) rfl rfl S (y_move rfl S rfl) fun a S => ?_)
    refine wl_of (op_y (wn rfl) rfl rfl S (y_lens rfl Try.underlying23 S H rfl) fun a S => ?_)
    refine wl_of (op_y (wn rfl) rfl rfl S (y_bin rfl S rfl rfl rfl) fun a S => ?_)
    refine gl_nil ?_
    refine n_then ?_
    -- cond 2
    refine c_if S rfl (fun h2 => ?_) (fun h2 => ?_)
    · have h2p := h2; try simp only [Option.isNone_some, Option.isNone_none, Option.isSome_some, Option.isSome_none, false_or, or_false, true_and, and_true, decide_eq_true_eq, decide_eq_false_iff_not, Bool.or_eq_true, Bool.and_eq_true, Bool.or_eq_false_iff, Bool.and_eq_false_iff, Bool.not_eq_true', Bool.not_eq_false', bne_iff_ne, beq_iff_eq, beq_eq_false_iff_ne, bne_eq_false_iff_eq, ne_eq, Decidable.not_not, Int.not_lt, Int.not_le, gt_iff_lt, ge_iff_le, Bool.true_eq_false, Bool.false_eq_true, not_true_eq_false, not_false_eq_true] at h2p
      have hql : q < ps[i].2.length := by omega
      have hrd : ps[i].2.drop q = ps[i].2[q] :: ps[i].2.drop (q + 1) := List.drop_eq_getElem_cons hql
      have hnr : 0 ≤ ps[i].2[q] ∧ ps[i].2[q] < right := hvp.2.2.2 i _ (by rw [hrw]; exact List.getElem_mem _)
      have hol := nodup_rng ho2 ho3
      refine g_skip ?_
      refine n_then ?_
      refine g_seq ?_
      refine g_block ?_
      refine g_seq ?_
      -- region 9 ref.go:102
      refine g_region ?_
      refine wl_of (op_y (wn rfl) rfl rfl S (y_move rfl S rfl) fun a S => ?_)
      refine wl_of (op_y (wn rfl) rfl rfl S (y_move rfl S rfl) fun a S => ?_)
      refine wl_of (op_y (wn rfl) rfl rfl S (y_move rfl S rfl) fun a S => ?_)
      refine wl_of (op_y (wn rfl) rfl rfl S (y_iaddrn rfl Try.underlying23 Fsiz3 S H rfl rfl (by first | assumption | omega | (simp only [List.length_append, List.length_take, List.length_drop, List.length_replicate, List.length_set, List.length_map, List.length_cons, List.length_nil]; omega))) fun a S => ?_)
      refine wl_of (op_y (wn rfl) rfl rfl S (y_loads _ rfl Fsca3 S H rfl (by first | assumption | omega | (simp only [List.length_append, List.length_take, List.length_drop, List.length_replicate, List.length_set, List.length_map, List.length_cons, List.length_nil]; omega)) rfl) fun a S => ?_)
      refine wl_of (op_call (wn rfl) rfl rfl S (co_func rfl Try.call20 S rfl) (in_spec vo out2 ps[i].2[q] _ (H.sl _)) fun v w hc a S => ?_)
      obtain ⟨rfl, he⟩ := hc
      have H := H.ext he
      refine wl_of (op_y (wn rfl) rfl rfl S (y_not rfl S rfl) fun a S => ?_)
      refine gl_nil ?_
      refine n_then ?_
      -- cond 3 (both ways go on)
      refine c_if S rfl (fun h3 => ?_) (fun h3 => ?_)
      · have h3p := h3; try simp only [Option.isNone_some, Option.isNone_none, Option.isSome_some, Option.isSome_none, false_or, or_false, true_and, and_true, decide_eq_true_eq, decide_eq_false_iff_not, Bool.or_eq_true, Bool.and_eq_true, Bool.or_eq_false_iff, Bool.and_eq_false_iff, Bool.not_eq_true', Bool.not_eq_false', bne_iff_ne, beq_iff_eq, beq_eq_false_iff_ne, bne_eq_false_iff_eq, ne_eq, Decidable.not_not, Int.not_lt, Int.not_le, gt_iff_lt, ge_iff_le, Bool.true_eq_false, Bool.false_eq_true, not_true_eq_false, not_false_eq_true] at h3p
        -- region 10 ref.go:103
        refine g_region ?_
        refine wl_of (op_y (wn rfl) rfl rfl S (y_move rfl S rfl) fun a S => ?_)
        refine wl_of (op_y (wn rfl) rfl rfl S (y_move rfl S rfl) fun a S => ?_)
        refine wl_of (op_y (wn rfl) rfl rfl S (y_move rfl S rfl) fun a S => ?_)
        refine wl_of (op_y (wn rfl) rfl rfl S (y_iaddrn rfl Try.underlying23 Fsiz3 S H rfl rfl (by first | assumption | omega | (simp only [List.length_append, List.length_take, List.length_drop, List.length_replicate, List.length_set, List.length_map, List.length_cons, List.length_nil]; omega))) fun a S => ?_)
        refine wl_of (op_y (wn rfl) rfl rfl S (y_loads _ rfl Fsca3 S H rfl (by first | assumption | omega | (simp only [List.length_append, List.length_take, List.length_drop, List.length_replicate, List.length_set, List.length_map, List.length_cons, List.length_nil]; omega)) rfl) fun a S => ?_)
        refine wl_of (op_buildSlice (wn rfl) rfl rfl rfl Try.underlying23 Finf3 S H (idx := [0]) rfl rfl rfl (z := [.int .i64 0]) (by kernel_rfl) (cs := [_]) rfl fun b40 a w S H => ?_)
        refine wl_of (op_append ([ps[i].2[q]]) (wn rfl) rfl rfl rfl Try.underlying23 Finf3 rfl rfl S H rfl rfl rfl rfl (by simp) (by simp [encI]) (by simp [encI, Value.oneCell']) (by simp only [List.length_cons, List.length_nil]; omega) (by simp only [List.length_cons, List.length_nil]; omega) fun u41 a w hn41 S H => ?_)
        refine wl_of (op_y (wn rfl) rfl rfl S (y_assign rfl S rfl) fun a S => ?_)
        refine gl_nil ?_
        refine n_block ?_
        refine n_then ?_
        -- region 8 ref.go:101
        refine g_region ?_
        refine wl_of (op_y (wn rfl) rfl rfl S (y_move rfl S rfl) fun a S => ?_)
        refine wl_of (op_y (wn rfl) rfl rfl S (y_add rfl S rfl rfl (by omega)) fun a S => ?_)
        refine wl_of (op_y (wn rfl) rfl rfl S (y_assign rfl S rfl) fun a S => ?_)
        refine gl_nil ?_
        refine n_then ?_
        first
        | (have hx : ps[i].2[q] ∈ out2 := by simpa using h3
           exact ⟨(q + 1, vo), (S.nil.cons S 8 rfl).cons S 5 rfl, (((((((((((((((S.nil.cons S 1 rfl).cons S 0 rfl).cons S 4 rfl).cons S 6 rfl).cons S 9 rfl).cons S 10 rfl).cons S 11 rfl).cons S 12 rfl).cons S 15 rfl).cons S 16 rfl).cons S 17 rfl).cons S 18 rfl).cons S 19 rfl).cons S 20 rfl).cons S 21 rfl).cons S 7 rfl, ⟨by dsimp only; omega, out2, by rw [hadd, hrd, addNew, if_pos hx], ho2, ho3, H⟩, by dsimp only; omega⟩)
        | (have hx : ps[i].2[q] ∉ out2 := by simpa using h3
           exact ⟨(q + 1, u41), (S.nil.cons S 8 rfl).cons S 5 rfl, (((((((((((((((S.nil.cons S 1 rfl).cons S 0 rfl).cons S 4 rfl).cons S 6 rfl).cons S 9 rfl).cons S 10 rfl).cons S 11 rfl).cons S 12 rfl).cons S 15 rfl).cons S 16 rfl).cons S 17 rfl).cons S 18 rfl).cons S 19 rfl).cons S 20 rfl).cons S 21 rfl).cons S 7 rfl, ⟨by dsimp only; omega, out2 ++ [ps[i].2[q]], by rw [hadd, hrd, addNew, if_neg hx], by rw [List.nodup_append]; exact ⟨ho2, by simp, fun a ha b hb e => by simp at hb; subst hb; subst e; exact hx ha⟩, fun n hn => by rcases List.mem_append.1 hn with h | h; exact ho3 n h; simp at h; subst h; exact hnr, H.take [OSl 3 u41 1 encI (out2 ++ [ps[i].2[q]]), Sl v2 1 encI set, RowsS 1 encI ps, Sl v 1 encRow ps]⟩, by dsimp only; omega⟩)
      · have h3p := h3; try simp only [Option.isNone_some, Option.isNone_none, Option.isSome_some, Option.isSome_none, false_or, or_false, true_and, and_true, decide_eq_true_eq, decide_eq_false_iff_not, Bool.or_eq_true, Bool.and_eq_true, Bool.or_eq_false_iff, Bool.and_eq_false_iff, Bool.not_eq_true', Bool.not_eq_false', bne_iff_ne, beq_iff_eq, beq_eq_false_iff_ne, bne_eq_false_iff_eq, ne_eq, Decidable.not_not, Int.not_lt, Int.not_le, gt_iff_lt, ge_iff_le, Bool.true_eq_false, Bool.false_eq_true, not_true_eq_false, not_false_eq_true] at h3p
        refine g_skip ?_
        refine n_block ?_
        refine n_then ?_
        -- region 8 ref.go:101
        refine g_region ?_
        refine wl_of (op_y (wn rfl) rfl rfl S (y_move rfl S rfl) fun a S => ?_)
        refine wl_of (op_y (wn rfl) rfl rfl S (y_add rfl S rfl rfl (by omega)) fun a S => ?_)
        refine wl_of (op_y (wn rfl) rfl rfl S (y_assign rfl S rfl) fun a S => ?_)
        refine gl_nil ?_
        refine n_then ?_
        first
        | (have hx : ps[i].2[q] ∈ out2 := by simpa using h3
           exact ⟨(q + 1, vo), (S.nil.cons S 8 rfl).cons S 5 rfl, (((((((((((((((S.nil.cons S 1 rfl).cons S 0 rfl).cons S 4 rfl).cons S 6 rfl).cons S 9 rfl).cons S 10 rfl).cons S 11 rfl).cons S 12 rfl).cons S 15 rfl).cons S 16 rfl).cons S 17 rfl).cons S 18 rfl).cons S 19 rfl).cons S 20 rfl).cons S 21 rfl).cons S 7 rfl, ⟨by dsimp only; omega, out2, by rw [hadd, hrd, addNew, if_pos hx], ho2, ho3, H⟩, by dsimp only; omega⟩)
        | (have hx : ps[i].2[q] ∉ out2 := by simpa using h3
           exact ⟨(q + 1, u41), (S.nil.cons S 8 rfl).cons S 5 rfl, (((((((((((((((S.nil.cons S 1 rfl).cons S 0 rfl).cons S 4 rfl).cons S 6 rfl).cons S 9 rfl).cons S 10 rfl).cons S 11 rfl).cons S 12 rfl).cons S 15 rfl).cons S 16 rfl).cons S 17 rfl).cons S 18 rfl).cons S 19 rfl).cons S 20 rfl).cons S 21 rfl).cons S 7 rfl, ⟨by dsimp only; omega, out2 ++ [ps[i].2[q]], by rw [hadd, hrd, addNew, if_neg hx], by rw [List.nodup_append]; exact ⟨ho2, by simp, fun a ha b hb e => by simp at hb; subst hb; subst e; exact hx ha⟩, fun n hn => by rcases List.mem_append.1 hn with h | h; exact ho3 n h; simp at h; subst h; exact hnr, H.take [OSl 3 u41 1 encI (out2 ++ [ps[i].2[q]]), Sl v2 1 encI set, RowsS 1 encI ps, Sl v 1 encRow ps]⟩, by dsimp only; omega⟩)
    · have h2p := h2; try simp only [Option.isNone_some, Option.isNone_none, Option.isSome_some, Option.isSome_none, false_or, or_false, true_and, and_true, decide_eq_true_eq, decide_eq_false_iff_not, Bool.or_eq_true, Bool.and_eq_true, Bool.or_eq_false_iff, Bool.and_eq_false_iff, Bool.not_eq_true', Bool.not_eq_false', bne_iff_ne, beq_iff_eq, beq_eq_false_iff_ne, bne_eq_false_iff_eq, ne_eq, Decidable.not_not, Int.not_lt, Int.not_le, gt_iff_lt, ge_iff_le, Bool.true_eq_false, Bool.false_eq_true, not_true_eq_false, not_false_eq_true] at h2p
      obtain rfl : q = ps[i].2.length := by omega
      rw [List.drop_length] at hadd
      refine g_exit ?_
      refine x_then (x_then (x_eq ?_))
      refine n_block ?_
      refine n_then ?_
      -- region 4 ref.go:99
      refine g_region ?_
      refine wl_of (op_y (wn rfl) rfl rfl S (y_move rfl S rfl) fun a S => ?_)
      refine wl_of (op_y (wn rfl) rfl rfl S (y_add rfl S rfl rfl (by omega)) fun a S => ?_)
      refine wl_of (op_y (wn rfl) rfl rfl S (y_assign rfl S rfl) fun a S => ?_)
      refine gl_nil ?_
      refine n_then ?_
      exact ⟨(k + 1, vo), (S.nil.cons S 6 rfl).cons S 5 rfl, ((S.nil.cons S 1 rfl).cons S 0 rfl).cons S 4 rfl, ⟨by dsimp only; omega, out2, by rw [hnb, hsd, nbL]; show nbL (gr ps) (addNew out (rowG (gr ps) (i : Int).toNat)) _ = _; rw [Int.toNat_natCast, hrw, hadd]; rfl, ho2, ho3, H⟩, by dsimp only; omega⟩
  · have h1p := h1; try simp only [Option.isNone_some, Option.isNone_none, Option.isSome_some, Option.isSome_none, false_or, or_false, true_and, and_true, decide_eq_true_eq, decide_eq_false_iff_not, Bool.or_eq_true, Bool.and_eq_true, Bool.or_eq_false_iff, Bool.and_eq_false_iff, Bool.not_eq_true', Bool.not_eq_false', bne_iff_ne, beq_iff_eq, beq_eq_false_iff_ne, bne_eq_false_iff_eq, ne_eq, Decidable.not_not, Int.not_lt, Int.not_le, gt_iff_lt, ge_iff_le, Bool.true_eq_false, Bool.false_eq_true, not_true_eq_false, not_false_eq_true] at h1p
    obtain rfl : k = set.length := by omega
    rw [List.drop_length] at hnb
    refine g_exit ?_
    refine x_then (x_then (x_eq ?_))
    refine n_then ?_
    have S := (S.nil.cons S 4 rfl).cons S 5 rfl
    refine g_seq ?_
    -- region 11 ref.go:107
    refine g_region ?_
    refine wl_of (op_y (wn rfl) rfl rfl S (y_move rfl S rfl) fun a S => ?_)
    refine wl_of (op_y (wn rfl) rfl rfl S (y_lens rfl Try.underlying23 S H rfl) fun a S => ?_)
    refine wl_of (op_y (wn rfl) rfl rfl S (y_assign rfl S rfl) fun a S => ?_)
    refine gl_nil ?_
    refine n_then ?_
    have S := S.nil.cons S 4 rfl
    refine g_ret ?_
    refine ret1 rfl S rfl ?_
    exact ⟨by rw [hnb]; rfl, H.toExt⟩
set_option maxHeartbeats 2000000 in
/-- foyer/foyerref40.best -/
theorem best_step (v : Value) (ps : List (Value × List Int)) (i : Nat) (vu : Value) (used : List Int) (w0 : World) (hv : IsSl w0 v 1 encRow ps) (hr : ∀ p ∈ ps, IsSl w0 p.1 1 encI p.2) (hu : IsSl w0 vu 1 encI used) (hcap : ∀ p ∈ ps, capOK p.1) (hlp : ps.length ≤ 100) (hlu : used.length ≤ 200) (hib : i ≤ 1000)
    (ih : i < ps.length → ∀ (vu : Value) (used2 : List Int) (w : World), IsSl w v 1 encRow ps → (∀ p ∈ ps, IsSl w p.1 1 encI p.2) → IsSl w vu 1 encI used2 → used2.length ≤ used.length + 1 → Ret Try.prog 32 #[v, .int .i64 ((i : Int) + 1), vu] w (fun u w' => u = .int .i64 (bestL ((gr ps).drop (i + 1)) used2 : Int) ∧ Ext w w')) :
    Ret Try.prog 32 #[v, .int .i64 (i : Int), vu] w0 (fun u w => u = .int .i64 (bestL ((gr ps).drop i) used : Int) ∧ Ext w0 w) := by
  refine ret_of_wp (nt := 74) Try.func32 rfl rfl rfl (fl := [(0, v), (1, .int .i64 (i : Int)), (2, vu)]) rfl (fun a S => ?_)
  have H := HSat.start w0
  have H := H.ro0 (Sl v 1 encRow ps) rfl (hv)
  have H := H.ro0 (RowsS 1 encI ps) rfl (hr)
  have H := H.ro0 (Sl vu 1 encI used) rfl (hu)
  have H := H.ro0 (CapS ps) rfl (hcap)
  have hl := hv.len
  have hlen := gr_len ps
  have hb1 := fun u => bestL_le ((gr ps).drop (i + 1)) u
  have hdl : ((gr ps).drop (i + 1)).length ≤ 100 := by rw [List.length_drop]; omega
  refine g_seq ?_
  -- region 0 ref.go:83
  refine g_region ?_
  refine wl_of (op_y (wn rfl) rfl rfl S (y_assign rfl S rfl) fun a S => ?_)
  refine gl_nil ?_
  refine n_then ?_
  refine g_seq ?_
  refine g_seq ?_
  -- region 1 ref.go:84
  refine g_region ?_
  refine wl_of (op_y (wn rfl) rfl rfl S (y_move rfl S rfl) fun a S => ?_)
  refine wl_of (op_y (wn rfl) rfl rfl S (y_move rfl S rfl) fun a S => ?_)
  refine wl_of (op_y (wn rfl) rfl rfl S (y_lens rfl Try.underlying22 S H rfl) fun a S => ?_)
  refine wl_of (op_y (wn rfl) rfl rfl S (y_bin rfl S rfl rfl rfl) fun a S => ?_)
  refine gl_nil ?_
  refine n_then ?_
  -- cond 1
  refine c_if S rfl (fun h1 => ?_) (fun h1 => ?_)
  · have h1p := h1; try simp only [Option.isNone_some, Option.isNone_none, Option.isSome_some, Option.isSome_none, false_or, or_false, true_and, and_true, decide_eq_true_eq, decide_eq_false_iff_not, Bool.or_eq_true, Bool.and_eq_true, Bool.or_eq_false_iff, Bool.and_eq_false_iff, Bool.not_eq_true', Bool.not_eq_false', bne_iff_ne, beq_iff_eq, beq_eq_false_iff_ne, bne_eq_false_iff_eq, ne_eq, Decidable.not_not, Int.not_lt, Int.not_le, gt_iff_lt, ge_iff_le, Bool.true_eq_false, Bool.false_eq_true, not_true_eq_false, not_false_eq_true] at h1p
    refine g_seq ?_
    -- region 2 ref.go:85
    refine g_region ?_
    refine wl_of (op_y (wn rfl) rfl rfl S (y_assign rfl S rfl) fun a S => ?_)
    refine gl_nil ?_
    refine n_then ?_
    have S := (((S.nil.cons S 2 rfl).cons S 1 rfl).cons S 0 rfl).cons S 6 rfl
    refine g_ret ?_
    refine r_then (ret1 rfl S rfl ?_)
    exact ⟨by rw [bestL_end ps i (by omega)]; rfl, H.toExt⟩
  · have h1p := h1; try simp only [Option.isNone_some, Option.isNone_none, Option.isSome_some, Option.isSome_none, false_or, or_false, true_and, and_true, decide_eq_true_eq, decide_eq_false_iff_not, Bool.or_eq_true, Bool.and_eq_true, Bool.or_eq_false_iff, Bool.and_eq_false_iff, Bool.not_eq_true', Bool.not_eq_false', bne_iff_ne, beq_iff_eq, beq_eq_false_iff_ne, bne_eq_false_iff_eq, ne_eq, Decidable.not_not, Int.not_lt, Int.not_le, gt_iff_lt, ge_iff_le, Bool.true_eq_false, Bool.false_eq_true, not_true_eq_false, not_false_eq_true] at h1p
    have hil : i < ps.length := by omega
    have hrl := (hr _ (List.getElem_mem hil)).len
    have hbd := bestL_drop ps i hil used
    have hbu := hb1 used
    refine g_skip ?_
    refine n_then ?_
    have S := (((S.nil.cons S 2 rfl).cons S 1 rfl).cons S 0 rfl).cons S 6 rfl
    refine g_seq ?_
    -- region 3 ref.go:87
    refine g_region ?_
    refine wl_of (op_y (wn rfl) rfl rfl S (y_move rfl S rfl) fun a S => ?_)
    refine wl_of (op_y (wn rfl) rfl rfl S (y_move rfl S rfl) fun a S => ?_)
    refine wl_of (op_y (wn rfl) rfl rfl S (y_add rfl S rfl rfl (by omega)) fun a S => ?_)
    refine wl_of (op_y (wn rfl) rfl rfl S (y_move rfl S rfl) fun a S => ?_)
    refine wl_of (op_call (wn rfl) rfl rfl S (co_func rfl Try.call32 S rfl) (ih hil vu used _ (H.sl v) (H.rwsS ps) (H.sl vu) (by omega)) fun v w hc a S => ?_)
    obtain ⟨rfl, he⟩ := hc
    have H := H.ext he
    refine wl_of (op_y (wn rfl) rfl rfl S (y_assign rfl S rfl) fun a S => ?_)
    refine gl_nil ?_
    refine n_then ?_
    have S := ((((S.nil.cons S 2 rfl).cons S 1 rfl).cons S 0 rfl).cons S 6 rfl).cons S 7 rfl
    refine g_seq ?_
    refine g_seq ?_
    -- region 4 ref.go:88
    refine g_region ?_
    refine wl_of (op_y (wn rfl) rfl rfl S (y_assign rfl S rfl) fun a S => ?_)
    refine gl_nil ?_
    refine n_then ?_
    refine g_block ?_
    have SU := (((S.nil.cons S 2 rfl).cons S 1 rfl).cons S 0 rfl).cons S 6 rfl
    refine loopW (X := Nat × Nat) SU (fun x => [(7, .int .i64 (x.2 : Int)), (8, .int .i64 (x.1 : Int))]) (fun x w => x.1 ≤ ps[i].2.length ∧ x.2 ≤ 101 ∧ bestL ((gr ps).drop i) used = bestRow (fun n => bestL ((gr ps).drop (i + 1)) (used ++ [n])) used (ps[i].2.take x.1) (ps[i].2.drop x.1) x.2 ∧ HSat No w0 [CapS ps, Sl vu 1 encI used, RowsS 1 encI ps, Sl v 1 encRow ps] w) (fun x => ps[i].2.length - x.1) (0, bestL ((gr ps).drop (i + 1)) used) ((S.nil.cons S 8 rfl).cons S 7 rfl) (⟨by simp, by dsimp only; omega, hbd, H⟩) (fun x a w S hW => ?_)
    simp only [List.cons_append, List.nil_append] at S
    obtain ⟨k, out⟩ := x
    obtain ⟨hk, hob, hbr, H⟩ := hW
    dsimp only at S H hk hob hbr
    refine g_seq ?_
    refine g_seq ?_
    -- region 5 ref.go:88
    refine g_region ?_
    refine wl_of (op_y (wn rfl) rfl rfl S (y_move rfl S rfl) fun a S => ?_)
    refine wl_of (op_y (wn rfl) rfl rfl S (y_move rfl S rfl) fun a S => ?_)
    refine wl_of (op_y (wn rfl) rfl rfl S (y_move rfl S rfl) fun a S => ?_)
    refine wl_of (op_y (wn rfl) rfl rfl S (y_iaddrn rfl Try.underlying22 Fsiz23 S H rfl rfl (by first | assumption | omega | (simp only [List.length_append, List.length_take, List.length_drop, List.length_replicate, List.length_set, List.length_map, List.length_cons, List.length_nil]; omega))) fun a S => ?_)
    refine wl_of (op_y (wn rfl) rfl rfl S (y_loads _ rfl Fsca23 S H rfl (by first | assumption | omega | (simp only [List.length_append, List.length_take, List.length_drop, List.length_replicate, List.length_set, List.length_map, List.length_cons, List.length_nil]; omega)) rfl) fun a S => ?_)
    refine wl_of (op_y (wn rfl) rfl rfl S (y_lens rfl Try.underlying23 S H rfl) fun a S => ?_)
    refine wl_of (op_y (wn rfl) rfl rfl S (y_bin rfl S rfl rfl rfl) fun a S => ?_)
    refine gl_nil ?_
    refine n_then ?_
    -- cond 2
    refine c_if S rfl (fun h2 => ?_) (fun h2 => ?_)
    · have h2p := h2; try simp only [Option.isNone_some, Option.isNone_none, Option.isSome_some, Option.isSome_none, false_or, or_false, true_and, and_true, decide_eq_true_eq, decide_eq_false_iff_not, Bool.or_eq_true, Bool.and_eq_true, Bool.or_eq_false_iff, Bool.and_eq_false_iff, Bool.not_eq_true', Bool.not_eq_false', bne_iff_ne, beq_iff_eq, beq_eq_false_iff_ne, bne_eq_false_iff_eq, ne_eq, Decidable.not_not, Int.not_lt, Int.not_le, gt_iff_lt, ge_iff_le, Bool.true_eq_false, Bool.false_eq_true, not_true_eq_false, not_false_eq_true] at h2p
      have hkl : k < ps[i].2.length := by omega
      have hrd : ps[i].2.drop k = ps[i].2[k] :: ps[i].2.drop (k + 1) := List.drop_eq_getElem_cons hkl
      have htk : ps[i].2.take (k + 1) = ps[i].2.take k ++ [ps[i].2[k]] := List.take_succ_eq_append_getElem hkl
      have hbn := hb1 (used ++ [ps[i].2[k]])
      have hbn2 := hb1 (([] ++ used) ++ [ps[i].2[k]])
      refine g_skip ?_
      refine n_then ?_
      refine g_seq ?_
      refine g_block ?_
      refine g_seq ?_
      -- region 7 DRAWS ref.go:89
      refine region_st (loud := []) (tails := []) (free := []) [0, 1, 2, 3, 4, 5, 6, 7, 8, 9, 10, 11, 12, 13, 14, 15, 16, 17, 18, 19, 20, 21, 22, 23, 24, 25, 26] [] Fmo (by kernel_rfl) (by kernel_rfl) rfl H ?_
      refine m_w rfl rfl (wn rfl) rfl rfl S (fun w H => y_move rfl S rfl) fun a S => ?_
      refine m_w rfl rfl (wn rfl) rfl rfl S (fun w H => y_move rfl S rfl) fun a S => ?_
      refine m_w rfl rfl (wn rfl) rfl rfl S (fun w H => y_move rfl S rfl) fun a S => ?_
      refine m_w rfl rfl (wn rfl) rfl rfl S (fun w H => y_iaddrn rfl Try.underlying22 Fsiz23 S H rfl rfl (by first | assumption | omega | (simp only [List.length_append, List.length_take, List.length_drop, List.length_replicate, List.length_set, List.length_map, List.length_cons, List.length_nil]; omega))) fun a S => ?_
      refine m_loads _ rfl rfl (wn rfl) rfl rfl S rfl Fsca23 rfl (by first | assumption | omega | (simp only [List.length_append, List.length_take, List.length_drop, List.length_replicate, List.length_set, List.length_map, List.length_cons, List.length_nil]; omega)) rfl fun a S => ?_
      refine m_w rfl rfl (wn rfl) rfl rfl S (fun w H => y_move rfl S rfl) fun a S => ?_
      refine m_w rfl rfl (wn rfl) rfl rfl S (fun w H => y_iaddrn rfl Try.underlying23 Fsiz3 S H rfl rfl (by first | assumption | omega | (simp only [List.length_append, List.length_take, List.length_drop, List.length_replicate, List.length_set, List.length_map, List.length_cons, List.length_nil]; omega))) fun a S => ?_
      refine m_loads _ rfl rfl (wn rfl) rfl rfl S rfl Fsca3 rfl (by first | assumption | omega | (simp only [List.length_append, List.length_take, List.length_drop, List.length_replicate, List.length_set, List.length_map, List.length_cons, List.length_nil]; omega)) rfl fun a S => ?_
      refine m_c rfl rfl (wn rfl) rfl rfl S (fun w => co_func rfl Try.call20 S rfl) (fun w H => in_spec vu used ps[i].2[k] _ (H.sl _)) fun a S => ?_
      refine m_w rfl rfl (wn rfl) rfl rfl S (fun w H => y_not rfl S rfl) fun a S => ?_
      refine m_w rfl rfl (wn rfl) rfl rfl S (fun w H => y_move rfl S rfl) fun a S => ?_
      refine' m_andq [11, 12, 13, 14, 15, 16, 17, 18, 19, 20, 21, 22, 23, 24, 25] 37 S rfl rfl rfl rfl rfl rfl rfl rfl rfl (fun _ S => (wn rfl)) (fun h3 kk => ?yh3) (fun a S => ?_)
      case yh3 =>
        have h3p := h3; try simp only [Option.isNone_some, Option.isNone_none, Option.isSome_some, Option.isSome_none, false_or, or_false, true_and, and_true, decide_eq_true_eq, decide_eq_false_iff_not, Bool.or_eq_true, Bool.and_eq_true, Bool.or_eq_false_iff, Bool.and_eq_false_iff, Bool.not_eq_true', Bool.not_eq_false', bne_iff_ne, beq_iff_eq, beq_eq_false_iff_ne, bne_eq_false_iff_eq, ne_eq, Decidable.not_not, Int.not_lt, Int.not_le, gt_iff_lt, ge_iff_le, Bool.true_eq_false, Bool.false_eq_true, not_true_eq_false, not_false_eq_true] at h3p
        refine m_w rfl rfl (wg' 37 rfl rfl S rfl h3 rfl) rfl rfl S (fun w H => y_move rfl S rfl) fun a S => ?_
        refine m_w rfl rfl (wg' 37 rfl rfl S rfl h3 rfl) rfl rfl S (fun w H => y_move rfl S rfl) fun a S => ?_
        refine m_w rfl rfl (wg' 37 rfl rfl S rfl h3 rfl) rfl rfl S (fun w H => y_iaddrn rfl Try.underlying22 Fsiz23 S H rfl rfl (by first | assumption | omega | (simp only [List.length_append, List.length_take, List.length_drop, List.length_replicate, List.length_set, List.length_map, List.length_cons, List.length_nil]; omega))) fun a S => ?_
        refine m_loads _ rfl rfl (wg' 37 rfl rfl S rfl h3 rfl) rfl rfl S rfl Fsca23 rfl (by first | assumption | omega | (simp only [List.length_append, List.length_take, List.length_drop, List.length_replicate, List.length_set, List.length_map, List.length_cons, List.length_nil]; omega)) rfl fun a S => ?_
        refine m_w rfl rfl (wg' 37 rfl rfl S rfl h3 rfl) rfl rfl S (fun w H => y_move rfl S rfl) fun a S => ?_
        refine m_w rfl rfl (wg' 37 rfl rfl S rfl h3 rfl) rfl rfl S (fun w H => y_sliceH rfl Try.underlying23 Fsiz3 S H rfl rfl (by first | assumption | omega | (simp only [List.length_append, List.length_take, List.length_drop, List.length_replicate, List.length_set, List.length_map, List.length_cons, List.length_nil]; omega))) fun a S => ?_
        refine m_w rfl rfl (wg' 37 rfl rfl S rfl h3 rfl) rfl rfl S (fun w H => y_move rfl S rfl) fun a S => ?_
        refine m_w rfl rfl (wg' 37 rfl rfl S rfl h3 rfl) rfl rfl S (fun w H => y_move rfl S rfl) fun a S => ?_
        refine m_w rfl rfl (wg' 37 rfl rfl S rfl h3 rfl) rfl rfl S (fun w H => y_iaddrn rfl Try.underlying22 Fsiz23 S H rfl rfl (by first | assumption | omega | (simp only [List.length_append, List.length_take, List.length_drop, List.length_replicate, List.length_set, List.length_map, List.length_cons, List.length_nil]; omega))) fun a S => ?_
        refine m_loads _ rfl rfl (wg' 37 rfl rfl S rfl h3 rfl) rfl rfl S rfl Fsca23 rfl (by first | assumption | omega | (simp only [List.length_append, List.length_take, List.length_drop, List.length_replicate, List.length_set, List.length_map, List.length_cons, List.length_nil]; omega)) rfl fun a S => ?_
        refine m_w rfl rfl (wg' 37 rfl rfl S rfl h3 rfl) rfl rfl S (fun w H => y_move rfl S rfl) fun a S => ?_
        refine m_w rfl rfl (wg' 37 rfl rfl S rfl h3 rfl) rfl rfl S (fun w H => y_iaddrn rfl Try.underlying23 Fsiz3 S H rfl rfl (by first | assumption | omega | (simp only [List.length_append, List.length_take, List.length_drop, List.length_replicate, List.length_set, List.length_map, List.length_cons, List.length_nil]; omega))) fun a S => ?_
        refine m_loads _ rfl rfl (wg' 37 rfl rfl S rfl h3 rfl) rfl rfl S rfl Fsca3 rfl (by first | assumption | omega | (simp only [List.length_append, List.length_take, List.length_drop, List.length_replicate, List.length_set, List.length_map, List.length_cons, List.length_nil]; omega)) rfl fun a S => ?_
        refine m_c rfl rfl (wg' 37 rfl rfl S rfl h3 rfl) rfl rfl S (fun w => co_func rfl Try.call20 S rfl) (fun w H => in_spec _ ((ps[i].2.take k).drop 0) ps[i].2[k] _ (H.sl _)) fun a S => ?_
        refine m_w rfl rfl (wg' 37 rfl rfl S rfl h3 rfl) rfl rfl S (fun w H => y_not rfl S rfl) fun a S => ?_
        refine m_w rfl rfl (wn rfl) rfl rfl S (fun w H => y_and' rfl h3 S rfl rfl) fun a S => ?_
        exact kk _ (S.join 16 53 rfl rfl)
      refine m_nil (fun w H => ?_)
      refine n_then ?_
      -- cond 3 (both ways go on)
      refine c_if S rfl (fun h4 => ?_) (fun h4 => ?_)
      · have h4p := h4; try simp only [Option.isNone_some, Option.isNone_none, Option.isSome_some, Option.isSome_none, false_or, or_false, true_and, and_true, decide_eq_true_eq, decide_eq_false_iff_not, Bool.or_eq_true, Bool.and_eq_true, Bool.or_eq_false_iff, Bool.and_eq_false_iff, Bool.not_eq_true', Bool.not_eq_false', bne_iff_ne, beq_iff_eq, beq_eq_false_iff_ne, bne_eq_false_iff_eq, ne_eq, Decidable.not_not, Int.not_lt, Int.not_le, gt_iff_lt, ge_iff_le, Bool.true_eq_false, Bool.false_eq_true, not_true_eq_false, not_false_eq_true] at h4p
        -- region 8 DRAWS ref.go:90
        -- several orders
        refine cutQ (fun a w => St 74 [(0, v), (1, .int .i64 (i : Int)), (2, vu), (6, .int .i64 0), (7, .int .i64 (max (out : Int) (1 + (bestL ((gr ps).drop (i + 1)) (([] ++ used) ++ [ps[i].2[k]]) : Int)))), (8, .int .i64 (k : Int))] a ∧ HSat No w0 [CapS ps, Sl vu 1 encI used, RowsS 1 encI ps, Sl v 1 encRow ps] w) ?_ ?_
        · skip
          refine t_st (tails := [6, 15]) [Sl vu 1 encI used, RowsS 1 encI ps, Sl v 1 encRow ps] Fmo H ?_
          refine t_p 0 rfl (by kernel_rfl) (rem' := [1, 2, 3, 4, 5, 6, 7, 8, 9, 10, 11, 12, 13, 14, 15, 16, 17, 18, 19]) rfl rfl rfl rfl S (fun w => y_move rfl S rfl) fun a S => ?_
          refine t_p 1 rfl (by kernel_rfl) (rem' := [2, 3, 4, 5, 6, 7, 8, 9, 10, 11, 12, 13, 14, 15, 16, 17, 18, 19]) rfl rfl rfl rfl S (fun w => y_move rfl S rfl) fun a S => ?_
          refine t_p 2 rfl (by kernel_rfl) (rem' := [3, 4, 5, 6, 7, 8, 9, 10, 11, 12, 13, 14, 15, 16, 17, 18, 19]) rfl rfl rfl rfl S (fun w => y_move rfl S rfl) fun a S => ?_
          refine t_p 3 rfl (by kernel_rfl) (rem' := [4, 5, 6, 7, 8, 9, 10, 11, 12, 13, 14, 15, 16, 17, 18, 19]) rfl rfl rfl rfl S (fun w => y_add rfl S rfl rfl (by omega)) fun a S => ?_
          refine t_q 5 rfl (by kernel_rfl) (rem' := [4, 6, 7, 8, 9, 10, 11, 12, 13, 14, 15, 16, 17, 18, 19]) rfl rfl rfl rfl S (fun w H => y_move rfl S rfl) fun a S => ?_
          refine t_p 7 rfl (by kernel_rfl) (rem' := [4, 6, 8, 9, 10, 11, 12, 13, 14, 15, 16, 17, 18, 19]) rfl rfl rfl rfl S (fun w => y_move rfl S rfl) fun a S => ?_
          refine t_p 8 rfl (by kernel_rfl) (rem' := [4, 6, 9, 10, 11, 12, 13, 14, 15, 16, 17, 18, 19]) rfl rfl rfl rfl S (fun w => y_move rfl S rfl) fun a S => ?_
          refine t_f 9 rfl (by kernel_rfl) (rem' := [4, 6, 10, 11, 12, 13, 14, 15, 16, 17, 18, 19]) rfl rfl rfl rfl S (fun w H => y_iaddrn rfl Try.underlying22 Fsiz23 S H rfl rfl (by first | assumption | omega | (simp only [List.length_append, List.length_take, List.length_drop, List.length_replicate, List.length_set, List.length_map, List.length_cons, List.length_nil]; omega))) fun a S => ?_
          refine t_floads _ 10 rfl (by kernel_rfl) (rem' := [4, 6, 11, 12, 13, 14, 15, 16, 17, 18, 19]) rfl rfl rfl rfl S rfl Fsca23 rfl (by first | assumption | omega | (simp only [List.length_append, List.length_take, List.length_drop, List.length_replicate, List.length_set, List.length_map, List.length_cons, List.length_nil]; omega)) rfl fun a S => ?_
          refine t_p 11 rfl (by kernel_rfl) (rem' := [4, 6, 12, 13, 14, 15, 16, 17, 18, 19]) rfl rfl rfl rfl S (fun w => y_move rfl S rfl) fun a S => ?_
          refine t_f 12 rfl (by kernel_rfl) (rem' := [4, 6, 13, 14, 15, 16, 17, 18, 19]) rfl rfl rfl rfl S (fun w H => y_iaddrn rfl Try.underlying23 Fsiz3 S H rfl rfl (by first | assumption | omega | (simp only [List.length_append, List.length_take, List.length_drop, List.length_replicate, List.length_set, List.length_map, List.length_cons, List.length_nil]; omega))) fun a S => ?_
          refine t_floads _ 13 rfl (by kernel_rfl) (rem' := [4, 6, 14, 15, 16, 17, 18, 19]) rfl rfl rfl rfl S rfl Fsca3 rfl (by first | assumption | omega | (simp only [List.length_append, List.length_take, List.length_drop, List.length_replicate, List.length_set, List.length_map, List.length_cons, List.length_nil]; omega)) rfl fun a S => ?_
          refine t_b [4, 14] (by kernel_rfl) rfl ?_
          intro i hi; simp only [List.mem_cons, List.not_mem_nil, or_false] at hi; rcases hi with rfl | rfl
          · refine ⟨_, rfl, fun w H => ?_⟩
            refine op_buildSlice (wn rfl) rfl rfl rfl Try.underlying23 Finf3 S H (idx := []) rfl rfl rfl (z := []) (by kernel_rfl) (cs := []) rfl fun b58 a w S H => ?_
            have H := H.celO [] encI 1 (m := 0) rfl (by simp) rfl (by omega)
            refine t_next H (by repeat (first | exact List.Sublist.refl _ | apply List.Sublist.cons)) (rem' := [6, 14, 15, 16, 17, 18, 19]) rfl ?_
            refine t_b [6, 14] (by kernel_rfl) rfl ?_
            intro i hi; simp only [List.mem_cons, List.not_mem_nil, or_false] at hi; rcases hi with rfl | rfl
            · refine ⟨_, rfl, fun w H => ?_⟩
              refine op_appendT (wn rfl) rfl rfl rfl Try.underlying23 Finf3 rfl rfl S H rfl rfl (by simp [encI, Value.oneCell']) (by simp; omega) (by simp; omega) fun u60 a w S H => ?_
              refine t_tail H rfl (rem' := [14, 15, 16, 17, 18, 19]) rfl ?_
              refine t_b [14] (by kernel_rfl) rfl ?_
              intro i hi; simp only [List.mem_cons, List.not_mem_nil, or_false] at hi; subst hi
              · refine ⟨_, rfl, fun w H => ?_⟩
                refine op_buildSlice (wn rfl) rfl rfl rfl Try.underlying23 Finf3 S H (idx := [0]) rfl rfl rfl (z := [.int .i64 0]) (by kernel_rfl) (cs := [_]) rfl fun b68 a w S H => ?_
                refine t_next H (by repeat (first | exact List.Sublist.refl _ | apply List.Sublist.cons)) (rem' := [15, 16, 17, 18, 19]) rfl ?_
                refine t_b [15] (by kernel_rfl) rfl ?_
                intro i hi; simp only [List.mem_cons, List.not_mem_nil, or_false] at hi; subst hi
                · refine ⟨_, rfl, fun w H => ?_⟩
                  refine op_append ([ps[i].2[k]]) (wn rfl) rfl rfl rfl Try.underlying23 Finf3 rfl rfl S H rfl rfl rfl rfl (by simp) (by simp [encI]) (by simp [encI, Value.oneCell']) (by simp; omega) (by simp; omega) fun u69 a w hn69 S H => ?_
                  refine t_tail H rfl (rem' := [16, 17, 18, 19]) rfl ?_
                  refine t_c 16 rfl (by kernel_rfl) (rem' := [17, 18, 19]) rfl rfl rfl rfl S (fun w => co_func rfl Try.call32 S rfl) (fun w H => ih hil u69 (([] ++ used) ++ [ps[i].2[k]]) _ (H.sl v) (H.rwsS ps) (H.sl u69) (by simp)) fun a S => ?_
                  refine t_q 17 rfl (by kernel_rfl) (rem' := [18, 19]) rfl rfl rfl rfl S (fun w H => y_add rfl S rfl rfl (by omega)) fun a S => ?_
                  refine t_q 18 rfl (by kernel_rfl) (rem' := [19]) rfl rfl rfl rfl S (fun w H => y_max rfl S rfl rfl) fun a S => ?_
                  refine t_q 19 rfl (by kernel_rfl) (rem' := []) rfl rfl rfl rfl S (fun w H => y_assign rfl S rfl) fun a S => ?_
                  refine t_nil (fun w H => ?_)
                  exact ⟨(((((S.nil.cons S 8 rfl).cons S 7 rfl).cons S 6 rfl).cons S 2 rfl).cons S 1 rfl).cons S 0 rfl, H.take [CapS ps, Sl vu 1 encI used, RowsS 1 encI ps, Sl v 1 encRow ps]⟩
            · refine ⟨_, rfl, fun w H => ?_⟩
              refine op_buildSlice (wn rfl) rfl rfl rfl Try.underlying23 Finf3 S H (idx := [0]) rfl rfl rfl (z := [.int .i64 0]) (by kernel_rfl) (cs := [_]) rfl fun b68 a w S H => ?_
              refine t_next H (by repeat (first | exact List.Sublist.refl _ | apply List.Sublist.cons)) (rem' := [6, 15, 16, 17, 18, 19]) rfl ?_
              refine t_b [6] (by kernel_rfl) rfl ?_
              intro i hi; simp only [List.mem_cons, List.not_mem_nil, or_false] at hi; subst hi
              · refine ⟨_, rfl, fun w H => ?_⟩
                refine op_appendT (wn rfl) rfl rfl rfl Try.underlying23 Finf3 rfl rfl S H rfl rfl (by simp [encI, Value.oneCell']) (by simp; omega) (by simp; omega) fun u60 a w S H => ?_
                refine t_tail H rfl (rem' := [15, 16, 17, 18, 19]) rfl ?_
                refine t_b [15] (by kernel_rfl) rfl ?_
                intro i hi; simp only [List.mem_cons, List.not_mem_nil, or_false] at hi; subst hi
                · refine ⟨_, rfl, fun w H => ?_⟩
                  refine op_append ([ps[i].2[k]]) (wn rfl) rfl rfl rfl Try.underlying23 Finf3 rfl rfl S H rfl rfl rfl rfl (by simp) (by simp [encI]) (by simp [encI, Value.oneCell']) (by simp; omega) (by simp; omega) fun u69 a w hn69 S H => ?_
                  refine t_tail H rfl (rem' := [16, 17, 18, 19]) rfl ?_
                  refine t_c 16 rfl (by kernel_rfl) (rem' := [17, 18, 19]) rfl rfl rfl rfl S (fun w => co_func rfl Try.call32 S rfl) (fun w H => ih hil u69 (([] ++ used) ++ [ps[i].2[k]]) _ (H.sl v) (H.rwsS ps) (H.sl u69) (by simp)) fun a S => ?_
                  refine t_q 17 rfl (by kernel_rfl) (rem' := [18, 19]) rfl rfl rfl rfl S (fun w H => y_add rfl S rfl rfl (by omega)) fun a S => ?_
                  refine t_q 18 rfl (by kernel_rfl) (rem' := [19]) rfl rfl rfl rfl S (fun w H => y_max rfl S rfl rfl) fun a S => ?_
                  refine t_q 19 rfl (by kernel_rfl) (rem' := []) rfl rfl rfl rfl S (fun w H => y_assign rfl S rfl) fun a S => ?_
                  refine t_nil (fun w H => ?_)
                  exact ⟨(((((S.nil.cons S 8 rfl).cons S 7 rfl).cons S 6 rfl).cons S 2 rfl).cons S 1 rfl).cons S 0 rfl, H.take [CapS ps, Sl vu 1 encI used, RowsS 1 encI ps, Sl v 1 encRow ps]⟩
          · refine ⟨_, rfl, fun w H => ?_⟩
            refine op_buildSlice (wn rfl) rfl rfl rfl Try.underlying23 Finf3 S H (idx := [0]) rfl rfl rfl (z := [.int .i64 0]) (by kernel_rfl) (cs := [_]) rfl fun b68 a w S H => ?_
            refine t_next H (by repeat (first | exact List.Sublist.refl _ | apply List.Sublist.cons)) (rem' := [4, 6, 15, 16, 17, 18, 19]) rfl ?_
            refine t_b [4] (by kernel_rfl) rfl ?_
            intro i hi; simp only [List.mem_cons, List.not_mem_nil, or_false] at hi; subst hi
            · refine ⟨_, rfl, fun w H => ?_⟩
              refine op_buildSlice (wn rfl) rfl rfl rfl Try.underlying23 Finf3 S H (idx := []) rfl rfl rfl (z := []) (by kernel_rfl) (cs := []) rfl fun b58 a w S H => ?_
              have H := H.celO [] encI 1 (m := 0) rfl (by simp) rfl (by omega)
              refine t_next H (by repeat (first | exact List.Sublist.refl _ | apply List.Sublist.cons)) (rem' := [6, 15, 16, 17, 18, 19]) rfl ?_
              refine t_b [6] (by kernel_rfl) rfl ?_
              intro i hi; simp only [List.mem_cons, List.not_mem_nil, or_false] at hi; subst hi
              · refine ⟨_, rfl, fun w H => ?_⟩
                refine op_appendT (wn rfl) rfl rfl rfl Try.underlying23 Finf3 rfl rfl S H rfl rfl (by simp [encI, Value.oneCell']) (by simp; omega) (by simp; omega) fun u60 a w S H => ?_
                refine t_tail H rfl (rem' := [15, 16, 17, 18, 19]) rfl ?_
                refine t_b [15] (by kernel_rfl) rfl ?_
                intro i hi; simp only [List.mem_cons, List.not_mem_nil, or_false] at hi; subst hi
                · refine ⟨_, rfl, fun w H => ?_⟩
                  refine op_append ([ps[i].2[k]]) (wn rfl) rfl rfl rfl Try.underlying23 Finf3 rfl rfl S H rfl rfl rfl rfl (by simp) (by simp [encI]) (by simp [encI, Value.oneCell']) (by simp; omega) (by simp; omega) fun u69 a w hn69 S H => ?_
                  refine t_tail H rfl (rem' := [16, 17, 18, 19]) rfl ?_
                  refine t_c 16 rfl (by kernel_rfl) (rem' := [17, 18, 19]) rfl rfl rfl rfl S (fun w => co_func rfl Try.call32 S rfl) (fun w H => ih hil u69 (([] ++ used) ++ [ps[i].2[k]]) _ (H.sl v) (H.rwsS ps) (H.sl u69) (by simp)) fun a S => ?_
                  refine t_q 17 rfl (by kernel_rfl) (rem' := [18, 19]) rfl rfl rfl rfl S (fun w H => y_add rfl S rfl rfl (by omega)) fun a S => ?_
                  refine t_q 18 rfl (by kernel_rfl) (rem' := [19]) rfl rfl rfl rfl S (fun w H => y_max rfl S rfl rfl) fun a S => ?_
                  refine t_q 19 rfl (by kernel_rfl) (rem' := []) rfl rfl rfl rfl S (fun w H => y_assign rfl S rfl) fun a S => ?_
                  refine t_nil (fun w H => ?_)
                  exact ⟨(((((S.nil.cons S 8 rfl).cons S 7 rfl).cons S 6 rfl).cons S 2 rfl).cons S 1 rfl).cons S 0 rfl, H.take [CapS ps, Sl vu 1 encI used, RowsS 1 encI ps, Sl v 1 encRow ps]⟩
        rintro a w ⟨S, H⟩
        refine n_block ?_
        refine n_then ?_
        -- region 6 ref.go:88
        refine g_region ?_
        refine wl_of (op_y (wn rfl) rfl rfl S (y_move rfl S rfl) fun a S => ?_)
        refine wl_of (op_y (wn rfl) rfl rfl S (y_add rfl S rfl rfl (by omega)) fun a S => ?_)
        refine wl_of (op_y (wn rfl) rfl rfl S (y_assign rfl S rfl) fun a S => ?_)
        refine gl_nil ?_
        refine n_then ?_
        first
        | (have hx : ¬ (ps[i].2[k] ∉ used ∧ ps[i].2[k] ∉ ps[i].2.take k) := by have h := h4; simp only [Bool.and_eq_false_iff, Bool.not_eq_false', decide_eq_true_eq, List.drop_zero] at h; rintro ⟨a1, a2⟩; rcases h with h | h; exact a1 h; exact a2 h
           exact ⟨(k + 1, out), (S.nil.cons S 8 rfl).cons S 7 rfl, (((S.nil.cons S 2 rfl).cons S 1 rfl).cons S 0 rfl).cons S 6 rfl, ⟨by dsimp only; omega, hob, by rw [hbr, hrd, bestRow, if_neg hx, htk], H⟩, by dsimp only; omega⟩)
        | (have hx : ps[i].2[k] ∉ used ∧ ps[i].2[k] ∉ ps[i].2.take k := by have h := h4; simpa using h
           refine ⟨(k + 1, max out (1 + bestL ((gr ps).drop (i + 1)) (used ++ [ps[i].2[k]]))), (S.nil.cons S 8 rfl).cons S 7 ?_, (((S.nil.cons S 2 rfl).cons S 1 rfl).cons S 0 rfl).cons S 6 rfl, ⟨by dsimp only; omega, by dsimp only; omega, by rw [hbr, hrd, bestRow, if_pos hx, htk], H⟩, by dsimp only; omega⟩
           show some (Value.int .i64 (max (out : Int) (1 + (bestL ((gr ps).drop (i + 1)) (([] ++ used) ++ [ps[i].2[k]]) : Int)))) = some (Value.int .i64 ((max out (1 + bestL ((gr ps).drop (i + 1)) (used ++ [ps[i].2[k]])) : Nat) : Int))
           rw [List.nil_append]
           congr 2
           omega)
      · have h4p := h4; try simp only [Option.isNone_some, Option.isNone_none, Option.isSome_some, Option.isSome_none, false_or, or_false, true_and, and_true, decide_eq_true_eq, decide_eq_false_iff_not, Bool.or_eq_true, Bool.and_eq_true, Bool.or_eq_false_iff, Bool.and_eq_false_iff, Bool.not_eq_true', Bool.not_eq_false', bne_iff_ne, beq_iff_eq, beq_eq_false_iff_ne, bne_eq_false_iff_eq, ne_eq, Decidable.not_not, Int.not_lt, Int.not_le, gt_iff_lt, ge_iff_le, Bool.true_eq_false, Bool.false_eq_true, not_true_eq_false, not_false_eq_true] at h4p
        refine g_skip ?_
        refine n_block ?_
        refine n_then ?_
        -- region 6 ref.go:88
        refine g_region ?_
        refine wl_of (op_y (wn rfl) rfl rfl S (y_move rfl S rfl) fun a S => ?_)
        refine wl_of (op_y (wn rfl) rfl rfl S (y_add rfl S rfl rfl (by omega)) fun a S => ?_)
        refine wl_of (op_y (wn rfl) rfl rfl S (y_assign rfl S rfl) fun a S => ?_)
        refine gl_nil ?_
        refine n_then ?_
        first
        | (have hx : ¬ (ps[i].2[k] ∉ used ∧ ps[i].2[k] ∉ ps[i].2.take k) := by have h := h4; simp only [Bool.and_eq_false_iff, Bool.not_eq_false', decide_eq_true_eq, List.drop_zero] at h; rintro ⟨a1, a2⟩; rcases h with h | h; exact a1 h; exact a2 h
           exact ⟨(k + 1, out), (S.nil.cons S 8 rfl).cons S 7 rfl, (((S.nil.cons S 2 rfl).cons S 1 rfl).cons S 0 rfl).cons S 6 rfl, ⟨by dsimp only; omega, hob, by rw [hbr, hrd, bestRow, if_neg hx, htk], H⟩, by dsimp only; omega⟩)
        | (have hx : ps[i].2[k] ∉ used ∧ ps[i].2[k] ∉ ps[i].2.take k := by have h := h4; simpa using h
           refine ⟨(k + 1, max out (1 + bestL ((gr ps).drop (i + 1)) (used ++ [ps[i].2[k]]))), (S.nil.cons S 8 rfl).cons S 7 ?_, (((S.nil.cons S 2 rfl).cons S 1 rfl).cons S 0 rfl).cons S 6 rfl, ⟨by dsimp only; omega, by dsimp only; omega, by rw [hbr, hrd, bestRow, if_pos hx, htk], H⟩, by dsimp only; omega⟩
           show some (Value.int .i64 (max (out : Int) (1 + (bestL ((gr ps).drop (i + 1)) (([] ++ used) ++ [ps[i].2[k]]) : Int)))) = some (Value.int .i64 ((max out (1 + bestL ((gr ps).drop (i + 1)) (used ++ [ps[i].2[k]])) : Nat) : Int))
           rw [List.nil_append]
           congr 2
           omega)
    · have h2p := h2; try simp only [Option.isNone_some, Option.isNone_none, Option.isSome_some, Option.isSome_none, false_or, or_false, true_and, and_true, decide_eq_true_eq, decide_eq_false_iff_not, Bool.or_eq_true, Bool.and_eq_true, Bool.or_eq_false_iff, Bool.and_eq_false_iff, Bool.not_eq_true', Bool.not_eq_false', bne_iff_ne, beq_iff_eq, beq_eq_false_iff_ne, bne_eq_false_iff_eq, ne_eq, Decidable.not_not, Int.not_lt, Int.not_le, gt_iff_lt, ge_iff_le, Bool.true_eq_false, Bool.false_eq_true, not_true_eq_false, not_false_eq_true] at h2p
      refine g_exit ?_
      refine x_then (x_then (x_eq ?_))
      refine n_then ?_
      have S := (S.nil.cons S 6 rfl).cons S 7 rfl
      refine g_seq ?_
      -- region 9 ref.go:93
      refine g_region ?_
      refine wl_of (op_y (wn rfl) rfl rfl S (y_move rfl S rfl) fun a S => ?_)
      refine wl_of (op_y (wn rfl) rfl rfl S (y_assign rfl S rfl) fun a S => ?_)
      refine gl_nil ?_
      refine n_then ?_
      refine g_ret ?_
      refine ret1 rfl S rfl ?_
      have e : ps[i].2.drop k = [] := List.drop_of_length_le (by omega)
      exact ⟨by rw [hbr, e]; rfl, H.toExt⟩

theorem best_spec (v : Value) (ps : List (Value × List Int)) : ∀ (n i : Nat), n + i = ps.length + 1 → ∀ (vu : Value) (used : List Int) (w0 : World) (hv : IsSl w0 v 1 encRow ps) (hr : ∀ p ∈ ps, IsSl w0 p.1 1 encI p.2) (hu : IsSl w0 vu 1 encI used) (hcap : ∀ p ∈ ps, capOK p.1) (hlp : ps.length ≤ 100) (hlu : used.length ≤ i), Ret Try.prog 32 #[v, .int .i64 (i : Int), vu] w0 (fun u w => u = .int .i64 (bestL ((gr ps).drop i) used : Int) ∧ Ext w0 w)
  | 0, i, hn => fun vu used w0 hv hr hu hcap hlp hlu => best_step v ps i vu used w0 hv hr hu hcap hlp (by omega) (by omega) (fun h => by omega)
  | n + 1, i, hn => fun vu used w0 hv hr hu hcap hlp hlu => best_step v ps i vu used w0 hv hr hu hcap hlp (by omega) (by omega) (fun h vu used w hv hr hu hl => best_spec v ps n (i + 1) (by omega) vu used w hv hr hu hcap hlp (by omega))
/-- foyer/foyerref40.Best -/
theorem best0_spec (v : Value) (ps : List (Value × List Int)) (w0 : World) (hv : IsSl w0 v 1 encRow ps) (hr : ∀ p ∈ ps, IsSl w0 p.1 1 encI p.2) (hcap : ∀ p ∈ ps, capOK p.1) (hlp : ps.length ≤ 100) :
    Ret Try.prog 19 #[v] w0 (fun u w => u = .int .i64 (bestL (gr ps) [] : Int) ∧ Ext w0 w) := by
  refine ret_of_wp (nt := 5) Try.func19 rfl rfl rfl (fl := [(0, v)]) rfl (fun a S => ?_)
  have H := HSat.start w0
  have H := H.ro0 (Sl v 1 encRow ps) rfl (hv)
  have H := H.ro0 (RowsS 1 encI ps) rfl (hr)
  refine g_seq ?_
  -- region 0 ref.go:80
  refine g_region ?_
  refine wl_of (op_y (wn rfl) rfl rfl S (y_assign rfl S rfl) fun a S => ?_)
  refine gl_nil ?_
  refine n_then ?_
  refine g_seq ?_
  -- region 1 ref.go:80
  refine g_region ?_
  refine wl_of (op_y (wn rfl) rfl rfl S (y_move rfl S rfl) fun a S => ?_)
  refine wl_of (op_call (wn rfl) rfl rfl S (co_func rfl Try.call32 S rfl) (best_spec v ps (ps.length + 1) 0 rfl (.slice none 0 0) [] _ (H.sl v) (H.rwsS ps) (IsSl.nil _ 1 encI) hcap hlp (by simp)) fun v w hc a S => ?_)
  obtain ⟨rfl, he⟩ := hc
  have H := H.ext he
  refine wl_of (op_y (wn rfl) rfl rfl S (y_assign rfl S rfl) fun a S => ?_)
  refine gl_nil ?_
  refine n_then ?_
  have S := S.nil.cons S 2 rfl
  refine g_ret ?_
  refine ret1 rfl S rfl ?_
  exact ⟨rfl, H.toExt⟩
/-- foyer/foyerlaw40.size -/
theorem size_ok (v : Value) (ps : List (Value × List Int)) (right : Int) (w0 : World) (hv : IsSl w0 v 1 encRow ps) (hr : ∀ p ∈ ps, IsSl w0 p.1 1 encI p.2) (hvg : validG (gr ps) right = true) :
    Ret Try.prog 23 #[v, .int .i64 right] w0 (fun u w => u = .int .i64 (sizeN (gotL (gr ps) right) : Int) ∧ Ext w0 w) := by
  refine ret_of_wp (nt := 20) Try.func23 rfl rfl rfl (fl := [(0, v), (1, .int .i64 right)]) rfl (fun a S => ?_)
  have H := HSat.start w0
  have H := H.ro0 (Sl v 1 encRow ps) rfl (hv)
  have H := H.ro0 (RowsS 1 encI ps) rfl (hr)
  refine g_seq ?_
  -- region 0 law.go:75
  refine g_region ?_
  refine wl_of (op_y (wn rfl) rfl rfl S (y_assign rfl S rfl) fun a S => ?_)
  refine gl_nil ?_
  refine n_then ?_
  refine g_seq ?_
  -- region 1 law.go:76
  refine g_region ?_
  refine wl_of (op_y (wn rfl) rfl rfl S (y_move rfl S rfl) fun a S => ?_)
  refine wl_of (op_y (wn rfl) rfl rfl S (y_move rfl S rfl) fun a S => ?_)
  refine wl_of (op_call (wn rfl) rfl rfl S (co_func rfl Try.call15 S rfl) (match_okI v ps right _ (H.sl v) (H.rwsS ps) hvg) fun v w hc a S => ?_)
  obtain ⟨vg, vl, vr, rfl, H1⟩ := hc
  have H := H.call3 H1 rfl rfl rfl
  refine wl_of (op_y (wn rfl) rfl rfl S (y_move rfl S rfl) fun a S => ?_)
  refine wl_of (op_y (wn rfl) rfl rfl S (y_extract rfl S rfl rfl) fun a S => ?_)
  refine wl_of (op_y (wn rfl) rfl rfl S (y_extract rfl S rfl rfl) fun a S => ?_)
  refine wl_of (op_y (wn rfl) rfl rfl S (y_extract rfl S rfl rfl) fun a S => ?_)
  refine wl_of (op_alloc (wn rfl) rfl rfl rfl S H Fzer25 fun b6 a w S H => ?_)
  refine wl_of (op_y (wn rfl) rfl rfl S (y_assign rfl S rfl) fun a S => ?_)
  refine wl_of (op_storea (wn rfl) rfl rfl S H rfl rfl (by rw [List.all_cons, List.all_cons, H.sl1 vl, H.sl1 vr]; rfl) Fsiz25 rfl (cs' := [_, _]) rfl fun a w S H => ?_)
  refine wl_of (op_y (wn rfl) rfl rfl S (y_assign rfl S rfl) fun a S => ?_)
  refine gl_nil ?_
  refine n_then ?_
  have S := (((S.nil.cons S 0 rfl).cons S 4 rfl).cons S 5 rfl).cons S 7 rfl
  refine g_seq ?_
  refine g_seq ?_
  -- region 2 law.go:77
  refine g_region ?_
  refine wl_of (op_y (wn rfl) rfl rfl S (y_move rfl S rfl) fun a S => ?_)
  refine wl_of (op_y (wn rfl) rfl rfl S (y_bin rfl S rfl rfl rfl) fun a S => ?_)
  refine gl_nil ?_
  refine n_then ?_
  -- cond 1
  refine c_if S rfl (fun h1 => ?_) (fun h1 => ?_)
  · have h1p := h1; try simp only [Option.isNone_some, Option.isNone_none, Option.isSome_some, Option.isSome_none, false_or, or_false, true_and, and_true, decide_eq_true_eq, decide_eq_false_iff_not, Bool.or_eq_true, Bool.and_eq_true, Bool.or_eq_false_iff, Bool.and_eq_false_iff, Bool.not_eq_true', Bool.not_eq_false', bne_iff_ne, beq_iff_eq, beq_eq_false_iff_ne, bne_eq_false_iff_eq, ne_eq, Decidable.not_not, Int.not_lt, Int.not_le, gt_iff_lt, ge_iff_le, Bool.true_eq_false, Bool.false_eq_true, not_true_eq_false, not_false_eq_true] at h1p
    all_goals (
      exact absurd h1 (by simp))
  · have h1p := h1; try simp only [Option.isNone_some, Option.isNone_none, Option.isSome_some, Option.isSome_none, false_or, or_false, true_and, and_true, decide_eq_true_eq, decide_eq_false_iff_not, Bool.or_eq_true, Bool.and_eq_true, Bool.or_eq_false_iff, Bool.and_eq_false_iff, Bool.not_eq_true', Bool.not_eq_false', bne_iff_ne, beq_iff_eq, beq_eq_false_iff_ne, bne_eq_false_iff_eq, ne_eq, Decidable.not_not, Int.not_lt, Int.not_le, gt_iff_lt, ge_iff_le, Bool.true_eq_false, Bool.false_eq_true, not_true_eq_false, not_false_eq_true] at h1p
    refine g_skip ?_
    refine n_then ?_
    refine g_seq ?_
    -- region 4 law.go:80
    refine g_region ?_
    refine wl_of (op_y (wn rfl) rfl rfl S (y_move rfl S rfl) fun a S => ?_)
    refine wl_of (op_y (wn rfl) rfl rfl S (y_move rfl S rfl) fun a S => ?_)
    refine wl_of (op_call (wn rfl) rfl rfl S (co_func rfl Try.call17 S rfl) (size_spec v ps vg (gotL (gr ps) right) _ (H.sl v) (H.rwsS ps) (H.sl _)) fun v w hc a S => ?_)
    obtain ⟨rfl, he⟩ := hc
    have H := H.ext he
    refine wl_of (op_y (wn rfl) rfl rfl S (y_assign rfl S rfl) fun a S => ?_)
    refine gl_nil ?_
    refine n_then ?_
    have S := S.nil.cons S 4 rfl
    refine g_ret ?_
    refine ret1 rfl S rfl ?_
    exact ⟨by rw [sizeL_yes (match_isM hvg)], H.toExt⟩
set_option maxHeartbeats 1000000 in
/-- foyer/foyerlaw40.copied -/
theorem copied_spec (v : Value) (ps : List (Value × List Int)) (w0 : World) (hv : IsSl w0 v 1 encRow ps) (hr : ∀ p ∈ ps, IsSl w0 p.1 1 encI p.2) (hlp : ps.length ≤ 1000) (hlr : ∀ p ∈ ps, p.2.length ≤ 1000) :
    Ret Try.prog 22 #[v] w0 (fun u w => ∃ qs : List (Value × List Int), gr qs = gr ps ∧ HSat No w0 [OSl 23 u 1 encRow qs, RowsA 3 1 encI qs] w) := by
  refine ret_of_wp (nt := 21) Try.func22 rfl rfl rfl (fl := [(0, v)]) rfl (fun a S => ?_)
  have H := HSat.start w0
  have H := H.ro0 (Sl v 1 encRow ps) rfl (hv)
  have H := H.ro0 (RowsS 1 encI ps) rfl (hr)
  refine g_seq ?_
  -- region 0 law.go:109
  refine g_region ?_
  refine wl_of (op_y (wn rfl) rfl rfl S (y_assign rfl S rfl) fun a S => ?_)
  refine gl_nil ?_
  refine n_then ?_
  refine g_seq ?_
  -- region 1 law.go:110
  refine g_region ?_
  refine wl_of (op_y (wn rfl) rfl rfl S (y_assign rfl S rfl) fun a S => ?_)
  refine gl_nil ?_
  refine n_then ?_
  refine g_seq ?_
  refine g_seq ?_
  -- region 2 law.go:111
  refine g_region ?_
  refine wl_of (op_y (wn rfl) rfl rfl S (y_assign rfl S rfl) fun a S => ?_)
  refine gl_nil ?_
  refine n_then ?_
  refine g_block ?_
  have H := (H.nilO 23 1 (encRow (α := Int))).rowsZ 3 1 encI
  have SU := (S.nil.cons S 0 rfl).cons S 2 rfl
  refine loopW (X := Nat × Value) SU (fun x => [(3, x.2), (4, .int .i64 (x.1 : Int))]) (fun x w => x.1 ≤ ps.length ∧ ∃ qs : List (Value × List Int), gr qs = (gr ps).take x.1 ∧ HSat No w0 [OSl 23 x.2 1 encRow qs, RowsA 3 1 encI qs, RowsS 1 encI ps, Sl v 1 encRow ps] w) (fun x => ps.length - x.1) (0, .slice none 0 0) ((S.nil.cons S 4 rfl).cons S 3 rfl) (⟨by simp, [], rfl, H.take [OSl 23 (.slice none 0 0) 1 encRow [], RowsA 3 1 encI [], RowsS 1 encI ps, Sl v 1 encRow ps]⟩) (fun x a w S hW => ?_)
  simp only [List.cons_append, List.nil_append] at S
  obtain ⟨k, vo⟩ := x
  obtain ⟨hk, qs, hqs, H⟩ := hW
  dsimp only at S H hk hqs
  refine g_seq ?_
  refine g_seq ?_
  -- region 3 law.go:111
  refine g_region ?_
  refine wl_of (op_y (wn rfl) rfl rfl S (y_move rfl S rfl) fun a S => ?_)
  refine wl_of (op_y (wn rfl) rfl rfl S (y_move rfl S rfl) fun a S => ?_)
  refine wl_of (op_y (wn rfl) rfl rfl S (y_lens rfl Try.underlying22 S H rfl) fun a S => ?_)
  refine wl_of (op_y (wn rfl) rfl rfl S (y_bin rfl S rfl rfl rfl) fun a S => ?_)
  refine gl_nil ?_
  refine n_then ?_
  -- cond 1
  refine c_if S rfl (fun h1 => ?_) (fun h1 => ?_)
  · have h1p := h1; try simp only [Option.isNone_some, Option.isNone_none, Option.isSome_some, Option.isSome_none, false_or, or_false, true_and, and_true, decide_eq_true_eq, decide_eq_false_iff_not, Bool.or_eq_true, Bool.and_eq_true, Bool.or_eq_false_iff, Bool.and_eq_false_iff, Bool.not_eq_true', Bool.not_eq_false', bne_iff_ne, beq_iff_eq, beq_eq_false_iff_ne, bne_eq_false_iff_eq, ne_eq, Decidable.not_not, Int.not_lt, Int.not_le, gt_iff_lt, ge_iff_le, Bool.true_eq_false, Bool.false_eq_true, not_true_eq_false, not_false_eq_true] at h1p
    have hkl : k < ps.length := by omega
    have hrl := hlr _ (List.getElem_mem hkl)
    have hql := congrArg List.length hqs
    rw [gr_len, List.length_take, gr_len] at hql
    refine g_skip ?_
    refine n_then ?_
    refine g_seq ?_
    refine g_block ?_
    -- region 5 law.go:112
    refine g_region ?_
    refine wl_of (op_y (wn rfl) rfl rfl S (y_move rfl S rfl) fun a S => ?_)
    refine wl_of (op_buildSlice (wn rfl) rfl rfl rfl Try.underlying23 Finf3 S H (idx := []) rfl rfl rfl (z := []) (by kernel_rfl) (cs := []) rfl fun b12 a w S H => ?_)
    have H := H.celO [] encI 1 (m := 0) rfl (by simp) rfl (by omega)
    refine wl_of (op_y (wn rfl) rfl rfl S (y_move rfl S rfl) fun a S => ?_)
    refine wl_of (op_y (wn rfl) rfl rfl S (y_move rfl S rfl) fun a S => ?_)
    refine wl_of (op_y (wn rfl) rfl rfl S (y_iaddrn rfl Try.underlying22 Fsiz23 S H rfl rfl (by first | assumption | omega | (simp only [List.length_append, List.length_take, List.length_drop, List.length_replicate, List.length_set, List.length_map, List.length_cons, List.length_nil]; omega))) fun a S => ?_)
    refine wl_of (op_y (wn rfl) rfl rfl S (y_loads _ rfl Fsca23 S H rfl (by first | assumption | omega | (simp only [List.length_append, List.length_take, List.length_drop, List.length_replicate, List.length_set, List.length_map, List.length_cons, List.length_nil]; omega)) rfl) fun a S => ?_)
    refine wl_of (op_appendT (wn rfl) rfl rfl rfl Try.underlying23 Finf3 rfl rfl S H rfl rfl (by simp [encI, Value.oneCell']) (by simp; omega) (by simp; omega) fun u17 a w S H => ?_)
    obtain ⟨pu, cu, hpu⟩ := (H.sl u17).shape
    refine wl_of (op_buildSlice (wn rfl) rfl rfl rfl Try.underlying22 Finf23 S H (idx := [0]) rfl rfl rfl (z := [.slice none 0 0]) (by kernel_rfl) (cs := [u17]) (by rw [hpu]; rfl) fun b18 a w S H => ?_)
    refine wl_of (op_append ([(u17, [] ++ ps[k].2)]) (wn rfl) rfl rfl rfl Try.underlying22 Finf23 rfl rfl S H rfl rfl rfl rfl (by simp) (by simp [encRow]) (by simp [encRow, H.sl1 u17]) (by simp; omega) (by simp; omega) fun u19 a w hn19 S H => ?_)
    refine wl_of (op_y (wn rfl) rfl rfl S (y_assign rfl S rfl) fun a S => ?_)
    refine gl_nil ?_
    refine n_block ?_
    refine n_then ?_
    -- region 4 law.go:111
    refine g_region ?_
    refine wl_of (op_y (wn rfl) rfl rfl S (y_move rfl S rfl) fun a S => ?_)
    refine wl_of (op_y (wn rfl) rfl rfl S (y_add rfl S rfl rfl (by omega)) fun a S => ?_)
    refine wl_of (op_y (wn rfl) rfl rfl S (y_assign rfl S rfl) fun a S => ?_)
    refine gl_nil ?_
    refine n_then ?_
    exact ⟨(k + 1, u19), (S.nil.cons S 4 rfl).cons S 3 rfl, (S.nil.cons S 0 rfl).cons S 2 rfl, ⟨by dsimp only; omega, qs ++ [(u17, [] ++ ps[k].2)], gr_snoc hqs hkl, ((H.front2 (OSl 3 u17 1 encI ([] ++ ps[k].2)) (RowsA 3 1 encI qs)).rowSnoc).take [OSl 23 u19 1 encRow (qs ++ [(u17, [] ++ ps[k].2)]), RowsA 3 1 encI (qs ++ [(u17, [] ++ ps[k].2)]), RowsS 1 encI ps, Sl v 1 encRow ps]⟩, by dsimp only; omega⟩
  · have h1p := h1; try simp only [Option.isNone_some, Option.isNone_none, Option.isSome_some, Option.isSome_none, false_or, or_false, true_and, and_true, decide_eq_true_eq, decide_eq_false_iff_not, Bool.or_eq_true, Bool.and_eq_true, Bool.or_eq_false_iff, Bool.and_eq_false_iff, Bool.not_eq_true', Bool.not_eq_false', bne_iff_ne, beq_iff_eq, beq_eq_false_iff_ne, bne_eq_false_iff_eq, ne_eq, Decidable.not_not, Int.not_lt, Int.not_le, gt_iff_lt, ge_iff_le, Bool.true_eq_false, Bool.false_eq_true, not_true_eq_false, not_false_eq_true] at h1p
    obtain rfl : k = ps.length := by omega
    rw [List.take_of_length_le (by rw [gr_len]; omega)] at hqs
    refine g_exit ?_
    refine x_then (x_then (x_eq ?_))
    refine n_then ?_
    have S := (S.nil.cons S 2 rfl).cons S 3 rfl
    refine g_seq ?_
    -- region 6 law.go:114
    refine g_region ?_
    refine wl_of (op_y (wn rfl) rfl rfl S (y_move rfl S rfl) fun a S => ?_)
    refine wl_of (op_y (wn rfl) rfl rfl S (y_assign rfl S rfl) fun a S => ?_)
    refine gl_nil ?_
    refine n_then ?_
    refine g_ret ?_
    refine ret1 rfl S rfl ?_
    exact ⟨qs, hqs, H.take [OSl 23 vo 1 encRow qs, RowsA 3 1 encI qs]⟩

end Go.Proofs.Ytaiohhcjbdjgfaa
