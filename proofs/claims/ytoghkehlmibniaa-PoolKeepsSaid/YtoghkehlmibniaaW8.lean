/- The walks. No condition. -/
import Derived.Test.YtoghkehlmibniaaChecked
import Derived.Test.YtoghkehlmibniaaGwQue
import Derived.Test.YtoghkehlmibniaaFacts
import Derived.Test.YtoghkehlmibniaaPlain
import Derived.Test.YtoghkehlmibniaaW7
namespace Go.Proofs.Ytoghkehlmibniaa
open Go Go.Gw
set_option linter.unusedVariables false
set_option linter.unusedSimpArgs false
/-- foyer/foyerref35.Exchange -/
theorem exch_spec (vg : Value) (got : List Int) (n : Nat) (w0 : World) (hg : IsSl w0 vg 1 encI got) (hn : n ≤ 1000000) :
    Ret Try.prog 19 #[vg, .int .i64 (n : Int)] w0 (fun u w => u = .bool (exchW got n) ∧ Ext w0 w) := by
  refine ret_of_wp (nt := 46) Try.func19 rfl rfl rfl (fl := [(0, vg), (1, .int .i64 (n : Int))]) rfl (fun a S => ?_)
  have H := HSat.start w0
  have H := H.ro0 (Sl vg 1 encI got) rfl (hg)
  have hgl := hg.len
  refine g_seq ?_
  -- region 0 ref.go:94
  refine g_region ?_
  refine wl_of (op_y (wn rfl) rfl rfl S (y_assign rfl S rfl) fun a S => ?_)
  refine gl_nil ?_
  refine n_then ?_
  refine g_seq ?_
  refine g_seq ?_
  -- region 1 ref.go:95
  refine g_region ?_
  refine wl_of (op_y (wn rfl) rfl rfl S (y_move rfl S rfl) fun a S => ?_)
  refine wl_of (op_y (wn rfl) rfl rfl S (y_lens rfl Try.underlying23 S H rfl) fun a S => ?_)
  refine wl_of (op_y (wn rfl) rfl rfl S (y_move rfl S rfl) fun a S => ?_)
  refine wl_of (op_y (wn rfl) rfl rfl S (y_bin rfl S rfl rfl rfl) fun a S => ?_)
  refine gl_nil ?_
  refine n_then ?_
  -- cond 1
  refine c_if S rfl (fun h1 => ?_) (fun h1 => ?_)
  · have h1p := h1; try simp only [Option.isNone_some, Option.isNone_none, Option.isSome_some, Option.isSome_none, false_or, or_false, true_and, and_true, decide_eq_true_eq, decide_eq_false_iff_not, Bool.or_eq_true, Bool.and_eq_true, Bool.or_eq_false_iff, Bool.and_eq_false_iff, Bool.not_eq_true', Bool.not_eq_false', bne_iff_ne, beq_iff_eq, beq_eq_false_iff_ne, bne_eq_false_iff_eq, ne_eq, Decidable.not_not, Int.not_lt, Int.not_le, gt_iff_lt, ge_iff_le, Bool.true_eq_false, Bool.false_eq_true, not_true_eq_false, not_false_eq_true] at h1p
    refine g_seq ?_
    -- region 2 ref.go:96
    refine g_region ?_
    refine wl_of (op_y (wn rfl) rfl rfl S (y_assign rfl S rfl) fun a S => ?_)
    refine gl_nil ?_
    refine n_then ?_
    have S := ((S.nil.cons S 1 rfl).cons S 0 rfl).cons S 4 rfl
    refine g_ret ?_
    refine r_then (ret1 rfl S rfl ?_)
    exact ⟨congrArg Value.bool (by unfold exchW; rw [decide_eq_false (by omega)]; rfl), H.toExt⟩
  · have h1p := h1; try simp only [Option.isNone_some, Option.isNone_none, Option.isSome_some, Option.isSome_none, false_or, or_false, true_and, and_true, decide_eq_true_eq, decide_eq_false_iff_not, Bool.or_eq_true, Bool.and_eq_true, Bool.or_eq_false_iff, Bool.and_eq_false_iff, Bool.not_eq_true', Bool.not_eq_false', bne_iff_ne, beq_iff_eq, beq_eq_false_iff_ne, bne_eq_false_iff_eq, ne_eq, Decidable.not_not, Int.not_lt, Int.not_le, gt_iff_lt, ge_iff_le, Bool.true_eq_false, Bool.false_eq_true, not_true_eq_false, not_false_eq_true] at h1p
    refine g_skip ?_
    refine n_then ?_
    have S := ((S.nil.cons S 1 rfl).cons S 0 rfl).cons S 4 rfl
    refine g_seq ?_
    -- region 3 ref.go:98
    refine g_region ?_
    refine wl_of (op_y (wn rfl) rfl rfl S (y_move rfl S rfl) fun a S => ?_)
    refine wl_of (op_make (encB) (false) (wn rfl) rfl rfl rfl Try.underlying38 Finf4 rfl rfl S H rfl rfl rfl (by omega) (by omega) fun b12 a w S H => ?_)
    refine wl_of (op_y (wn rfl) rfl rfl S (y_assign rfl S rfl) fun a S => ?_)
    refine gl_nil ?_
    refine n_then ?_
    refine g_seq ?_
    refine g_seq ?_
    -- region 4 ref.go:99
    refine g_region ?_
    refine wl_of (op_y (wn rfl) rfl rfl S (y_assign rfl S rfl) fun a S => ?_)
    refine gl_nil ?_
    refine n_then ?_
    refine g_block ?_
    -- slots written in the loop and forgotten at its head: [4]
    have H : HSat No w0 [OSl 4 (.slice (some ⟨b12, 0, none⟩) n n) 1 encB (setT (List.replicate n false) (got.take 0)), Sl vg 1 encI got] _ := H
    have SU := ((S.nil.cons S 1 rfl).cons S 0 rfl).cons S 5 rfl
    refine loopW (X := Nat) SU (fun q => [(6, .int .i64 (q : Int))]) (fun q w => q ≤ got.length ∧ (∀ j, j < q → (0 ≤ atI got j ∧ atI got j < n) ∧ ∀ p, p < j → atI got p ≠ atI got j) ∧ HSat No w0 [OSl 4 (.slice (some ⟨b12, 0, none⟩) n n) 1 encB (setT (List.replicate n false) (got.take q)), Sl vg 1 encI got] w) (fun q => got.length - q) 0 (S.nil.cons S 6 rfl) (⟨by omega, fun j hj => by omega, H⟩) (fun q a w S hW => ?_)
    simp only [List.cons_append, List.nil_append] at S
    clear H
    obtain ⟨hq, hpre, H⟩ := hW
    refine g_seq ?_
    refine g_seq ?_
    -- region 5 ref.go:99
    refine g_region ?_
    refine wl_of (op_y (wn rfl) rfl rfl S (y_move rfl S rfl) fun a S => ?_)
    refine wl_of (op_y (wn rfl) rfl rfl S (y_move rfl S rfl) fun a S => ?_)
    refine wl_of (op_y (wn rfl) rfl rfl S (y_bin rfl S rfl rfl rfl) fun a S => ?_)
    refine gl_nil ?_
    refine n_then ?_
    -- cond 2
    refine c_if S rfl (fun h2 => ?_) (fun h2 => ?_)
    · have h2p := h2; try simp only [Option.isNone_some, Option.isNone_none, Option.isSome_some, Option.isSome_none, false_or, or_false, true_and, and_true, decide_eq_true_eq, decide_eq_false_iff_not, Bool.or_eq_true, Bool.and_eq_true, Bool.or_eq_false_iff, Bool.and_eq_false_iff, Bool.not_eq_true', Bool.not_eq_false', bne_iff_ne, beq_iff_eq, beq_eq_false_iff_ne, bne_eq_false_iff_eq, ne_eq, Decidable.not_not, Int.not_lt, Int.not_le, gt_iff_lt, ge_iff_le, Bool.true_eq_false, Bool.false_eq_true, not_true_eq_false, not_false_eq_true] at h2p
      have hql : q < got.length := by omega
      have hat := atI_eq hql
      have hnb := not_before hql
      have hsl : (setT (List.replicate n false) (got.take q)).length = n := by rw [setT_len]; simp
      have hget := fun (h : 0 ≤ got[q]) => setT_get (n := n) (Nat.le_of_lt hql) (fun j hj => (hpre j hj).1) (x := got[q]) h
      have hgd : got.getD q 0 = got[q] := by rw [List.getD_eq_getElem?_getD, List.getElem?_eq_getElem hql]; rfl
      refine g_skip ?_
      refine n_then ?_
      refine g_seq ?_
      refine g_block ?_
      refine g_seq ?_
      refine g_seq ?_
      -- region 7 ref.go:100
      refine g_region ?_
      refine wl_of (op_y (wn rfl) rfl rfl S (y_move rfl S rfl) fun a S => ?_)
      refine wl_of (op_y (wn rfl) rfl rfl S (y_move rfl S rfl) fun a S => ?_)
      refine wl_of (op_y (wn rfl) rfl rfl S (y_iaddrn rfl Try.underlying23 Fsiz3 S H rfl rfl (by first | assumption | omega | (simp only [List.length_append, List.length_take, List.length_drop, List.length_replicate, List.length_set, List.length_map, List.length_cons, List.length_nil]; omega))) fun a S => ?_)
      refine wl_of (op_y (wn rfl) rfl rfl S (y_loads _ rfl Fsca3 S H rfl (by first | assumption | omega | (simp only [List.length_append, List.length_take, List.length_drop, List.length_replicate, List.length_set, List.length_map, List.length_cons, List.length_nil]; omega)) rfl) fun a S => ?_)
      refine wl_of (op_y (wn rfl) rfl rfl S (y_bin rfl S rfl rfl rfl) fun a S => ?_)
      refine wl_of (op_y (wn rfl) rfl rfl S (y_move rfl S rfl) fun a S => ?_)
      refine' wl_or 6 23 rfl S H rfl rfl rfl rfl rfl rfl rfl (fun _ S => (wn rfl)) (fun h3 kk => ?yh3) (fun a w S H => ?_)
      case yh3 =>
        have h3p := h3; try simp only [Option.isNone_some, Option.isNone_none, Option.isSome_some, Option.isSome_none, false_or, or_false, true_and, and_true, decide_eq_true_eq, decide_eq_false_iff_not, Bool.or_eq_true, Bool.and_eq_true, Bool.or_eq_false_iff, Bool.and_eq_false_iff, Bool.not_eq_true', Bool.not_eq_false', bne_iff_ne, beq_iff_eq, beq_eq_false_iff_ne, bne_eq_false_iff_eq, ne_eq, Decidable.not_not, Int.not_lt, Int.not_le, gt_iff_lt, ge_iff_le, Bool.true_eq_false, Bool.false_eq_true, not_true_eq_false, not_false_eq_true] at h3p
        refine wl_of (op_y (wg' 23 rfl rfl S rfl h3 rfl) rfl rfl S (y_move rfl S rfl) fun a S => ?_)
        refine wl_of (op_y (wg' 23 rfl rfl S rfl h3 rfl) rfl rfl S (y_move rfl S rfl) fun a S => ?_)
        refine wl_of (op_y (wg' 23 rfl rfl S rfl h3 rfl) rfl rfl S (y_iaddrn rfl Try.underlying23 Fsiz3 S H rfl rfl (by first | assumption | omega | (simp only [List.length_append, List.length_take, List.length_drop, List.length_replicate, List.length_set, List.length_map, List.length_cons, List.length_nil]; omega))) fun a S => ?_)
        refine wl_of (op_y (wg' 23 rfl rfl S rfl h3 rfl) rfl rfl S (y_loadsD _ 0 rfl Fsca3 S H rfl (by omega) rfl) fun a S => ?_)
        refine wl_of (op_y (wg' 23 rfl rfl S rfl h3 rfl) rfl rfl S (y_move rfl S rfl) fun a S => ?_)
        refine wl_of (op_y (wg' 23 rfl rfl S rfl h3 rfl) rfl rfl S (y_bin rfl S rfl rfl rfl) fun a S => ?_)
        refine wl_of (op_y (wn rfl) rfl rfl S (y_or' rfl h3 S rfl rfl) fun a S => ?_)
        exact kk _ _ (S.join 7 30 rfl rfl) H
      refine wl_of (op_y (wn rfl) rfl rfl S (y_move rfl S rfl) fun a S => ?_)
      refine' wl_or 7 31 rfl S H rfl rfl rfl rfl rfl rfl rfl (fun _ S => (wn rfl)) (fun h4 kk => ?yh4) (fun a w S H => ?_)
      case yh4 =>
        have h4p := h4; try simp only [Option.isNone_some, Option.isNone_none, Option.isSome_some, Option.isSome_none, false_or, or_false, true_and, and_true, decide_eq_true_eq, decide_eq_false_iff_not, Bool.or_eq_true, Bool.and_eq_true, Bool.or_eq_false_iff, Bool.and_eq_false_iff, Bool.not_eq_true', Bool.not_eq_false', bne_iff_ne, beq_iff_eq, beq_eq_false_iff_ne, bne_eq_false_iff_eq, ne_eq, Decidable.not_not, Int.not_lt, Int.not_le, gt_iff_lt, ge_iff_le, Bool.true_eq_false, Bool.false_eq_true, not_true_eq_false, not_false_eq_true] at h4p
        refine wl_of (op_y (wg' 31 rfl rfl S rfl h4 rfl) rfl rfl S (y_move rfl S rfl) fun a S => ?_)
        refine wl_of (op_y (wg' 31 rfl rfl S rfl h4 rfl) rfl rfl S (y_move rfl S rfl) fun a S => ?_)
        refine wl_of (op_y (wg' 31 rfl rfl S rfl h4 rfl) rfl rfl S (y_move rfl S rfl) fun a S => ?_)
        refine wl_of (op_y (wg' 31 rfl rfl S rfl h4 rfl) rfl rfl S (y_iaddrn rfl Try.underlying23 Fsiz3 S H rfl rfl (by first | assumption | omega | (simp only [List.length_append, List.length_take, List.length_drop, List.length_replicate, List.length_set, List.length_map, List.length_cons, List.length_nil]; omega))) fun a S => ?_)
        refine wl_of (op_y (wg' 31 rfl rfl S rfl h4 rfl) rfl rfl S (y_loadsD _ 0 rfl Fsca3 S H rfl (by omega) rfl) fun a S => ?_)
        refine wl_of (op_y (wg' 31 rfl rfl S rfl h4 rfl) rfl rfl S (y_iaddrs rfl Try.underlying38 Fsiz4 S H rfl rfl (by first | assumption | omega | (simp only [List.length_append, List.length_take, List.length_drop, List.length_replicate, List.length_set, List.length_map, List.length_cons, List.length_nil]; omega))) fun a S => ?_)
        refine wl_of (op_y (wg' 31 rfl rfl S rfl h4 rfl) rfl rfl S (y_loadsD _ false rfl Fsca4 S H rfl (by rw [hsl]; omega) rfl) fun a S => ?_)
        refine wl_of (op_y (wn rfl) rfl rfl S (y_or' rfl h4 S rfl rfl) fun a S => ?_)
        exact kk _ _ (S.join 8 39 rfl rfl) H
      refine gl_nil ?_
      refine n_then ?_
      -- cond 3
      refine c_if S rfl (fun h5 => ?_) (fun h5 => ?_)
      · have h5p := h5; try simp only [Option.isNone_some, Option.isNone_none, Option.isSome_some, Option.isSome_none, false_or, or_false, true_and, and_true, decide_eq_true_eq, decide_eq_false_iff_not, Bool.or_eq_true, Bool.and_eq_true, Bool.or_eq_false_iff, Bool.and_eq_false_iff, Bool.not_eq_true', Bool.not_eq_false', bne_iff_ne, beq_iff_eq, beq_eq_false_iff_ne, bne_eq_false_iff_eq, ne_eq, Decidable.not_not, Int.not_lt, Int.not_le, gt_iff_lt, ge_iff_le, Bool.true_eq_false, Bool.false_eq_true, not_true_eq_false, not_false_eq_true] at h5p
        have hx : got[q] < 0 ∨ got[q] ≥ n ∨ got[q] ∈ got.take q := by
          by_cases h0 : got[q] < 0
          · exact .inl h0
          · have hg := hget (by omega)
            unfold atB at hg
            simp only [hgd] at h5
            rw [hg] at h5
            simp only [Bool.or_eq_true, decide_eq_true_eq] at h5
            rcases h5 with (h | h) | h
            · exact .inl h
            · exact .inr (.inl h)
            · exact .inr (.inr h)
        refine g_seq ?_
        -- region 8 ref.go:101
        refine g_region ?_
        refine wl_of (op_y (wn rfl) rfl rfl S (y_assign rfl S rfl) fun a S => ?_)
        refine gl_nil ?_
        refine n_then ?_
        refine g_ret ?_
        refine r_then (r_block (r_then (r_then (r_block (r_then (ret1 rfl S rfl ?_))))))
        exact ⟨congrArg Value.bool (by unfold exchW; rw [decide_eq_false (p := RowOK n got) (fun hr => by
          have h1 := hr q hql
          have hat2 := hat
          rcases hx with hx | hx | hx
          · omega
          · omega
          · exact hnb.1 h1.2 hx), Bool.and_false]), H.toExt⟩
      · have h5p := h5; try simp only [Option.isNone_some, Option.isNone_none, Option.isSome_some, Option.isSome_none, false_or, or_false, true_and, and_true, decide_eq_true_eq, decide_eq_false_iff_not, Bool.or_eq_true, Bool.and_eq_true, Bool.or_eq_false_iff, Bool.and_eq_false_iff, Bool.not_eq_true', Bool.not_eq_false', bne_iff_ne, beq_iff_eq, beq_eq_false_iff_ne, bne_eq_false_iff_eq, ne_eq, Decidable.not_not, Int.not_lt, Int.not_le, gt_iff_lt, ge_iff_le, Bool.true_eq_false, Bool.false_eq_true, not_true_eq_false, not_false_eq_true] at h5p
        have hp2 := h5p
        simp only [hgd] at hp2
        have hx0 : 0 ≤ got[q] ∧ got[q] < n := by have := hp2.1; omega
        have hx : got[q] ∉ got.take q := by
          have hg := hget hx0.1
          unfold atB at hg
          have := hp2.2
          rw [hg] at this; simpa using this
        refine g_skip ?_
        refine n_then ?_
        -- region 9 ref.go:103
        refine g_region ?_
        refine wl_of (op_y (wn rfl) rfl rfl S (y_move rfl S rfl) fun a S => ?_)
        refine wl_of (op_y (wn rfl) rfl rfl S (y_move rfl S rfl) fun a S => ?_)
        refine wl_of (op_y (wn rfl) rfl rfl S (y_move rfl S rfl) fun a S => ?_)
        refine wl_of (op_y (wn rfl) rfl rfl S (y_iaddrn rfl Try.underlying23 Fsiz3 S H rfl rfl (by first | assumption | omega | (simp only [List.length_append, List.length_take, List.length_drop, List.length_replicate, List.length_set, List.length_map, List.length_cons, List.length_nil]; omega))) fun a S => ?_)
        refine wl_of (op_y (wn rfl) rfl rfl S (y_loads _ rfl Fsca3 S H rfl (by first | assumption | omega | (simp only [List.length_append, List.length_take, List.length_drop, List.length_replicate, List.length_set, List.length_map, List.length_cons, List.length_nil]; omega)) rfl) fun a S => ?_)
        refine wl_of (op_y (wn rfl) rfl rfl S (y_iaddrs rfl Try.underlying38 Fsiz4 S H rfl rfl (by first | assumption | omega | (simp only [List.length_append, List.length_take, List.length_drop, List.length_replicate, List.length_set, List.length_map, List.length_cons, List.length_nil]; omega))) fun a S => ?_)
        refine wl_of (op_store1 _ (true) (wn rfl) rfl rfl S H rfl rfl rfl rfl Fsiz4 (by first | assumption | omega | (simp only [List.length_append, List.length_take, List.length_drop, List.length_replicate, List.length_set, List.length_map, List.length_cons, List.length_nil]; omega)) (by exact rfl) fun a w S H => ?_)
        refine gl_nil ?_
        refine n_block ?_
        refine n_then ?_
        -- region 6 ref.go:99
        refine g_region ?_
        refine wl_of (op_y (wn rfl) rfl rfl S (y_move rfl S rfl) fun a S => ?_)
        refine wl_of (op_y (wn rfl) rfl rfl S (y_add rfl S rfl rfl (by omega)) fun a S => ?_)
        refine wl_of (op_y (wn rfl) rfl rfl S (y_assign rfl S rfl) fun a S => ?_)
        refine gl_nil ?_
        refine n_then ?_
        refine ⟨q + 1, S.nil.cons S 6 rfl, ((S.nil.cons S 1 rfl).cons S 0 rfl).cons S 5 rfl, ⟨by omega, fun j hj => ?_, ?_⟩, by omega⟩
        · by_cases hj2 : j < q
          · exact hpre j hj2
          · obtain rfl : j = q := by omega
            exact ⟨by rw [hat]; exact hx0, hnb.2 hx⟩
        · rw [← setT_take hql]; exact H
    · have h2p := h2; try simp only [Option.isNone_some, Option.isNone_none, Option.isSome_some, Option.isSome_none, false_or, or_false, true_and, and_true, decide_eq_true_eq, decide_eq_false_iff_not, Bool.or_eq_true, Bool.and_eq_true, Bool.or_eq_false_iff, Bool.and_eq_false_iff, Bool.not_eq_true', Bool.not_eq_false', bne_iff_ne, beq_iff_eq, beq_eq_false_iff_ne, bne_eq_false_iff_eq, ne_eq, Decidable.not_not, Int.not_lt, Int.not_le, gt_iff_lt, ge_iff_le, Bool.true_eq_false, Bool.false_eq_true, not_true_eq_false, not_false_eq_true] at h2p
      have hrow : RowOK n got := fun j hj => hpre j (by omega)
      refine g_exit ?_
      refine x_then (x_then (x_eq ?_))
      refine n_then ?_
      have S := S.nil
      refine g_seq ?_
      -- region 10 ref.go:105
      refine g_region ?_
      refine wl_of (op_y (wn rfl) rfl rfl S (y_assign rfl S rfl) fun a S => ?_)
      refine gl_nil ?_
      refine n_then ?_
      refine g_ret ?_
      refine ret1 rfl S rfl ?_
      exact ⟨congrArg Value.bool (by unfold exchW; rw [decide_eq_true (by omega), decide_eq_true hrow]; rfl), H.toExt⟩
set_option maxHeartbeats 1000000 in
/-- foyer/foyerref35.reaches -/
theorem reaches_spec (v : Value) (qs : List (Value × List Int)) (x y : Nat) (w0 : World) (hv : IsSl w0 v 1 encRow qs) (hr : ∀ p ∈ qs, IsSl w0 p.1 1 encI p.2) (hn : qs.length ≤ 1000) (hx : x < qs.length) (hto : ∀ u, u < qs.length → ∀ t ∈ rowG (gr qs) u, 0 ≤ t ∧ t < qs.length) :
    Ret Try.prog 30 #[v, .int .i64 (x : Int), .int .i64 (y : Int)] w0 (fun u w => u = .bool (rchB (rowG (gr qs)) x y) ∧ Ext w0 w) := by
  refine ret_of_wp (nt := 66) Try.func30 rfl rfl rfl (fl := [(0, v), (1, .int .i64 (x : Int)), (2, .int .i64 (y : Int))]) rfl (fun a S => ?_)
  have H := HSat.start w0
  have H := H.ro0 (Sl v 1 encRow qs) rfl (hv)
  have H := H.ro0 (RowsS 1 encI qs) rfl (hr)
  have hl := hv.len
  refine g_seq ?_
  -- region 0 ref.go:136
  refine g_region ?_
  refine wl_of (op_y (wn rfl) rfl rfl S (y_assign rfl S rfl) fun a S => ?_)
  refine gl_nil ?_
  refine n_then ?_
  refine g_seq ?_
  -- region 1 ref.go:137
  refine g_region ?_
  refine wl_of (op_y (wn rfl) rfl rfl S (y_move rfl S rfl) fun a S => ?_)
  refine wl_of (op_y (wn rfl) rfl rfl S (y_lens rfl Try.underlying22 S H rfl) fun a S => ?_)
  refine wl_of (op_make (encB) (false) (wn rfl) rfl rfl rfl Try.underlying38 Finf4 rfl rfl S H rfl rfl rfl (by omega) (by omega) fun b14 a w S H => ?_)
  refine wl_of (op_y (wn rfl) rfl rfl S (y_assign rfl S rfl) fun a S => ?_)
  refine gl_nil ?_
  refine n_then ?_
  refine g_seq ?_
  -- region 2 ref.go:138
  refine g_region ?_
  refine wl_of (op_y (wn rfl) rfl rfl S (y_move rfl S rfl) fun a S => ?_)
  refine wl_of (op_buildSlice (wn rfl) rfl rfl rfl Try.underlying23 Finf3 S H (idx := [0]) rfl rfl rfl (z := [.int .i64 0]) (by kernel_rfl) (cs := [_]) rfl fun b16 a w S H => ?_)
  have H := H.celO [(x : Int)] encI 1 (m := 1) rfl (by simp [encI]) rfl (by omega)
  refine wl_of (op_y (wn rfl) rfl rfl S (y_assign rfl S rfl) fun a S => ?_)
  refine gl_nil ?_
  refine n_then ?_
  have S := (((((S.nil.cons S 2 rfl).cons S 1 rfl).cons S 0 rfl).cons S 6 rfl).cons S 7 rfl).cons S 8 rfl
  refine g_seq ?_
  -- region 3 ref.go:139
  refine g_region ?_
  refine wl_of (op_y (wn rfl) rfl rfl S (y_move rfl S rfl) fun a S => ?_)
  refine wl_of (op_y (wn rfl) rfl rfl S (y_move rfl S rfl) fun a S => ?_)
  refine wl_of (op_y (wn rfl) rfl rfl S (y_iaddrn rfl Try.underlying38 Fsiz4 S H rfl rfl (by first | assumption | omega | (simp only [List.length_append, List.length_take, List.length_drop, List.length_replicate, List.length_set, List.length_map, List.length_cons, List.length_nil]; omega))) fun a S => ?_)
  refine wl_of (op_store1 _ (true) (wn rfl) rfl rfl S H rfl rfl rfl rfl Fsiz4 (by first | assumption | omega | (simp only [List.length_append, List.length_take, List.length_drop, List.length_replicate, List.length_set, List.length_map, List.length_cons, List.length_nil]; omega)) (by exact rfl) fun a w S H => ?_)
  refine gl_nil ?_
  refine n_then ?_
  have S := ((((S.nil.cons S 2 rfl).cons S 0 rfl).cons S 6 rfl).cons S 7 rfl).cons S 8 rfl
  refine g_seq ?_
  refine g_seq ?_
  -- region 4 ref.go:140
  refine g_region ?_
  refine wl_of (op_y (wn rfl) rfl rfl S (y_assign rfl S rfl) fun a S => ?_)
  refine gl_nil ?_
  refine n_then ?_
  refine g_block ?_
  -- slots written in the loop and forgotten at its head: [6]
  have SU := ((S.nil.cons S 2 rfl).cons S 0 rfl).cons S 7 rfl
  refine loopW (X := List Int × Nat × Value) SU (fun q => [(8, q.2.2), (9, .int .i64 (q.2.1 : Int))]) (fun q w => q.2.1 ≤ q.1.length ∧ ∃ s, Rx (rowG (gr qs)) qs.length x y s q.1 q.2.1 ∧ HSat No w0 [OSl 3 q.2.2 1 encI (q.1), OSl 4 (.slice (some ⟨b14, 0, none⟩) qs.length qs.length) 1 encB (s), RowsS 1 encI qs, Sl v 1 encRow qs] w) (fun q => qs.length - q.2.1) ([(x : Int)], 0, .slice (some ⟨b16, 0, none⟩) 1 1) ((S.nil.cons S 9 rfl).cons S 8 rfl) (⟨by simp, _, rx_start y hx, H.take [OSl 3 (.slice (some ⟨b16, 0, none⟩) 1 1) 1 encI ([(x : Int)]), OSl 4 (.slice (some ⟨b14, 0, none⟩) qs.length qs.length) 1 encB ((List.replicate qs.length false).set x true), RowsS 1 encI qs, Sl v 1 encRow qs]⟩) (fun q a w S hW => ?_)
  simp only [List.cons_append, List.nil_append] at S
  clear H
  obtain ⟨l, k, vl⟩ := q
  obtain ⟨hk, s, hrx, H⟩ := hW
  dsimp only at S H hk hrx
  have hln := rx_len hrx
  refine g_seq ?_
  refine g_seq ?_
  -- region 5 ref.go:140
  refine g_region ?_
  refine wl_of (op_y (wn rfl) rfl rfl S (y_move rfl S rfl) fun a S => ?_)
  refine wl_of (op_y (wn rfl) rfl rfl S (y_move rfl S rfl) fun a S => ?_)
  refine wl_of (op_y (wn rfl) rfl rfl S (y_lens rfl Try.underlying23 S H rfl) fun a S => ?_)
  refine wl_of (op_y (wn rfl) rfl rfl S (y_bin rfl S rfl rfl rfl) fun a S => ?_)
  refine gl_nil ?_
  refine n_then ?_
  -- cond 1
  refine c_if S rfl (fun h1 => ?_) (fun h1 => ?_)
  · have h1p := h1; try simp only [Option.isNone_some, Option.isNone_none, Option.isSome_some, Option.isSome_none, false_or, or_false, true_and, and_true, decide_eq_true_eq, decide_eq_false_iff_not, Bool.or_eq_true, Bool.and_eq_true, Bool.or_eq_false_iff, Bool.and_eq_false_iff, Bool.not_eq_true', Bool.not_eq_false', bne_iff_ne, beq_iff_eq, beq_eq_false_iff_ne, bne_eq_false_iff_eq, ne_eq, Decidable.not_not, Int.not_lt, Int.not_le, gt_iff_lt, ge_iff_le, Bool.true_eq_false, Bool.false_eq_true, not_true_eq_false, not_false_eq_true] at h1p
    have hkl : k < l.length := by omega
    obtain ⟨u, hu⟩ : ∃ u : Nat, l[k] = u := ⟨l[k].toNat, by have := hrx.rng _ (List.getElem_mem hkl); omega⟩
    have hun : u < qs.length := by have := hrx.rng _ (List.getElem_mem hkl); omega
    have hat : atI l k = u := by rw [atI_eq hkl]; exact hu
    have hul := (H.rwsS (sz := 1) (enc := encI) qs _ (List.getElem_mem hun)).len
    have hrow := gr_row qs hun
    refine g_skip ?_
    refine n_then ?_
    refine g_seq ?_
    refine g_block ?_
    refine g_seq ?_
    refine g_seq ?_
    -- region 7 ref.go:141
    refine g_region ?_
    refine wl_of (op_y (wn rfl) rfl rfl S (y_move rfl S rfl) fun a S => ?_)
    refine wl_of (op_y (wn rfl) rfl rfl S (y_move rfl S rfl) fun a S => ?_)
    refine wl_of (op_y (wn rfl) rfl rfl S (y_iaddrn rfl Try.underlying23 Fsiz3 S H rfl rfl (by first | assumption | omega | (simp only [List.length_append, List.length_take, List.length_drop, List.length_replicate, List.length_set, List.length_map, List.length_cons, List.length_nil]; omega))) fun a S => ?_)
    refine wl_of (op_y (wn rfl) rfl rfl S (y_loads _ rfl Fsca3 S H rfl (by first | assumption | omega | (simp only [List.length_append, List.length_take, List.length_drop, List.length_replicate, List.length_set, List.length_map, List.length_cons, List.length_nil]; omega)) rfl) fun a S => ?_)
    rw [hu] at S
    refine wl_of (op_y (wn rfl) rfl rfl S (y_move rfl S rfl) fun a S => ?_)
    refine wl_of (op_y (wn rfl) rfl rfl S (y_bin rfl S rfl rfl rfl) fun a S => ?_)
    refine gl_nil ?_
    refine n_then ?_
    -- cond 2
    refine c_if S rfl (fun h2 => ?_) (fun h2 => ?_)
    · have h2p := h2; try simp only [Option.isNone_some, Option.isNone_none, Option.isSome_some, Option.isSome_none, false_or, or_false, true_and, and_true, decide_eq_true_eq, decide_eq_false_iff_not, Bool.or_eq_true, Bool.and_eq_true, Bool.or_eq_false_iff, Bool.and_eq_false_iff, Bool.not_eq_true', Bool.not_eq_false', bne_iff_ne, beq_iff_eq, beq_eq_false_iff_ne, bne_eq_false_iff_eq, ne_eq, Decidable.not_not, Int.not_lt, Int.not_le, gt_iff_lt, ge_iff_le, Bool.true_eq_false, Bool.false_eq_true, not_true_eq_false, not_false_eq_true] at h2p
      refine g_seq ?_
      -- region 8 ref.go:142
      refine g_region ?_
      refine wl_of (op_y (wn rfl) rfl rfl S (y_assign rfl S rfl) fun a S => ?_)
      refine gl_nil ?_
      refine n_then ?_
      refine g_ret ?_
      refine r_then (r_block (r_then (r_then (r_block (r_then (ret1 rfl S rfl ?_))))))
      exact ⟨congrArg Value.bool (rchB_yes (rx_yes hrx hkl (by rw [hat]; have := h2p; omega))).symm, H.toExt⟩
    · have h2p := h2; try simp only [Option.isNone_some, Option.isNone_none, Option.isSome_some, Option.isSome_none, false_or, or_false, true_and, and_true, decide_eq_true_eq, decide_eq_false_iff_not, Bool.or_eq_true, Bool.and_eq_true, Bool.or_eq_false_iff, Bool.and_eq_false_iff, Bool.not_eq_true', Bool.not_eq_false', bne_iff_ne, beq_iff_eq, beq_eq_false_iff_ne, bne_eq_false_iff_eq, ne_eq, Decidable.not_not, Int.not_lt, Int.not_le, gt_iff_lt, ge_iff_le, Bool.true_eq_false, Bool.false_eq_true, not_true_eq_false, not_false_eq_true] at h2p
      have hne : u ≠ y := by have := h2p; omega
      refine g_skip ?_
      refine n_then ?_
      refine g_seq ?_
      -- region 9 ref.go:144
      refine g_region ?_
      refine wl_of (op_y (wn rfl) rfl rfl S (y_assign rfl S rfl) fun a S => ?_)
      refine gl_nil ?_
      refine n_then ?_
      refine g_block ?_
      have SU := (((((((((((((S.nil.cons S 2 rfl).cons S 0 rfl).cons S 7 rfl).cons S 9 rfl).cons S 20 rfl).cons S 21 rfl).cons S 22 rfl).cons S 23 rfl).cons S 26 rfl).cons S 27 rfl).cons S 28 rfl).cons S 29 rfl).cons S 30 rfl).cons S 31 rfl
      refine loopW (X := List Int × Nat × Value) SU (fun q => [(8, q.2.2), (10, .int .i64 (q.2.1 : Int))]) (fun q w => q.2.1 ≤ qs[u].2.length ∧ l.length ≤ q.1.length ∧ atI q.1 k = u ∧ ∃ s2, Rx (rowG (gr qs)) qs.length x y s2 q.1 k ∧ (∀ p, p < q.2.1 → p < qs[u].2.length → atI qs[u].2 p ∈ q.1) ∧ HSat No w0 [OSl 3 q.2.2 1 encI (q.1), OSl 4 (.slice (some ⟨b14, 0, none⟩) qs.length qs.length) 1 encB (s2), RowsS 1 encI qs, Sl v 1 encRow qs] w) (fun q => qs[u].2.length - q.2.1) (l, 0, vl) ((S.nil.cons S 10 rfl).cons S 8 rfl) (⟨by simp, Nat.le_refl _, hat, s, hrx, fun p hp => by simp at hp, H⟩) (fun q a w S hW => ?_)
      simp only [List.cons_append, List.nil_append] at S
      clear H
      obtain ⟨l2, m, vl2⟩ := q
      obtain ⟨hm, hll, hat2, s2, hr2, hpre, H⟩ := hW
      dsimp only at S H hm hll hat2 hr2 hpre
      have hln2 := rx_len hr2
      have hkl2 : k < l2.length := by omega
      have hu : l2[k] = u := by rw [← atI_eq hkl2]; exact hat2
      refine g_seq ?_
      refine g_seq ?_
      -- region 10 ref.go:144
      refine g_region ?_
      refine wl_of (op_y (wn rfl) rfl rfl S (y_move rfl S rfl) fun a S => ?_)
      refine wl_of (op_y (wn rfl) rfl rfl S (y_move rfl S rfl) fun a S => ?_)
      refine wl_of (op_y (wn rfl) rfl rfl S (y_move rfl S rfl) fun a S => ?_)
      refine wl_of (op_y (wn rfl) rfl rfl S (y_move rfl S rfl) fun a S => ?_)
      refine wl_of (op_y (wn rfl) rfl rfl S (y_iaddrn rfl Try.underlying23 Fsiz3 S H rfl rfl (by first | assumption | omega | (simp only [List.length_append, List.length_take, List.length_drop, List.length_replicate, List.length_set, List.length_map, List.length_cons, List.length_nil]; omega))) fun a S => ?_)
      refine wl_of (op_y (wn rfl) rfl rfl S (y_loads _ rfl Fsca3 S H rfl (by first | assumption | omega | (simp only [List.length_append, List.length_take, List.length_drop, List.length_replicate, List.length_set, List.length_map, List.length_cons, List.length_nil]; omega)) rfl) fun a S => ?_)
      rw [hu] at S
      refine wl_of (op_y (wn rfl) rfl rfl S (y_iaddrn rfl Try.underlying22 Fsiz23 S H rfl rfl (by first | assumption | omega | (simp only [List.length_append, List.length_take, List.length_drop, List.length_replicate, List.length_set, List.length_map, List.length_cons, List.length_nil]; omega))) fun a S => ?_)
      refine wl_of (op_y (wn rfl) rfl rfl S (y_loads _ rfl Fsca23 S H rfl (by first | assumption | omega | (simp only [List.length_append, List.length_take, List.length_drop, List.length_replicate, List.length_set, List.length_map, List.length_cons, List.length_nil]; omega)) rfl) fun a S => ?_)
      refine wl_of (op_y (wn rfl) rfl rfl S (y_lens rfl Try.underlying23 S H rfl) fun a S => ?_)
      refine wl_of (op_y (wn rfl) rfl rfl S (y_bin rfl S rfl rfl rfl) fun a S => ?_)
      refine gl_nil ?_
      refine n_then ?_
      -- cond 3
      refine c_if S rfl (fun h3 => ?_) (fun h3 => ?_)
      · have h3p := h3; try simp only [Option.isNone_some, Option.isNone_none, Option.isSome_some, Option.isSome_none, false_or, or_false, true_and, and_true, decide_eq_true_eq, decide_eq_false_iff_not, Bool.or_eq_true, Bool.and_eq_true, Bool.or_eq_false_iff, Bool.and_eq_false_iff, Bool.not_eq_true', Bool.not_eq_false', bne_iff_ne, beq_iff_eq, beq_eq_false_iff_ne, bne_eq_false_iff_eq, ne_eq, Decidable.not_not, Int.not_lt, Int.not_le, gt_iff_lt, ge_iff_le, Bool.true_eq_false, Bool.false_eq_true, not_true_eq_false, not_false_eq_true] at h3p
        have hml : m < qs[u].2.length := by omega
        obtain ⟨t, ht⟩ : ∃ t : Nat, qs[u].2[m] = t := ⟨qs[u].2[m].toNat, by have := hto u hun _ (by rw [hrow]; exact List.getElem_mem hml); omega⟩
        have htm : (t : Int) ∈ rowG (gr qs) u := by rw [hrow, ← ht]; exact List.getElem_mem hml
        have htn : t < qs.length := by have := hto u hun _ htm; omega
        have hsn := hr2.ln
        have hat3 := atB_eq (l := s2) (i := t) (by omega)
        refine g_skip ?_
        refine n_then ?_
        refine g_seq ?_
        refine g_block ?_
        refine g_seq ?_
        -- region 12 ref.go:145
        refine g_region ?_
        refine wl_of (op_y (wn rfl) rfl rfl S (y_move rfl S rfl) fun a S => ?_)
        refine wl_of (op_y (wn rfl) rfl rfl S (y_move rfl S rfl) fun a S => ?_)
        refine wl_of (op_y (wn rfl) rfl rfl S (y_move rfl S rfl) fun a S => ?_)
        refine wl_of (op_y (wn rfl) rfl rfl S (y_iaddrn rfl Try.underlying23 Fsiz3 S H rfl rfl (by first | assumption | omega | (simp only [List.length_append, List.length_take, List.length_drop, List.length_replicate, List.length_set, List.length_map, List.length_cons, List.length_nil]; omega))) fun a S => ?_)
        refine wl_of (op_y (wn rfl) rfl rfl S (y_loads _ rfl Fsca3 S H rfl (by first | assumption | omega | (simp only [List.length_append, List.length_take, List.length_drop, List.length_replicate, List.length_set, List.length_map, List.length_cons, List.length_nil]; omega)) rfl) fun a S => ?_)
        rw [hu] at S
        refine wl_of (op_y (wn rfl) rfl rfl S (y_iaddrn rfl Try.underlying22 Fsiz23 S H rfl rfl (by first | assumption | omega | (simp only [List.length_append, List.length_take, List.length_drop, List.length_replicate, List.length_set, List.length_map, List.length_cons, List.length_nil]; omega))) fun a S => ?_)
        refine wl_of (op_y (wn rfl) rfl rfl S (y_loads _ rfl Fsca23 S H rfl (by first | assumption | omega | (simp only [List.length_append, List.length_take, List.length_drop, List.length_replicate, List.length_set, List.length_map, List.length_cons, List.length_nil]; omega)) rfl) fun a S => ?_)
        refine wl_of (op_y (wn rfl) rfl rfl S (y_move rfl S rfl) fun a S => ?_)
        refine wl_of (op_y (wn rfl) rfl rfl S (y_iaddrn rfl Try.underlying23 Fsiz3 S H rfl rfl (by first | assumption | omega | (simp only [List.length_append, List.length_take, List.length_drop, List.length_replicate, List.length_set, List.length_map, List.length_cons, List.length_nil]; omega))) fun a S => ?_)
        refine wl_of (op_y (wn rfl) rfl rfl S (y_loads _ rfl Fsca3 S H rfl (by first | assumption | omega | (simp only [List.length_append, List.length_take, List.length_drop, List.length_replicate, List.length_set, List.length_map, List.length_cons, List.length_nil]; omega)) rfl) fun a S => ?_)
        rw [ht] at S
        refine wl_of (op_y (wn rfl) rfl rfl S (y_assign rfl S rfl) fun a S => ?_)
        refine gl_nil ?_
        refine n_then ?_
        refine g_seq ?_
        -- region 13 ref.go:146
        refine g_region ?_
        refine wl_of (op_y (wn rfl) rfl rfl S (y_move rfl S rfl) fun a S => ?_)
        refine wl_of (op_y (wn rfl) rfl rfl S (y_move rfl S rfl) fun a S => ?_)
        refine wl_of (op_y (wn rfl) rfl rfl S (y_iaddrn rfl Try.underlying38 Fsiz4 S H rfl rfl (by first | assumption | omega | (simp only [List.length_append, List.length_take, List.length_drop, List.length_replicate, List.length_set, List.length_map, List.length_cons, List.length_nil]; omega))) fun a S => ?_)
        refine wl_of (op_y (wn rfl) rfl rfl S (y_loads _ rfl Fsca4 S H rfl (by first | assumption | omega | (simp only [List.length_append, List.length_take, List.length_drop, List.length_replicate, List.length_set, List.length_map, List.length_cons, List.length_nil]; omega)) rfl) fun a S => ?_)
        refine wl_of (op_y (wn rfl) rfl rfl S (y_not rfl S rfl) fun a S => ?_)
        refine gl_nil ?_
        refine n_then ?_
        -- cond 4 (both ways go on)
        refine c_if S rfl (fun h4 => ?_) (fun h4 => ?_)
        · have h4p := h4; try simp only [Option.isNone_some, Option.isNone_none, Option.isSome_some, Option.isSome_none, false_or, or_false, true_and, and_true, decide_eq_true_eq, decide_eq_false_iff_not, Bool.or_eq_true, Bool.and_eq_true, Bool.or_eq_false_iff, Bool.and_eq_false_iff, Bool.not_eq_true', Bool.not_eq_false', bne_iff_ne, beq_iff_eq, beq_eq_false_iff_ne, bne_eq_false_iff_eq, ne_eq, Decidable.not_not, Int.not_lt, Int.not_le, gt_iff_lt, ge_iff_le, Bool.true_eq_false, Bool.false_eq_true, not_true_eq_false, not_false_eq_true] at h4p
          have hst : atB s2 t = false := by rw [hat3]; simpa using h4
          refine g_seq ?_
          -- region 14 ref.go:147
          refine g_region ?_
          refine wl_of (op_y (wn rfl) rfl rfl S (y_move rfl S rfl) fun a S => ?_)
          refine wl_of (op_y (wn rfl) rfl rfl S (y_move rfl S rfl) fun a S => ?_)
          refine wl_of (op_y (wn rfl) rfl rfl S (y_iaddrn rfl Try.underlying38 Fsiz4 S H rfl rfl (by first | assumption | omega | (simp only [List.length_append, List.length_take, List.length_drop, List.length_replicate, List.length_set, List.length_map, List.length_cons, List.length_nil]; omega))) fun a S => ?_)
          refine wl_of (op_store1 _ (true) (wn rfl) rfl rfl S H rfl rfl rfl rfl Fsiz4 (by first | assumption | omega | (simp only [List.length_append, List.length_take, List.length_drop, List.length_replicate, List.length_set, List.length_map, List.length_cons, List.length_nil]; omega)) (by exact rfl) fun a w S H => ?_)
          refine gl_nil ?_
          refine n_then ?_
          -- region 15 ref.go:148
          refine g_region ?_
          refine wl_of (op_y (wn rfl) rfl rfl S (y_move rfl S rfl) fun a S => ?_)
          refine wl_of (op_y (wn rfl) rfl rfl S (y_move rfl S rfl) fun a S => ?_)
          refine wl_of (op_buildSlice (wn rfl) rfl rfl rfl Try.underlying23 Finf3 S H (idx := [0]) rfl rfl rfl (z := [.int .i64 0]) (by kernel_rfl) (cs := [_]) rfl fun b64 a w S H => ?_)
          refine wl_of (op_append ([(t : Int)]) (wn rfl) rfl rfl rfl Try.underlying23 Finf3 rfl rfl S H rfl rfl rfl rfl (by simp) (by simp [encI]) (by simp [encI, Value.oneCell']) (by simp only [List.length_cons, List.length_nil]; omega) (by simp only [List.length_cons, List.length_nil]; omega) fun u65 a w hn65 S H => ?_)
          refine wl_of (op_y (wn rfl) rfl rfl S (y_assign rfl S rfl) fun a S => ?_)
          refine gl_nil ?_
          refine n_block ?_
          refine n_then ?_
          -- region 11 ref.go:144
          refine g_region ?_
          refine wl_of (op_y (wn rfl) rfl rfl S (y_move rfl S rfl) fun a S => ?_)
          refine wl_of (op_y (wn rfl) rfl rfl S (y_add rfl S rfl rfl (by omega)) fun a S => ?_)
          refine wl_of (op_y (wn rfl) rfl rfl S (y_assign rfl S rfl) fun a S => ?_)
          refine gl_nil ?_
          refine n_then ?_
          first
          | exact ⟨(l2 ++ [(t : Int)], m + 1, u65), (S.nil.cons S 10 rfl).cons S 8 rfl, (((((((((((((S.nil.cons S 2 rfl).cons S 0 rfl).cons S 7 rfl).cons S 9 rfl).cons S 20 rfl).cons S 21 rfl).cons S 22 rfl).cons S 23 rfl).cons S 26 rfl).cons S 27 rfl).cons S 28 rfl).cons S 29 rfl).cons S 30 rfl).cons S 31 rfl, ⟨by dsimp only; omega, by dsimp only; simp only [List.length_append]; omega, by dsimp only; rw [← hat2]; unfold atI; simp only [List.getD_eq_getElem?_getD, List.getElem?_append_left hkl2], s2.set t true, rx_add hr2 (by rw [← hu]; exact List.getElem_mem _) htm htn hst hkl2, fun p hp hpl => by by_cases hpm : p < m; exact List.mem_append_left _ (hpre p hpm hpl); (obtain rfl : p = m := by dsimp only at hp; omega); rw [atI_eq hpl, ht]; simp, H.take [OSl 3 u65 1 encI (l2 ++ [(t : Int)]), OSl 4 (.slice (some ⟨b14, 0, none⟩) qs.length qs.length) 1 encB (s2.set t true), RowsS 1 encI qs, Sl v 1 encRow qs]⟩, by dsimp only; omega⟩
          | exact ⟨(l2, m + 1, vl2), (S.nil.cons S 10 rfl).cons S 8 rfl, (((((((((((((S.nil.cons S 2 rfl).cons S 0 rfl).cons S 7 rfl).cons S 9 rfl).cons S 20 rfl).cons S 21 rfl).cons S 22 rfl).cons S 23 rfl).cons S 26 rfl).cons S 27 rfl).cons S 28 rfl).cons S 29 rfl).cons S 30 rfl).cons S 31 rfl, ⟨by dsimp only; omega, hll, hat2, s2, hr2, fun p hp hpl => by by_cases hpm : p < m; exact hpre p hpm hpl; (obtain rfl : p = m := by dsimp only at hp; omega); rw [atI_eq hpl, ht]; exact (hr2.mem t).1 hst, H⟩, by dsimp only; omega⟩
        · have h4p := h4; try simp only [Option.isNone_some, Option.isNone_none, Option.isSome_some, Option.isSome_none, false_or, or_false, true_and, and_true, decide_eq_true_eq, decide_eq_false_iff_not, Bool.or_eq_true, Bool.and_eq_true, Bool.or_eq_false_iff, Bool.and_eq_false_iff, Bool.not_eq_true', Bool.not_eq_false', bne_iff_ne, beq_iff_eq, beq_eq_false_iff_ne, bne_eq_false_iff_eq, ne_eq, Decidable.not_not, Int.not_lt, Int.not_le, gt_iff_lt, ge_iff_le, Bool.true_eq_false, Bool.false_eq_true, not_true_eq_false, not_false_eq_true] at h4p
          have hst : atB s2 t = true := by rw [hat3]; simpa using h4
          refine g_skip ?_
          refine n_block ?_
          refine n_then ?_
          -- region 11 ref.go:144
          refine g_region ?_
          refine wl_of (op_y (wn rfl) rfl rfl S (y_move rfl S rfl) fun a S => ?_)
          refine wl_of (op_y (wn rfl) rfl rfl S (y_add rfl S rfl rfl (by omega)) fun a S => ?_)
          refine wl_of (op_y (wn rfl) rfl rfl S (y_assign rfl S rfl) fun a S => ?_)
          refine gl_nil ?_
          refine n_then ?_
          first
          | exact ⟨(l2 ++ [(t : Int)], m + 1, u65), (S.nil.cons S 10 rfl).cons S 8 rfl, (((((((((((((S.nil.cons S 2 rfl).cons S 0 rfl).cons S 7 rfl).cons S 9 rfl).cons S 20 rfl).cons S 21 rfl).cons S 22 rfl).cons S 23 rfl).cons S 26 rfl).cons S 27 rfl).cons S 28 rfl).cons S 29 rfl).cons S 30 rfl).cons S 31 rfl, ⟨by dsimp only; omega, by dsimp only; simp only [List.length_append]; omega, by dsimp only; rw [← hat2]; unfold atI; simp only [List.getD_eq_getElem?_getD, List.getElem?_append_left hkl2], s2.set t true, rx_add hr2 (by rw [← hu]; exact List.getElem_mem _) htm htn hst hkl2, fun p hp hpl => by by_cases hpm : p < m; exact List.mem_append_left _ (hpre p hpm hpl); (obtain rfl : p = m := by dsimp only at hp; omega); rw [atI_eq hpl, ht]; simp, H.take [OSl 3 u65 1 encI (l2 ++ [(t : Int)]), OSl 4 (.slice (some ⟨b14, 0, none⟩) qs.length qs.length) 1 encB (s2.set t true), RowsS 1 encI qs, Sl v 1 encRow qs]⟩, by dsimp only; omega⟩
          | exact ⟨(l2, m + 1, vl2), (S.nil.cons S 10 rfl).cons S 8 rfl, (((((((((((((S.nil.cons S 2 rfl).cons S 0 rfl).cons S 7 rfl).cons S 9 rfl).cons S 20 rfl).cons S 21 rfl).cons S 22 rfl).cons S 23 rfl).cons S 26 rfl).cons S 27 rfl).cons S 28 rfl).cons S 29 rfl).cons S 30 rfl).cons S 31 rfl, ⟨by dsimp only; omega, hll, hat2, s2, hr2, fun p hp hpl => by by_cases hpm : p < m; exact hpre p hpm hpl; (obtain rfl : p = m := by dsimp only at hp; omega); rw [atI_eq hpl, ht]; exact (hr2.mem t).1 hst, H⟩, by dsimp only; omega⟩
      · have h3p := h3; try simp only [Option.isNone_some, Option.isNone_none, Option.isSome_some, Option.isSome_none, false_or, or_false, true_and, and_true, decide_eq_true_eq, decide_eq_false_iff_not, Bool.or_eq_true, Bool.and_eq_true, Bool.or_eq_false_iff, Bool.and_eq_false_iff, Bool.not_eq_true', Bool.not_eq_false', bne_iff_ne, beq_iff_eq, beq_eq_false_iff_ne, bne_eq_false_iff_eq, ne_eq, Decidable.not_not, Int.not_lt, Int.not_le, gt_iff_lt, ge_iff_le, Bool.true_eq_false, Bool.false_eq_true, not_true_eq_false, not_false_eq_true] at h3p
        refine g_exit ?_
        refine x_then (x_then (x_eq ?_))
        refine n_block ?_
        refine n_then ?_
        -- region 6 ref.go:140
        refine g_region ?_
        refine wl_of (op_y (wn rfl) rfl rfl S (y_move rfl S rfl) fun a S => ?_)
        refine wl_of (op_y (wn rfl) rfl rfl S (y_add rfl S rfl rfl (by omega)) fun a S => ?_)
        refine wl_of (op_y (wn rfl) rfl rfl S (y_assign rfl S rfl) fun a S => ?_)
        refine gl_nil ?_
        refine n_then ?_
        have hln2 := rx_len hr2
        exact ⟨(l2, k + 1, vl2), (S.nil.cons S 9 rfl).cons S 8 rfl, ((S.nil.cons S 2 rfl).cons S 0 rfl).cons S 7 rfl, ⟨by dsimp only; omega, s2, rx_step hr2 hat2 hne (fun t ht => by
          rw [hrow] at ht
          obtain ⟨p, hp, e⟩ := mem_at ht
          rw [← e]; exact hpre p (by omega) hp), H⟩, by dsimp only; omega⟩
  · have h1p := h1; try simp only [Option.isNone_some, Option.isNone_none, Option.isSome_some, Option.isSome_none, false_or, or_false, true_and, and_true, decide_eq_true_eq, decide_eq_false_iff_not, Bool.or_eq_true, Bool.and_eq_true, Bool.or_eq_false_iff, Bool.and_eq_false_iff, Bool.not_eq_true', Bool.not_eq_false', bne_iff_ne, beq_iff_eq, beq_eq_false_iff_ne, bne_eq_false_iff_eq, ne_eq, Decidable.not_not, Int.not_lt, Int.not_le, gt_iff_lt, ge_iff_le, Bool.true_eq_false, Bool.false_eq_true, not_true_eq_false, not_false_eq_true] at h1p
    refine g_exit ?_
    refine x_then (x_then (x_eq ?_))
    refine n_then ?_
    have S := S.nil
    refine g_seq ?_
    -- region 16 ref.go:152
    refine g_region ?_
    refine wl_of (op_y (wn rfl) rfl rfl S (y_assign rfl S rfl) fun a S => ?_)
    refine gl_nil ?_
    refine n_then ?_
    refine g_ret ?_
    refine ret1 rfl S rfl ?_
    exact ⟨congrArg Value.bool (rchB_no (rx_no hto hrx (by omega))).symm, H.toExt⟩

end Go.Proofs.Ytoghkehlmibniaa
