/- The walks. No condition. -/
import Derived.Test.YtoghkehlmibniaaChecked
import Derived.Test.YtoghkehlmibniaaGwQue
import Derived.Test.YtoghkehlmibniaaFacts
import Derived.Test.YtoghkehlmibniaaPlain
import Derived.Test.YtoghkehlmibniaaPlainF
import Derived.Test.YtoghkehlmibniaaW14
namespace Go.Proofs.Ytoghkehlmibniaa
open Go Go.Gw
set_option linter.unusedVariables false
set_option linter.unusedSimpArgs false

theorem swap_all (v : Value) (ps : List (Value × List Int)) (w0 : World) (hv : IsSl w0 v 1 encRow ps) (hr : ∀ p ∈ ps, IsSl w0 p.1 1 encI p.2) :
    Ret Try.prog 13 #[v] w0 (fun u w => ∃ vo out e, u = .tuple #[vo, .int .i64 e] ∧ ((ps.length ≤ 1000 ∧ SwapRes (gr ps) out e) ∨ (1000 < ps.length ∧ e = 3 ∧ out = [])) ∧ HSat No w0 [OSl 3 vo 1 encI out] w) := by
  by_cases h : ps.length ≤ 1000
  · exact Ret.mono (swap_any v ps w0 hv hr h) (fun u w ⟨vo, out, e, h1, h2, H⟩ => ⟨vo, out, e, h1, .inl ⟨h, h2⟩, H⟩)
  · exact Ret.mono (swap_many v ps w0 hv hr (by omega)) (fun u w ⟨e, he⟩ => ⟨.slice none 0 0, [], 3, e, .inr ⟨by omega, rfl, rfl⟩, ((HSat.start w0).ext he).nilO 3 1 encI⟩)
theorem rwsCap {M : Nat → Prop} {w w0 : World} {l : List Atom} (H : HSat M w0 l w) (e : TypeId) {sz : Nat} {α : Type} {enc : α → List Value} (ps : List (Value × List α)) [h : HasAt l (RowsA e sz enc ps)] : ∀ p ∈ ps, capOK p.1 := fun p hp =>
  IsOSl.cap (((H.ok _ h.mem).1 (OSl e p.1 sz enc p.2) (List.mem_map.2 ⟨p, hp, rfl⟩)).2)
set_option maxHeartbeats 4000000 in
/-- foyer/foyerlaw35.PoolMany -/
theorem law2 (holders step : Int) (w0 : World) (hh : 0 ≤ holders ∧ holders ≤ 65535) (hs : 0 ≤ step ∧ step ≤ 65535) :
    Ret Try.prog 4 #[.int .u16 holders, .int .u16 step] w0 (fun v w => v = .bool true ∧ Ext w0 w) := by
  refine ret_of_wp (nt := 80) Try.func4 rfl rfl rfl (fl := [(0, .int .u16 holders), (1, .int .u16 step)]) rfl (fun a S => ?_)
  have H := HSat.start w0
  refine g_seq ?_
  -- region 0 law.go:34
  refine g_region ?_
  refine wl_of (op_y (wn rfl) rfl rfl S (y_assign rfl S rfl) fun a S => ?_)
  refine gl_nil ?_
  refine n_then ?_
  refine g_seq ?_
  -- region 1 law.go:35
  refine g_region ?_
  refine wl_of (op_call (wn rfl) rfl rfl S (co_func rfl Try.call11 S rfl) (head_spec _) fun v w hc a S => ?_)
  obtain ⟨rfl, he⟩ := hc
  have H := H.ext he
  refine wl_of (op_y (wn rfl) rfl rfl S (y_assign rfl S rfl) fun a S => ?_)
  refine gl_nil ?_
  refine n_then ?_
  refine g_seq ?_
  -- region 2 law.go:36
  refine g_region ?_
  refine wl_of (op_y (wn rfl) rfl rfl S (y_move rfl S rfl) fun a S => ?_)
  refine wl_of (op_y (wn rfl) rfl rfl S (y_conv rfl Try.underlying31 Try.underlying3 S rfl (by omega)) fun a S => ?_)
  refine wl_of (op_y (wn rfl) rfl rfl S (y_remn rfl S rfl rfl (by omega) (by omega)) fun a S => ?_)
  have ham := Int.emod_nonneg holders (show (1101 : Int) ≠ 0 by omega)
  have ham2 := Int.emod_lt_of_pos holders (show (0 : Int) < 1101 by omega)
  obtain ⟨n, hn⟩ : ∃ n : Nat, holders % 1101 = n := ⟨(holders % 1101).toNat, by omega⟩
  rw [hn] at S
  refine wl_of (op_y (wn rfl) rfl rfl S (y_assign rfl S rfl) fun a S => ?_)
  refine gl_nil ?_
  refine n_then ?_
  have S := (((S.nil.cons S 1 rfl).cons S 4 rfl).cons S 5 rfl).cons S 6 rfl
  refine g_seq ?_
  -- region 3 law.go:37
  refine g_region ?_
  refine wl_of (op_y (wn rfl) rfl rfl S (y_assign rfl S rfl) fun a S => ?_)
  refine gl_nil ?_
  refine n_then ?_
  refine g_seq ?_
  refine g_seq ?_
  -- region 4 law.go:38
  refine g_region ?_
  refine wl_of (op_y (wn rfl) rfl rfl S (y_assign rfl S rfl) fun a S => ?_)
  refine gl_nil ?_
  refine n_then ?_
  refine g_block ?_
  have H := (H.rowsZ 3 1 encI).nilO 23 1 (encRow (α := Int))
  have SU := (((S.nil.cons S 1 rfl).cons S 4 rfl).cons S 5 rfl).cons S 6 rfl
  refine loopW (X := Nat × Value) SU (fun x => [(7, x.2), (8, .int .i64 (x.1 : Int))]) (fun x w => x.1 ≤ n ∧ ∃ qs, gr qs = manyW n step x.1 ∧ HSat No w0 [OSl 23 x.2 1 encRow (qs), RowsA 3 1 encI (qs)] w) (fun x => n - x.1) (0, .slice none 0 0) ((S.nil.cons S 8 rfl).cons S 7 rfl) (⟨by simp, [], rfl, H.take [OSl 23 (.slice none 0 0) 1 encRow (([] : List (Value × List Int))), RowsA 3 1 encI (([] : List (Value × List Int)))]⟩) (fun x a w S hW => ?_)
  simp only [List.cons_append, List.nil_append] at S
  clear H
  obtain ⟨i, vw⟩ := x
  obtain ⟨hi, qs, hq, H⟩ := hW
  dsimp only at S H hi hq
  have hqi : qs.length = i := by have := congrArg List.length hq; rw [gr_len, many_len] at this; exact this
  refine g_seq ?_
  refine g_seq ?_
  -- region 5 law.go:38
  refine g_region ?_
  refine wl_of (op_y (wn rfl) rfl rfl S (y_move rfl S rfl) fun a S => ?_)
  refine wl_of (op_y (wn rfl) rfl rfl S (y_move rfl S rfl) fun a S => ?_)
  refine wl_of (op_y (wn rfl) rfl rfl S (y_bin rfl S rfl rfl rfl) fun a S => ?_)
  refine gl_nil ?_
  refine n_then ?_
  -- cond 1
  refine c_if S rfl (fun h1 => ?_) (fun h1 => ?_)
  · have h1p := h1; try simp only [Option.isNone_some, Option.isNone_none, Option.isSome_some, Option.isSome_none, false_or, or_false, true_and, and_true, decide_eq_true_eq, decide_eq_false_iff_not, Bool.or_eq_true, Bool.and_eq_true, Bool.or_eq_false_iff, Bool.and_eq_false_iff, Bool.not_eq_true', Bool.not_eq_false', bne_iff_ne, beq_iff_eq, beq_eq_false_iff_ne, bne_eq_false_iff_eq, ne_eq, Decidable.not_not, Int.not_lt, Int.not_le, gt_iff_lt, ge_iff_le, Bool.true_eq_false, Bool.false_eq_true, not_true_eq_false, not_false_eq_true] at h1p
    have hin : i < n := by omega
    have hem := Int.emod_nonneg ((i : Int) + step) (show (n : Int) ≠ 0 by omega)
    refine g_skip ?_
    refine n_then ?_
    refine g_seq ?_
    refine g_block ?_
    -- region 7 law.go:39
    refine g_region ?_
    refine wl_of (op_y (wn rfl) rfl rfl S (y_move rfl S rfl) fun a S => ?_)
    refine wl_of (op_y (wn rfl) rfl rfl S (y_move rfl S rfl) fun a S => ?_)
    refine wl_of (op_y (wn rfl) rfl rfl S (y_move rfl S rfl) fun a S => ?_)
    refine wl_of (op_y (wn rfl) rfl rfl S (y_conv rfl Try.underlying31 Try.underlying3 S rfl (by omega)) fun a S => ?_)
    refine wl_of (op_y (wn rfl) rfl rfl S (y_add rfl S rfl rfl (by omega)) fun a S => ?_)
    refine wl_of (op_y (wn rfl) rfl rfl S (y_move rfl S rfl) fun a S => ?_)
    refine wl_of (op_y (wn rfl) rfl rfl S (y_remn rfl S rfl rfl (by omega) (by omega)) fun a S => ?_)
    refine wl_of (op_buildSlice (wn rfl) rfl rfl rfl Try.underlying23 Finf3 S H (idx := [0]) rfl rfl rfl (z := [.int .i64 0]) (by kernel_rfl) (cs := [_]) rfl fun b28 a w S H => ?_)
    have H := H.celO [((i : Int) + step) % (n : Int)] encI 1 (m := 1) rfl (by simp [encI]) rfl (by omega)
    refine wl_of (op_buildSlice (wn rfl) rfl rfl rfl Try.underlying22 Finf23 S H (idx := [0]) rfl rfl rfl (z := [.slice none 0 0]) (by kernel_rfl) (cs := [_]) rfl fun b29 a w S H => ?_)
    refine wl_of (op_append ([((Value.slice (some ⟨b28, 0, none⟩) 1 1), [((i : Int) + step) % (n : Int)])]) (wn rfl) rfl rfl rfl Try.underlying22 Finf23 rfl rfl S H rfl rfl rfl rfl (by simp) (by simp [encRow]) (by simp [encRow, Value.oneCell']) (by simp only [List.length_cons, List.length_nil]; omega) (by simp only [List.length_cons, List.length_nil]; omega) fun u30 a w hn30 S H => ?_)
    refine wl_of (op_y (wn rfl) rfl rfl S (y_assign rfl S rfl) fun a S => ?_)
    refine gl_nil ?_
    refine n_block ?_
    refine n_then ?_
    -- region 6 law.go:38
    refine g_region ?_
    refine wl_of (op_y (wn rfl) rfl rfl S (y_move rfl S rfl) fun a S => ?_)
    refine wl_of (op_y (wn rfl) rfl rfl S (y_add rfl S rfl rfl (by omega)) fun a S => ?_)
    refine wl_of (op_y (wn rfl) rfl rfl S (y_assign rfl S rfl) fun a S => ?_)
    refine gl_nil ?_
    refine n_then ?_
    exact ⟨(i + 1, u30), (S.nil.cons S 8 rfl).cons S 7 rfl, (((S.nil.cons S 1 rfl).cons S 4 rfl).cons S 5 rfl).cons S 6 rfl, ⟨by dsimp only; omega, qs ++ [((Value.slice (some ⟨b28, 0, none⟩) 1 1), [((i : Int) + step) % (n : Int)])], by dsimp only; rw [many_snoc, ← hq]; simp [gr], ((H.front2 (OSl 3 (.slice (some ⟨b28, 0, none⟩) 1 1) 1 encI [((i : Int) + step) % (n : Int)]) (RowsA 3 1 encI qs)).rowSnoc).take [OSl 23 u30 1 encRow (qs ++ [((Value.slice (some ⟨b28, 0, none⟩) 1 1), [((i : Int) + step) % (n : Int)])]), RowsA 3 1 encI (qs ++ [((Value.slice (some ⟨b28, 0, none⟩) 1 1), [((i : Int) + step) % (n : Int)])])]⟩, by dsimp only; omega⟩
  · have h1p := h1; try simp only [Option.isNone_some, Option.isNone_none, Option.isSome_some, Option.isSome_none, false_or, or_false, true_and, and_true, decide_eq_true_eq, decide_eq_false_iff_not, Bool.or_eq_true, Bool.and_eq_true, Bool.or_eq_false_iff, Bool.and_eq_false_iff, Bool.not_eq_true', Bool.not_eq_false', bne_iff_ne, beq_iff_eq, beq_eq_false_iff_ne, bne_eq_false_iff_eq, ne_eq, Decidable.not_not, Int.not_lt, Int.not_le, gt_iff_lt, ge_iff_le, Bool.true_eq_false, Bool.false_eq_true, not_true_eq_false, not_false_eq_true] at h1p
    obtain rfl : i = n := by omega
    have hql : qs.length = i := by have := congrArg List.length hq; rw [gr_len, many_len] at this; exact this
    refine g_exit ?_
    refine x_then (x_then (x_eq ?_))
    refine n_then ?_
    have S := (((S.nil.cons S 4 rfl).cons S 5 rfl).cons S 6 rfl).cons S 7 rfl
    refine g_seq ?_
    -- region 8 law.go:41
    refine g_region ?_
    refine wl_of (op_y (wn rfl) rfl rfl S (y_move rfl S rfl) fun a S => ?_)
    refine wl_of (op_call (wn rfl) rfl rfl S (co_func rfl Try.call13 S rfl) (swap_all vw qs _ (H.sl vw) (H.rws 3 qs)) fun v w hc a S => ?_)
    obtain ⟨vo1, out1, e1, rfl, hs1, H1⟩ := hc
    have H := H.call1 H1 rfl
    refine wl_of (op_y (wn rfl) rfl rfl S (y_move rfl S rfl) fun a S => ?_)
    refine wl_of (op_y (wn rfl) rfl rfl S (y_extract rfl S rfl rfl) fun a S => ?_)
    refine wl_of (op_y (wn rfl) rfl rfl S (y_extract rfl S rfl rfl) fun a S => ?_)
    refine wl_of (op_y (wn rfl) rfl rfl S (y_assign rfl S rfl) fun a S => ?_)
    refine wl_of (op_y (wn rfl) rfl rfl S (y_assign rfl S rfl) fun a S => ?_)
    refine gl_nil ?_
    refine n_then ?_
    have S := (((((S.nil.cons S 4 rfl).cons S 5 rfl).cons S 6 rfl).cons S 7 rfl).cons S 9 rfl).cons S 10 rfl
    refine g_seq ?_
    refine g_seq ?_
    -- region 9 law.go:42
    refine g_region ?_
    refine wl_of (op_y (wn rfl) rfl rfl S (y_move rfl S rfl) fun a S => ?_)
    refine wl_of (op_y (wn rfl) rfl rfl S (y_bin rfl S rfl rfl rfl) fun a S => ?_)
    refine gl_nil ?_
    refine n_then ?_
    -- cond 2
    refine c_if S rfl (fun h2 => ?_) (fun h2 => ?_)
    · have h2p := h2; try simp only [Option.isNone_some, Option.isNone_none, Option.isSome_some, Option.isSome_none, false_or, or_false, true_and, and_true, decide_eq_true_eq, decide_eq_false_iff_not, Bool.or_eq_true, Bool.and_eq_true, Bool.or_eq_false_iff, Bool.and_eq_false_iff, Bool.not_eq_true', Bool.not_eq_false', bne_iff_ne, beq_iff_eq, beq_eq_false_iff_ne, bne_eq_false_iff_eq, ne_eq, Decidable.not_not, Int.not_lt, Int.not_le, gt_iff_lt, ge_iff_le, Bool.true_eq_false, Bool.false_eq_true, not_true_eq_false, not_false_eq_true] at h2p
      obtain ⟨rfl, rfl⟩ : e1 = 3 ∧ out1 = [] := by
        rcases hs1 with ⟨h, _⟩ | ⟨_, h⟩
        · omega
        · exact h
      refine g_seq ?_
      -- region 10 law.go:43
      refine g_region ?_
      refine wl_of (op_y (wn rfl) rfl rfl S (y_move rfl S rfl) fun a S => ?_)
      refine wl_of (op_y (wn rfl) rfl rfl S (y_move rfl S rfl) fun a S => ?_)
      refine wl_of (op_y (wg' 39 rfl rfl S rfl rfl rfl) rfl rfl S (y_move rfl S rfl) fun a S => ?_)
      refine wl_of (op_y (wg' 39 rfl rfl S rfl rfl rfl) rfl rfl S (y_bin rfl S rfl rfl rfl) fun a S => ?_)
      refine wl_of (op_y (wn rfl) rfl rfl S (y_and' rfl rfl S rfl rfl) fun a S => ?_)
      refine wl_of (op_y (wn rfl) rfl rfl S (y_move rfl S rfl) fun a S => ?_)
      refine wl_of (op_y (wg' 43 rfl rfl S rfl rfl rfl) rfl rfl S (y_move rfl S rfl) fun a S => ?_)
      refine wl_of (op_y (wg' 43 rfl rfl S rfl rfl rfl) rfl rfl S (y_lens rfl Try.underlying23 S H rfl) fun a S => ?_)
      refine wl_of (op_y (wg' 43 rfl rfl S rfl rfl rfl) rfl rfl S (y_bin rfl S rfl rfl rfl) fun a S => ?_)
      refine wl_of (op_y (wn rfl) rfl rfl S (y_and' rfl rfl S rfl rfl) fun a S => ?_)
      refine wl_of (op_y (wn rfl) rfl rfl S (y_move rfl S rfl) fun a S => ?_)
      refine wl_of (op_y (wg' 48 rfl rfl S rfl (by simp) rfl) rfl rfl S (y_move rfl S rfl) fun a S => ?_)
      refine wl_of (op_y (wg' 48 rfl rfl S rfl (by simp) rfl) rfl rfl S (y_move rfl S rfl) fun a S => ?_)
      refine wl_of (op_make (encI) (0) (wg' 48 rfl rfl S rfl (by simp) rfl) rfl rfl rfl Try.underlying23 Finf3 rfl rfl S H rfl rfl rfl (by omega) (by omega) fun b51 a w S H => ?_)
      refine wl_of (op_call (wg' 48 rfl rfl S rfl (by simp) rfl) rfl rfl S (co_func rfl Try.call16 S rfl) (stable_is vw qs _ (List.replicate i 0) _ (H.sl vw) (H.rws 3 qs) (rwsCap (sz := 1) (enc := encI) H 3 qs) (H.sl _) (by omega) (b := false) (stab_no (fun hx => by have := hx.1; rw [gr_len] at this; omega))) fun v w hc a S => ?_)
      obtain ⟨rfl, he⟩ := hc
      have H := H.ext he
      refine wl_of (op_y (wg' 48 rfl rfl S rfl (by simp) rfl) rfl rfl S (y_not rfl S rfl) fun a S => ?_)
      refine wl_of (op_y (wn rfl) rfl rfl S (y_and' rfl (by simp) S rfl rfl) fun a S => ?_)
      refine wl_of (op_y (wn rfl) rfl rfl S (y_assign rfl S rfl) fun a S => ?_)
      refine gl_nil ?_
      refine n_then ?_
      have S := (((((S.nil.cons S 5 rfl).cons S 6 rfl).cons S 7 rfl).cons S 9 rfl).cons S 10 rfl).cons S 4 rfl
      refine g_ret ?_
      refine r_then (ret1 rfl S rfl ?_)
      exact ⟨by simp, H.toExt⟩
    · have h2p := h2; try simp only [Option.isNone_some, Option.isNone_none, Option.isSome_some, Option.isSome_none, false_or, or_false, true_and, and_true, decide_eq_true_eq, decide_eq_false_iff_not, Bool.or_eq_true, Bool.and_eq_true, Bool.or_eq_false_iff, Bool.and_eq_false_iff, Bool.not_eq_true', Bool.not_eq_false', bne_iff_ne, beq_iff_eq, beq_eq_false_iff_ne, bne_eq_false_iff_eq, ne_eq, Decidable.not_not, Int.not_lt, Int.not_le, gt_iff_lt, ge_iff_le, Bool.true_eq_false, Bool.false_eq_true, not_true_eq_false, not_false_eq_true] at h2p
      obtain ⟨rfl, hout⟩ : e1 = 0 ∧ out1 = (List.range i).map (fun (j : Nat) => ((j : Int) + step) % (i : Int)) := by
        rcases hs1 with ⟨h, h2⟩ | ⟨h, _⟩
        · rw [hq] at h2
          rcases h2 with ⟨_, rfl, r, ht⟩ | ⟨hb, _, _⟩
          · exact ⟨rfl, ttc_unique (many_ttc i step) ht⟩
          · rw [right_iff.2 (many_right i step)] at hb; cases hb
        · omega
      have hol : out1.length = i := by rw [hout]; simp
      refine g_skip ?_
      refine n_then ?_
      refine g_seq ?_
      refine g_seq ?_
      -- region 11 law.go:45
      refine g_region ?_
      refine wl_of (op_y (wn rfl) rfl rfl S (y_move rfl S rfl) fun a S => ?_)
      refine wl_of (op_y (wn rfl) rfl rfl S (y_bin rfl S rfl rfl rfl) fun a S => ?_)
      refine wl_of (op_y (wn rfl) rfl rfl S (y_move rfl S rfl) fun a S => ?_)
      refine' wl_or 4 57 rfl S H rfl rfl rfl rfl rfl rfl rfl (fun _ S => (wn rfl)) (fun h6 kk => ?yh6) (fun a w S H => ?_)
      case yh6 =>
        have h6p := h6; try simp only [Option.isNone_some, Option.isNone_none, Option.isSome_some, Option.isSome_none, false_or, or_false, true_and, and_true, decide_eq_true_eq, decide_eq_false_iff_not, Bool.or_eq_true, Bool.and_eq_true, Bool.or_eq_false_iff, Bool.and_eq_false_iff, Bool.not_eq_true', Bool.not_eq_false', bne_iff_ne, beq_iff_eq, beq_eq_false_iff_ne, bne_eq_false_iff_eq, ne_eq, Decidable.not_not, Int.not_lt, Int.not_le, gt_iff_lt, ge_iff_le, Bool.true_eq_false, Bool.false_eq_true, not_true_eq_false, not_false_eq_true] at h6p
        refine wl_of (op_y (wg' 57 rfl rfl S rfl h6 rfl) rfl rfl S (y_move rfl S rfl) fun a S => ?_)
        refine wl_of (op_y (wg' 57 rfl rfl S rfl h6 rfl) rfl rfl S (y_lens rfl Try.underlying23 S H rfl) fun a S => ?_)
        refine wl_of (op_y (wg' 57 rfl rfl S rfl h6 rfl) rfl rfl S (y_move rfl S rfl) fun a S => ?_)
        refine wl_of (op_y (wg' 57 rfl rfl S rfl h6 rfl) rfl rfl S (y_bin rfl S rfl rfl rfl) fun a S => ?_)
        refine wl_of (op_y (wn rfl) rfl rfl S (y_or' rfl h6 S rfl rfl) fun a S => ?_)
        exact kk _ _ (S.join 5 62 rfl rfl) H
      refine gl_nil ?_
      refine n_then ?_
      have S := (((((S.nil.cons S 4 rfl).cons S 5 rfl).cons S 6 rfl).cons S 7 rfl).cons S 9 rfl).cons S 62 rfl
      -- cond 3
      refine c_if S rfl (fun h7 => ?_) (fun h7 => ?_)
      · have h7p := h7; try simp only [Option.isNone_some, Option.isNone_none, Option.isSome_some, Option.isSome_none, false_or, or_false, true_and, and_true, decide_eq_true_eq, decide_eq_false_iff_not, Bool.or_eq_true, Bool.and_eq_true, Bool.or_eq_false_iff, Bool.and_eq_false_iff, Bool.not_eq_true', Bool.not_eq_false', bne_iff_ne, beq_iff_eq, beq_eq_false_iff_ne, bne_eq_false_iff_eq, ne_eq, Decidable.not_not, Int.not_lt, Int.not_le, gt_iff_lt, ge_iff_le, Bool.true_eq_false, Bool.false_eq_true, not_true_eq_false, not_false_eq_true] at h7p
        all_goals (
          exfalso
          have := h7p
          omega)
      · have h7p := h7; try simp only [Option.isNone_some, Option.isNone_none, Option.isSome_some, Option.isSome_none, false_or, or_false, true_and, and_true, decide_eq_true_eq, decide_eq_false_iff_not, Bool.or_eq_true, Bool.and_eq_true, Bool.or_eq_false_iff, Bool.and_eq_false_iff, Bool.not_eq_true', Bool.not_eq_false', bne_iff_ne, beq_iff_eq, beq_eq_false_iff_ne, bne_eq_false_iff_eq, ne_eq, Decidable.not_not, Int.not_lt, Int.not_le, gt_iff_lt, ge_iff_le, Bool.true_eq_false, Bool.false_eq_true, not_true_eq_false, not_false_eq_true] at h7p
        refine g_skip ?_
        refine n_then ?_
        refine g_seq ?_
        refine g_seq ?_
        -- region 13 law.go:48
        refine g_region ?_
        refine wl_of (op_y (wn rfl) rfl rfl S (y_assign rfl S rfl) fun a S => ?_)
        refine gl_nil ?_
        refine n_then ?_
        refine g_block ?_
        -- slots written in the loop and forgotten at its head: [4]
        have SU := (((S.nil.cons S 5 rfl).cons S 6 rfl).cons S 7 rfl).cons S 9 rfl
        refine loop_k (X := Nat) SU (fun k => [(11, .int .i64 (k : Int))]) (fun k => k ≤ i) (fun k => i - k) 0 (S.nil.cons S 11 rfl) H (by omega) (fun k a w S H hi => ?_)
        simp only [List.cons_append, List.nil_append] at S hi
        have hk9 := hi
        refine g_seq ?_
        refine g_seq ?_
        -- region 14 law.go:48
        refine g_region ?_
        refine wl_of (op_y (wn rfl) rfl rfl S (y_move rfl S rfl) fun a S => ?_)
        refine wl_of (op_y (wn rfl) rfl rfl S (y_move rfl S rfl) fun a S => ?_)
        refine wl_of (op_y (wn rfl) rfl rfl S (y_bin rfl S rfl rfl rfl) fun a S => ?_)
        refine gl_nil ?_
        refine n_then ?_
        -- cond 4
        refine c_if S rfl (fun h8 => ?_) (fun h8 => ?_)
        · have h8p := h8; try simp only [Option.isNone_some, Option.isNone_none, Option.isSome_some, Option.isSome_none, false_or, or_false, true_and, and_true, decide_eq_true_eq, decide_eq_false_iff_not, Bool.or_eq_true, Bool.and_eq_true, Bool.or_eq_false_iff, Bool.and_eq_false_iff, Bool.not_eq_true', Bool.not_eq_false', bne_iff_ne, beq_iff_eq, beq_eq_false_iff_ne, bne_eq_false_iff_eq, ne_eq, Decidable.not_not, Int.not_lt, Int.not_le, gt_iff_lt, ge_iff_le, Bool.true_eq_false, Bool.false_eq_true, not_true_eq_false, not_false_eq_true] at h8p
          have hki : k < i := by omega
          have hkq : k < qs.length := by omega
          have hrow : qs[k].2 = [((k : Int) + step) % (i : Int)] := by rw [← gr_row qs hkq, hq, many_row _ _ hki]
          have hrl : 0 < qs[k].2.length := by rw [hrow]; simp
          have hval : out1[k] = qs[k].2[0] := by simp only [hout, hrow]; simp
          refine g_skip ?_
          refine n_then ?_
          refine g_seq ?_
          refine g_block ?_
          refine g_seq ?_
          -- region 16 DRAWS law.go:49
          refine region_st (loud := []) (tails := []) (free := []) [0, 1, 2, 3, 4, 5, 6, 7, 8, 9, 10] [] Fmo (by kernel_rfl) (by kernel_rfl) rfl H ?_
          refine m_w rfl rfl (wn rfl) rfl rfl S (fun w H => y_move rfl S rfl) fun a S => ?_
          refine m_w rfl rfl (wn rfl) rfl rfl S (fun w H => y_move rfl S rfl) fun a S => ?_
          refine m_w rfl rfl (wn rfl) rfl rfl S (fun w H => y_iaddrn rfl Try.underlying23 Fsiz3 S H rfl rfl (by first | assumption | omega | (simp only [List.length_append, List.length_take, List.length_drop, List.length_replicate, List.length_set, List.length_map, List.length_cons, List.length_nil]; omega))) fun a S => ?_
          refine m_loads _ rfl rfl (wn rfl) rfl rfl S rfl Fsca3 rfl (by first | assumption | omega | (simp only [List.length_append, List.length_take, List.length_drop, List.length_replicate, List.length_set, List.length_map, List.length_cons, List.length_nil]; omega)) rfl fun a S => ?_
          refine m_w rfl rfl (wn rfl) rfl rfl S (fun w H => y_move rfl S rfl) fun a S => ?_
          refine m_w rfl rfl (wn rfl) rfl rfl S (fun w H => y_move rfl S rfl) fun a S => ?_
          refine m_w rfl rfl (wn rfl) rfl rfl S (fun w H => y_iaddrn rfl Try.underlying22 Fsiz23 S H rfl rfl (by first | assumption | omega | (simp only [List.length_append, List.length_take, List.length_drop, List.length_replicate, List.length_set, List.length_map, List.length_cons, List.length_nil]; omega))) fun a S => ?_
          refine m_loads _ rfl rfl (wn rfl) rfl rfl S rfl Fsca23 rfl (by first | assumption | omega | (simp only [List.length_append, List.length_take, List.length_drop, List.length_replicate, List.length_set, List.length_map, List.length_cons, List.length_nil]; omega)) rfl fun a S => ?_
          refine m_w rfl rfl (wn rfl) rfl rfl S (fun w H => y_iaddrs rfl Try.underlying23 Fsiz3 S H rfl rfl (by first | assumption | omega | (simp only [List.length_append, List.length_take, List.length_drop, List.length_replicate, List.length_set, List.length_map, List.length_cons, List.length_nil]; omega))) fun a S => ?_
          refine m_loads _ rfl rfl (wn rfl) rfl rfl S rfl Fsca3 rfl (by first | assumption | omega | (simp only [List.length_append, List.length_take, List.length_drop, List.length_replicate, List.length_set, List.length_map, List.length_cons, List.length_nil]; omega)) rfl fun a S => ?_
          refine m_w rfl rfl (wn rfl) rfl rfl S (fun w H => y_bin rfl S rfl rfl rfl) fun a S => ?_
          refine m_nil (fun w H => ?_)
          refine n_then ?_
          -- cond 5
          refine c_if S rfl (fun h9 => ?_) (fun h9 => ?_)
          · have h9p := h9; try simp only [Option.isNone_some, Option.isNone_none, Option.isSome_some, Option.isSome_none, false_or, or_false, true_and, and_true, decide_eq_true_eq, decide_eq_false_iff_not, Bool.or_eq_true, Bool.and_eq_true, Bool.or_eq_false_iff, Bool.and_eq_false_iff, Bool.not_eq_true', Bool.not_eq_false', bne_iff_ne, beq_iff_eq, beq_eq_false_iff_ne, bne_eq_false_iff_eq, ne_eq, Decidable.not_not, Int.not_lt, Int.not_le, gt_iff_lt, ge_iff_le, Bool.true_eq_false, Bool.false_eq_true, not_true_eq_false, not_false_eq_true] at h9p
            all_goals (
              exfalso
              exact h9p hval)
          · have h9p := h9; try simp only [Option.isNone_some, Option.isNone_none, Option.isSome_some, Option.isSome_none, false_or, or_false, true_and, and_true, decide_eq_true_eq, decide_eq_false_iff_not, Bool.or_eq_true, Bool.and_eq_true, Bool.or_eq_false_iff, Bool.and_eq_false_iff, Bool.not_eq_true', Bool.not_eq_false', bne_iff_ne, beq_iff_eq, beq_eq_false_iff_ne, bne_eq_false_iff_eq, ne_eq, Decidable.not_not, Int.not_lt, Int.not_le, gt_iff_lt, ge_iff_le, Bool.true_eq_false, Bool.false_eq_true, not_true_eq_false, not_false_eq_true] at h9p
            refine g_skip ?_
            refine n_block ?_
            refine n_then ?_
            -- region 15 law.go:48
            refine g_region ?_
            refine wl_of (op_y (wn rfl) rfl rfl S (y_move rfl S rfl) fun a S => ?_)
            refine wl_of (op_y (wn rfl) rfl rfl S (y_add rfl S rfl rfl (by omega)) fun a S => ?_)
            refine wl_of (op_y (wn rfl) rfl rfl S (y_assign rfl S rfl) fun a S => ?_)
            refine gl_nil ?_
            refine n_then ?_
            refine ⟨k + 1, S.nil.cons S 11 rfl, (((S.nil.cons S 5 rfl).cons S 6 rfl).cons S 7 rfl).cons S 9 rfl, H, ?_, ?_⟩
            · omega
            · omega
        · have h8p := h8; try simp only [Option.isNone_some, Option.isNone_none, Option.isSome_some, Option.isSome_none, false_or, or_false, true_and, and_true, decide_eq_true_eq, decide_eq_false_iff_not, Bool.or_eq_true, Bool.and_eq_true, Bool.or_eq_false_iff, Bool.and_eq_false_iff, Bool.not_eq_true', Bool.not_eq_false', bne_iff_ne, beq_iff_eq, beq_eq_false_iff_ne, bne_eq_false_iff_eq, ne_eq, Decidable.not_not, Int.not_lt, Int.not_le, gt_iff_lt, ge_iff_le, Bool.true_eq_false, Bool.false_eq_true, not_true_eq_false, not_false_eq_true] at h8p
          refine g_exit ?_
          refine x_then (x_then (x_eq ?_))
          refine n_then ?_
          have S := S.nil.cons S 5 rfl
          refine g_seq ?_
          -- region 18 law.go:53
          refine g_region ?_
          refine wl_of (op_y (wn rfl) rfl rfl S (y_move rfl S rfl) fun a S => ?_)
          refine wl_of (op_y (wn rfl) rfl rfl S (y_assign rfl S rfl) fun a S => ?_)
          refine gl_nil ?_
          refine n_then ?_
          refine g_ret ?_
          refine ret1 rfl S rfl ?_
          exact ⟨rfl, H.toExt⟩

end Go.Proofs.Ytoghkehlmibniaa
