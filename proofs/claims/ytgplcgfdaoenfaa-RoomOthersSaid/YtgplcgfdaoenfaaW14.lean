/- The walks. No condition. -/
import Derived.Test.YtgplcgfdaoenfaaChecked
import Derived.Test.YtgplcgfdaoenfaaGwCut
import Derived.Test.YtgplcgfdaoenfaaFacts
import Derived.Test.YtgplcgfdaoenfaaPlain
import Derived.Test.YtgplcgfdaoenfaaW12
namespace Go.Proofs.Ytgplcgfdaoenfaa
open Go Go.Gw
set_option linter.unusedVariables false
set_option linter.unusedSimpArgs false
set_option maxHeartbeats 4000000 in
/-- foyer/foyerlaw21.RoomEnds -/
theorem law5_ok (v1 v2 : Value) (order : List Int) (width span from_ : Int) (l : List Op) (w0 : World) (hv1 : IsSl w0 v1 1 encI order) (hv2 : IsSl w0 v2 3 Op.enc l) (hok : newOK order width span from_ = true) (hl1 : order.length ≤ 60) (hl2 : l.length ≤ 40) :
    Ret Try.prog 7 #[v1, .int .i64 width, .int .i64 span, .int .i64 from_, v2] w0 (fun v w => v = .bool true ∧ Ext w0 w) := by
  refine ret_of_wp (nt := 106) Try.func7 rfl rfl rfl (fl := [(0, v1), (1, .int .i64 width), (2, .int .i64 span), (3, .int .i64 from_), (4, v2)]) rfl (fun a S => ?_)
  have H := HSat.start w0
  have H := H.ro0 (Sl v1 1 encI order) rfl (hv1)
  have H := H.ro0 (Sl v2 3 Op.enc l) rfl (hv2)
  refine g_seq ?_
  -- region 0 law.go:133
  refine g_region ?_
  refine wl_of (op_y (wn rfl) rfl rfl S (y_assign rfl S rfl) fun a S => ?_)
  refine gl_nil ?_
  refine n_then ?_
  refine g_seq ?_
  -- region 1 law.go:134
  refine g_region ?_
  refine wl_of (op_call (wn rfl) rfl rfl S (co_func rfl Try.call9 S rfl) (head_spec _) fun v w hc a S => ?_)
  obtain ⟨rfl, he⟩ := hc
  have H := H.ext he
  refine wl_of (op_y (wn rfl) rfl rfl S (y_assign rfl S rfl) fun a S => ?_)
  refine gl_nil ?_
  refine n_then ?_
  refine g_seq ?_
  -- region 2 law.go:135
  refine g_region ?_
  refine wl_of (op_y (wn rfl) rfl rfl S (y_move rfl S rfl) fun a S => ?_)
  refine wl_of (op_y (wn rfl) rfl rfl S (y_move rfl S rfl) fun a S => ?_)
  refine wl_of (op_y (wn rfl) rfl rfl S (y_move rfl S rfl) fun a S => ?_)
  refine wl_of (op_y (wn rfl) rfl rfl S (y_move rfl S rfl) fun a S => ?_)
  refine wl_of (op_y (wn rfl) rfl rfl S (y_move rfl S rfl) fun a S => ?_)
  refine wl_of (op_call (wn rfl) rfl rfl S (co_func rfl Try.call21 S rfl) (made_ok v1 v2 order width span from_ l _ (H.sl v1) (H.sl v2) hok hl1 hl2) fun v w hc a S => ?_)
  obtain ⟨b, ms, mp, vo, v0, rfl, H1⟩ := hc
  have H := H.call1 H1 rfl
  obtain ⟨r, hr⟩ : ∃ r, r = (madeRM order width span from_ l) := ⟨_, rfl⟩
  have hwr := made_wf hok l
  have har := made_alike order width span from_ l
  rw [← hr] at H hwr har
  refine wl_of (op_y (wn rfl) rfl rfl S (y_assign rfl S rfl) fun a S => ?_)
  refine gl_nil ?_
  refine n_then ?_
  have S := (((((((S.nil.cons S 4 rfl).cons S 3 rfl).cons S 2 rfl).cons S 1 rfl).cons S 0 rfl).cons S 10 rfl).cons S 11 rfl).cons S 12 rfl
  refine g_seq ?_
  refine g_seq ?_
  -- region 3 law.go:136
  refine g_region ?_
  refine wl_of (op_y (wn rfl) rfl rfl S (y_move rfl S rfl) fun a S => ?_)
  refine wl_of (op_y (wn rfl) rfl rfl S (y_eqp rfl Try.underlying25 S rfl rfl) fun a S => ?_)
  refine gl_nil ?_
  refine n_then ?_
  -- cond 1
  refine c_if S rfl (fun h1 => ?_) (fun h1 => ?_)
  · have h1p := h1; try simp only [Option.isNone_some, Option.isNone_none, Option.isSome_some, Option.isSome_none, false_or, or_false, true_and, and_true, decide_eq_true_eq, decide_eq_false_iff_not, Bool.or_eq_true, Bool.and_eq_true, Bool.or_eq_false_iff, Bool.and_eq_false_iff, Bool.not_eq_true', Bool.not_eq_false', bne_iff_ne, beq_iff_eq, beq_eq_false_iff_ne, bne_eq_false_iff_eq, ne_eq, Decidable.not_not, Int.not_lt, Int.not_le, gt_iff_lt, ge_iff_le, Bool.true_eq_false, Bool.false_eq_true, not_true_eq_false, not_false_eq_true] at h1p
    all_goals (
      exact absurd h1 (by simp))
  · have h1p := h1; try simp only [Option.isNone_some, Option.isNone_none, Option.isSome_some, Option.isSome_none, false_or, or_false, true_and, and_true, decide_eq_true_eq, decide_eq_false_iff_not, Bool.or_eq_true, Bool.and_eq_true, Bool.or_eq_false_iff, Bool.and_eq_false_iff, Bool.not_eq_true', Bool.not_eq_false', bne_iff_ne, beq_iff_eq, beq_eq_false_iff_ne, bne_eq_false_iff_eq, ne_eq, Decidable.not_not, Int.not_lt, Int.not_le, gt_iff_lt, ge_iff_le, Bool.true_eq_false, Bool.false_eq_true, not_true_eq_false, not_false_eq_true] at h1p
    have hnn : Nums order width span from_ := (new_wf hok).nums
    have hns := hnn.span
    have hnf := hnn.from_
    have hsb : 0 ≤ span * (order.length : Int) ∧ span * (order.length : Int) ≤ 60000000 := ⟨Int.mul_nonneg (by omega) (by omega), by have := Int.mul_le_mul hns.2 (show (order.length : Int) ≤ 60 by omega) (by omega) (by omega); omega⟩
    have hro : r.order = order := har.order
    have hce : (called r (from_ + span * (order.length : Int))) = order.filter (waits r) := by
      have := called_end hwr (from_ + span * (order.length : Int)) (by rw [har.order, har.span, har.from_]; exact Int.le_refl _)
      rwa [hro] at this
    have hno : order.Nodup := by have := hwr.nodup; rwa [hro] at this
    have hrl : (called r (from_ + span * (order.length : Int))).length ≤ order.length := by have := called_len r (from_ + span * (order.length : Int)); rwa [hro] at this
    refine g_skip ?_
    refine n_then ?_
    refine g_seq ?_
    -- region 5 law.go:139
    refine g_region ?_
    refine wl_of (op_y (wn rfl) rfl rfl S (y_move rfl S rfl) fun a S => ?_)
    refine wl_of (op_y (wn rfl) rfl rfl S (y_move rfl S rfl) fun a S => ?_)
    refine wl_of (op_y (wn rfl) rfl rfl S (y_move rfl S rfl) fun a S => ?_)
    refine wl_of (op_y (wn rfl) rfl rfl S (y_lens rfl Try.underlying22 S H rfl) fun a S => ?_)
    refine wl_of (op_y (wn rfl) rfl rfl S (y_mul rfl S rfl rfl (by omega)) fun a S => ?_)
    refine wl_of (op_y (wn rfl) rfl rfl S (y_add rfl S rfl rfl (by omega)) fun a S => ?_)
    refine wl_of (op_y (wn rfl) rfl rfl S (y_assign rfl S rfl) fun a S => ?_)
    refine gl_nil ?_
    refine n_then ?_
    have S := ((((((((S.nil.cons S 4 rfl).cons S 3 rfl).cons S 2 rfl).cons S 1 rfl).cons S 0 rfl).cons S 10 rfl).cons S 11 rfl).cons S 12 rfl).cons S 13 rfl
    refine g_seq ?_
    -- region 6 law.go:140
    refine g_region ?_
    refine wl_of (op_y (wn rfl) rfl rfl S (y_move rfl S rfl) fun a S => ?_)
    refine wl_of (op_y (wn rfl) rfl rfl S (y_move rfl S rfl) fun a S => ?_)
    refine wl_of (op_call (wn rfl) rfl rfl S (co_func rfl Try.call13 S rfl) (called_spec b ms mp vo v0 r (from_ + span * (order.length : Int)) (l.length) _ (H.front (RoomA b ms mp vo r v0)) hwr) fun u38 w hc a S => ?_)
    have H1 := hc
    have H := H.call1 H1 rfl
    refine wl_of (op_y (wn rfl) rfl rfl S (y_assign rfl S rfl) fun a S => ?_)
    refine gl_nil ?_
    refine n_then ?_
    refine g_seq ?_
    -- region 7 law.go:141
    refine g_region ?_
    refine wl_of (op_y (wn rfl) rfl rfl S (y_assign rfl S rfl) fun a S => ?_)
    refine gl_nil ?_
    refine n_then ?_
    refine g_seq ?_
    refine g_seq ?_
    -- region 8 law.go:142
    refine g_region ?_
    refine wl_of (op_y (wn rfl) rfl rfl S (y_assign rfl S rfl) fun a S => ?_)
    refine gl_nil ?_
    refine n_then ?_
    refine g_block ?_
    -- slots written in the loop and forgotten at its head: [10]
    have SU := ((((((((S.nil.cons S 4 rfl).cons S 3 rfl).cons S 2 rfl).cons S 1 rfl).cons S 0 rfl).cons S 11 rfl).cons S 12 rfl).cons S 13 rfl).cons S 14 rfl
    refine loopW (X := Nat) SU (fun k => [(15, .int .i64 ((((order.take k).filter (waits r)).length : Nat) : Int)), (16, .int .i64 (k : Int))]) (fun k w => k ≤ order.length ∧ ∃ s, s.WF (l.length + k) ∧ Alike r s ∧ (∀ x, waits s x = (waits r x && decide (x ∉ order.take k))) ∧ HSat No w0 [RoomA b ms mp vo s v0, OSl 3 u38 1 encI (called r (from_ + span * (order.length : Int))), Sl v2 3 Op.enc l, Sl v1 1 encI order] w) (fun k => order.length - k) 0 ((S.nil.cons S 16 rfl).cons S 15 rfl) (⟨by omega, r, hwr, ⟨rfl, rfl, rfl, rfl⟩, fun x => by simp, H.take [RoomA b ms mp vo r v0, OSl 3 u38 1 encI (called r (from_ + span * (order.length : Int))), Sl v2 3 Op.enc l, Sl v1 1 encI order]⟩) (fun k a w S hW => ?_)
    simp only [List.cons_append, List.nil_append] at S
    obtain ⟨hk, s, hws, has, hws2, H⟩ := hW
    have hfl : ((order.take k).filter (waits r)).length ≤ k := by have h1 := List.length_filter_le (waits r) (order.take k); have h2 := List.length_take_le k order; omega
    refine g_seq ?_
    refine g_seq ?_
    -- region 9 law.go:142
    refine g_region ?_
    refine wl_of (op_y (wn rfl) rfl rfl S (y_move rfl S rfl) fun a S => ?_)
    refine wl_of (op_y (wn rfl) rfl rfl S (y_move rfl S rfl) fun a S => ?_)
    refine wl_of (op_y (wn rfl) rfl rfl S (y_lens rfl Try.underlying22 S H rfl) fun a S => ?_)
    refine wl_of (op_y (wn rfl) rfl rfl S (y_bin rfl S rfl rfl rfl) fun a S => ?_)
    refine gl_nil ?_
    refine n_then ?_
    -- cond 2
    refine c_if S rfl (fun h2 => ?_) (fun h2 => ?_)
    · have h2p := h2; try simp only [Option.isNone_some, Option.isNone_none, Option.isSome_some, Option.isSome_none, false_or, or_false, true_and, and_true, decide_eq_true_eq, decide_eq_false_iff_not, Bool.or_eq_true, Bool.and_eq_true, Bool.or_eq_false_iff, Bool.and_eq_false_iff, Bool.not_eq_true', Bool.not_eq_false', bne_iff_ne, beq_iff_eq, beq_eq_false_iff_ne, bne_eq_false_iff_eq, ne_eq, Decidable.not_not, Int.not_lt, Int.not_le, gt_iff_lt, ge_iff_le, Bool.true_eq_false, Bool.false_eq_true, not_true_eq_false, not_false_eq_true] at h2p
      refine g_skip ?_
      refine n_then ?_
      refine g_seq ?_
      refine g_block ?_
      refine g_seq ?_
      -- region 11 law.go:143
      refine g_region ?_
      refine wl_of (op_y (wn rfl) rfl rfl S (y_move rfl S rfl) fun a S => ?_)
      refine wl_of (op_y (wn rfl) rfl rfl S (y_move rfl S rfl) fun a S => ?_)
      refine wl_of (op_y (wn rfl) rfl rfl S (y_move rfl S rfl) fun a S => ?_)
      refine wl_of (op_y (wn rfl) rfl rfl S (y_iaddrn rfl Try.underlying22 Fsiz3 S H rfl rfl (by first | assumption | omega | (simp only [List.length_append, List.length_take, List.length_drop, List.length_replicate, List.length_set, List.length_map, List.length_cons, List.length_nil]; omega))) fun a S => ?_)
      refine wl_of (op_y (wn rfl) rfl rfl S (y_loads _ rfl Fsca3 S H rfl (by first | assumption | omega | (simp only [List.length_append, List.length_take, List.length_drop, List.length_replicate, List.length_set, List.length_map, List.length_cons, List.length_nil]; omega)) rfl) fun a S => ?_)
      refine wl_of (op_call (wn rfl) rfl rfl S (co_func rfl Try.call17 S rfl) (Ret.at_ (x := RoomA b ms mp vo s v0) H (fun H => leave_spec b ms mp vo v0 s order[k] (l.length + k) _ H hws)) fun v w hc a S => ?_)
      obtain ⟨rfl, H⟩ := hc
      
      refine wl_of (op_y (wn rfl) rfl rfl S (y_assign rfl S rfl) fun a S => ?_)
      refine gl_nil ?_
      refine n_then ?_
      refine g_seq ?_
      refine g_seq ?_
      -- region 12 law.go:144
      refine g_region ?_
      refine wl_of (op_y (wn rfl) rfl rfl S (y_move rfl S rfl) fun a S => ?_)
      refine wl_of (op_y (wn rfl) rfl rfl S (y_bin rfl S rfl rfl rfl) fun a S => ?_)
      refine wl_of (op_y (wn rfl) rfl rfl S (y_move rfl S rfl) fun a S => ?_)
      refine wl_of (op_y (wn rfl) rfl rfl S (y_move rfl S rfl) fun a S => ?_)
      refine wl_of (op_y (wn rfl) rfl rfl S (y_move rfl S rfl) fun a S => ?_)
      refine wl_of (op_y (wn rfl) rfl rfl S (y_iaddrn rfl Try.underlying22 Fsiz3 S H rfl rfl (by first | assumption | omega | (simp only [List.length_append, List.length_take, List.length_drop, List.length_replicate, List.length_set, List.length_map, List.length_cons, List.length_nil]; omega))) fun a S => ?_)
      refine wl_of (op_y (wn rfl) rfl rfl S (y_loads _ rfl Fsca3 S H rfl (by first | assumption | omega | (simp only [List.length_append, List.length_take, List.length_drop, List.length_replicate, List.length_set, List.length_map, List.length_cons, List.length_nil]; omega)) rfl) fun a S => ?_)
      refine wl_of (op_call (wn rfl) rfl rfl S (co_func rfl Try.call22 S rfl) (in_spec u38 (called r (from_ + span * (order.length : Int))) order[k] _ (H.sl u38)) fun v w hc a S => ?_)
      obtain ⟨rfl, he⟩ := hc
      have H := H.ext he
      refine wl_of (op_y (wn rfl) rfl rfl S (y_neb rfl Try.underlying4 S rfl rfl) fun a S => ?_)
      refine gl_nil ?_
      refine n_then ?_
      -- cond 3
      refine c_if S rfl (fun h3 => ?_) (fun h3 => ?_)
      · have h3p := h3; try simp only [Option.isNone_some, Option.isNone_none, Option.isSome_some, Option.isSome_none, false_or, or_false, true_and, and_true, decide_eq_true_eq, decide_eq_false_iff_not, Bool.or_eq_true, Bool.and_eq_true, Bool.or_eq_false_iff, Bool.and_eq_false_iff, Bool.not_eq_true', Bool.not_eq_false', bne_iff_ne, beq_iff_eq, beq_eq_false_iff_ne, bne_eq_false_iff_eq, ne_eq, Decidable.not_not, Int.not_lt, Int.not_le, gt_iff_lt, ge_iff_le, Bool.true_eq_false, Bool.false_eq_true, not_true_eq_false, not_false_eq_true] at h3p
        all_goals (
          exfalso
          have hq : (leave s order[k]).1 = 0 ↔ order[k] ∈ (called r (from_ + span * (order.length : Int))) := by
            rw [hce, mem_filter_at k (by omega), leave_zero, hws2, Bool.and_eq_true, decide_eq_true_eq]; exact ⟨fun h => h.1, fun h => ⟨h, notin_at hno k (by omega)⟩⟩
          by_cases h0 : (leave s order[k]).1 = 0
          · have hm := hq.1 h0; simp [h0, hm] at h3
          · have hm : ¬ order[k] ∈ (called r (from_ + span * (order.length : Int))) := fun x => h0 (hq.2 x)
            simp [h0, hm] at h3)
      · have h3p := h3; try simp only [Option.isNone_some, Option.isNone_none, Option.isSome_some, Option.isSome_none, false_or, or_false, true_and, and_true, decide_eq_true_eq, decide_eq_false_iff_not, Bool.or_eq_true, Bool.and_eq_true, Bool.or_eq_false_iff, Bool.and_eq_false_iff, Bool.not_eq_true', Bool.not_eq_false', bne_iff_ne, beq_iff_eq, beq_eq_false_iff_ne, bne_eq_false_iff_eq, ne_eq, Decidable.not_not, Int.not_lt, Int.not_le, gt_iff_lt, ge_iff_le, Bool.true_eq_false, Bool.false_eq_true, not_true_eq_false, not_false_eq_true] at h3p
        have hlw : (leave s order[k]).1 = 0 ↔ waits r order[k] = true := by rw [leave_zero, hws2, Bool.and_eq_true, decide_eq_true_eq]; exact ⟨fun h => h.1, fun h => ⟨h, notin_at hno k (by omega)⟩⟩
        refine g_skip ?_
        refine n_then ?_
        refine g_seq ?_
        -- region 14 law.go:147
        refine g_region ?_
        refine wl_of (op_y (wn rfl) rfl rfl S (y_move rfl S rfl) fun a S => ?_)
        refine wl_of (op_y (wn rfl) rfl rfl S (y_bin rfl S rfl rfl rfl) fun a S => ?_)
        refine gl_nil ?_
        refine n_then ?_
        -- cond 4 (both ways go on)
        refine c_if S rfl (fun h4 => ?_) (fun h4 => ?_)
        · have h4p := h4; try simp only [Option.isNone_some, Option.isNone_none, Option.isSome_some, Option.isSome_none, false_or, or_false, true_and, and_true, decide_eq_true_eq, decide_eq_false_iff_not, Bool.or_eq_true, Bool.and_eq_true, Bool.or_eq_false_iff, Bool.and_eq_false_iff, Bool.not_eq_true', Bool.not_eq_false', bne_iff_ne, beq_iff_eq, beq_eq_false_iff_ne, bne_eq_false_iff_eq, ne_eq, Decidable.not_not, Int.not_lt, Int.not_le, gt_iff_lt, ge_iff_le, Bool.true_eq_false, Bool.false_eq_true, not_true_eq_false, not_false_eq_true] at h4p
          -- region 15 law.go:148
          refine g_region ?_
          refine wl_of (op_y (wn rfl) rfl rfl S (y_move rfl S rfl) fun a S => ?_)
          refine wl_of (op_y (wn rfl) rfl rfl S (y_add rfl S rfl rfl (by omega)) fun a S => ?_)
          refine wl_of (op_y (wn rfl) rfl rfl S (y_assign rfl S rfl) fun a S => ?_)
          refine gl_nil ?_
          refine n_block ?_
          refine n_then ?_
          -- region 10 law.go:142
          refine g_region ?_
          refine wl_of (op_y (wn rfl) rfl rfl S (y_move rfl S rfl) fun a S => ?_)
          refine wl_of (op_y (wn rfl) rfl rfl S (y_add rfl S rfl rfl (by omega)) fun a S => ?_)
          refine wl_of (op_y (wn rfl) rfl rfl S (y_assign rfl S rfl) fun a S => ?_)
          refine gl_nil ?_
          refine n_then ?_
          have hcs := count_step order (waits r) k (by omega)
          refine ⟨k + 1, ?_, ((((((((S.nil.cons S 4 rfl).cons S 3 rfl).cons S 2 rfl).cons S 1 rfl).cons S 0 rfl).cons S 11 rfl).cons S 12 rfl).cons S 13 rfl).cons S 14 rfl, ⟨by omega, (leave s order[k]).2, by have := leave_wf hws order[k]; rwa [Nat.add_assoc] at this, has.trans (leave_alike _ _), fun x => by rw [leave_waits, hws2, Bool.and_assoc, notin_step], H.take [RoomA b ms mp vo (leave s order[k]).2 v0, OSl 3 u38 1 encI (called r (from_ + span * (order.length : Int))), Sl v2 3 Op.enc l, Sl v1 1 encI order]⟩, by omega⟩
          have SS := (S.nil.cons S 16 rfl).cons S 15 rfl
          rw [hcs]
          first
          | (have hb := hlw.1 (by simpa using h4)
             rw [if_pos hb]; exact SS)
          | (have hb : ¬ waits r order[k] = true := fun h => by have := hlw.2 h; simp [this] at h4
             rw [if_neg hb]; exact SS)
        · have h4p := h4; try simp only [Option.isNone_some, Option.isNone_none, Option.isSome_some, Option.isSome_none, false_or, or_false, true_and, and_true, decide_eq_true_eq, decide_eq_false_iff_not, Bool.or_eq_true, Bool.and_eq_true, Bool.or_eq_false_iff, Bool.and_eq_false_iff, Bool.not_eq_true', Bool.not_eq_false', bne_iff_ne, beq_iff_eq, beq_eq_false_iff_ne, bne_eq_false_iff_eq, ne_eq, Decidable.not_not, Int.not_lt, Int.not_le, gt_iff_lt, ge_iff_le, Bool.true_eq_false, Bool.false_eq_true, not_true_eq_false, not_false_eq_true] at h4p
          refine g_skip ?_
          refine n_block ?_
          refine n_then ?_
          -- region 10 law.go:142
          refine g_region ?_
          refine wl_of (op_y (wn rfl) rfl rfl S (y_move rfl S rfl) fun a S => ?_)
          refine wl_of (op_y (wn rfl) rfl rfl S (y_add rfl S rfl rfl (by omega)) fun a S => ?_)
          refine wl_of (op_y (wn rfl) rfl rfl S (y_assign rfl S rfl) fun a S => ?_)
          refine gl_nil ?_
          refine n_then ?_
          have hcs := count_step order (waits r) k (by omega)
          refine ⟨k + 1, ?_, ((((((((S.nil.cons S 4 rfl).cons S 3 rfl).cons S 2 rfl).cons S 1 rfl).cons S 0 rfl).cons S 11 rfl).cons S 12 rfl).cons S 13 rfl).cons S 14 rfl, ⟨by omega, (leave s order[k]).2, by have := leave_wf hws order[k]; rwa [Nat.add_assoc] at this, has.trans (leave_alike _ _), fun x => by rw [leave_waits, hws2, Bool.and_assoc, notin_step], H.take [RoomA b ms mp vo (leave s order[k]).2 v0, OSl 3 u38 1 encI (called r (from_ + span * (order.length : Int))), Sl v2 3 Op.enc l, Sl v1 1 encI order]⟩, by omega⟩
          have SS := (S.nil.cons S 16 rfl).cons S 15 rfl
          rw [hcs]
          first
          | (have hb := hlw.1 (by simpa using h4)
             rw [if_pos hb]; exact SS)
          | (have hb : ¬ waits r order[k] = true := fun h => by have := hlw.2 h; simp [this] at h4
             rw [if_neg hb]; exact SS)
    · have h2p := h2; try simp only [Option.isNone_some, Option.isNone_none, Option.isSome_some, Option.isSome_none, false_or, or_false, true_and, and_true, decide_eq_true_eq, decide_eq_false_iff_not, Bool.or_eq_true, Bool.and_eq_true, Bool.or_eq_false_iff, Bool.and_eq_false_iff, Bool.not_eq_true', Bool.not_eq_false', bne_iff_ne, beq_iff_eq, beq_eq_false_iff_ne, bne_eq_false_iff_eq, ne_eq, Decidable.not_not, Int.not_lt, Int.not_le, gt_iff_lt, ge_iff_le, Bool.true_eq_false, Bool.false_eq_true, not_true_eq_false, not_false_eq_true] at h2p
      obtain rfl : k = order.length := by omega
      rw [List.take_length] at S hws2
      refine g_exit ?_
      refine x_then (x_then (x_eq ?_))
      refine n_then ?_
      have S := (((((((((S.nil.cons S 4 rfl).cons S 3 rfl).cons S 2 rfl).cons S 1 rfl).cons S 0 rfl).cons S 11 rfl).cons S 12 rfl).cons S 13 rfl).cons S 14 rfl).cons S 15 rfl
      refine g_seq ?_
      -- region 16 law.go:151
      refine g_region ?_
      refine wl_of (op_y (wn rfl) rfl rfl S (y_move rfl S rfl) fun a S => ?_)
      refine wl_of (op_y (wn rfl) rfl rfl S (y_move rfl S rfl) fun a S => ?_)
      refine wl_of (op_y (wn rfl) rfl rfl S (y_move rfl S rfl) fun a S => ?_)
      refine wl_of (op_y (wn rfl) rfl rfl S (y_move rfl S rfl) fun a S => ?_)
      refine wl_of (op_y (wn rfl) rfl rfl S (y_move rfl S rfl) fun a S => ?_)
      refine wl_of (op_call (wn rfl) rfl rfl S (co_func rfl Try.call21 S rfl) (made_ok v1 v2 order width span from_ l _ (H.sl v1) (H.sl v2) hok hl1 hl2) fun v w hc a S => ?_)
      obtain ⟨b2, ms2, mp2, vo2, y0, rfl, H1⟩ := hc
      have H := H.call1 H1 rfl
      obtain ⟨r2, hr2⟩ : ∃ r, r = (madeRM order width span from_ l) := ⟨_, rfl⟩
      have hwr2 := made_wf hok l
      have har2 := made_alike order width span from_ l
      rw [← hr2] at H hwr2 har2
      refine wl_of (op_y (wn rfl) rfl rfl S (y_assign rfl S rfl) fun a S => ?_)
      refine gl_nil ?_
      refine n_then ?_
      have S := (((((S.nil.cons S 11 rfl).cons S 12 rfl).cons S 13 rfl).cons S 14 rfl).cons S 15 rfl).cons S 18 rfl
      refine g_seq ?_
      refine g_seq ?_
      -- region 17 law.go:152
      refine g_region ?_
      refine wl_of (op_y (wn rfl) rfl rfl S (y_move rfl S rfl) fun a S => ?_)
      refine wl_of (op_y (wn rfl) rfl rfl S (y_lens rfl Try.underlying22 S H rfl) fun a S => ?_)
      refine wl_of (op_y (wn rfl) rfl rfl S (y_sub rfl S rfl rfl (by omega)) fun a S => ?_)
      refine wl_of (op_y (wn rfl) rfl rfl S (y_assign rfl S rfl) fun a S => ?_)
      refine gl_nil ?_
      refine n_then ?_
      refine g_block ?_
      have SU := (((((S.nil.cons S 11 rfl).cons S 12 rfl).cons S 13 rfl).cons S 14 rfl).cons S 15 rfl).cons S 18 rfl
      refine loopW (X := Nat) SU (fun j => [(19, .int .i64 ((j : Int) - 1))]) (fun j w => j ≤ (called r (from_ + span * (order.length : Int))).length ∧ ∃ t y, t.WF (l.length + ((called r (from_ + span * (order.length : Int))).length - j)) ∧ Alike r t ∧ (∀ x, waits t x = (waits r x && decide (x ∉ (called r (from_ + span * (order.length : Int))).drop j))) ∧ HSat No w0 [RoomA b2 ms2 mp2 vo2 t y, RoomA b ms mp vo s v0, OSl 3 u38 1 encI (called r (from_ + span * (order.length : Int))), Sl v2 3 Op.enc l, Sl v1 1 encI order] w) (fun j => j) (called r (from_ + span * (order.length : Int))).length (S.nil.cons S 19 rfl) (⟨Nat.le_refl _, r, y0, by have := hwr; rwa [Nat.sub_self], ⟨rfl, rfl, rfl, rfl⟩, fun x => by simp, by have e : r2 = r := hr2.trans hr.symm; rw [e] at H; exact H.take [RoomA b2 ms2 mp2 vo2 r y0, RoomA b ms mp vo s v0, OSl 3 u38 1 encI (called r (from_ + span * (order.length : Int))), Sl v2 3 Op.enc l, Sl v1 1 encI order]⟩) (fun j a w S hW => ?_)
      simp only [List.cons_append, List.nil_append] at S
      obtain ⟨hj, t, y, hwt, hat, hwt2, H⟩ := hW
      refine g_seq ?_
      refine g_seq ?_
      -- region 18 law.go:152
      refine g_region ?_
      refine wl_of (op_y (wn rfl) rfl rfl S (y_move rfl S rfl) fun a S => ?_)
      refine wl_of (op_y (wn rfl) rfl rfl S (y_bin rfl S rfl rfl rfl) fun a S => ?_)
      refine gl_nil ?_
      refine n_then ?_
      -- cond 5
      refine c_if S rfl (fun h5 => ?_) (fun h5 => ?_)
      · have h5p := h5; try simp only [Option.isNone_some, Option.isNone_none, Option.isSome_some, Option.isSome_none, false_or, or_false, true_and, and_true, decide_eq_true_eq, decide_eq_false_iff_not, Bool.or_eq_true, Bool.and_eq_true, Bool.or_eq_false_iff, Bool.and_eq_false_iff, Bool.not_eq_true', Bool.not_eq_false', bne_iff_ne, beq_iff_eq, beq_eq_false_iff_ne, bne_eq_false_iff_eq, ne_eq, Decidable.not_not, Int.not_lt, Int.not_le, gt_iff_lt, ge_iff_le, Bool.true_eq_false, Bool.false_eq_true, not_true_eq_false, not_false_eq_true] at h5p
        obtain ⟨q, rfl⟩ : ∃ q, j = q + 1 := ⟨j - 1, by omega⟩
        rw [show (((q + 1 : Nat) : Int) - 1) = (q : Int) by omega] at S
        have hsr := serve_rest hwr hwt hat (from_ + span * (order.length : Int)) q (by omega) hwt2
        refine g_skip ?_
        refine n_then ?_
        refine g_seq ?_
        refine g_block ?_
        refine g_seq ?_
        -- region 20 law.go:153
        refine g_region ?_
        refine wl_of (op_y (wn rfl) rfl rfl S (y_move rfl S rfl) fun a S => ?_)
        refine wl_of (op_y (wn rfl) rfl rfl S (y_move rfl S rfl) fun a S => ?_)
        refine wl_of (op_y (wn rfl) rfl rfl S (y_move rfl S rfl) fun a S => ?_)
        refine wl_of (op_y (wn rfl) rfl rfl S (y_iaddrn rfl Try.underlying22 Fsiz3 S H rfl rfl (by first | assumption | omega | (simp only [List.length_append, List.length_take, List.length_drop, List.length_replicate, List.length_set, List.length_map, List.length_cons, List.length_nil]; omega))) fun a S => ?_)
        refine wl_of (op_y (wn rfl) rfl rfl S (y_loads _ rfl Fsca3 S H rfl (by first | assumption | omega | (simp only [List.length_append, List.length_take, List.length_drop, List.length_replicate, List.length_set, List.length_map, List.length_cons, List.length_nil]; omega)) rfl) fun a S => ?_)
        refine wl_of (op_y (wn rfl) rfl rfl S (y_move rfl S rfl) fun a S => ?_)
        refine wl_of (op_call (wn rfl) rfl rfl S (co_func rfl Try.call19 S rfl) (Ret.atE (x := RoomA b2 ms2 mp2 vo2 t y) H (fun H => serve_spec b2 ms2 mp2 vo2 y t (called r (from_ + span * (order.length : Int)))[q] (from_ + span * (order.length : Int)) (l.length + ((called r (from_ + span * (order.length : Int))).length - (q + 1))) _ H hwt (by omega))) fun v w hc a S => ?_)
        obtain ⟨rfl, y1, H⟩ := hc
        
        refine wl_of (op_y (wn rfl) rfl rfl S (y_bin rfl S rfl rfl rfl) fun a S => ?_)
        refine gl_nil ?_
        refine n_then ?_
        -- cond 6
        refine c_if S rfl (fun h6 => ?_) (fun h6 => ?_)
        · have h6p := h6; try simp only [Option.isNone_some, Option.isNone_none, Option.isSome_some, Option.isSome_none, false_or, or_false, true_and, and_true, decide_eq_true_eq, decide_eq_false_iff_not, Bool.or_eq_true, Bool.and_eq_true, Bool.or_eq_false_iff, Bool.and_eq_false_iff, Bool.not_eq_true', Bool.not_eq_false', bne_iff_ne, beq_iff_eq, beq_eq_false_iff_ne, bne_eq_false_iff_eq, ne_eq, Decidable.not_not, Int.not_lt, Int.not_le, gt_iff_lt, ge_iff_le, Bool.true_eq_false, Bool.false_eq_true, not_true_eq_false, not_false_eq_true] at h6p
          all_goals (
            exfalso; simp [hsr.1] at h6)
        · have h6p := h6; try simp only [Option.isNone_some, Option.isNone_none, Option.isSome_some, Option.isSome_none, false_or, or_false, true_and, and_true, decide_eq_true_eq, decide_eq_false_iff_not, Bool.or_eq_true, Bool.and_eq_true, Bool.or_eq_false_iff, Bool.and_eq_false_iff, Bool.not_eq_true', Bool.not_eq_false', bne_iff_ne, beq_iff_eq, beq_eq_false_iff_ne, bne_eq_false_iff_eq, ne_eq, Decidable.not_not, Int.not_lt, Int.not_le, gt_iff_lt, ge_iff_le, Bool.true_eq_false, Bool.false_eq_true, not_true_eq_false, not_false_eq_true] at h6p
          refine g_skip ?_
          refine n_block ?_
          refine n_then ?_
          -- region 19 law.go:152
          refine g_region ?_
          refine wl_of (op_y (wn rfl) rfl rfl S (y_move rfl S rfl) fun a S => ?_)
          refine wl_of (op_y (wn rfl) rfl rfl S (y_sub rfl S rfl rfl (by omega)) fun a S => ?_)
          refine wl_of (op_y (wn rfl) rfl rfl S (y_assign rfl S rfl) fun a S => ?_)
          refine gl_nil ?_
          refine n_then ?_
          exact ⟨q, S.nil.cons S 19 rfl, (((((S.nil.cons S 11 rfl).cons S 12 rfl).cons S 13 rfl).cons S 14 rfl).cons S 15 rfl).cons S 18 rfl, ⟨by omega, (serve t (called r (from_ + span * (order.length : Int)))[q] (from_ + span * (order.length : Int))).2, y1, by have := serve_wf hwt (called r (from_ + span * (order.length : Int)))[q] (from_ + span * (order.length : Int)); rwa [show l.length + ((called r (from_ + span * (order.length : Int))).length - (q + 1)) + 1 = l.length + ((called r (from_ + span * (order.length : Int))).length - q) by omega] at this, hat.trans (serve_alike _ _ _), hsr.2, H.take [RoomA b2 ms2 mp2 vo2 (serve t (called r (from_ + span * (order.length : Int)))[q] (from_ + span * (order.length : Int))).2 y1, RoomA b ms mp vo s v0, OSl 3 u38 1 encI (called r (from_ + span * (order.length : Int))), Sl v2 3 Op.enc l, Sl v1 1 encI order]⟩, by omega⟩
      · have h5p := h5; try simp only [Option.isNone_some, Option.isNone_none, Option.isSome_some, Option.isSome_none, false_or, or_false, true_and, and_true, decide_eq_true_eq, decide_eq_false_iff_not, Bool.or_eq_true, Bool.and_eq_true, Bool.or_eq_false_iff, Bool.and_eq_false_iff, Bool.not_eq_true', Bool.not_eq_false', bne_iff_ne, beq_iff_eq, beq_eq_false_iff_ne, bne_eq_false_iff_eq, ne_eq, Decidable.not_not, Int.not_lt, Int.not_le, gt_iff_lt, ge_iff_le, Bool.true_eq_false, Bool.false_eq_true, not_true_eq_false, not_false_eq_true] at h5p
        obtain rfl : j = 0 := by omega
        have hg1 := called_gone hwr hws has (from_ + span * (order.length : Int)) order hws2 (fun x hx => by have := (called_sub r (from_ + span * (order.length : Int))).subset hx; rwa [hro] at this)
        have hg2 := called_gone hwr hwt hat (from_ + span * (order.length : Int)) _ hwt2 (fun x hx => by simpa using hx)
        refine g_exit ?_
        refine x_then (x_then (x_eq ?_))
        refine n_then ?_
        refine g_seq ?_
        -- region 22 law.go:157
        refine g_region ?_
        refine wl_of (op_y (wn rfl) rfl rfl S (y_move rfl S rfl) fun a S => ?_)
        refine wl_of (op_y (wn rfl) rfl rfl S (y_move rfl S rfl) fun a S => ?_)
        refine wl_of (op_y (wg' 86 rfl rfl S rfl rfl rfl) rfl rfl S (y_move rfl S rfl) fun a S => ?_)
        refine wl_of (op_y (wg' 86 rfl rfl S rfl rfl rfl) rfl rfl S (y_move rfl S rfl) fun a S => ?_)
        refine wl_of (op_y (wg' 86 rfl rfl S rfl rfl rfl) rfl rfl S (y_lens rfl Try.underlying22 S H rfl) fun a S => ?_)
        refine wl_of (op_y (wg' 86 rfl rfl S rfl rfl rfl) rfl rfl S (y_bin rfl S rfl rfl rfl) fun a S => ?_)
        refine wl_of (op_y (wn rfl) rfl rfl S (y_and' rfl rfl S rfl rfl) fun a S => ?_)
        refine wl_of (op_y (wn rfl) rfl rfl S (y_move rfl S rfl) fun a S => ?_)
        refine wl_of (op_y (wg' 92 rfl rfl S rfl (by rw [hce]; simp) rfl) rfl rfl S (y_move rfl S rfl) fun a S => ?_)
        refine wl_of (op_y (wg' 92 rfl rfl S rfl (by rw [hce]; simp) rfl) rfl rfl S (y_move rfl S rfl) fun a S => ?_)
        refine wl_of (op_call (wg' 92 rfl rfl S rfl (by rw [hce]; simp) rfl) rfl rfl S (co_func rfl Try.call13 S rfl) (called_spec b ms mp vo v0 s (from_ + span * (order.length : Int)) (l.length + order.length) _ (H.front (RoomA b ms mp vo s v0)) hws) fun u95 w hc a S => ?_)
        have H1 := hc
        have H := H.call1 H1 rfl
        refine wl_of (op_y (wg' 92 rfl rfl S rfl (by rw [hce]; simp) rfl) rfl rfl S (y_lens rfl Try.underlying22 S H rfl) fun a S => ?_)
        refine wl_of (op_y (wg' 92 rfl rfl S rfl (by rw [hce]; simp) rfl) rfl rfl S (y_bin rfl S rfl rfl rfl) fun a S => ?_)
        refine wl_of (op_y (wn rfl) rfl rfl S (y_and' rfl (by rw [hce]; simp) S rfl rfl) fun a S => ?_)
        refine wl_of (op_y (wn rfl) rfl rfl S (y_move rfl S rfl) fun a S => ?_)
        refine wl_of (op_y (wg' 99 rfl rfl S rfl (by rw [hce, hg1]; simp) rfl) rfl rfl S (y_move rfl S rfl) fun a S => ?_)
        refine wl_of (op_y (wg' 99 rfl rfl S rfl (by rw [hce, hg1]; simp) rfl) rfl rfl S (y_move rfl S rfl) fun a S => ?_)
        refine wl_of (op_call (wg' 99 rfl rfl S rfl (by rw [hce, hg1]; simp) rfl) rfl rfl S (co_func rfl Try.call13 S rfl) (called_spec b2 ms2 mp2 vo2 y t (from_ + span * (order.length : Int)) (l.length + ((called r (from_ + span * (order.length : Int))).length - 0)) _ (H.front (RoomA b2 ms2 mp2 vo2 t y)) hwt) fun u102 w hc a S => ?_)
        have H1 := hc
        have H := H.call1 H1 rfl
        refine wl_of (op_y (wg' 99 rfl rfl S rfl (by rw [hce, hg1]; simp) rfl) rfl rfl S (y_lens rfl Try.underlying22 S H rfl) fun a S => ?_)
        refine wl_of (op_y (wg' 99 rfl rfl S rfl (by rw [hce, hg1]; simp) rfl) rfl rfl S (y_bin rfl S rfl rfl rfl) fun a S => ?_)
        refine wl_of (op_y (wn rfl) rfl rfl S (y_and' rfl (by rw [hce, hg1]; simp) S rfl rfl) fun a S => ?_)
        refine wl_of (op_y (wn rfl) rfl rfl S (y_assign rfl S rfl) fun a S => ?_)
        refine gl_nil ?_
        refine n_then ?_
        have S := S.nil.cons S 10 rfl
        refine g_ret ?_
        refine ret1 rfl S rfl ?_
        exact ⟨by rw [hg1, hg2, hce]; simp, H.toExt⟩
set_option maxHeartbeats 4000000 in
/-- foyer/foyerlaw21.RoomOthers -/
theorem law6_ok (v1 v2 : Value) (order : List Int) (width span from_ : Int) (l : List Op) (w0 : World) (hv1 : IsSl w0 v1 1 encI order) (hv2 : IsSl w0 v2 3 Op.enc l) (now : Int) (hok : newOK order width span from_ = true) (hl1 : order.length ≤ 60) (hl2 : l.length ≤ 40) :
    Ret Try.prog 8 #[v1, .int .i64 width, .int .i64 span, .int .i64 from_, v2, .int .i64 now] w0 (fun v w => v = .bool true ∧ Ext w0 w) := by
  refine ret_of_wp (nt := 81) Try.func8 rfl rfl rfl (fl := [(0, v1), (1, .int .i64 width), (2, .int .i64 span), (3, .int .i64 from_), (4, v2), (5, .int .i64 now)]) rfl (fun a S => ?_)
  have H := HSat.start w0
  have H := H.ro0 (Sl v1 1 encI order) rfl (hv1)
  have H := H.ro0 (Sl v2 3 Op.enc l) rfl (hv2)
  refine g_seq ?_
  -- region 0 law.go:161
  refine g_region ?_
  refine wl_of (op_y (wn rfl) rfl rfl S (y_assign rfl S rfl) fun a S => ?_)
  refine gl_nil ?_
  refine n_then ?_
  refine g_seq ?_
  -- region 1 law.go:162
  refine g_region ?_
  refine wl_of (op_call (wn rfl) rfl rfl S (co_func rfl Try.call9 S rfl) (head_spec _) fun v w hc a S => ?_)
  obtain ⟨rfl, he⟩ := hc
  have H := H.ext he
  refine wl_of (op_y (wn rfl) rfl rfl S (y_assign rfl S rfl) fun a S => ?_)
  refine gl_nil ?_
  refine n_then ?_
  refine g_seq ?_
  -- region 2 law.go:163
  refine g_region ?_
  refine wl_of (op_y (wn rfl) rfl rfl S (y_move rfl S rfl) fun a S => ?_)
  refine wl_of (op_y (wn rfl) rfl rfl S (y_move rfl S rfl) fun a S => ?_)
  refine wl_of (op_y (wn rfl) rfl rfl S (y_move rfl S rfl) fun a S => ?_)
  refine wl_of (op_y (wn rfl) rfl rfl S (y_move rfl S rfl) fun a S => ?_)
  refine wl_of (op_y (wn rfl) rfl rfl S (y_move rfl S rfl) fun a S => ?_)
  refine wl_of (op_call (wn rfl) rfl rfl S (co_func rfl Try.call21 S rfl) (made_ok v1 v2 order width span from_ l _ (H.sl v1) (H.sl v2) hok hl1 hl2) fun v w hc a S => ?_)
  obtain ⟨b, ms, mp, vo, v0, rfl, H1⟩ := hc
  have H := H.call1 H1 rfl
  obtain ⟨r, hr⟩ : ∃ r, r = (madeRM order width span from_ l) := ⟨_, rfl⟩
  have hwr := made_wf hok l
  have har := made_alike order width span from_ l
  rw [← hr] at H hwr har
  refine wl_of (op_y (wn rfl) rfl rfl S (y_assign rfl S rfl) fun a S => ?_)
  refine gl_nil ?_
  refine n_then ?_
  have S := (((((((S.nil.cons S 5 rfl).cons S 3 rfl).cons S 2 rfl).cons S 1 rfl).cons S 0 rfl).cons S 12 rfl).cons S 13 rfl).cons S 14 rfl
  refine g_seq ?_
  -- region 3 law.go:164
  refine g_region ?_
  refine wl_of (op_y (wn rfl) rfl rfl S (y_move rfl S rfl) fun a S => ?_)
  refine wl_of (op_y (wn rfl) rfl rfl S (y_move rfl S rfl) fun a S => ?_)
  refine wl_of (op_y (wn rfl) rfl rfl S (y_move rfl S rfl) fun a S => ?_)
  refine wl_of (op_y (wn rfl) rfl rfl S (y_move rfl S rfl) fun a S => ?_)
  refine wl_of (op_call (wn rfl) rfl rfl S (co_func rfl Try.call21 S rfl) (made_ok v1 (.slice none 0 0) order width span from_ [] _ (H.sl v1) (IsSl.nil _ _ _) hok hl1 (by simp)) fun v w hc a S => ?_)
  obtain ⟨b2, ms2, mp2, vo2, y0, rfl, H1⟩ := hc
  have H := H.call1 H1 rfl
  obtain ⟨f, hf⟩ : ∃ r, r = (madeRM order width span from_ []) := ⟨_, rfl⟩
  have hwf := made_wf hok []
  have haf := made_alike order width span from_ []
  rw [← hf] at H hwf haf
  refine wl_of (op_y (wn rfl) rfl rfl S (y_assign rfl S rfl) fun a S => ?_)
  refine gl_nil ?_
  refine n_then ?_
  have S := (((((((S.nil.cons S 5 rfl).cons S 3 rfl).cons S 2 rfl).cons S 0 rfl).cons S 12 rfl).cons S 13 rfl).cons S 14 rfl).cons S 15 rfl
  refine g_seq ?_
  refine g_seq ?_
  -- region 4 law.go:165
  refine g_region ?_
  refine wl_of (op_y (wn rfl) rfl rfl S (y_move rfl S rfl) fun a S => ?_)
  refine wl_of (op_y (wn rfl) rfl rfl S (y_eqp rfl Try.underlying25 S rfl rfl) fun a S => ?_)
  refine wl_of (op_y (wn rfl) rfl rfl S (y_move rfl S rfl) fun a S => ?_)
  refine wl_of (op_y (wg' 36 rfl rfl S rfl rfl rfl) rfl rfl S (y_move rfl S rfl) fun a S => ?_)
  refine wl_of (op_y (wg' 36 rfl rfl S rfl rfl rfl) rfl rfl S (y_eqp rfl Try.underlying25 S rfl rfl) fun a S => ?_)
  refine wl_of (op_y (wn rfl) rfl rfl S (y_or' rfl rfl S rfl rfl) fun a S => ?_)
  refine gl_nil ?_
  refine n_then ?_
  have S := ((((((((S.nil.cons S 5 rfl).cons S 3 rfl).cons S 2 rfl).cons S 0 rfl).cons S 12 rfl).cons S 13 rfl).cons S 14 rfl).cons S 15 rfl).cons S 39 rfl
  -- cond 1
  refine c_if S rfl (fun h2 => ?_) (fun h2 => ?_)
  · have h2p := h2; try simp only [Option.isNone_some, Option.isNone_none, Option.isSome_some, Option.isSome_none, false_or, or_false, true_and, and_true, decide_eq_true_eq, decide_eq_false_iff_not, Bool.or_eq_true, Bool.and_eq_true, Bool.or_eq_false_iff, Bool.and_eq_false_iff, Bool.not_eq_true', Bool.not_eq_false', bne_iff_ne, beq_iff_eq, beq_eq_false_iff_ne, bne_eq_false_iff_eq, ne_eq, Decidable.not_not, Int.not_lt, Int.not_le, gt_iff_lt, ge_iff_le, Bool.true_eq_false, Bool.false_eq_true, not_true_eq_false, not_false_eq_true] at h2p
    all_goals (
      exact absurd h2 (by simp))
  · have h2p := h2; try simp only [Option.isNone_some, Option.isNone_none, Option.isSome_some, Option.isSome_none, false_or, or_false, true_and, and_true, decide_eq_true_eq, decide_eq_false_iff_not, Bool.or_eq_true, Bool.and_eq_true, Bool.or_eq_false_iff, Bool.and_eq_false_iff, Bool.not_eq_true', Bool.not_eq_false', bne_iff_ne, beq_iff_eq, beq_eq_false_iff_ne, bne_eq_false_iff_eq, ne_eq, Decidable.not_not, Int.not_lt, Int.not_le, gt_iff_lt, ge_iff_le, Bool.true_eq_false, Bool.false_eq_true, not_true_eq_false, not_false_eq_true] at h2p
    have hnn : Nums order width span from_ := (new_wf hok).nums
    have hns := hnn.span
    have hnf := hnn.from_
    have hsb : 0 ≤ span * (order.length : Int) ∧ span * (order.length : Int) ≤ 60000000 := ⟨Int.mul_nonneg (by omega) (by omega), by have := Int.mul_le_mul hns.2 (show (order.length : Int) ≤ 60 by omega) (by omega) (by omega); omega⟩
    have hro : r.order = order := har.order
    have hce : (called r (from_ + span * (order.length : Int))) = order.filter (waits r) := by
      have := called_end hwr (from_ + span * (order.length : Int)) (by rw [har.order, har.span, har.from_]; exact Int.le_refl _)
      rwa [hro] at this
    have hno : order.Nodup := by have := hwr.nodup; rwa [hro] at this
    have hrl : (called r (from_ + span * (order.length : Int))).length ≤ order.length := by have := called_len r (from_ + span * (order.length : Int)); rwa [hro] at this
    have hf2 : f = newRM order width span from_ := hf
    have hol := others_law hwf hwr (by rw [hf2]; exact har) (by rw [hf2]; exact new_waits) now (from_ + span * (order.length : Int)) (by rw [hce, hro])
    have hfl0 : (called f now).length ≤ order.length := by rw [hf2]; exact called_len (newRM order width span from_) now
    refine g_skip ?_
    refine n_then ?_
    refine g_seq ?_
    -- region 6 law.go:168
    refine g_region ?_
    refine wl_of (op_y (wn rfl) rfl rfl S (y_move rfl S rfl) fun a S => ?_)
    refine wl_of (op_y (wn rfl) rfl rfl S (y_move rfl S rfl) fun a S => ?_)
    refine wl_of (op_call (wn rfl) rfl rfl S (co_func rfl Try.call13 S rfl) (called_spec b2 ms2 mp2 vo2 y0 f now ([].length) _ (H.front (RoomA b2 ms2 mp2 vo2 f y0)) hwf) fun u43 w hc a S => ?_)
    have H1 := hc
    have H := H.call1 H1 rfl
    refine wl_of (op_y (wn rfl) rfl rfl S (y_assign rfl S rfl) fun a S => ?_)
    refine gl_nil ?_
    refine n_then ?_
    have S := (((((((S.nil.cons S 5 rfl).cons S 3 rfl).cons S 2 rfl).cons S 0 rfl).cons S 12 rfl).cons S 13 rfl).cons S 14 rfl).cons S 16 rfl
    refine g_seq ?_
    -- region 7 law.go:169
    refine g_region ?_
    refine wl_of (op_y (wn rfl) rfl rfl S (y_move rfl S rfl) fun a S => ?_)
    refine wl_of (op_y (wn rfl) rfl rfl S (y_move rfl S rfl) fun a S => ?_)
    refine wl_of (op_call (wn rfl) rfl rfl S (co_func rfl Try.call13 S rfl) (called_spec b ms mp vo v0 r now (l.length) _ (H.front (RoomA b ms mp vo r v0)) hwr) fun u46 w hc a S => ?_)
    have H1 := hc
    have H := H.call1 H1 rfl
    refine wl_of (op_y (wn rfl) rfl rfl S (y_assign rfl S rfl) fun a S => ?_)
    refine gl_nil ?_
    refine n_then ?_
    have S := (((((((S.nil.cons S 3 rfl).cons S 2 rfl).cons S 0 rfl).cons S 12 rfl).cons S 13 rfl).cons S 14 rfl).cons S 16 rfl).cons S 17 rfl
    refine g_seq ?_
    -- region 8 law.go:170
    refine g_region ?_
    refine wl_of (op_y (wn rfl) rfl rfl S (y_move rfl S rfl) fun a S => ?_)
    refine wl_of (op_y (wn rfl) rfl rfl S (y_move rfl S rfl) fun a S => ?_)
    refine wl_of (op_y (wn rfl) rfl rfl S (y_move rfl S rfl) fun a S => ?_)
    refine wl_of (op_y (wn rfl) rfl rfl S (y_lens rfl Try.underlying22 S H rfl) fun a S => ?_)
    refine wl_of (op_y (wn rfl) rfl rfl S (y_mul rfl S rfl rfl (by omega)) fun a S => ?_)
    refine wl_of (op_y (wn rfl) rfl rfl S (y_add rfl S rfl rfl (by omega)) fun a S => ?_)
    refine wl_of (op_y (wn rfl) rfl rfl S (y_assign rfl S rfl) fun a S => ?_)
    refine gl_nil ?_
    refine n_then ?_
    have S := (((((S.nil.cons S 12 rfl).cons S 13 rfl).cons S 14 rfl).cons S 16 rfl).cons S 17 rfl).cons S 18 rfl
    refine g_seq ?_
    -- region 9 law.go:171
    refine g_region ?_
    refine wl_of (op_y (wn rfl) rfl rfl S (y_move rfl S rfl) fun a S => ?_)
    refine wl_of (op_y (wn rfl) rfl rfl S (y_move rfl S rfl) fun a S => ?_)
    refine wl_of (op_call (wn rfl) rfl rfl S (co_func rfl Try.call13 S rfl) (called_spec b ms mp vo v0 r (from_ + span * (order.length : Int)) (l.length) _ (H.front (RoomA b ms mp vo r v0)) hwr) fun u55 w hc a S => ?_)
    have H1 := hc
    have H := H.call1 H1 rfl
    refine wl_of (op_y (wn rfl) rfl rfl S (y_assign rfl S rfl) fun a S => ?_)
    refine gl_nil ?_
    refine n_then ?_
    have S := ((((S.nil.cons S 12 rfl).cons S 13 rfl).cons S 16 rfl).cons S 17 rfl).cons S 19 rfl
    refine g_seq ?_
    -- region 10 law.go:172
    refine g_region ?_
    refine wl_of (op_y (wn rfl) rfl rfl S (y_assign rfl S rfl) fun a S => ?_)
    refine gl_nil ?_
    refine n_then ?_
    refine g_seq ?_
    refine g_seq ?_
    -- region 11 law.go:173
    refine g_region ?_
    refine wl_of (op_y (wn rfl) rfl rfl S (y_assign rfl S rfl) fun a S => ?_)
    refine gl_nil ?_
    refine n_then ?_
    refine g_block ?_
    have SU := ((((S.nil.cons S 12 rfl).cons S 13 rfl).cons S 16 rfl).cons S 17 rfl).cons S 19 rfl
    refine loopW (X := Nat × Value) SU (fun x => [(20, x.2), (21, .int .i64 (x.1 : Int))]) (fun x w => x.1 ≤ (called f now).length ∧ HSat No w0 [OSl 3 x.2 1 encI (((called f now).take x.1).filter (fun x => decide (x ∈ (called r (from_ + span * (order.length : Int)))))), OSl 3 u55 1 encI (called r (from_ + span * (order.length : Int))), OSl 3 u46 1 encI (called r now), OSl 3 u43 1 encI (called f now)] w) (fun x => (called f now).length - x.1) (0, .slice none 0 0) ((S.nil.cons S 21 rfl).cons S 20 rfl) (⟨by simp, (H.nilO 3 1 encI).take [OSl 3 (.slice none 0 0) 1 encI [], OSl 3 u55 1 encI (called r (from_ + span * (order.length : Int))), OSl 3 u46 1 encI (called r now), OSl 3 u43 1 encI (called f now)]⟩) (fun x a w S hW => ?_)
    simp only [List.cons_append, List.nil_append] at S
    obtain ⟨k, s⟩ := x
    obtain ⟨hk, H⟩ := hW
    dsimp only at S H hk
    have hfl : (((called f now).take k).filter (fun x => decide (x ∈ (called r (from_ + span * (order.length : Int)))))).length ≤ k := by have h1 := List.length_filter_le (fun x => decide (x ∈ (called r (from_ + span * (order.length : Int))))) ((called f now).take k); have h2 := List.length_take_le k (called f now); omega
    refine g_seq ?_
    refine g_seq ?_
    -- region 12 law.go:173
    refine g_region ?_
    refine wl_of (op_y (wn rfl) rfl rfl S (y_move rfl S rfl) fun a S => ?_)
    refine wl_of (op_y (wn rfl) rfl rfl S (y_move rfl S rfl) fun a S => ?_)
    refine wl_of (op_y (wn rfl) rfl rfl S (y_lens rfl Try.underlying22 S H rfl) fun a S => ?_)
    refine wl_of (op_y (wn rfl) rfl rfl S (y_bin rfl S rfl rfl rfl) fun a S => ?_)
    refine gl_nil ?_
    refine n_then ?_
    -- cond 2
    refine c_if S rfl (fun h3 => ?_) (fun h3 => ?_)
    · have h3p := h3; try simp only [Option.isNone_some, Option.isNone_none, Option.isSome_some, Option.isSome_none, false_or, or_false, true_and, and_true, decide_eq_true_eq, decide_eq_false_iff_not, Bool.or_eq_true, Bool.and_eq_true, Bool.or_eq_false_iff, Bool.and_eq_false_iff, Bool.not_eq_true', Bool.not_eq_false', bne_iff_ne, beq_iff_eq, beq_eq_false_iff_ne, bne_eq_false_iff_eq, ne_eq, Decidable.not_not, Int.not_lt, Int.not_le, gt_iff_lt, ge_iff_le, Bool.true_eq_false, Bool.false_eq_true, not_true_eq_false, not_false_eq_true] at h3p
      refine g_skip ?_
      refine n_then ?_
      refine g_seq ?_
      refine g_block ?_
      refine g_seq ?_
      -- region 14 law.go:174
      refine g_region ?_
      refine wl_of (op_y (wn rfl) rfl rfl S (y_move rfl S rfl) fun a S => ?_)
      refine wl_of (op_y (wn rfl) rfl rfl S (y_move rfl S rfl) fun a S => ?_)
      refine wl_of (op_y (wn rfl) rfl rfl S (y_move rfl S rfl) fun a S => ?_)
      refine wl_of (op_y (wn rfl) rfl rfl S (y_iaddrn rfl Try.underlying22 Fsiz3 S H rfl rfl (by first | assumption | omega | (simp only [List.length_append, List.length_take, List.length_drop, List.length_replicate, List.length_set, List.length_map, List.length_cons, List.length_nil]; omega))) fun a S => ?_)
      refine wl_of (op_y (wn rfl) rfl rfl S (y_loads _ rfl Fsca3 S H rfl (by first | assumption | omega | (simp only [List.length_append, List.length_take, List.length_drop, List.length_replicate, List.length_set, List.length_map, List.length_cons, List.length_nil]; omega)) rfl) fun a S => ?_)
      refine wl_of (op_call (wn rfl) rfl rfl S (co_func rfl Try.call22 S rfl) (in_spec u55 (called r (from_ + span * (order.length : Int))) (called f now)[k] _ (H.sl u55)) fun v w hc a S => ?_)
      obtain ⟨rfl, he⟩ := hc
      have H := H.ext he
      refine gl_nil ?_
      refine n_then ?_
      -- cond 3 (both ways go on)
      refine c_if S rfl (fun h4 => ?_) (fun h4 => ?_)
      · have h4p := h4; try simp only [Option.isNone_some, Option.isNone_none, Option.isSome_some, Option.isSome_none, false_or, or_false, true_and, and_true, decide_eq_true_eq, decide_eq_false_iff_not, Bool.or_eq_true, Bool.and_eq_true, Bool.or_eq_false_iff, Bool.and_eq_false_iff, Bool.not_eq_true', Bool.not_eq_false', bne_iff_ne, beq_iff_eq, beq_eq_false_iff_ne, bne_eq_false_iff_eq, ne_eq, Decidable.not_not, Int.not_lt, Int.not_le, gt_iff_lt, ge_iff_le, Bool.true_eq_false, Bool.false_eq_true, not_true_eq_false, not_false_eq_true] at h4p
        -- region 15 law.go:175
        refine g_region ?_
        refine wl_of (op_y (wn rfl) rfl rfl S (y_move rfl S rfl) fun a S => ?_)
        refine wl_of (op_y (wn rfl) rfl rfl S (y_move rfl S rfl) fun a S => ?_)
        refine wl_of (op_y (wn rfl) rfl rfl S (y_move rfl S rfl) fun a S => ?_)
        refine wl_of (op_y (wn rfl) rfl rfl S (y_iaddrn rfl Try.underlying22 Fsiz3 S H rfl rfl (by first | assumption | omega | (simp only [List.length_append, List.length_take, List.length_drop, List.length_replicate, List.length_set, List.length_map, List.length_cons, List.length_nil]; omega))) fun a S => ?_)
        refine wl_of (op_y (wn rfl) rfl rfl S (y_loads _ rfl Fsca3 S H rfl (by first | assumption | omega | (simp only [List.length_append, List.length_take, List.length_drop, List.length_replicate, List.length_set, List.length_map, List.length_cons, List.length_nil]; omega)) rfl) fun a S => ?_)
        refine wl_of (op_buildSlice (wn rfl) rfl rfl rfl Try.underlying22 Finf3 S H (idx := [0]) rfl rfl rfl (z := [.int .i64 0]) (by kernel_rfl) (cs := [_]) rfl fun b73 a w S H => ?_)
        refine wl_of (op_append ([(called f now)[k]]) (wn rfl) rfl rfl rfl Try.underlying22 Finf3 rfl rfl S H rfl rfl rfl rfl (by simp) (by simp [encI]) (by simp [encI, Value.oneCell']) (by first | assumption | omega | (simp only [List.length_append, List.length_take, List.length_drop, List.length_replicate, List.length_set, List.length_map, List.length_cons, List.length_nil]; omega)) (by first | assumption | omega | (simp only [List.length_append, List.length_take, List.length_drop, List.length_replicate, List.length_set, List.length_map, List.length_cons, List.length_nil]; omega)) fun u74 a w hn74 S H => ?_)
        refine wl_of (op_y (wn rfl) rfl rfl S (y_assign rfl S rfl) fun a S => ?_)
        refine gl_nil ?_
        refine n_block ?_
        refine n_then ?_
        -- region 13 law.go:173
        refine g_region ?_
        refine wl_of (op_y (wn rfl) rfl rfl S (y_move rfl S rfl) fun a S => ?_)
        refine wl_of (op_y (wn rfl) rfl rfl S (y_add rfl S rfl rfl (by omega)) fun a S => ?_)
        refine wl_of (op_y (wn rfl) rfl rfl S (y_assign rfl S rfl) fun a S => ?_)
        refine gl_nil ?_
        refine n_then ?_
        first
        | (have ew : decide ((called f now)[k] ∈ (called r (from_ + span * (order.length : Int)))) = true := decide_eq_true h4p
           refine ⟨(k + 1, u74), (S.nil.cons S 21 rfl).cons S 20 rfl, ((((S.nil.cons S 12 rfl).cons S 13 rfl).cons S 16 rfl).cons S 17 rfl).cons S 19 rfl, ⟨by dsimp only; omega, ?_⟩, by dsimp only; omega⟩
           dsimp only; rw [List.take_succ_eq_append_getElem (by omega), List.filter_append, List.filter_cons, if_pos ew, List.filter_nil]; exact H.take [OSl 3 u74 1 encI (((called f now).take k).filter (fun x => decide (x ∈ (called r (from_ + span * (order.length : Int))))) ++ [(called f now)[k]]), OSl 3 u55 1 encI (called r (from_ + span * (order.length : Int))), OSl 3 u46 1 encI (called r now), OSl 3 u43 1 encI (called f now)])
        | (have ew : ¬ decide ((called f now)[k] ∈ (called r (from_ + span * (order.length : Int)))) = true := fun h => h4p (of_decide_eq_true h)
           refine ⟨(k + 1, s), (S.nil.cons S 21 rfl).cons S 20 rfl, ((((S.nil.cons S 12 rfl).cons S 13 rfl).cons S 16 rfl).cons S 17 rfl).cons S 19 rfl, ⟨by dsimp only; omega, ?_⟩, by dsimp only; omega⟩
           dsimp only; rw [List.take_succ_eq_append_getElem (by omega), List.filter_append, List.filter_cons, if_neg ew, List.filter_nil, List.append_nil]; exact H)
      · have h4p := h4; try simp only [Option.isNone_some, Option.isNone_none, Option.isSome_some, Option.isSome_none, false_or, or_false, true_and, and_true, decide_eq_true_eq, decide_eq_false_iff_not, Bool.or_eq_true, Bool.and_eq_true, Bool.or_eq_false_iff, Bool.and_eq_false_iff, Bool.not_eq_true', Bool.not_eq_false', bne_iff_ne, beq_iff_eq, beq_eq_false_iff_ne, bne_eq_false_iff_eq, ne_eq, Decidable.not_not, Int.not_lt, Int.not_le, gt_iff_lt, ge_iff_le, Bool.true_eq_false, Bool.false_eq_true, not_true_eq_false, not_false_eq_true] at h4p
        refine g_skip ?_
        refine n_block ?_
        refine n_then ?_
        -- region 13 law.go:173
        refine g_region ?_
        refine wl_of (op_y (wn rfl) rfl rfl S (y_move rfl S rfl) fun a S => ?_)
        refine wl_of (op_y (wn rfl) rfl rfl S (y_add rfl S rfl rfl (by omega)) fun a S => ?_)
        refine wl_of (op_y (wn rfl) rfl rfl S (y_assign rfl S rfl) fun a S => ?_)
        refine gl_nil ?_
        refine n_then ?_
        first
        | (have ew : decide ((called f now)[k] ∈ (called r (from_ + span * (order.length : Int)))) = true := decide_eq_true h4p
           refine ⟨(k + 1, u74), (S.nil.cons S 21 rfl).cons S 20 rfl, ((((S.nil.cons S 12 rfl).cons S 13 rfl).cons S 16 rfl).cons S 17 rfl).cons S 19 rfl, ⟨by dsimp only; omega, ?_⟩, by dsimp only; omega⟩
           dsimp only; rw [List.take_succ_eq_append_getElem (by omega), List.filter_append, List.filter_cons, if_pos ew, List.filter_nil]; exact H.take [OSl 3 u74 1 encI (((called f now).take k).filter (fun x => decide (x ∈ (called r (from_ + span * (order.length : Int))))) ++ [(called f now)[k]]), OSl 3 u55 1 encI (called r (from_ + span * (order.length : Int))), OSl 3 u46 1 encI (called r now), OSl 3 u43 1 encI (called f now)])
        | (have ew : ¬ decide ((called f now)[k] ∈ (called r (from_ + span * (order.length : Int)))) = true := fun h => h4p (of_decide_eq_true h)
           refine ⟨(k + 1, s), (S.nil.cons S 21 rfl).cons S 20 rfl, ((((S.nil.cons S 12 rfl).cons S 13 rfl).cons S 16 rfl).cons S 17 rfl).cons S 19 rfl, ⟨by dsimp only; omega, ?_⟩, by dsimp only; omega⟩
           dsimp only; rw [List.take_succ_eq_append_getElem (by omega), List.filter_append, List.filter_cons, if_neg ew, List.filter_nil, List.append_nil]; exact H)
    · have h3p := h3; try simp only [Option.isNone_some, Option.isNone_none, Option.isSome_some, Option.isSome_none, false_or, or_false, true_and, and_true, decide_eq_true_eq, decide_eq_false_iff_not, Bool.or_eq_true, Bool.and_eq_true, Bool.or_eq_false_iff, Bool.and_eq_false_iff, Bool.not_eq_true', Bool.not_eq_false', bne_iff_ne, beq_iff_eq, beq_eq_false_iff_ne, bne_eq_false_iff_eq, ne_eq, Decidable.not_not, Int.not_lt, Int.not_le, gt_iff_lt, ge_iff_le, Bool.true_eq_false, Bool.false_eq_true, not_true_eq_false, not_false_eq_true] at h3p
      obtain rfl : k = (called f now).length := by omega
      rw [List.take_length] at H
      refine g_exit ?_
      refine x_then (x_then (x_eq ?_))
      refine n_then ?_
      have S := (((S.nil.cons S 12 rfl).cons S 13 rfl).cons S 17 rfl).cons S 20 rfl
      refine g_seq ?_
      -- region 16 law.go:178
      refine g_region ?_
      refine wl_of (op_y (wn rfl) rfl rfl S (y_move rfl S rfl) fun a S => ?_)
      refine wl_of (op_y (wn rfl) rfl rfl S (y_move rfl S rfl) fun a S => ?_)
      refine' wl_and 3 76 rfl S H rfl rfl rfl rfl rfl rfl rfl (fun _ S => (wn rfl)) (fun h5 kk => ?yh5) (fun a w S H => ?_)
      case yh5 =>
        have h5p := h5; try simp only [Option.isNone_some, Option.isNone_none, Option.isSome_some, Option.isSome_none, false_or, or_false, true_and, and_true, decide_eq_true_eq, decide_eq_false_iff_not, Bool.or_eq_true, Bool.and_eq_true, Bool.or_eq_false_iff, Bool.and_eq_false_iff, Bool.not_eq_true', Bool.not_eq_false', bne_iff_ne, beq_iff_eq, beq_eq_false_iff_ne, bne_eq_false_iff_eq, ne_eq, Decidable.not_not, Int.not_lt, Int.not_le, gt_iff_lt, ge_iff_le, Bool.true_eq_false, Bool.false_eq_true, not_true_eq_false, not_false_eq_true] at h5p
        refine wl_of (op_y (wg' 76 rfl rfl S rfl h5 rfl) rfl rfl S (y_move rfl S rfl) fun a S => ?_)
        refine wl_of (op_y (wg' 76 rfl rfl S rfl h5 rfl) rfl rfl S (y_move rfl S rfl) fun a S => ?_)
        refine wl_of (op_call (wg' 76 rfl rfl S rfl h5 rfl) rfl rfl S (co_func rfl Try.call12 S rfl) (ints_spec u46 s (called r now) ((called f now).filter (fun x => decide (x ∈ (called r (from_ + span * (order.length : Int)))))) _ (H.sl _) (H.sl _)) fun v w hc a S => ?_)
        obtain ⟨rfl, he⟩ := hc
        have H := H.ext he
        refine wl_of (op_y (wn rfl) rfl rfl S (y_and' rfl h5 S rfl rfl) fun a S => ?_)
        exact kk _ _ (S.join 4 80 rfl rfl) H
      refine wl_of (op_y (wn rfl) rfl rfl S (y_assign rfl S rfl) fun a S => ?_)
      refine gl_nil ?_
      refine n_then ?_
      have S := S.nil.cons S 12 rfl
      refine g_ret ?_
      refine ret1 rfl S rfl ?_
      exact ⟨by rw [hol]; simp, H.toExt⟩

end Go.Proofs.Ytgplcgfdaoenfaa
