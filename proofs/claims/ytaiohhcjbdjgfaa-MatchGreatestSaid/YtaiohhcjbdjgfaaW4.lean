/- The walks. No condition. -/
import Derived.Test.YtaiohhcjbdjgfaaChecked
import Derived.Test.YtaiohhcjbdjgfaaGwCut
import Derived.Test.YtaiohhcjbdjgfaaFacts
import Derived.Test.YtaiohhcjbdjgfaaPlain
import Derived.Test.YtaiohhcjbdjgfaaW3
namespace Go.Proofs.Ytaiohhcjbdjgfaa
open Go Go.Gw
set_option linter.unusedVariables false
set_option linter.unusedSimpArgs false

/-- what the search for a way does: f rounds deep at most -/
def AugSpec (f : Nat) (right : Int) (v vo vg : Value) (ps : List (Value × List Int)) (be bo ba bg bs : Nat) : Prop := ∀ {M : Nat → Prop} {u0 : World} {l : List Atom} (i : Nat) (s0 : AS) (c0 : Nat) (w0 : World), i < ps.length → AWF (gr ps) right s0 → right.toNat < f + s0.seen.length →
    HSat M u0 (MapA bs (fun n : Int => .int .i64 n) (fun b : Bool => .bool b) (memS (s0.seen)) c0 :: OSl 3 vo 1 encI (s0.owner) :: OSl 3 vg 1 encI (s0.got) :: Atom.ro (Cel bo 23 [vo]) :: Atom.ro (Cel bg 23 [vg]) :: Atom.ro (Cel be 22 [v]) :: Atom.ro (Cel ba 47 [.func (.func 30) #[] #[.pointer (some ⟨be, 0, none⟩), .pointer (some ⟨bo, 0, none⟩), .pointer (some ⟨ba, 0, none⟩), .pointer (some ⟨bg, 0, none⟩)]]) :: RowsS 1 encI ps :: Sl v 1 encRow ps :: l) w0 → Ret Try.prog 30 #[.int .i64 (i : Int), .map (some bs), .pointer (some ⟨be, 0, none⟩), .pointer (some ⟨bo, 0, none⟩), .pointer (some ⟨ba, 0, none⟩), .pointer (some ⟨bg, 0, none⟩)] w0 (fun u w => u = .bool (aug (gr ps) f (i : Int) s0).1 ∧ ∃ c, HSat M u0 (MapA bs (fun n : Int => .int .i64 n) (fun b : Bool => .bool b) (memS ((aug (gr ps) f (i : Int) s0).2.seen)) c :: OSl 3 vo 1 encI ((aug (gr ps) f (i : Int) s0).2.owner) :: OSl 3 vg 1 encI ((aug (gr ps) f (i : Int) s0).2.got) :: Atom.ro (Cel bo 23 [vo]) :: Atom.ro (Cel bg 23 [vg]) :: Atom.ro (Cel be 22 [v]) :: Atom.ro (Cel ba 47 [.func (.func 30) #[] #[.pointer (some ⟨be, 0, none⟩), .pointer (some ⟨bo, 0, none⟩), .pointer (some ⟨ba, 0, none⟩), .pointer (some ⟨bg, 0, none⟩)]]) :: RowsS 1 encI ps :: Sl v 1 encRow ps :: l) w)
set_option maxHeartbeats 2000000 in
/-- foyer/match.Match$1 -/
theorem aug_step {M : Nat → Prop} {u0 : World} {l : List Atom} (f : Nat) (right : Int) (v vo vg : Value) (ps : List (Value × List Int)) (be bo ba bg bs : Nat) (hvg : validG (gr ps) right = true) (ih : AugSpec f right v vo vg ps be bo ba bg bs) (i : Nat) (s0 : AS) (c0 : Nat) (w0 : World) (hi0 : i < ps.length) (hwf0 : AWF (gr ps) right s0) (hf0 : right.toNat < f + 1 + s0.seen.length) (h0 : HSat M u0 (MapA bs (fun n : Int => .int .i64 n) (fun b : Bool => .bool b) (memS (s0.seen)) c0 :: OSl 3 vo 1 encI (s0.owner) :: OSl 3 vg 1 encI (s0.got) :: Atom.ro (Cel bo 23 [vo]) :: Atom.ro (Cel bg 23 [vg]) :: Atom.ro (Cel be 22 [v]) :: Atom.ro (Cel ba 47 [.func (.func 30) #[] #[.pointer (some ⟨be, 0, none⟩), .pointer (some ⟨bo, 0, none⟩), .pointer (some ⟨ba, 0, none⟩), .pointer (some ⟨bg, 0, none⟩)]]) :: RowsS 1 encI ps :: Sl v 1 encRow ps :: l) w0) :
    Ret Try.prog 30 #[.int .i64 (i : Int), .map (some bs), .pointer (some ⟨be, 0, none⟩), .pointer (some ⟨bo, 0, none⟩), .pointer (some ⟨ba, 0, none⟩), .pointer (some ⟨bg, 0, none⟩)] w0 (fun u w => u = .bool (aug (gr ps) (f + 1) (i : Int) s0).1 ∧ ∃ c, HSat M u0 (MapA bs (fun n : Int => .int .i64 n) (fun b : Bool => .bool b) (memS ((aug (gr ps) (f + 1) (i : Int) s0).2.seen)) c :: OSl 3 vo 1 encI ((aug (gr ps) (f + 1) (i : Int) s0).2.owner) :: OSl 3 vg 1 encI ((aug (gr ps) (f + 1) (i : Int) s0).2.got) :: Atom.ro (Cel bo 23 [vo]) :: Atom.ro (Cel bg 23 [vg]) :: Atom.ro (Cel be 22 [v]) :: Atom.ro (Cel ba 47 [.func (.func 30) #[] #[.pointer (some ⟨be, 0, none⟩), .pointer (some ⟨bo, 0, none⟩), .pointer (some ⟨ba, 0, none⟩), .pointer (some ⟨bg, 0, none⟩)]]) :: RowsS 1 encI ps :: Sl v 1 encRow ps :: l) w) := by
  refine ret_of_wp (nt := 48) Try.func30 rfl rfl rfl (fl := [(0, .int .i64 (i : Int)), (1, .map (some bs)), (2, .pointer (some ⟨be, 0, none⟩)), (3, .pointer (some ⟨bo, 0, none⟩)), (4, .pointer (some ⟨ba, 0, none⟩)), (5, .pointer (some ⟨bg, 0, none⟩))]) rfl (fun a S => ?_)
  have H := h0
  have hgl := gr_len ps
  have hrw := gr_row ps hi0
  have hvp := validG_parts hvg
  have hlv := (H.sl v).len
  have hrl := (H.rwsS (sz := 1) (enc := encI) ps _ (List.getElem_mem hi0)).len
  refine g_seq ?_
  -- region 0 match.go:35
  refine g_region ?_
  refine wl_of (op_y (wn rfl) rfl rfl S (y_assign rfl S rfl) fun a S => ?_)
  refine gl_nil ?_
  refine n_then ?_
  refine g_seq ?_
  refine g_seq ?_
  -- region 1 match.go:36
  refine g_region ?_
  refine wl_of (op_y (wn rfl) rfl rfl S (y_load rfl Fsca22 S H rfl rfl) fun a S => ?_)
  refine wl_of (op_y (wn rfl) rfl rfl S (y_move rfl S rfl) fun a S => ?_)
  refine wl_of (op_y (wn rfl) rfl rfl S (y_iaddrn rfl Try.underlying22 Fsiz23 S H rfl rfl (by first | assumption | omega | (simp only [List.length_append, List.length_take, List.length_drop, List.length_replicate, List.length_set, List.length_map, List.length_cons, List.length_nil]; omega))) fun a S => ?_)
  refine wl_of (op_y (wn rfl) rfl rfl S (y_loads _ rfl Fsca23 S H rfl (by first | assumption | omega | (simp only [List.length_append, List.length_take, List.length_drop, List.length_replicate, List.length_set, List.length_map, List.length_cons, List.length_nil]; omega)) rfl) fun a S => ?_)
  refine wl_of (op_y (wn rfl) rfl rfl S (y_lens rfl Try.underlying23 S H rfl) fun a S => ?_)
  refine wl_of (op_y (wn rfl) rfl rfl S (y_move rfl S rfl) fun a S => ?_)
  refine gl_nil ?_
  refine n_then ?_
  have S := ((((((((S.nil.cons S 5 rfl).cons S 4 rfl).cons S 3 rfl).cons S 1 rfl).cons S 0 rfl).cons S 8 rfl).cons S 14 rfl).cons S 15 rfl).cons S 16 rfl
  refine g_block ?_
  -- slots written in the loop and forgotten at its head: [8]
  have SU := ((((((S.nil.cons S 5 rfl).cons S 4 rfl).cons S 3 rfl).cons S 1 rfl).cons S 0 rfl).cons S 14 rfl).cons S 15 rfl
  refine loopW (X := Nat) SU (fun k => [(16, .int .i64 (k : Int))]) (fun k w => k ≤ ps[i].2.length ∧ ∃ s c, augRow (aug (gr ps) f) i ps[i].2 s0 = augRow (aug (gr ps) f) i (ps[i].2.drop k) s ∧ AWF (gr ps) right s ∧ right.toNat < f + 1 + s.seen.length ∧ HSat M u0 (MapA bs (fun n : Int => .int .i64 n) (fun b : Bool => .bool b) (memS (s.seen)) c :: OSl 3 vo 1 encI (s.owner) :: OSl 3 vg 1 encI (s.got) :: Atom.ro (Cel bo 23 [vo]) :: Atom.ro (Cel bg 23 [vg]) :: Atom.ro (Cel be 22 [v]) :: Atom.ro (Cel ba 47 [.func (.func 30) #[] #[.pointer (some ⟨be, 0, none⟩), .pointer (some ⟨bo, 0, none⟩), .pointer (some ⟨ba, 0, none⟩), .pointer (some ⟨bg, 0, none⟩)]]) :: RowsS 1 encI ps :: Sl v 1 encRow ps :: l) w) (fun k => ps[i].2.length - k) 0 (S.nil.cons S 16 rfl) (⟨by omega, s0, c0, rfl, hwf0, hf0, H⟩) (fun k a w S hW => ?_)
  simp only [List.cons_append, List.nil_append] at S
  obtain ⟨hk, s, c, hau, hwf, hfu, H⟩ := hW
  have hlo := hwf.lo
  have hlg := hwf.lg
  refine g_seq ?_
  -- region 2 match.go:36
  refine g_region ?_
  refine wl_of (op_y (wn rfl) rfl rfl S (y_bin rfl S rfl rfl rfl) fun a S => ?_)
  refine gl_nil ?_
  refine n_then ?_
  refine g_seq ?_
  -- cond 1
  refine c_if S rfl (fun h1 => ?_) (fun h1 => ?_)
  · have h1p := h1; try simp only [Option.isNone_some, Option.isNone_none, Option.isSome_some, Option.isSome_none, false_or, or_false, true_and, and_true, decide_eq_true_eq, decide_eq_false_iff_not, Bool.or_eq_true, Bool.and_eq_true, Bool.or_eq_false_iff, Bool.and_eq_false_iff, Bool.not_eq_true', Bool.not_eq_false', bne_iff_ne, beq_iff_eq, beq_eq_false_iff_ne, bne_eq_false_iff_eq, ne_eq, Decidable.not_not, Int.not_lt, Int.not_le, gt_iff_lt, ge_iff_le, Bool.true_eq_false, Bool.false_eq_true, not_true_eq_false, not_false_eq_true] at h1p
    have hkl : k < ps[i].2.length := by omega
    obtain ⟨n, hn⟩ : ∃ n, n = ps[i].2[k] := ⟨_, rfl⟩
    have hnr : 0 ≤ n ∧ n < right := hvp.2.2.2 i n (by rw [hrw, hn]; exact List.getElem_mem _)
    have hrd : ps[i].2.drop k = n :: ps[i].2.drop (k + 1) := by rw [hn]; exact List.drop_eq_getElem_cons hkl
    refine g_skip ?_
    refine n_then ?_
    refine g_seq ?_
    refine g_block ?_
    refine g_seq ?_
    -- region 3 match.go:36
    refine g_region ?_
    refine wl_of (op_y (wn rfl) rfl rfl S (y_iaddrn rfl Try.underlying23 Fsiz3 S H rfl rfl (by first | assumption | omega | (simp only [List.length_append, List.length_take, List.length_drop, List.length_replicate, List.length_set, List.length_map, List.length_cons, List.length_nil]; omega))) fun a S => ?_)
    refine wl_of (op_y (wn rfl) rfl rfl S (y_loads _ rfl Fsca3 S H rfl (by first | assumption | omega | (simp only [List.length_append, List.length_take, List.length_drop, List.length_replicate, List.length_set, List.length_map, List.length_cons, List.length_nil]; omega)) rfl) fun a S => ?_)
    rw [← hn] at S
    refine wl_of (op_y (wn rfl) rfl rfl S (y_assign rfl S rfl) fun a S => ?_)
    refine gl_nil ?_
    refine n_then ?_
    refine g_seq ?_
    refine g_seq ?_
    -- region 4 match.go:37
    refine g_region ?_
    refine wl_of (op_y (wn rfl) rfl rfl S (y_move rfl S rfl) fun a S => ?_)
    refine wl_of (op_y (wn rfl) rfl rfl S (y_move rfl S rfl) fun a S => ?_)
    refine wl_of (op_y (wn rfl) rfl rfl S (y_lookup _ (false) rfl Try.underlying44 Finf4 S H rfl (keyOK_int Try.underlying3) (by exact rfl) (by exact rfl)) fun a S => ?_)
    refine gl_nil ?_
    refine n_then ?_
    -- cond 2
    refine c_if S rfl (fun h2 => ?_) (fun h2 => ?_)
    · have h2p := h2; try simp only [Option.isNone_some, Option.isNone_none, Option.isSome_some, Option.isSome_none, false_or, or_false, true_and, and_true, decide_eq_true_eq, decide_eq_false_iff_not, Bool.or_eq_true, Bool.and_eq_true, Bool.or_eq_false_iff, Bool.and_eq_false_iff, Bool.not_eq_true', Bool.not_eq_false', bne_iff_ne, beq_iff_eq, beq_eq_false_iff_ne, bne_eq_false_iff_eq, ne_eq, Decidable.not_not, Int.not_lt, Int.not_le, gt_iff_lt, ge_iff_le, Bool.true_eq_false, Bool.false_eq_true, not_true_eq_false, not_false_eq_true] at h2p
      have hx : n ∈ s.seen := by have := h2; rw [memS_get] at this; simpa using this
      refine g_exit ?_
      refine x_then (x_eq ?_)
      refine n_then ?_
      -- region 9 match.go:36
      refine g_region ?_
      refine wl_of (op_y (wn rfl) rfl rfl S (y_add rfl S rfl rfl (by omega)) fun a S => ?_)
      refine wl_of (op_y (wn rfl) rfl rfl S (y_move rfl S rfl) fun a S => ?_)
      refine gl_nil ?_
      refine n_then ?_
      first
      | exact ⟨k + 1, S.nil.cons S 16 rfl, ((((((S.nil.cons S 5 rfl).cons S 4 rfl).cons S 3 rfl).cons S 1 rfl).cons S 0 rfl).cons S 14 rfl).cons S 15 rfl, ⟨by omega, s, c, by rw [hau, hrd, augRow, if_pos hx], hwf, hfu, H⟩, by omega⟩
      | (have hbf : b = false := by simpa using @c3
         subst hbf
         exact ⟨k + 1, S.nil.cons S 16 rfl, ((((((S.nil.cons S 5 rfl).cons S 4 rfl).cons S 3 rfl).cons S 1 rfl).cons S 0 rfl).cons S 14 rfl).cons S 15 rfl, ⟨by omega, s2, c2, by rw [hau, hrd, augRow, if_neg hx, hatn, if_neg hb, ho, hq], hout.wf, by omega, H⟩, by omega⟩)
    · have h2p := h2; try simp only [Option.isNone_some, Option.isNone_none, Option.isSome_some, Option.isSome_none, false_or, or_false, true_and, and_true, decide_eq_true_eq, decide_eq_false_iff_not, Bool.or_eq_true, Bool.and_eq_true, Bool.or_eq_false_iff, Bool.and_eq_false_iff, Bool.not_eq_true', Bool.not_eq_false', bne_iff_ne, beq_iff_eq, beq_eq_false_iff_ne, bne_eq_false_iff_eq, ne_eq, Decidable.not_not, Int.not_lt, Int.not_le, gt_iff_lt, ge_iff_le, Bool.true_eq_false, Bool.false_eq_true, not_true_eq_false, not_false_eq_true] at h2p
      have hx : n ∉ s.seen := by have := h2; rw [memS_get] at this; simpa using this
      have hwf1 := hwf.see hnr hx
      have hatn : atI s.owner n.toNat = s.owner[n.toNat] := atI_eq (by omega)
      have hon := hwf.own n.toNat
      refine g_skip ?_
      refine n_then ?_
      refine g_seq ?_
      -- region 5 match.go:40
      refine g_region ?_
      refine wl_of (op_y (wn rfl) rfl rfl S (y_move rfl S rfl) fun a S => ?_)
      refine wl_of (op_y (wn rfl) rfl rfl S (y_move rfl S rfl) fun a S => ?_)
      refine wl_of (op_mapUpdate _ (_) (wn rfl) rfl rfl Try.underlying44 S H rfl (keyOK_int Try.underlying3) (by exact rfl) (by exact rfl) fun a w S H => ?_)
      refine gl_nil ?_
      refine n_then ?_
      refine g_seq ?_
      have H : ∃ c1, HSat M u0 (MapA bs (fun n : Int => .int .i64 n) (fun b : Bool => .bool b) (memS ((s.see n).seen)) c1 :: OSl 3 vo 1 encI (s.owner) :: OSl 3 vg 1 encI (s.got) :: Atom.ro (Cel bo 23 [vo]) :: Atom.ro (Cel bg 23 [vg]) :: Atom.ro (Cel be 22 [v]) :: Atom.ro (Cel ba 47 [.func (.func 30) #[] #[.pointer (some ⟨be, 0, none⟩), .pointer (some ⟨bo, 0, none⟩), .pointer (some ⟨ba, 0, none⟩), .pointer (some ⟨bg, 0, none⟩)]]) :: RowsS 1 encI ps :: Sl v 1 encRow ps :: l) _ := ⟨_, H⟩
      obtain ⟨c1, H⟩ := H
      by_cases hb : s.owner[n.toNat] < 0
      · skip
        -- region 6 DRAWS match.go:41
        refine region_st (loud := [12]) (tails := [12]) (free := []) [0, 1, 2, 3, 4, 5, 6, 7, 8, 9, 10, 11, 12, 13] [] Fmo (by kernel_rfl) (by kernel_rfl) rfl H ?_
        refine m_w rfl rfl (wn rfl) rfl rfl S (fun w H => y_load rfl Fsca23 S H rfl rfl) fun a S => ?_
        refine m_w rfl rfl (wn rfl) rfl rfl S (fun w H => y_move rfl S rfl) fun a S => ?_
        refine m_w rfl rfl (wn rfl) rfl rfl S (fun w H => y_iaddrs rfl Try.underlying23 Fsiz3 S H rfl rfl (by first | assumption | omega | (simp only [List.length_append, List.length_take, List.length_drop, List.length_replicate, List.length_set, List.length_map, List.length_cons, List.length_nil]; omega))) fun a S => ?_
        refine m_loads _ rfl rfl (wn rfl) rfl rfl S rfl Fsca3 rfl (by first | assumption | omega | (simp only [List.length_append, List.length_take, List.length_drop, List.length_replicate, List.length_set, List.length_map, List.length_cons, List.length_nil]; omega)) rfl fun a S => ?_
        refine m_w rfl rfl (wn rfl) rfl rfl S (fun w H => y_bin rfl S rfl rfl rfl) fun a S => ?_
        rw [decide_eq_true hb] at S
        refine m_w rfl rfl (wn rfl) rfl rfl S (fun w H => y_move rfl S rfl) fun a S => ?_
        refine' m_orq (B2 := false) [6, 7, 8, 9, 10, 11, 12] 30 S rfl rfl rfl rfl rfl rfl rfl rfl rfl (fun _ S => (wn rfl)) (fun h kk => absurd h (by simp)) (fun a S => ?_)
        refine m_nil (fun w H => ?_)
        refine n_then ?_
        -- cond 3
        refine c_if S rfl (fun h3 => ?_) (fun h3 => ?_)
        · have h3p := h3; try simp only [Option.isNone_some, Option.isNone_none, Option.isSome_some, Option.isSome_none, false_or, or_false, true_and, and_true, decide_eq_true_eq, decide_eq_false_iff_not, Bool.or_eq_true, Bool.and_eq_true, Bool.or_eq_false_iff, Bool.and_eq_false_iff, Bool.not_eq_true', Bool.not_eq_false', bne_iff_ne, beq_iff_eq, beq_eq_false_iff_ne, bne_eq_false_iff_eq, ne_eq, Decidable.not_not, Int.not_lt, Int.not_le, gt_iff_lt, ge_iff_le, Bool.true_eq_false, Bool.false_eq_true, not_true_eq_false, not_false_eq_true] at h3p
          refine g_seq ?_
          -- region 7 DRAWS match.go:42
          refine region_st (loud := [7, 9]) (tails := [7, 9]) (free := [2, 3, 5]) [0, 1, 2, 3, 4, 5, 6, 7, 8, 9] [Atom.ro (Cel bg 23 [vg])] Fmo (by kernel_rfl) (by kernel_rfl) rfl H ?_
          refine m_w rfl rfl (wn rfl) rfl rfl S (fun w H => y_load rfl Fsca23 S H rfl rfl) fun a S => ?_
          refine m_w rfl rfl (wn rfl) rfl rfl S (fun w H => y_move rfl S rfl) fun a S => ?_
          refine m_f rfl rfl (wn rfl) rfl rfl S (fun w H => y_load rfl Fsca23 S H rfl rfl) fun a S => ?_
          refine m_f rfl rfl (wn rfl) rfl rfl S (fun w H => y_move rfl S rfl) fun a S => ?_
          refine m_w rfl rfl (wn rfl) rfl rfl S (fun w H => y_move rfl S rfl) fun a S => ?_
          refine m_f rfl rfl (wn rfl) rfl rfl S (fun w H => y_move rfl S rfl) fun a S => ?_
          refine m_w rfl rfl (wn rfl) rfl rfl S (fun w H => y_iaddrs rfl Try.underlying23 Fsiz3 S H rfl rfl (by first | assumption | omega | (simp only [List.length_append, List.length_take, List.length_drop, List.length_replicate, List.length_set, List.length_map, List.length_cons, List.length_nil]; omega))) fun a S => ?_
          refine m_l rfl rfl (fun w H => op_store1 _ (_) (wn rfl) rfl rfl S H rfl rfl rfl rfl Fsiz3 (by first | assumption | omega | (simp only [List.length_append, List.length_take, List.length_drop, List.length_replicate, List.length_set, List.length_map, List.length_cons, List.length_nil]; omega)) (by exact rfl) fun a w S H => m_tail H rfl ?_)
          refine m_w rfl rfl (wn rfl) rfl rfl S (fun w H => y_iaddrn rfl Try.underlying23 Fsiz3 S H rfl rfl (by first | assumption | omega | (simp only [List.length_append, List.length_take, List.length_drop, List.length_replicate, List.length_set, List.length_map, List.length_cons, List.length_nil]; omega))) fun a S => ?_
          refine m_l rfl rfl (fun w H => op_store1 _ (_) (wn rfl) rfl rfl S H rfl rfl rfl rfl Fsiz3 (by first | assumption | omega | (simp only [List.length_append, List.length_take, List.length_drop, List.length_replicate, List.length_set, List.length_map, List.length_cons, List.length_nil]; omega)) (by exact rfl) fun a w S H => m_tail H rfl ?_)
          refine m_nil (fun w H => ?_)
          refine n_then ?_
          refine g_seq ?_
          -- region 8 match.go:43
          refine g_region ?_
          refine wl_of (op_y (wn rfl) rfl rfl S (y_assign rfl S rfl) fun a S => ?_)
          refine gl_nil ?_
          refine n_then ?_
          refine g_ret ?_
          refine r_block (r_then (r_then (r_block (r_then (ret1 rfl S rfl ?_)))))
          first
          | (have e : aug (gr ps) (f + 1) i s0 = (true, (s.see n).pair n i) := by rw [aug_succ ps f i s0 hi0, hau, hrd, augRow, if_neg hx, hatn, if_pos hb]
             rw [e]; exact ⟨rfl, _, H⟩)
          | (have hbt : b = true := by simpa using h3
             subst hbt
             have e : aug (gr ps) (f + 1) i s0 = (true, s2.pair n i) := by rw [aug_succ ps f i s0 hi0, hau, hrd, augRow, if_neg hx, hatn, if_neg hb, ho, hq]
             rw [e]; exact ⟨rfl, _, H⟩)
        · have h3p := h3; try simp only [Option.isNone_some, Option.isNone_none, Option.isSome_some, Option.isSome_none, false_or, or_false, true_and, and_true, decide_eq_true_eq, decide_eq_false_iff_not, Bool.or_eq_true, Bool.and_eq_true, Bool.or_eq_false_iff, Bool.and_eq_false_iff, Bool.not_eq_true', Bool.not_eq_false', bne_iff_ne, beq_iff_eq, beq_eq_false_iff_ne, bne_eq_false_iff_eq, ne_eq, Decidable.not_not, Int.not_lt, Int.not_le, gt_iff_lt, ge_iff_le, Bool.true_eq_false, Bool.false_eq_true, not_true_eq_false, not_false_eq_true] at h3p
          all_goals (
            exact absurd h3 (by simp))
      · obtain ⟨o, ho⟩ : ∃ o : Nat, s.owner[n.toNat] = o := ⟨s.owner[n.toNat].toNat, by omega⟩
        -- region 6 DRAWS match.go:41
        refine region_st (loud := [12]) (tails := [12]) (free := []) [0, 1, 2, 3, 4, 5, 6, 7, 8, 9, 10, 11, 12, 13] [] Fmo (by kernel_rfl) (by kernel_rfl) rfl H ?_
        refine m_w rfl rfl (wn rfl) rfl rfl S (fun w H => y_load rfl Fsca23 S H rfl rfl) fun a S => ?_
        refine m_w rfl rfl (wn rfl) rfl rfl S (fun w H => y_move rfl S rfl) fun a S => ?_
        refine m_w rfl rfl (wn rfl) rfl rfl S (fun w H => y_iaddrs rfl Try.underlying23 Fsiz3 S H rfl rfl (by first | assumption | omega | (simp only [List.length_append, List.length_take, List.length_drop, List.length_replicate, List.length_set, List.length_map, List.length_cons, List.length_nil]; omega))) fun a S => ?_
        refine m_loads _ rfl rfl (wn rfl) rfl rfl S rfl Fsca3 rfl (by first | assumption | omega | (simp only [List.length_append, List.length_take, List.length_drop, List.length_replicate, List.length_set, List.length_map, List.length_cons, List.length_nil]; omega)) rfl fun a S => ?_
        refine m_w rfl rfl (wn rfl) rfl rfl S (fun w H => y_bin rfl S rfl rfl rfl) fun a S => ?_
        rw [decide_eq_false hb] at S
        refine m_w rfl rfl (wn rfl) rfl rfl S (fun w H => y_move rfl S rfl) fun a S => ?_
        refine m_w rfl rfl (wg' 30 rfl rfl S rfl rfl rfl) rfl rfl S (fun w H => y_load rfl Fsca47 S H rfl rfl) fun a S => ?_
        refine m_w rfl rfl (wg' 30 rfl rfl S rfl rfl rfl) rfl rfl S (fun w H => y_load rfl Fsca23 S H rfl rfl) fun a S => ?_
        refine m_w rfl rfl (wg' 30 rfl rfl S rfl rfl rfl) rfl rfl S (fun w H => y_move rfl S rfl) fun a S => ?_
        refine m_w rfl rfl (wg' 30 rfl rfl S rfl rfl rfl) rfl rfl S (fun w H => y_iaddrs rfl Try.underlying23 Fsiz3 S H rfl rfl (by first | assumption | omega | (simp only [List.length_append, List.length_take, List.length_drop, List.length_replicate, List.length_set, List.length_map, List.length_cons, List.length_nil]; omega))) fun a S => ?_
        refine m_loads _ rfl rfl (wg' 30 rfl rfl S rfl rfl rfl) rfl rfl S rfl Fsca3 rfl (by first | assumption | omega | (simp only [List.length_append, List.length_take, List.length_drop, List.length_replicate, List.length_set, List.length_map, List.length_cons, List.length_nil]; omega)) rfl fun a S => ?_
        rw [ho] at S
        refine m_w rfl rfl (wg' 30 rfl rfl S rfl rfl rfl) rfl rfl S (fun w H => y_move rfl S rfl) fun a S => ?_
        refine m_l rfl rfl (fun w H => op_call (wg' 30 rfl rfl S rfl rfl rfl) rfl rfl S (co_value rfl Try.call30 S rfl rfl) (ih o (s.see n) c1 _ (by omega) hwf1 (by simp [AS.see]; omega) H) fun v w hc a S => ?_)
        obtain ⟨rfl, c2, H⟩ := hc
        have hout := aug_out hvg f o (s.see n) (by omega) hwf1
        obtain ⟨b, s2, hq⟩ : ∃ b s2, aug (gr ps) f o (s.see n) = (b, s2) := ⟨_, _, rfl⟩
        rw [hq] at S H hout
        dsimp only at S H hout
        have hlo2 := hout.wf.lo
        have hlg2 := hout.wf.lg
        have hln2 := hout.len
        simp only [AS.see, List.length_cons] at hln2
        refine m_tail H rfl ?_
        refine m_w rfl rfl (wn rfl) rfl rfl S (fun w H => y_or' rfl rfl S rfl rfl) fun a S => ?_
        refine m_nil (fun w H => ?_)
        refine n_then ?_
        -- cond 3
        refine c_if S rfl (fun h4 => ?_) (fun h4 => ?_)
        · have h4p := h4; try simp only [Option.isNone_some, Option.isNone_none, Option.isSome_some, Option.isSome_none, false_or, or_false, true_and, and_true, decide_eq_true_eq, decide_eq_false_iff_not, Bool.or_eq_true, Bool.and_eq_true, Bool.or_eq_false_iff, Bool.and_eq_false_iff, Bool.not_eq_true', Bool.not_eq_false', bne_iff_ne, beq_iff_eq, beq_eq_false_iff_ne, bne_eq_false_iff_eq, ne_eq, Decidable.not_not, Int.not_lt, Int.not_le, gt_iff_lt, ge_iff_le, Bool.true_eq_false, Bool.false_eq_true, not_true_eq_false, not_false_eq_true] at h4p
          refine g_seq ?_
          -- region 7 DRAWS match.go:42
          refine region_st (loud := [7, 9]) (tails := [7, 9]) (free := [2, 3, 5]) [0, 1, 2, 3, 4, 5, 6, 7, 8, 9] [Atom.ro (Cel bg 23 [vg])] Fmo (by kernel_rfl) (by kernel_rfl) rfl H ?_
          refine m_w rfl rfl (wn rfl) rfl rfl S (fun w H => y_load rfl Fsca23 S H rfl rfl) fun a S => ?_
          refine m_w rfl rfl (wn rfl) rfl rfl S (fun w H => y_move rfl S rfl) fun a S => ?_
          refine m_f rfl rfl (wn rfl) rfl rfl S (fun w H => y_load rfl Fsca23 S H rfl rfl) fun a S => ?_
          refine m_f rfl rfl (wn rfl) rfl rfl S (fun w H => y_move rfl S rfl) fun a S => ?_
          refine m_w rfl rfl (wn rfl) rfl rfl S (fun w H => y_move rfl S rfl) fun a S => ?_
          refine m_f rfl rfl (wn rfl) rfl rfl S (fun w H => y_move rfl S rfl) fun a S => ?_
          refine m_w rfl rfl (wn rfl) rfl rfl S (fun w H => y_iaddrs rfl Try.underlying23 Fsiz3 S H rfl rfl (by first | assumption | omega | (simp only [List.length_append, List.length_take, List.length_drop, List.length_replicate, List.length_set, List.length_map, List.length_cons, List.length_nil]; omega))) fun a S => ?_
          refine m_l rfl rfl (fun w H => op_store1 _ (_) (wn rfl) rfl rfl S H rfl rfl rfl rfl Fsiz3 (by first | assumption | omega | (simp only [List.length_append, List.length_take, List.length_drop, List.length_replicate, List.length_set, List.length_map, List.length_cons, List.length_nil]; omega)) (by exact rfl) fun a w S H => m_tail H rfl ?_)
          refine m_w rfl rfl (wn rfl) rfl rfl S (fun w H => y_iaddrn rfl Try.underlying23 Fsiz3 S H rfl rfl (by first | assumption | omega | (simp only [List.length_append, List.length_take, List.length_drop, List.length_replicate, List.length_set, List.length_map, List.length_cons, List.length_nil]; omega))) fun a S => ?_
          refine m_l rfl rfl (fun w H => op_store1 _ (_) (wn rfl) rfl rfl S H rfl rfl rfl rfl Fsiz3 (by first | assumption | omega | (simp only [List.length_append, List.length_take, List.length_drop, List.length_replicate, List.length_set, List.length_map, List.length_cons, List.length_nil]; omega)) (by exact rfl) fun a w S H => m_tail H rfl ?_)
          refine m_nil (fun w H => ?_)
          refine n_then ?_
          refine g_seq ?_
          -- region 8 match.go:43
          refine g_region ?_
          refine wl_of (op_y (wn rfl) rfl rfl S (y_assign rfl S rfl) fun a S => ?_)
          refine gl_nil ?_
          refine n_then ?_
          refine g_ret ?_
          refine r_block (r_then (r_then (r_block (r_then (ret1 rfl S rfl ?_)))))
          first
          | (have e : aug (gr ps) (f + 1) i s0 = (true, (s.see n).pair n i) := by rw [aug_succ ps f i s0 hi0, hau, hrd, augRow, if_neg hx, hatn, if_pos hb]
             rw [e]; exact ⟨rfl, _, H⟩)
          | (have hbt : b = true := by simpa using h4
             subst hbt
             have e : aug (gr ps) (f + 1) i s0 = (true, s2.pair n i) := by rw [aug_succ ps f i s0 hi0, hau, hrd, augRow, if_neg hx, hatn, if_neg hb, ho, hq]
             rw [e]; exact ⟨rfl, _, H⟩)
        · have h4p := h4; try simp only [Option.isNone_some, Option.isNone_none, Option.isSome_some, Option.isSome_none, false_or, or_false, true_and, and_true, decide_eq_true_eq, decide_eq_false_iff_not, Bool.or_eq_true, Bool.and_eq_true, Bool.or_eq_false_iff, Bool.and_eq_false_iff, Bool.not_eq_true', Bool.not_eq_false', bne_iff_ne, beq_iff_eq, beq_eq_false_iff_ne, bne_eq_false_iff_eq, ne_eq, Decidable.not_not, Int.not_lt, Int.not_le, gt_iff_lt, ge_iff_le, Bool.true_eq_false, Bool.false_eq_true, not_true_eq_false, not_false_eq_true] at h4p
          refine g_skip ?_
          refine n_block ?_
          refine n_then ?_
          -- region 9 match.go:36
          refine g_region ?_
          refine wl_of (op_y (wn rfl) rfl rfl S (y_add rfl S rfl rfl (by omega)) fun a S => ?_)
          refine wl_of (op_y (wn rfl) rfl rfl S (y_move rfl S rfl) fun a S => ?_)
          refine gl_nil ?_
          refine n_then ?_
          first
          | exact ⟨k + 1, S.nil.cons S 16 rfl, ((((((S.nil.cons S 5 rfl).cons S 4 rfl).cons S 3 rfl).cons S 1 rfl).cons S 0 rfl).cons S 14 rfl).cons S 15 rfl, ⟨by omega, s, c, by rw [hau, hrd, augRow, if_pos hx], hwf, hfu, H⟩, by omega⟩
          | (have hbf : b = false := by simpa using h4
             subst hbf
             exact ⟨k + 1, S.nil.cons S 16 rfl, ((((((S.nil.cons S 5 rfl).cons S 4 rfl).cons S 3 rfl).cons S 1 rfl).cons S 0 rfl).cons S 14 rfl).cons S 15 rfl, ⟨by omega, s2, c2, by rw [hau, hrd, augRow, if_neg hx, hatn, if_neg hb, ho, hq], hout.wf, by omega, H⟩, by omega⟩)
  · have h1p := h1; try simp only [Option.isNone_some, Option.isNone_none, Option.isSome_some, Option.isSome_none, false_or, or_false, true_and, and_true, decide_eq_true_eq, decide_eq_false_iff_not, Bool.or_eq_true, Bool.and_eq_true, Bool.or_eq_false_iff, Bool.and_eq_false_iff, Bool.not_eq_true', Bool.not_eq_false', bne_iff_ne, beq_iff_eq, beq_eq_false_iff_ne, bne_eq_false_iff_eq, ne_eq, Decidable.not_not, Int.not_lt, Int.not_le, gt_iff_lt, ge_iff_le, Bool.true_eq_false, Bool.false_eq_true, not_true_eq_false, not_false_eq_true] at h1p
    refine g_exit ?_
    refine x_then (x_then (x_eq ?_))
    refine n_then ?_
    have S := S.nil
    refine g_seq ?_
    -- region 10 match.go:46
    refine g_region ?_
    refine wl_of (op_y (wn rfl) rfl rfl S (y_assign rfl S rfl) fun a S => ?_)
    refine gl_nil ?_
    refine n_then ?_
    refine g_ret ?_
    refine ret1 rfl S rfl ?_
    have e : aug (gr ps) (f + 1) i s0 = (false, s) := by rw [aug_succ ps f i s0 hi0, hau, List.drop_of_length_le (by omega)]; rfl
    rw [e]; exact ⟨rfl, _, H⟩

theorem aug_spec (right : Int) (v vo vg : Value) (ps : List (Value × List Int)) (be bo ba bg bs : Nat) (hvg : validG (gr ps) right = true) : ∀ f, AugSpec f right v vo vg ps be bo ba bg bs
  | 0 => fun i s0 c0 w0 hi hwf hf h => by have := hwf.few; omega
  | f + 1 => fun i s0 c0 w0 hi hwf hf h => aug_step f right v vo vg ps be bo ba bg bs hvg (aug_spec right v vo vg ps be bo ba bg bs hvg f) i s0 c0 w0 hi hwf hf h

end Go.Proofs.Ytaiohhcjbdjgfaa
