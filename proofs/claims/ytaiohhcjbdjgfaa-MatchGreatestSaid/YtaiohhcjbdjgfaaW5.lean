/- The walks. No condition. -/
import Derived.Test.YtaiohhcjbdjgfaaChecked
import Derived.Test.YtaiohhcjbdjgfaaGwCut
import Derived.Test.YtaiohhcjbdjgfaaFacts
import Derived.Test.YtaiohhcjbdjgfaaPlain
import Derived.Test.YtaiohhcjbdjgfaaW4
namespace Go.Proofs.Ytaiohhcjbdjgfaa
open Go Go.Gw
set_option linter.unusedVariables false
set_option linter.unusedSimpArgs false

/-- what the search for all that can be reached does: f rounds deep at most -/
def ReachSpec (f : Nat) (right : Int) (D : Int → Prop) (v vo : Value) (ps : List (Value × List Int)) (owner : List Int) (bl be bq br bo ml mr : Nat) : Prop := ∀ {M : Nat → Prop} {u0 : World} {l : List Atom} (i : Nat) (s0 : RS) (k1 k2 : Nat) (w0 : World), i < ps.length → (∀ n ∈ rowG (gr ps) i, D n) → RWF (gr ps) right s0 → (∀ n ∈ s0.reached, D n) → right.toNat < f + s0.reached.length →
    HSat M u0 (MapA ml (fun n : Int => .int .i64 n) (fun b : Bool => .bool b) (memS (s0.left)) k1 :: MapA mr (fun n : Int => .int .i64 n) (fun b : Bool => .bool b) (memS (s0.reached)) k2 :: Atom.ro (Cel bl 44 [.map (some ml)]) :: Atom.ro (Cel be 22 [v]) :: Atom.ro (Cel bq 44 [.map (some mr)]) :: Atom.ro (Cel br 48 [.func (.func 31) #[] #[.pointer (some ⟨bl, 0, none⟩), .pointer (some ⟨be, 0, none⟩), .pointer (some ⟨bq, 0, none⟩), .pointer (some ⟨br, 0, none⟩), .pointer (some ⟨bo, 0, none⟩)]]) :: Atom.ro (Cel bo 23 [vo]) :: Atom.ro (OSl 3 vo 1 encI owner) :: RowsS 1 encI ps :: Sl v 1 encRow ps :: l) w0 → Ret Try.prog 31 #[.int .i64 (i : Int), .pointer (some ⟨bl, 0, none⟩), .pointer (some ⟨be, 0, none⟩), .pointer (some ⟨bq, 0, none⟩), .pointer (some ⟨br, 0, none⟩), .pointer (some ⟨bo, 0, none⟩)] w0 (fun u w => u = .tuple #[] ∧ ∃ c1 c2, HSat M u0 (MapA ml (fun n : Int => .int .i64 n) (fun b : Bool => .bool b) (memS ((reach (gr ps) owner f (i : Int) s0).left)) c1 :: MapA mr (fun n : Int => .int .i64 n) (fun b : Bool => .bool b) (memS ((reach (gr ps) owner f (i : Int) s0).reached)) c2 :: Atom.ro (Cel bl 44 [.map (some ml)]) :: Atom.ro (Cel be 22 [v]) :: Atom.ro (Cel bq 44 [.map (some mr)]) :: Atom.ro (Cel br 48 [.func (.func 31) #[] #[.pointer (some ⟨bl, 0, none⟩), .pointer (some ⟨be, 0, none⟩), .pointer (some ⟨bq, 0, none⟩), .pointer (some ⟨br, 0, none⟩), .pointer (some ⟨bo, 0, none⟩)]]) :: Atom.ro (Cel bo 23 [vo]) :: Atom.ro (OSl 3 vo 1 encI owner) :: RowsS 1 encI ps :: Sl v 1 encRow ps :: l) w)
set_option maxHeartbeats 2000000 in
/-- foyer/match.Match$2 -/
theorem reach_step {M : Nat → Prop} {u0 : World} {l : List Atom} (f : Nat) (right : Int) (D : Int → Prop) (v vo : Value) (ps : List (Value × List Int)) (owner : List Int) (bl be bq br bo ml mr : Nat) (hvg : validG (gr ps) right = true) (hol : owner.length = right.toNat) (hD : Closed (gr ps) owner D) (hDr : ∀ n, D n → 0 ≤ n ∧ n < right) (hown : ∀ n : Nat, atI owner n < (gr ps).length) (ih : ReachSpec f right D v vo ps owner bl be bq br bo ml mr) (i : Nat) (s0 : RS) (k1 k2 : Nat) (w0 : World) (hi0 : i < ps.length) (hnD : ∀ n ∈ rowG (gr ps) i, D n) (hwf0 : RWF (gr ps) right s0) (hsD0 : ∀ n ∈ s0.reached, D n) (hf0 : right.toNat < f + 1 + s0.reached.length) (h0 : HSat M u0 (MapA ml (fun n : Int => .int .i64 n) (fun b : Bool => .bool b) (memS (s0.left)) k1 :: MapA mr (fun n : Int => .int .i64 n) (fun b : Bool => .bool b) (memS (s0.reached)) k2 :: Atom.ro (Cel bl 44 [.map (some ml)]) :: Atom.ro (Cel be 22 [v]) :: Atom.ro (Cel bq 44 [.map (some mr)]) :: Atom.ro (Cel br 48 [.func (.func 31) #[] #[.pointer (some ⟨bl, 0, none⟩), .pointer (some ⟨be, 0, none⟩), .pointer (some ⟨bq, 0, none⟩), .pointer (some ⟨br, 0, none⟩), .pointer (some ⟨bo, 0, none⟩)]]) :: Atom.ro (Cel bo 23 [vo]) :: Atom.ro (OSl 3 vo 1 encI owner) :: RowsS 1 encI ps :: Sl v 1 encRow ps :: l) w0) :
    Ret Try.prog 31 #[.int .i64 (i : Int), .pointer (some ⟨bl, 0, none⟩), .pointer (some ⟨be, 0, none⟩), .pointer (some ⟨bq, 0, none⟩), .pointer (some ⟨br, 0, none⟩), .pointer (some ⟨bo, 0, none⟩)] w0 (fun u w => u = .tuple #[] ∧ ∃ c1 c2, HSat M u0 (MapA ml (fun n : Int => .int .i64 n) (fun b : Bool => .bool b) (memS ((reach (gr ps) owner (f + 1) (i : Int) s0).left)) c1 :: MapA mr (fun n : Int => .int .i64 n) (fun b : Bool => .bool b) (memS ((reach (gr ps) owner (f + 1) (i : Int) s0).reached)) c2 :: Atom.ro (Cel bl 44 [.map (some ml)]) :: Atom.ro (Cel be 22 [v]) :: Atom.ro (Cel bq 44 [.map (some mr)]) :: Atom.ro (Cel br 48 [.func (.func 31) #[] #[.pointer (some ⟨bl, 0, none⟩), .pointer (some ⟨be, 0, none⟩), .pointer (some ⟨bq, 0, none⟩), .pointer (some ⟨br, 0, none⟩), .pointer (some ⟨bo, 0, none⟩)]]) :: Atom.ro (Cel bo 23 [vo]) :: Atom.ro (OSl 3 vo 1 encI owner) :: RowsS 1 encI ps :: Sl v 1 encRow ps :: l) w) := by
  refine ret_of_wp (nt := 36) Try.func31 rfl rfl rfl (fl := [(0, .int .i64 (i : Int)), (1, .pointer (some ⟨bl, 0, none⟩)), (2, .pointer (some ⟨be, 0, none⟩)), (3, .pointer (some ⟨bq, 0, none⟩)), (4, .pointer (some ⟨br, 0, none⟩)), (5, .pointer (some ⟨bo, 0, none⟩))]) rfl (fun a S => ?_)
  have H := h0
  have hgl := gr_len ps
  have hrw := gr_row ps hi0
  have hvp := validG_parts hvg
  have hlv := (H.sl v).len
  have hrl := (H.rwsS (sz := 1) (enc := encI) ps _ (List.getElem_mem hi0)).len
  refine g_seq ?_
  refine g_seq ?_
  -- region 0 match.go:55
  refine g_region ?_
  refine wl_of (op_y (wn rfl) rfl rfl S (y_load rfl Fsca44 S H rfl rfl) fun a S => ?_)
  refine wl_of (op_y (wn rfl) rfl rfl S (y_move rfl S rfl) fun a S => ?_)
  refine wl_of (op_y (wn rfl) rfl rfl S (y_lookup _ (false) rfl Try.underlying44 Finf4 S H rfl (keyOK_int Try.underlying3) (by exact rfl) (by exact rfl)) fun a S => ?_)
  refine gl_nil ?_
  refine n_then ?_
  -- cond 1
  refine c_if S rfl (fun h1 => ?_) (fun h1 => ?_)
  · have h1p := h1; try simp only [Option.isNone_some, Option.isNone_none, Option.isSome_some, Option.isSome_none, false_or, or_false, true_and, and_true, decide_eq_true_eq, decide_eq_false_iff_not, Bool.or_eq_true, Bool.and_eq_true, Bool.or_eq_false_iff, Bool.and_eq_false_iff, Bool.not_eq_true', Bool.not_eq_false', bne_iff_ne, beq_iff_eq, beq_eq_false_iff_ne, bne_eq_false_iff_eq, ne_eq, Decidable.not_not, Int.not_lt, Int.not_le, gt_iff_lt, ge_iff_le, Bool.true_eq_false, Bool.false_eq_true, not_true_eq_false, not_false_eq_true] at h1p
    have hx0 : (i : Int) ∈ s0.left := by have := h1; rw [memS_get] at this; simpa using this
    refine g_ret ?_
    refine r_then (ret0 rfl S ?_)
    rw [reach_in _ _ _ _ _ hx0]; exact ⟨rfl, _, _, H⟩
  · have h1p := h1; try simp only [Option.isNone_some, Option.isNone_none, Option.isSome_some, Option.isSome_none, false_or, or_false, true_and, and_true, decide_eq_true_eq, decide_eq_false_iff_not, Bool.or_eq_true, Bool.and_eq_true, Bool.or_eq_false_iff, Bool.and_eq_false_iff, Bool.not_eq_true', Bool.not_eq_false', bne_iff_ne, beq_iff_eq, beq_eq_false_iff_ne, bne_eq_false_iff_eq, ne_eq, Decidable.not_not, Int.not_lt, Int.not_le, gt_iff_lt, ge_iff_le, Bool.true_eq_false, Bool.false_eq_true, not_true_eq_false, not_false_eq_true] at h1p
    have hx0 : (i : Int) ∉ s0.left := by have := h1; rw [memS_get] at this; simpa using this
    have hwf1 : RWF (gr ps) right { s0 with left := (i : Int) :: s0.left } := ⟨hwf0.nd, hwf0.rng, fun j hj => by rcases List.mem_cons.1 hj with rfl | hj; omega; exact hwf0.lft j hj, List.nodup_cons.2 ⟨hx0, hwf0.lnd⟩⟩
    refine g_skip ?_
    refine n_then ?_
    refine g_seq ?_
    -- region 1 match.go:58
    refine g_region ?_
    refine wl_of (op_y (wn rfl) rfl rfl S (y_load rfl Fsca44 S H rfl rfl) fun a S => ?_)
    refine wl_of (op_y (wn rfl) rfl rfl S (y_move rfl S rfl) fun a S => ?_)
    refine wl_of (op_mapUpdate _ (_) (wn rfl) rfl rfl Try.underlying44 S H rfl (keyOK_int Try.underlying3) (by exact rfl) (by exact rfl) fun a w S H => ?_)
    refine gl_nil ?_
    refine n_then ?_
    have S := ((((S.nil.cons S 5 rfl).cons S 4 rfl).cons S 3 rfl).cons S 2 rfl).cons S 0 rfl
    refine g_seq ?_
    -- region 2 match.go:59
    refine g_region ?_
    refine wl_of (op_y (wn rfl) rfl rfl S (y_load rfl Fsca22 S H rfl rfl) fun a S => ?_)
    refine wl_of (op_y (wn rfl) rfl rfl S (y_move rfl S rfl) fun a S => ?_)
    refine wl_of (op_y (wn rfl) rfl rfl S (y_iaddrn rfl Try.underlying22 Fsiz23 S H rfl rfl (by first | assumption | omega | (simp only [List.length_append, List.length_take, List.length_drop, List.length_replicate, List.length_set, List.length_map, List.length_cons, List.length_nil]; omega))) fun a S => ?_)
    refine wl_of (op_y (wn rfl) rfl rfl S (y_loads _ rfl Fsca23 S H rfl (by first | assumption | omega | (simp only [List.length_append, List.length_take, List.length_drop, List.length_replicate, List.length_set, List.length_map, List.length_cons, List.length_nil]; omega)) rfl) fun a S => ?_)
    refine wl_of (op_y (wn rfl) rfl rfl S (y_lens rfl Try.underlying23 S H rfl) fun a S => ?_)
    refine wl_of (op_y (wn rfl) rfl rfl S (y_move rfl S rfl) fun a S => ?_)
    refine gl_nil ?_
    refine n_then ?_
    have S := (((((S.nil.cons S 5 rfl).cons S 4 rfl).cons S 3 rfl).cons S 17 rfl).cons S 18 rfl).cons S 19 rfl
    refine g_block ?_
    have SU := ((((S.nil.cons S 5 rfl).cons S 4 rfl).cons S 3 rfl).cons S 17 rfl).cons S 18 rfl
    refine loopW (X := Nat) SU (fun k => [(19, .int .i64 (k : Int))]) (fun k w => k ≤ ps[i].2.length ∧ ∃ s c1 c2, reachRow (reach (gr ps) owner f) owner ps[i].2 { s0 with left := (i : Int) :: s0.left } = reachRow (reach (gr ps) owner f) owner (ps[i].2.drop k) s ∧ RWF (gr ps) right s ∧ (∀ n ∈ s.reached, D n) ∧ right.toNat < f + 1 + s.reached.length ∧ HSat M u0 (MapA ml (fun n : Int => .int .i64 n) (fun b : Bool => .bool b) (memS (s.left)) c1 :: MapA mr (fun n : Int => .int .i64 n) (fun b : Bool => .bool b) (memS (s.reached)) c2 :: Atom.ro (Cel bl 44 [.map (some ml)]) :: Atom.ro (Cel be 22 [v]) :: Atom.ro (Cel bq 44 [.map (some mr)]) :: Atom.ro (Cel br 48 [.func (.func 31) #[] #[.pointer (some ⟨bl, 0, none⟩), .pointer (some ⟨be, 0, none⟩), .pointer (some ⟨bq, 0, none⟩), .pointer (some ⟨br, 0, none⟩), .pointer (some ⟨bo, 0, none⟩)]]) :: Atom.ro (Cel bo 23 [vo]) :: Atom.ro (OSl 3 vo 1 encI owner) :: RowsS 1 encI ps :: Sl v 1 encRow ps :: l) w) (fun k => ps[i].2.length - k) 0 (S.nil.cons S 19 rfl) (⟨by omega, { s0 with left := (i : Int) :: s0.left }, _, _, rfl, hwf1, hsD0, hf0, H⟩) (fun k a w S hW => ?_)
    simp only [List.cons_append, List.nil_append] at S
    obtain ⟨hk, s, c1, c2, hau, hwf, hsD, hfu, H⟩ := hW
    refine g_seq ?_
    -- region 3 match.go:59
    refine g_region ?_
    refine wl_of (op_y (wn rfl) rfl rfl S (y_bin rfl S rfl rfl rfl) fun a S => ?_)
    refine gl_nil ?_
    refine n_then ?_
    refine g_seq ?_
    -- cond 2
    refine c_if S rfl (fun h2 => ?_) (fun h2 => ?_)
    · have h2p := h2; try simp only [Option.isNone_some, Option.isNone_none, Option.isSome_some, Option.isSome_none, false_or, or_false, true_and, and_true, decide_eq_true_eq, decide_eq_false_iff_not, Bool.or_eq_true, Bool.and_eq_true, Bool.or_eq_false_iff, Bool.and_eq_false_iff, Bool.not_eq_true', Bool.not_eq_false', bne_iff_ne, beq_iff_eq, beq_eq_false_iff_ne, bne_eq_false_iff_eq, ne_eq, Decidable.not_not, Int.not_lt, Int.not_le, gt_iff_lt, ge_iff_le, Bool.true_eq_false, Bool.false_eq_true, not_true_eq_false, not_false_eq_true] at h2p
      have hkl : k < ps[i].2.length := by omega
      obtain ⟨n, hn⟩ : ∃ n, n = ps[i].2[k] := ⟨_, rfl⟩
      have hnm : n ∈ rowG (gr ps) i := by rw [hrw, hn]; exact List.getElem_mem _
      have hnr := hvp.2.2.2 i n hnm
      have hnDn := hnD n hnm
      have hrd : ps[i].2.drop k = n :: ps[i].2.drop (k + 1) := by rw [hn]; exact List.drop_eq_getElem_cons hkl
      have hatn : atI owner n.toNat = owner[n.toNat] := atI_eq (by omega)
      have hon := hown n.toNat
      refine g_skip ?_
      refine n_then ?_
      refine g_seq ?_
      refine g_block ?_
      refine g_seq ?_
      -- region 4 match.go:59
      refine g_region ?_
      refine wl_of (op_y (wn rfl) rfl rfl S (y_iaddrn rfl Try.underlying23 Fsiz3 S H rfl rfl (by first | assumption | omega | (simp only [List.length_append, List.length_take, List.length_drop, List.length_replicate, List.length_set, List.length_map, List.length_cons, List.length_nil]; omega))) fun a S => ?_)
      refine wl_of (op_y (wn rfl) rfl rfl S (y_loads _ rfl Fsca3 S H rfl (by first | assumption | omega | (simp only [List.length_append, List.length_take, List.length_drop, List.length_replicate, List.length_set, List.length_map, List.length_cons, List.length_nil]; omega)) rfl) fun a S => ?_)
      rw [← hn] at S
      refine wl_of (op_y (wn rfl) rfl rfl S (y_assign rfl S rfl) fun a S => ?_)
      refine gl_nil ?_
      refine n_then ?_
      refine g_seq ?_
      -- region 5 match.go:60
      refine g_region ?_
      refine wl_of (op_y (wn rfl) rfl rfl S (y_load rfl Fsca44 S H rfl rfl) fun a S => ?_)
      refine wl_of (op_y (wn rfl) rfl rfl S (y_move rfl S rfl) fun a S => ?_)
      refine wl_of (op_y (wn rfl) rfl rfl S (y_lookup _ (false) rfl Try.underlying44 Finf4 S H rfl (keyOK_int Try.underlying3) (by exact rfl) (by exact rfl)) fun a S => ?_)
      refine wl_of (op_y (wn rfl) rfl rfl S (y_not rfl S rfl) fun a S => ?_)
      refine gl_nil ?_
      refine n_then ?_
      -- cond 3 (both ways go on)
      refine c_if S rfl (fun h3 => ?_) (fun h3 => ?_)
      · have h3p := h3; try simp only [Option.isNone_some, Option.isNone_none, Option.isSome_some, Option.isSome_none, false_or, or_false, true_and, and_true, decide_eq_true_eq, decide_eq_false_iff_not, Bool.or_eq_true, Bool.and_eq_true, Bool.or_eq_false_iff, Bool.and_eq_false_iff, Bool.not_eq_true', Bool.not_eq_false', bne_iff_ne, beq_iff_eq, beq_eq_false_iff_ne, bne_eq_false_iff_eq, ne_eq, Decidable.not_not, Int.not_lt, Int.not_le, gt_iff_lt, ge_iff_le, Bool.true_eq_false, Bool.false_eq_true, not_true_eq_false, not_false_eq_true] at h3p
        have hx : n ∉ s.reached := by have := h3; rw [memS_get] at this; simpa using this
        have htk := hD.taken n.toNat (by rw [Int.toNat_of_nonneg hnr.1]; exact hnDn)
        have hall := hD.all n.toNat (by rw [Int.toNat_of_nonneg hnr.1]; exact hnDn)
        obtain ⟨o, ho⟩ : ∃ o : Nat, owner[n.toNat] = o := ⟨owner[n.toNat].toNat, by omega⟩
        rw [hatn, ho, Int.toNat_natCast] at hall
        have hwf2 : RWF (gr ps) right { s with reached := n :: s.reached } := ⟨List.nodup_cons.2 ⟨hx, hwf.nd⟩, fun m hm => by rcases List.mem_cons.1 hm with rfl | hm; exact hnr; exact hwf.rng m hm, hwf.lft, hwf.lnd⟩
        have hsD2 : ∀ m ∈ n :: s.reached, D m := fun m hm => by rcases List.mem_cons.1 hm with rfl | hm; exact hnDn; exact hsD m hm
        refine g_seq ?_
        -- region 6 match.go:61
        refine g_region ?_
        refine wl_of (op_y (wn rfl) rfl rfl S (y_load rfl Fsca44 S H rfl rfl) fun a S => ?_)
        refine wl_of (op_y (wn rfl) rfl rfl S (y_move rfl S rfl) fun a S => ?_)
        refine wl_of (op_mapUpdate _ (_) (wn rfl) rfl rfl Try.underlying44 S H rfl (keyOK_int Try.underlying3) (by exact rfl) (by exact rfl) fun a w S H => ?_)
        refine gl_nil ?_
        refine n_then ?_
        -- region 7 DRAWS match.go:62
        refine region_st (loud := [5]) (tails := [5]) (free := []) [0, 1, 2, 3, 4, 5] [] Fmo (by kernel_rfl) (by kernel_rfl) rfl H ?_
        refine m_w rfl rfl (wn rfl) rfl rfl S (fun w H => y_load rfl Fsca48 S H rfl rfl) fun a S => ?_
        refine m_w rfl rfl (wn rfl) rfl rfl S (fun w H => y_load rfl Fsca23 S H rfl rfl) fun a S => ?_
        refine m_w rfl rfl (wn rfl) rfl rfl S (fun w H => y_move rfl S rfl) fun a S => ?_
        refine m_w rfl rfl (wn rfl) rfl rfl S (fun w H => y_iaddrs rfl Try.underlying23 Fsiz3 S H rfl rfl (by first | assumption | omega | (simp only [List.length_append, List.length_take, List.length_drop, List.length_replicate, List.length_set, List.length_map, List.length_cons, List.length_nil]; omega))) fun a S => ?_
        refine m_loads _ rfl rfl (wn rfl) rfl rfl S rfl Fsca3 rfl (by first | assumption | omega | (simp only [List.length_append, List.length_take, List.length_drop, List.length_replicate, List.length_set, List.length_map, List.length_cons, List.length_nil]; omega)) rfl fun a S => ?_
        rw [ho] at S
        refine m_l rfl rfl (fun w H => op_call (wn rfl) rfl rfl S (co_value rfl Try.call31 S rfl rfl) (ih o { s with reached := n :: s.reached } _ _ _ (by omega) hall hwf2 hsD2 (by simp only [List.length_cons]; omega) H) fun v w hc a S => ?_)
        obtain ⟨rfl, c3, c4, H⟩ := hc
        obtain ⟨ho1, ho2, ho3, ho4⟩ := reach_law hD hDr hown f o { s with reached := n :: s.reached } (by omega) (by rw [Int.toNat_natCast]; exact hall) hwf2 hsD2 (by simp only [List.length_cons]; omega)
        have hln2 := ho1.len
        simp only [List.length_cons] at hln2
        refine m_tail H rfl ?_
        refine m_nil (fun w H => ?_)
        refine n_block ?_
        refine n_then ?_
        -- region 8 match.go:59
        refine g_region ?_
        refine wl_of (op_y (wn rfl) rfl rfl S (y_add rfl S rfl rfl (by omega)) fun a S => ?_)
        refine wl_of (op_y (wn rfl) rfl rfl S (y_move rfl S rfl) fun a S => ?_)
        refine gl_nil ?_
        refine n_then ?_
        first
        | exact ⟨k + 1, S.nil.cons S 19 rfl, ((((S.nil.cons S 5 rfl).cons S 4 rfl).cons S 3 rfl).cons S 17 rfl).cons S 18 rfl, ⟨by omega, s, c1, c2, by rw [hau, hrd, reachRow, if_pos hx], hwf, hsD, hfu, H⟩, by omega⟩
        | exact ⟨k + 1, S.nil.cons S 19 rfl, ((((S.nil.cons S 5 rfl).cons S 4 rfl).cons S 3 rfl).cons S 17 rfl).cons S 18 rfl, ⟨by omega, _, c3, c4, by rw [hau, hrd, reachRow, if_neg hx, hatn, ho], ho1.wf, ho4, by omega, H⟩, by omega⟩
      · have h3p := h3; try simp only [Option.isNone_some, Option.isNone_none, Option.isSome_some, Option.isSome_none, false_or, or_false, true_and, and_true, decide_eq_true_eq, decide_eq_false_iff_not, Bool.or_eq_true, Bool.and_eq_true, Bool.or_eq_false_iff, Bool.and_eq_false_iff, Bool.not_eq_true', Bool.not_eq_false', bne_iff_ne, beq_iff_eq, beq_eq_false_iff_ne, bne_eq_false_iff_eq, ne_eq, Decidable.not_not, Int.not_lt, Int.not_le, gt_iff_lt, ge_iff_le, Bool.true_eq_false, Bool.false_eq_true, not_true_eq_false, not_false_eq_true] at h3p
        have hx : n ∈ s.reached := by have := h3; rw [memS_get] at this; simpa using this
        refine g_skip ?_
        refine n_block ?_
        refine n_then ?_
        -- region 8 match.go:59
        refine g_region ?_
        refine wl_of (op_y (wn rfl) rfl rfl S (y_add rfl S rfl rfl (by omega)) fun a S => ?_)
        refine wl_of (op_y (wn rfl) rfl rfl S (y_move rfl S rfl) fun a S => ?_)
        refine gl_nil ?_
        refine n_then ?_
        first
        | exact ⟨k + 1, S.nil.cons S 19 rfl, ((((S.nil.cons S 5 rfl).cons S 4 rfl).cons S 3 rfl).cons S 17 rfl).cons S 18 rfl, ⟨by omega, s, c1, c2, by rw [hau, hrd, reachRow, if_pos hx], hwf, hsD, hfu, H⟩, by omega⟩
        | exact ⟨k + 1, S.nil.cons S 19 rfl, ((((S.nil.cons S 5 rfl).cons S 4 rfl).cons S 3 rfl).cons S 17 rfl).cons S 18 rfl, ⟨by omega, _, c3, c4, by rw [hau, hrd, reachRow, if_neg hx, hatn, ho], ho1.wf, ho4, by omega, H⟩, by omega⟩
    · have h2p := h2; try simp only [Option.isNone_some, Option.isNone_none, Option.isSome_some, Option.isSome_none, false_or, or_false, true_and, and_true, decide_eq_true_eq, decide_eq_false_iff_not, Bool.or_eq_true, Bool.and_eq_true, Bool.or_eq_false_iff, Bool.and_eq_false_iff, Bool.not_eq_true', Bool.not_eq_false', bne_iff_ne, beq_iff_eq, beq_eq_false_iff_ne, bne_eq_false_iff_eq, ne_eq, Decidable.not_not, Int.not_lt, Int.not_le, gt_iff_lt, ge_iff_le, Bool.true_eq_false, Bool.false_eq_true, not_true_eq_false, not_false_eq_true] at h2p
      refine g_exit ?_
      refine x_then (x_then (x_eq ?_))
      refine ret0n rfl S ?_
      rw [reach_succ ps owner f i s0 hi0 hx0, hau, List.drop_of_length_le (by omega)]; exact ⟨rfl, _, _, H⟩

theorem reach_spec (right : Int) (D : Int → Prop) (v vo : Value) (ps : List (Value × List Int)) (owner : List Int) (bl be bq br bo ml mr : Nat) (hvg : validG (gr ps) right = true) (hol : owner.length = right.toNat) (hD : Closed (gr ps) owner D) (hDr : ∀ n, D n → 0 ≤ n ∧ n < right) (hown : ∀ n : Nat, atI owner n < (gr ps).length) : ∀ f, ReachSpec f right D v vo ps owner bl be bq br bo ml mr
  | 0 => fun i s0 k1 k2 w0 hi hn hwf hs hf h => by have := hwf.few; omega
  | f + 1 => fun i s0 k1 k2 w0 hi hn hwf hs hf h => reach_step f right D v vo ps owner bl be bq br bo ml mr hvg hol hD hDr hown (reach_spec right D v vo ps owner bl be bq br bo ml mr hvg hol hD hDr hown f) i s0 k1 k2 w0 hi hn hwf hs hf h

end Go.Proofs.Ytaiohhcjbdjgfaa
